/- Generated: each function's run in the abstract machine is its shallow function. -/
import Derived.Test.YtacchdeihafmnaaDoorCt
import Derived.Test.YtacchdeihafmnaaDoorAmEnv
import Derived.KernelRfl
set_option linter.unusedVariables false
set_option linter.unusedSimpArgs false
namespace Go.Proofs.YtacchdeihafmnaaDoor
open Go.Am
set_option maxRecDepth 100000
noncomputable def d7 (q : Res) : Option (Bool) := match q with
  | (.dat T0 x0, []) => bif Nat.beq T0 4 then some x0.toBool else none
  | _ => none
theorem d7_sim {b : Res} {r : Bool} (h : d7 b = some r) : Sim Tryd.prog b ((.dat 4 (.bool r)), []) := by
  unfold d7 at h
  split at h
  · obtain ⟨hc, h2⟩ := bif_some h
    cases h2
    have e0 := beq_eq hc
    subst e0
    exact Sim.of (.of (.dat (.bool Tryd.underlying4)) rfl rfl) .nil
  · cases h
noncomputable def e7 (J : Nat → Nat → Nat → St → Option (Bool) → Option (Bool)) (m : Nat) (p ms : List Nat) (σ : St) := evAt Tryd.prog env (ct m) J (m + 1) 17 27 Tryd.f17 d7 p ms σ
noncomputable def l7 (J : Nat → Nat → Nat → St → Option (Bool) → Option (Bool)) (m : Nat) (p ms : List Nat) (M : Nat) (σ : St) := loopAt Tryd.prog env (ct m) J (m + 1) 17 27 Tryd.f17 d7 p ms M σ
theorem law03_SameList_j4_eq (m : Nat) (M2 : Nat) (rec2 : List Dt → List Dt → Int → Int → Option (Bool)) (h2 : ∀ (x0 : List Dt) (x1 : List Dt) (x2 : Int) (x3 : Int), l7 jn m [1, 1, 0, 1, 0] [] M2 ⟨tsOf [(0, (.dat 27 (.lst x0))), (1, (.dat 27 (.lst x1))), (12, (.dat 3 (.int x2))), (13, (.dat 3 (.int x3)))], [], 0⟩ = rec2 x0 x1 x2 x3) (x0 : List Dt) (x1 : List Dt) (x2 : Int) (x3 : Int) : e7 jn m [1, 1, 0, 1, 0, 0, 1, 1, 1] [M2] ⟨tsOf [(0, (.dat 27 (.lst x0))), (1, (.dat 27 (.lst x1))), (12, (.dat 3 (.int x2))), (13, (.dat 3 (.int x3)))], [], 0⟩ = law03_SameList_j4 m (law03_Same m) rec2 x0 x1 x2 x3 := by
  have h : ∀ J, e7 J m [1, 1, 0, 1, 0, 0, 1, 1, 1] [M2] ⟨tsOf [(0, (.dat 27 (.lst x0))), (1, (.dat 27 (.lst x1))), (12, (.dat 3 (.int x2))), (13, (.dat 3 (.int x3)))], [], 0⟩ =
    (J 1 4 M2 ⟨tsOf [(0, (.dat 27 (.lst x0))), (1, (.dat 27 (.lst x1))), (12, (.dat 3 (.int x2))), (13, (.dat 3 (.int (IntKind.wrap IntKind.i64 (x3 + (1 : Int))))))], [], 0⟩ (l7 J m [1, 1, 0, 1, 0] [] M2 ⟨tsOf [(0, (.dat 27 (.lst x0))), (1, (.dat 27 (.lst x1))), (12, (.dat 3 (.int x2))), (13, (.dat 3 (.int (IntKind.wrap IntKind.i64 (x3 + (1 : Int))))))], [], 0⟩)) := fun J => by kernel_rfl
  exact (h jn).trans (by
    simp only [jn_eq, h2]
    rfl)
theorem law03_SameList_j3_eq (m : Nat) (M2 : Nat) (rec2 : List Dt → List Dt → Int → Int → Option (Bool)) (h2 : ∀ (x0 : List Dt) (x1 : List Dt) (x2 : Int) (x3 : Int), l7 jn m [1, 1, 0, 1, 0] [] M2 ⟨tsOf [(0, (.dat 27 (.lst x0))), (1, (.dat 27 (.lst x1))), (12, (.dat 3 (.int x2))), (13, (.dat 3 (.int x3)))], [], 0⟩ = rec2 x0 x1 x2 x3) (x0 : List Dt) (x1 : List Dt) (x2 : Int) (x3 : Int) : e7 jn m [1, 1, 0, 1, 0, 0, 1, 1] [M2] ⟨tsOf [(0, (.dat 27 (.lst x0))), (1, (.dat 27 (.lst x1))), (12, (.dat 3 (.int x2))), (13, (.dat 3 (.int x3)))], [], 0⟩ = law03_SameList_j3 m (law03_Same m) rec2 x0 x1 x2 x3 := by
  have h : ∀ J, e7 J m [1, 1, 0, 1, 0, 0, 1, 1] [M2] ⟨tsOf [(0, (.dat 27 (.lst x0))), (1, (.dat 27 (.lst x1))), (12, (.dat 3 (.int x2))), (13, (.dat 3 (.int x3)))], [], 0⟩ =
    ((idx x0 x3).bind fun v0 =>
      ((idx x1 x3).bind fun v1 =>
        ((law03_Same m v0 v1).bind fun r2 =>
          (bif (Bool.not r2) then
            some Bool.false
          else
            (J 0 8 0 ⟨tsOf [(0, (.dat 27 (.lst x0))), (1, (.dat 27 (.lst x1))), (12, (.dat 3 (.int x2))), (13, (.dat 3 (.int x3)))], [], 0⟩ (e7 J m [1, 1, 0, 1, 0, 0, 1, 1, 1] [M2] ⟨tsOf [(0, (.dat 27 (.lst x0))), (1, (.dat 27 (.lst x1))), (12, (.dat 3 (.int x2))), (13, (.dat 3 (.int x3)))], [], 0⟩)))))) := fun J => by kernel_rfl
  exact (h jn).trans (by
    simp only [jn_eq, law03_SameList_j4_eq m M2 rec2 h2]
    rfl)
theorem law03_SameList_j5_eq (m : Nat) : e7 jn m [1, 1, 1] [] ⟨tsOf [], [], 0⟩ = law03_SameList_j5 m (law03_Same m) := by
  have h : ∀ J, e7 J m [1, 1, 1] [] ⟨tsOf [], [], 0⟩ =
    some Bool.true := fun J => by kernel_rfl
  exact (h jn).trans (rfl)
theorem law03_SameList_l2_eq (m : Nat) : ∀ (M2 : Nat) (x0 : List Dt) (x1 : List Dt) (x2 : Int) (x3 : Int), l7 jn m [1, 1, 0, 1, 0] [] M2 ⟨tsOf [(0, (.dat 27 (.lst x0))), (1, (.dat 27 (.lst x1))), (12, (.dat 3 (.int x2))), (13, (.dat 3 (.int x3)))], [], 0⟩ = law03_SameList_l2 m (law03_Same m) M2 x0 x1 x2 x3
  | 0, _, _, _, _ => rfl
  | M2 + 1, x0, x1, x2, x3 => by
    have h : ∀ J, l7 J m [1, 1, 0, 1, 0] [] (M2 + 1) ⟨tsOf [(0, (.dat 27 (.lst x0))), (1, (.dat 27 (.lst x1))), (12, (.dat 3 (.int x2))), (13, (.dat 3 (.int x3)))], [], 0⟩ =
    (bif (decide (x3 < x2)) then
      (J 0 5 0 ⟨tsOf [(0, (.dat 27 (.lst x0))), (1, (.dat 27 (.lst x1))), (12, (.dat 3 (.int x2))), (13, (.dat 3 (.int x3)))], [], 0⟩ (e7 J m [1, 1, 0, 1, 0, 0, 1, 1] [M2] ⟨tsOf [(0, (.dat 27 (.lst x0))), (1, (.dat 27 (.lst x1))), (12, (.dat 3 (.int x2))), (13, (.dat 3 (.int x3)))], [], 0⟩))
    else
      (J 0 9 0 ⟨tsOf [], [], 0⟩ (e7 J m [1, 1, 1] [] ⟨tsOf [], [], 0⟩))) := fun J => by kernel_rfl
    refine (h jn).trans ?_
    simp only [jn_eq, law03_SameList_j3_eq m M2 (law03_SameList_l2 m (law03_Same m) M2) (fun x0 x1 x2 x3 => law03_SameList_l2_eq m M2 x0 x1 x2 x3), law03_SameList_j5_eq m]
    rfl
theorem law03_SameList_j1_eq (m : Nat) (x0 : List Dt) (x1 : List Dt) (x2 : Int) (x3 : Int) : e7 jn m [1, 1, 0, 1] [] ⟨tsOf [(0, (.dat 27 (.lst x0))), (1, (.dat 27 (.lst x1))), (12, (.dat 3 (.int x2))), (13, (.dat 3 (.int x3)))], [], 0⟩ = law03_SameList_j1 m (law03_Same m) x0 x1 x2 x3 := by
  have h : ∀ J, e7 J m [1, 1, 0, 1] [] ⟨tsOf [(0, (.dat 27 (.lst x0))), (1, (.dat 27 (.lst x1))), (12, (.dat 3 (.int x2))), (13, (.dat 3 (.int x3)))], [], 0⟩ =
    (J 1 4 (Nat.succ m) ⟨tsOf [(0, (.dat 27 (.lst x0))), (1, (.dat 27 (.lst x1))), (12, (.dat 3 (.int x2))), (13, (.dat 3 (.int x3)))], [], 0⟩ (l7 J m [1, 1, 0, 1, 0] [] (Nat.succ m) ⟨tsOf [(0, (.dat 27 (.lst x0))), (1, (.dat 27 (.lst x1))), (12, (.dat 3 (.int x2))), (13, (.dat 3 (.int x3)))], [], 0⟩)) := fun J => by kernel_rfl
  exact (h jn).trans (by
    simp only [jn_eq, law03_SameList_l2_eq m]
    rfl)
theorem law03_SameList_j0_eq (m : Nat) (x0 : List Dt) (x1 : List Dt) : e7 jn m [1, 1] [] ⟨tsOf [(0, (.dat 27 (.lst x0))), (1, (.dat 27 (.lst x1)))], [], 0⟩ = law03_SameList_j0 m (law03_Same m) x0 x1 := by
  have h : ∀ J, e7 J m [1, 1] [] ⟨tsOf [(0, (.dat 27 (.lst x0))), (1, (.dat 27 (.lst x1)))], [], 0⟩ =
    (J 0 4 0 ⟨tsOf [(0, (.dat 27 (.lst x0))), (1, (.dat 27 (.lst x1))), (12, (.dat 3 (.int (((List.length x0) : Nat) : Int)))), (13, (.dat 3 (.int (0 : Int))))], [], 0⟩ (e7 J m [1, 1, 0, 1] [] ⟨tsOf [(0, (.dat 27 (.lst x0))), (1, (.dat 27 (.lst x1))), (12, (.dat 3 (.int (((List.length x0) : Nat) : Int)))), (13, (.dat 3 (.int (0 : Int))))], [], 0⟩)) := fun J => by kernel_rfl
  exact (h jn).trans (by
    simp only [jn_eq, law03_SameList_j1_eq m]
    rfl)
theorem law03_SameList_eq (m : Nat) (a0 : List Dt) (a1 : List Dt) : e7 jn m [] [] ⟨[(.dat 27 (.lst a0)), (.dat 27 (.lst a1))], [], 0⟩ = law03_SameList (m + 1) a0 a1 := by
  have h : ∀ J, e7 J m [] [] ⟨[(.dat 27 (.lst a0)), (.dat 27 (.lst a1))], [], 0⟩ =
    (bif ((((List.length a0) : Nat) : Int) != (((List.length a1) : Nat) : Int)) then
      some Bool.false
    else
      (J 0 3 0 ⟨tsOf [(0, (.dat 27 (.lst a0))), (1, (.dat 27 (.lst a1)))], [], 0⟩ (e7 J m [1, 1] [] ⟨tsOf [(0, (.dat 27 (.lst a0))), (1, (.dat 27 (.lst a1)))], [], 0⟩))) := fun J => by kernel_rfl
  refine (h jn).trans ?_
  simp only [jn_eq, law03_SameList_j0_eq m]
  rfl
noncomputable def d15 (q : Res) : Option (Bool) := match q with
  | (.dat T0 x0, []) => bif Nat.beq T0 4 then some x0.toBool else none
  | _ => none
theorem d15_sim {b : Res} {r : Bool} (h : d15 b = some r) : Sim Tryd.prog b ((.dat 4 (.bool r)), []) := by
  unfold d15 at h
  split at h
  · obtain ⟨hc, h2⟩ := bif_some h
    cases h2
    have e0 := beq_eq hc
    subst e0
    exact Sim.of (.of (.dat (.bool Tryd.underlying4)) rfl rfl) .nil
  · cases h
noncomputable def e15 (J : Nat → Nat → Nat → St → Option (Bool) → Option (Bool)) (m : Nat) (p ms : List Nat) (σ : St) := evAt Tryd.prog env (ct m) J (m + 1) 33 75 Tryd.f33 d15 p ms σ
noncomputable def l15 (J : Nat → Nat → Nat → St → Option (Bool) → Option (Bool)) (m : Nat) (p ms : List Nat) (M : Nat) (σ : St) := loopAt Tryd.prog env (ct m) J (m + 1) 33 75 Tryd.f33 d15 p ms M σ
theorem law03_Same_j4_eq (m : Nat) (M2 : Nat) (rec2 : Int → Int → Dt → Dt → Option (Bool)) (h2 : ∀ (x0 : Int) (x1 : Int) (x2 : Dt) (x3 : Dt), l15 jn m [1, 1, 0, 1, 0] [] M2 ⟨tsOf [(2, (.ptr 0 [] 0)), (3, (.ptr 1 [] 0)), (36, (.dat 3 (.int x0))), (37, (.dat 3 (.int x1)))], [(.box 30 (.dat 30 x2)), (.box 30 (.dat 30 x3))], 0⟩ = rec2 x0 x1 x2 x3) (x0 : Int) (x1 : Int) (x2 : Dt) (x3 : Dt) : e15 jn m [1, 1, 0, 1, 0, 0, 1, 1, 1] [M2] ⟨tsOf [(2, (.ptr 0 [] 0)), (3, (.ptr 1 [] 0)), (36, (.dat 3 (.int x0))), (37, (.dat 3 (.int x1)))], [(.box 30 (.dat 30 x2)), (.box 30 (.dat 30 x3))], 0⟩ = law03_Same_j4 m (law03_SameList m) (law03_Same m) rec2 x0 x1 x2 x3 := by
  have h : ∀ J, e15 J m [1, 1, 0, 1, 0, 0, 1, 1, 1] [M2] ⟨tsOf [(2, (.ptr 0 [] 0)), (3, (.ptr 1 [] 0)), (36, (.dat 3 (.int x0))), (37, (.dat 3 (.int x1)))], [(.box 30 (.dat 30 x2)), (.box 30 (.dat 30 x3))], 0⟩ =
    (J 1 4 M2 ⟨tsOf [(2, (.ptr 0 [] 0)), (3, (.ptr 1 [] 0)), (36, (.dat 3 (.int x0))), (37, (.dat 3 (.int (IntKind.wrap IntKind.i64 (x1 + (1 : Int))))))], [(.box 30 (.dat 30 x2)), (.box 30 (.dat 30 x3))], 0⟩ (l15 J m [1, 1, 0, 1, 0] [] M2 ⟨tsOf [(2, (.ptr 0 [] 0)), (3, (.ptr 1 [] 0)), (36, (.dat 3 (.int x0))), (37, (.dat 3 (.int (IntKind.wrap IntKind.i64 (x1 + (1 : Int))))))], [(.box 30 (.dat 30 x2)), (.box 30 (.dat 30 x3))], 0⟩)) := fun J => by kernel_rfl
  exact (h jn).trans (by
    simp only [jn_eq, h2]
    rfl)
theorem law03_Same_j3_eq (m : Nat) (M2 : Nat) (rec2 : Int → Int → Dt → Dt → Option (Bool)) (h2 : ∀ (x0 : Int) (x1 : Int) (x2 : Dt) (x3 : Dt), l15 jn m [1, 1, 0, 1, 0] [] M2 ⟨tsOf [(2, (.ptr 0 [] 0)), (3, (.ptr 1 [] 0)), (36, (.dat 3 (.int x0))), (37, (.dat 3 (.int x1)))], [(.box 30 (.dat 30 x2)), (.box 30 (.dat 30 x3))], 0⟩ = rec2 x0 x1 x2 x3) (x0 : Int) (x1 : Int) (x2 : Dt) (x3 : Dt) : e15 jn m [1, 1, 0, 1, 0, 0, 1, 1] [M2] ⟨tsOf [(2, (.ptr 0 [] 0)), (3, (.ptr 1 [] 0)), (36, (.dat 3 (.int x0))), (37, (.dat 3 (.int x1)))], [(.box 30 (.dat 30 x2)), (.box 30 (.dat 30 x3))], 0⟩ = law03_Same_j3 m (law03_SameList m) (law03_Same m) rec2 x0 x1 x2 x3 := by
  have h : ∀ J, e15 J m [1, 1, 0, 1, 0, 0, 1, 1] [M2] ⟨tsOf [(2, (.ptr 0 [] 0)), (3, (.ptr 1 [] 0)), (36, (.dat 3 (.int x0))), (37, (.dat 3 (.int x1)))], [(.box 30 (.dat 30 x2)), (.box 30 (.dat 30 x3))], 0⟩ =
    ((idx (Dt.L x2 4) x1).bind fun v0 =>
      ((idx (Dt.L x3 4) x1).bind fun v1 =>
        (bif (Bool.not ((ByteArray.toList (Dt.S v0 0)) == (ByteArray.toList (Dt.S v1 0)))) then
          some Bool.false
        else
          ((idx (Dt.L x2 4) x1).bind fun v2 =>
            ((idx (Dt.L x3 4) x1).bind fun v3 =>
              ((law03_Same m (Dt.fld v2 1) (Dt.fld v3 1)).bind fun r4 =>
                (bif (Bool.not r4) then
                  some Bool.false
                else
                  (J 0 8 0 ⟨tsOf [(2, (.ptr 0 [] 0)), (3, (.ptr 1 [] 0)), (36, (.dat 3 (.int x0))), (37, (.dat 3 (.int x1)))], [(.box 30 (.dat 30 x2)), (.box 30 (.dat 30 x3))], 0⟩ (e15 J m [1, 1, 0, 1, 0, 0, 1, 1, 1] [M2] ⟨tsOf [(2, (.ptr 0 [] 0)), (3, (.ptr 1 [] 0)), (36, (.dat 3 (.int x0))), (37, (.dat 3 (.int x1)))], [(.box 30 (.dat 30 x2)), (.box 30 (.dat 30 x3))], 0⟩))))))))) := fun J => by kernel_rfl
  exact (h jn).trans (by
    simp only [jn_eq, law03_Same_j4_eq m M2 rec2 h2]
    rfl)
theorem law03_Same_j5_eq (m : Nat) (x0 : Dt) (x1 : Dt) : e15 jn m [1, 1, 1] [] ⟨tsOf [(2, (.ptr 0 [] 0)), (3, (.ptr 1 [] 0))], [(.box 30 (.dat 30 x0)), (.box 30 (.dat 30 x1))], 0⟩ = law03_Same_j5 m (law03_SameList m) (law03_Same m) x0 x1 := by
  have h : ∀ J, e15 J m [1, 1, 1] [] ⟨tsOf [(2, (.ptr 0 [] 0)), (3, (.ptr 1 [] 0))], [(.box 30 (.dat 30 x0)), (.box 30 (.dat 30 x1))], 0⟩ =
    ((law03_SameList m (Dt.L x0 3) (Dt.L x1 3)).bind fun r5 =>
      some r5) := fun J => by kernel_rfl
  exact (h jn).trans (rfl)
theorem law03_Same_l2_eq (m : Nat) : ∀ (M2 : Nat) (x0 : Int) (x1 : Int) (x2 : Dt) (x3 : Dt), l15 jn m [1, 1, 0, 1, 0] [] M2 ⟨tsOf [(2, (.ptr 0 [] 0)), (3, (.ptr 1 [] 0)), (36, (.dat 3 (.int x0))), (37, (.dat 3 (.int x1)))], [(.box 30 (.dat 30 x2)), (.box 30 (.dat 30 x3))], 0⟩ = law03_Same_l2 m (law03_SameList m) (law03_Same m) M2 x0 x1 x2 x3
  | 0, _, _, _, _ => rfl
  | M2 + 1, x0, x1, x2, x3 => by
    have h : ∀ J, l15 J m [1, 1, 0, 1, 0] [] (M2 + 1) ⟨tsOf [(2, (.ptr 0 [] 0)), (3, (.ptr 1 [] 0)), (36, (.dat 3 (.int x0))), (37, (.dat 3 (.int x1)))], [(.box 30 (.dat 30 x2)), (.box 30 (.dat 30 x3))], 0⟩ =
    (bif (decide (x1 < x0)) then
      (J 0 5 0 ⟨tsOf [(2, (.ptr 0 [] 0)), (3, (.ptr 1 [] 0)), (36, (.dat 3 (.int x0))), (37, (.dat 3 (.int x1)))], [(.box 30 (.dat 30 x2)), (.box 30 (.dat 30 x3))], 0⟩ (e15 J m [1, 1, 0, 1, 0, 0, 1, 1] [M2] ⟨tsOf [(2, (.ptr 0 [] 0)), (3, (.ptr 1 [] 0)), (36, (.dat 3 (.int x0))), (37, (.dat 3 (.int x1)))], [(.box 30 (.dat 30 x2)), (.box 30 (.dat 30 x3))], 0⟩))
    else
      (J 0 9 0 ⟨tsOf [(2, (.ptr 0 [] 0)), (3, (.ptr 1 [] 0))], [(.box 30 (.dat 30 x2)), (.box 30 (.dat 30 x3))], 0⟩ (e15 J m [1, 1, 1] [] ⟨tsOf [(2, (.ptr 0 [] 0)), (3, (.ptr 1 [] 0))], [(.box 30 (.dat 30 x2)), (.box 30 (.dat 30 x3))], 0⟩))) := fun J => by kernel_rfl
    refine (h jn).trans ?_
    simp only [jn_eq, law03_Same_j3_eq m M2 (law03_Same_l2 m (law03_SameList m) (law03_Same m) M2) (fun x0 x1 x2 x3 => law03_Same_l2_eq m M2 x0 x1 x2 x3), law03_Same_j5_eq m]
    rfl
theorem law03_Same_j1_eq (m : Nat) (x0 : Int) (x1 : Int) (x2 : Dt) (x3 : Dt) : e15 jn m [1, 1, 0, 1] [] ⟨tsOf [(2, (.ptr 0 [] 0)), (3, (.ptr 1 [] 0)), (36, (.dat 3 (.int x0))), (37, (.dat 3 (.int x1)))], [(.box 30 (.dat 30 x2)), (.box 30 (.dat 30 x3))], 0⟩ = law03_Same_j1 m (law03_SameList m) (law03_Same m) x0 x1 x2 x3 := by
  have h : ∀ J, e15 J m [1, 1, 0, 1] [] ⟨tsOf [(2, (.ptr 0 [] 0)), (3, (.ptr 1 [] 0)), (36, (.dat 3 (.int x0))), (37, (.dat 3 (.int x1)))], [(.box 30 (.dat 30 x2)), (.box 30 (.dat 30 x3))], 0⟩ =
    (J 1 4 (Nat.succ m) ⟨tsOf [(2, (.ptr 0 [] 0)), (3, (.ptr 1 [] 0)), (36, (.dat 3 (.int x0))), (37, (.dat 3 (.int x1)))], [(.box 30 (.dat 30 x2)), (.box 30 (.dat 30 x3))], 0⟩ (l15 J m [1, 1, 0, 1, 0] [] (Nat.succ m) ⟨tsOf [(2, (.ptr 0 [] 0)), (3, (.ptr 1 [] 0)), (36, (.dat 3 (.int x0))), (37, (.dat 3 (.int x1)))], [(.box 30 (.dat 30 x2)), (.box 30 (.dat 30 x3))], 0⟩)) := fun J => by kernel_rfl
  exact (h jn).trans (by
    simp only [jn_eq, law03_Same_l2_eq m]
    rfl)
theorem law03_Same_j0_eq (m : Nat) (x0 : Dt) (x1 : Dt) : e15 jn m [1, 1] [] ⟨tsOf [(2, (.ptr 0 [] 0)), (3, (.ptr 1 [] 0))], [(.box 30 (.dat 30 x0)), (.box 30 (.dat 30 x1))], 0⟩ = law03_Same_j0 m (law03_SameList m) (law03_Same m) x0 x1 := by
  have h : ∀ J, e15 J m [1, 1] [] ⟨tsOf [(2, (.ptr 0 [] 0)), (3, (.ptr 1 [] 0))], [(.box 30 (.dat 30 x0)), (.box 30 (.dat 30 x1))], 0⟩ =
    (J 0 4 0 ⟨tsOf [(2, (.ptr 0 [] 0)), (3, (.ptr 1 [] 0)), (36, (.dat 3 (.int (((List.length (Dt.L x0 4)) : Nat) : Int)))), (37, (.dat 3 (.int (0 : Int))))], [(.box 30 (.dat 30 x0)), (.box 30 (.dat 30 x1))], 0⟩ (e15 J m [1, 1, 0, 1] [] ⟨tsOf [(2, (.ptr 0 [] 0)), (3, (.ptr 1 [] 0)), (36, (.dat 3 (.int (((List.length (Dt.L x0 4)) : Nat) : Int)))), (37, (.dat 3 (.int (0 : Int))))], [(.box 30 (.dat 30 x0)), (.box 30 (.dat 30 x1))], 0⟩)) := fun J => by kernel_rfl
  exact (h jn).trans (by
    simp only [jn_eq, law03_Same_j1_eq m]
    rfl)
theorem law03_Same_eq (m : Nat) (a0 : Dt) (a1 : Dt) : e15 jn m [] [] ⟨[(.dat 30 a0), (.dat 30 a1)], [], 0⟩ = law03_Same (m + 1) a0 a1 := by
  have h : ∀ J, e15 J m [] [] ⟨[(.dat 30 a0), (.dat 30 a1)], [], 0⟩ =
    (bif ((Dt.I a0 0) != (Dt.I a1 0)) then
      some Bool.false
    else
      (bif ((Dt.I a0 1) != (Dt.I a1 1)) then
        some Bool.false
      else
        (bif (Bool.not ((ByteArray.toList (Dt.S a0 2)) == (ByteArray.toList (Dt.S a1 2)))) then
          some Bool.false
        else
          (bif ((((List.length (Dt.L a0 4)) : Nat) : Int) != (((List.length (Dt.L a1 4)) : Nat) : Int)) then
            some Bool.false
          else
            (J 0 3 0 ⟨tsOf [(2, (.ptr 0 [] 0)), (3, (.ptr 1 [] 0))], [(.box 30 (.dat 30 a0)), (.box 30 (.dat 30 a1))], 0⟩ (e15 J m [1, 1] [] ⟨tsOf [(2, (.ptr 0 [] 0)), (3, (.ptr 1 [] 0))], [(.box 30 (.dat 30 a0)), (.box 30 (.dat 30 a1))], 0⟩)))))) := fun J => by kernel_rfl
  refine (h jn).trans ?_
  simp only [jn_eq, law03_Same_j0_eq m]
  rfl
noncomputable def d10 (q : Res) : Option (Bool) := match q with
  | (.dat T0 x0, []) => bif Nat.beq T0 4 then some x0.toBool else none
  | _ => none
theorem d10_sim {b : Res} {r : Bool} (h : d10 b = some r) : Sim Tryd.prog b ((.dat 4 (.bool r)), []) := by
  unfold d10 at h
  split at h
  · obtain ⟨hc, h2⟩ := bif_some h
    cases h2
    have e0 := beq_eq hc
    subst e0
    exact Sim.of (.of (.dat (.bool Tryd.underlying4)) rfl rfl) .nil
  · cases h
noncomputable def e10 (J : Nat → Nat → Nat → St → Option (Bool) → Option (Bool)) (m : Nat) (p ms : List Nat) (σ : St) := evAt Tryd.prog env (ct m) J (m + 1) 26 21 Tryd.f26 d10 p ms σ
noncomputable def l10 (J : Nat → Nat → Nat → St → Option (Bool) → Option (Bool)) (m : Nat) (p ms : List Nat) (M : Nat) (σ : St) := loopAt Tryd.prog env (ct m) J (m + 1) 26 21 Tryd.f26 d10 p ms M σ
theorem law12_lists_j3_eq (m : Nat) (M1 : Nat) (rec1 : Int → Int → Dt → Option (Bool)) (h1 : ∀ (x0 : Int) (x1 : Int) (x2 : Dt), l10 jn m [1, 0, 1, 0] [] M1 ⟨tsOf [(1, (.ptr 0 [] 0)), (6, (.dat 3 (.int x0))), (7, (.dat 3 (.int x1)))], [(.box 30 (.dat 30 x2))], 0⟩ = rec1 x0 x1 x2) (x0 : Int) (x1 : Int) (x2 : Dt) : e10 jn m [1, 0, 1, 0, 0, 1, 1, 1] [M1] ⟨tsOf [(1, (.ptr 0 [] 0)), (6, (.dat 3 (.int x0))), (7, (.dat 3 (.int x1)))], [(.box 30 (.dat 30 x2))], 0⟩ = law12_lists_j3 m (law12_lists m) rec1 x0 x1 x2 := by
  have h : ∀ J, e10 J m [1, 0, 1, 0, 0, 1, 1, 1] [M1] ⟨tsOf [(1, (.ptr 0 [] 0)), (6, (.dat 3 (.int x0))), (7, (.dat 3 (.int x1)))], [(.box 30 (.dat 30 x2))], 0⟩ =
    (J 1 2 M1 ⟨tsOf [(1, (.ptr 0 [] 0)), (6, (.dat 3 (.int x0))), (7, (.dat 3 (.int (IntKind.wrap IntKind.i64 (x1 + (1 : Int))))))], [(.box 30 (.dat 30 x2))], 0⟩ (l10 J m [1, 0, 1, 0] [] M1 ⟨tsOf [(1, (.ptr 0 [] 0)), (6, (.dat 3 (.int x0))), (7, (.dat 3 (.int (IntKind.wrap IntKind.i64 (x1 + (1 : Int))))))], [(.box 30 (.dat 30 x2))], 0⟩)) := fun J => by kernel_rfl
  exact (h jn).trans (by
    simp only [jn_eq, h1]
    rfl)
theorem law12_lists_j2_eq (m : Nat) (M1 : Nat) (rec1 : Int → Int → Dt → Option (Bool)) (h1 : ∀ (x0 : Int) (x1 : Int) (x2 : Dt), l10 jn m [1, 0, 1, 0] [] M1 ⟨tsOf [(1, (.ptr 0 [] 0)), (6, (.dat 3 (.int x0))), (7, (.dat 3 (.int x1)))], [(.box 30 (.dat 30 x2))], 0⟩ = rec1 x0 x1 x2) (x0 : Int) (x1 : Int) (x2 : Dt) : e10 jn m [1, 0, 1, 0, 0, 1, 1] [M1] ⟨tsOf [(1, (.ptr 0 [] 0)), (6, (.dat 3 (.int x0))), (7, (.dat 3 (.int x1)))], [(.box 30 (.dat 30 x2))], 0⟩ = law12_lists_j2 m (law12_lists m) rec1 x0 x1 x2 := by
  have h : ∀ J, e10 J m [1, 0, 1, 0, 0, 1, 1] [M1] ⟨tsOf [(1, (.ptr 0 [] 0)), (6, (.dat 3 (.int x0))), (7, (.dat 3 (.int x1)))], [(.box 30 (.dat 30 x2))], 0⟩ =
    ((idx (Dt.L x2 4) x1).bind fun v0 =>
      ((law12_lists m (Dt.fld v0 1)).bind fun r1 =>
        (bif r1 then
          some Bool.true
        else
          (J 0 6 0 ⟨tsOf [(1, (.ptr 0 [] 0)), (6, (.dat 3 (.int x0))), (7, (.dat 3 (.int x1)))], [(.box 30 (.dat 30 x2))], 0⟩ (e10 J m [1, 0, 1, 0, 0, 1, 1, 1] [M1] ⟨tsOf [(1, (.ptr 0 [] 0)), (6, (.dat 3 (.int x0))), (7, (.dat 3 (.int x1)))], [(.box 30 (.dat 30 x2))], 0⟩))))) := fun J => by kernel_rfl
  exact (h jn).trans (by
    simp only [jn_eq, law12_lists_j3_eq m M1 rec1 h1]
    rfl)
theorem law12_lists_j4_eq (m : Nat) (x0 : Dt) : e10 jn m [1, 1] [] ⟨tsOf [(1, (.ptr 0 [] 0))], [(.box 30 (.dat 30 x0))], 0⟩ = law12_lists_j4 m (law12_lists m) x0 := by
  have h : ∀ J, e10 J m [1, 1] [] ⟨tsOf [(1, (.ptr 0 [] 0))], [(.box 30 (.dat 30 x0))], 0⟩ =
    some ((Dt.I x0 0) == (6 : Int)) := fun J => by kernel_rfl
  exact (h jn).trans (rfl)
theorem law12_lists_l1_eq (m : Nat) : ∀ (M1 : Nat) (x0 : Int) (x1 : Int) (x2 : Dt), l10 jn m [1, 0, 1, 0] [] M1 ⟨tsOf [(1, (.ptr 0 [] 0)), (6, (.dat 3 (.int x0))), (7, (.dat 3 (.int x1)))], [(.box 30 (.dat 30 x2))], 0⟩ = law12_lists_l1 m (law12_lists m) M1 x0 x1 x2
  | 0, _, _, _ => rfl
  | M1 + 1, x0, x1, x2 => by
    have h : ∀ J, l10 J m [1, 0, 1, 0] [] (M1 + 1) ⟨tsOf [(1, (.ptr 0 [] 0)), (6, (.dat 3 (.int x0))), (7, (.dat 3 (.int x1)))], [(.box 30 (.dat 30 x2))], 0⟩ =
    (bif (decide (x1 < x0)) then
      (J 0 3 0 ⟨tsOf [(1, (.ptr 0 [] 0)), (6, (.dat 3 (.int x0))), (7, (.dat 3 (.int x1)))], [(.box 30 (.dat 30 x2))], 0⟩ (e10 J m [1, 0, 1, 0, 0, 1, 1] [M1] ⟨tsOf [(1, (.ptr 0 [] 0)), (6, (.dat 3 (.int x0))), (7, (.dat 3 (.int x1)))], [(.box 30 (.dat 30 x2))], 0⟩))
    else
      (J 0 7 0 ⟨tsOf [(1, (.ptr 0 [] 0))], [(.box 30 (.dat 30 x2))], 0⟩ (e10 J m [1, 1] [] ⟨tsOf [(1, (.ptr 0 [] 0))], [(.box 30 (.dat 30 x2))], 0⟩))) := fun J => by kernel_rfl
    refine (h jn).trans ?_
    simp only [jn_eq, law12_lists_j2_eq m M1 (law12_lists_l1 m (law12_lists m) M1) (fun x0 x1 x2 => law12_lists_l1_eq m M1 x0 x1 x2), law12_lists_j4_eq m]
    rfl
theorem law12_lists_j0_eq (m : Nat) (x0 : Int) (x1 : Int) (x2 : Dt) : e10 jn m [1, 0, 1] [] ⟨tsOf [(1, (.ptr 0 [] 0)), (6, (.dat 3 (.int x0))), (7, (.dat 3 (.int x1)))], [(.box 30 (.dat 30 x2))], 0⟩ = law12_lists_j0 m (law12_lists m) x0 x1 x2 := by
  have h : ∀ J, e10 J m [1, 0, 1] [] ⟨tsOf [(1, (.ptr 0 [] 0)), (6, (.dat 3 (.int x0))), (7, (.dat 3 (.int x1)))], [(.box 30 (.dat 30 x2))], 0⟩ =
    (J 1 2 (Nat.succ m) ⟨tsOf [(1, (.ptr 0 [] 0)), (6, (.dat 3 (.int x0))), (7, (.dat 3 (.int x1)))], [(.box 30 (.dat 30 x2))], 0⟩ (l10 J m [1, 0, 1, 0] [] (Nat.succ m) ⟨tsOf [(1, (.ptr 0 [] 0)), (6, (.dat 3 (.int x0))), (7, (.dat 3 (.int x1)))], [(.box 30 (.dat 30 x2))], 0⟩)) := fun J => by kernel_rfl
  exact (h jn).trans (by
    simp only [jn_eq, law12_lists_l1_eq m]
    rfl)
theorem law12_lists_eq (m : Nat) (a0 : Dt) : e10 jn m [] [] ⟨[(.dat 30 a0)], [], 0⟩ = law12_lists (m + 1) a0 := by
  have h : ∀ J, e10 J m [] [] ⟨[(.dat 30 a0)], [], 0⟩ =
    (J 0 2 0 ⟨tsOf [(1, (.ptr 0 [] 0)), (6, (.dat 3 (.int (((List.length (Dt.L a0 4)) : Nat) : Int)))), (7, (.dat 3 (.int (0 : Int))))], [(.box 30 (.dat 30 a0))], 0⟩ (e10 J m [1, 0, 1] [] ⟨tsOf [(1, (.ptr 0 [] 0)), (6, (.dat 3 (.int (((List.length (Dt.L a0 4)) : Nat) : Int)))), (7, (.dat 3 (.int (0 : Int))))], [(.box 30 (.dat 30 a0))], 0⟩)) := fun J => by kernel_rfl
  refine (h jn).trans ?_
  simp only [jn_eq, law12_lists_j0_eq m]
  rfl
noncomputable def d24 (q : Res) : Option (Int) := match q with
  | (.dat T0 x0, []) => bif Nat.beq T0 3 then some x0.toInt else none
  | _ => none
theorem d24_sim {b : Res} {r : Int} (h : d24 b = some r) : Sim Tryd.prog b ((.dat 3 (.int r)), []) := by
  unfold d24 at h
  split at h
  · obtain ⟨hc, h2⟩ := bif_some h
    cases h2
    have e0 := beq_eq hc
    subst e0
    exact Sim.of (.of (.dat (.int Tryd.underlying3)) rfl rfl) .nil
  · cases h
noncomputable def e24 (J : Nat → Nat → Nat → St → Option (Int) → Option (Int)) (m : Nat) (p ms : List Nat) (σ : St) := evAt Tryd.prog env (ct m) J (m + 1) 53 11 Tryd.f53 d24 p ms σ
noncomputable def l24 (J : Nat → Nat → Nat → St → Option (Int) → Option (Int)) (m : Nat) (p ms : List Nat) (M : Nat) (σ : St) := loopAt Tryd.prog env (ct m) J (m + 1) 53 11 Tryd.f53 d24 p ms M σ
theorem ref01_Ints_j1_eq (m : Nat) : e24 jn m [1, 1, 1] [] ⟨tsOf [], [], 0⟩ = ref01_Ints_j1 m := by
  have h : ∀ J, e24 J m [1, 1, 1] [] ⟨tsOf [], [], 0⟩ =
    some (0 : Int) := fun J => by kernel_rfl
  exact (h jn).trans (rfl)
theorem ref01_Ints_j0_eq (m : Nat) (x0 : Int) (x1 : Int) : e24 jn m [1, 1] [] ⟨tsOf [(0, (.dat 3 (.int x0))), (1, (.dat 3 (.int x1)))], [], 0⟩ = ref01_Ints_j0 m x0 x1 := by
  have h : ∀ J, e24 J m [1, 1] [] ⟨tsOf [(0, (.dat 3 (.int x0))), (1, (.dat 3 (.int x1)))], [], 0⟩ =
    (bif (decide (x1 < x0)) then
      some (1 : Int)
    else
      (J 0 5 0 ⟨tsOf [], [], 0⟩ (e24 J m [1, 1, 1] [] ⟨tsOf [], [], 0⟩))) := fun J => by kernel_rfl
  exact (h jn).trans (by
    simp only [jn_eq, ref01_Ints_j1_eq m]
    rfl)
theorem ref01_Ints_eq (m : Nat) (a0 : Int) (a1 : Int) : e24 jn m [] [] ⟨[(.dat 3 (.int a0)), (.dat 3 (.int a1))], [], 0⟩ = ref01_Ints (m + 1) a0 a1 := by
  have h : ∀ J, e24 J m [] [] ⟨[(.dat 3 (.int a0)), (.dat 3 (.int a1))], [], 0⟩ =
    (bif (decide (a0 < a1)) then
      some (-1 : Int)
    else
      (J 0 3 0 ⟨tsOf [(0, (.dat 3 (.int a0))), (1, (.dat 3 (.int a1)))], [], 0⟩ (e24 J m [1, 1] [] ⟨tsOf [(0, (.dat 3 (.int a0))), (1, (.dat 3 (.int a1)))], [], 0⟩))) := fun J => by kernel_rfl
  refine (h jn).trans ?_
  simp only [jn_eq, ref01_Ints_j0_eq m]
  rfl
noncomputable def d25 (q : Res) : Option (Int) := match q with
  | (.dat T0 x0, []) => bif Nat.beq T0 3 then some x0.toInt else none
  | _ => none
theorem d25_sim {b : Res} {r : Int} (h : d25 b = some r) : Sim Tryd.prog b ((.dat 3 (.int r)), []) := by
  unfold d25 at h
  split at h
  · obtain ⟨hc, h2⟩ := bif_some h
    cases h2
    have e0 := beq_eq hc
    subst e0
    exact Sim.of (.of (.dat (.int Tryd.underlying3)) rfl rfl) .nil
  · cases h
noncomputable def e25 (J : Nat → Nat → Nat → St → Option (Int) → Option (Int)) (m : Nat) (p ms : List Nat) (σ : St) := evAt Tryd.prog env (ct m) J (m + 1) 54 39 Tryd.f54 d25 p ms σ
noncomputable def l25 (J : Nat → Nat → Nat → St → Option (Int) → Option (Int)) (m : Nat) (p ms : List Nat) (M : Nat) (σ : St) := loopAt Tryd.prog env (ct m) J (m + 1) 54 39 Tryd.f54 d25 p ms M σ
theorem ref01_Texts_j3_eq (m : Nat) (M1 : Nat) (rec1 : ByteArray → ByteArray → Int → Option (Int)) (h1 : ∀ (x0 : ByteArray) (x1 : ByteArray) (x2 : Int), l25 jn m [1, 0, 1, 0] [] M1 ⟨tsOf [(0, (.dat 9 (.str x0))), (1, (.dat 9 (.str x1))), (5, (.dat 3 (.int x2)))], [], 0⟩ = rec1 x0 x1 x2) (x0 : ByteArray) (x1 : ByteArray) (x2 : Int) : e25 jn m [1, 0, 1, 0, 0, 1, 1] [M1] ⟨tsOf [(0, (.dat 9 (.str x0))), (1, (.dat 9 (.str x1))), (5, (.dat 3 (.int x2)))], [], 0⟩ = ref01_Texts_j3 m rec1 x0 x1 x2 := by
  have h : ∀ J, e25 J m [1, 0, 1, 0, 0, 1, 1] [M1] ⟨tsOf [(0, (.dat 9 (.str x0))), (1, (.dat 9 (.str x1))), (5, (.dat 3 (.int x2)))], [], 0⟩ =
    (J 1 2 M1 ⟨tsOf [(0, (.dat 9 (.str x0))), (1, (.dat 9 (.str x1))), (5, (.dat 3 (.int (IntKind.wrap IntKind.i64 (x2 + (1 : Int))))))], [], 0⟩ (l25 J m [1, 0, 1, 0] [] M1 ⟨tsOf [(0, (.dat 9 (.str x0))), (1, (.dat 9 (.str x1))), (5, (.dat 3 (.int (IntKind.wrap IntKind.i64 (x2 + (1 : Int))))))], [], 0⟩)) := fun J => by kernel_rfl
  exact (h jn).trans (by
    simp only [jn_eq, h1]
    rfl)
theorem ref01_Texts_j2_eq (m : Nat) (M1 : Nat) (rec1 : ByteArray → ByteArray → Int → Option (Int)) (h1 : ∀ (x0 : ByteArray) (x1 : ByteArray) (x2 : Int), l25 jn m [1, 0, 1, 0] [] M1 ⟨tsOf [(0, (.dat 9 (.str x0))), (1, (.dat 9 (.str x1))), (5, (.dat 3 (.int x2)))], [], 0⟩ = rec1 x0 x1 x2) (x0 : ByteArray) (x1 : ByteArray) (x2 : Int) : e25 jn m [1, 0, 1, 0, 0, 1] [M1] ⟨tsOf [(0, (.dat 9 (.str x0))), (1, (.dat 9 (.str x1))), (5, (.dat 3 (.int x2)))], [], 0⟩ = ref01_Texts_j2 m rec1 x0 x1 x2 := by
  have h : ∀ J, e25 J m [1, 0, 1, 0, 0, 1] [M1] ⟨tsOf [(0, (.dat 9 (.str x0))), (1, (.dat 9 (.str x1))), (5, (.dat 3 (.int x2)))], [], 0⟩ =
    ((idxS x0 x2).bind fun v0 =>
      ((idxS x1 x2).bind fun v1 =>
        (bif (v0 != v1) then
          ((idxS x0 x2).bind fun v2 =>
            ((idxS x1 x2).bind fun v3 =>
              ((ref01_Ints m (IntKind.wrap IntKind.i64 v2) (IntKind.wrap IntKind.i64 v3)).bind fun r4 =>
                some r4)))
        else
          (J 0 3 0 ⟨tsOf [(0, (.dat 9 (.str x0))), (1, (.dat 9 (.str x1))), (5, (.dat 3 (.int x2)))], [], 0⟩ (e25 J m [1, 0, 1, 0, 0, 1, 1] [M1] ⟨tsOf [(0, (.dat 9 (.str x0))), (1, (.dat 9 (.str x1))), (5, (.dat 3 (.int x2)))], [], 0⟩))))) := fun J => by kernel_rfl
  exact (h jn).trans (by
    simp only [jn_eq, ref01_Texts_j3_eq m M1 rec1 h1]
    rfl)
theorem ref01_Texts_j4_eq (m : Nat) (x0 : ByteArray) (x1 : ByteArray) : e25 jn m [1, 1] [] ⟨tsOf [(0, (.dat 9 (.str x0))), (1, (.dat 9 (.str x1)))], [], 0⟩ = ref01_Texts_j4 m x0 x1 := by
  have h : ∀ J, e25 J m [1, 1] [] ⟨tsOf [(0, (.dat 9 (.str x0))), (1, (.dat 9 (.str x1)))], [], 0⟩ =
    ((ref01_Ints m (((ByteArray.size x0) : Nat) : Int) (((ByteArray.size x1) : Nat) : Int)).bind fun r5 =>
      some r5) := fun J => by kernel_rfl
  exact (h jn).trans (rfl)
theorem ref01_Texts_l1_eq (m : Nat) : ∀ (M1 : Nat) (x0 : ByteArray) (x1 : ByteArray) (x2 : Int), l25 jn m [1, 0, 1, 0] [] M1 ⟨tsOf [(0, (.dat 9 (.str x0))), (1, (.dat 9 (.str x1))), (5, (.dat 3 (.int x2)))], [], 0⟩ = ref01_Texts_l1 m M1 x0 x1 x2
  | 0, _, _, _ => rfl
  | M1 + 1, x0, x1, x2 => by
    have h : ∀ J, l25 J m [1, 0, 1, 0] [] (M1 + 1) ⟨tsOf [(0, (.dat 9 (.str x0))), (1, (.dat 9 (.str x1))), (5, (.dat 3 (.int x2)))], [], 0⟩ =
    (bif (decide (x2 < (((ByteArray.size x0) : Nat) : Int))) then
      (bif (decide (x2 < (((ByteArray.size x1) : Nat) : Int))) then
        (J 0 4 0 ⟨tsOf [(0, (.dat 9 (.str x0))), (1, (.dat 9 (.str x1))), (5, (.dat 3 (.int x2)))], [], 0⟩ (e25 J m [1, 0, 1, 0, 0, 1] [M1] ⟨tsOf [(0, (.dat 9 (.str x0))), (1, (.dat 9 (.str x1))), (5, (.dat 3 (.int x2)))], [], 0⟩))
      else
        (J 0 6 0 ⟨tsOf [(0, (.dat 9 (.str x0))), (1, (.dat 9 (.str x1)))], [], 0⟩ (e25 J m [1, 1] [] ⟨tsOf [(0, (.dat 9 (.str x0))), (1, (.dat 9 (.str x1)))], [], 0⟩)))
    else
      (J 0 6 0 ⟨tsOf [(0, (.dat 9 (.str x0))), (1, (.dat 9 (.str x1)))], [], 0⟩ (e25 J m [1, 1] [] ⟨tsOf [(0, (.dat 9 (.str x0))), (1, (.dat 9 (.str x1)))], [], 0⟩))) := fun J => by kernel_rfl
    refine (h jn).trans ?_
    simp only [jn_eq, ref01_Texts_j2_eq m M1 (ref01_Texts_l1 m M1) (fun x0 x1 x2 => ref01_Texts_l1_eq m M1 x0 x1 x2), ref01_Texts_j4_eq m]
    rfl
theorem ref01_Texts_j0_eq (m : Nat) (x0 : ByteArray) (x1 : ByteArray) (x2 : Int) : e25 jn m [1, 0, 1] [] ⟨tsOf [(0, (.dat 9 (.str x0))), (1, (.dat 9 (.str x1))), (5, (.dat 3 (.int x2)))], [], 0⟩ = ref01_Texts_j0 m x0 x1 x2 := by
  have h : ∀ J, e25 J m [1, 0, 1] [] ⟨tsOf [(0, (.dat 9 (.str x0))), (1, (.dat 9 (.str x1))), (5, (.dat 3 (.int x2)))], [], 0⟩ =
    (J 1 2 (Nat.succ m) ⟨tsOf [(0, (.dat 9 (.str x0))), (1, (.dat 9 (.str x1))), (5, (.dat 3 (.int x2)))], [], 0⟩ (l25 J m [1, 0, 1, 0] [] (Nat.succ m) ⟨tsOf [(0, (.dat 9 (.str x0))), (1, (.dat 9 (.str x1))), (5, (.dat 3 (.int x2)))], [], 0⟩)) := fun J => by kernel_rfl
  exact (h jn).trans (by
    simp only [jn_eq, ref01_Texts_l1_eq m]
    rfl)
theorem ref01_Texts_eq (m : Nat) (a0 : ByteArray) (a1 : ByteArray) : e25 jn m [] [] ⟨[(.dat 9 (.str a0)), (.dat 9 (.str a1))], [], 0⟩ = ref01_Texts (m + 1) a0 a1 := by
  have h : ∀ J, e25 J m [] [] ⟨[(.dat 9 (.str a0)), (.dat 9 (.str a1))], [], 0⟩ =
    (J 0 2 0 ⟨tsOf [(0, (.dat 9 (.str a0))), (1, (.dat 9 (.str a1))), (5, (.dat 3 (.int (0 : Int))))], [], 0⟩ (e25 J m [1, 0, 1] [] ⟨tsOf [(0, (.dat 9 (.str a0))), (1, (.dat 9 (.str a1))), (5, (.dat 3 (.int (0 : Int))))], [], 0⟩)) := fun J => by kernel_rfl
  refine (h jn).trans ?_
  simp only [jn_eq, ref01_Texts_j0_eq m]
  rfl
noncomputable def d17 (q : Res) : Option (Int) := match q with
  | (.dat T0 x0, []) => bif Nat.beq T0 3 then some x0.toInt else none
  | _ => none
theorem d17_sim {b : Res} {r : Int} (h : d17 b = some r) : Sim Tryd.prog b ((.dat 3 (.int r)), []) := by
  unfold d17 at h
  split at h
  · obtain ⟨hc, h2⟩ := bif_some h
    cases h2
    have e0 := beq_eq hc
    subst e0
    exact Sim.of (.of (.dat (.int Tryd.underlying3)) rfl rfl) .nil
  · cases h
noncomputable def e17 (J : Nat → Nat → Nat → St → Option (Int) → Option (Int)) (m : Nat) (p ms : List Nat) (σ : St) := evAt Tryd.prog env (ct m) J (m + 1) 40 130 Tryd.f40 d17 p ms σ
noncomputable def l17 (J : Nat → Nat → Nat → St → Option (Int) → Option (Int)) (m : Nat) (p ms : List Nat) (M : Nat) (σ : St) := loopAt Tryd.prog env (ct m) J (m + 1) 40 130 Tryd.f40 d17 p ms M σ
theorem ref01_Compare_j4_eq (m : Nat) (M2 : Nat) (rec2 : Int → Dt → Dt → Option (Int)) (h2 : ∀ (x0 : Int) (x1 : Dt) (x2 : Dt), l17 jn m [1, 1, 0, 1, 0, 1, 1, 1, 1, 1, 0, 0, 1, 0] [] M2 ⟨tsOf [(2, (.ptr 0 [] 0)), (3, (.ptr 1 [] 0)), (5, (.dat 3 (.int x0)))], [(.box 30 (.dat 30 x1)), (.box 30 (.dat 30 x2))], 0⟩ = rec2 x0 x1 x2) (x0 : Int) (x1 : Dt) (x2 : Dt) : e17 jn m [1, 1, 0, 1, 0, 1, 1, 1, 1, 1, 0, 0, 1, 0, 0, 1, 1] [M2] ⟨tsOf [(2, (.ptr 0 [] 0)), (3, (.ptr 1 [] 0)), (5, (.dat 3 (.int x0)))], [(.box 30 (.dat 30 x1)), (.box 30 (.dat 30 x2))], 0⟩ = ref01_Compare_j4 m (ref01_Compare m) rec2 x0 x1 x2 := by
  have h : ∀ J, e17 J m [1, 1, 0, 1, 0, 1, 1, 1, 1, 1, 0, 0, 1, 0, 0, 1, 1] [M2] ⟨tsOf [(2, (.ptr 0 [] 0)), (3, (.ptr 1 [] 0)), (5, (.dat 3 (.int x0)))], [(.box 30 (.dat 30 x1)), (.box 30 (.dat 30 x2))], 0⟩ =
    (J 1 14 M2 ⟨tsOf [(2, (.ptr 0 [] 0)), (3, (.ptr 1 [] 0)), (5, (.dat 3 (.int (IntKind.wrap IntKind.i64 (x0 + (1 : Int))))))], [(.box 30 (.dat 30 x1)), (.box 30 (.dat 30 x2))], 0⟩ (l17 J m [1, 1, 0, 1, 0, 1, 1, 1, 1, 1, 0, 0, 1, 0] [] M2 ⟨tsOf [(2, (.ptr 0 [] 0)), (3, (.ptr 1 [] 0)), (5, (.dat 3 (.int (IntKind.wrap IntKind.i64 (x0 + (1 : Int))))))], [(.box 30 (.dat 30 x1)), (.box 30 (.dat 30 x2))], 0⟩)) := fun J => by kernel_rfl
  exact (h jn).trans (by
    simp only [jn_eq, h2]
    rfl)
theorem ref01_Compare_j3_eq (m : Nat) (M2 : Nat) (rec2 : Int → Dt → Dt → Option (Int)) (h2 : ∀ (x0 : Int) (x1 : Dt) (x2 : Dt), l17 jn m [1, 1, 0, 1, 0, 1, 1, 1, 1, 1, 0, 0, 1, 0] [] M2 ⟨tsOf [(2, (.ptr 0 [] 0)), (3, (.ptr 1 [] 0)), (5, (.dat 3 (.int x0)))], [(.box 30 (.dat 30 x1)), (.box 30 (.dat 30 x2))], 0⟩ = rec2 x0 x1 x2) (x0 : Int) (x1 : Dt) (x2 : Dt) : e17 jn m [1, 1, 0, 1, 0, 1, 1, 1, 1, 1, 0, 0, 1, 0, 0, 1] [M2] ⟨tsOf [(2, (.ptr 0 [] 0)), (3, (.ptr 1 [] 0)), (5, (.dat 3 (.int x0)))], [(.box 30 (.dat 30 x1)), (.box 30 (.dat 30 x2))], 0⟩ = ref01_Compare_j3 m (ref01_Compare m) rec2 x0 x1 x2 := by
  have h : ∀ J, e17 J m [1, 1, 0, 1, 0, 1, 1, 1, 1, 1, 0, 0, 1, 0, 0, 1] [M2] ⟨tsOf [(2, (.ptr 0 [] 0)), (3, (.ptr 1 [] 0)), (5, (.dat 3 (.int x0)))], [(.box 30 (.dat 30 x1)), (.box 30 (.dat 30 x2))], 0⟩ =
    ((idx (Dt.L x1 3) x0).bind fun v3 =>
      ((idx (Dt.L x2 3) x0).bind fun v4 =>
        ((ref01_Compare m v3 v4).bind fun r5 =>
          (bif (r5 != (0 : Int)) then
            some r5
          else
            (J 0 15 0 ⟨tsOf [(2, (.ptr 0 [] 0)), (3, (.ptr 1 [] 0)), (5, (.dat 3 (.int x0)))], [(.box 30 (.dat 30 x1)), (.box 30 (.dat 30 x2))], 0⟩ (e17 J m [1, 1, 0, 1, 0, 1, 1, 1, 1, 1, 0, 0, 1, 0, 0, 1, 1] [M2] ⟨tsOf [(2, (.ptr 0 [] 0)), (3, (.ptr 1 [] 0)), (5, (.dat 3 (.int x0)))], [(.box 30 (.dat 30 x1)), (.box 30 (.dat 30 x2))], 0⟩)))))) := fun J => by kernel_rfl
  exact (h jn).trans (by
    simp only [jn_eq, ref01_Compare_j4_eq m M2 rec2 h2]
    rfl)
theorem ref01_Compare_j5_eq (m : Nat) (x0 : Dt) (x1 : Dt) : e17 jn m [1, 1, 0, 1, 0, 1, 1, 1, 1, 1, 0, 1] [] ⟨tsOf [(2, (.ptr 0 [] 0)), (3, (.ptr 1 [] 0))], [(.box 30 (.dat 30 x0)), (.box 30 (.dat 30 x1))], 0⟩ = ref01_Compare_j5 m (ref01_Compare m) x0 x1 := by
  have h : ∀ J, e17 J m [1, 1, 0, 1, 0, 1, 1, 1, 1, 1, 0, 1] [] ⟨tsOf [(2, (.ptr 0 [] 0)), (3, (.ptr 1 [] 0))], [(.box 30 (.dat 30 x0)), (.box 30 (.dat 30 x1))], 0⟩ =
    ((ref01_Ints m (((List.length (Dt.L x0 3)) : Nat) : Int) (((List.length (Dt.L x1 3)) : Nat) : Int)).bind fun r6 =>
      some r6) := fun J => by kernel_rfl
  exact (h jn).trans (rfl)
theorem ref01_Compare_l2_eq (m : Nat) : ∀ (M2 : Nat) (x0 : Int) (x1 : Dt) (x2 : Dt), l17 jn m [1, 1, 0, 1, 0, 1, 1, 1, 1, 1, 0, 0, 1, 0] [] M2 ⟨tsOf [(2, (.ptr 0 [] 0)), (3, (.ptr 1 [] 0)), (5, (.dat 3 (.int x0)))], [(.box 30 (.dat 30 x1)), (.box 30 (.dat 30 x2))], 0⟩ = ref01_Compare_l2 m (ref01_Compare m) M2 x0 x1 x2
  | 0, _, _, _ => rfl
  | M2 + 1, x0, x1, x2 => by
    have h : ∀ J, l17 J m [1, 1, 0, 1, 0, 1, 1, 1, 1, 1, 0, 0, 1, 0] [] (M2 + 1) ⟨tsOf [(2, (.ptr 0 [] 0)), (3, (.ptr 1 [] 0)), (5, (.dat 3 (.int x0)))], [(.box 30 (.dat 30 x1)), (.box 30 (.dat 30 x2))], 0⟩ =
    (bif (decide (x0 < (((List.length (Dt.L x1 3)) : Nat) : Int))) then
      (bif (decide (x0 < (((List.length (Dt.L x2 3)) : Nat) : Int))) then
        (J 0 16 0 ⟨tsOf [(2, (.ptr 0 [] 0)), (3, (.ptr 1 [] 0)), (5, (.dat 3 (.int x0)))], [(.box 30 (.dat 30 x1)), (.box 30 (.dat 30 x2))], 0⟩ (e17 J m [1, 1, 0, 1, 0, 1, 1, 1, 1, 1, 0, 0, 1, 0, 0, 1] [M2] ⟨tsOf [(2, (.ptr 0 [] 0)), (3, (.ptr 1 [] 0)), (5, (.dat 3 (.int x0)))], [(.box 30 (.dat 30 x1)), (.box 30 (.dat 30 x2))], 0⟩))
      else
        (J 0 19 0 ⟨tsOf [(2, (.ptr 0 [] 0)), (3, (.ptr 1 [] 0))], [(.box 30 (.dat 30 x1)), (.box 30 (.dat 30 x2))], 0⟩ (e17 J m [1, 1, 0, 1, 0, 1, 1, 1, 1, 1, 0, 1] [] ⟨tsOf [(2, (.ptr 0 [] 0)), (3, (.ptr 1 [] 0))], [(.box 30 (.dat 30 x1)), (.box 30 (.dat 30 x2))], 0⟩)))
    else
      (J 0 19 0 ⟨tsOf [(2, (.ptr 0 [] 0)), (3, (.ptr 1 [] 0))], [(.box 30 (.dat 30 x1)), (.box 30 (.dat 30 x2))], 0⟩ (e17 J m [1, 1, 0, 1, 0, 1, 1, 1, 1, 1, 0, 1] [] ⟨tsOf [(2, (.ptr 0 [] 0)), (3, (.ptr 1 [] 0))], [(.box 30 (.dat 30 x1)), (.box 30 (.dat 30 x2))], 0⟩))) := fun J => by kernel_rfl
    refine (h jn).trans ?_
    simp only [jn_eq, ref01_Compare_j3_eq m M2 (ref01_Compare_l2 m (ref01_Compare m) M2) (fun x0 x1 x2 => ref01_Compare_l2_eq m M2 x0 x1 x2), ref01_Compare_j5_eq m]
    rfl
theorem ref01_Compare_j1_eq (m : Nat) (x0 : Int) (x1 : Dt) (x2 : Dt) : e17 jn m [1, 1, 0, 1, 0, 1, 1, 1, 1, 1, 0, 0, 1] [] ⟨tsOf [(2, (.ptr 0 [] 0)), (3, (.ptr 1 [] 0)), (5, (.dat 3 (.int x0)))], [(.box 30 (.dat 30 x1)), (.box 30 (.dat 30 x2))], 0⟩ = ref01_Compare_j1 m (ref01_Compare m) x0 x1 x2 := by
  have h : ∀ J, e17 J m [1, 1, 0, 1, 0, 1, 1, 1, 1, 1, 0, 0, 1] [] ⟨tsOf [(2, (.ptr 0 [] 0)), (3, (.ptr 1 [] 0)), (5, (.dat 3 (.int x0)))], [(.box 30 (.dat 30 x1)), (.box 30 (.dat 30 x2))], 0⟩ =
    (J 1 14 (Nat.succ m) ⟨tsOf [(2, (.ptr 0 [] 0)), (3, (.ptr 1 [] 0)), (5, (.dat 3 (.int x0)))], [(.box 30 (.dat 30 x1)), (.box 30 (.dat 30 x2))], 0⟩ (l17 J m [1, 1, 0, 1, 0, 1, 1, 1, 1, 1, 0, 0, 1, 0] [] (Nat.succ m) ⟨tsOf [(2, (.ptr 0 [] 0)), (3, (.ptr 1 [] 0)), (5, (.dat 3 (.int x0)))], [(.box 30 (.dat 30 x1)), (.box 30 (.dat 30 x2))], 0⟩)) := fun J => by kernel_rfl
  exact (h jn).trans (by
    simp only [jn_eq, ref01_Compare_l2_eq m]
    rfl)
theorem ref01_Compare_j10_eq (m : Nat) (M7 : Nat) (rec7 : Int → Dt → Dt → Option (Int)) (h7 : ∀ (x0 : Int) (x1 : Dt) (x2 : Dt), l17 jn m [1, 1, 0, 1, 0, 1, 1, 1, 1, 1, 1, 1, 0, 0, 1, 0] [] M7 ⟨tsOf [(2, (.ptr 0 [] 0)), (3, (.ptr 1 [] 0)), (7, (.dat 3 (.int x0)))], [(.box 30 (.dat 30 x1)), (.box 30 (.dat 30 x2))], 0⟩ = rec7 x0 x1 x2) (x0 : Int) (x1 : Dt) (x2 : Dt) : e17 jn m [1, 1, 0, 1, 0, 1, 1, 1, 1, 1, 1, 1, 0, 0, 1, 0, 0, 1, 1] [M7] ⟨tsOf [(2, (.ptr 0 [] 0)), (3, (.ptr 1 [] 0)), (7, (.dat 3 (.int x0)))], [(.box 30 (.dat 30 x1)), (.box 30 (.dat 30 x2))], 0⟩ = ref01_Compare_j10 m (ref01_Compare m) rec7 x0 x1 x2 := by
  have h : ∀ J, e17 J m [1, 1, 0, 1, 0, 1, 1, 1, 1, 1, 1, 1, 0, 0, 1, 0, 0, 1, 1] [M7] ⟨tsOf [(2, (.ptr 0 [] 0)), (3, (.ptr 1 [] 0)), (7, (.dat 3 (.int x0)))], [(.box 30 (.dat 30 x1)), (.box 30 (.dat 30 x2))], 0⟩ =
    (J 1 22 M7 ⟨tsOf [(2, (.ptr 0 [] 0)), (3, (.ptr 1 [] 0)), (7, (.dat 3 (.int (IntKind.wrap IntKind.i64 (x0 + (1 : Int))))))], [(.box 30 (.dat 30 x1)), (.box 30 (.dat 30 x2))], 0⟩ (l17 J m [1, 1, 0, 1, 0, 1, 1, 1, 1, 1, 1, 1, 0, 0, 1, 0] [] M7 ⟨tsOf [(2, (.ptr 0 [] 0)), (3, (.ptr 1 [] 0)), (7, (.dat 3 (.int (IntKind.wrap IntKind.i64 (x0 + (1 : Int))))))], [(.box 30 (.dat 30 x1)), (.box 30 (.dat 30 x2))], 0⟩)) := fun J => by kernel_rfl
  exact (h jn).trans (by
    simp only [jn_eq, h7]
    rfl)
theorem ref01_Compare_j9_eq (m : Nat) (M7 : Nat) (rec7 : Int → Dt → Dt → Option (Int)) (h7 : ∀ (x0 : Int) (x1 : Dt) (x2 : Dt), l17 jn m [1, 1, 0, 1, 0, 1, 1, 1, 1, 1, 1, 1, 0, 0, 1, 0] [] M7 ⟨tsOf [(2, (.ptr 0 [] 0)), (3, (.ptr 1 [] 0)), (7, (.dat 3 (.int x0)))], [(.box 30 (.dat 30 x1)), (.box 30 (.dat 30 x2))], 0⟩ = rec7 x0 x1 x2) (x0 : Int) (x1 : Int) (x2 : Dt) (x3 : Dt) : e17 jn m [1, 1, 0, 1, 0, 1, 1, 1, 1, 1, 1, 1, 0, 0, 1, 0, 0, 1, 0, 0, 1, 1] [M7] ⟨tsOf [(2, (.ptr 0 [] 0)), (3, (.ptr 1 [] 0)), (7, (.dat 3 (.int x0))), (8, (.dat 3 (.int x1)))], [(.box 30 (.dat 30 x2)), (.box 30 (.dat 30 x3))], 0⟩ = ref01_Compare_j9 m (ref01_Compare m) rec7 x0 x1 x2 x3 := by
  have h : ∀ J, e17 J m [1, 1, 0, 1, 0, 1, 1, 1, 1, 1, 1, 1, 0, 0, 1, 0, 0, 1, 0, 0, 1, 1] [M7] ⟨tsOf [(2, (.ptr 0 [] 0)), (3, (.ptr 1 [] 0)), (7, (.dat 3 (.int x0))), (8, (.dat 3 (.int x1)))], [(.box 30 (.dat 30 x2)), (.box 30 (.dat 30 x3))], 0⟩ =
    (bif (x1 != (0 : Int)) then
      some x1
    else
      (J 0 23 0 ⟨tsOf [(2, (.ptr 0 [] 0)), (3, (.ptr 1 [] 0)), (7, (.dat 3 (.int x0)))], [(.box 30 (.dat 30 x2)), (.box 30 (.dat 30 x3))], 0⟩ (e17 J m [1, 1, 0, 1, 0, 1, 1, 1, 1, 1, 1, 1, 0, 0, 1, 0, 0, 1, 1] [M7] ⟨tsOf [(2, (.ptr 0 [] 0)), (3, (.ptr 1 [] 0)), (7, (.dat 3 (.int x0)))], [(.box 30 (.dat 30 x2)), (.box 30 (.dat 30 x3))], 0⟩))) := fun J => by kernel_rfl
  exact (h jn).trans (by
    simp only [jn_eq, ref01_Compare_j10_eq m M7 rec7 h7]
    rfl)
theorem ref01_Compare_j8_eq (m : Nat) (M7 : Nat) (rec7 : Int → Dt → Dt → Option (Int)) (h7 : ∀ (x0 : Int) (x1 : Dt) (x2 : Dt), l17 jn m [1, 1, 0, 1, 0, 1, 1, 1, 1, 1, 1, 1, 0, 0, 1, 0] [] M7 ⟨tsOf [(2, (.ptr 0 [] 0)), (3, (.ptr 1 [] 0)), (7, (.dat 3 (.int x0)))], [(.box 30 (.dat 30 x1)), (.box 30 (.dat 30 x2))], 0⟩ = rec7 x0 x1 x2) (x0 : Int) (x1 : Dt) (x2 : Dt) : e17 jn m [1, 1, 0, 1, 0, 1, 1, 1, 1, 1, 1, 1, 0, 0, 1, 0, 0, 1] [M7] ⟨tsOf [(2, (.ptr 0 [] 0)), (3, (.ptr 1 [] 0)), (7, (.dat 3 (.int x0)))], [(.box 30 (.dat 30 x1)), (.box 30 (.dat 30 x2))], 0⟩ = ref01_Compare_j8 m (ref01_Compare m) rec7 x0 x1 x2 := by
  have h : ∀ J, e17 J m [1, 1, 0, 1, 0, 1, 1, 1, 1, 1, 1, 1, 0, 0, 1, 0, 0, 1] [M7] ⟨tsOf [(2, (.ptr 0 [] 0)), (3, (.ptr 1 [] 0)), (7, (.dat 3 (.int x0)))], [(.box 30 (.dat 30 x1)), (.box 30 (.dat 30 x2))], 0⟩ =
    ((idx (Dt.L x1 4) x0).bind fun v7 =>
      ((idx (Dt.L x2 4) x0).bind fun v8 =>
        ((ref01_Texts m (Dt.S v7 0) (Dt.S v8 0)).bind fun r9 =>
          (bif (r9 == (0 : Int)) then
            ((idx (Dt.L x1 4) x0).bind fun v10 =>
              ((idx (Dt.L x2 4) x0).bind fun v11 =>
                ((ref01_Compare m (Dt.fld v10 1) (Dt.fld v11 1)).bind fun r12 =>
                  (J 0 27 0 ⟨tsOf [(2, (.ptr 0 [] 0)), (3, (.ptr 1 [] 0)), (7, (.dat 3 (.int x0))), (8, (.dat 3 (.int r12)))], [(.box 30 (.dat 30 x1)), (.box 30 (.dat 30 x2))], 0⟩ (e17 J m [1, 1, 0, 1, 0, 1, 1, 1, 1, 1, 1, 1, 0, 0, 1, 0, 0, 1, 0, 0, 1, 1] [M7] ⟨tsOf [(2, (.ptr 0 [] 0)), (3, (.ptr 1 [] 0)), (7, (.dat 3 (.int x0))), (8, (.dat 3 (.int r12)))], [(.box 30 (.dat 30 x1)), (.box 30 (.dat 30 x2))], 0⟩)))))
          else
            (J 0 27 0 ⟨tsOf [(2, (.ptr 0 [] 0)), (3, (.ptr 1 [] 0)), (7, (.dat 3 (.int x0))), (8, (.dat 3 (.int r9)))], [(.box 30 (.dat 30 x1)), (.box 30 (.dat 30 x2))], 0⟩ (e17 J m [1, 1, 0, 1, 0, 1, 1, 1, 1, 1, 1, 1, 0, 0, 1, 0, 0, 1, 0, 0, 1, 1] [M7] ⟨tsOf [(2, (.ptr 0 [] 0)), (3, (.ptr 1 [] 0)), (7, (.dat 3 (.int x0))), (8, (.dat 3 (.int r9)))], [(.box 30 (.dat 30 x1)), (.box 30 (.dat 30 x2))], 0⟩)))))) := fun J => by kernel_rfl
  exact (h jn).trans (by
    simp only [jn_eq, ref01_Compare_j9_eq m M7 rec7 h7]
    rfl)
theorem ref01_Compare_j11_eq (m : Nat) (x0 : Dt) (x1 : Dt) : e17 jn m [1, 1, 0, 1, 0, 1, 1, 1, 1, 1, 1, 1, 0, 1] [] ⟨tsOf [(2, (.ptr 0 [] 0)), (3, (.ptr 1 [] 0))], [(.box 30 (.dat 30 x0)), (.box 30 (.dat 30 x1))], 0⟩ = ref01_Compare_j11 m (ref01_Compare m) x0 x1 := by
  have h : ∀ J, e17 J m [1, 1, 0, 1, 0, 1, 1, 1, 1, 1, 1, 1, 0, 1] [] ⟨tsOf [(2, (.ptr 0 [] 0)), (3, (.ptr 1 [] 0))], [(.box 30 (.dat 30 x0)), (.box 30 (.dat 30 x1))], 0⟩ =
    ((ref01_Ints m (((List.length (Dt.L x0 4)) : Nat) : Int) (((List.length (Dt.L x1 4)) : Nat) : Int)).bind fun r13 =>
      some r13) := fun J => by kernel_rfl
  exact (h jn).trans (rfl)
theorem ref01_Compare_l7_eq (m : Nat) : ∀ (M7 : Nat) (x0 : Int) (x1 : Dt) (x2 : Dt), l17 jn m [1, 1, 0, 1, 0, 1, 1, 1, 1, 1, 1, 1, 0, 0, 1, 0] [] M7 ⟨tsOf [(2, (.ptr 0 [] 0)), (3, (.ptr 1 [] 0)), (7, (.dat 3 (.int x0)))], [(.box 30 (.dat 30 x1)), (.box 30 (.dat 30 x2))], 0⟩ = ref01_Compare_l7 m (ref01_Compare m) M7 x0 x1 x2
  | 0, _, _, _ => rfl
  | M7 + 1, x0, x1, x2 => by
    have h : ∀ J, l17 J m [1, 1, 0, 1, 0, 1, 1, 1, 1, 1, 1, 1, 0, 0, 1, 0] [] (M7 + 1) ⟨tsOf [(2, (.ptr 0 [] 0)), (3, (.ptr 1 [] 0)), (7, (.dat 3 (.int x0)))], [(.box 30 (.dat 30 x1)), (.box 30 (.dat 30 x2))], 0⟩ =
    (bif (decide (x0 < (((List.length (Dt.L x1 4)) : Nat) : Int))) then
      (bif (decide (x0 < (((List.length (Dt.L x2 4)) : Nat) : Int))) then
        (J 0 24 0 ⟨tsOf [(2, (.ptr 0 [] 0)), (3, (.ptr 1 [] 0)), (7, (.dat 3 (.int x0)))], [(.box 30 (.dat 30 x1)), (.box 30 (.dat 30 x2))], 0⟩ (e17 J m [1, 1, 0, 1, 0, 1, 1, 1, 1, 1, 1, 1, 0, 0, 1, 0, 0, 1] [M7] ⟨tsOf [(2, (.ptr 0 [] 0)), (3, (.ptr 1 [] 0)), (7, (.dat 3 (.int x0)))], [(.box 30 (.dat 30 x1)), (.box 30 (.dat 30 x2))], 0⟩))
      else
        (J 0 29 0 ⟨tsOf [(2, (.ptr 0 [] 0)), (3, (.ptr 1 [] 0))], [(.box 30 (.dat 30 x1)), (.box 30 (.dat 30 x2))], 0⟩ (e17 J m [1, 1, 0, 1, 0, 1, 1, 1, 1, 1, 1, 1, 0, 1] [] ⟨tsOf [(2, (.ptr 0 [] 0)), (3, (.ptr 1 [] 0))], [(.box 30 (.dat 30 x1)), (.box 30 (.dat 30 x2))], 0⟩)))
    else
      (J 0 29 0 ⟨tsOf [(2, (.ptr 0 [] 0)), (3, (.ptr 1 [] 0))], [(.box 30 (.dat 30 x1)), (.box 30 (.dat 30 x2))], 0⟩ (e17 J m [1, 1, 0, 1, 0, 1, 1, 1, 1, 1, 1, 1, 0, 1] [] ⟨tsOf [(2, (.ptr 0 [] 0)), (3, (.ptr 1 [] 0))], [(.box 30 (.dat 30 x1)), (.box 30 (.dat 30 x2))], 0⟩))) := fun J => by kernel_rfl
    refine (h jn).trans ?_
    simp only [jn_eq, ref01_Compare_j8_eq m M7 (ref01_Compare_l7 m (ref01_Compare m) M7) (fun x0 x1 x2 => ref01_Compare_l7_eq m M7 x0 x1 x2), ref01_Compare_j11_eq m]
    rfl
theorem ref01_Compare_j6_eq (m : Nat) (x0 : Int) (x1 : Dt) (x2 : Dt) : e17 jn m [1, 1, 0, 1, 0, 1, 1, 1, 1, 1, 1, 1, 0, 0, 1] [] ⟨tsOf [(2, (.ptr 0 [] 0)), (3, (.ptr 1 [] 0)), (7, (.dat 3 (.int x0)))], [(.box 30 (.dat 30 x1)), (.box 30 (.dat 30 x2))], 0⟩ = ref01_Compare_j6 m (ref01_Compare m) x0 x1 x2 := by
  have h : ∀ J, e17 J m [1, 1, 0, 1, 0, 1, 1, 1, 1, 1, 1, 1, 0, 0, 1] [] ⟨tsOf [(2, (.ptr 0 [] 0)), (3, (.ptr 1 [] 0)), (7, (.dat 3 (.int x0)))], [(.box 30 (.dat 30 x1)), (.box 30 (.dat 30 x2))], 0⟩ =
    (J 1 22 (Nat.succ m) ⟨tsOf [(2, (.ptr 0 [] 0)), (3, (.ptr 1 [] 0)), (7, (.dat 3 (.int x0)))], [(.box 30 (.dat 30 x1)), (.box 30 (.dat 30 x2))], 0⟩ (l17 J m [1, 1, 0, 1, 0, 1, 1, 1, 1, 1, 1, 1, 0, 0, 1, 0] [] (Nat.succ m) ⟨tsOf [(2, (.ptr 0 [] 0)), (3, (.ptr 1 [] 0)), (7, (.dat 3 (.int x0)))], [(.box 30 (.dat 30 x1)), (.box 30 (.dat 30 x2))], 0⟩)) := fun J => by kernel_rfl
  exact (h jn).trans (by
    simp only [jn_eq, ref01_Compare_l7_eq m]
    rfl)
theorem ref01_Compare_j12_eq (m : Nat) : e17 jn m [1, 1, 1] [] ⟨tsOf [], [], 0⟩ = ref01_Compare_j12 m (ref01_Compare m) := by
  have h : ∀ J, e17 J m [1, 1, 1] [] ⟨tsOf [], [], 0⟩ =
    some (0 : Int) := fun J => by kernel_rfl
  exact (h jn).trans (rfl)
theorem ref01_Compare_j0_eq (m : Nat) (x0 : Dt) (x1 : Dt) : e17 jn m [1, 1] [] ⟨tsOf [(2, (.ptr 0 [] 0)), (3, (.ptr 1 [] 0))], [(.box 30 (.dat 30 x0)), (.box 30 (.dat 30 x1))], 0⟩ = ref01_Compare_j0 m (ref01_Compare m) x0 x1 := by
  have h : ∀ J, e17 J m [1, 1] [] ⟨tsOf [(2, (.ptr 0 [] 0)), (3, (.ptr 1 [] 0))], [(.box 30 (.dat 30 x0)), (.box 30 (.dat 30 x1))], 0⟩ =
    (bif ((Dt.I x0 0) == (3 : Int)) then
      (bif ((Dt.I x0 0) == (3 : Int)) then
        ((ref01_Ints m (Dt.I x0 1) (Dt.I x1 1)).bind fun r1 =>
          some r1)
      else
        (bif ((Dt.I x0 0) == (4 : Int)) then
          (bif ((Dt.I x0 0) == (4 : Int)) then
            ((ref01_Texts m (Dt.S x0 2) (Dt.S x1 2)).bind fun r2 =>
              some r2)
          else
            (bif ((Dt.I x0 0) == (6 : Int)) then
              (J 0 14 0 ⟨tsOf [(2, (.ptr 0 [] 0)), (3, (.ptr 1 [] 0)), (5, (.dat 3 (.int (0 : Int))))], [(.box 30 (.dat 30 x0)), (.box 30 (.dat 30 x1))], 0⟩ (e17 J m [1, 1, 0, 1, 0, 1, 1, 1, 1, 1, 0, 0, 1] [] ⟨tsOf [(2, (.ptr 0 [] 0)), (3, (.ptr 1 [] 0)), (5, (.dat 3 (.int (0 : Int))))], [(.box 30 (.dat 30 x0)), (.box 30 (.dat 30 x1))], 0⟩))
            else
              (bif ((Dt.I x0 0) == (5 : Int)) then
                (J 0 22 0 ⟨tsOf [(2, (.ptr 0 [] 0)), (3, (.ptr 1 [] 0)), (7, (.dat 3 (.int (0 : Int))))], [(.box 30 (.dat 30 x0)), (.box 30 (.dat 30 x1))], 0⟩ (e17 J m [1, 1, 0, 1, 0, 1, 1, 1, 1, 1, 1, 1, 0, 0, 1] [] ⟨tsOf [(2, (.ptr 0 [] 0)), (3, (.ptr 1 [] 0)), (7, (.dat 3 (.int (0 : Int))))], [(.box 30 (.dat 30 x0)), (.box 30 (.dat 30 x1))], 0⟩))
              else
                (J 0 30 0 ⟨tsOf [], [], 0⟩ (e17 J m [1, 1, 1] [] ⟨tsOf [], [], 0⟩)))))
        else
          (bif ((Dt.I x0 0) == (7 : Int)) then
            (bif ((Dt.I x0 0) == (7 : Int)) then
              ((ref01_Texts m (Dt.S x0 2) (Dt.S x1 2)).bind fun r14 =>
                some r14)
            else
              (bif ((Dt.I x0 0) == (6 : Int)) then
                (J 0 14 0 ⟨tsOf [(2, (.ptr 0 [] 0)), (3, (.ptr 1 [] 0)), (5, (.dat 3 (.int (0 : Int))))], [(.box 30 (.dat 30 x0)), (.box 30 (.dat 30 x1))], 0⟩ (e17 J m [1, 1, 0, 1, 0, 1, 1, 1, 1, 1, 0, 0, 1] [] ⟨tsOf [(2, (.ptr 0 [] 0)), (3, (.ptr 1 [] 0)), (5, (.dat 3 (.int (0 : Int))))], [(.box 30 (.dat 30 x0)), (.box 30 (.dat 30 x1))], 0⟩))
              else
                (bif ((Dt.I x0 0) == (5 : Int)) then
                  (J 0 22 0 ⟨tsOf [(2, (.ptr 0 [] 0)), (3, (.ptr 1 [] 0)), (7, (.dat 3 (.int (0 : Int))))], [(.box 30 (.dat 30 x0)), (.box 30 (.dat 30 x1))], 0⟩ (e17 J m [1, 1, 0, 1, 0, 1, 1, 1, 1, 1, 1, 1, 0, 0, 1] [] ⟨tsOf [(2, (.ptr 0 [] 0)), (3, (.ptr 1 [] 0)), (7, (.dat 3 (.int (0 : Int))))], [(.box 30 (.dat 30 x0)), (.box 30 (.dat 30 x1))], 0⟩))
                else
                  (J 0 30 0 ⟨tsOf [], [], 0⟩ (e17 J m [1, 1, 1] [] ⟨tsOf [], [], 0⟩)))))
          else
            (bif ((Dt.I x0 0) == (8 : Int)) then
              ((ref01_Texts m (Dt.S x0 2) (Dt.S x1 2)).bind fun r15 =>
                some r15)
            else
              (bif ((Dt.I x0 0) == (6 : Int)) then
                (J 0 14 0 ⟨tsOf [(2, (.ptr 0 [] 0)), (3, (.ptr 1 [] 0)), (5, (.dat 3 (.int (0 : Int))))], [(.box 30 (.dat 30 x0)), (.box 30 (.dat 30 x1))], 0⟩ (e17 J m [1, 1, 0, 1, 0, 1, 1, 1, 1, 1, 0, 0, 1] [] ⟨tsOf [(2, (.ptr 0 [] 0)), (3, (.ptr 1 [] 0)), (5, (.dat 3 (.int (0 : Int))))], [(.box 30 (.dat 30 x0)), (.box 30 (.dat 30 x1))], 0⟩))
              else
                (bif ((Dt.I x0 0) == (5 : Int)) then
                  (J 0 22 0 ⟨tsOf [(2, (.ptr 0 [] 0)), (3, (.ptr 1 [] 0)), (7, (.dat 3 (.int (0 : Int))))], [(.box 30 (.dat 30 x0)), (.box 30 (.dat 30 x1))], 0⟩ (e17 J m [1, 1, 0, 1, 0, 1, 1, 1, 1, 1, 1, 1, 0, 0, 1] [] ⟨tsOf [(2, (.ptr 0 [] 0)), (3, (.ptr 1 [] 0)), (7, (.dat 3 (.int (0 : Int))))], [(.box 30 (.dat 30 x0)), (.box 30 (.dat 30 x1))], 0⟩))
                else
                  (J 0 30 0 ⟨tsOf [], [], 0⟩ (e17 J m [1, 1, 1] [] ⟨tsOf [], [], 0⟩))))))))
    else
      (bif ((Dt.I x0 0) == (9 : Int)) then
        (bif ((Dt.I x0 0) == (9 : Int)) then
          ((ref01_Ints m (Dt.I x0 1) (Dt.I x1 1)).bind fun r16 =>
            some r16)
        else
          (bif ((Dt.I x0 0) == (4 : Int)) then
            (bif ((Dt.I x0 0) == (4 : Int)) then
              ((ref01_Texts m (Dt.S x0 2) (Dt.S x1 2)).bind fun r17 =>
                some r17)
            else
              (bif ((Dt.I x0 0) == (6 : Int)) then
                (J 0 14 0 ⟨tsOf [(2, (.ptr 0 [] 0)), (3, (.ptr 1 [] 0)), (5, (.dat 3 (.int (0 : Int))))], [(.box 30 (.dat 30 x0)), (.box 30 (.dat 30 x1))], 0⟩ (e17 J m [1, 1, 0, 1, 0, 1, 1, 1, 1, 1, 0, 0, 1] [] ⟨tsOf [(2, (.ptr 0 [] 0)), (3, (.ptr 1 [] 0)), (5, (.dat 3 (.int (0 : Int))))], [(.box 30 (.dat 30 x0)), (.box 30 (.dat 30 x1))], 0⟩))
              else
                (bif ((Dt.I x0 0) == (5 : Int)) then
                  (J 0 22 0 ⟨tsOf [(2, (.ptr 0 [] 0)), (3, (.ptr 1 [] 0)), (7, (.dat 3 (.int (0 : Int))))], [(.box 30 (.dat 30 x0)), (.box 30 (.dat 30 x1))], 0⟩ (e17 J m [1, 1, 0, 1, 0, 1, 1, 1, 1, 1, 1, 1, 0, 0, 1] [] ⟨tsOf [(2, (.ptr 0 [] 0)), (3, (.ptr 1 [] 0)), (7, (.dat 3 (.int (0 : Int))))], [(.box 30 (.dat 30 x0)), (.box 30 (.dat 30 x1))], 0⟩))
                else
                  (J 0 30 0 ⟨tsOf [], [], 0⟩ (e17 J m [1, 1, 1] [] ⟨tsOf [], [], 0⟩)))))
          else
            (bif ((Dt.I x0 0) == (7 : Int)) then
              (bif ((Dt.I x0 0) == (7 : Int)) then
                ((ref01_Texts m (Dt.S x0 2) (Dt.S x1 2)).bind fun r18 =>
                  some r18)
              else
                (bif ((Dt.I x0 0) == (6 : Int)) then
                  (J 0 14 0 ⟨tsOf [(2, (.ptr 0 [] 0)), (3, (.ptr 1 [] 0)), (5, (.dat 3 (.int (0 : Int))))], [(.box 30 (.dat 30 x0)), (.box 30 (.dat 30 x1))], 0⟩ (e17 J m [1, 1, 0, 1, 0, 1, 1, 1, 1, 1, 0, 0, 1] [] ⟨tsOf [(2, (.ptr 0 [] 0)), (3, (.ptr 1 [] 0)), (5, (.dat 3 (.int (0 : Int))))], [(.box 30 (.dat 30 x0)), (.box 30 (.dat 30 x1))], 0⟩))
                else
                  (bif ((Dt.I x0 0) == (5 : Int)) then
                    (J 0 22 0 ⟨tsOf [(2, (.ptr 0 [] 0)), (3, (.ptr 1 [] 0)), (7, (.dat 3 (.int (0 : Int))))], [(.box 30 (.dat 30 x0)), (.box 30 (.dat 30 x1))], 0⟩ (e17 J m [1, 1, 0, 1, 0, 1, 1, 1, 1, 1, 1, 1, 0, 0, 1] [] ⟨tsOf [(2, (.ptr 0 [] 0)), (3, (.ptr 1 [] 0)), (7, (.dat 3 (.int (0 : Int))))], [(.box 30 (.dat 30 x0)), (.box 30 (.dat 30 x1))], 0⟩))
                  else
                    (J 0 30 0 ⟨tsOf [], [], 0⟩ (e17 J m [1, 1, 1] [] ⟨tsOf [], [], 0⟩)))))
            else
              (bif ((Dt.I x0 0) == (8 : Int)) then
                ((ref01_Texts m (Dt.S x0 2) (Dt.S x1 2)).bind fun r19 =>
                  some r19)
              else
                (bif ((Dt.I x0 0) == (6 : Int)) then
                  (J 0 14 0 ⟨tsOf [(2, (.ptr 0 [] 0)), (3, (.ptr 1 [] 0)), (5, (.dat 3 (.int (0 : Int))))], [(.box 30 (.dat 30 x0)), (.box 30 (.dat 30 x1))], 0⟩ (e17 J m [1, 1, 0, 1, 0, 1, 1, 1, 1, 1, 0, 0, 1] [] ⟨tsOf [(2, (.ptr 0 [] 0)), (3, (.ptr 1 [] 0)), (5, (.dat 3 (.int (0 : Int))))], [(.box 30 (.dat 30 x0)), (.box 30 (.dat 30 x1))], 0⟩))
                else
                  (bif ((Dt.I x0 0) == (5 : Int)) then
                    (J 0 22 0 ⟨tsOf [(2, (.ptr 0 [] 0)), (3, (.ptr 1 [] 0)), (7, (.dat 3 (.int (0 : Int))))], [(.box 30 (.dat 30 x0)), (.box 30 (.dat 30 x1))], 0⟩ (e17 J m [1, 1, 0, 1, 0, 1, 1, 1, 1, 1, 1, 1, 0, 0, 1] [] ⟨tsOf [(2, (.ptr 0 [] 0)), (3, (.ptr 1 [] 0)), (7, (.dat 3 (.int (0 : Int))))], [(.box 30 (.dat 30 x0)), (.box 30 (.dat 30 x1))], 0⟩))
                  else
                    (J 0 30 0 ⟨tsOf [], [], 0⟩ (e17 J m [1, 1, 1] [] ⟨tsOf [], [], 0⟩))))))))
      else
        (bif ((Dt.I x0 0) == (10 : Int)) then
          ((ref01_Ints m (Dt.I x0 1) (Dt.I x1 1)).bind fun r20 =>
            some r20)
        else
          (bif ((Dt.I x0 0) == (4 : Int)) then
            (bif ((Dt.I x0 0) == (4 : Int)) then
              ((ref01_Texts m (Dt.S x0 2) (Dt.S x1 2)).bind fun r21 =>
                some r21)
            else
              (bif ((Dt.I x0 0) == (6 : Int)) then
                (J 0 14 0 ⟨tsOf [(2, (.ptr 0 [] 0)), (3, (.ptr 1 [] 0)), (5, (.dat 3 (.int (0 : Int))))], [(.box 30 (.dat 30 x0)), (.box 30 (.dat 30 x1))], 0⟩ (e17 J m [1, 1, 0, 1, 0, 1, 1, 1, 1, 1, 0, 0, 1] [] ⟨tsOf [(2, (.ptr 0 [] 0)), (3, (.ptr 1 [] 0)), (5, (.dat 3 (.int (0 : Int))))], [(.box 30 (.dat 30 x0)), (.box 30 (.dat 30 x1))], 0⟩))
              else
                (bif ((Dt.I x0 0) == (5 : Int)) then
                  (J 0 22 0 ⟨tsOf [(2, (.ptr 0 [] 0)), (3, (.ptr 1 [] 0)), (7, (.dat 3 (.int (0 : Int))))], [(.box 30 (.dat 30 x0)), (.box 30 (.dat 30 x1))], 0⟩ (e17 J m [1, 1, 0, 1, 0, 1, 1, 1, 1, 1, 1, 1, 0, 0, 1] [] ⟨tsOf [(2, (.ptr 0 [] 0)), (3, (.ptr 1 [] 0)), (7, (.dat 3 (.int (0 : Int))))], [(.box 30 (.dat 30 x0)), (.box 30 (.dat 30 x1))], 0⟩))
                else
                  (J 0 30 0 ⟨tsOf [], [], 0⟩ (e17 J m [1, 1, 1] [] ⟨tsOf [], [], 0⟩)))))
          else
            (bif ((Dt.I x0 0) == (7 : Int)) then
              (bif ((Dt.I x0 0) == (7 : Int)) then
                ((ref01_Texts m (Dt.S x0 2) (Dt.S x1 2)).bind fun r22 =>
                  some r22)
              else
                (bif ((Dt.I x0 0) == (6 : Int)) then
                  (J 0 14 0 ⟨tsOf [(2, (.ptr 0 [] 0)), (3, (.ptr 1 [] 0)), (5, (.dat 3 (.int (0 : Int))))], [(.box 30 (.dat 30 x0)), (.box 30 (.dat 30 x1))], 0⟩ (e17 J m [1, 1, 0, 1, 0, 1, 1, 1, 1, 1, 0, 0, 1] [] ⟨tsOf [(2, (.ptr 0 [] 0)), (3, (.ptr 1 [] 0)), (5, (.dat 3 (.int (0 : Int))))], [(.box 30 (.dat 30 x0)), (.box 30 (.dat 30 x1))], 0⟩))
                else
                  (bif ((Dt.I x0 0) == (5 : Int)) then
                    (J 0 22 0 ⟨tsOf [(2, (.ptr 0 [] 0)), (3, (.ptr 1 [] 0)), (7, (.dat 3 (.int (0 : Int))))], [(.box 30 (.dat 30 x0)), (.box 30 (.dat 30 x1))], 0⟩ (e17 J m [1, 1, 0, 1, 0, 1, 1, 1, 1, 1, 1, 1, 0, 0, 1] [] ⟨tsOf [(2, (.ptr 0 [] 0)), (3, (.ptr 1 [] 0)), (7, (.dat 3 (.int (0 : Int))))], [(.box 30 (.dat 30 x0)), (.box 30 (.dat 30 x1))], 0⟩))
                  else
                    (J 0 30 0 ⟨tsOf [], [], 0⟩ (e17 J m [1, 1, 1] [] ⟨tsOf [], [], 0⟩)))))
            else
              (bif ((Dt.I x0 0) == (8 : Int)) then
                ((ref01_Texts m (Dt.S x0 2) (Dt.S x1 2)).bind fun r23 =>
                  some r23)
              else
                (bif ((Dt.I x0 0) == (6 : Int)) then
                  (J 0 14 0 ⟨tsOf [(2, (.ptr 0 [] 0)), (3, (.ptr 1 [] 0)), (5, (.dat 3 (.int (0 : Int))))], [(.box 30 (.dat 30 x0)), (.box 30 (.dat 30 x1))], 0⟩ (e17 J m [1, 1, 0, 1, 0, 1, 1, 1, 1, 1, 0, 0, 1] [] ⟨tsOf [(2, (.ptr 0 [] 0)), (3, (.ptr 1 [] 0)), (5, (.dat 3 (.int (0 : Int))))], [(.box 30 (.dat 30 x0)), (.box 30 (.dat 30 x1))], 0⟩))
                else
                  (bif ((Dt.I x0 0) == (5 : Int)) then
                    (J 0 22 0 ⟨tsOf [(2, (.ptr 0 [] 0)), (3, (.ptr 1 [] 0)), (7, (.dat 3 (.int (0 : Int))))], [(.box 30 (.dat 30 x0)), (.box 30 (.dat 30 x1))], 0⟩ (e17 J m [1, 1, 0, 1, 0, 1, 1, 1, 1, 1, 1, 1, 0, 0, 1] [] ⟨tsOf [(2, (.ptr 0 [] 0)), (3, (.ptr 1 [] 0)), (7, (.dat 3 (.int (0 : Int))))], [(.box 30 (.dat 30 x0)), (.box 30 (.dat 30 x1))], 0⟩))
                  else
                    (J 0 30 0 ⟨tsOf [], [], 0⟩ (e17 J m [1, 1, 1] [] ⟨tsOf [], [], 0⟩)))))))))) := fun J => by kernel_rfl
  exact (h jn).trans (by
    simp only [jn_eq, ref01_Compare_j1_eq m, ref01_Compare_j6_eq m, ref01_Compare_j12_eq m]
    rfl)
theorem ref01_Compare_eq (m : Nat) (a0 : Dt) (a1 : Dt) : e17 jn m [] [] ⟨[(.dat 30 a0), (.dat 30 a1)], [], 0⟩ = ref01_Compare (m + 1) a0 a1 := by
  have h : ∀ J, e17 J m [] [] ⟨[(.dat 30 a0), (.dat 30 a1)], [], 0⟩ =
    (bif ((Dt.I a0 0) != (Dt.I a1 0)) then
      ((ref01_Ints m (Dt.I a0 0) (Dt.I a1 0)).bind fun r0 =>
        some r0)
    else
      (J 0 3 0 ⟨tsOf [(2, (.ptr 0 [] 0)), (3, (.ptr 1 [] 0))], [(.box 30 (.dat 30 a0)), (.box 30 (.dat 30 a1))], 0⟩ (e17 J m [1, 1] [] ⟨tsOf [(2, (.ptr 0 [] 0)), (3, (.ptr 1 [] 0))], [(.box 30 (.dat 30 a0)), (.box 30 (.dat 30 a1))], 0⟩))) := fun J => by kernel_rfl
  refine (h jn).trans ?_
  simp only [jn_eq, ref01_Compare_j0_eq m]
  rfl
noncomputable def d31 (q : Res) : Option (Int) := match q with
  | (.dat T0 x0, []) => bif Nat.beq T0 3 then some x0.toInt else none
  | _ => none
theorem d31_sim {b : Res} {r : Int} (h : d31 b = some r) : Sim Tryd.prog b ((.dat 3 (.int r)), []) := by
  unfold d31 at h
  split at h
  · obtain ⟨hc, h2⟩ := bif_some h
    cases h2
    have e0 := beq_eq hc
    subst e0
    exact Sim.of (.of (.dat (.int Tryd.underlying3)) rfl rfl) .nil
  · cases h
noncomputable def e31 (J : Nat → Nat → Nat → St → Option (Int) → Option (Int)) (m : Nat) (p ms : List Nat) (σ : St) := evAt Tryd.prog env (ct m) J (m + 1) 76 20 Tryd.f76 d31 p ms σ
noncomputable def l31 (J : Nat → Nat → Nat → St → Option (Int) → Option (Int)) (m : Nat) (p ms : List Nat) (M : Nat) (σ : St) := loopAt Tryd.prog env (ct m) J (m + 1) 76 20 Tryd.f76 d31 p ms M σ
theorem path_field_j3_eq (m : Nat) (M1 : Nat) (rec1 : List Dt → ByteArray → Int → Int → Option (Int)) (h1 : ∀ (x0 : List Dt) (x1 : ByteArray) (x2 : Int) (x3 : Int), l31 jn m [1, 0, 1, 0] [] M1 ⟨tsOf [(0, (.dat 28 (.lst x0))), (1, (.dat 9 (.str x1))), (7, (.dat 3 (.int x2))), (8, (.dat 3 (.int x3)))], [], 0⟩ = rec1 x0 x1 x2 x3) (x0 : List Dt) (x1 : ByteArray) (x2 : Int) (x3 : Int) : e31 jn m [1, 0, 1, 0, 0, 1, 1, 1] [M1] ⟨tsOf [(0, (.dat 28 (.lst x0))), (1, (.dat 9 (.str x1))), (7, (.dat 3 (.int x2))), (8, (.dat 3 (.int x3)))], [], 0⟩ = path_field_j3 m rec1 x0 x1 x2 x3 := by
  have h : ∀ J, e31 J m [1, 0, 1, 0, 0, 1, 1, 1] [M1] ⟨tsOf [(0, (.dat 28 (.lst x0))), (1, (.dat 9 (.str x1))), (7, (.dat 3 (.int x2))), (8, (.dat 3 (.int x3)))], [], 0⟩ =
    (J 1 2 M1 ⟨tsOf [(0, (.dat 28 (.lst x0))), (1, (.dat 9 (.str x1))), (7, (.dat 3 (.int x2))), (8, (.dat 3 (.int (IntKind.wrap IntKind.i64 (x3 + (1 : Int))))))], [], 0⟩ (l31 J m [1, 0, 1, 0] [] M1 ⟨tsOf [(0, (.dat 28 (.lst x0))), (1, (.dat 9 (.str x1))), (7, (.dat 3 (.int x2))), (8, (.dat 3 (.int (IntKind.wrap IntKind.i64 (x3 + (1 : Int))))))], [], 0⟩)) := fun J => by kernel_rfl
  exact (h jn).trans (by
    simp only [jn_eq, h1]
    rfl)
theorem path_field_j2_eq (m : Nat) (M1 : Nat) (rec1 : List Dt → ByteArray → Int → Int → Option (Int)) (h1 : ∀ (x0 : List Dt) (x1 : ByteArray) (x2 : Int) (x3 : Int), l31 jn m [1, 0, 1, 0] [] M1 ⟨tsOf [(0, (.dat 28 (.lst x0))), (1, (.dat 9 (.str x1))), (7, (.dat 3 (.int x2))), (8, (.dat 3 (.int x3)))], [], 0⟩ = rec1 x0 x1 x2 x3) (x0 : List Dt) (x1 : ByteArray) (x2 : Int) (x3 : Int) : e31 jn m [1, 0, 1, 0, 0, 1, 1] [M1] ⟨tsOf [(0, (.dat 28 (.lst x0))), (1, (.dat 9 (.str x1))), (7, (.dat 3 (.int x2))), (8, (.dat 3 (.int x3)))], [], 0⟩ = path_field_j2 m rec1 x0 x1 x2 x3 := by
  have h : ∀ J, e31 J m [1, 0, 1, 0, 0, 1, 1] [M1] ⟨tsOf [(0, (.dat 28 (.lst x0))), (1, (.dat 9 (.str x1))), (7, (.dat 3 (.int x2))), (8, (.dat 3 (.int x3)))], [], 0⟩ =
    ((idx x0 x3).bind fun v0 =>
      (bif ((ByteArray.toList (Dt.S v0 0)) == (ByteArray.toList x1)) then
        some x3
      else
        (J 0 6 0 ⟨tsOf [(0, (.dat 28 (.lst x0))), (1, (.dat 9 (.str x1))), (7, (.dat 3 (.int x2))), (8, (.dat 3 (.int x3)))], [], 0⟩ (e31 J m [1, 0, 1, 0, 0, 1, 1, 1] [M1] ⟨tsOf [(0, (.dat 28 (.lst x0))), (1, (.dat 9 (.str x1))), (7, (.dat 3 (.int x2))), (8, (.dat 3 (.int x3)))], [], 0⟩)))) := fun J => by kernel_rfl
  exact (h jn).trans (by
    simp only [jn_eq, path_field_j3_eq m M1 rec1 h1]
    rfl)
theorem path_field_j4_eq (m : Nat) : e31 jn m [1, 1] [] ⟨tsOf [], [], 0⟩ = path_field_j4 m := by
  have h : ∀ J, e31 J m [1, 1] [] ⟨tsOf [], [], 0⟩ =
    some (-1 : Int) := fun J => by kernel_rfl
  exact (h jn).trans (rfl)
theorem path_field_l1_eq (m : Nat) : ∀ (M1 : Nat) (x0 : List Dt) (x1 : ByteArray) (x2 : Int) (x3 : Int), l31 jn m [1, 0, 1, 0] [] M1 ⟨tsOf [(0, (.dat 28 (.lst x0))), (1, (.dat 9 (.str x1))), (7, (.dat 3 (.int x2))), (8, (.dat 3 (.int x3)))], [], 0⟩ = path_field_l1 m M1 x0 x1 x2 x3
  | 0, _, _, _, _ => rfl
  | M1 + 1, x0, x1, x2, x3 => by
    have h : ∀ J, l31 J m [1, 0, 1, 0] [] (M1 + 1) ⟨tsOf [(0, (.dat 28 (.lst x0))), (1, (.dat 9 (.str x1))), (7, (.dat 3 (.int x2))), (8, (.dat 3 (.int x3)))], [], 0⟩ =
    (bif (decide (x3 < x2)) then
      (J 0 3 0 ⟨tsOf [(0, (.dat 28 (.lst x0))), (1, (.dat 9 (.str x1))), (7, (.dat 3 (.int x2))), (8, (.dat 3 (.int x3)))], [], 0⟩ (e31 J m [1, 0, 1, 0, 0, 1, 1] [M1] ⟨tsOf [(0, (.dat 28 (.lst x0))), (1, (.dat 9 (.str x1))), (7, (.dat 3 (.int x2))), (8, (.dat 3 (.int x3)))], [], 0⟩))
    else
      (J 0 7 0 ⟨tsOf [], [], 0⟩ (e31 J m [1, 1] [] ⟨tsOf [], [], 0⟩))) := fun J => by kernel_rfl
    refine (h jn).trans ?_
    simp only [jn_eq, path_field_j2_eq m M1 (path_field_l1 m M1) (fun x0 x1 x2 x3 => path_field_l1_eq m M1 x0 x1 x2 x3), path_field_j4_eq m]
    rfl
theorem path_field_j0_eq (m : Nat) (x0 : List Dt) (x1 : ByteArray) (x2 : Int) (x3 : Int) : e31 jn m [1, 0, 1] [] ⟨tsOf [(0, (.dat 28 (.lst x0))), (1, (.dat 9 (.str x1))), (7, (.dat 3 (.int x2))), (8, (.dat 3 (.int x3)))], [], 0⟩ = path_field_j0 m x0 x1 x2 x3 := by
  have h : ∀ J, e31 J m [1, 0, 1] [] ⟨tsOf [(0, (.dat 28 (.lst x0))), (1, (.dat 9 (.str x1))), (7, (.dat 3 (.int x2))), (8, (.dat 3 (.int x3)))], [], 0⟩ =
    (J 1 2 (Nat.succ m) ⟨tsOf [(0, (.dat 28 (.lst x0))), (1, (.dat 9 (.str x1))), (7, (.dat 3 (.int x2))), (8, (.dat 3 (.int x3)))], [], 0⟩ (l31 J m [1, 0, 1, 0] [] (Nat.succ m) ⟨tsOf [(0, (.dat 28 (.lst x0))), (1, (.dat 9 (.str x1))), (7, (.dat 3 (.int x2))), (8, (.dat 3 (.int x3)))], [], 0⟩)) := fun J => by kernel_rfl
  exact (h jn).trans (by
    simp only [jn_eq, path_field_l1_eq m]
    rfl)
theorem path_field_eq (m : Nat) (a0 : List Dt) (a1 : ByteArray) : e31 jn m [] [] ⟨[(.dat 28 (.lst a0)), (.dat 9 (.str a1))], [], 0⟩ = path_field (m + 1) a0 a1 := by
  have h : ∀ J, e31 J m [] [] ⟨[(.dat 28 (.lst a0)), (.dat 9 (.str a1))], [], 0⟩ =
    (J 0 2 0 ⟨tsOf [(0, (.dat 28 (.lst a0))), (1, (.dat 9 (.str a1))), (7, (.dat 3 (.int (((List.length a0) : Nat) : Int)))), (8, (.dat 3 (.int (0 : Int))))], [], 0⟩ (e31 J m [1, 0, 1] [] ⟨tsOf [(0, (.dat 28 (.lst a0))), (1, (.dat 9 (.str a1))), (7, (.dat 3 (.int (((List.length a0) : Nat) : Int)))), (8, (.dat 3 (.int (0 : Int))))], [], 0⟩)) := fun J => by kernel_rfl
  refine (h jn).trans ?_
  simp only [jn_eq, path_field_j0_eq m]
  rfl
noncomputable def d32 (q : Res) : Option (Int × Bool) := match q with
  | (.tup [.dat T0 x0, .dat T1 x1], []) => bif (Nat.beq T0 3 && Nat.beq T1 4) then some (x0.toInt, x1.toBool) else none
  | _ => none
theorem d32_sim {b : Res} {r : Int × Bool} (h : d32 b = some r) : Sim Tryd.prog b ((.tup [(.dat 3 (.int r.1)), (.dat 4 (.bool r.2))]), []) := by
  unfold d32 at h
  split at h
  · obtain ⟨hc, h2⟩ := bif_some h
    cases h2
    have e0 := beq_eq (and_l hc)
    have e1 := beq_eq (and_r hc)
    subst e0 e1
    exact Sim.of (.tup (.cons (.dat (.int Tryd.underlying3)) (.cons (.dat (.bool Tryd.underlying4)) .nil))) .nil
  · cases h
noncomputable def e32 (J : Nat → Nat → Nat → St → Option (Int × Bool) → Option (Int × Bool)) (m : Nat) (p ms : List Nat) (σ : St) := evAt Tryd.prog env (ct m) J (m + 1) 77 49 Tryd.f77 d32 p ms σ
noncomputable def l32 (J : Nat → Nat → Nat → St → Option (Int × Bool) → Option (Int × Bool)) (m : Nat) (p ms : List Nat) (M : Nat) (σ : St) := loopAt Tryd.prog env (ct m) J (m + 1) 77 49 Tryd.f77 d32 p ms M σ
theorem path_Number_j5_eq (m : Nat) (M2 : Nat) (rec2 : ByteArray → Int → Int → Int → Option (Int × Bool)) (h2 : ∀ (x0 : ByteArray) (x1 : Int) (x2 : Int) (x3 : Int), l32 jn m [1, 1, 1, 0, 1, 0] [] M2 ⟨tsOf [(0, (.dat 9 (.str x0))), (4, (.dat 3 (.int x1))), (25, (.dat 3 (.int x2))), (26, (.dat 3 (.int x3)))], [], 0⟩ = rec2 x0 x1 x2 x3) (x0 : ByteArray) (x1 : Int) (x2 : Int) (x3 : Int) : e32 jn m [1, 1, 1, 0, 1, 0, 0, 1, 1, 1] [M2] ⟨tsOf [(0, (.dat 9 (.str x0))), (4, (.dat 3 (.int x1))), (25, (.dat 3 (.int x2))), (26, (.dat 3 (.int x3)))], [], 0⟩ = path_Number_j5 m rec2 x0 x1 x2 x3 := by
  have h : ∀ J, e32 J m [1, 1, 1, 0, 1, 0, 0, 1, 1, 1] [M2] ⟨tsOf [(0, (.dat 9 (.str x0))), (4, (.dat 3 (.int x1))), (25, (.dat 3 (.int x2))), (26, (.dat 3 (.int x3)))], [], 0⟩ =
    (J 1 5 M2 ⟨tsOf [(0, (.dat 9 (.str x0))), (4, (.dat 3 (.int x1))), (25, (.dat 3 (.int x2))), (26, (.dat 3 (.int (IntKind.wrap IntKind.i64 (x3 + (1 : Int))))))], [], 0⟩ (l32 J m [1, 1, 1, 0, 1, 0] [] M2 ⟨tsOf [(0, (.dat 9 (.str x0))), (4, (.dat 3 (.int x1))), (25, (.dat 3 (.int x2))), (26, (.dat 3 (.int (IntKind.wrap IntKind.i64 (x3 + (1 : Int))))))], [], 0⟩)) := fun J => by kernel_rfl
  exact (h jn).trans (by
    simp only [jn_eq, h2]
    rfl)
theorem path_Number_j4_eq (m : Nat) (M2 : Nat) (rec2 : ByteArray → Int → Int → Int → Option (Int × Bool)) (h2 : ∀ (x0 : ByteArray) (x1 : Int) (x2 : Int) (x3 : Int), l32 jn m [1, 1, 1, 0, 1, 0] [] M2 ⟨tsOf [(0, (.dat 9 (.str x0))), (4, (.dat 3 (.int x1))), (25, (.dat 3 (.int x2))), (26, (.dat 3 (.int x3)))], [], 0⟩ = rec2 x0 x1 x2 x3) (x0 : ByteArray) (x1 : Int) (x2 : Int) (x3 : Int) (x4 : Int) : e32 jn m [1, 1, 1, 0, 1, 0, 0, 1, 1, 0, 0, 1, 1] [M2] ⟨tsOf [(0, (.dat 9 (.str x0))), (4, (.dat 3 (.int x1))), (5, (.dat 3 (.int x2))), (25, (.dat 3 (.int x3))), (26, (.dat 3 (.int x4)))], [], 0⟩ = path_Number_j4 m rec2 x0 x1 x2 x3 x4 := by
  have h : ∀ J, e32 J m [1, 1, 1, 0, 1, 0, 0, 1, 1, 0, 0, 1, 1] [M2] ⟨tsOf [(0, (.dat 9 (.str x0))), (4, (.dat 3 (.int x1))), (5, (.dat 3 (.int x2))), (25, (.dat 3 (.int x3))), (26, (.dat 3 (.int x4)))], [], 0⟩ =
    ((idxS x0 x2).bind fun v3 =>
      (J 0 10 0 ⟨tsOf [(0, (.dat 9 (.str x0))), (4, (.dat 3 (.int (IntKind.wrap IntKind.i64 ((IntKind.wrap IntKind.i64 ((10 : Int) * x1)) + (IntKind.wrap IntKind.i64 (IntKind.wrap IntKind.u8 (v3 - (48 : Int))))))))), (25, (.dat 3 (.int x3))), (26, (.dat 3 (.int x4)))], [], 0⟩ (e32 J m [1, 1, 1, 0, 1, 0, 0, 1, 1, 1] [M2] ⟨tsOf [(0, (.dat 9 (.str x0))), (4, (.dat 3 (.int (IntKind.wrap IntKind.i64 ((IntKind.wrap IntKind.i64 ((10 : Int) * x1)) + (IntKind.wrap IntKind.i64 (IntKind.wrap IntKind.u8 (v3 - (48 : Int))))))))), (25, (.dat 3 (.int x3))), (26, (.dat 3 (.int x4)))], [], 0⟩))) := fun J => by kernel_rfl
  exact (h jn).trans (by
    simp only [jn_eq, path_Number_j5_eq m M2 rec2 h2]
    rfl)
theorem path_Number_j3_eq (m : Nat) (M2 : Nat) (rec2 : ByteArray → Int → Int → Int → Option (Int × Bool)) (h2 : ∀ (x0 : ByteArray) (x1 : Int) (x2 : Int) (x3 : Int), l32 jn m [1, 1, 1, 0, 1, 0] [] M2 ⟨tsOf [(0, (.dat 9 (.str x0))), (4, (.dat 3 (.int x1))), (25, (.dat 3 (.int x2))), (26, (.dat 3 (.int x3)))], [], 0⟩ = rec2 x0 x1 x2 x3) (x0 : ByteArray) (x1 : Int) (x2 : Int) (x3 : Int) : e32 jn m [1, 1, 1, 0, 1, 0, 0, 1, 1] [M2] ⟨tsOf [(0, (.dat 9 (.str x0))), (4, (.dat 3 (.int x1))), (25, (.dat 3 (.int x2))), (26, (.dat 3 (.int x3)))], [], 0⟩ = path_Number_j3 m rec2 x0 x1 x2 x3 := by
  have h : ∀ J, e32 J m [1, 1, 1, 0, 1, 0, 0, 1, 1] [M2] ⟨tsOf [(0, (.dat 9 (.str x0))), (4, (.dat 3 (.int x1))), (25, (.dat 3 (.int x2))), (26, (.dat 3 (.int x3)))], [], 0⟩ =
    ((idxS x0 x3).bind fun v1 =>
      (bif (decide (v1 < (48 : Int))) then
        some ((0 : Int), Bool.false)
      else
        ((idxS x0 x3).bind fun v2 =>
          (bif (decide ((57 : Int) < v2)) then
            some ((0 : Int), Bool.false)
          else
            (J 0 9 0 ⟨tsOf [(0, (.dat 9 (.str x0))), (4, (.dat 3 (.int x1))), (5, (.dat 3 (.int x3))), (25, (.dat 3 (.int x2))), (26, (.dat 3 (.int x3)))], [], 0⟩ (e32 J m [1, 1, 1, 0, 1, 0, 0, 1, 1, 0, 0, 1, 1] [M2] ⟨tsOf [(0, (.dat 9 (.str x0))), (4, (.dat 3 (.int x1))), (5, (.dat 3 (.int x3))), (25, (.dat 3 (.int x2))), (26, (.dat 3 (.int x3)))], [], 0⟩)))))) := fun J => by kernel_rfl
  exact (h jn).trans (by
    simp only [jn_eq, path_Number_j4_eq m M2 rec2 h2]
    rfl)
theorem path_Number_j6_eq (m : Nat) (x0 : Int) : e32 jn m [1, 1, 1, 1] [] ⟨tsOf [(4, (.dat 3 (.int x0)))], [], 0⟩ = path_Number_j6 m x0 := by
  have h : ∀ J, e32 J m [1, 1, 1, 1] [] ⟨tsOf [(4, (.dat 3 (.int x0)))], [], 0⟩ =
    some (x0, Bool.true) := fun J => by kernel_rfl
  exact (h jn).trans (rfl)
theorem path_Number_l2_eq (m : Nat) : ∀ (M2 : Nat) (x0 : ByteArray) (x1 : Int) (x2 : Int) (x3 : Int), l32 jn m [1, 1, 1, 0, 1, 0] [] M2 ⟨tsOf [(0, (.dat 9 (.str x0))), (4, (.dat 3 (.int x1))), (25, (.dat 3 (.int x2))), (26, (.dat 3 (.int x3)))], [], 0⟩ = path_Number_l2 m M2 x0 x1 x2 x3
  | 0, _, _, _, _ => rfl
  | M2 + 1, x0, x1, x2, x3 => by
    have h : ∀ J, l32 J m [1, 1, 1, 0, 1, 0] [] (M2 + 1) ⟨tsOf [(0, (.dat 9 (.str x0))), (4, (.dat 3 (.int x1))), (25, (.dat 3 (.int x2))), (26, (.dat 3 (.int x3)))], [], 0⟩ =
    (bif (decide (x3 < x2)) then
      (J 0 6 0 ⟨tsOf [(0, (.dat 9 (.str x0))), (4, (.dat 3 (.int x1))), (25, (.dat 3 (.int x2))), (26, (.dat 3 (.int x3)))], [], 0⟩ (e32 J m [1, 1, 1, 0, 1, 0, 0, 1, 1] [M2] ⟨tsOf [(0, (.dat 9 (.str x0))), (4, (.dat 3 (.int x1))), (25, (.dat 3 (.int x2))), (26, (.dat 3 (.int x3)))], [], 0⟩))
    else
      (J 0 11 0 ⟨tsOf [(4, (.dat 3 (.int x1)))], [], 0⟩ (e32 J m [1, 1, 1, 1] [] ⟨tsOf [(4, (.dat 3 (.int x1)))], [], 0⟩))) := fun J => by kernel_rfl
    refine (h jn).trans ?_
    simp only [jn_eq, path_Number_j3_eq m M2 (path_Number_l2 m M2) (fun x0 x1 x2 x3 => path_Number_l2_eq m M2 x0 x1 x2 x3), path_Number_j6_eq m]
    rfl
theorem path_Number_j1_eq (m : Nat) (x0 : ByteArray) (x1 : Int) (x2 : Int) (x3 : Int) : e32 jn m [1, 1, 1, 0, 1] [] ⟨tsOf [(0, (.dat 9 (.str x0))), (4, (.dat 3 (.int x1))), (25, (.dat 3 (.int x2))), (26, (.dat 3 (.int x3)))], [], 0⟩ = path_Number_j1 m x0 x1 x2 x3 := by
  have h : ∀ J, e32 J m [1, 1, 1, 0, 1] [] ⟨tsOf [(0, (.dat 9 (.str x0))), (4, (.dat 3 (.int x1))), (25, (.dat 3 (.int x2))), (26, (.dat 3 (.int x3)))], [], 0⟩ =
    (J 1 5 (Nat.succ m) ⟨tsOf [(0, (.dat 9 (.str x0))), (4, (.dat 3 (.int x1))), (25, (.dat 3 (.int x2))), (26, (.dat 3 (.int x3)))], [], 0⟩ (l32 J m [1, 1, 1, 0, 1, 0] [] (Nat.succ m) ⟨tsOf [(0, (.dat 9 (.str x0))), (4, (.dat 3 (.int x1))), (25, (.dat 3 (.int x2))), (26, (.dat 3 (.int x3)))], [], 0⟩)) := fun J => by kernel_rfl
  exact (h jn).trans (by
    simp only [jn_eq, path_Number_l2_eq m]
    rfl)
theorem path_Number_j0_eq (m : Nat) (x0 : ByteArray) : e32 jn m [1, 1] [] ⟨tsOf [(0, (.dat 9 (.str x0)))], [], 0⟩ = path_Number_j0 m x0 := by
  have h : ∀ J, e32 J m [1, 1] [] ⟨tsOf [(0, (.dat 9 (.str x0)))], [], 0⟩ =
    (J 0 5 0 ⟨tsOf [(0, (.dat 9 (.str x0))), (4, (.dat 3 (.int (0 : Int)))), (25, (.dat 3 (.int (((ByteArray.size x0) : Nat) : Int)))), (26, (.dat 3 (.int (0 : Int))))], [], 0⟩ (e32 J m [1, 1, 1, 0, 1] [] ⟨tsOf [(0, (.dat 9 (.str x0))), (4, (.dat 3 (.int (0 : Int)))), (25, (.dat 3 (.int (((ByteArray.size x0) : Nat) : Int)))), (26, (.dat 3 (.int (0 : Int))))], [], 0⟩)) := fun J => by kernel_rfl
  exact (h jn).trans (by
    simp only [jn_eq, path_Number_j1_eq m]
    rfl)
theorem path_Number_eq (m : Nat) (a0 : ByteArray) : e32 jn m [] [] ⟨[(.dat 9 (.str a0))], [], 0⟩ = path_Number (m + 1) a0 := by
  have h : ∀ J, e32 J m [] [] ⟨[(.dat 9 (.str a0))], [], 0⟩ =
    (bif (decide ((((ByteArray.size a0) : Nat) : Int) < (1 : Int))) then
      some ((0 : Int), Bool.false)
    else
      (bif (decide ((4 : Int) < (((ByteArray.size a0) : Nat) : Int))) then
        some ((0 : Int), Bool.false)
      else
        ((idxS a0 (0 : Int)).bind fun v0 =>
          (bif (v0 == (48 : Int)) then
            (bif (decide ((1 : Int) < (((ByteArray.size a0) : Nat) : Int))) then
              some ((0 : Int), Bool.false)
            else
              (J 0 3 0 ⟨tsOf [(0, (.dat 9 (.str a0)))], [], 0⟩ (e32 J m [1, 1] [] ⟨tsOf [(0, (.dat 9 (.str a0)))], [], 0⟩)))
          else
            (J 0 3 0 ⟨tsOf [(0, (.dat 9 (.str a0)))], [], 0⟩ (e32 J m [1, 1] [] ⟨tsOf [(0, (.dat 9 (.str a0)))], [], 0⟩)))))) := fun J => by kernel_rfl
  refine (h jn).trans ?_
  simp only [jn_eq, path_Number_j0_eq m]
  rfl
noncomputable def d30 (q : Res) : Option (List Dt) := match q with
  | (.row n0, [.gone, .row T1 x1]) => bif (Nat.beq n0 1 && Nat.beq T1 27) then some x1 else none
  | _ => none
theorem d30_sim {b : Res} {r : List Dt} (h : d30 b = some r) : Sim Tryd.prog b ((.row 1), [.gone, (.row 27 r)]) := by
  unfold d30 at h
  split at h
  · obtain ⟨hc, h2⟩ := bif_some h
    cases h2
    have e0 := beq_eq (and_l hc)
    have e1 := beq_eq (and_r hc)
    subst e0 e1
    exact Sim.of (.of .same rfl rfl) (.cons .same (.cons .same .nil))
  · cases h
noncomputable def e30 (J : Nat → Nat → Nat → St → Option (List Dt) → Option (List Dt)) (m : Nat) (p ms : List Nat) (σ : St) := evAt Tryd.prog env (ct m) J (m + 1) 64 83 Tryd.f64 d30 p ms σ
noncomputable def l30 (J : Nat → Nat → Nat → St → Option (List Dt) → Option (List Dt)) (m : Nat) (p ms : List Nat) (M : Nat) (σ : St) := loopAt Tryd.prog env (ct m) J (m + 1) 64 83 Tryd.f64 d30 p ms M σ
theorem path_pass_i30_j1_eq (m : Nat) (x0 : List Dt) : e30 jn m [1, 1, 1] [] ⟨tsOf [(0, (.row 1))], [.gone, (.row 27 x0)], 1⟩ = path_pass_i30_j1 m (path_pass_i30 m) x0 := by
  have h : ∀ J, e30 J m [1, 1, 1] [] ⟨tsOf [(0, (.row 1))], [.gone, (.row 27 x0)], 1⟩ =
    some x0 := fun J => by kernel_rfl
  exact (h jn).trans (rfl)
theorem path_pass_i30_j5_eq (m : Nat) (M3 : Nat) (rec3 : List Dt → List Dt → Int → Int → List Dt → Dt → Option (List Dt)) (h3 : ∀ (x0 : List Dt) (x1 : List Dt) (x2 : Int) (x3 : Int) (x4 : List Dt) (x5 : Dt), l30 jn m [1, 1, 0, 1, 0, 1, 1, 1, 0, 0, 1, 0] [] M3 ⟨tsOf [(0, (.row 1)), (2, (.dat 45 (.lst x0))), (4, (.ptr 2 [] 0)), (44, (.dat 27 (.lst x1))), (45, (.dat 3 (.int x2))), (46, (.dat 3 (.int x3)))], [.gone, (.row 27 x4), (.box 30 (.dat 30 x5))], 1⟩ = rec3 x0 x1 x2 x3 x4 x5) (x0 : List Dt) (x1 : List Dt) (x2 : Int) (x3 : Int) (x4 : List Dt) (x5 : Dt) : e30 jn m [1, 1, 0, 1, 0, 1, 1, 1, 0, 0, 1, 0, 0, 1, 1, 1] [M3] ⟨tsOf [(0, (.row 1)), (2, (.dat 45 (.lst x0))), (4, (.ptr 2 [] 0)), (44, (.dat 27 (.lst x1))), (45, (.dat 3 (.int x2))), (46, (.dat 3 (.int x3)))], [.gone, (.row 27 x4), (.box 30 (.dat 30 x5))], 1⟩ = path_pass_i30_j5 m (path_pass_i30 m) rec3 x0 x1 x2 x3 x4 x5 := by
  have h : ∀ J, e30 J m [1, 1, 0, 1, 0, 1, 1, 1, 0, 0, 1, 0, 0, 1, 1, 1] [M3] ⟨tsOf [(0, (.row 1)), (2, (.dat 45 (.lst x0))), (4, (.ptr 2 [] 0)), (44, (.dat 27 (.lst x1))), (45, (.dat 3 (.int x2))), (46, (.dat 3 (.int x3)))], [.gone, (.row 27 x4), (.box 30 (.dat 30 x5))], 1⟩ =
    (J 1 10 M3 ⟨tsOf [(0, (.row 1)), (2, (.dat 45 (.lst x0))), (4, (.ptr 2 [] 0)), (44, (.dat 27 (.lst x1))), (45, (.dat 3 (.int x2))), (46, (.dat 3 (.int (IntKind.wrap IntKind.i64 (x3 + (1 : Int))))))], [.gone, (.row 27 x4), (.box 30 (.dat 30 x5))], 1⟩ (l30 J m [1, 1, 0, 1, 0, 1, 1, 1, 0, 0, 1, 0] [] M3 ⟨tsOf [(0, (.row 1)), (2, (.dat 45 (.lst x0))), (4, (.ptr 2 [] 0)), (44, (.dat 27 (.lst x1))), (45, (.dat 3 (.int x2))), (46, (.dat 3 (.int (IntKind.wrap IntKind.i64 (x3 + (1 : Int))))))], [.gone, (.row 27 x4), (.box 30 (.dat 30 x5))], 1⟩)) := fun J => by kernel_rfl
  exact (h jn).trans (by
    simp only [jn_eq, h3]
    rfl)
theorem path_pass_i30_j4_eq (m : Nat) (M3 : Nat) (rec3 : List Dt → List Dt → Int → Int → List Dt → Dt → Option (List Dt)) (h3 : ∀ (x0 : List Dt) (x1 : List Dt) (x2 : Int) (x3 : Int) (x4 : List Dt) (x5 : Dt), l30 jn m [1, 1, 0, 1, 0, 1, 1, 1, 0, 0, 1, 0] [] M3 ⟨tsOf [(0, (.row 1)), (2, (.dat 45 (.lst x0))), (4, (.ptr 2 [] 0)), (44, (.dat 27 (.lst x1))), (45, (.dat 3 (.int x2))), (46, (.dat 3 (.int x3)))], [.gone, (.row 27 x4), (.box 30 (.dat 30 x5))], 1⟩ = rec3 x0 x1 x2 x3 x4 x5) (x0 : List Dt) (x1 : List Dt) (x2 : Int) (x3 : Int) (x4 : List Dt) (x5 : Dt) : e30 jn m [1, 1, 0, 1, 0, 1, 1, 1, 0, 0, 1, 0, 0, 1, 1] [M3] ⟨tsOf [(0, (.row 1)), (2, (.dat 45 (.lst x0))), (4, (.ptr 2 [] 0)), (44, (.dat 27 (.lst x1))), (45, (.dat 3 (.int x2))), (46, (.dat 3 (.int x3)))], [.gone, (.row 27 x4), (.box 30 (.dat 30 x5))], 1⟩ = path_pass_i30_j4 m (path_pass_i30 m) rec3 x0 x1 x2 x3 x4 x5 := by
  have h : ∀ J, e30 J m [1, 1, 0, 1, 0, 1, 1, 1, 0, 0, 1, 0, 0, 1, 1] [M3] ⟨tsOf [(0, (.row 1)), (2, (.dat 45 (.lst x0))), (4, (.ptr 2 [] 0)), (44, (.dat 27 (.lst x1))), (45, (.dat 3 (.int x2))), (46, (.dat 3 (.int x3)))], [.gone, (.row 27 x4), (.box 30 (.dat 30 x5))], 1⟩ =
    ((idx x1 x3).bind fun v6 =>
      (bif ((Dt.I v6 0) == (5 : Int)) then
        ((path_pass_i30 m v6 x0 x4).bind fun r7 =>
          (J 0 14 0 ⟨tsOf [(0, (.row 1)), (2, (.dat 45 (.lst x0))), (4, (.ptr 2 [] 0)), (44, (.dat 27 (.lst x1))), (45, (.dat 3 (.int x2))), (46, (.dat 3 (.int x3)))], [.gone, (.row 27 r7), (.box 30 (.dat 30 x5))], 1⟩ (e30 J m [1, 1, 0, 1, 0, 1, 1, 1, 0, 0, 1, 0, 0, 1, 1, 1] [M3] ⟨tsOf [(0, (.row 1)), (2, (.dat 45 (.lst x0))), (4, (.ptr 2 [] 0)), (44, (.dat 27 (.lst x1))), (45, (.dat 3 (.int x2))), (46, (.dat 3 (.int x3)))], [.gone, (.row 27 r7), (.box 30 (.dat 30 x5))], 1⟩)))
      else
        (J 0 14 0 ⟨tsOf [(0, (.row 1)), (2, (.dat 45 (.lst x0))), (4, (.ptr 2 [] 0)), (44, (.dat 27 (.lst x1))), (45, (.dat 3 (.int x2))), (46, (.dat 3 (.int x3)))], [.gone, (.row 27 x4), (.box 30 (.dat 30 x5))], 1⟩ (e30 J m [1, 1, 0, 1, 0, 1, 1, 1, 0, 0, 1, 0, 0, 1, 1, 1] [M3] ⟨tsOf [(0, (.row 1)), (2, (.dat 45 (.lst x0))), (4, (.ptr 2 [] 0)), (44, (.dat 27 (.lst x1))), (45, (.dat 3 (.int x2))), (46, (.dat 3 (.int x3)))], [.gone, (.row 27 x4), (.box 30 (.dat 30 x5))], 1⟩)))) := fun J => by kernel_rfl
  exact (h jn).trans (by
    simp only [jn_eq, path_pass_i30_j5_eq m M3 rec3 h3]
    rfl)
theorem path_pass_i30_j6_eq (m : Nat) (x0 : List Dt) (x1 : List Dt) (x2 : Dt) : e30 jn m [1, 1, 0, 1, 0, 1, 1, 1, 0, 1] [] ⟨tsOf [(0, (.row 1)), (2, (.dat 45 (.lst x0))), (4, (.ptr 2 [] 0))], [.gone, (.row 27 x1), (.box 30 (.dat 30 x2))], 1⟩ = path_pass_i30_j6 m (path_pass_i30 m) x0 x1 x2 := by
  have h : ∀ J, e30 J m [1, 1, 0, 1, 0, 1, 1, 1, 0, 1] [] ⟨tsOf [(0, (.row 1)), (2, (.dat 45 (.lst x0))), (4, (.ptr 2 [] 0))], [.gone, (.row 27 x1), (.box 30 (.dat 30 x2))], 1⟩ =
    ((idx x0 (0 : Int)).bind fun v8 =>
      ((path_Number m (Dt.toStr v8)).bind fun r9 =>
        (bif (Prod.snd r9) then
          (bif (decide ((Prod.fst r9) < (((List.length (Dt.L x2 3)) : Nat) : Int))) then
            ((idx (Dt.L x2 3) (Prod.fst r9)).bind fun v10 =>
              ((cutL x0 (1 : Int) (((List.length x0) : Nat) : Int)).bind fun v11 =>
                ((path_pass_i30 m v10 v11 x1).bind fun r12 =>
                  (J 0 18 0 ⟨tsOf [(0, (.row 1))], [.gone, (.row 27 r12)], 1⟩ (e30 J m [1, 1, 1] [] ⟨tsOf [(0, (.row 1))], [.gone, (.row 27 r12)], 1⟩)))))
          else
            (J 0 18 0 ⟨tsOf [(0, (.row 1))], [.gone, (.row 27 x1)], 1⟩ (e30 J m [1, 1, 1] [] ⟨tsOf [(0, (.row 1))], [.gone, (.row 27 x1)], 1⟩)))
        else
          (J 0 18 0 ⟨tsOf [(0, (.row 1))], [.gone, (.row 27 x1)], 1⟩ (e30 J m [1, 1, 1] [] ⟨tsOf [(0, (.row 1))], [.gone, (.row 27 x1)], 1⟩))))) := fun J => by kernel_rfl
  exact (h jn).trans (by
    simp only [jn_eq, path_pass_i30_j1_eq m]
    rfl)
theorem path_pass_i30_l3_eq (m : Nat) : ∀ (M3 : Nat) (x0 : List Dt) (x1 : List Dt) (x2 : Int) (x3 : Int) (x4 : List Dt) (x5 : Dt), l30 jn m [1, 1, 0, 1, 0, 1, 1, 1, 0, 0, 1, 0] [] M3 ⟨tsOf [(0, (.row 1)), (2, (.dat 45 (.lst x0))), (4, (.ptr 2 [] 0)), (44, (.dat 27 (.lst x1))), (45, (.dat 3 (.int x2))), (46, (.dat 3 (.int x3)))], [.gone, (.row 27 x4), (.box 30 (.dat 30 x5))], 1⟩ = path_pass_i30_l3 m (path_pass_i30 m) M3 x0 x1 x2 x3 x4 x5
  | 0, _, _, _, _, _, _ => rfl
  | M3 + 1, x0, x1, x2, x3, x4, x5 => by
    have h : ∀ J, l30 J m [1, 1, 0, 1, 0, 1, 1, 1, 0, 0, 1, 0] [] (M3 + 1) ⟨tsOf [(0, (.row 1)), (2, (.dat 45 (.lst x0))), (4, (.ptr 2 [] 0)), (44, (.dat 27 (.lst x1))), (45, (.dat 3 (.int x2))), (46, (.dat 3 (.int x3)))], [.gone, (.row 27 x4), (.box 30 (.dat 30 x5))], 1⟩ =
    (bif (decide (x3 < x2)) then
      (J 0 11 0 ⟨tsOf [(0, (.row 1)), (2, (.dat 45 (.lst x0))), (4, (.ptr 2 [] 0)), (44, (.dat 27 (.lst x1))), (45, (.dat 3 (.int x2))), (46, (.dat 3 (.int x3)))], [.gone, (.row 27 x4), (.box 30 (.dat 30 x5))], 1⟩ (e30 J m [1, 1, 0, 1, 0, 1, 1, 1, 0, 0, 1, 0, 0, 1, 1] [M3] ⟨tsOf [(0, (.row 1)), (2, (.dat 45 (.lst x0))), (4, (.ptr 2 [] 0)), (44, (.dat 27 (.lst x1))), (45, (.dat 3 (.int x2))), (46, (.dat 3 (.int x3)))], [.gone, (.row 27 x4), (.box 30 (.dat 30 x5))], 1⟩))
    else
      (J 0 15 0 ⟨tsOf [(0, (.row 1)), (2, (.dat 45 (.lst x0))), (4, (.ptr 2 [] 0))], [.gone, (.row 27 x4), (.box 30 (.dat 30 x5))], 1⟩ (e30 J m [1, 1, 0, 1, 0, 1, 1, 1, 0, 1] [] ⟨tsOf [(0, (.row 1)), (2, (.dat 45 (.lst x0))), (4, (.ptr 2 [] 0))], [.gone, (.row 27 x4), (.box 30 (.dat 30 x5))], 1⟩))) := fun J => by kernel_rfl
    refine (h jn).trans ?_
    simp only [jn_eq, path_pass_i30_j4_eq m M3 (path_pass_i30_l3 m (path_pass_i30 m) M3) (fun x0 x1 x2 x3 x4 x5 => path_pass_i30_l3_eq m M3 x0 x1 x2 x3 x4 x5), path_pass_i30_j6_eq m]
    rfl
theorem path_pass_i30_j2_eq (m : Nat) (x0 : List Dt) (x1 : List Dt) (x2 : Int) (x3 : Int) (x4 : List Dt) (x5 : Dt) : e30 jn m [1, 1, 0, 1, 0, 1, 1, 1, 0, 0, 1] [] ⟨tsOf [(0, (.row 1)), (2, (.dat 45 (.lst x0))), (4, (.ptr 2 [] 0)), (44, (.dat 27 (.lst x1))), (45, (.dat 3 (.int x2))), (46, (.dat 3 (.int x3)))], [.gone, (.row 27 x4), (.box 30 (.dat 30 x5))], 1⟩ = path_pass_i30_j2 m (path_pass_i30 m) x0 x1 x2 x3 x4 x5 := by
  have h : ∀ J, e30 J m [1, 1, 0, 1, 0, 1, 1, 1, 0, 0, 1] [] ⟨tsOf [(0, (.row 1)), (2, (.dat 45 (.lst x0))), (4, (.ptr 2 [] 0)), (44, (.dat 27 (.lst x1))), (45, (.dat 3 (.int x2))), (46, (.dat 3 (.int x3)))], [.gone, (.row 27 x4), (.box 30 (.dat 30 x5))], 1⟩ =
    (J 1 10 (Nat.succ m) ⟨tsOf [(0, (.row 1)), (2, (.dat 45 (.lst x0))), (4, (.ptr 2 [] 0)), (44, (.dat 27 (.lst x1))), (45, (.dat 3 (.int x2))), (46, (.dat 3 (.int x3)))], [.gone, (.row 27 x4), (.box 30 (.dat 30 x5))], 1⟩ (l30 J m [1, 1, 0, 1, 0, 1, 1, 1, 0, 0, 1, 0] [] (Nat.succ m) ⟨tsOf [(0, (.row 1)), (2, (.dat 45 (.lst x0))), (4, (.ptr 2 [] 0)), (44, (.dat 27 (.lst x1))), (45, (.dat 3 (.int x2))), (46, (.dat 3 (.int x3)))], [.gone, (.row 27 x4), (.box 30 (.dat 30 x5))], 1⟩)) := fun J => by kernel_rfl
  exact (h jn).trans (by
    simp only [jn_eq, path_pass_i30_l3_eq m]
    rfl)
theorem path_pass_i30_j0_eq (m : Nat) (x0 : List Dt) (x1 : List Dt) (x2 : Dt) : e30 jn m [1, 1] [] ⟨tsOf [(0, (.row 1)), (2, (.dat 45 (.lst x0))), (4, (.ptr 2 [] 0))], [.gone, (.row 27 x1), (.box 30 (.dat 30 x2))], 1⟩ = path_pass_i30_j0 m (path_pass_i30 m) x0 x1 x2 := by
  have h : ∀ J, e30 J m [1, 1] [] ⟨tsOf [(0, (.row 1)), (2, (.dat 45 (.lst x0))), (4, (.ptr 2 [] 0))], [.gone, (.row 27 x1), (.box 30 (.dat 30 x2))], 1⟩ =
    (bif ((Dt.I x2 0) == (5 : Int)) then
      ((idx x0 (0 : Int)).bind fun v1 =>
        ((path_field m (Dt.L x2 4) (Dt.toStr v1)).bind fun r2 =>
          (bif (decide ((0 : Int) ≤ r2)) then
            ((idx (Dt.L x2 4) r2).bind fun v3 =>
              ((cutL x0 (1 : Int) (((List.length x0) : Nat) : Int)).bind fun v4 =>
                ((path_pass_i30 m (Dt.fld v3 1) v4 x1).bind fun r5 =>
                  (J 0 18 0 ⟨tsOf [(0, (.row 1))], [.gone, (.row 27 r5)], 1⟩ (e30 J m [1, 1, 1] [] ⟨tsOf [(0, (.row 1))], [.gone, (.row 27 r5)], 1⟩)))))
          else
            (J 0 18 0 ⟨tsOf [(0, (.row 1))], [.gone, (.row 27 x1)], 1⟩ (e30 J m [1, 1, 1] [] ⟨tsOf [(0, (.row 1))], [.gone, (.row 27 x1)], 1⟩)))))
    else
      (bif ((Dt.I x2 0) == (6 : Int)) then
        (J 0 10 0 ⟨tsOf [(0, (.row 1)), (2, (.dat 45 (.lst x0))), (4, (.ptr 2 [] 0)), (44, (.dat 27 (.lst (Dt.L x2 3)))), (45, (.dat 3 (.int (((List.length (Dt.L x2 3)) : Nat) : Int)))), (46, (.dat 3 (.int (0 : Int))))], [.gone, (.row 27 x1), (.box 30 (.dat 30 x2))], 1⟩ (e30 J m [1, 1, 0, 1, 0, 1, 1, 1, 0, 0, 1] [] ⟨tsOf [(0, (.row 1)), (2, (.dat 45 (.lst x0))), (4, (.ptr 2 [] 0)), (44, (.dat 27 (.lst (Dt.L x2 3)))), (45, (.dat 3 (.int (((List.length (Dt.L x2 3)) : Nat) : Int)))), (46, (.dat 3 (.int (0 : Int))))], [.gone, (.row 27 x1), (.box 30 (.dat 30 x2))], 1⟩))
      else
        (J 0 18 0 ⟨tsOf [(0, (.row 1))], [.gone, (.row 27 x1)], 1⟩ (e30 J m [1, 1, 1] [] ⟨tsOf [(0, (.row 1))], [.gone, (.row 27 x1)], 1⟩)))) := fun J => by kernel_rfl
  exact (h jn).trans (by
    simp only [jn_eq, path_pass_i30_j1_eq m, path_pass_i30_j2_eq m]
    rfl)
theorem path_pass_i30_eq (m : Nat) (a0 : Dt) (a1 : List Dt) (a2 : List Dt) : e30 jn m [] [] ⟨[(.row 0), (.dat 30 a0), (.dat 45 (.lst a1))], [(.row 27 a2)], 1⟩ = path_pass_i30 (m + 1) a0 a1 a2 := by
  have h : ∀ J, e30 J m [] [] ⟨[(.row 0), (.dat 30 a0), (.dat 45 (.lst a1))], [(.row 27 a2)], 1⟩ =
    (bif ((((List.length a1) : Nat) : Int) == (0 : Int)) then
      ((app a2 [a0]).bind fun v0 =>
        some v0)
    else
      (J 0 3 0 ⟨tsOf [(0, (.row 1)), (2, (.dat 45 (.lst a1))), (4, (.ptr 2 [] 0))], [.gone, (.row 27 a2), (.box 30 (.dat 30 a0))], 1⟩ (e30 J m [1, 1] [] ⟨tsOf [(0, (.row 1)), (2, (.dat 45 (.lst a1))), (4, (.ptr 2 [] 0))], [.gone, (.row 27 a2), (.box 30 (.dat 30 a0))], 1⟩))) := fun J => by kernel_rfl
  refine (h jn).trans ?_
  simp only [jn_eq, path_pass_i30_j0_eq m]
  rfl
noncomputable def d33 (q : Res) : Option (Dt) := match q with
  | (.dat T0 x0, []) => bif Nat.beq T0 30 then some x0 else none
  | _ => none
theorem d33_sim {b : Res} {r : Dt} (h : d33 b = some r) : Sim Tryd.prog b ((.dat 30 r), []) := by
  unfold d33 at h
  split at h
  · obtain ⟨hc, h2⟩ := bif_some h
    cases h2
    have e0 := beq_eq hc
    subst e0
    exact Sim.of (.of .same rfl rfl) .nil
  · cases h
noncomputable def e33 (J : Nat → Nat → Nat → St → Option (Dt) → Option (Dt)) (m : Nat) (p ms : List Nat) (σ : St) := evAt Tryd.prog env (ct m) J (m + 1) 65 68 Tryd.f65 d33 p ms σ
noncomputable def l33 (J : Nat → Nat → Nat → St → Option (Dt) → Option (Dt)) (m : Nat) (p ms : List Nat) (M : Nat) (σ : St) := loopAt Tryd.prog env (ct m) J (m + 1) 65 68 Tryd.f65 d33 p ms M σ
theorem path_clone_j3_eq (m : Nat) (M1 : Nat) (rec1 : List Dt → Int → Int → Dt → Dt → Int → Int → ByteArray → List Dt → Option (Dt)) (h1 : ∀ (x0 : List Dt) (x1 : Int) (x2 : Int) (x3 : Dt) (x4 : Dt) (x5 : Int) (x6 : Int) (x7 : ByteArray) (x8 : List Dt), l33 jn m [1, 1, 0, 1, 0, 1, 1, 0] [] M1 ⟨tsOf [(1, (.ptr 0 [] 0)), (2, (.ptr 1 [] 0)), (3, (.ptr 2 [] 0)), (25, (.dat 27 (.lst x0))), (26, (.dat 3 (.int x1))), (27, (.dat 3 (.int x2)))], [(.box 30 (.dat 30 x3)), (.box 30 (.dat 30 x4)), (.box 30 (.agg 30 [(.dat 3 (.int x5)), (.dat 3 (.int x6)), (.dat 9 (.str x7)), (.row 3), (.nils 28)])), (.row 27 x8)], 0⟩ = rec1 x0 x1 x2 x3 x4 x5 x6 x7 x8) (x0 : List Dt) (x1 : Int) (x2 : Int) (x3 : Dt) (x4 : Dt) (x5 : Int) (x6 : Int) (x7 : ByteArray) (x8 : List Dt) : e33 jn m [1, 1, 0, 1, 0, 1, 1, 0, 0, 1, 1, 1] [M1] ⟨tsOf [(1, (.ptr 0 [] 0)), (2, (.ptr 1 [] 0)), (3, (.ptr 2 [] 0)), (25, (.dat 27 (.lst x0))), (26, (.dat 3 (.int x1))), (27, (.dat 3 (.int x2)))], [(.box 30 (.dat 30 x3)), (.box 30 (.dat 30 x4)), (.box 30 (.agg 30 [(.dat 3 (.int x5)), (.dat 3 (.int x6)), (.dat 9 (.str x7)), (.row 3), (.nils 28)])), (.row 27 x8)], 0⟩ = path_clone_j3 m (path_clone m) rec1 x0 x1 x2 x3 x4 x5 x6 x7 x8 := by
  have h : ∀ J, e33 J m [1, 1, 0, 1, 0, 1, 1, 0, 0, 1, 1, 1] [M1] ⟨tsOf [(1, (.ptr 0 [] 0)), (2, (.ptr 1 [] 0)), (3, (.ptr 2 [] 0)), (25, (.dat 27 (.lst x0))), (26, (.dat 3 (.int x1))), (27, (.dat 3 (.int x2)))], [(.box 30 (.dat 30 x3)), (.box 30 (.dat 30 x4)), (.box 30 (.agg 30 [(.dat 3 (.int x5)), (.dat 3 (.int x6)), (.dat 9 (.str x7)), (.row 3), (.nils 28)])), (.row 27 x8)], 0⟩ =
    (J 1 5 M1 ⟨tsOf [(1, (.ptr 0 [] 0)), (2, (.ptr 1 [] 0)), (3, (.ptr 2 [] 0)), (25, (.dat 27 (.lst x0))), (26, (.dat 3 (.int x1))), (27, (.dat 3 (.int (IntKind.wrap IntKind.i64 (x2 + (1 : Int))))))], [(.box 30 (.dat 30 x3)), (.box 30 (.dat 30 x4)), (.box 30 (.agg 30 [(.dat 3 (.int x5)), (.dat 3 (.int x6)), (.dat 9 (.str x7)), (.row 3), (.nils 28)])), (.row 27 x8)], 0⟩ (l33 J m [1, 1, 0, 1, 0, 1, 1, 0] [] M1 ⟨tsOf [(1, (.ptr 0 [] 0)), (2, (.ptr 1 [] 0)), (3, (.ptr 2 [] 0)), (25, (.dat 27 (.lst x0))), (26, (.dat 3 (.int x1))), (27, (.dat 3 (.int (IntKind.wrap IntKind.i64 (x2 + (1 : Int))))))], [(.box 30 (.dat 30 x3)), (.box 30 (.dat 30 x4)), (.box 30 (.agg 30 [(.dat 3 (.int x5)), (.dat 3 (.int x6)), (.dat 9 (.str x7)), (.row 3), (.nils 28)])), (.row 27 x8)], 0⟩)) := fun J => by kernel_rfl
  exact (h jn).trans (by
    simp only [jn_eq, h1]
    rfl)
theorem path_clone_j2_eq (m : Nat) (M1 : Nat) (rec1 : List Dt → Int → Int → Dt → Dt → Int → Int → ByteArray → List Dt → Option (Dt)) (h1 : ∀ (x0 : List Dt) (x1 : Int) (x2 : Int) (x3 : Dt) (x4 : Dt) (x5 : Int) (x6 : Int) (x7 : ByteArray) (x8 : List Dt), l33 jn m [1, 1, 0, 1, 0, 1, 1, 0] [] M1 ⟨tsOf [(1, (.ptr 0 [] 0)), (2, (.ptr 1 [] 0)), (3, (.ptr 2 [] 0)), (25, (.dat 27 (.lst x0))), (26, (.dat 3 (.int x1))), (27, (.dat 3 (.int x2)))], [(.box 30 (.dat 30 x3)), (.box 30 (.dat 30 x4)), (.box 30 (.agg 30 [(.dat 3 (.int x5)), (.dat 3 (.int x6)), (.dat 9 (.str x7)), (.row 3), (.nils 28)])), (.row 27 x8)], 0⟩ = rec1 x0 x1 x2 x3 x4 x5 x6 x7 x8) (x0 : List Dt) (x1 : Int) (x2 : Int) (x3 : Dt) (x4 : Dt) (x5 : Int) (x6 : Int) (x7 : ByteArray) (x8 : List Dt) : e33 jn m [1, 1, 0, 1, 0, 1, 1, 0, 0, 1, 1] [M1] ⟨tsOf [(1, (.ptr 0 [] 0)), (2, (.ptr 1 [] 0)), (3, (.ptr 2 [] 0)), (25, (.dat 27 (.lst x0))), (26, (.dat 3 (.int x1))), (27, (.dat 3 (.int x2)))], [(.box 30 (.dat 30 x3)), (.box 30 (.dat 30 x4)), (.box 30 (.agg 30 [(.dat 3 (.int x5)), (.dat 3 (.int x6)), (.dat 9 (.str x7)), (.row 3), (.nils 28)])), (.row 27 x8)], 0⟩ = path_clone_j2 m (path_clone m) rec1 x0 x1 x2 x3 x4 x5 x6 x7 x8 := by
  have h : ∀ J, e33 J m [1, 1, 0, 1, 0, 1, 1, 0, 0, 1, 1] [M1] ⟨tsOf [(1, (.ptr 0 [] 0)), (2, (.ptr 1 [] 0)), (3, (.ptr 2 [] 0)), (25, (.dat 27 (.lst x0))), (26, (.dat 3 (.int x1))), (27, (.dat 3 (.int x2)))], [(.box 30 (.dat 30 x3)), (.box 30 (.dat 30 x4)), (.box 30 (.agg 30 [(.dat 3 (.int x5)), (.dat 3 (.int x6)), (.dat 9 (.str x7)), (.row 3), (.nils 28)])), (.row 27 x8)], 0⟩ =
    ((idx x0 x2).bind fun v1 =>
      ((path_clone m v1).bind fun r2 =>
        ((inL x8 x2).bind fun v3 =>
          ((x8[(Int.toNat x2)]?).bind fun v4 =>
            (J 0 8 0 ⟨tsOf [(1, (.ptr 0 [] 0)), (2, (.ptr 1 [] 0)), (3, (.ptr 2 [] 0)), (25, (.dat 27 (.lst x0))), (26, (.dat 3 (.int x1))), (27, (.dat 3 (.int x2)))], [(.box 30 (.dat 30 x3)), (.box 30 (.dat 30 x4)), (.box 30 (.agg 30 [(.dat 3 (.int x5)), (.dat 3 (.int x6)), (.dat 9 (.str x7)), (.row 3), (.nils 28)])), (.row 27 (List.set x8 (Int.toNat x2) r2))], 0⟩ (e33 J m [1, 1, 0, 1, 0, 1, 1, 0, 0, 1, 1, 1] [M1] ⟨tsOf [(1, (.ptr 0 [] 0)), (2, (.ptr 1 [] 0)), (3, (.ptr 2 [] 0)), (25, (.dat 27 (.lst x0))), (26, (.dat 3 (.int x1))), (27, (.dat 3 (.int x2)))], [(.box 30 (.dat 30 x3)), (.box 30 (.dat 30 x4)), (.box 30 (.agg 30 [(.dat 3 (.int x5)), (.dat 3 (.int x6)), (.dat 9 (.str x7)), (.row 3), (.nils 28)])), (.row 27 (List.set x8 (Int.toNat x2) r2))], 0⟩)))))) := fun J => by kernel_rfl
  exact (h jn).trans (by
    simp only [jn_eq, path_clone_j3_eq m M1 rec1 h1]
    rfl)
theorem path_clone_j8_eq (m : Nat) (M6 : Nat) (rec6 : List Dt → Int → Int → Dt → Int → Int → ByteArray → List Dt → List Dt → Option (Dt)) (h6 : ∀ (x0 : List Dt) (x1 : Int) (x2 : Int) (x3 : Dt) (x4 : Int) (x5 : Int) (x6 : ByteArray) (x7 : List Dt) (x8 : List Dt), l33 jn m [1, 1, 1, 0, 1, 0, 1, 1, 0] [] M6 ⟨tsOf [(2, (.ptr 0 [] 0)), (3, (.ptr 1 [] 0)), (49, (.dat 28 (.lst x0))), (50, (.dat 3 (.int x1))), (51, (.dat 3 (.int x2)))], [(.box 30 (.dat 30 x3)), (.box 30 (.agg 30 [(.dat 3 (.int x4)), (.dat 3 (.int x5)), (.dat 9 (.str x6)), (.row 2), (.row 3)])), (.row 27 x7), (.row 28 x8)], 0⟩ = rec6 x0 x1 x2 x3 x4 x5 x6 x7 x8) (x0 : List Dt) (x1 : Int) (x2 : Int) (x3 : Dt) (x4 : Int) (x5 : Int) (x6 : ByteArray) (x7 : List Dt) (x8 : List Dt) : e33 jn m [1, 1, 1, 0, 1, 0, 1, 1, 0, 0, 1, 1, 1] [M6] ⟨tsOf [(2, (.ptr 0 [] 0)), (3, (.ptr 1 [] 0)), (49, (.dat 28 (.lst x0))), (50, (.dat 3 (.int x1))), (51, (.dat 3 (.int x2)))], [(.box 30 (.dat 30 x3)), (.box 30 (.agg 30 [(.dat 3 (.int x4)), (.dat 3 (.int x5)), (.dat 9 (.str x6)), (.row 2), (.row 3)])), (.row 27 x7), (.row 28 x8)], 0⟩ = path_clone_j8 m (path_clone m) rec6 x0 x1 x2 x3 x4 x5 x6 x7 x8 := by
  have h : ∀ J, e33 J m [1, 1, 1, 0, 1, 0, 1, 1, 0, 0, 1, 1, 1] [M6] ⟨tsOf [(2, (.ptr 0 [] 0)), (3, (.ptr 1 [] 0)), (49, (.dat 28 (.lst x0))), (50, (.dat 3 (.int x1))), (51, (.dat 3 (.int x2)))], [(.box 30 (.dat 30 x3)), (.box 30 (.agg 30 [(.dat 3 (.int x4)), (.dat 3 (.int x5)), (.dat 9 (.str x6)), (.row 2), (.row 3)])), (.row 27 x7), (.row 28 x8)], 0⟩ =
    (J 1 12 M6 ⟨tsOf [(2, (.ptr 0 [] 0)), (3, (.ptr 1 [] 0)), (49, (.dat 28 (.lst x0))), (50, (.dat 3 (.int x1))), (51, (.dat 3 (.int (IntKind.wrap IntKind.i64 (x2 + (1 : Int))))))], [(.box 30 (.dat 30 x3)), (.box 30 (.agg 30 [(.dat 3 (.int x4)), (.dat 3 (.int x5)), (.dat 9 (.str x6)), (.row 2), (.row 3)])), (.row 27 x7), (.row 28 x8)], 0⟩ (l33 J m [1, 1, 1, 0, 1, 0, 1, 1, 0] [] M6 ⟨tsOf [(2, (.ptr 0 [] 0)), (3, (.ptr 1 [] 0)), (49, (.dat 28 (.lst x0))), (50, (.dat 3 (.int x1))), (51, (.dat 3 (.int (IntKind.wrap IntKind.i64 (x2 + (1 : Int))))))], [(.box 30 (.dat 30 x3)), (.box 30 (.agg 30 [(.dat 3 (.int x4)), (.dat 3 (.int x5)), (.dat 9 (.str x6)), (.row 2), (.row 3)])), (.row 27 x7), (.row 28 x8)], 0⟩)) := fun J => by kernel_rfl
  exact (h jn).trans (by
    simp only [jn_eq, h6]
    rfl)
theorem path_clone_j7_eq (m : Nat) (M6 : Nat) (rec6 : List Dt → Int → Int → Dt → Int → Int → ByteArray → List Dt → List Dt → Option (Dt)) (h6 : ∀ (x0 : List Dt) (x1 : Int) (x2 : Int) (x3 : Dt) (x4 : Int) (x5 : Int) (x6 : ByteArray) (x7 : List Dt) (x8 : List Dt), l33 jn m [1, 1, 1, 0, 1, 0, 1, 1, 0] [] M6 ⟨tsOf [(2, (.ptr 0 [] 0)), (3, (.ptr 1 [] 0)), (49, (.dat 28 (.lst x0))), (50, (.dat 3 (.int x1))), (51, (.dat 3 (.int x2)))], [(.box 30 (.dat 30 x3)), (.box 30 (.agg 30 [(.dat 3 (.int x4)), (.dat 3 (.int x5)), (.dat 9 (.str x6)), (.row 2), (.row 3)])), (.row 27 x7), (.row 28 x8)], 0⟩ = rec6 x0 x1 x2 x3 x4 x5 x6 x7 x8) (x0 : List Dt) (x1 : Int) (x2 : Int) (x3 : Dt) (x4 : Int) (x5 : Int) (x6 : ByteArray) (x7 : List Dt) (x8 : List Dt) : e33 jn m [1, 1, 1, 0, 1, 0, 1, 1, 0, 0, 1, 1] [M6] ⟨tsOf [(2, (.ptr 0 [] 0)), (3, (.ptr 1 [] 0)), (49, (.dat 28 (.lst x0))), (50, (.dat 3 (.int x1))), (51, (.dat 3 (.int x2)))], [(.box 30 (.dat 30 x3)), (.box 30 (.agg 30 [(.dat 3 (.int x4)), (.dat 3 (.int x5)), (.dat 9 (.str x6)), (.row 2), (.row 3)])), (.row 27 x7), (.row 28 x8)], 0⟩ = path_clone_j7 m (path_clone m) rec6 x0 x1 x2 x3 x4 x5 x6 x7 x8 := by
  have h : ∀ J, e33 J m [1, 1, 1, 0, 1, 0, 1, 1, 0, 0, 1, 1] [M6] ⟨tsOf [(2, (.ptr 0 [] 0)), (3, (.ptr 1 [] 0)), (49, (.dat 28 (.lst x0))), (50, (.dat 3 (.int x1))), (51, (.dat 3 (.int x2)))], [(.box 30 (.dat 30 x3)), (.box 30 (.agg 30 [(.dat 3 (.int x4)), (.dat 3 (.int x5)), (.dat 9 (.str x6)), (.row 2), (.row 3)])), (.row 27 x7), (.row 28 x8)], 0⟩ =
    ((idx x0 x2).bind fun v6 =>
      ((path_clone m (Dt.fld v6 1)).bind fun r7 =>
        ((inL x8 x2).bind fun v8 =>
          ((x8[(Int.toNat x2)]?).bind fun v9 =>
            (J 0 15 0 ⟨tsOf [(2, (.ptr 0 [] 0)), (3, (.ptr 1 [] 0)), (49, (.dat 28 (.lst x0))), (50, (.dat 3 (.int x1))), (51, (.dat 3 (.int x2)))], [(.box 30 (.dat 30 x3)), (.box 30 (.agg 30 [(.dat 3 (.int x4)), (.dat 3 (.int x5)), (.dat 9 (.str x6)), (.row 2), (.row 3)])), (.row 27 x7), (.row 28 (List.set x8 (Int.toNat x2) (Dt.agg [(Dt.str (Dt.S v6 0)), r7])))], 0⟩ (e33 J m [1, 1, 1, 0, 1, 0, 1, 1, 0, 0, 1, 1, 1] [M6] ⟨tsOf [(2, (.ptr 0 [] 0)), (3, (.ptr 1 [] 0)), (49, (.dat 28 (.lst x0))), (50, (.dat 3 (.int x1))), (51, (.dat 3 (.int x2)))], [(.box 30 (.dat 30 x3)), (.box 30 (.agg 30 [(.dat 3 (.int x4)), (.dat 3 (.int x5)), (.dat 9 (.str x6)), (.row 2), (.row 3)])), (.row 27 x7), (.row 28 (List.set x8 (Int.toNat x2) (Dt.agg [(Dt.str (Dt.S v6 0)), r7])))], 0⟩)))))) := fun J => by kernel_rfl
  exact (h jn).trans (by
    simp only [jn_eq, path_clone_j8_eq m M6 rec6 h6]
    rfl)
theorem path_clone_j9_eq (m : Nat) (x0 : Dt) (x1 : Int) (x2 : Int) (x3 : ByteArray) (x4 : List Dt) (x5 : List Dt) : e33 jn m [1, 1, 1, 1] [] ⟨tsOf [(2, (.ptr 0 [] 0)), (3, (.ptr 1 [] 0))], [(.box 30 (.dat 30 x0)), (.box 30 (.agg 30 [(.dat 3 (.int x1)), (.dat 3 (.int x2)), (.dat 9 (.str x3)), (.row 2), (.row 3)])), (.row 27 x4), (.row 28 x5)], 0⟩ = path_clone_j9 m (path_clone m) x0 x1 x2 x3 x4 x5 := by
  have h : ∀ J, e33 J m [1, 1, 1, 1] [] ⟨tsOf [(2, (.ptr 0 [] 0)), (3, (.ptr 1 [] 0))], [(.box 30 (.dat 30 x0)), (.box 30 (.agg 30 [(.dat 3 (.int x1)), (.dat 3 (.int x2)), (.dat 9 (.str x3)), (.row 2), (.row 3)])), (.row 27 x4), (.row 28 x5)], 0⟩ =
    some (Dt.agg [(Dt.int x1), (Dt.int x2), (Dt.str x3), (Dt.lst x4), (Dt.lst x5)]) := fun J => by kernel_rfl
  exact (h jn).trans (rfl)
theorem path_clone_l6_eq (m : Nat) : ∀ (M6 : Nat) (x0 : List Dt) (x1 : Int) (x2 : Int) (x3 : Dt) (x4 : Int) (x5 : Int) (x6 : ByteArray) (x7 : List Dt) (x8 : List Dt), l33 jn m [1, 1, 1, 0, 1, 0, 1, 1, 0] [] M6 ⟨tsOf [(2, (.ptr 0 [] 0)), (3, (.ptr 1 [] 0)), (49, (.dat 28 (.lst x0))), (50, (.dat 3 (.int x1))), (51, (.dat 3 (.int x2)))], [(.box 30 (.dat 30 x3)), (.box 30 (.agg 30 [(.dat 3 (.int x4)), (.dat 3 (.int x5)), (.dat 9 (.str x6)), (.row 2), (.row 3)])), (.row 27 x7), (.row 28 x8)], 0⟩ = path_clone_l6 m (path_clone m) M6 x0 x1 x2 x3 x4 x5 x6 x7 x8
  | 0, _, _, _, _, _, _, _, _, _ => rfl
  | M6 + 1, x0, x1, x2, x3, x4, x5, x6, x7, x8 => by
    have h : ∀ J, l33 J m [1, 1, 1, 0, 1, 0, 1, 1, 0] [] (M6 + 1) ⟨tsOf [(2, (.ptr 0 [] 0)), (3, (.ptr 1 [] 0)), (49, (.dat 28 (.lst x0))), (50, (.dat 3 (.int x1))), (51, (.dat 3 (.int x2)))], [(.box 30 (.dat 30 x3)), (.box 30 (.agg 30 [(.dat 3 (.int x4)), (.dat 3 (.int x5)), (.dat 9 (.str x6)), (.row 2), (.row 3)])), (.row 27 x7), (.row 28 x8)], 0⟩ =
    (bif (decide (x2 < x1)) then
      (J 0 13 0 ⟨tsOf [(2, (.ptr 0 [] 0)), (3, (.ptr 1 [] 0)), (49, (.dat 28 (.lst x0))), (50, (.dat 3 (.int x1))), (51, (.dat 3 (.int x2)))], [(.box 30 (.dat 30 x3)), (.box 30 (.agg 30 [(.dat 3 (.int x4)), (.dat 3 (.int x5)), (.dat 9 (.str x6)), (.row 2), (.row 3)])), (.row 27 x7), (.row 28 x8)], 0⟩ (e33 J m [1, 1, 1, 0, 1, 0, 1, 1, 0, 0, 1, 1] [M6] ⟨tsOf [(2, (.ptr 0 [] 0)), (3, (.ptr 1 [] 0)), (49, (.dat 28 (.lst x0))), (50, (.dat 3 (.int x1))), (51, (.dat 3 (.int x2)))], [(.box 30 (.dat 30 x3)), (.box 30 (.agg 30 [(.dat 3 (.int x4)), (.dat 3 (.int x5)), (.dat 9 (.str x6)), (.row 2), (.row 3)])), (.row 27 x7), (.row 28 x8)], 0⟩))
    else
      (J 0 16 0 ⟨tsOf [(2, (.ptr 0 [] 0)), (3, (.ptr 1 [] 0))], [(.box 30 (.dat 30 x3)), (.box 30 (.agg 30 [(.dat 3 (.int x4)), (.dat 3 (.int x5)), (.dat 9 (.str x6)), (.row 2), (.row 3)])), (.row 27 x7), (.row 28 x8)], 0⟩ (e33 J m [1, 1, 1, 1] [] ⟨tsOf [(2, (.ptr 0 [] 0)), (3, (.ptr 1 [] 0))], [(.box 30 (.dat 30 x3)), (.box 30 (.agg 30 [(.dat 3 (.int x4)), (.dat 3 (.int x5)), (.dat 9 (.str x6)), (.row 2), (.row 3)])), (.row 27 x7), (.row 28 x8)], 0⟩))) := fun J => by kernel_rfl
    refine (h jn).trans ?_
    simp only [jn_eq, path_clone_j7_eq m M6 (path_clone_l6 m (path_clone m) M6) (fun x0 x1 x2 x3 x4 x5 x6 x7 x8 => path_clone_l6_eq m M6 x0 x1 x2 x3 x4 x5 x6 x7 x8), path_clone_j9_eq m]
    rfl
theorem path_clone_j5_eq (m : Nat) (x0 : List Dt) (x1 : Int) (x2 : Int) (x3 : Dt) (x4 : Int) (x5 : Int) (x6 : ByteArray) (x7 : List Dt) (x8 : List Dt) : e33 jn m [1, 1, 1, 0, 1, 0, 1, 1] [] ⟨tsOf [(2, (.ptr 0 [] 0)), (3, (.ptr 1 [] 0)), (49, (.dat 28 (.lst x0))), (50, (.dat 3 (.int x1))), (51, (.dat 3 (.int x2)))], [(.box 30 (.dat 30 x3)), (.box 30 (.agg 30 [(.dat 3 (.int x4)), (.dat 3 (.int x5)), (.dat 9 (.str x6)), (.row 2), (.row 3)])), (.row 27 x7), (.row 28 x8)], 0⟩ = path_clone_j5 m (path_clone m) x0 x1 x2 x3 x4 x5 x6 x7 x8 := by
  have h : ∀ J, e33 J m [1, 1, 1, 0, 1, 0, 1, 1] [] ⟨tsOf [(2, (.ptr 0 [] 0)), (3, (.ptr 1 [] 0)), (49, (.dat 28 (.lst x0))), (50, (.dat 3 (.int x1))), (51, (.dat 3 (.int x2)))], [(.box 30 (.dat 30 x3)), (.box 30 (.agg 30 [(.dat 3 (.int x4)), (.dat 3 (.int x5)), (.dat 9 (.str x6)), (.row 2), (.row 3)])), (.row 27 x7), (.row 28 x8)], 0⟩ =
    (J 1 12 (Nat.succ m) ⟨tsOf [(2, (.ptr 0 [] 0)), (3, (.ptr 1 [] 0)), (49, (.dat 28 (.lst x0))), (50, (.dat 3 (.int x1))), (51, (.dat 3 (.int x2)))], [(.box 30 (.dat 30 x3)), (.box 30 (.agg 30 [(.dat 3 (.int x4)), (.dat 3 (.int x5)), (.dat 9 (.str x6)), (.row 2), (.row 3)])), (.row 27 x7), (.row 28 x8)], 0⟩ (l33 J m [1, 1, 1, 0, 1, 0, 1, 1, 0] [] (Nat.succ m) ⟨tsOf [(2, (.ptr 0 [] 0)), (3, (.ptr 1 [] 0)), (49, (.dat 28 (.lst x0))), (50, (.dat 3 (.int x1))), (51, (.dat 3 (.int x2)))], [(.box 30 (.dat 30 x3)), (.box 30 (.agg 30 [(.dat 3 (.int x4)), (.dat 3 (.int x5)), (.dat 9 (.str x6)), (.row 2), (.row 3)])), (.row 27 x7), (.row 28 x8)], 0⟩)) := fun J => by kernel_rfl
  exact (h jn).trans (by
    simp only [jn_eq, path_clone_l6_eq m]
    rfl)
theorem path_clone_j10_eq (m : Nat) (x0 : Dt) (x1 : Int) (x2 : Int) (x3 : ByteArray) (x4 : List Dt) : e33 jn m [1, 1, 1, 1] [] ⟨tsOf [(2, (.ptr 0 [] 0)), (3, (.ptr 1 [] 0))], [(.box 30 (.dat 30 x0)), (.box 30 (.agg 30 [(.dat 3 (.int x1)), (.dat 3 (.int x2)), (.dat 9 (.str x3)), (.row 2), (.nils 28)])), (.row 27 x4)], 0⟩ = path_clone_j10 m (path_clone m) x0 x1 x2 x3 x4 := by
  have h : ∀ J, e33 J m [1, 1, 1, 1] [] ⟨tsOf [(2, (.ptr 0 [] 0)), (3, (.ptr 1 [] 0))], [(.box 30 (.dat 30 x0)), (.box 30 (.agg 30 [(.dat 3 (.int x1)), (.dat 3 (.int x2)), (.dat 9 (.str x3)), (.row 2), (.nils 28)])), (.row 27 x4)], 0⟩ =
    some (Dt.agg [(Dt.int x1), (Dt.int x2), (Dt.str x3), (Dt.lst x4), (Dt.lst [])]) := fun J => by kernel_rfl
  exact (h jn).trans (rfl)
theorem path_clone_j4_eq (m : Nat) (x0 : Dt) (x1 : Dt) (x2 : Int) (x3 : Int) (x4 : ByteArray) (x5 : List Dt) : e33 jn m [1, 1, 1] [] ⟨tsOf [(1, (.ptr 0 [] 0)), (2, (.ptr 1 [] 0)), (3, (.ptr 2 [] 0))], [(.box 30 (.dat 30 x0)), (.box 30 (.dat 30 x1)), (.box 30 (.agg 30 [(.dat 3 (.int x2)), (.dat 3 (.int x3)), (.dat 9 (.str x4)), (.row 3), (.nils 28)])), (.row 27 x5)], 0⟩ = path_clone_j4 m (path_clone m) x0 x1 x2 x3 x4 x5 := by
  have h : ∀ J, e33 J m [1, 1, 1] [] ⟨tsOf [(1, (.ptr 0 [] 0)), (2, (.ptr 1 [] 0)), (3, (.ptr 2 [] 0))], [(.box 30 (.dat 30 x0)), (.box 30 (.dat 30 x1)), (.box 30 (.agg 30 [(.dat 3 (.int x2)), (.dat 3 (.int x3)), (.dat 9 (.str x4)), (.row 3), (.nils 28)])), (.row 27 x5)], 0⟩ =
    (bif (decide ((0 : Int) < (((List.length (Dt.L x0 4)) : Nat) : Int))) then
      ((mkL (((List.length (Dt.L x0 4)) : Nat) : Int) (((List.length (Dt.L x0 4)) : Nat) : Int) (Dt.agg [(Dt.str (ByteArray.mk (List.toArray []))), (Dt.agg [(Dt.int (0 : Int)), (Dt.int (0 : Int)), (Dt.str (ByteArray.mk (List.toArray []))), (Dt.lst []), (Dt.lst [])])])).bind fun v5 =>
        (J 0 12 0 ⟨tsOf [(2, (.ptr 0 [] 0)), (3, (.ptr 1 [] 0)), (49, (.dat 28 (.lst (Dt.L x0 4)))), (50, (.dat 3 (.int (((List.length (Dt.L x0 4)) : Nat) : Int)))), (51, (.dat 3 (.int (0 : Int))))], [(.box 30 (.dat 30 x1)), (.box 30 (.agg 30 [(.dat 3 (.int x2)), (.dat 3 (.int x3)), (.dat 9 (.str x4)), (.row 2), (.row 3)])), (.row 27 x5), (.row 28 v5)], 0⟩ (e33 J m [1, 1, 1, 0, 1, 0, 1, 1] [] ⟨tsOf [(2, (.ptr 0 [] 0)), (3, (.ptr 1 [] 0)), (49, (.dat 28 (.lst (Dt.L x0 4)))), (50, (.dat 3 (.int (((List.length (Dt.L x0 4)) : Nat) : Int)))), (51, (.dat 3 (.int (0 : Int))))], [(.box 30 (.dat 30 x1)), (.box 30 (.agg 30 [(.dat 3 (.int x2)), (.dat 3 (.int x3)), (.dat 9 (.str x4)), (.row 2), (.row 3)])), (.row 27 x5), (.row 28 v5)], 0⟩)))
    else
      (J 0 16 0 ⟨tsOf [(2, (.ptr 0 [] 0)), (3, (.ptr 1 [] 0))], [(.box 30 (.dat 30 x1)), (.box 30 (.agg 30 [(.dat 3 (.int x2)), (.dat 3 (.int x3)), (.dat 9 (.str x4)), (.row 2), (.nils 28)])), (.row 27 x5)], 0⟩ (e33 J m [1, 1, 1, 1] [] ⟨tsOf [(2, (.ptr 0 [] 0)), (3, (.ptr 1 [] 0))], [(.box 30 (.dat 30 x1)), (.box 30 (.agg 30 [(.dat 3 (.int x2)), (.dat 3 (.int x3)), (.dat 9 (.str x4)), (.row 2), (.nils 28)])), (.row 27 x5)], 0⟩))) := fun J => by kernel_rfl
  exact (h jn).trans (by
    simp only [jn_eq, path_clone_j5_eq m, path_clone_j10_eq m]
    rfl)
theorem path_clone_l1_eq (m : Nat) : ∀ (M1 : Nat) (x0 : List Dt) (x1 : Int) (x2 : Int) (x3 : Dt) (x4 : Dt) (x5 : Int) (x6 : Int) (x7 : ByteArray) (x8 : List Dt), l33 jn m [1, 1, 0, 1, 0, 1, 1, 0] [] M1 ⟨tsOf [(1, (.ptr 0 [] 0)), (2, (.ptr 1 [] 0)), (3, (.ptr 2 [] 0)), (25, (.dat 27 (.lst x0))), (26, (.dat 3 (.int x1))), (27, (.dat 3 (.int x2)))], [(.box 30 (.dat 30 x3)), (.box 30 (.dat 30 x4)), (.box 30 (.agg 30 [(.dat 3 (.int x5)), (.dat 3 (.int x6)), (.dat 9 (.str x7)), (.row 3), (.nils 28)])), (.row 27 x8)], 0⟩ = path_clone_l1 m (path_clone m) M1 x0 x1 x2 x3 x4 x5 x6 x7 x8
  | 0, _, _, _, _, _, _, _, _, _ => rfl
  | M1 + 1, x0, x1, x2, x3, x4, x5, x6, x7, x8 => by
    have h : ∀ J, l33 J m [1, 1, 0, 1, 0, 1, 1, 0] [] (M1 + 1) ⟨tsOf [(1, (.ptr 0 [] 0)), (2, (.ptr 1 [] 0)), (3, (.ptr 2 [] 0)), (25, (.dat 27 (.lst x0))), (26, (.dat 3 (.int x1))), (27, (.dat 3 (.int x2)))], [(.box 30 (.dat 30 x3)), (.box 30 (.dat 30 x4)), (.box 30 (.agg 30 [(.dat 3 (.int x5)), (.dat 3 (.int x6)), (.dat 9 (.str x7)), (.row 3), (.nils 28)])), (.row 27 x8)], 0⟩ =
    (bif (decide (x2 < x1)) then
      (J 0 6 0 ⟨tsOf [(1, (.ptr 0 [] 0)), (2, (.ptr 1 [] 0)), (3, (.ptr 2 [] 0)), (25, (.dat 27 (.lst x0))), (26, (.dat 3 (.int x1))), (27, (.dat 3 (.int x2)))], [(.box 30 (.dat 30 x3)), (.box 30 (.dat 30 x4)), (.box 30 (.agg 30 [(.dat 3 (.int x5)), (.dat 3 (.int x6)), (.dat 9 (.str x7)), (.row 3), (.nils 28)])), (.row 27 x8)], 0⟩ (e33 J m [1, 1, 0, 1, 0, 1, 1, 0, 0, 1, 1] [M1] ⟨tsOf [(1, (.ptr 0 [] 0)), (2, (.ptr 1 [] 0)), (3, (.ptr 2 [] 0)), (25, (.dat 27 (.lst x0))), (26, (.dat 3 (.int x1))), (27, (.dat 3 (.int x2)))], [(.box 30 (.dat 30 x3)), (.box 30 (.dat 30 x4)), (.box 30 (.agg 30 [(.dat 3 (.int x5)), (.dat 3 (.int x6)), (.dat 9 (.str x7)), (.row 3), (.nils 28)])), (.row 27 x8)], 0⟩))
    else
      (J 0 9 0 ⟨tsOf [(1, (.ptr 0 [] 0)), (2, (.ptr 1 [] 0)), (3, (.ptr 2 [] 0))], [(.box 30 (.dat 30 x3)), (.box 30 (.dat 30 x4)), (.box 30 (.agg 30 [(.dat 3 (.int x5)), (.dat 3 (.int x6)), (.dat 9 (.str x7)), (.row 3), (.nils 28)])), (.row 27 x8)], 0⟩ (e33 J m [1, 1, 1] [] ⟨tsOf [(1, (.ptr 0 [] 0)), (2, (.ptr 1 [] 0)), (3, (.ptr 2 [] 0))], [(.box 30 (.dat 30 x3)), (.box 30 (.dat 30 x4)), (.box 30 (.agg 30 [(.dat 3 (.int x5)), (.dat 3 (.int x6)), (.dat 9 (.str x7)), (.row 3), (.nils 28)])), (.row 27 x8)], 0⟩))) := fun J => by kernel_rfl
    refine (h jn).trans ?_
    simp only [jn_eq, path_clone_j2_eq m M1 (path_clone_l1 m (path_clone m) M1) (fun x0 x1 x2 x3 x4 x5 x6 x7 x8 => path_clone_l1_eq m M1 x0 x1 x2 x3 x4 x5 x6 x7 x8), path_clone_j4_eq m]
    rfl
theorem path_clone_j0_eq (m : Nat) (x0 : List Dt) (x1 : Int) (x2 : Int) (x3 : Dt) (x4 : Dt) (x5 : Int) (x6 : Int) (x7 : ByteArray) (x8 : List Dt) : e33 jn m [1, 1, 0, 1, 0, 1, 1] [] ⟨tsOf [(1, (.ptr 0 [] 0)), (2, (.ptr 1 [] 0)), (3, (.ptr 2 [] 0)), (25, (.dat 27 (.lst x0))), (26, (.dat 3 (.int x1))), (27, (.dat 3 (.int x2)))], [(.box 30 (.dat 30 x3)), (.box 30 (.dat 30 x4)), (.box 30 (.agg 30 [(.dat 3 (.int x5)), (.dat 3 (.int x6)), (.dat 9 (.str x7)), (.row 3), (.nils 28)])), (.row 27 x8)], 0⟩ = path_clone_j0 m (path_clone m) x0 x1 x2 x3 x4 x5 x6 x7 x8 := by
  have h : ∀ J, e33 J m [1, 1, 0, 1, 0, 1, 1] [] ⟨tsOf [(1, (.ptr 0 [] 0)), (2, (.ptr 1 [] 0)), (3, (.ptr 2 [] 0)), (25, (.dat 27 (.lst x0))), (26, (.dat 3 (.int x1))), (27, (.dat 3 (.int x2)))], [(.box 30 (.dat 30 x3)), (.box 30 (.dat 30 x4)), (.box 30 (.agg 30 [(.dat 3 (.int x5)), (.dat 3 (.int x6)), (.dat 9 (.str x7)), (.row 3), (.nils 28)])), (.row 27 x8)], 0⟩ =
    (J 1 5 (Nat.succ m) ⟨tsOf [(1, (.ptr 0 [] 0)), (2, (.ptr 1 [] 0)), (3, (.ptr 2 [] 0)), (25, (.dat 27 (.lst x0))), (26, (.dat 3 (.int x1))), (27, (.dat 3 (.int x2)))], [(.box 30 (.dat 30 x3)), (.box 30 (.dat 30 x4)), (.box 30 (.agg 30 [(.dat 3 (.int x5)), (.dat 3 (.int x6)), (.dat 9 (.str x7)), (.row 3), (.nils 28)])), (.row 27 x8)], 0⟩ (l33 J m [1, 1, 0, 1, 0, 1, 1, 0] [] (Nat.succ m) ⟨tsOf [(1, (.ptr 0 [] 0)), (2, (.ptr 1 [] 0)), (3, (.ptr 2 [] 0)), (25, (.dat 27 (.lst x0))), (26, (.dat 3 (.int x1))), (27, (.dat 3 (.int x2)))], [(.box 30 (.dat 30 x3)), (.box 30 (.dat 30 x4)), (.box 30 (.agg 30 [(.dat 3 (.int x5)), (.dat 3 (.int x6)), (.dat 9 (.str x7)), (.row 3), (.nils 28)])), (.row 27 x8)], 0⟩)) := fun J => by kernel_rfl
  exact (h jn).trans (by
    simp only [jn_eq, path_clone_l1_eq m]
    rfl)
theorem path_clone_j15_eq (m : Nat) (M13 : Nat) (rec13 : List Dt → Int → Int → Dt → Int → Int → ByteArray → List Dt → List Dt → Option (Dt)) (h13 : ∀ (x0 : List Dt) (x1 : Int) (x2 : Int) (x3 : Dt) (x4 : Int) (x5 : Int) (x6 : ByteArray) (x7 : List Dt) (x8 : List Dt), l33 jn m [1, 1, 1, 0, 1, 0, 1, 1, 0] [] M13 ⟨tsOf [(2, (.ptr 0 [] 0)), (3, (.ptr 1 [] 0)), (49, (.dat 28 (.lst x0))), (50, (.dat 3 (.int x1))), (51, (.dat 3 (.int x2)))], [(.box 30 (.dat 30 x3)), (.box 30 (.agg 30 [(.dat 3 (.int x4)), (.dat 3 (.int x5)), (.dat 9 (.str x6)), (.dat 27 (.lst x7)), (.row 2)])), (.row 28 x8)], 0⟩ = rec13 x0 x1 x2 x3 x4 x5 x6 x7 x8) (x0 : List Dt) (x1 : Int) (x2 : Int) (x3 : Dt) (x4 : Int) (x5 : Int) (x6 : ByteArray) (x7 : List Dt) (x8 : List Dt) : e33 jn m [1, 1, 1, 0, 1, 0, 1, 1, 0, 0, 1, 1, 1] [M13] ⟨tsOf [(2, (.ptr 0 [] 0)), (3, (.ptr 1 [] 0)), (49, (.dat 28 (.lst x0))), (50, (.dat 3 (.int x1))), (51, (.dat 3 (.int x2)))], [(.box 30 (.dat 30 x3)), (.box 30 (.agg 30 [(.dat 3 (.int x4)), (.dat 3 (.int x5)), (.dat 9 (.str x6)), (.dat 27 (.lst x7)), (.row 2)])), (.row 28 x8)], 0⟩ = path_clone_j15 m (path_clone m) rec13 x0 x1 x2 x3 x4 x5 x6 x7 x8 := by
  have h : ∀ J, e33 J m [1, 1, 1, 0, 1, 0, 1, 1, 0, 0, 1, 1, 1] [M13] ⟨tsOf [(2, (.ptr 0 [] 0)), (3, (.ptr 1 [] 0)), (49, (.dat 28 (.lst x0))), (50, (.dat 3 (.int x1))), (51, (.dat 3 (.int x2)))], [(.box 30 (.dat 30 x3)), (.box 30 (.agg 30 [(.dat 3 (.int x4)), (.dat 3 (.int x5)), (.dat 9 (.str x6)), (.dat 27 (.lst x7)), (.row 2)])), (.row 28 x8)], 0⟩ =
    (J 1 12 M13 ⟨tsOf [(2, (.ptr 0 [] 0)), (3, (.ptr 1 [] 0)), (49, (.dat 28 (.lst x0))), (50, (.dat 3 (.int x1))), (51, (.dat 3 (.int (IntKind.wrap IntKind.i64 (x2 + (1 : Int))))))], [(.box 30 (.dat 30 x3)), (.box 30 (.agg 30 [(.dat 3 (.int x4)), (.dat 3 (.int x5)), (.dat 9 (.str x6)), (.dat 27 (.lst x7)), (.row 2)])), (.row 28 x8)], 0⟩ (l33 J m [1, 1, 1, 0, 1, 0, 1, 1, 0] [] M13 ⟨tsOf [(2, (.ptr 0 [] 0)), (3, (.ptr 1 [] 0)), (49, (.dat 28 (.lst x0))), (50, (.dat 3 (.int x1))), (51, (.dat 3 (.int (IntKind.wrap IntKind.i64 (x2 + (1 : Int))))))], [(.box 30 (.dat 30 x3)), (.box 30 (.agg 30 [(.dat 3 (.int x4)), (.dat 3 (.int x5)), (.dat 9 (.str x6)), (.dat 27 (.lst x7)), (.row 2)])), (.row 28 x8)], 0⟩)) := fun J => by kernel_rfl
  exact (h jn).trans (by
    simp only [jn_eq, h13]
    rfl)
theorem path_clone_j14_eq (m : Nat) (M13 : Nat) (rec13 : List Dt → Int → Int → Dt → Int → Int → ByteArray → List Dt → List Dt → Option (Dt)) (h13 : ∀ (x0 : List Dt) (x1 : Int) (x2 : Int) (x3 : Dt) (x4 : Int) (x5 : Int) (x6 : ByteArray) (x7 : List Dt) (x8 : List Dt), l33 jn m [1, 1, 1, 0, 1, 0, 1, 1, 0] [] M13 ⟨tsOf [(2, (.ptr 0 [] 0)), (3, (.ptr 1 [] 0)), (49, (.dat 28 (.lst x0))), (50, (.dat 3 (.int x1))), (51, (.dat 3 (.int x2)))], [(.box 30 (.dat 30 x3)), (.box 30 (.agg 30 [(.dat 3 (.int x4)), (.dat 3 (.int x5)), (.dat 9 (.str x6)), (.dat 27 (.lst x7)), (.row 2)])), (.row 28 x8)], 0⟩ = rec13 x0 x1 x2 x3 x4 x5 x6 x7 x8) (x0 : List Dt) (x1 : Int) (x2 : Int) (x3 : Dt) (x4 : Int) (x5 : Int) (x6 : ByteArray) (x7 : List Dt) (x8 : List Dt) : e33 jn m [1, 1, 1, 0, 1, 0, 1, 1, 0, 0, 1, 1] [M13] ⟨tsOf [(2, (.ptr 0 [] 0)), (3, (.ptr 1 [] 0)), (49, (.dat 28 (.lst x0))), (50, (.dat 3 (.int x1))), (51, (.dat 3 (.int x2)))], [(.box 30 (.dat 30 x3)), (.box 30 (.agg 30 [(.dat 3 (.int x4)), (.dat 3 (.int x5)), (.dat 9 (.str x6)), (.dat 27 (.lst x7)), (.row 2)])), (.row 28 x8)], 0⟩ = path_clone_j14 m (path_clone m) rec13 x0 x1 x2 x3 x4 x5 x6 x7 x8 := by
  have h : ∀ J, e33 J m [1, 1, 1, 0, 1, 0, 1, 1, 0, 0, 1, 1] [M13] ⟨tsOf [(2, (.ptr 0 [] 0)), (3, (.ptr 1 [] 0)), (49, (.dat 28 (.lst x0))), (50, (.dat 3 (.int x1))), (51, (.dat 3 (.int x2)))], [(.box 30 (.dat 30 x3)), (.box 30 (.agg 30 [(.dat 3 (.int x4)), (.dat 3 (.int x5)), (.dat 9 (.str x6)), (.dat 27 (.lst x7)), (.row 2)])), (.row 28 x8)], 0⟩ =
    ((idx x0 x2).bind fun v11 =>
      ((path_clone m (Dt.fld v11 1)).bind fun r12 =>
        ((inL x8 x2).bind fun v13 =>
          ((x8[(Int.toNat x2)]?).bind fun v14 =>
            (J 0 15 0 ⟨tsOf [(2, (.ptr 0 [] 0)), (3, (.ptr 1 [] 0)), (49, (.dat 28 (.lst x0))), (50, (.dat 3 (.int x1))), (51, (.dat 3 (.int x2)))], [(.box 30 (.dat 30 x3)), (.box 30 (.agg 30 [(.dat 3 (.int x4)), (.dat 3 (.int x5)), (.dat 9 (.str x6)), (.dat 27 (.lst x7)), (.row 2)])), (.row 28 (List.set x8 (Int.toNat x2) (Dt.agg [(Dt.str (Dt.S v11 0)), r12])))], 0⟩ (e33 J m [1, 1, 1, 0, 1, 0, 1, 1, 0, 0, 1, 1, 1] [M13] ⟨tsOf [(2, (.ptr 0 [] 0)), (3, (.ptr 1 [] 0)), (49, (.dat 28 (.lst x0))), (50, (.dat 3 (.int x1))), (51, (.dat 3 (.int x2)))], [(.box 30 (.dat 30 x3)), (.box 30 (.agg 30 [(.dat 3 (.int x4)), (.dat 3 (.int x5)), (.dat 9 (.str x6)), (.dat 27 (.lst x7)), (.row 2)])), (.row 28 (List.set x8 (Int.toNat x2) (Dt.agg [(Dt.str (Dt.S v11 0)), r12])))], 0⟩)))))) := fun J => by kernel_rfl
  exact (h jn).trans (by
    simp only [jn_eq, path_clone_j15_eq m M13 rec13 h13]
    rfl)
theorem path_clone_j16_eq (m : Nat) (x0 : Dt) (x1 : Int) (x2 : Int) (x3 : ByteArray) (x4 : List Dt) (x5 : List Dt) : e33 jn m [1, 1, 1, 1] [] ⟨tsOf [(2, (.ptr 0 [] 0)), (3, (.ptr 1 [] 0))], [(.box 30 (.dat 30 x0)), (.box 30 (.agg 30 [(.dat 3 (.int x1)), (.dat 3 (.int x2)), (.dat 9 (.str x3)), (.dat 27 (.lst x4)), (.row 2)])), (.row 28 x5)], 0⟩ = path_clone_j16 m (path_clone m) x0 x1 x2 x3 x4 x5 := by
  have h : ∀ J, e33 J m [1, 1, 1, 1] [] ⟨tsOf [(2, (.ptr 0 [] 0)), (3, (.ptr 1 [] 0))], [(.box 30 (.dat 30 x0)), (.box 30 (.agg 30 [(.dat 3 (.int x1)), (.dat 3 (.int x2)), (.dat 9 (.str x3)), (.dat 27 (.lst x4)), (.row 2)])), (.row 28 x5)], 0⟩ =
    some (Dt.agg [(Dt.int x1), (Dt.int x2), (Dt.str x3), (Dt.lst x4), (Dt.lst x5)]) := fun J => by kernel_rfl
  exact (h jn).trans (rfl)
theorem path_clone_l13_eq (m : Nat) : ∀ (M13 : Nat) (x0 : List Dt) (x1 : Int) (x2 : Int) (x3 : Dt) (x4 : Int) (x5 : Int) (x6 : ByteArray) (x7 : List Dt) (x8 : List Dt), l33 jn m [1, 1, 1, 0, 1, 0, 1, 1, 0] [] M13 ⟨tsOf [(2, (.ptr 0 [] 0)), (3, (.ptr 1 [] 0)), (49, (.dat 28 (.lst x0))), (50, (.dat 3 (.int x1))), (51, (.dat 3 (.int x2)))], [(.box 30 (.dat 30 x3)), (.box 30 (.agg 30 [(.dat 3 (.int x4)), (.dat 3 (.int x5)), (.dat 9 (.str x6)), (.dat 27 (.lst x7)), (.row 2)])), (.row 28 x8)], 0⟩ = path_clone_l13 m (path_clone m) M13 x0 x1 x2 x3 x4 x5 x6 x7 x8
  | 0, _, _, _, _, _, _, _, _, _ => rfl
  | M13 + 1, x0, x1, x2, x3, x4, x5, x6, x7, x8 => by
    have h : ∀ J, l33 J m [1, 1, 1, 0, 1, 0, 1, 1, 0] [] (M13 + 1) ⟨tsOf [(2, (.ptr 0 [] 0)), (3, (.ptr 1 [] 0)), (49, (.dat 28 (.lst x0))), (50, (.dat 3 (.int x1))), (51, (.dat 3 (.int x2)))], [(.box 30 (.dat 30 x3)), (.box 30 (.agg 30 [(.dat 3 (.int x4)), (.dat 3 (.int x5)), (.dat 9 (.str x6)), (.dat 27 (.lst x7)), (.row 2)])), (.row 28 x8)], 0⟩ =
    (bif (decide (x2 < x1)) then
      (J 0 13 0 ⟨tsOf [(2, (.ptr 0 [] 0)), (3, (.ptr 1 [] 0)), (49, (.dat 28 (.lst x0))), (50, (.dat 3 (.int x1))), (51, (.dat 3 (.int x2)))], [(.box 30 (.dat 30 x3)), (.box 30 (.agg 30 [(.dat 3 (.int x4)), (.dat 3 (.int x5)), (.dat 9 (.str x6)), (.dat 27 (.lst x7)), (.row 2)])), (.row 28 x8)], 0⟩ (e33 J m [1, 1, 1, 0, 1, 0, 1, 1, 0, 0, 1, 1] [M13] ⟨tsOf [(2, (.ptr 0 [] 0)), (3, (.ptr 1 [] 0)), (49, (.dat 28 (.lst x0))), (50, (.dat 3 (.int x1))), (51, (.dat 3 (.int x2)))], [(.box 30 (.dat 30 x3)), (.box 30 (.agg 30 [(.dat 3 (.int x4)), (.dat 3 (.int x5)), (.dat 9 (.str x6)), (.dat 27 (.lst x7)), (.row 2)])), (.row 28 x8)], 0⟩))
    else
      (J 0 16 0 ⟨tsOf [(2, (.ptr 0 [] 0)), (3, (.ptr 1 [] 0))], [(.box 30 (.dat 30 x3)), (.box 30 (.agg 30 [(.dat 3 (.int x4)), (.dat 3 (.int x5)), (.dat 9 (.str x6)), (.dat 27 (.lst x7)), (.row 2)])), (.row 28 x8)], 0⟩ (e33 J m [1, 1, 1, 1] [] ⟨tsOf [(2, (.ptr 0 [] 0)), (3, (.ptr 1 [] 0))], [(.box 30 (.dat 30 x3)), (.box 30 (.agg 30 [(.dat 3 (.int x4)), (.dat 3 (.int x5)), (.dat 9 (.str x6)), (.dat 27 (.lst x7)), (.row 2)])), (.row 28 x8)], 0⟩))) := fun J => by kernel_rfl
    refine (h jn).trans ?_
    simp only [jn_eq, path_clone_j14_eq m M13 (path_clone_l13 m (path_clone m) M13) (fun x0 x1 x2 x3 x4 x5 x6 x7 x8 => path_clone_l13_eq m M13 x0 x1 x2 x3 x4 x5 x6 x7 x8), path_clone_j16_eq m]
    rfl
theorem path_clone_j12_eq (m : Nat) (x0 : List Dt) (x1 : Int) (x2 : Int) (x3 : Dt) (x4 : Int) (x5 : Int) (x6 : ByteArray) (x7 : List Dt) (x8 : List Dt) : e33 jn m [1, 1, 1, 0, 1, 0, 1, 1] [] ⟨tsOf [(2, (.ptr 0 [] 0)), (3, (.ptr 1 [] 0)), (49, (.dat 28 (.lst x0))), (50, (.dat 3 (.int x1))), (51, (.dat 3 (.int x2)))], [(.box 30 (.dat 30 x3)), (.box 30 (.agg 30 [(.dat 3 (.int x4)), (.dat 3 (.int x5)), (.dat 9 (.str x6)), (.dat 27 (.lst x7)), (.row 2)])), (.row 28 x8)], 0⟩ = path_clone_j12 m (path_clone m) x0 x1 x2 x3 x4 x5 x6 x7 x8 := by
  have h : ∀ J, e33 J m [1, 1, 1, 0, 1, 0, 1, 1] [] ⟨tsOf [(2, (.ptr 0 [] 0)), (3, (.ptr 1 [] 0)), (49, (.dat 28 (.lst x0))), (50, (.dat 3 (.int x1))), (51, (.dat 3 (.int x2)))], [(.box 30 (.dat 30 x3)), (.box 30 (.agg 30 [(.dat 3 (.int x4)), (.dat 3 (.int x5)), (.dat 9 (.str x6)), (.dat 27 (.lst x7)), (.row 2)])), (.row 28 x8)], 0⟩ =
    (J 1 12 (Nat.succ m) ⟨tsOf [(2, (.ptr 0 [] 0)), (3, (.ptr 1 [] 0)), (49, (.dat 28 (.lst x0))), (50, (.dat 3 (.int x1))), (51, (.dat 3 (.int x2)))], [(.box 30 (.dat 30 x3)), (.box 30 (.agg 30 [(.dat 3 (.int x4)), (.dat 3 (.int x5)), (.dat 9 (.str x6)), (.dat 27 (.lst x7)), (.row 2)])), (.row 28 x8)], 0⟩ (l33 J m [1, 1, 1, 0, 1, 0, 1, 1, 0] [] (Nat.succ m) ⟨tsOf [(2, (.ptr 0 [] 0)), (3, (.ptr 1 [] 0)), (49, (.dat 28 (.lst x0))), (50, (.dat 3 (.int x1))), (51, (.dat 3 (.int x2)))], [(.box 30 (.dat 30 x3)), (.box 30 (.agg 30 [(.dat 3 (.int x4)), (.dat 3 (.int x5)), (.dat 9 (.str x6)), (.dat 27 (.lst x7)), (.row 2)])), (.row 28 x8)], 0⟩)) := fun J => by kernel_rfl
  exact (h jn).trans (by
    simp only [jn_eq, path_clone_l13_eq m]
    rfl)
theorem path_clone_j17_eq (m : Nat) (x0 : Dt) (x1 : Dt) : e33 jn m [1, 1, 1, 1] [] ⟨tsOf [(2, (.ptr 0 [] 0)), (3, (.ptr 1 [] 0))], [(.box 30 (.dat 30 x0)), (.box 30 (.dat 30 x1))], 0⟩ = path_clone_j17 m (path_clone m) x0 x1 := by
  have h : ∀ J, e33 J m [1, 1, 1, 1] [] ⟨tsOf [(2, (.ptr 0 [] 0)), (3, (.ptr 1 [] 0))], [(.box 30 (.dat 30 x0)), (.box 30 (.dat 30 x1))], 0⟩ =
    some x1 := fun J => by kernel_rfl
  exact (h jn).trans (rfl)
theorem path_clone_j11_eq (m : Nat) (x0 : Dt) (x1 : Dt) (x2 : Dt) : e33 jn m [1, 1, 1] [] ⟨tsOf [(1, (.ptr 0 [] 0)), (2, (.ptr 1 [] 0)), (3, (.ptr 2 [] 0))], [(.box 30 (.dat 30 x0)), (.box 30 (.dat 30 x1)), (.box 30 (.dat 30 x2))], 0⟩ = path_clone_j11 m (path_clone m) x0 x1 x2 := by
  have h : ∀ J, e33 J m [1, 1, 1] [] ⟨tsOf [(1, (.ptr 0 [] 0)), (2, (.ptr 1 [] 0)), (3, (.ptr 2 [] 0))], [(.box 30 (.dat 30 x0)), (.box 30 (.dat 30 x1)), (.box 30 (.dat 30 x2))], 0⟩ =
    (bif (decide ((0 : Int) < (((List.length (Dt.L x0 4)) : Nat) : Int))) then
      ((mkL (((List.length (Dt.L x0 4)) : Nat) : Int) (((List.length (Dt.L x0 4)) : Nat) : Int) (Dt.agg [(Dt.str (ByteArray.mk (List.toArray []))), (Dt.agg [(Dt.int (0 : Int)), (Dt.int (0 : Int)), (Dt.str (ByteArray.mk (List.toArray []))), (Dt.lst []), (Dt.lst [])])])).bind fun v10 =>
        (J 0 12 0 ⟨tsOf [(2, (.ptr 0 [] 0)), (3, (.ptr 1 [] 0)), (49, (.dat 28 (.lst (Dt.L x0 4)))), (50, (.dat 3 (.int (((List.length (Dt.L x0 4)) : Nat) : Int)))), (51, (.dat 3 (.int (0 : Int))))], [(.box 30 (.dat 30 x1)), (.box 30 (.agg 30 [(.dat 3 (.int (Dt.I x2 0))), (.dat 3 (.int (Dt.I x2 1))), (.dat 9 (.str (Dt.S x2 2))), (.dat 27 (.lst (Dt.L x2 3))), (.row 2)])), (.row 28 v10)], 0⟩ (e33 J m [1, 1, 1, 0, 1, 0, 1, 1] [] ⟨tsOf [(2, (.ptr 0 [] 0)), (3, (.ptr 1 [] 0)), (49, (.dat 28 (.lst (Dt.L x0 4)))), (50, (.dat 3 (.int (((List.length (Dt.L x0 4)) : Nat) : Int)))), (51, (.dat 3 (.int (0 : Int))))], [(.box 30 (.dat 30 x1)), (.box 30 (.agg 30 [(.dat 3 (.int (Dt.I x2 0))), (.dat 3 (.int (Dt.I x2 1))), (.dat 9 (.str (Dt.S x2 2))), (.dat 27 (.lst (Dt.L x2 3))), (.row 2)])), (.row 28 v10)], 0⟩)))
    else
      (J 0 16 0 ⟨tsOf [(2, (.ptr 0 [] 0)), (3, (.ptr 1 [] 0))], [(.box 30 (.dat 30 x1)), (.box 30 (.dat 30 x2))], 0⟩ (e33 J m [1, 1, 1, 1] [] ⟨tsOf [(2, (.ptr 0 [] 0)), (3, (.ptr 1 [] 0))], [(.box 30 (.dat 30 x1)), (.box 30 (.dat 30 x2))], 0⟩))) := fun J => by kernel_rfl
  exact (h jn).trans (by
    simp only [jn_eq, path_clone_j12_eq m, path_clone_j17_eq m]
    rfl)
theorem path_clone_eq (m : Nat) (a0 : Dt) : e33 jn m [] [] ⟨[(.dat 30 a0)], [], 0⟩ = path_clone (m + 1) a0 := by
  have h : ∀ J, e33 J m [] [] ⟨[(.dat 30 a0)], [], 0⟩ =
    (bif (decide ((0 : Int) < (((List.length (Dt.L a0 3)) : Nat) : Int))) then
      ((mkL (((List.length (Dt.L a0 3)) : Nat) : Int) (((List.length (Dt.L a0 3)) : Nat) : Int) (Dt.agg [(Dt.int (0 : Int)), (Dt.int (0 : Int)), (Dt.str (ByteArray.mk (List.toArray []))), (Dt.lst []), (Dt.lst [])])).bind fun v0 =>
        (J 0 5 0 ⟨tsOf [(1, (.ptr 0 [] 0)), (2, (.ptr 1 [] 0)), (3, (.ptr 2 [] 0)), (25, (.dat 27 (.lst (Dt.L a0 3)))), (26, (.dat 3 (.int (((List.length (Dt.L a0 3)) : Nat) : Int)))), (27, (.dat 3 (.int (0 : Int))))], [(.box 30 (.dat 30 a0)), (.box 30 (.dat 30 (Dt.agg [(Dt.int (0 : Int)), (Dt.int (0 : Int)), (Dt.str (ByteArray.mk (List.toArray []))), (Dt.lst []), (Dt.lst [])]))), (.box 30 (.agg 30 [(.dat 3 (.int (Dt.I a0 0))), (.dat 3 (.int (Dt.I a0 1))), (.dat 9 (.str (Dt.S a0 2))), (.row 3), (.nils 28)])), (.row 27 v0)], 0⟩ (e33 J m [1, 1, 0, 1, 0, 1, 1] [] ⟨tsOf [(1, (.ptr 0 [] 0)), (2, (.ptr 1 [] 0)), (3, (.ptr 2 [] 0)), (25, (.dat 27 (.lst (Dt.L a0 3)))), (26, (.dat 3 (.int (((List.length (Dt.L a0 3)) : Nat) : Int)))), (27, (.dat 3 (.int (0 : Int))))], [(.box 30 (.dat 30 a0)), (.box 30 (.dat 30 (Dt.agg [(Dt.int (0 : Int)), (Dt.int (0 : Int)), (Dt.str (ByteArray.mk (List.toArray []))), (Dt.lst []), (Dt.lst [])]))), (.box 30 (.agg 30 [(.dat 3 (.int (Dt.I a0 0))), (.dat 3 (.int (Dt.I a0 1))), (.dat 9 (.str (Dt.S a0 2))), (.row 3), (.nils 28)])), (.row 27 v0)], 0⟩)))
    else
      (J 0 9 0 ⟨tsOf [(1, (.ptr 0 [] 0)), (2, (.ptr 1 [] 0)), (3, (.ptr 2 [] 0))], [(.box 30 (.dat 30 a0)), (.box 30 (.dat 30 (Dt.agg [(Dt.int (0 : Int)), (Dt.int (0 : Int)), (Dt.str (ByteArray.mk (List.toArray []))), (Dt.lst []), (Dt.lst [])]))), (.box 30 (.dat 30 (Dt.agg [(Dt.int (Dt.I a0 0)), (Dt.int (Dt.I a0 1)), (Dt.str (Dt.S a0 2)), (Dt.lst []), (Dt.lst [])])))], 0⟩ (e33 J m [1, 1, 1] [] ⟨tsOf [(1, (.ptr 0 [] 0)), (2, (.ptr 1 [] 0)), (3, (.ptr 2 [] 0))], [(.box 30 (.dat 30 a0)), (.box 30 (.dat 30 (Dt.agg [(Dt.int (0 : Int)), (Dt.int (0 : Int)), (Dt.str (ByteArray.mk (List.toArray []))), (Dt.lst []), (Dt.lst [])]))), (.box 30 (.dat 30 (Dt.agg [(Dt.int (Dt.I a0 0)), (Dt.int (Dt.I a0 1)), (Dt.str (Dt.S a0 2)), (Dt.lst []), (Dt.lst [])])))], 0⟩))) := fun J => by kernel_rfl
  refine (h jn).trans ?_
  simp only [jn_eq, path_clone_j0_eq m, path_clone_j11_eq m]
  rfl
noncomputable def d21 (q : Res) : Option (List Dt) := match q with
  | (.dat T0 x0, []) => bif Nat.beq T0 27 then some x0.toLst else none
  | _ => none
theorem d21_sim {b : Res} {r : List Dt} (h : d21 b = some r) : Sim Tryd.prog b ((.dat 27 (.lst r)), []) := by
  unfold d21 at h
  split at h
  · obtain ⟨hc, h2⟩ := bif_some h
    cases h2
    have e0 := beq_eq hc
    subst e0
    exact Sim.of (.of (.dat (.lst Tryd.underlying27)) rfl rfl) .nil
  · cases h
noncomputable def e21 (J : Nat → Nat → Nat → St → Option (List Dt) → Option (List Dt)) (m : Nat) (p ms : List Nat) (σ : St) := evAt Tryd.prog env (ct m) J (m + 1) 50 30 Tryd.f50 d21 p ms σ
noncomputable def l21 (J : Nat → Nat → Nat → St → Option (List Dt) → Option (List Dt)) (m : Nat) (p ms : List Nat) (M : Nat) (σ : St) := loopAt Tryd.prog env (ct m) J (m + 1) 50 30 Tryd.f50 d21 p ms M σ
theorem path_Reach_j4_eq (m : Nat) (M2 : Nat) (rec2 : Int → Int → List Dt → Option (List Dt)) (h2 : ∀ (x0 : Int) (x1 : Int) (x2 : List Dt), l21 jn m [1, 1, 1, 0, 1, 0] [] M2 ⟨tsOf [(5, (.row 0)), (16, (.row 0)), (17, (.dat 3 (.int x0))), (18, (.dat 3 (.int x1)))], [(.row 27 x2)], 0⟩ = rec2 x0 x1 x2) (x0 : Int) (x1 : Int) (x2 : List Dt) : e21 jn m [1, 1, 1, 0, 1, 0, 0, 1, 1, 1] [M2] ⟨tsOf [(5, (.row 0)), (16, (.row 0)), (17, (.dat 3 (.int x0))), (18, (.dat 3 (.int x1)))], [(.row 27 x2)], 0⟩ = path_Reach_j4 m rec2 x0 x1 x2 := by
  have h : ∀ J, e21 J m [1, 1, 1, 0, 1, 0, 0, 1, 1, 1] [M2] ⟨tsOf [(5, (.row 0)), (16, (.row 0)), (17, (.dat 3 (.int x0))), (18, (.dat 3 (.int x1)))], [(.row 27 x2)], 0⟩ =
    (J 1 5 M2 ⟨tsOf [(5, (.row 0)), (16, (.row 0)), (17, (.dat 3 (.int x0))), (18, (.dat 3 (.int (IntKind.wrap IntKind.i64 (x1 + (1 : Int))))))], [(.row 27 x2)], 0⟩ (l21 J m [1, 1, 1, 0, 1, 0] [] M2 ⟨tsOf [(5, (.row 0)), (16, (.row 0)), (17, (.dat 3 (.int x0))), (18, (.dat 3 (.int (IntKind.wrap IntKind.i64 (x1 + (1 : Int))))))], [(.row 27 x2)], 0⟩)) := fun J => by kernel_rfl
  exact (h jn).trans (by
    simp only [jn_eq, h2]
    rfl)
theorem path_Reach_j3_eq (m : Nat) (M2 : Nat) (rec2 : Int → Int → List Dt → Option (List Dt)) (h2 : ∀ (x0 : Int) (x1 : Int) (x2 : List Dt), l21 jn m [1, 1, 1, 0, 1, 0] [] M2 ⟨tsOf [(5, (.row 0)), (16, (.row 0)), (17, (.dat 3 (.int x0))), (18, (.dat 3 (.int x1)))], [(.row 27 x2)], 0⟩ = rec2 x0 x1 x2) (x0 : Int) (x1 : Int) (x2 : List Dt) : e21 jn m [1, 1, 1, 0, 1, 0, 0, 1, 1] [M2] ⟨tsOf [(5, (.row 0)), (16, (.row 0)), (17, (.dat 3 (.int x0))), (18, (.dat 3 (.int x1)))], [(.row 27 x2)], 0⟩ = path_Reach_j3 m rec2 x0 x1 x2 := by
  have h : ∀ J, e21 J m [1, 1, 1, 0, 1, 0, 0, 1, 1] [M2] ⟨tsOf [(5, (.row 0)), (16, (.row 0)), (17, (.dat 3 (.int x0))), (18, (.dat 3 (.int x1)))], [(.row 27 x2)], 0⟩ =
    ((inL x2 x1).bind fun v1 =>
      ((x2[(Int.toNat x1)]?).bind fun v2 =>
        ((path_clone m v2).bind fun r3 =>
          ((inL x2 x1).bind fun v4 =>
            ((x2[(Int.toNat x1)]?).bind fun v5 =>
              (J 0 8 0 ⟨tsOf [(5, (.row 0)), (16, (.row 0)), (17, (.dat 3 (.int x0))), (18, (.dat 3 (.int x1)))], [(.row 27 (List.set x2 (Int.toNat x1) r3))], 0⟩ (e21 J m [1, 1, 1, 0, 1, 0, 0, 1, 1, 1] [M2] ⟨tsOf [(5, (.row 0)), (16, (.row 0)), (17, (.dat 3 (.int x0))), (18, (.dat 3 (.int x1)))], [(.row 27 (List.set x2 (Int.toNat x1) r3))], 0⟩))))))) := fun J => by kernel_rfl
  exact (h jn).trans (by
    simp only [jn_eq, path_Reach_j4_eq m M2 rec2 h2]
    rfl)
theorem path_Reach_j5_eq (m : Nat) (x0 : List Dt) : e21 jn m [1, 1, 1, 1] [] ⟨tsOf [(5, (.row 0))], [(.row 27 x0)], 0⟩ = path_Reach_j5 m x0 := by
  have h : ∀ J, e21 J m [1, 1, 1, 1] [] ⟨tsOf [(5, (.row 0))], [(.row 27 x0)], 0⟩ =
    some x0 := fun J => by kernel_rfl
  exact (h jn).trans (rfl)
theorem path_Reach_l2_eq (m : Nat) : ∀ (M2 : Nat) (x0 : Int) (x1 : Int) (x2 : List Dt), l21 jn m [1, 1, 1, 0, 1, 0] [] M2 ⟨tsOf [(5, (.row 0)), (16, (.row 0)), (17, (.dat 3 (.int x0))), (18, (.dat 3 (.int x1)))], [(.row 27 x2)], 0⟩ = path_Reach_l2 m M2 x0 x1 x2
  | 0, _, _, _ => rfl
  | M2 + 1, x0, x1, x2 => by
    have h : ∀ J, l21 J m [1, 1, 1, 0, 1, 0] [] (M2 + 1) ⟨tsOf [(5, (.row 0)), (16, (.row 0)), (17, (.dat 3 (.int x0))), (18, (.dat 3 (.int x1)))], [(.row 27 x2)], 0⟩ =
    (bif (decide (x1 < x0)) then
      (J 0 6 0 ⟨tsOf [(5, (.row 0)), (16, (.row 0)), (17, (.dat 3 (.int x0))), (18, (.dat 3 (.int x1)))], [(.row 27 x2)], 0⟩ (e21 J m [1, 1, 1, 0, 1, 0, 0, 1, 1] [M2] ⟨tsOf [(5, (.row 0)), (16, (.row 0)), (17, (.dat 3 (.int x0))), (18, (.dat 3 (.int x1)))], [(.row 27 x2)], 0⟩))
    else
      (J 0 9 0 ⟨tsOf [(5, (.row 0))], [(.row 27 x2)], 0⟩ (e21 J m [1, 1, 1, 1] [] ⟨tsOf [(5, (.row 0))], [(.row 27 x2)], 0⟩))) := fun J => by kernel_rfl
    refine (h jn).trans ?_
    simp only [jn_eq, path_Reach_j3_eq m M2 (path_Reach_l2 m M2) (fun x0 x1 x2 => path_Reach_l2_eq m M2 x0 x1 x2), path_Reach_j5_eq m]
    rfl
theorem path_Reach_j1_eq (m : Nat) (x0 : Int) (x1 : Int) (x2 : List Dt) : e21 jn m [1, 1, 1, 0, 1] [] ⟨tsOf [(5, (.row 0)), (16, (.row 0)), (17, (.dat 3 (.int x0))), (18, (.dat 3 (.int x1)))], [(.row 27 x2)], 0⟩ = path_Reach_j1 m x0 x1 x2 := by
  have h : ∀ J, e21 J m [1, 1, 1, 0, 1] [] ⟨tsOf [(5, (.row 0)), (16, (.row 0)), (17, (.dat 3 (.int x0))), (18, (.dat 3 (.int x1)))], [(.row 27 x2)], 0⟩ =
    (J 1 5 (Nat.succ m) ⟨tsOf [(5, (.row 0)), (16, (.row 0)), (17, (.dat 3 (.int x0))), (18, (.dat 3 (.int x1)))], [(.row 27 x2)], 0⟩ (l21 J m [1, 1, 1, 0, 1, 0] [] (Nat.succ m) ⟨tsOf [(5, (.row 0)), (16, (.row 0)), (17, (.dat 3 (.int x0))), (18, (.dat 3 (.int x1)))], [(.row 27 x2)], 0⟩)) := fun J => by kernel_rfl
  exact (h jn).trans (by
    simp only [jn_eq, path_Reach_l2_eq m]
    rfl)
theorem path_Reach_j0_eq (m : Nat) (x0 : List Dt) : e21 jn m [1, 1, 1] [] ⟨tsOf [(5, (.row 0))], [(.row 27 x0)], 0⟩ = path_Reach_j0 m x0 := by
  have h : ∀ J, e21 J m [1, 1, 1] [] ⟨tsOf [(5, (.row 0))], [(.row 27 x0)], 0⟩ =
    (J 0 5 0 ⟨tsOf [(5, (.row 0)), (16, (.row 0)), (17, (.dat 3 (.int (((List.length x0) : Nat) : Int)))), (18, (.dat 3 (.int (0 : Int))))], [(.row 27 x0)], 0⟩ (e21 J m [1, 1, 1, 0, 1] [] ⟨tsOf [(5, (.row 0)), (16, (.row 0)), (17, (.dat 3 (.int (((List.length x0) : Nat) : Int)))), (18, (.dat 3 (.int (0 : Int))))], [(.row 27 x0)], 0⟩)) := fun J => by kernel_rfl
  exact (h jn).trans (by
    simp only [jn_eq, path_Reach_j1_eq m]
    rfl)
theorem path_Reach_eq (m : Nat) (a0 : Dt) (a1 : List Dt) : e21 jn m [] [] ⟨[(.dat 30 a0), (.dat 45 (.lst a1))], [], 0⟩ = path_Reach (m + 1) a0 a1 := by
  have h : ∀ J, e21 J m [] [] ⟨[(.dat 30 a0), (.dat 45 (.lst a1))], [], 0⟩ =
    ((path_pass_i30 m a0 a1 []).bind fun r0 =>
      (bif ((((List.length r0) : Nat) : Int) == (0 : Int)) then
        some [(Dt.agg [(Dt.int (0 : Int)), (Dt.int (0 : Int)), (Dt.str (ByteArray.mk (List.toArray []))), (Dt.lst []), (Dt.lst [])])]
      else
        (J 0 4 0 ⟨tsOf [(5, (.row 0))], [(.row 27 r0)], 0⟩ (e21 J m [1, 1, 1] [] ⟨tsOf [(5, (.row 0))], [(.row 27 r0)], 0⟩)))) := fun J => by kernel_rfl
  refine (h jn).trans ?_
  simp only [jn_eq, path_Reach_j0_eq m]
  rfl
noncomputable def d37 (q : Res) : Option (List Dt) := match q with
  | (.dat T0 x0, []) => bif Nat.beq T0 27 then some x0.toLst else none
  | _ => none
theorem d37_sim {b : Res} {r : List Dt} (h : d37 b = some r) : Sim Tryd.prog b ((.dat 27 (.lst r)), []) := by
  unfold d37 at h
  split at h
  · obtain ⟨hc, h2⟩ := bif_some h
    cases h2
    have e0 := beq_eq hc
    subst e0
    exact Sim.of (.of (.dat (.lst Tryd.underlying27)) rfl rfl) .nil
  · cases h
noncomputable def e37 (J : Nat → Nat → Nat → St → Option (List Dt) → Option (List Dt)) (m : Nat) (p ms : List Nat) (σ : St) := evAt Tryd.prog env (ct m) J (m + 1) 73 44 Tryd.f73 d37 p ms σ
noncomputable def l37 (J : Nat → Nat → Nat → St → Option (List Dt) → Option (List Dt)) (m : Nat) (p ms : List Nat) (M : Nat) (σ : St) := loopAt Tryd.prog env (ct m) J (m + 1) 73 44 Tryd.f73 d37 p ms M σ
theorem ref01_Parts_j3_eq (m : Nat) (M1 : Nat) (rec1 : Int → Dt → List Dt → Option (List Dt)) (h1 : ∀ (x0 : Int) (x1 : Dt) (x2 : List Dt), l37 jn m [1, 1, 0, 1, 0, 1, 0] [] M1 ⟨tsOf [(1, (.ptr 0 [] 0)), (3, (.row 1)), (4, (.dat 3 (.int x0)))], [(.box 30 (.dat 30 x1)), (.row 27 x2)], 0⟩ = rec1 x0 x1 x2) (x0 : Int) (x1 : Dt) (x2 : List Dt) : e37 jn m [1, 1, 0, 1, 0, 1, 0, 0, 1, 1] [M1] ⟨tsOf [(1, (.ptr 0 [] 0)), (3, (.row 1)), (4, (.dat 3 (.int x0)))], [(.box 30 (.dat 30 x1)), (.row 27 x2)], 0⟩ = ref01_Parts_j3 m rec1 x0 x1 x2 := by
  have h : ∀ J, e37 J m [1, 1, 0, 1, 0, 1, 0, 0, 1, 1] [M1] ⟨tsOf [(1, (.ptr 0 [] 0)), (3, (.row 1)), (4, (.dat 3 (.int x0)))], [(.box 30 (.dat 30 x1)), (.row 27 x2)], 0⟩ =
    (J 1 4 M1 ⟨tsOf [(1, (.ptr 0 [] 0)), (3, (.row 1)), (4, (.dat 3 (.int (IntKind.wrap IntKind.i64 (x0 + (1 : Int))))))], [(.box 30 (.dat 30 x1)), (.row 27 x2)], 0⟩ (l37 J m [1, 1, 0, 1, 0, 1, 0] [] M1 ⟨tsOf [(1, (.ptr 0 [] 0)), (3, (.row 1)), (4, (.dat 3 (.int (IntKind.wrap IntKind.i64 (x0 + (1 : Int))))))], [(.box 30 (.dat 30 x1)), (.row 27 x2)], 0⟩)) := fun J => by kernel_rfl
  exact (h jn).trans (by
    simp only [jn_eq, h1]
    rfl)
theorem ref01_Parts_j2_eq (m : Nat) (M1 : Nat) (rec1 : Int → Dt → List Dt → Option (List Dt)) (h1 : ∀ (x0 : Int) (x1 : Dt) (x2 : List Dt), l37 jn m [1, 1, 0, 1, 0, 1, 0] [] M1 ⟨tsOf [(1, (.ptr 0 [] 0)), (3, (.row 1)), (4, (.dat 3 (.int x0)))], [(.box 30 (.dat 30 x1)), (.row 27 x2)], 0⟩ = rec1 x0 x1 x2) (x0 : Int) (x1 : Dt) (x2 : List Dt) : e37 jn m [1, 1, 0, 1, 0, 1, 0, 0, 1] [M1] ⟨tsOf [(1, (.ptr 0 [] 0)), (3, (.row 1)), (4, (.dat 3 (.int x0)))], [(.box 30 (.dat 30 x1)), (.row 27 x2)], 0⟩ = ref01_Parts_j2 m rec1 x0 x1 x2 := by
  have h : ∀ J, e37 J m [1, 1, 0, 1, 0, 1, 0, 0, 1] [M1] ⟨tsOf [(1, (.ptr 0 [] 0)), (3, (.row 1)), (4, (.dat 3 (.int x0)))], [(.box 30 (.dat 30 x1)), (.row 27 x2)], 0⟩ =
    ((idx (Dt.L x1 3) x0).bind fun v0 =>
      ((app x2 [v0]).bind fun v1 =>
        (J 0 5 0 ⟨tsOf [(1, (.ptr 0 [] 0)), (3, (.row 1)), (4, (.dat 3 (.int x0)))], [(.box 30 (.dat 30 x1)), (.row 27 v1)], 0⟩ (e37 J m [1, 1, 0, 1, 0, 1, 0, 0, 1, 1] [M1] ⟨tsOf [(1, (.ptr 0 [] 0)), (3, (.row 1)), (4, (.dat 3 (.int x0)))], [(.box 30 (.dat 30 x1)), (.row 27 v1)], 0⟩)))) := fun J => by kernel_rfl
  exact (h jn).trans (by
    simp only [jn_eq, ref01_Parts_j3_eq m M1 rec1 h1]
    rfl)
theorem ref01_Parts_j8_eq (m : Nat) (M6 : Nat) (rec6 : Int → Dt → List Dt → Option (List Dt)) (h6 : ∀ (x0 : Int) (x1 : Dt) (x2 : List Dt), l37 jn m [1, 1, 1, 0, 1, 0, 1, 0] [] M6 ⟨tsOf [(1, (.ptr 0 [] 0)), (3, (.row 1)), (5, (.dat 3 (.int x0)))], [(.box 30 (.dat 30 x1)), (.row 27 x2)], 0⟩ = rec6 x0 x1 x2) (x0 : Int) (x1 : Dt) (x2 : List Dt) : e37 jn m [1, 1, 1, 0, 1, 0, 1, 0, 0, 1, 1] [M6] ⟨tsOf [(1, (.ptr 0 [] 0)), (3, (.row 1)), (5, (.dat 3 (.int x0)))], [(.box 30 (.dat 30 x1)), (.row 27 x2)], 0⟩ = ref01_Parts_j8 m rec6 x0 x1 x2 := by
  have h : ∀ J, e37 J m [1, 1, 1, 0, 1, 0, 1, 0, 0, 1, 1] [M6] ⟨tsOf [(1, (.ptr 0 [] 0)), (3, (.row 1)), (5, (.dat 3 (.int x0)))], [(.box 30 (.dat 30 x1)), (.row 27 x2)], 0⟩ =
    (J 1 9 M6 ⟨tsOf [(1, (.ptr 0 [] 0)), (3, (.row 1)), (5, (.dat 3 (.int (IntKind.wrap IntKind.i64 (x0 + (1 : Int))))))], [(.box 30 (.dat 30 x1)), (.row 27 x2)], 0⟩ (l37 J m [1, 1, 1, 0, 1, 0, 1, 0] [] M6 ⟨tsOf [(1, (.ptr 0 [] 0)), (3, (.row 1)), (5, (.dat 3 (.int (IntKind.wrap IntKind.i64 (x0 + (1 : Int))))))], [(.box 30 (.dat 30 x1)), (.row 27 x2)], 0⟩)) := fun J => by kernel_rfl
  exact (h jn).trans (by
    simp only [jn_eq, h6]
    rfl)
theorem ref01_Parts_j7_eq (m : Nat) (M6 : Nat) (rec6 : Int → Dt → List Dt → Option (List Dt)) (h6 : ∀ (x0 : Int) (x1 : Dt) (x2 : List Dt), l37 jn m [1, 1, 1, 0, 1, 0, 1, 0] [] M6 ⟨tsOf [(1, (.ptr 0 [] 0)), (3, (.row 1)), (5, (.dat 3 (.int x0)))], [(.box 30 (.dat 30 x1)), (.row 27 x2)], 0⟩ = rec6 x0 x1 x2) (x0 : Int) (x1 : Dt) (x2 : List Dt) : e37 jn m [1, 1, 1, 0, 1, 0, 1, 0, 0, 1] [M6] ⟨tsOf [(1, (.ptr 0 [] 0)), (3, (.row 1)), (5, (.dat 3 (.int x0)))], [(.box 30 (.dat 30 x1)), (.row 27 x2)], 0⟩ = ref01_Parts_j7 m rec6 x0 x1 x2 := by
  have h : ∀ J, e37 J m [1, 1, 1, 0, 1, 0, 1, 0, 0, 1] [M6] ⟨tsOf [(1, (.ptr 0 [] 0)), (3, (.row 1)), (5, (.dat 3 (.int x0)))], [(.box 30 (.dat 30 x1)), (.row 27 x2)], 0⟩ =
    ((idx (Dt.L x1 4) x0).bind fun v2 =>
      ((app x2 [(Dt.fld v2 1)]).bind fun v3 =>
        (J 0 10 0 ⟨tsOf [(1, (.ptr 0 [] 0)), (3, (.row 1)), (5, (.dat 3 (.int x0)))], [(.box 30 (.dat 30 x1)), (.row 27 v3)], 0⟩ (e37 J m [1, 1, 1, 0, 1, 0, 1, 0, 0, 1, 1] [M6] ⟨tsOf [(1, (.ptr 0 [] 0)), (3, (.row 1)), (5, (.dat 3 (.int x0)))], [(.box 30 (.dat 30 x1)), (.row 27 v3)], 0⟩)))) := fun J => by kernel_rfl
  exact (h jn).trans (by
    simp only [jn_eq, ref01_Parts_j8_eq m M6 rec6 h6]
    rfl)
theorem ref01_Parts_j9_eq (m : Nat) (x0 : List Dt) : e37 jn m [1, 1, 1, 1] [] ⟨tsOf [(3, (.row 0))], [(.row 27 x0)], 0⟩ = ref01_Parts_j9 m x0 := by
  have h : ∀ J, e37 J m [1, 1, 1, 1] [] ⟨tsOf [(3, (.row 0))], [(.row 27 x0)], 0⟩ =
    some x0 := fun J => by kernel_rfl
  exact (h jn).trans (rfl)
theorem ref01_Parts_l6_eq (m : Nat) : ∀ (M6 : Nat) (x0 : Int) (x1 : Dt) (x2 : List Dt), l37 jn m [1, 1, 1, 0, 1, 0, 1, 0] [] M6 ⟨tsOf [(1, (.ptr 0 [] 0)), (3, (.row 1)), (5, (.dat 3 (.int x0)))], [(.box 30 (.dat 30 x1)), (.row 27 x2)], 0⟩ = ref01_Parts_l6 m M6 x0 x1 x2
  | 0, _, _, _ => rfl
  | M6 + 1, x0, x1, x2 => by
    have h : ∀ J, l37 J m [1, 1, 1, 0, 1, 0, 1, 0] [] (M6 + 1) ⟨tsOf [(1, (.ptr 0 [] 0)), (3, (.row 1)), (5, (.dat 3 (.int x0)))], [(.box 30 (.dat 30 x1)), (.row 27 x2)], 0⟩ =
    (bif (decide (x0 < (((List.length (Dt.L x1 4)) : Nat) : Int))) then
      (J 0 11 0 ⟨tsOf [(1, (.ptr 0 [] 0)), (3, (.row 1)), (5, (.dat 3 (.int x0)))], [(.box 30 (.dat 30 x1)), (.row 27 x2)], 0⟩ (e37 J m [1, 1, 1, 0, 1, 0, 1, 0, 0, 1] [M6] ⟨tsOf [(1, (.ptr 0 [] 0)), (3, (.row 1)), (5, (.dat 3 (.int x0)))], [(.box 30 (.dat 30 x1)), (.row 27 x2)], 0⟩))
    else
      (J 0 12 0 ⟨tsOf [(3, (.row 0))], [(.row 27 x2)], 0⟩ (e37 J m [1, 1, 1, 1] [] ⟨tsOf [(3, (.row 0))], [(.row 27 x2)], 0⟩))) := fun J => by kernel_rfl
    refine (h jn).trans ?_
    simp only [jn_eq, ref01_Parts_j7_eq m M6 (ref01_Parts_l6 m M6) (fun x0 x1 x2 => ref01_Parts_l6_eq m M6 x0 x1 x2), ref01_Parts_j9_eq m]
    rfl
theorem ref01_Parts_j5_eq (m : Nat) (x0 : Int) (x1 : Dt) (x2 : List Dt) : e37 jn m [1, 1, 1, 0, 1, 0, 1] [] ⟨tsOf [(1, (.ptr 0 [] 0)), (3, (.row 1)), (5, (.dat 3 (.int x0)))], [(.box 30 (.dat 30 x1)), (.row 27 x2)], 0⟩ = ref01_Parts_j5 m x0 x1 x2 := by
  have h : ∀ J, e37 J m [1, 1, 1, 0, 1, 0, 1] [] ⟨tsOf [(1, (.ptr 0 [] 0)), (3, (.row 1)), (5, (.dat 3 (.int x0)))], [(.box 30 (.dat 30 x1)), (.row 27 x2)], 0⟩ =
    (J 1 9 (Nat.succ m) ⟨tsOf [(1, (.ptr 0 [] 0)), (3, (.row 1)), (5, (.dat 3 (.int x0)))], [(.box 30 (.dat 30 x1)), (.row 27 x2)], 0⟩ (l37 J m [1, 1, 1, 0, 1, 0, 1, 0] [] (Nat.succ m) ⟨tsOf [(1, (.ptr 0 [] 0)), (3, (.row 1)), (5, (.dat 3 (.int x0)))], [(.box 30 (.dat 30 x1)), (.row 27 x2)], 0⟩)) := fun J => by kernel_rfl
  exact (h jn).trans (by
    simp only [jn_eq, ref01_Parts_l6_eq m]
    rfl)
theorem ref01_Parts_j4_eq (m : Nat) (x0 : Dt) (x1 : List Dt) : e37 jn m [1, 1, 1] [] ⟨tsOf [(1, (.ptr 0 [] 0)), (3, (.row 1))], [(.box 30 (.dat 30 x0)), (.row 27 x1)], 0⟩ = ref01_Parts_j4 m x0 x1 := by
  have h : ∀ J, e37 J m [1, 1, 1] [] ⟨tsOf [(1, (.ptr 0 [] 0)), (3, (.row 1))], [(.box 30 (.dat 30 x0)), (.row 27 x1)], 0⟩ =
    (bif ((Dt.I x0 0) == (5 : Int)) then
      (J 0 9 0 ⟨tsOf [(1, (.ptr 0 [] 0)), (3, (.row 1)), (5, (.dat 3 (.int (0 : Int))))], [(.box 30 (.dat 30 x0)), (.row 27 x1)], 0⟩ (e37 J m [1, 1, 1, 0, 1, 0, 1] [] ⟨tsOf [(1, (.ptr 0 [] 0)), (3, (.row 1)), (5, (.dat 3 (.int (0 : Int))))], [(.box 30 (.dat 30 x0)), (.row 27 x1)], 0⟩))
    else
      (J 0 12 0 ⟨tsOf [(3, (.row 0))], [(.row 27 x1)], 0⟩ (e37 J m [1, 1, 1, 1] [] ⟨tsOf [(3, (.row 0))], [(.row 27 x1)], 0⟩))) := fun J => by kernel_rfl
  exact (h jn).trans (by
    simp only [jn_eq, ref01_Parts_j5_eq m, ref01_Parts_j9_eq m]
    rfl)
theorem ref01_Parts_l1_eq (m : Nat) : ∀ (M1 : Nat) (x0 : Int) (x1 : Dt) (x2 : List Dt), l37 jn m [1, 1, 0, 1, 0, 1, 0] [] M1 ⟨tsOf [(1, (.ptr 0 [] 0)), (3, (.row 1)), (4, (.dat 3 (.int x0)))], [(.box 30 (.dat 30 x1)), (.row 27 x2)], 0⟩ = ref01_Parts_l1 m M1 x0 x1 x2
  | 0, _, _, _ => rfl
  | M1 + 1, x0, x1, x2 => by
    have h : ∀ J, l37 J m [1, 1, 0, 1, 0, 1, 0] [] (M1 + 1) ⟨tsOf [(1, (.ptr 0 [] 0)), (3, (.row 1)), (4, (.dat 3 (.int x0)))], [(.box 30 (.dat 30 x1)), (.row 27 x2)], 0⟩ =
    (bif (decide (x0 < (((List.length (Dt.L x1 3)) : Nat) : Int))) then
      (J 0 6 0 ⟨tsOf [(1, (.ptr 0 [] 0)), (3, (.row 1)), (4, (.dat 3 (.int x0)))], [(.box 30 (.dat 30 x1)), (.row 27 x2)], 0⟩ (e37 J m [1, 1, 0, 1, 0, 1, 0, 0, 1] [M1] ⟨tsOf [(1, (.ptr 0 [] 0)), (3, (.row 1)), (4, (.dat 3 (.int x0)))], [(.box 30 (.dat 30 x1)), (.row 27 x2)], 0⟩))
    else
      (J 0 7 0 ⟨tsOf [(1, (.ptr 0 [] 0)), (3, (.row 1))], [(.box 30 (.dat 30 x1)), (.row 27 x2)], 0⟩ (e37 J m [1, 1, 1] [] ⟨tsOf [(1, (.ptr 0 [] 0)), (3, (.row 1))], [(.box 30 (.dat 30 x1)), (.row 27 x2)], 0⟩))) := fun J => by kernel_rfl
    refine (h jn).trans ?_
    simp only [jn_eq, ref01_Parts_j2_eq m M1 (ref01_Parts_l1 m M1) (fun x0 x1 x2 => ref01_Parts_l1_eq m M1 x0 x1 x2), ref01_Parts_j4_eq m]
    rfl
theorem ref01_Parts_j0_eq (m : Nat) (x0 : Int) (x1 : Dt) (x2 : List Dt) : e37 jn m [1, 1, 0, 1, 0, 1] [] ⟨tsOf [(1, (.ptr 0 [] 0)), (3, (.row 1)), (4, (.dat 3 (.int x0)))], [(.box 30 (.dat 30 x1)), (.row 27 x2)], 0⟩ = ref01_Parts_j0 m x0 x1 x2 := by
  have h : ∀ J, e37 J m [1, 1, 0, 1, 0, 1] [] ⟨tsOf [(1, (.ptr 0 [] 0)), (3, (.row 1)), (4, (.dat 3 (.int x0)))], [(.box 30 (.dat 30 x1)), (.row 27 x2)], 0⟩ =
    (J 1 4 (Nat.succ m) ⟨tsOf [(1, (.ptr 0 [] 0)), (3, (.row 1)), (4, (.dat 3 (.int x0)))], [(.box 30 (.dat 30 x1)), (.row 27 x2)], 0⟩ (l37 J m [1, 1, 0, 1, 0, 1, 0] [] (Nat.succ m) ⟨tsOf [(1, (.ptr 0 [] 0)), (3, (.row 1)), (4, (.dat 3 (.int x0)))], [(.box 30 (.dat 30 x1)), (.row 27 x2)], 0⟩)) := fun J => by kernel_rfl
  exact (h jn).trans (by
    simp only [jn_eq, ref01_Parts_l1_eq m]
    rfl)
theorem ref01_Parts_eq (m : Nat) (a0 : Dt) : e37 jn m [] [] ⟨[(.dat 30 a0)], [], 0⟩ = ref01_Parts (m + 1) a0 := by
  have h : ∀ J, e37 J m [] [] ⟨[(.dat 30 a0)], [], 0⟩ =
    (bif ((Dt.I a0 0) == (6 : Int)) then
      (J 0 4 0 ⟨tsOf [(1, (.ptr 0 [] 0)), (3, (.row 1)), (4, (.dat 3 (.int (0 : Int))))], [(.box 30 (.dat 30 a0)), (.row 27 [])], 0⟩ (e37 J m [1, 1, 0, 1, 0, 1] [] ⟨tsOf [(1, (.ptr 0 [] 0)), (3, (.row 1)), (4, (.dat 3 (.int (0 : Int))))], [(.box 30 (.dat 30 a0)), (.row 27 [])], 0⟩))
    else
      (J 0 7 0 ⟨tsOf [(1, (.ptr 0 [] 0)), (3, (.row 1))], [(.box 30 (.dat 30 a0)), (.row 27 [])], 0⟩ (e37 J m [1, 1, 1] [] ⟨tsOf [(1, (.ptr 0 [] 0)), (3, (.row 1))], [(.box 30 (.dat 30 a0)), (.row 27 [])], 0⟩))) := fun J => by kernel_rfl
  refine (h jn).trans ?_
  simp only [jn_eq, ref01_Parts_j0_eq m, ref01_Parts_j4_eq m]
  rfl
noncomputable def d26 (q : Res) : Option (Int) := match q with
  | (.dat T0 x0, []) => bif Nat.beq T0 3 then some x0.toInt else none
  | _ => none
theorem d26_sim {b : Res} {r : Int} (h : d26 b = some r) : Sim Tryd.prog b ((.dat 3 (.int r)), []) := by
  unfold d26 at h
  split at h
  · obtain ⟨hc, h2⟩ := bif_some h
    cases h2
    have e0 := beq_eq hc
    subst e0
    exact Sim.of (.of (.dat (.int Tryd.underlying3)) rfl rfl) .nil
  · cases h
noncomputable def e26 (J : Nat → Nat → Nat → St → Option (Int) → Option (Int)) (m : Nat) (p ms : List Nat) (σ : St) := evAt Tryd.prog env (ct m) J (m + 1) 60 34 Tryd.f60 d26 p ms σ
noncomputable def l26 (J : Nat → Nat → Nat → St → Option (Int) → Option (Int)) (m : Nat) (p ms : List Nat) (M : Nat) (σ : St) := loopAt Tryd.prog env (ct m) J (m + 1) 60 34 Tryd.f60 d26 p ms M σ
theorem ref01_levels_j4_eq (m : Nat) (M2 : Nat) (rec2 : Int → List Dt → Int → Int → Option (Int)) (h2 : ∀ (x0 : Int) (x1 : List Dt) (x2 : Int) (x3 : Int), l26 jn m [1, 1, 1, 1, 0, 1, 0] [] M2 ⟨tsOf [(1, (.dat 3 (.int x0))), (5, (.dat 27 (.lst x1))), (6, (.dat 3 (.int x2))), (7, (.dat 3 (.int x3)))], [], 0⟩ = rec2 x0 x1 x2 x3) (x0 : Int) (x1 : List Dt) (x2 : Int) (x3 : Int) : e26 jn m [1, 1, 1, 1, 0, 1, 0, 0, 1, 1] [M2] ⟨tsOf [(1, (.dat 3 (.int x0))), (5, (.dat 27 (.lst x1))), (6, (.dat 3 (.int x2))), (7, (.dat 3 (.int x3)))], [], 0⟩ = ref01_levels_j4 m (ref01_levels m) rec2 x0 x1 x2 x3 := by
  have h : ∀ J, e26 J m [1, 1, 1, 1, 0, 1, 0, 0, 1, 1] [M2] ⟨tsOf [(1, (.dat 3 (.int x0))), (5, (.dat 27 (.lst x1))), (6, (.dat 3 (.int x2))), (7, (.dat 3 (.int x3)))], [], 0⟩ =
    (J 1 6 M2 ⟨tsOf [(1, (.dat 3 (.int x0))), (5, (.dat 27 (.lst x1))), (6, (.dat 3 (.int x2))), (7, (.dat 3 (.int (IntKind.wrap IntKind.i64 (x3 + (1 : Int))))))], [], 0⟩ (l26 J m [1, 1, 1, 1, 0, 1, 0] [] M2 ⟨tsOf [(1, (.dat 3 (.int x0))), (5, (.dat 27 (.lst x1))), (6, (.dat 3 (.int x2))), (7, (.dat 3 (.int (IntKind.wrap IntKind.i64 (x3 + (1 : Int))))))], [], 0⟩)) := fun J => by kernel_rfl
  exact (h jn).trans (by
    simp only [jn_eq, h2]
    rfl)
theorem ref01_levels_j3_eq (m : Nat) (M2 : Nat) (rec2 : Int → List Dt → Int → Int → Option (Int)) (h2 : ∀ (x0 : Int) (x1 : List Dt) (x2 : Int) (x3 : Int), l26 jn m [1, 1, 1, 1, 0, 1, 0] [] M2 ⟨tsOf [(1, (.dat 3 (.int x0))), (5, (.dat 27 (.lst x1))), (6, (.dat 3 (.int x2))), (7, (.dat 3 (.int x3)))], [], 0⟩ = rec2 x0 x1 x2 x3) (x0 : Int) (x1 : List Dt) (x2 : Int) (x3 : Int) : e26 jn m [1, 1, 1, 1, 0, 1, 0, 0, 1] [M2] ⟨tsOf [(1, (.dat 3 (.int x0))), (5, (.dat 27 (.lst x1))), (6, (.dat 3 (.int x2))), (7, (.dat 3 (.int x3)))], [], 0⟩ = ref01_levels_j3 m (ref01_levels m) rec2 x0 x1 x2 x3 := by
  have h : ∀ J, e26 J m [1, 1, 1, 1, 0, 1, 0, 0, 1] [M2] ⟨tsOf [(1, (.dat 3 (.int x0))), (5, (.dat 27 (.lst x1))), (6, (.dat 3 (.int x2))), (7, (.dat 3 (.int x3)))], [], 0⟩ =
    ((idx x1 x3).bind fun v1 =>
      ((ref01_levels m v1 (IntKind.wrap IntKind.i64 (x0 - (1 : Int)))).bind fun r2 =>
        (J 0 7 0 ⟨tsOf [(1, (.dat 3 (.int x0))), (5, (.dat 27 (.lst x1))), (6, (.dat 3 (.int (bif (decide (x2 < r2)) then r2 else x2)))), (7, (.dat 3 (.int x3)))], [], 0⟩ (e26 J m [1, 1, 1, 1, 0, 1, 0, 0, 1, 1] [M2] ⟨tsOf [(1, (.dat 3 (.int x0))), (5, (.dat 27 (.lst x1))), (6, (.dat 3 (.int (bif (decide (x2 < r2)) then r2 else x2)))), (7, (.dat 3 (.int x3)))], [], 0⟩)))) := fun J => by kernel_rfl
  exact (h jn).trans (by
    simp only [jn_eq, ref01_levels_j4_eq m M2 rec2 h2]
    rfl)
theorem ref01_levels_j5_eq (m : Nat) (x0 : Int) : e26 jn m [1, 1, 1, 1, 1] [] ⟨tsOf [(6, (.dat 3 (.int x0)))], [], 0⟩ = ref01_levels_j5 m (ref01_levels m) x0 := by
  have h : ∀ J, e26 J m [1, 1, 1, 1, 1] [] ⟨tsOf [(6, (.dat 3 (.int x0)))], [], 0⟩ =
    some (IntKind.wrap IntKind.i64 (x0 + (1 : Int))) := fun J => by kernel_rfl
  exact (h jn).trans (rfl)
theorem ref01_levels_l2_eq (m : Nat) : ∀ (M2 : Nat) (x0 : Int) (x1 : List Dt) (x2 : Int) (x3 : Int), l26 jn m [1, 1, 1, 1, 0, 1, 0] [] M2 ⟨tsOf [(1, (.dat 3 (.int x0))), (5, (.dat 27 (.lst x1))), (6, (.dat 3 (.int x2))), (7, (.dat 3 (.int x3)))], [], 0⟩ = ref01_levels_l2 m (ref01_levels m) M2 x0 x1 x2 x3
  | 0, _, _, _, _ => rfl
  | M2 + 1, x0, x1, x2, x3 => by
    have h : ∀ J, l26 J m [1, 1, 1, 1, 0, 1, 0] [] (M2 + 1) ⟨tsOf [(1, (.dat 3 (.int x0))), (5, (.dat 27 (.lst x1))), (6, (.dat 3 (.int x2))), (7, (.dat 3 (.int x3)))], [], 0⟩ =
    (bif (decide (x3 < (((List.length x1) : Nat) : Int))) then
      (J 0 8 0 ⟨tsOf [(1, (.dat 3 (.int x0))), (5, (.dat 27 (.lst x1))), (6, (.dat 3 (.int x2))), (7, (.dat 3 (.int x3)))], [], 0⟩ (e26 J m [1, 1, 1, 1, 0, 1, 0, 0, 1] [M2] ⟨tsOf [(1, (.dat 3 (.int x0))), (5, (.dat 27 (.lst x1))), (6, (.dat 3 (.int x2))), (7, (.dat 3 (.int x3)))], [], 0⟩))
    else
      (J 0 9 0 ⟨tsOf [(6, (.dat 3 (.int x2)))], [], 0⟩ (e26 J m [1, 1, 1, 1, 1] [] ⟨tsOf [(6, (.dat 3 (.int x2)))], [], 0⟩))) := fun J => by kernel_rfl
    refine (h jn).trans ?_
    simp only [jn_eq, ref01_levels_j3_eq m M2 (ref01_levels_l2 m (ref01_levels m) M2) (fun x0 x1 x2 x3 => ref01_levels_l2_eq m M2 x0 x1 x2 x3), ref01_levels_j5_eq m]
    rfl
theorem ref01_levels_j1_eq (m : Nat) (x0 : Int) (x1 : List Dt) (x2 : Int) (x3 : Int) : e26 jn m [1, 1, 1, 1, 0, 1] [] ⟨tsOf [(1, (.dat 3 (.int x0))), (5, (.dat 27 (.lst x1))), (6, (.dat 3 (.int x2))), (7, (.dat 3 (.int x3)))], [], 0⟩ = ref01_levels_j1 m (ref01_levels m) x0 x1 x2 x3 := by
  have h : ∀ J, e26 J m [1, 1, 1, 1, 0, 1] [] ⟨tsOf [(1, (.dat 3 (.int x0))), (5, (.dat 27 (.lst x1))), (6, (.dat 3 (.int x2))), (7, (.dat 3 (.int x3)))], [], 0⟩ =
    (J 1 6 (Nat.succ m) ⟨tsOf [(1, (.dat 3 (.int x0))), (5, (.dat 27 (.lst x1))), (6, (.dat 3 (.int x2))), (7, (.dat 3 (.int x3)))], [], 0⟩ (l26 J m [1, 1, 1, 1, 0, 1, 0] [] (Nat.succ m) ⟨tsOf [(1, (.dat 3 (.int x0))), (5, (.dat 27 (.lst x1))), (6, (.dat 3 (.int x2))), (7, (.dat 3 (.int x3)))], [], 0⟩)) := fun J => by kernel_rfl
  exact (h jn).trans (by
    simp only [jn_eq, ref01_levels_l2_eq m]
    rfl)
theorem ref01_levels_j0_eq (m : Nat) (x0 : Int) (x1 : List Dt) : e26 jn m [1, 1, 1] [] ⟨tsOf [(1, (.dat 3 (.int x0))), (5, (.dat 27 (.lst x1)))], [], 0⟩ = ref01_levels_j0 m (ref01_levels m) x0 x1 := by
  have h : ∀ J, e26 J m [1, 1, 1] [] ⟨tsOf [(1, (.dat 3 (.int x0))), (5, (.dat 27 (.lst x1)))], [], 0⟩ =
    (J 0 6 0 ⟨tsOf [(1, (.dat 3 (.int x0))), (5, (.dat 27 (.lst x1))), (6, (.dat 3 (.int (0 : Int)))), (7, (.dat 3 (.int (0 : Int))))], [], 0⟩ (e26 J m [1, 1, 1, 1, 0, 1] [] ⟨tsOf [(1, (.dat 3 (.int x0))), (5, (.dat 27 (.lst x1))), (6, (.dat 3 (.int (0 : Int)))), (7, (.dat 3 (.int (0 : Int))))], [], 0⟩)) := fun J => by kernel_rfl
  exact (h jn).trans (by
    simp only [jn_eq, ref01_levels_j1_eq m]
    rfl)
theorem ref01_levels_eq (m : Nat) (a0 : Dt) (a1 : Int) : e26 jn m [] [] ⟨[(.dat 30 a0), (.dat 3 (.int a1))], [], 0⟩ = ref01_levels (m + 1) a0 a1 := by
  have h : ∀ J, e26 J m [] [] ⟨[(.dat 30 a0), (.dat 3 (.int a1))], [], 0⟩ =
    ((ref01_Parts m a0).bind fun r0 =>
      (bif (decide (a1 < (2 : Int))) then
        some (1 : Int)
      else
        (bif ((((List.length r0) : Nat) : Int) == (0 : Int)) then
          some (1 : Int)
        else
          (J 0 4 0 ⟨tsOf [(1, (.dat 3 (.int a1))), (5, (.dat 27 (.lst r0)))], [], 0⟩ (e26 J m [1, 1, 1] [] ⟨tsOf [(1, (.dat 3 (.int a1))), (5, (.dat 27 (.lst r0)))], [], 0⟩))))) := fun J => by kernel_rfl
  refine (h jn).trans ?_
  simp only [jn_eq, ref01_levels_j0_eq m]
  rfl
noncomputable def d18 (q : Res) : Option (Int) := match q with
  | (.dat T0 x0, []) => bif Nat.beq T0 3 then some x0.toInt else none
  | _ => none
theorem d18_sim {b : Res} {r : Int} (h : d18 b = some r) : Sim Tryd.prog b ((.dat 3 (.int r)), []) := by
  unfold d18 at h
  split at h
  · obtain ⟨hc, h2⟩ := bif_some h
    cases h2
    have e0 := beq_eq hc
    subst e0
    exact Sim.of (.of (.dat (.int Tryd.underlying3)) rfl rfl) .nil
  · cases h
noncomputable def e18 (J : Nat → Nat → Nat → St → Option (Int) → Option (Int)) (m : Nat) (p ms : List Nat) (σ : St) := evAt Tryd.prog env (ct m) J (m + 1) 47 5 Tryd.f47 d18 p ms σ
noncomputable def l18 (J : Nat → Nat → Nat → St → Option (Int) → Option (Int)) (m : Nat) (p ms : List Nat) (M : Nat) (σ : St) := loopAt Tryd.prog env (ct m) J (m + 1) 47 5 Tryd.f47 d18 p ms M σ
theorem ref01_Depth_eq (m : Nat) (a0 : Dt) : e18 jn m [] [] ⟨[(.dat 30 a0)], [], 0⟩ = ref01_Depth (m + 1) a0 := by
  have h : ∀ J, e18 J m [] [] ⟨[(.dat 30 a0)], [], 0⟩ =
    ((ref01_levels m a0 (17 : Int)).bind fun r0 =>
      some r0) := fun J => by kernel_rfl
  refine (h jn).trans ?_
  
  rfl
noncomputable def d27 (q : Res) : Option (Int) := match q with
  | (.dat T0 x0, []) => bif Nat.beq T0 3 then some x0.toInt else none
  | _ => none
theorem d27_sim {b : Res} {r : Int} (h : d27 b = some r) : Sim Tryd.prog b ((.dat 3 (.int r)), []) := by
  unfold d27 at h
  split at h
  · obtain ⟨hc, h2⟩ := bif_some h
    cases h2
    have e0 := beq_eq hc
    subst e0
    exact Sim.of (.of (.dat (.int Tryd.underlying3)) rfl rfl) .nil
  · cases h
noncomputable def e27 (J : Nat → Nat → Nat → St → Option (Int) → Option (Int)) (m : Nat) (p ms : List Nat) (σ : St) := evAt Tryd.prog env (ct m) J (m + 1) 61 32 Tryd.f61 d27 p ms σ
noncomputable def l27 (J : Nat → Nat → Nat → St → Option (Int) → Option (Int)) (m : Nat) (p ms : List Nat) (M : Nat) (σ : St) := loopAt Tryd.prog env (ct m) J (m + 1) 61 32 Tryd.f61 d27 p ms M σ
theorem ref01_count_j3_eq (m : Nat) (M1 : Nat) (rec1 : Int → Int → List Dt → Int → Option (Int)) (h1 : ∀ (x0 : Int) (x1 : Int) (x2 : List Dt) (x3 : Int), l27 jn m [1, 1, 1, 0, 1, 0] [] M1 ⟨tsOf [(1, (.dat 3 (.int x0))), (5, (.dat 3 (.int x1))), (6, (.dat 27 (.lst x2))), (7, (.dat 3 (.int x3)))], [], 0⟩ = rec1 x0 x1 x2 x3) (x0 : Int) (x1 : Int) (x2 : List Dt) (x3 : Int) : e27 jn m [1, 1, 1, 0, 1, 0, 0, 1, 1] [M1] ⟨tsOf [(1, (.dat 3 (.int x0))), (5, (.dat 3 (.int x1))), (6, (.dat 27 (.lst x2))), (7, (.dat 3 (.int x3)))], [], 0⟩ = ref01_count_j3 m (ref01_count m) rec1 x0 x1 x2 x3 := by
  have h : ∀ J, e27 J m [1, 1, 1, 0, 1, 0, 0, 1, 1] [M1] ⟨tsOf [(1, (.dat 3 (.int x0))), (5, (.dat 3 (.int x1))), (6, (.dat 27 (.lst x2))), (7, (.dat 3 (.int x3)))], [], 0⟩ =
    (J 1 4 M1 ⟨tsOf [(1, (.dat 3 (.int x0))), (5, (.dat 3 (.int x1))), (6, (.dat 27 (.lst x2))), (7, (.dat 3 (.int (IntKind.wrap IntKind.i64 (x3 + (1 : Int))))))], [], 0⟩ (l27 J m [1, 1, 1, 0, 1, 0] [] M1 ⟨tsOf [(1, (.dat 3 (.int x0))), (5, (.dat 3 (.int x1))), (6, (.dat 27 (.lst x2))), (7, (.dat 3 (.int (IntKind.wrap IntKind.i64 (x3 + (1 : Int))))))], [], 0⟩)) := fun J => by kernel_rfl
  exact (h jn).trans (by
    simp only [jn_eq, h1]
    rfl)
theorem ref01_count_j2_eq (m : Nat) (M1 : Nat) (rec1 : Int → Int → List Dt → Int → Option (Int)) (h1 : ∀ (x0 : Int) (x1 : Int) (x2 : List Dt) (x3 : Int), l27 jn m [1, 1, 1, 0, 1, 0] [] M1 ⟨tsOf [(1, (.dat 3 (.int x0))), (5, (.dat 3 (.int x1))), (6, (.dat 27 (.lst x2))), (7, (.dat 3 (.int x3)))], [], 0⟩ = rec1 x0 x1 x2 x3) (x0 : Int) (x1 : Int) (x2 : List Dt) (x3 : Int) : e27 jn m [1, 1, 1, 0, 1, 0, 0, 1] [M1] ⟨tsOf [(1, (.dat 3 (.int x0))), (5, (.dat 3 (.int x1))), (6, (.dat 27 (.lst x2))), (7, (.dat 3 (.int x3)))], [], 0⟩ = ref01_count_j2 m (ref01_count m) rec1 x0 x1 x2 x3 := by
  have h : ∀ J, e27 J m [1, 1, 1, 0, 1, 0, 0, 1] [M1] ⟨tsOf [(1, (.dat 3 (.int x0))), (5, (.dat 3 (.int x1))), (6, (.dat 27 (.lst x2))), (7, (.dat 3 (.int x3)))], [], 0⟩ =
    ((idx x2 x3).bind fun v1 =>
      ((ref01_count m v1 (IntKind.wrap IntKind.i64 (x0 - x1))).bind fun r2 =>
        (J 0 5 0 ⟨tsOf [(1, (.dat 3 (.int x0))), (5, (.dat 3 (.int (IntKind.wrap IntKind.i64 (x1 + r2))))), (6, (.dat 27 (.lst x2))), (7, (.dat 3 (.int x3)))], [], 0⟩ (e27 J m [1, 1, 1, 0, 1, 0, 0, 1, 1] [M1] ⟨tsOf [(1, (.dat 3 (.int x0))), (5, (.dat 3 (.int (IntKind.wrap IntKind.i64 (x1 + r2))))), (6, (.dat 27 (.lst x2))), (7, (.dat 3 (.int x3)))], [], 0⟩)))) := fun J => by kernel_rfl
  exact (h jn).trans (by
    simp only [jn_eq, ref01_count_j3_eq m M1 rec1 h1]
    rfl)
theorem ref01_count_j4_eq (m : Nat) (x0 : Int) : e27 jn m [1, 1, 1, 1] [] ⟨tsOf [(5, (.dat 3 (.int x0)))], [], 0⟩ = ref01_count_j4 m (ref01_count m) x0 := by
  have h : ∀ J, e27 J m [1, 1, 1, 1] [] ⟨tsOf [(5, (.dat 3 (.int x0)))], [], 0⟩ =
    some x0 := fun J => by kernel_rfl
  exact (h jn).trans (rfl)
theorem ref01_count_l1_eq (m : Nat) : ∀ (M1 : Nat) (x0 : Int) (x1 : Int) (x2 : List Dt) (x3 : Int), l27 jn m [1, 1, 1, 0, 1, 0] [] M1 ⟨tsOf [(1, (.dat 3 (.int x0))), (5, (.dat 3 (.int x1))), (6, (.dat 27 (.lst x2))), (7, (.dat 3 (.int x3)))], [], 0⟩ = ref01_count_l1 m (ref01_count m) M1 x0 x1 x2 x3
  | 0, _, _, _, _ => rfl
  | M1 + 1, x0, x1, x2, x3 => by
    have h : ∀ J, l27 J m [1, 1, 1, 0, 1, 0] [] (M1 + 1) ⟨tsOf [(1, (.dat 3 (.int x0))), (5, (.dat 3 (.int x1))), (6, (.dat 27 (.lst x2))), (7, (.dat 3 (.int x3)))], [], 0⟩ =
    (bif (decide (x3 < (((List.length x2) : Nat) : Int))) then
      (bif (decide (x1 < x0)) then
        (J 0 6 0 ⟨tsOf [(1, (.dat 3 (.int x0))), (5, (.dat 3 (.int x1))), (6, (.dat 27 (.lst x2))), (7, (.dat 3 (.int x3)))], [], 0⟩ (e27 J m [1, 1, 1, 0, 1, 0, 0, 1] [M1] ⟨tsOf [(1, (.dat 3 (.int x0))), (5, (.dat 3 (.int x1))), (6, (.dat 27 (.lst x2))), (7, (.dat 3 (.int x3)))], [], 0⟩))
      else
        (J 0 7 0 ⟨tsOf [(5, (.dat 3 (.int x1)))], [], 0⟩ (e27 J m [1, 1, 1, 1] [] ⟨tsOf [(5, (.dat 3 (.int x1)))], [], 0⟩)))
    else
      (J 0 7 0 ⟨tsOf [(5, (.dat 3 (.int x1)))], [], 0⟩ (e27 J m [1, 1, 1, 1] [] ⟨tsOf [(5, (.dat 3 (.int x1)))], [], 0⟩))) := fun J => by kernel_rfl
    refine (h jn).trans ?_
    simp only [jn_eq, ref01_count_j2_eq m M1 (ref01_count_l1 m (ref01_count m) M1) (fun x0 x1 x2 x3 => ref01_count_l1_eq m M1 x0 x1 x2 x3), ref01_count_j4_eq m]
    rfl
theorem ref01_count_j0_eq (m : Nat) (x0 : Int) (x1 : Int) (x2 : List Dt) (x3 : Int) : e27 jn m [1, 1, 1, 0, 1] [] ⟨tsOf [(1, (.dat 3 (.int x0))), (5, (.dat 3 (.int x1))), (6, (.dat 27 (.lst x2))), (7, (.dat 3 (.int x3)))], [], 0⟩ = ref01_count_j0 m (ref01_count m) x0 x1 x2 x3 := by
  have h : ∀ J, e27 J m [1, 1, 1, 0, 1] [] ⟨tsOf [(1, (.dat 3 (.int x0))), (5, (.dat 3 (.int x1))), (6, (.dat 27 (.lst x2))), (7, (.dat 3 (.int x3)))], [], 0⟩ =
    (J 1 4 (Nat.succ m) ⟨tsOf [(1, (.dat 3 (.int x0))), (5, (.dat 3 (.int x1))), (6, (.dat 27 (.lst x2))), (7, (.dat 3 (.int x3)))], [], 0⟩ (l27 J m [1, 1, 1, 0, 1, 0] [] (Nat.succ m) ⟨tsOf [(1, (.dat 3 (.int x0))), (5, (.dat 3 (.int x1))), (6, (.dat 27 (.lst x2))), (7, (.dat 3 (.int x3)))], [], 0⟩)) := fun J => by kernel_rfl
  exact (h jn).trans (by
    simp only [jn_eq, ref01_count_l1_eq m]
    rfl)
theorem ref01_count_eq (m : Nat) (a0 : Dt) (a1 : Int) : e27 jn m [] [] ⟨[(.dat 30 a0), (.dat 3 (.int a1))], [], 0⟩ = ref01_count (m + 1) a0 a1 := by
  have h : ∀ J, e27 J m [] [] ⟨[(.dat 30 a0), (.dat 3 (.int a1))], [], 0⟩ =
    ((ref01_Parts m a0).bind fun r0 =>
      (J 0 4 0 ⟨tsOf [(1, (.dat 3 (.int a1))), (5, (.dat 3 (.int (1 : Int)))), (6, (.dat 27 (.lst r0))), (7, (.dat 3 (.int (0 : Int))))], [], 0⟩ (e27 J m [1, 1, 1, 0, 1] [] ⟨tsOf [(1, (.dat 3 (.int a1))), (5, (.dat 3 (.int (1 : Int)))), (6, (.dat 27 (.lst r0))), (7, (.dat 3 (.int (0 : Int))))], [], 0⟩))) := fun J => by kernel_rfl
  refine (h jn).trans ?_
  simp only [jn_eq, ref01_count_j0_eq m]
  rfl
noncomputable def d19 (q : Res) : Option (Int) := match q with
  | (.dat T0 x0, []) => bif Nat.beq T0 3 then some x0.toInt else none
  | _ => none
theorem d19_sim {b : Res} {r : Int} (h : d19 b = some r) : Sim Tryd.prog b ((.dat 3 (.int r)), []) := by
  unfold d19 at h
  split at h
  · obtain ⟨hc, h2⟩ := bif_some h
    cases h2
    have e0 := beq_eq hc
    subst e0
    exact Sim.of (.of (.dat (.int Tryd.underlying3)) rfl rfl) .nil
  · cases h
noncomputable def e19 (J : Nat → Nat → Nat → St → Option (Int) → Option (Int)) (m : Nat) (p ms : List Nat) (σ : St) := evAt Tryd.prog env (ct m) J (m + 1) 48 5 Tryd.f48 d19 p ms σ
noncomputable def l19 (J : Nat → Nat → Nat → St → Option (Int) → Option (Int)) (m : Nat) (p ms : List Nat) (M : Nat) (σ : St) := loopAt Tryd.prog env (ct m) J (m + 1) 48 5 Tryd.f48 d19 p ms M σ
theorem ref01_Nodes_eq (m : Nat) (a0 : Dt) : e19 jn m [] [] ⟨[(.dat 30 a0)], [], 0⟩ = ref01_Nodes (m + 1) a0 := by
  have h : ∀ J, e19 J m [] [] ⟨[(.dat 30 a0)], [], 0⟩ =
    ((ref01_count m a0 (1025 : Int)).bind fun r0 =>
      some r0) := fun J => by kernel_rfl
  refine (h jn).trans ?_
  
  rfl
noncomputable def d38 (q : Res) : Option (Bool) := match q with
  | (.dat T0 x0, []) => bif Nat.beq T0 4 then some x0.toBool else none
  | _ => none
theorem d38_sim {b : Res} {r : Bool} (h : d38 b = some r) : Sim Tryd.prog b ((.dat 4 (.bool r)), []) := by
  unfold d38 at h
  split at h
  · obtain ⟨hc, h2⟩ := bif_some h
    cases h2
    have e0 := beq_eq hc
    subst e0
    exact Sim.of (.of (.dat (.bool Tryd.underlying4)) rfl rfl) .nil
  · cases h
noncomputable def e38 (J : Nat → Nat → Nat → St → Option (Bool) → Option (Bool)) (m : Nat) (p ms : List Nat) (σ : St) := evAt Tryd.prog env (ct m) J (m + 1) 74 33 Tryd.f74 d38 p ms σ
noncomputable def l38 (J : Nat → Nat → Nat → St → Option (Bool) → Option (Bool)) (m : Nat) (p ms : List Nat) (M : Nat) (σ : St) := loopAt Tryd.prog env (ct m) J (m + 1) 74 33 Tryd.f74 d38 p ms M σ
theorem ref01_tail_j4_eq (m : Nat) (M2 : Nat) (rec2 : ByteArray → Int → Int → Int → Option (Bool)) (h2 : ∀ (x0 : ByteArray) (x1 : Int) (x2 : Int) (x3 : Int), l38 jn m [1, 1, 0, 1, 0] [] M2 ⟨tsOf [(0, (.dat 9 (.str x0))), (1, (.dat 3 (.int x1))), (2, (.dat 3 (.int x2))), (7, (.dat 3 (.int x3)))], [], 0⟩ = rec2 x0 x1 x2 x3) (x0 : ByteArray) (x1 : Int) (x2 : Int) (x3 : Int) : e38 jn m [1, 1, 0, 1, 0, 0, 1, 1] [M2] ⟨tsOf [(0, (.dat 9 (.str x0))), (1, (.dat 3 (.int x1))), (2, (.dat 3 (.int x2))), (7, (.dat 3 (.int x3)))], [], 0⟩ = ref01_tail_j4 m rec2 x0 x1 x2 x3 := by
  have h : ∀ J, e38 J m [1, 1, 0, 1, 0, 0, 1, 1] [M2] ⟨tsOf [(0, (.dat 9 (.str x0))), (1, (.dat 3 (.int x1))), (2, (.dat 3 (.int x2))), (7, (.dat 3 (.int x3)))], [], 0⟩ =
    (J 1 4 M2 ⟨tsOf [(0, (.dat 9 (.str x0))), (1, (.dat 3 (.int x1))), (2, (.dat 3 (.int x2))), (7, (.dat 3 (.int (IntKind.wrap IntKind.i64 (x3 + (1 : Int))))))], [], 0⟩ (l38 J m [1, 1, 0, 1, 0] [] M2 ⟨tsOf [(0, (.dat 9 (.str x0))), (1, (.dat 3 (.int x1))), (2, (.dat 3 (.int x2))), (7, (.dat 3 (.int (IntKind.wrap IntKind.i64 (x3 + (1 : Int))))))], [], 0⟩)) := fun J => by kernel_rfl
  exact (h jn).trans (by
    simp only [jn_eq, h2]
    rfl)
theorem ref01_tail_j3_eq (m : Nat) (M2 : Nat) (rec2 : ByteArray → Int → Int → Int → Option (Bool)) (h2 : ∀ (x0 : ByteArray) (x1 : Int) (x2 : Int) (x3 : Int), l38 jn m [1, 1, 0, 1, 0] [] M2 ⟨tsOf [(0, (.dat 9 (.str x0))), (1, (.dat 3 (.int x1))), (2, (.dat 3 (.int x2))), (7, (.dat 3 (.int x3)))], [], 0⟩ = rec2 x0 x1 x2 x3) (x0 : ByteArray) (x1 : Int) (x2 : Int) (x3 : Int) : e38 jn m [1, 1, 0, 1, 0, 0, 1] [M2] ⟨tsOf [(0, (.dat 9 (.str x0))), (1, (.dat 3 (.int x1))), (2, (.dat 3 (.int x2))), (7, (.dat 3 (.int x3)))], [], 0⟩ = ref01_tail_j3 m rec2 x0 x1 x2 x3 := by
  have h : ∀ J, e38 J m [1, 1, 0, 1, 0, 0, 1] [M2] ⟨tsOf [(0, (.dat 9 (.str x0))), (1, (.dat 3 (.int x1))), (2, (.dat 3 (.int x2))), (7, (.dat 3 (.int x3)))], [], 0⟩ =
    ((idxS x0 (IntKind.wrap IntKind.i64 (x1 + x3))).bind fun v0 =>
      (bif (decide (v0 < (128 : Int))) then
        some Bool.false
      else
        ((idxS x0 (IntKind.wrap IntKind.i64 (x1 + x3))).bind fun v1 =>
          (bif (decide ((191 : Int) < v1)) then
            some Bool.false
          else
            (J 0 5 0 ⟨tsOf [(0, (.dat 9 (.str x0))), (1, (.dat 3 (.int x1))), (2, (.dat 3 (.int x2))), (7, (.dat 3 (.int x3)))], [], 0⟩ (e38 J m [1, 1, 0, 1, 0, 0, 1, 1] [M2] ⟨tsOf [(0, (.dat 9 (.str x0))), (1, (.dat 3 (.int x1))), (2, (.dat 3 (.int x2))), (7, (.dat 3 (.int x3)))], [], 0⟩)))))) := fun J => by kernel_rfl
  exact (h jn).trans (by
    simp only [jn_eq, ref01_tail_j4_eq m M2 rec2 h2]
    rfl)
theorem ref01_tail_j5_eq (m : Nat) : e38 jn m [1, 1, 1] [] ⟨tsOf [], [], 0⟩ = ref01_tail_j5 m := by
  have h : ∀ J, e38 J m [1, 1, 1] [] ⟨tsOf [], [], 0⟩ =
    some Bool.true := fun J => by kernel_rfl
  exact (h jn).trans (rfl)
theorem ref01_tail_l2_eq (m : Nat) : ∀ (M2 : Nat) (x0 : ByteArray) (x1 : Int) (x2 : Int) (x3 : Int), l38 jn m [1, 1, 0, 1, 0] [] M2 ⟨tsOf [(0, (.dat 9 (.str x0))), (1, (.dat 3 (.int x1))), (2, (.dat 3 (.int x2))), (7, (.dat 3 (.int x3)))], [], 0⟩ = ref01_tail_l2 m M2 x0 x1 x2 x3
  | 0, _, _, _, _ => rfl
  | M2 + 1, x0, x1, x2, x3 => by
    have h : ∀ J, l38 J m [1, 1, 0, 1, 0] [] (M2 + 1) ⟨tsOf [(0, (.dat 9 (.str x0))), (1, (.dat 3 (.int x1))), (2, (.dat 3 (.int x2))), (7, (.dat 3 (.int x3)))], [], 0⟩ =
    (bif (decide (x3 < x2)) then
      (J 0 6 0 ⟨tsOf [(0, (.dat 9 (.str x0))), (1, (.dat 3 (.int x1))), (2, (.dat 3 (.int x2))), (7, (.dat 3 (.int x3)))], [], 0⟩ (e38 J m [1, 1, 0, 1, 0, 0, 1] [M2] ⟨tsOf [(0, (.dat 9 (.str x0))), (1, (.dat 3 (.int x1))), (2, (.dat 3 (.int x2))), (7, (.dat 3 (.int x3)))], [], 0⟩))
    else
      (J 0 8 0 ⟨tsOf [], [], 0⟩ (e38 J m [1, 1, 1] [] ⟨tsOf [], [], 0⟩))) := fun J => by kernel_rfl
    refine (h jn).trans ?_
    simp only [jn_eq, ref01_tail_j3_eq m M2 (ref01_tail_l2 m M2) (fun x0 x1 x2 x3 => ref01_tail_l2_eq m M2 x0 x1 x2 x3), ref01_tail_j5_eq m]
    rfl
theorem ref01_tail_j1_eq (m : Nat) (x0 : ByteArray) (x1 : Int) (x2 : Int) (x3 : Int) : e38 jn m [1, 1, 0, 1] [] ⟨tsOf [(0, (.dat 9 (.str x0))), (1, (.dat 3 (.int x1))), (2, (.dat 3 (.int x2))), (7, (.dat 3 (.int x3)))], [], 0⟩ = ref01_tail_j1 m x0 x1 x2 x3 := by
  have h : ∀ J, e38 J m [1, 1, 0, 1] [] ⟨tsOf [(0, (.dat 9 (.str x0))), (1, (.dat 3 (.int x1))), (2, (.dat 3 (.int x2))), (7, (.dat 3 (.int x3)))], [], 0⟩ =
    (J 1 4 (Nat.succ m) ⟨tsOf [(0, (.dat 9 (.str x0))), (1, (.dat 3 (.int x1))), (2, (.dat 3 (.int x2))), (7, (.dat 3 (.int x3)))], [], 0⟩ (l38 J m [1, 1, 0, 1, 0] [] (Nat.succ m) ⟨tsOf [(0, (.dat 9 (.str x0))), (1, (.dat 3 (.int x1))), (2, (.dat 3 (.int x2))), (7, (.dat 3 (.int x3)))], [], 0⟩)) := fun J => by kernel_rfl
  exact (h jn).trans (by
    simp only [jn_eq, ref01_tail_l2_eq m]
    rfl)
theorem ref01_tail_j0_eq (m : Nat) (x0 : ByteArray) (x1 : Int) (x2 : Int) : e38 jn m [1, 1] [] ⟨tsOf [(0, (.dat 9 (.str x0))), (1, (.dat 3 (.int x1))), (2, (.dat 3 (.int x2)))], [], 0⟩ = ref01_tail_j0 m x0 x1 x2 := by
  have h : ∀ J, e38 J m [1, 1] [] ⟨tsOf [(0, (.dat 9 (.str x0))), (1, (.dat 3 (.int x1))), (2, (.dat 3 (.int x2)))], [], 0⟩ =
    (J 0 4 0 ⟨tsOf [(0, (.dat 9 (.str x0))), (1, (.dat 3 (.int x1))), (2, (.dat 3 (.int x2))), (7, (.dat 3 (.int (0 : Int))))], [], 0⟩ (e38 J m [1, 1, 0, 1] [] ⟨tsOf [(0, (.dat 9 (.str x0))), (1, (.dat 3 (.int x1))), (2, (.dat 3 (.int x2))), (7, (.dat 3 (.int (0 : Int))))], [], 0⟩)) := fun J => by kernel_rfl
  exact (h jn).trans (by
    simp only [jn_eq, ref01_tail_j1_eq m]
    rfl)
theorem ref01_tail_eq (m : Nat) (a0 : ByteArray) (a1 : Int) (a2 : Int) : e38 jn m [] [] ⟨[(.dat 9 (.str a0)), (.dat 3 (.int a1)), (.dat 3 (.int a2))], [], 0⟩ = ref01_tail (m + 1) a0 a1 a2 := by
  have h : ∀ J, e38 J m [] [] ⟨[(.dat 9 (.str a0)), (.dat 3 (.int a1)), (.dat 3 (.int a2))], [], 0⟩ =
    (bif (decide ((((ByteArray.size a0) : Nat) : Int) < (IntKind.wrap IntKind.i64 (a1 + a2)))) then
      some Bool.false
    else
      (J 0 3 0 ⟨tsOf [(0, (.dat 9 (.str a0))), (1, (.dat 3 (.int a1))), (2, (.dat 3 (.int a2)))], [], 0⟩ (e38 J m [1, 1] [] ⟨tsOf [(0, (.dat 9 (.str a0))), (1, (.dat 3 (.int a1))), (2, (.dat 3 (.int a2)))], [], 0⟩))) := fun J => by kernel_rfl
  refine (h jn).trans ?_
  simp only [jn_eq, ref01_tail_j0_eq m]
  rfl
noncomputable def d28 (q : Res) : Option (Bool) := match q with
  | (.dat T0 x0, []) => bif Nat.beq T0 4 then some x0.toBool else none
  | _ => none
theorem d28_sim {b : Res} {r : Bool} (h : d28 b = some r) : Sim Tryd.prog b ((.dat 4 (.bool r)), []) := by
  unfold d28 at h
  split at h
  · obtain ⟨hc, h2⟩ := bif_some h
    cases h2
    have e0 := beq_eq hc
    subst e0
    exact Sim.of (.of (.dat (.bool Tryd.underlying4)) rfl rfl) .nil
  · cases h
noncomputable def e28 (J : Nat → Nat → Nat → St → Option (Bool) → Option (Bool)) (m : Nat) (p ms : List Nat) (σ : St) := evAt Tryd.prog env (ct m) J (m + 1) 62 89 Tryd.f62 d28 p ms σ
noncomputable def l28 (J : Nat → Nat → Nat → St → Option (Bool) → Option (Bool)) (m : Nat) (p ms : List Nat) (M : Nat) (σ : St) := loopAt Tryd.prog env (ct m) J (m + 1) 62 89 Tryd.f62 d28 p ms M σ
theorem ref01_UTF8_j5_eq (m : Nat) (M1 : Nat) (rec1 : ByteArray → Int → Option (Bool)) (h1 : ∀ (x0 : ByteArray) (x1 : Int), l28 jn m [1, 0, 1, 0] [] M1 ⟨tsOf [(0, (.dat 9 (.str x0))), (3, (.dat 3 (.int x1)))], [], 0⟩ = rec1 x0 x1) (x0 : ByteArray) (x1 : Int) (x2 : Int) : e28 jn m [1, 0, 1, 0, 0, 1, 0, 1, 1, 1, 1, 1] [M1] ⟨tsOf [(0, (.dat 9 (.str x0))), (3, (.dat 3 (.int x1))), (5, (.dat 3 (.int x2)))], [], 0⟩ = ref01_UTF8_j5 m rec1 x0 x1 x2 := by
  have h : ∀ J, e28 J m [1, 0, 1, 0, 0, 1, 0, 1, 1, 1, 1, 1] [M1] ⟨tsOf [(0, (.dat 9 (.str x0))), (3, (.dat 3 (.int x1))), (5, (.dat 3 (.int x2)))], [], 0⟩ =
    (J 1 2 M1 ⟨tsOf [(0, (.dat 9 (.str x0))), (3, (.dat 3 (.int (IntKind.wrap IntKind.i64 ((IntKind.wrap IntKind.i64 (x1 + x2)) + (1 : Int))))))], [], 0⟩ (l28 J m [1, 0, 1, 0] [] M1 ⟨tsOf [(0, (.dat 9 (.str x0))), (3, (.dat 3 (.int (IntKind.wrap IntKind.i64 ((IntKind.wrap IntKind.i64 (x1 + x2)) + (1 : Int))))))], [], 0⟩)) := fun J => by kernel_rfl
  exact (h jn).trans (by
    simp only [jn_eq, h1]
    rfl)
theorem ref01_UTF8_j4_eq (m : Nat) (M1 : Nat) (rec1 : ByteArray → Int → Option (Bool)) (h1 : ∀ (x0 : ByteArray) (x1 : Int), l28 jn m [1, 0, 1, 0] [] M1 ⟨tsOf [(0, (.dat 9 (.str x0))), (3, (.dat 3 (.int x1)))], [], 0⟩ = rec1 x0 x1) (x0 : ByteArray) (x1 : Int) (x2 : Int) (x3 : Int) : e28 jn m [1, 0, 1, 0, 0, 1, 0, 1, 1, 1, 1] [M1] ⟨tsOf [(0, (.dat 9 (.str x0))), (3, (.dat 3 (.int x1))), (4, (.dat 5 (.int x2))), (5, (.dat 3 (.int x3)))], [], 0⟩ = ref01_UTF8_j4 m rec1 x0 x1 x2 x3 := by
  have h : ∀ J, e28 J m [1, 0, 1, 0, 0, 1, 0, 1, 1, 1, 1] [M1] ⟨tsOf [(0, (.dat 9 (.str x0))), (3, (.dat 3 (.int x1))), (4, (.dat 5 (.int x2))), (5, (.dat 3 (.int x3)))], [], 0⟩ =
    (bif (x2 == (224 : Int)) then
      ((idxS x0 (IntKind.wrap IntKind.i64 (x1 + (1 : Int)))).bind fun v2 =>
        (bif (decide (v2 < (160 : Int))) then
          some Bool.false
        else
          (bif (x2 == (237 : Int)) then
            ((idxS x0 (IntKind.wrap IntKind.i64 (x1 + (1 : Int)))).bind fun v3 =>
              (bif (decide ((159 : Int) < v3)) then
                some Bool.false
              else
                (bif (x2 == (240 : Int)) then
                  ((idxS x0 (IntKind.wrap IntKind.i64 (x1 + (1 : Int)))).bind fun v4 =>
                    (bif (decide (v4 < (144 : Int))) then
                      some Bool.false
                    else
                      (bif (x2 == (244 : Int)) then
                        ((idxS x0 (IntKind.wrap IntKind.i64 (x1 + (1 : Int)))).bind fun v5 =>
                          (bif (decide ((143 : Int) < v5)) then
                            some Bool.false
                          else
                            (J 0 17 0 ⟨tsOf [(0, (.dat 9 (.str x0))), (3, (.dat 3 (.int x1))), (5, (.dat 3 (.int x3)))], [], 0⟩ (e28 J m [1, 0, 1, 0, 0, 1, 0, 1, 1, 1, 1, 1] [M1] ⟨tsOf [(0, (.dat 9 (.str x0))), (3, (.dat 3 (.int x1))), (5, (.dat 3 (.int x3)))], [], 0⟩))))
                      else
                        (J 0 17 0 ⟨tsOf [(0, (.dat 9 (.str x0))), (3, (.dat 3 (.int x1))), (5, (.dat 3 (.int x3)))], [], 0⟩ (e28 J m [1, 0, 1, 0, 0, 1, 0, 1, 1, 1, 1, 1] [M1] ⟨tsOf [(0, (.dat 9 (.str x0))), (3, (.dat 3 (.int x1))), (5, (.dat 3 (.int x3)))], [], 0⟩)))))
                else
                  (bif (x2 == (244 : Int)) then
                    ((idxS x0 (IntKind.wrap IntKind.i64 (x1 + (1 : Int)))).bind fun v6 =>
                      (bif (decide ((143 : Int) < v6)) then
                        some Bool.false
                      else
                        (J 0 17 0 ⟨tsOf [(0, (.dat 9 (.str x0))), (3, (.dat 3 (.int x1))), (5, (.dat 3 (.int x3)))], [], 0⟩ (e28 J m [1, 0, 1, 0, 0, 1, 0, 1, 1, 1, 1, 1] [M1] ⟨tsOf [(0, (.dat 9 (.str x0))), (3, (.dat 3 (.int x1))), (5, (.dat 3 (.int x3)))], [], 0⟩))))
                  else
                    (J 0 17 0 ⟨tsOf [(0, (.dat 9 (.str x0))), (3, (.dat 3 (.int x1))), (5, (.dat 3 (.int x3)))], [], 0⟩ (e28 J m [1, 0, 1, 0, 0, 1, 0, 1, 1, 1, 1, 1] [M1] ⟨tsOf [(0, (.dat 9 (.str x0))), (3, (.dat 3 (.int x1))), (5, (.dat 3 (.int x3)))], [], 0⟩))))))
          else
            (bif (x2 == (240 : Int)) then
              ((idxS x0 (IntKind.wrap IntKind.i64 (x1 + (1 : Int)))).bind fun v7 =>
                (bif (decide (v7 < (144 : Int))) then
                  some Bool.false
                else
                  (bif (x2 == (244 : Int)) then
                    ((idxS x0 (IntKind.wrap IntKind.i64 (x1 + (1 : Int)))).bind fun v8 =>
                      (bif (decide ((143 : Int) < v8)) then
                        some Bool.false
                      else
                        (J 0 17 0 ⟨tsOf [(0, (.dat 9 (.str x0))), (3, (.dat 3 (.int x1))), (5, (.dat 3 (.int x3)))], [], 0⟩ (e28 J m [1, 0, 1, 0, 0, 1, 0, 1, 1, 1, 1, 1] [M1] ⟨tsOf [(0, (.dat 9 (.str x0))), (3, (.dat 3 (.int x1))), (5, (.dat 3 (.int x3)))], [], 0⟩))))
                  else
                    (J 0 17 0 ⟨tsOf [(0, (.dat 9 (.str x0))), (3, (.dat 3 (.int x1))), (5, (.dat 3 (.int x3)))], [], 0⟩ (e28 J m [1, 0, 1, 0, 0, 1, 0, 1, 1, 1, 1, 1] [M1] ⟨tsOf [(0, (.dat 9 (.str x0))), (3, (.dat 3 (.int x1))), (5, (.dat 3 (.int x3)))], [], 0⟩)))))
            else
              (bif (x2 == (244 : Int)) then
                ((idxS x0 (IntKind.wrap IntKind.i64 (x1 + (1 : Int)))).bind fun v9 =>
                  (bif (decide ((143 : Int) < v9)) then
                    some Bool.false
                  else
                    (J 0 17 0 ⟨tsOf [(0, (.dat 9 (.str x0))), (3, (.dat 3 (.int x1))), (5, (.dat 3 (.int x3)))], [], 0⟩ (e28 J m [1, 0, 1, 0, 0, 1, 0, 1, 1, 1, 1, 1] [M1] ⟨tsOf [(0, (.dat 9 (.str x0))), (3, (.dat 3 (.int x1))), (5, (.dat 3 (.int x3)))], [], 0⟩))))
              else
                (J 0 17 0 ⟨tsOf [(0, (.dat 9 (.str x0))), (3, (.dat 3 (.int x1))), (5, (.dat 3 (.int x3)))], [], 0⟩ (e28 J m [1, 0, 1, 0, 0, 1, 0, 1, 1, 1, 1, 1] [M1] ⟨tsOf [(0, (.dat 9 (.str x0))), (3, (.dat 3 (.int x1))), (5, (.dat 3 (.int x3)))], [], 0⟩)))))))
    else
      (bif (x2 == (237 : Int)) then
        ((idxS x0 (IntKind.wrap IntKind.i64 (x1 + (1 : Int)))).bind fun v10 =>
          (bif (decide ((159 : Int) < v10)) then
            some Bool.false
          else
            (bif (x2 == (240 : Int)) then
              ((idxS x0 (IntKind.wrap IntKind.i64 (x1 + (1 : Int)))).bind fun v11 =>
                (bif (decide (v11 < (144 : Int))) then
                  some Bool.false
                else
                  (bif (x2 == (244 : Int)) then
                    ((idxS x0 (IntKind.wrap IntKind.i64 (x1 + (1 : Int)))).bind fun v12 =>
                      (bif (decide ((143 : Int) < v12)) then
                        some Bool.false
                      else
                        (J 0 17 0 ⟨tsOf [(0, (.dat 9 (.str x0))), (3, (.dat 3 (.int x1))), (5, (.dat 3 (.int x3)))], [], 0⟩ (e28 J m [1, 0, 1, 0, 0, 1, 0, 1, 1, 1, 1, 1] [M1] ⟨tsOf [(0, (.dat 9 (.str x0))), (3, (.dat 3 (.int x1))), (5, (.dat 3 (.int x3)))], [], 0⟩))))
                  else
                    (J 0 17 0 ⟨tsOf [(0, (.dat 9 (.str x0))), (3, (.dat 3 (.int x1))), (5, (.dat 3 (.int x3)))], [], 0⟩ (e28 J m [1, 0, 1, 0, 0, 1, 0, 1, 1, 1, 1, 1] [M1] ⟨tsOf [(0, (.dat 9 (.str x0))), (3, (.dat 3 (.int x1))), (5, (.dat 3 (.int x3)))], [], 0⟩)))))
            else
              (bif (x2 == (244 : Int)) then
                ((idxS x0 (IntKind.wrap IntKind.i64 (x1 + (1 : Int)))).bind fun v13 =>
                  (bif (decide ((143 : Int) < v13)) then
                    some Bool.false
                  else
                    (J 0 17 0 ⟨tsOf [(0, (.dat 9 (.str x0))), (3, (.dat 3 (.int x1))), (5, (.dat 3 (.int x3)))], [], 0⟩ (e28 J m [1, 0, 1, 0, 0, 1, 0, 1, 1, 1, 1, 1] [M1] ⟨tsOf [(0, (.dat 9 (.str x0))), (3, (.dat 3 (.int x1))), (5, (.dat 3 (.int x3)))], [], 0⟩))))
              else
                (J 0 17 0 ⟨tsOf [(0, (.dat 9 (.str x0))), (3, (.dat 3 (.int x1))), (5, (.dat 3 (.int x3)))], [], 0⟩ (e28 J m [1, 0, 1, 0, 0, 1, 0, 1, 1, 1, 1, 1] [M1] ⟨tsOf [(0, (.dat 9 (.str x0))), (3, (.dat 3 (.int x1))), (5, (.dat 3 (.int x3)))], [], 0⟩))))))
      else
        (bif (x2 == (240 : Int)) then
          ((idxS x0 (IntKind.wrap IntKind.i64 (x1 + (1 : Int)))).bind fun v14 =>
            (bif (decide (v14 < (144 : Int))) then
              some Bool.false
            else
              (bif (x2 == (244 : Int)) then
                ((idxS x0 (IntKind.wrap IntKind.i64 (x1 + (1 : Int)))).bind fun v15 =>
                  (bif (decide ((143 : Int) < v15)) then
                    some Bool.false
                  else
                    (J 0 17 0 ⟨tsOf [(0, (.dat 9 (.str x0))), (3, (.dat 3 (.int x1))), (5, (.dat 3 (.int x3)))], [], 0⟩ (e28 J m [1, 0, 1, 0, 0, 1, 0, 1, 1, 1, 1, 1] [M1] ⟨tsOf [(0, (.dat 9 (.str x0))), (3, (.dat 3 (.int x1))), (5, (.dat 3 (.int x3)))], [], 0⟩))))
              else
                (J 0 17 0 ⟨tsOf [(0, (.dat 9 (.str x0))), (3, (.dat 3 (.int x1))), (5, (.dat 3 (.int x3)))], [], 0⟩ (e28 J m [1, 0, 1, 0, 0, 1, 0, 1, 1, 1, 1, 1] [M1] ⟨tsOf [(0, (.dat 9 (.str x0))), (3, (.dat 3 (.int x1))), (5, (.dat 3 (.int x3)))], [], 0⟩)))))
        else
          (bif (x2 == (244 : Int)) then
            ((idxS x0 (IntKind.wrap IntKind.i64 (x1 + (1 : Int)))).bind fun v16 =>
              (bif (decide ((143 : Int) < v16)) then
                some Bool.false
              else
                (J 0 17 0 ⟨tsOf [(0, (.dat 9 (.str x0))), (3, (.dat 3 (.int x1))), (5, (.dat 3 (.int x3)))], [], 0⟩ (e28 J m [1, 0, 1, 0, 0, 1, 0, 1, 1, 1, 1, 1] [M1] ⟨tsOf [(0, (.dat 9 (.str x0))), (3, (.dat 3 (.int x1))), (5, (.dat 3 (.int x3)))], [], 0⟩))))
          else
            (J 0 17 0 ⟨tsOf [(0, (.dat 9 (.str x0))), (3, (.dat 3 (.int x1))), (5, (.dat 3 (.int x3)))], [], 0⟩ (e28 J m [1, 0, 1, 0, 0, 1, 0, 1, 1, 1, 1, 1] [M1] ⟨tsOf [(0, (.dat 9 (.str x0))), (3, (.dat 3 (.int x1))), (5, (.dat 3 (.int x3)))], [], 0⟩)))))) := fun J => by kernel_rfl
  exact (h jn).trans (by
    simp only [jn_eq, ref01_UTF8_j5_eq m M1 rec1 h1]
    rfl)
theorem ref01_UTF8_j3_eq (m : Nat) (M1 : Nat) (rec1 : ByteArray → Int → Option (Bool)) (h1 : ∀ (x0 : ByteArray) (x1 : Int), l28 jn m [1, 0, 1, 0] [] M1 ⟨tsOf [(0, (.dat 9 (.str x0))), (3, (.dat 3 (.int x1)))], [], 0⟩ = rec1 x0 x1) (x0 : ByteArray) (x1 : Int) (x2 : Int) (x3 : Int) : e28 jn m [1, 0, 1, 0, 0, 1, 0, 1, 1, 1] [M1] ⟨tsOf [(0, (.dat 9 (.str x0))), (3, (.dat 3 (.int x1))), (4, (.dat 5 (.int x2))), (5, (.dat 3 (.int x3)))], [], 0⟩ = ref01_UTF8_j3 m rec1 x0 x1 x2 x3 := by
  have h : ∀ J, e28 J m [1, 0, 1, 0, 0, 1, 0, 1, 1, 1] [M1] ⟨tsOf [(0, (.dat 9 (.str x0))), (3, (.dat 3 (.int x1))), (4, (.dat 5 (.int x2))), (5, (.dat 3 (.int x3)))], [], 0⟩ =
    ((ref01_tail m x0 (IntKind.wrap IntKind.i64 (x1 + (1 : Int))) x3).bind fun r1 =>
      (bif (Bool.not r1) then
        some Bool.false
      else
        (J 0 15 0 ⟨tsOf [(0, (.dat 9 (.str x0))), (3, (.dat 3 (.int x1))), (4, (.dat 5 (.int x2))), (5, (.dat 3 (.int x3)))], [], 0⟩ (e28 J m [1, 0, 1, 0, 0, 1, 0, 1, 1, 1, 1] [M1] ⟨tsOf [(0, (.dat 9 (.str x0))), (3, (.dat 3 (.int x1))), (4, (.dat 5 (.int x2))), (5, (.dat 3 (.int x3)))], [], 0⟩)))) := fun J => by kernel_rfl
  exact (h jn).trans (by
    simp only [jn_eq, ref01_UTF8_j4_eq m M1 rec1 h1]
    rfl)
theorem ref01_UTF8_j2_eq (m : Nat) (M1 : Nat) (rec1 : ByteArray → Int → Option (Bool)) (h1 : ∀ (x0 : ByteArray) (x1 : Int), l28 jn m [1, 0, 1, 0] [] M1 ⟨tsOf [(0, (.dat 9 (.str x0))), (3, (.dat 3 (.int x1)))], [], 0⟩ = rec1 x0 x1) (x0 : ByteArray) (x1 : Int) : e28 jn m [1, 0, 1, 0, 0, 1] [M1] ⟨tsOf [(0, (.dat 9 (.str x0))), (3, (.dat 3 (.int x1)))], [], 0⟩ = ref01_UTF8_j2 m rec1 x0 x1 := by
  have h : ∀ J, e28 J m [1, 0, 1, 0, 0, 1] [M1] ⟨tsOf [(0, (.dat 9 (.str x0))), (3, (.dat 3 (.int x1)))], [], 0⟩ =
    ((idxS x0 x1).bind fun v0 =>
      (bif (decide (v0 < (128 : Int))) then
        (J 0 13 0 ⟨tsOf [(0, (.dat 9 (.str x0))), (3, (.dat 3 (.int x1))), (4, (.dat 5 (.int v0))), (5, (.dat 3 (.int (0 : Int))))], [], 0⟩ (e28 J m [1, 0, 1, 0, 0, 1, 0, 1, 1, 1] [M1] ⟨tsOf [(0, (.dat 9 (.str x0))), (3, (.dat 3 (.int x1))), (4, (.dat 5 (.int v0))), (5, (.dat 3 (.int (0 : Int))))], [], 0⟩))
      else
        (bif (decide ((194 : Int) ≤ v0)) then
          (bif (decide (v0 ≤ (223 : Int))) then
            (J 0 13 0 ⟨tsOf [(0, (.dat 9 (.str x0))), (3, (.dat 3 (.int x1))), (4, (.dat 5 (.int v0))), (5, (.dat 3 (.int (1 : Int))))], [], 0⟩ (e28 J m [1, 0, 1, 0, 0, 1, 0, 1, 1, 1] [M1] ⟨tsOf [(0, (.dat 9 (.str x0))), (3, (.dat 3 (.int x1))), (4, (.dat 5 (.int v0))), (5, (.dat 3 (.int (1 : Int))))], [], 0⟩))
          else
            (bif (decide ((224 : Int) ≤ v0)) then
              (bif (decide (v0 ≤ (239 : Int))) then
                (J 0 13 0 ⟨tsOf [(0, (.dat 9 (.str x0))), (3, (.dat 3 (.int x1))), (4, (.dat 5 (.int v0))), (5, (.dat 3 (.int (2 : Int))))], [], 0⟩ (e28 J m [1, 0, 1, 0, 0, 1, 0, 1, 1, 1] [M1] ⟨tsOf [(0, (.dat 9 (.str x0))), (3, (.dat 3 (.int x1))), (4, (.dat 5 (.int v0))), (5, (.dat 3 (.int (2 : Int))))], [], 0⟩))
              else
                (bif (decide ((240 : Int) ≤ v0)) then
                  (bif (decide (v0 ≤ (244 : Int))) then
                    (J 0 13 0 ⟨tsOf [(0, (.dat 9 (.str x0))), (3, (.dat 3 (.int x1))), (4, (.dat 5 (.int v0))), (5, (.dat 3 (.int (3 : Int))))], [], 0⟩ (e28 J m [1, 0, 1, 0, 0, 1, 0, 1, 1, 1] [M1] ⟨tsOf [(0, (.dat 9 (.str x0))), (3, (.dat 3 (.int x1))), (4, (.dat 5 (.int v0))), (5, (.dat 3 (.int (3 : Int))))], [], 0⟩))
                  else
                    some Bool.false)
                else
                  some Bool.false))
            else
              (bif (decide ((240 : Int) ≤ v0)) then
                (bif (decide (v0 ≤ (244 : Int))) then
                  (J 0 13 0 ⟨tsOf [(0, (.dat 9 (.str x0))), (3, (.dat 3 (.int x1))), (4, (.dat 5 (.int v0))), (5, (.dat 3 (.int (3 : Int))))], [], 0⟩ (e28 J m [1, 0, 1, 0, 0, 1, 0, 1, 1, 1] [M1] ⟨tsOf [(0, (.dat 9 (.str x0))), (3, (.dat 3 (.int x1))), (4, (.dat 5 (.int v0))), (5, (.dat 3 (.int (3 : Int))))], [], 0⟩))
                else
                  some Bool.false)
              else
                some Bool.false)))
        else
          (bif (decide ((224 : Int) ≤ v0)) then
            (bif (decide (v0 ≤ (239 : Int))) then
              (J 0 13 0 ⟨tsOf [(0, (.dat 9 (.str x0))), (3, (.dat 3 (.int x1))), (4, (.dat 5 (.int v0))), (5, (.dat 3 (.int (2 : Int))))], [], 0⟩ (e28 J m [1, 0, 1, 0, 0, 1, 0, 1, 1, 1] [M1] ⟨tsOf [(0, (.dat 9 (.str x0))), (3, (.dat 3 (.int x1))), (4, (.dat 5 (.int v0))), (5, (.dat 3 (.int (2 : Int))))], [], 0⟩))
            else
              (bif (decide ((240 : Int) ≤ v0)) then
                (bif (decide (v0 ≤ (244 : Int))) then
                  (J 0 13 0 ⟨tsOf [(0, (.dat 9 (.str x0))), (3, (.dat 3 (.int x1))), (4, (.dat 5 (.int v0))), (5, (.dat 3 (.int (3 : Int))))], [], 0⟩ (e28 J m [1, 0, 1, 0, 0, 1, 0, 1, 1, 1] [M1] ⟨tsOf [(0, (.dat 9 (.str x0))), (3, (.dat 3 (.int x1))), (4, (.dat 5 (.int v0))), (5, (.dat 3 (.int (3 : Int))))], [], 0⟩))
                else
                  some Bool.false)
              else
                some Bool.false))
          else
            (bif (decide ((240 : Int) ≤ v0)) then
              (bif (decide (v0 ≤ (244 : Int))) then
                (J 0 13 0 ⟨tsOf [(0, (.dat 9 (.str x0))), (3, (.dat 3 (.int x1))), (4, (.dat 5 (.int v0))), (5, (.dat 3 (.int (3 : Int))))], [], 0⟩ (e28 J m [1, 0, 1, 0, 0, 1, 0, 1, 1, 1] [M1] ⟨tsOf [(0, (.dat 9 (.str x0))), (3, (.dat 3 (.int x1))), (4, (.dat 5 (.int v0))), (5, (.dat 3 (.int (3 : Int))))], [], 0⟩))
              else
                some Bool.false)
            else
              some Bool.false))))) := fun J => by kernel_rfl
  exact (h jn).trans (by
    simp only [jn_eq, ref01_UTF8_j3_eq m M1 rec1 h1]
    rfl)
theorem ref01_UTF8_j6_eq (m : Nat) : e28 jn m [1, 1] [] ⟨tsOf [], [], 0⟩ = ref01_UTF8_j6 m := by
  have h : ∀ J, e28 J m [1, 1] [] ⟨tsOf [], [], 0⟩ =
    some Bool.true := fun J => by kernel_rfl
  exact (h jn).trans (rfl)
theorem ref01_UTF8_l1_eq (m : Nat) : ∀ (M1 : Nat) (x0 : ByteArray) (x1 : Int), l28 jn m [1, 0, 1, 0] [] M1 ⟨tsOf [(0, (.dat 9 (.str x0))), (3, (.dat 3 (.int x1)))], [], 0⟩ = ref01_UTF8_l1 m M1 x0 x1
  | 0, _, _ => rfl
  | M1 + 1, x0, x1 => by
    have h : ∀ J, l28 J m [1, 0, 1, 0] [] (M1 + 1) ⟨tsOf [(0, (.dat 9 (.str x0))), (3, (.dat 3 (.int x1)))], [], 0⟩ =
    (bif (decide (x1 < (((ByteArray.size x0) : Nat) : Int))) then
      (J 0 3 0 ⟨tsOf [(0, (.dat 9 (.str x0))), (3, (.dat 3 (.int x1)))], [], 0⟩ (e28 J m [1, 0, 1, 0, 0, 1] [M1] ⟨tsOf [(0, (.dat 9 (.str x0))), (3, (.dat 3 (.int x1)))], [], 0⟩))
    else
      (J 0 18 0 ⟨tsOf [], [], 0⟩ (e28 J m [1, 1] [] ⟨tsOf [], [], 0⟩))) := fun J => by kernel_rfl
    refine (h jn).trans ?_
    simp only [jn_eq, ref01_UTF8_j2_eq m M1 (ref01_UTF8_l1 m M1) (fun x0 x1 => ref01_UTF8_l1_eq m M1 x0 x1), ref01_UTF8_j6_eq m]
    rfl
theorem ref01_UTF8_j0_eq (m : Nat) (x0 : ByteArray) (x1 : Int) : e28 jn m [1, 0, 1] [] ⟨tsOf [(0, (.dat 9 (.str x0))), (3, (.dat 3 (.int x1)))], [], 0⟩ = ref01_UTF8_j0 m x0 x1 := by
  have h : ∀ J, e28 J m [1, 0, 1] [] ⟨tsOf [(0, (.dat 9 (.str x0))), (3, (.dat 3 (.int x1)))], [], 0⟩ =
    (J 1 2 (Nat.succ m) ⟨tsOf [(0, (.dat 9 (.str x0))), (3, (.dat 3 (.int x1)))], [], 0⟩ (l28 J m [1, 0, 1, 0] [] (Nat.succ m) ⟨tsOf [(0, (.dat 9 (.str x0))), (3, (.dat 3 (.int x1)))], [], 0⟩)) := fun J => by kernel_rfl
  exact (h jn).trans (by
    simp only [jn_eq, ref01_UTF8_l1_eq m]
    rfl)
theorem ref01_UTF8_eq (m : Nat) (a0 : ByteArray) : e28 jn m [] [] ⟨[(.dat 9 (.str a0))], [], 0⟩ = ref01_UTF8 (m + 1) a0 := by
  have h : ∀ J, e28 J m [] [] ⟨[(.dat 9 (.str a0))], [], 0⟩ =
    (J 0 2 0 ⟨tsOf [(0, (.dat 9 (.str a0))), (3, (.dat 3 (.int (0 : Int))))], [], 0⟩ (e28 J m [1, 0, 1] [] ⟨tsOf [(0, (.dat 9 (.str a0))), (3, (.dat 3 (.int (0 : Int))))], [], 0⟩)) := fun J => by kernel_rfl
  refine (h jn).trans ?_
  simp only [jn_eq, ref01_UTF8_j0_eq m]
  rfl
noncomputable def d39 (q : Res) : Option (Bool) := match q with
  | (.dat T0 x0, []) => bif Nat.beq T0 4 then some x0.toBool else none
  | _ => none
theorem d39_sim {b : Res} {r : Bool} (h : d39 b = some r) : Sim Tryd.prog b ((.dat 4 (.bool r)), []) := by
  unfold d39 at h
  split at h
  · obtain ⟨hc, h2⟩ := bif_some h
    cases h2
    have e0 := beq_eq hc
    subst e0
    exact Sim.of (.of (.dat (.bool Tryd.underlying4)) rfl rfl) .nil
  · cases h
noncomputable def e39 (J : Nat → Nat → Nat → St → Option (Bool) → Option (Bool)) (m : Nat) (p ms : List Nat) (σ : St) := evAt Tryd.prog env (ct m) J (m + 1) 44 39 Tryd.f44 d39 p ms σ
noncomputable def l39 (J : Nat → Nat → Nat → St → Option (Bool) → Option (Bool)) (m : Nat) (p ms : List Nat) (M : Nat) (σ : St) := loopAt Tryd.prog env (ct m) J (m + 1) 44 39 Tryd.f44 d39 p ms M σ
theorem ref01_Name_j4_eq (m : Nat) (M2 : Nat) (rec2 : ByteArray → Int → Option (Bool)) (h2 : ∀ (x0 : ByteArray) (x1 : Int), l39 jn m [1, 1, 0, 1, 0] [] M2 ⟨tsOf [(0, (.dat 9 (.str x0))), (3, (.dat 3 (.int x1)))], [], 0⟩ = rec2 x0 x1) (x0 : ByteArray) (x1 : Int) : e39 jn m [1, 1, 0, 1, 0, 0, 1, 1] [M2] ⟨tsOf [(0, (.dat 9 (.str x0))), (3, (.dat 3 (.int x1)))], [], 0⟩ = ref01_Name_j4 m rec2 x0 x1 := by
  have h : ∀ J, e39 J m [1, 1, 0, 1, 0, 0, 1, 1] [M2] ⟨tsOf [(0, (.dat 9 (.str x0))), (3, (.dat 3 (.int x1)))], [], 0⟩ =
    (J 1 4 M2 ⟨tsOf [(0, (.dat 9 (.str x0))), (3, (.dat 3 (.int (IntKind.wrap IntKind.i64 (x1 + (1 : Int))))))], [], 0⟩ (l39 J m [1, 1, 0, 1, 0] [] M2 ⟨tsOf [(0, (.dat 9 (.str x0))), (3, (.dat 3 (.int (IntKind.wrap IntKind.i64 (x1 + (1 : Int))))))], [], 0⟩)) := fun J => by kernel_rfl
  exact (h jn).trans (by
    simp only [jn_eq, h2]
    rfl)
theorem ref01_Name_j3_eq (m : Nat) (M2 : Nat) (rec2 : ByteArray → Int → Option (Bool)) (h2 : ∀ (x0 : ByteArray) (x1 : Int), l39 jn m [1, 1, 0, 1, 0] [] M2 ⟨tsOf [(0, (.dat 9 (.str x0))), (3, (.dat 3 (.int x1)))], [], 0⟩ = rec2 x0 x1) (x0 : ByteArray) (x1 : Int) : e39 jn m [1, 1, 0, 1, 0, 0, 1] [M2] ⟨tsOf [(0, (.dat 9 (.str x0))), (3, (.dat 3 (.int x1)))], [], 0⟩ = ref01_Name_j3 m rec2 x0 x1 := by
  have h : ∀ J, e39 J m [1, 1, 0, 1, 0, 0, 1] [M2] ⟨tsOf [(0, (.dat 9 (.str x0))), (3, (.dat 3 (.int x1)))], [], 0⟩ =
    ((idxS x0 x1).bind fun v1 =>
      (bif (decide (v1 < (33 : Int))) then
        some Bool.false
      else
        ((idxS x0 x1).bind fun v2 =>
          (bif (decide ((126 : Int) < v2)) then
            some Bool.false
          else
            ((idxS x0 x1).bind fun v3 =>
              (bif (v3 == (46 : Int)) then
                some Bool.false
              else
                (J 0 5 0 ⟨tsOf [(0, (.dat 9 (.str x0))), (3, (.dat 3 (.int x1)))], [], 0⟩ (e39 J m [1, 1, 0, 1, 0, 0, 1, 1] [M2] ⟨tsOf [(0, (.dat 9 (.str x0))), (3, (.dat 3 (.int x1)))], [], 0⟩)))))))) := fun J => by kernel_rfl
  exact (h jn).trans (by
    simp only [jn_eq, ref01_Name_j4_eq m M2 rec2 h2]
    rfl)
theorem ref01_Name_j5_eq (m : Nat) : e39 jn m [1, 1, 1] [] ⟨tsOf [], [], 0⟩ = ref01_Name_j5 m := by
  have h : ∀ J, e39 J m [1, 1, 1] [] ⟨tsOf [], [], 0⟩ =
    some Bool.true := fun J => by kernel_rfl
  exact (h jn).trans (rfl)
theorem ref01_Name_l2_eq (m : Nat) : ∀ (M2 : Nat) (x0 : ByteArray) (x1 : Int), l39 jn m [1, 1, 0, 1, 0] [] M2 ⟨tsOf [(0, (.dat 9 (.str x0))), (3, (.dat 3 (.int x1)))], [], 0⟩ = ref01_Name_l2 m M2 x0 x1
  | 0, _, _ => rfl
  | M2 + 1, x0, x1 => by
    have h : ∀ J, l39 J m [1, 1, 0, 1, 0] [] (M2 + 1) ⟨tsOf [(0, (.dat 9 (.str x0))), (3, (.dat 3 (.int x1)))], [], 0⟩ =
    (bif (decide (x1 < (((ByteArray.size x0) : Nat) : Int))) then
      (J 0 6 0 ⟨tsOf [(0, (.dat 9 (.str x0))), (3, (.dat 3 (.int x1)))], [], 0⟩ (e39 J m [1, 1, 0, 1, 0, 0, 1] [M2] ⟨tsOf [(0, (.dat 9 (.str x0))), (3, (.dat 3 (.int x1)))], [], 0⟩))
    else
      (J 0 8 0 ⟨tsOf [], [], 0⟩ (e39 J m [1, 1, 1] [] ⟨tsOf [], [], 0⟩))) := fun J => by kernel_rfl
    refine (h jn).trans ?_
    simp only [jn_eq, ref01_Name_j3_eq m M2 (ref01_Name_l2 m M2) (fun x0 x1 => ref01_Name_l2_eq m M2 x0 x1), ref01_Name_j5_eq m]
    rfl
theorem ref01_Name_j1_eq (m : Nat) (x0 : ByteArray) (x1 : Int) : e39 jn m [1, 1, 0, 1] [] ⟨tsOf [(0, (.dat 9 (.str x0))), (3, (.dat 3 (.int x1)))], [], 0⟩ = ref01_Name_j1 m x0 x1 := by
  have h : ∀ J, e39 J m [1, 1, 0, 1] [] ⟨tsOf [(0, (.dat 9 (.str x0))), (3, (.dat 3 (.int x1)))], [], 0⟩ =
    (J 1 4 (Nat.succ m) ⟨tsOf [(0, (.dat 9 (.str x0))), (3, (.dat 3 (.int x1)))], [], 0⟩ (l39 J m [1, 1, 0, 1, 0] [] (Nat.succ m) ⟨tsOf [(0, (.dat 9 (.str x0))), (3, (.dat 3 (.int x1)))], [], 0⟩)) := fun J => by kernel_rfl
  exact (h jn).trans (by
    simp only [jn_eq, ref01_Name_l2_eq m]
    rfl)
theorem ref01_Name_j0_eq (m : Nat) (x0 : ByteArray) : e39 jn m [1, 1] [] ⟨tsOf [(0, (.dat 9 (.str x0)))], [], 0⟩ = ref01_Name_j0 m x0 := by
  have h : ∀ J, e39 J m [1, 1] [] ⟨tsOf [(0, (.dat 9 (.str x0)))], [], 0⟩ =
    (J 0 4 0 ⟨tsOf [(0, (.dat 9 (.str x0))), (3, (.dat 3 (.int (0 : Int))))], [], 0⟩ (e39 J m [1, 1, 0, 1] [] ⟨tsOf [(0, (.dat 9 (.str x0))), (3, (.dat 3 (.int (0 : Int))))], [], 0⟩)) := fun J => by kernel_rfl
  exact (h jn).trans (by
    simp only [jn_eq, ref01_Name_j1_eq m]
    rfl)
theorem ref01_Name_eq (m : Nat) (a0 : ByteArray) : e39 jn m [] [] ⟨[(.dat 9 (.str a0))], [], 0⟩ = ref01_Name (m + 1) a0 := by
  have h : ∀ J, e39 J m [] [] ⟨[(.dat 9 (.str a0))], [], 0⟩ =
    (bif (decide ((((ByteArray.size a0) : Nat) : Int) < (1 : Int))) then
      some Bool.false
    else
      (bif (decide ((32 : Int) < (((ByteArray.size a0) : Nat) : Int))) then
        some Bool.false
      else
        ((idxS a0 (0 : Int)).bind fun v0 =>
          (bif (v0 == (36 : Int)) then
            some Bool.false
          else
            (J 0 3 0 ⟨tsOf [(0, (.dat 9 (.str a0)))], [], 0⟩ (e39 J m [1, 1] [] ⟨tsOf [(0, (.dat 9 (.str a0)))], [], 0⟩)))))) := fun J => by kernel_rfl
  refine (h jn).trans ?_
  simp only [jn_eq, ref01_Name_j0_eq m]
  rfl
end Go.Proofs.YtacchdeihafmnaaDoor
