/- Generated: each function's run in the abstract machine is its shallow function. -/
import Derived.Test.YtacchdeihafmnaaDoorCt
import Derived.Test.YtacchdeihafmnaaDoorAmEnv
import Derived.KernelRfl
set_option linter.unusedVariables false
set_option linter.unusedSimpArgs false
namespace Go.Proofs.YtacchdeihafmnaaDoor
open Go.Am
set_option maxRecDepth 100000
noncomputable def d40 (q : Res) : Option (Bool) := match q with
  | (.dat T0 x0, []) => bif Nat.beq T0 4 then some x0.toBool else none
  | _ => none
theorem d40_sim {b : Res} {r : Bool} (h : d40 b = some r) : Sim Tryd.prog b ((.dat 4 (.bool r)), []) := by
  unfold d40 at h
  split at h
  · obtain ⟨hc, h2⟩ := bif_some h
    cases h2
    have e0 := beq_eq hc
    subst e0
    exact Sim.of (.of (.dat (.bool Tryd.underlying4)) rfl rfl) .nil
  · cases h
noncomputable def e40 (J : Nat → Nat → Nat → St → Option (Bool) → Option (Bool)) (m : Nat) (p ms : List Nat) (σ : St) := evAt Tryd.prog env (ct m) J (m + 1) 75 28 Tryd.f75 d40 p ms σ
noncomputable def l40 (J : Nat → Nat → Nat → St → Option (Bool) → Option (Bool)) (m : Nat) (p ms : List Nat) (M : Nat) (σ : St) := loopAt Tryd.prog env (ct m) J (m + 1) 75 28 Tryd.f75 d40 p ms M σ
theorem ref01_wide_j4_eq (m : Nat) (M2 : Nat) (rec2 : ByteArray → Int → Option (Bool)) (h2 : ∀ (x0 : ByteArray) (x1 : Int), l40 jn m [1, 1, 0, 1, 0] [] M2 ⟨tsOf [(0, (.dat 9 (.str x0))), (3, (.dat 3 (.int x1)))], [], 0⟩ = rec2 x0 x1) (x0 : ByteArray) (x1 : Int) : e40 jn m [1, 1, 0, 1, 0, 0, 1, 1] [M2] ⟨tsOf [(0, (.dat 9 (.str x0))), (3, (.dat 3 (.int x1)))], [], 0⟩ = ref01_wide_j4 m rec2 x0 x1 := by
  have h : ∀ J, e40 J m [1, 1, 0, 1, 0, 0, 1, 1] [M2] ⟨tsOf [(0, (.dat 9 (.str x0))), (3, (.dat 3 (.int x1)))], [], 0⟩ =
    (J 1 4 M2 ⟨tsOf [(0, (.dat 9 (.str x0))), (3, (.dat 3 (.int (IntKind.wrap IntKind.i64 (x1 + (1 : Int))))))], [], 0⟩ (l40 J m [1, 1, 0, 1, 0] [] M2 ⟨tsOf [(0, (.dat 9 (.str x0))), (3, (.dat 3 (.int (IntKind.wrap IntKind.i64 (x1 + (1 : Int))))))], [], 0⟩)) := fun J => by kernel_rfl
  exact (h jn).trans (by
    simp only [jn_eq, h2]
    rfl)
theorem ref01_wide_j3_eq (m : Nat) (M2 : Nat) (rec2 : ByteArray → Int → Option (Bool)) (h2 : ∀ (x0 : ByteArray) (x1 : Int), l40 jn m [1, 1, 0, 1, 0] [] M2 ⟨tsOf [(0, (.dat 9 (.str x0))), (3, (.dat 3 (.int x1)))], [], 0⟩ = rec2 x0 x1) (x0 : ByteArray) (x1 : Int) : e40 jn m [1, 1, 0, 1, 0, 0, 1] [M2] ⟨tsOf [(0, (.dat 9 (.str x0))), (3, (.dat 3 (.int x1)))], [], 0⟩ = ref01_wide_j3 m rec2 x0 x1 := by
  have h : ∀ J, e40 J m [1, 1, 0, 1, 0, 0, 1] [M2] ⟨tsOf [(0, (.dat 9 (.str x0))), (3, (.dat 3 (.int x1)))], [], 0⟩ =
    ((idxS x0 x1).bind fun v0 =>
      (bif (decide (v0 < (32 : Int))) then
        some Bool.false
      else
        ((idxS x0 x1).bind fun v1 =>
          (bif (decide ((126 : Int) < v1)) then
            some Bool.false
          else
            (J 0 5 0 ⟨tsOf [(0, (.dat 9 (.str x0))), (3, (.dat 3 (.int x1)))], [], 0⟩ (e40 J m [1, 1, 0, 1, 0, 0, 1, 1] [M2] ⟨tsOf [(0, (.dat 9 (.str x0))), (3, (.dat 3 (.int x1)))], [], 0⟩)))))) := fun J => by kernel_rfl
  exact (h jn).trans (by
    simp only [jn_eq, ref01_wide_j4_eq m M2 rec2 h2]
    rfl)
theorem ref01_wide_j5_eq (m : Nat) : e40 jn m [1, 1, 1] [] ⟨tsOf [], [], 0⟩ = ref01_wide_j5 m := by
  have h : ∀ J, e40 J m [1, 1, 1] [] ⟨tsOf [], [], 0⟩ =
    some Bool.true := fun J => by kernel_rfl
  exact (h jn).trans (rfl)
theorem ref01_wide_l2_eq (m : Nat) : ∀ (M2 : Nat) (x0 : ByteArray) (x1 : Int), l40 jn m [1, 1, 0, 1, 0] [] M2 ⟨tsOf [(0, (.dat 9 (.str x0))), (3, (.dat 3 (.int x1)))], [], 0⟩ = ref01_wide_l2 m M2 x0 x1
  | 0, _, _ => rfl
  | M2 + 1, x0, x1 => by
    have h : ∀ J, l40 J m [1, 1, 0, 1, 0] [] (M2 + 1) ⟨tsOf [(0, (.dat 9 (.str x0))), (3, (.dat 3 (.int x1)))], [], 0⟩ =
    (bif (decide (x1 < (((ByteArray.size x0) : Nat) : Int))) then
      (J 0 6 0 ⟨tsOf [(0, (.dat 9 (.str x0))), (3, (.dat 3 (.int x1)))], [], 0⟩ (e40 J m [1, 1, 0, 1, 0, 0, 1] [M2] ⟨tsOf [(0, (.dat 9 (.str x0))), (3, (.dat 3 (.int x1)))], [], 0⟩))
    else
      (J 0 8 0 ⟨tsOf [], [], 0⟩ (e40 J m [1, 1, 1] [] ⟨tsOf [], [], 0⟩))) := fun J => by kernel_rfl
    refine (h jn).trans ?_
    simp only [jn_eq, ref01_wide_j3_eq m M2 (ref01_wide_l2 m M2) (fun x0 x1 => ref01_wide_l2_eq m M2 x0 x1), ref01_wide_j5_eq m]
    rfl
theorem ref01_wide_j1_eq (m : Nat) (x0 : ByteArray) (x1 : Int) : e40 jn m [1, 1, 0, 1] [] ⟨tsOf [(0, (.dat 9 (.str x0))), (3, (.dat 3 (.int x1)))], [], 0⟩ = ref01_wide_j1 m x0 x1 := by
  have h : ∀ J, e40 J m [1, 1, 0, 1] [] ⟨tsOf [(0, (.dat 9 (.str x0))), (3, (.dat 3 (.int x1)))], [], 0⟩ =
    (J 1 4 (Nat.succ m) ⟨tsOf [(0, (.dat 9 (.str x0))), (3, (.dat 3 (.int x1)))], [], 0⟩ (l40 J m [1, 1, 0, 1, 0] [] (Nat.succ m) ⟨tsOf [(0, (.dat 9 (.str x0))), (3, (.dat 3 (.int x1)))], [], 0⟩)) := fun J => by kernel_rfl
  exact (h jn).trans (by
    simp only [jn_eq, ref01_wide_l2_eq m]
    rfl)
theorem ref01_wide_j0_eq (m : Nat) (x0 : ByteArray) : e40 jn m [1, 1] [] ⟨tsOf [(0, (.dat 9 (.str x0)))], [], 0⟩ = ref01_wide_j0 m x0 := by
  have h : ∀ J, e40 J m [1, 1] [] ⟨tsOf [(0, (.dat 9 (.str x0)))], [], 0⟩ =
    (J 0 4 0 ⟨tsOf [(0, (.dat 9 (.str x0))), (3, (.dat 3 (.int (0 : Int))))], [], 0⟩ (e40 J m [1, 1, 0, 1] [] ⟨tsOf [(0, (.dat 9 (.str x0))), (3, (.dat 3 (.int (0 : Int))))], [], 0⟩)) := fun J => by kernel_rfl
  exact (h jn).trans (by
    simp only [jn_eq, ref01_wide_j1_eq m]
    rfl)
theorem ref01_wide_eq (m : Nat) (a0 : ByteArray) : e40 jn m [] [] ⟨[(.dat 9 (.str a0))], [], 0⟩ = ref01_wide (m + 1) a0 := by
  have h : ∀ J, e40 J m [] [] ⟨[(.dat 9 (.str a0))], [], 0⟩ =
    (bif (decide ((((ByteArray.size a0) : Nat) : Int) < (1 : Int))) then
      some Bool.false
    else
      (bif (decide ((128 : Int) < (((ByteArray.size a0) : Nat) : Int))) then
        some Bool.false
      else
        (J 0 3 0 ⟨tsOf [(0, (.dat 9 (.str a0)))], [], 0⟩ (e40 J m [1, 1] [] ⟨tsOf [(0, (.dat 9 (.str a0)))], [], 0⟩)))) := fun J => by kernel_rfl
  refine (h jn).trans ?_
  simp only [jn_eq, ref01_wide_j0_eq m]
  rfl
noncomputable def d20 (q : Res) : Option (Bool) := match q with
  | (.dat T0 x0, []) => bif Nat.beq T0 4 then some x0.toBool else none
  | _ => none
theorem d20_sim {b : Res} {r : Bool} (h : d20 b = some r) : Sim Tryd.prog b ((.dat 4 (.bool r)), []) := by
  unfold d20 at h
  split at h
  · obtain ⟨hc, h2⟩ := bif_some h
    cases h2
    have e0 := beq_eq hc
    subst e0
    exact Sim.of (.of (.dat (.bool Tryd.underlying4)) rfl rfl) .nil
  · cases h
noncomputable def e20 (J : Nat → Nat → Nat → St → Option (Bool) → Option (Bool)) (m : Nat) (p ms : List Nat) (σ : St) := evAt Tryd.prog env (ct m) J (m + 1) 49 138 Tryd.f49 d20 p ms σ
noncomputable def l20 (J : Nat → Nat → Nat → St → Option (Bool) → Option (Bool)) (m : Nat) (p ms : List Nat) (M : Nat) (σ : St) := loopAt Tryd.prog env (ct m) J (m + 1) 49 138 Tryd.f49 d20 p ms M σ
theorem ref01_formed_j8_eq (m : Nat) (M6 : Nat) (rec6 : Bool → Int → Dt → Option (Bool)) (h6 : ∀ (x0 : Bool) (x1 : Int) (x2 : Dt), l20 jn m [1, 1, 1, 1, 1, 1, 0, 1, 0] [] M6 ⟨tsOf [(1, (.dat 4 (.bool x0))), (2, (.ptr 0 [] 0)), (7, (.dat 3 (.int x1)))], [(.box 30 (.dat 30 x2))], 0⟩ = rec6 x0 x1 x2) (x0 : Bool) (x1 : Int) (x2 : Dt) : e20 jn m [1, 1, 1, 1, 1, 1, 0, 1, 0, 0, 1, 1] [M6] ⟨tsOf [(1, (.dat 4 (.bool x0))), (2, (.ptr 0 [] 0)), (7, (.dat 3 (.int x1)))], [(.box 30 (.dat 30 x2))], 0⟩ = ref01_formed_j8 m (ref01_formed m) (ref01_fields m) rec6 x0 x1 x2 := by
  have h : ∀ J, e20 J m [1, 1, 1, 1, 1, 1, 0, 1, 0, 0, 1, 1] [M6] ⟨tsOf [(1, (.dat 4 (.bool x0))), (2, (.ptr 0 [] 0)), (7, (.dat 3 (.int x1)))], [(.box 30 (.dat 30 x2))], 0⟩ =
    (J 1 19 M6 ⟨tsOf [(1, (.dat 4 (.bool x0))), (2, (.ptr 0 [] 0)), (7, (.dat 3 (.int (IntKind.wrap IntKind.i64 (x1 + (1 : Int))))))], [(.box 30 (.dat 30 x2))], 0⟩ (l20 J m [1, 1, 1, 1, 1, 1, 0, 1, 0] [] M6 ⟨tsOf [(1, (.dat 4 (.bool x0))), (2, (.ptr 0 [] 0)), (7, (.dat 3 (.int (IntKind.wrap IntKind.i64 (x1 + (1 : Int))))))], [(.box 30 (.dat 30 x2))], 0⟩)) := fun J => by kernel_rfl
  exact (h jn).trans (by
    simp only [jn_eq, h6]
    rfl)
theorem ref01_formed_j7_eq (m : Nat) (M6 : Nat) (rec6 : Bool → Int → Dt → Option (Bool)) (h6 : ∀ (x0 : Bool) (x1 : Int) (x2 : Dt), l20 jn m [1, 1, 1, 1, 1, 1, 0, 1, 0] [] M6 ⟨tsOf [(1, (.dat 4 (.bool x0))), (2, (.ptr 0 [] 0)), (7, (.dat 3 (.int x1)))], [(.box 30 (.dat 30 x2))], 0⟩ = rec6 x0 x1 x2) (x0 : Bool) (x1 : Int) (x2 : Dt) : e20 jn m [1, 1, 1, 1, 1, 1, 0, 1, 0, 0, 1] [M6] ⟨tsOf [(1, (.dat 4 (.bool x0))), (2, (.ptr 0 [] 0)), (7, (.dat 3 (.int x1)))], [(.box 30 (.dat 30 x2))], 0⟩ = ref01_formed_j7 m (ref01_formed m) (ref01_fields m) rec6 x0 x1 x2 := by
  have h : ∀ J, e20 J m [1, 1, 1, 1, 1, 1, 0, 1, 0, 0, 1] [M6] ⟨tsOf [(1, (.dat 4 (.bool x0))), (2, (.ptr 0 [] 0)), (7, (.dat 3 (.int x1)))], [(.box 30 (.dat 30 x2))], 0⟩ =
    ((idx (Dt.L x2 3) x1).bind fun v1 =>
      ((ref01_formed m v1 x0).bind fun r2 =>
        (bif (Bool.not r2) then
          some Bool.false
        else
          (J 0 20 0 ⟨tsOf [(1, (.dat 4 (.bool x0))), (2, (.ptr 0 [] 0)), (7, (.dat 3 (.int x1)))], [(.box 30 (.dat 30 x2))], 0⟩ (e20 J m [1, 1, 1, 1, 1, 1, 0, 1, 0, 0, 1, 1] [M6] ⟨tsOf [(1, (.dat 4 (.bool x0))), (2, (.ptr 0 [] 0)), (7, (.dat 3 (.int x1)))], [(.box 30 (.dat 30 x2))], 0⟩))))) := fun J => by kernel_rfl
  exact (h jn).trans (by
    simp only [jn_eq, ref01_formed_j8_eq m M6 rec6 h6]
    rfl)
theorem ref01_formed_j9_eq (m : Nat) (x0 : Bool) (x1 : Dt) : e20 jn m [1, 1, 1, 1, 1, 1, 1] [] ⟨tsOf [(1, (.dat 4 (.bool x0))), (2, (.ptr 0 [] 0))], [(.box 30 (.dat 30 x1))], 0⟩ = ref01_formed_j9 m (ref01_formed m) (ref01_fields m) x0 x1 := by
  have h : ∀ J, e20 J m [1, 1, 1, 1, 1, 1, 1] [] ⟨tsOf [(1, (.dat 4 (.bool x0))), (2, (.ptr 0 [] 0))], [(.box 30 (.dat 30 x1))], 0⟩ =
    ((ref01_fields m x1 x0).bind fun r3 =>
      some r3) := fun J => by kernel_rfl
  exact (h jn).trans (rfl)
theorem ref01_formed_l6_eq (m : Nat) : ∀ (M6 : Nat) (x0 : Bool) (x1 : Int) (x2 : Dt), l20 jn m [1, 1, 1, 1, 1, 1, 0, 1, 0] [] M6 ⟨tsOf [(1, (.dat 4 (.bool x0))), (2, (.ptr 0 [] 0)), (7, (.dat 3 (.int x1)))], [(.box 30 (.dat 30 x2))], 0⟩ = ref01_formed_l6 m (ref01_formed m) (ref01_fields m) M6 x0 x1 x2
  | 0, _, _, _ => rfl
  | M6 + 1, x0, x1, x2 => by
    have h : ∀ J, l20 J m [1, 1, 1, 1, 1, 1, 0, 1, 0] [] (M6 + 1) ⟨tsOf [(1, (.dat 4 (.bool x0))), (2, (.ptr 0 [] 0)), (7, (.dat 3 (.int x1)))], [(.box 30 (.dat 30 x2))], 0⟩ =
    (bif (decide (x1 < (((List.length (Dt.L x2 3)) : Nat) : Int))) then
      (J 0 21 0 ⟨tsOf [(1, (.dat 4 (.bool x0))), (2, (.ptr 0 [] 0)), (7, (.dat 3 (.int x1)))], [(.box 30 (.dat 30 x2))], 0⟩ (e20 J m [1, 1, 1, 1, 1, 1, 0, 1, 0, 0, 1] [M6] ⟨tsOf [(1, (.dat 4 (.bool x0))), (2, (.ptr 0 [] 0)), (7, (.dat 3 (.int x1)))], [(.box 30 (.dat 30 x2))], 0⟩))
    else
      (J 0 23 0 ⟨tsOf [(1, (.dat 4 (.bool x0))), (2, (.ptr 0 [] 0))], [(.box 30 (.dat 30 x2))], 0⟩ (e20 J m [1, 1, 1, 1, 1, 1, 1] [] ⟨tsOf [(1, (.dat 4 (.bool x0))), (2, (.ptr 0 [] 0))], [(.box 30 (.dat 30 x2))], 0⟩))) := fun J => by kernel_rfl
    refine (h jn).trans ?_
    simp only [jn_eq, ref01_formed_j7_eq m M6 (ref01_formed_l6 m (ref01_formed m) (ref01_fields m) M6) (fun x0 x1 x2 => ref01_formed_l6_eq m M6 x0 x1 x2), ref01_formed_j9_eq m]
    rfl
theorem ref01_formed_j5_eq (m : Nat) (x0 : Bool) (x1 : Int) (x2 : Dt) : e20 jn m [1, 1, 1, 1, 1, 1, 0, 1] [] ⟨tsOf [(1, (.dat 4 (.bool x0))), (2, (.ptr 0 [] 0)), (7, (.dat 3 (.int x1)))], [(.box 30 (.dat 30 x2))], 0⟩ = ref01_formed_j5 m (ref01_formed m) (ref01_fields m) x0 x1 x2 := by
  have h : ∀ J, e20 J m [1, 1, 1, 1, 1, 1, 0, 1] [] ⟨tsOf [(1, (.dat 4 (.bool x0))), (2, (.ptr 0 [] 0)), (7, (.dat 3 (.int x1)))], [(.box 30 (.dat 30 x2))], 0⟩ =
    (J 1 19 (Nat.succ m) ⟨tsOf [(1, (.dat 4 (.bool x0))), (2, (.ptr 0 [] 0)), (7, (.dat 3 (.int x1)))], [(.box 30 (.dat 30 x2))], 0⟩ (l20 J m [1, 1, 1, 1, 1, 1, 0, 1, 0] [] (Nat.succ m) ⟨tsOf [(1, (.dat 4 (.bool x0))), (2, (.ptr 0 [] 0)), (7, (.dat 3 (.int x1)))], [(.box 30 (.dat 30 x2))], 0⟩)) := fun J => by kernel_rfl
  exact (h jn).trans (by
    simp only [jn_eq, ref01_formed_l6_eq m]
    rfl)
theorem ref01_formed_j4_eq (m : Nat) (x0 : Bool) (x1 : Dt) : e20 jn m [1, 1, 1, 1, 1, 1] [] ⟨tsOf [(1, (.dat 4 (.bool x0))), (2, (.ptr 0 [] 0))], [(.box 30 (.dat 30 x1))], 0⟩ = ref01_formed_j4 m (ref01_formed m) (ref01_fields m) x0 x1 := by
  have h : ∀ J, e20 J m [1, 1, 1, 1, 1, 1] [] ⟨tsOf [(1, (.dat 4 (.bool x0))), (2, (.ptr 0 [] 0))], [(.box 30 (.dat 30 x1))], 0⟩ =
    (J 0 19 0 ⟨tsOf [(1, (.dat 4 (.bool x0))), (2, (.ptr 0 [] 0)), (7, (.dat 3 (.int (0 : Int))))], [(.box 30 (.dat 30 x1))], 0⟩ (e20 J m [1, 1, 1, 1, 1, 1, 0, 1] [] ⟨tsOf [(1, (.dat 4 (.bool x0))), (2, (.ptr 0 [] 0)), (7, (.dat 3 (.int (0 : Int))))], [(.box 30 (.dat 30 x1))], 0⟩)) := fun J => by kernel_rfl
  exact (h jn).trans (by
    simp only [jn_eq, ref01_formed_j5_eq m]
    rfl)
theorem ref01_formed_j3_eq (m : Nat) (x0 : Bool) (x1 : Dt) : e20 jn m [1, 1, 1, 1, 1] [] ⟨tsOf [(1, (.dat 4 (.bool x0))), (2, (.ptr 0 [] 0))], [(.box 30 (.dat 30 x1))], 0⟩ = ref01_formed_j3 m (ref01_formed m) (ref01_fields m) x0 x1 := by
  have h : ∀ J, e20 J m [1, 1, 1, 1, 1] [] ⟨tsOf [(1, (.dat 4 (.bool x0))), (2, (.ptr 0 [] 0))], [(.box 30 (.dat 30 x1))], 0⟩ =
    (bif ((Dt.I x1 0) == (9 : Int)) then
      (bif ((Dt.I x1 1) == (0 : Int)) then
        some Bool.true
      else
        some ((Dt.I x1 1) == (1 : Int)))
    else
      (bif ((Dt.I x1 0) == (10 : Int)) then
        some (decide ((0 : Int) ≤ (Dt.I x1 1)))
      else
        (bif ((Dt.I x1 0) == (4 : Int)) then
          (bif (decide ((((ByteArray.size (Dt.S x1 2)) : Nat) : Int) ≤ (4096 : Int))) then
            ((ref01_UTF8 m (Dt.S x1 2)).bind fun r0 =>
              some r0)
          else
            some Bool.false)
        else
          (bif ((Dt.I x1 0) == (7 : Int)) then
            some (decide ((((ByteArray.size (Dt.S x1 2)) : Nat) : Int) ≤ (4096 : Int)))
          else
            (bif ((Dt.I x1 0) == (8 : Int)) then
              some ((((ByteArray.size (Dt.S x1 2)) : Nat) : Int) == (12 : Int))
            else
              (J 0 18 0 ⟨tsOf [(1, (.dat 4 (.bool x0))), (2, (.ptr 0 [] 0))], [(.box 30 (.dat 30 x1))], 0⟩ (e20 J m [1, 1, 1, 1, 1, 1] [] ⟨tsOf [(1, (.dat 4 (.bool x0))), (2, (.ptr 0 [] 0))], [(.box 30 (.dat 30 x1))], 0⟩))))))) := fun J => by kernel_rfl
  exact (h jn).trans (by
    simp only [jn_eq, ref01_formed_j4_eq m]
    rfl)
theorem ref01_formed_j2_eq (m : Nat) (x0 : Bool) (x1 : Bool) (x2 : Bool) (x3 : Dt) : e20 jn m [1, 1, 1, 1] [] ⟨tsOf [(1, (.dat 4 (.bool x0))), (2, (.ptr 0 [] 0)), (5, (.dat 4 (.bool x1))), (6, (.dat 4 (.bool x2)))], [(.box 30 (.dat 30 x3))], 0⟩ = ref01_formed_j2 m (ref01_formed m) (ref01_fields m) x0 x1 x2 x3 := by
  have h : ∀ J, e20 J m [1, 1, 1, 1] [] ⟨tsOf [(1, (.dat 4 (.bool x0))), (2, (.ptr 0 [] 0)), (5, (.dat 4 (.bool x1))), (6, (.dat 4 (.bool x2)))], [(.box 30 (.dat 30 x3))], 0⟩ =
    (bif (Bool.not x1) then
      (bif (Bool.not ((ByteArray.toList (Dt.S x3 2)) == [])) then
        some Bool.false
      else
        (bif (Bool.not x2) then
          (bif ((Dt.I x3 1) != (0 : Int)) then
            some Bool.false
          else
            (bif (decide ((Dt.I x3 0) < (1 : Int))) then
              some Bool.false
            else
              (bif (decide ((11 : Int) < (Dt.I x3 0))) then
                some Bool.false
              else
                (J 0 7 0 ⟨tsOf [(1, (.dat 4 (.bool x0))), (2, (.ptr 0 [] 0))], [(.box 30 (.dat 30 x3))], 0⟩ (e20 J m [1, 1, 1, 1, 1] [] ⟨tsOf [(1, (.dat 4 (.bool x0))), (2, (.ptr 0 [] 0))], [(.box 30 (.dat 30 x3))], 0⟩)))))
        else
          (bif (decide ((Dt.I x3 0) < (1 : Int))) then
            some Bool.false
          else
            (bif (decide ((11 : Int) < (Dt.I x3 0))) then
              some Bool.false
            else
              (J 0 7 0 ⟨tsOf [(1, (.dat 4 (.bool x0))), (2, (.ptr 0 [] 0))], [(.box 30 (.dat 30 x3))], 0⟩ (e20 J m [1, 1, 1, 1, 1] [] ⟨tsOf [(1, (.dat 4 (.bool x0))), (2, (.ptr 0 [] 0))], [(.box 30 (.dat 30 x3))], 0⟩))))))
    else
      (bif (Bool.not x2) then
        (bif ((Dt.I x3 1) != (0 : Int)) then
          some Bool.false
        else
          (bif (decide ((Dt.I x3 0) < (1 : Int))) then
            some Bool.false
          else
            (bif (decide ((11 : Int) < (Dt.I x3 0))) then
              some Bool.false
            else
              (J 0 7 0 ⟨tsOf [(1, (.dat 4 (.bool x0))), (2, (.ptr 0 [] 0))], [(.box 30 (.dat 30 x3))], 0⟩ (e20 J m [1, 1, 1, 1, 1] [] ⟨tsOf [(1, (.dat 4 (.bool x0))), (2, (.ptr 0 [] 0))], [(.box 30 (.dat 30 x3))], 0⟩)))))
      else
        (bif (decide ((Dt.I x3 0) < (1 : Int))) then
          some Bool.false
        else
          (bif (decide ((11 : Int) < (Dt.I x3 0))) then
            some Bool.false
          else
            (J 0 7 0 ⟨tsOf [(1, (.dat 4 (.bool x0))), (2, (.ptr 0 [] 0))], [(.box 30 (.dat 30 x3))], 0⟩ (e20 J m [1, 1, 1, 1, 1] [] ⟨tsOf [(1, (.dat 4 (.bool x0))), (2, (.ptr 0 [] 0))], [(.box 30 (.dat 30 x3))], 0⟩)))))) := fun J => by kernel_rfl
  exact (h jn).trans (by
    simp only [jn_eq, ref01_formed_j3_eq m]
    rfl)
theorem ref01_formed_j1_eq (m : Nat) (x0 : Bool) (x1 : Bool) (x2 : Dt) : e20 jn m [1, 1, 1] [] ⟨tsOf [(1, (.dat 4 (.bool x0))), (2, (.ptr 0 [] 0)), (5, (.dat 4 (.bool x1)))], [(.box 30 (.dat 30 x2))], 0⟩ = ref01_formed_j1 m (ref01_formed m) (ref01_fields m) x0 x1 x2 := by
  have h : ∀ J, e20 J m [1, 1, 1] [] ⟨tsOf [(1, (.dat 4 (.bool x0))), (2, (.ptr 0 [] 0)), (5, (.dat 4 (.bool x1)))], [(.box 30 (.dat 30 x2))], 0⟩ =
    (bif ((Dt.I x2 0) == (3 : Int)) then
      (J 0 5 0 ⟨tsOf [(1, (.dat 4 (.bool x0))), (2, (.ptr 0 [] 0)), (5, (.dat 4 (.bool x1))), (6, (.dat 4 (.bool Bool.true)))], [(.box 30 (.dat 30 x2))], 0⟩ (e20 J m [1, 1, 1, 1] [] ⟨tsOf [(1, (.dat 4 (.bool x0))), (2, (.ptr 0 [] 0)), (5, (.dat 4 (.bool x1))), (6, (.dat 4 (.bool Bool.true)))], [(.box 30 (.dat 30 x2))], 0⟩))
    else
      (bif ((Dt.I x2 0) == (9 : Int)) then
        (J 0 5 0 ⟨tsOf [(1, (.dat 4 (.bool x0))), (2, (.ptr 0 [] 0)), (5, (.dat 4 (.bool x1))), (6, (.dat 4 (.bool Bool.true)))], [(.box 30 (.dat 30 x2))], 0⟩ (e20 J m [1, 1, 1, 1] [] ⟨tsOf [(1, (.dat 4 (.bool x0))), (2, (.ptr 0 [] 0)), (5, (.dat 4 (.bool x1))), (6, (.dat 4 (.bool Bool.true)))], [(.box 30 (.dat 30 x2))], 0⟩))
      else
        (J 0 5 0 ⟨tsOf [(1, (.dat 4 (.bool x0))), (2, (.ptr 0 [] 0)), (5, (.dat 4 (.bool x1))), (6, (.dat 4 (.bool ((Dt.I x2 0) == (10 : Int)))))], [(.box 30 (.dat 30 x2))], 0⟩ (e20 J m [1, 1, 1, 1] [] ⟨tsOf [(1, (.dat 4 (.bool x0))), (2, (.ptr 0 [] 0)), (5, (.dat 4 (.bool x1))), (6, (.dat 4 (.bool ((Dt.I x2 0) == (10 : Int)))))], [(.box 30 (.dat 30 x2))], 0⟩)))) := fun J => by kernel_rfl
  exact (h jn).trans (by
    simp only [jn_eq, ref01_formed_j2_eq m]
    rfl)
theorem ref01_formed_j0_eq (m : Nat) (x0 : Bool) (x1 : Dt) : e20 jn m [1, 1] [] ⟨tsOf [(1, (.dat 4 (.bool x0))), (2, (.ptr 0 [] 0))], [(.box 30 (.dat 30 x1))], 0⟩ = ref01_formed_j0 m (ref01_formed m) (ref01_fields m) x0 x1 := by
  have h : ∀ J, e20 J m [1, 1] [] ⟨tsOf [(1, (.dat 4 (.bool x0))), (2, (.ptr 0 [] 0))], [(.box 30 (.dat 30 x1))], 0⟩ =
    (bif ((Dt.I x1 0) == (4 : Int)) then
      (J 0 4 0 ⟨tsOf [(1, (.dat 4 (.bool x0))), (2, (.ptr 0 [] 0)), (5, (.dat 4 (.bool Bool.true)))], [(.box 30 (.dat 30 x1))], 0⟩ (e20 J m [1, 1, 1] [] ⟨tsOf [(1, (.dat 4 (.bool x0))), (2, (.ptr 0 [] 0)), (5, (.dat 4 (.bool Bool.true)))], [(.box 30 (.dat 30 x1))], 0⟩))
    else
      (bif ((Dt.I x1 0) == (7 : Int)) then
        (J 0 4 0 ⟨tsOf [(1, (.dat 4 (.bool x0))), (2, (.ptr 0 [] 0)), (5, (.dat 4 (.bool Bool.true)))], [(.box 30 (.dat 30 x1))], 0⟩ (e20 J m [1, 1, 1] [] ⟨tsOf [(1, (.dat 4 (.bool x0))), (2, (.ptr 0 [] 0)), (5, (.dat 4 (.bool Bool.true)))], [(.box 30 (.dat 30 x1))], 0⟩))
      else
        (J 0 4 0 ⟨tsOf [(1, (.dat 4 (.bool x0))), (2, (.ptr 0 [] 0)), (5, (.dat 4 (.bool ((Dt.I x1 0) == (8 : Int)))))], [(.box 30 (.dat 30 x1))], 0⟩ (e20 J m [1, 1, 1] [] ⟨tsOf [(1, (.dat 4 (.bool x0))), (2, (.ptr 0 [] 0)), (5, (.dat 4 (.bool ((Dt.I x1 0) == (8 : Int)))))], [(.box 30 (.dat 30 x1))], 0⟩)))) := fun J => by kernel_rfl
  exact (h jn).trans (by
    simp only [jn_eq, ref01_formed_j1_eq m]
    rfl)
theorem ref01_formed_eq (m : Nat) (a0 : Dt) (a1 : Bool) : e20 jn m [] [] ⟨[(.dat 30 a0), (.dat 4 (.bool a1))], [], 0⟩ = ref01_formed (m + 1) a0 a1 := by
  have h : ∀ J, e20 J m [] [] ⟨[(.dat 30 a0), (.dat 4 (.bool a1))], [], 0⟩ =
    (bif ((Dt.I a0 0) != (6 : Int)) then
      (bif (decide ((0 : Int) < (((List.length (Dt.L a0 3)) : Nat) : Int))) then
        some Bool.false
      else
        (bif ((Dt.I a0 0) != (5 : Int)) then
          (bif (decide ((0 : Int) < (((List.length (Dt.L a0 4)) : Nat) : Int))) then
            some Bool.false
          else
            (J 0 3 0 ⟨tsOf [(1, (.dat 4 (.bool a1))), (2, (.ptr 0 [] 0))], [(.box 30 (.dat 30 a0))], 0⟩ (e20 J m [1, 1] [] ⟨tsOf [(1, (.dat 4 (.bool a1))), (2, (.ptr 0 [] 0))], [(.box 30 (.dat 30 a0))], 0⟩)))
        else
          (J 0 3 0 ⟨tsOf [(1, (.dat 4 (.bool a1))), (2, (.ptr 0 [] 0))], [(.box 30 (.dat 30 a0))], 0⟩ (e20 J m [1, 1] [] ⟨tsOf [(1, (.dat 4 (.bool a1))), (2, (.ptr 0 [] 0))], [(.box 30 (.dat 30 a0))], 0⟩))))
    else
      (bif ((Dt.I a0 0) != (5 : Int)) then
        (bif (decide ((0 : Int) < (((List.length (Dt.L a0 4)) : Nat) : Int))) then
          some Bool.false
        else
          (J 0 3 0 ⟨tsOf [(1, (.dat 4 (.bool a1))), (2, (.ptr 0 [] 0))], [(.box 30 (.dat 30 a0))], 0⟩ (e20 J m [1, 1] [] ⟨tsOf [(1, (.dat 4 (.bool a1))), (2, (.ptr 0 [] 0))], [(.box 30 (.dat 30 a0))], 0⟩)))
      else
        (J 0 3 0 ⟨tsOf [(1, (.dat 4 (.bool a1))), (2, (.ptr 0 [] 0))], [(.box 30 (.dat 30 a0))], 0⟩ (e20 J m [1, 1] [] ⟨tsOf [(1, (.dat 4 (.bool a1))), (2, (.ptr 0 [] 0))], [(.box 30 (.dat 30 a0))], 0⟩)))) := fun J => by kernel_rfl
  refine (h jn).trans ?_
  simp only [jn_eq, ref01_formed_j0_eq m]
  rfl
noncomputable def d29 (q : Res) : Option (Bool) := match q with
  | (.dat T0 x0, []) => bif Nat.beq T0 4 then some x0.toBool else none
  | _ => none
theorem d29_sim {b : Res} {r : Bool} (h : d29 b = some r) : Sim Tryd.prog b ((.dat 4 (.bool r)), []) := by
  unfold d29 at h
  split at h
  · obtain ⟨hc, h2⟩ := bif_some h
    cases h2
    have e0 := beq_eq hc
    subst e0
    exact Sim.of (.of (.dat (.bool Tryd.underlying4)) rfl rfl) .nil
  · cases h
noncomputable def e29 (J : Nat → Nat → Nat → St → Option (Bool) → Option (Bool)) (m : Nat) (p ms : List Nat) (σ : St) := evAt Tryd.prog env (ct m) J (m + 1) 63 58 Tryd.f63 d29 p ms σ
noncomputable def l29 (J : Nat → Nat → Nat → St → Option (Bool) → Option (Bool)) (m : Nat) (p ms : List Nat) (M : Nat) (σ : St) := loopAt Tryd.prog env (ct m) J (m + 1) 63 58 Tryd.f63 d29 p ms M σ
theorem ref01_fields_j7_eq (m : Nat) (M1 : Nat) (rec1 : Bool → Int → Dt → Option (Bool)) (h1 : ∀ (x0 : Bool) (x1 : Int) (x2 : Dt), l29 jn m [1, 0, 1, 0] [] M1 ⟨tsOf [(1, (.dat 4 (.bool x0))), (2, (.ptr 0 [] 0)), (5, (.dat 3 (.int x1)))], [(.box 30 (.dat 30 x2))], 0⟩ = rec1 x0 x1 x2) (M5 : Nat) (rec5 : Bool → Int → Int → Dt → Dt → Option (Bool)) (h5 : ∀ (x0 : Bool) (x1 : Int) (x2 : Int) (x3 : Dt) (x4 : Dt), l29 jn m [1, 0, 1, 0, 0, 1, 0, 0, 1, 1, 1, 0] [M1] M5 ⟨tsOf [(1, (.dat 4 (.bool x0))), (2, (.ptr 0 [] 0)), (5, (.dat 3 (.int x1))), (6, (.ptr 1 [] 0)), (7, (.dat 3 (.int x2)))], [(.box 30 (.dat 30 x3)), (.box 53 (.dat 53 x4))], 0⟩ = rec5 x0 x1 x2 x3 x4) (x0 : Bool) (x1 : Int) (x2 : Int) (x3 : Dt) (x4 : Dt) : e29 jn m [1, 0, 1, 0, 0, 1, 0, 0, 1, 1, 1, 0, 0, 1, 1] [M1, M5] ⟨tsOf [(1, (.dat 4 (.bool x0))), (2, (.ptr 0 [] 0)), (5, (.dat 3 (.int x1))), (6, (.ptr 1 [] 0)), (7, (.dat 3 (.int x2)))], [(.box 30 (.dat 30 x3)), (.box 53 (.dat 53 x4))], 0⟩ = ref01_fields_j7 m (ref01_formed m) rec1 rec5 x0 x1 x2 x3 x4 := by
  have h : ∀ J, e29 J m [1, 0, 1, 0, 0, 1, 0, 0, 1, 1, 1, 0, 0, 1, 1] [M1, M5] ⟨tsOf [(1, (.dat 4 (.bool x0))), (2, (.ptr 0 [] 0)), (5, (.dat 3 (.int x1))), (6, (.ptr 1 [] 0)), (7, (.dat 3 (.int x2)))], [(.box 30 (.dat 30 x3)), (.box 53 (.dat 53 x4))], 0⟩ =
    (J 1 8 M5 ⟨tsOf [(1, (.dat 4 (.bool x0))), (2, (.ptr 0 [] 0)), (5, (.dat 3 (.int x1))), (6, (.ptr 1 [] 0)), (7, (.dat 3 (.int (IntKind.wrap IntKind.i64 (x2 + (1 : Int))))))], [(.box 30 (.dat 30 x3)), (.box 53 (.dat 53 x4))], 0⟩ (l29 J m [1, 0, 1, 0, 0, 1, 0, 0, 1, 1, 1, 0] [M1] M5 ⟨tsOf [(1, (.dat 4 (.bool x0))), (2, (.ptr 0 [] 0)), (5, (.dat 3 (.int x1))), (6, (.ptr 1 [] 0)), (7, (.dat 3 (.int (IntKind.wrap IntKind.i64 (x2 + (1 : Int))))))], [(.box 30 (.dat 30 x3)), (.box 53 (.dat 53 x4))], 0⟩)) := fun J => by kernel_rfl
  exact (h jn).trans (by
    simp only [jn_eq, h5]
    rfl)
theorem ref01_fields_j6_eq (m : Nat) (M1 : Nat) (rec1 : Bool → Int → Dt → Option (Bool)) (h1 : ∀ (x0 : Bool) (x1 : Int) (x2 : Dt), l29 jn m [1, 0, 1, 0] [] M1 ⟨tsOf [(1, (.dat 4 (.bool x0))), (2, (.ptr 0 [] 0)), (5, (.dat 3 (.int x1)))], [(.box 30 (.dat 30 x2))], 0⟩ = rec1 x0 x1 x2) (M5 : Nat) (rec5 : Bool → Int → Int → Dt → Dt → Option (Bool)) (h5 : ∀ (x0 : Bool) (x1 : Int) (x2 : Int) (x3 : Dt) (x4 : Dt), l29 jn m [1, 0, 1, 0, 0, 1, 0, 0, 1, 1, 1, 0] [M1] M5 ⟨tsOf [(1, (.dat 4 (.bool x0))), (2, (.ptr 0 [] 0)), (5, (.dat 3 (.int x1))), (6, (.ptr 1 [] 0)), (7, (.dat 3 (.int x2)))], [(.box 30 (.dat 30 x3)), (.box 53 (.dat 53 x4))], 0⟩ = rec5 x0 x1 x2 x3 x4) (x0 : Bool) (x1 : Int) (x2 : Int) (x3 : Dt) (x4 : Dt) : e29 jn m [1, 0, 1, 0, 0, 1, 0, 0, 1, 1, 1, 0, 0, 1] [M1, M5] ⟨tsOf [(1, (.dat 4 (.bool x0))), (2, (.ptr 0 [] 0)), (5, (.dat 3 (.int x1))), (6, (.ptr 1 [] 0)), (7, (.dat 3 (.int x2)))], [(.box 30 (.dat 30 x3)), (.box 53 (.dat 53 x4))], 0⟩ = ref01_fields_j6 m (ref01_formed m) rec1 rec5 x0 x1 x2 x3 x4 := by
  have h : ∀ J, e29 J m [1, 0, 1, 0, 0, 1, 0, 0, 1, 1, 1, 0, 0, 1] [M1, M5] ⟨tsOf [(1, (.dat 4 (.bool x0))), (2, (.ptr 0 [] 0)), (5, (.dat 3 (.int x1))), (6, (.ptr 1 [] 0)), (7, (.dat 3 (.int x2)))], [(.box 30 (.dat 30 x3)), (.box 53 (.dat 53 x4))], 0⟩ =
    ((idx (Dt.L x3 4) x2).bind fun v4 =>
      (bif ((ByteArray.toList (Dt.S v4 0)) == (ByteArray.toList (Dt.S x4 0))) then
        some Bool.false
      else
        (J 0 9 0 ⟨tsOf [(1, (.dat 4 (.bool x0))), (2, (.ptr 0 [] 0)), (5, (.dat 3 (.int x1))), (6, (.ptr 1 [] 0)), (7, (.dat 3 (.int x2)))], [(.box 30 (.dat 30 x3)), (.box 53 (.dat 53 x4))], 0⟩ (e29 J m [1, 0, 1, 0, 0, 1, 0, 0, 1, 1, 1, 0, 0, 1, 1] [M1, M5] ⟨tsOf [(1, (.dat 4 (.bool x0))), (2, (.ptr 0 [] 0)), (5, (.dat 3 (.int x1))), (6, (.ptr 1 [] 0)), (7, (.dat 3 (.int x2)))], [(.box 30 (.dat 30 x3)), (.box 53 (.dat 53 x4))], 0⟩)))) := fun J => by kernel_rfl
  exact (h jn).trans (by
    simp only [jn_eq, ref01_fields_j7_eq m M1 rec1 h1 M5 rec5 h5]
    rfl)
theorem ref01_fields_j8_eq (m : Nat) (M1 : Nat) (rec1 : Bool → Int → Dt → Option (Bool)) (h1 : ∀ (x0 : Bool) (x1 : Int) (x2 : Dt), l29 jn m [1, 0, 1, 0] [] M1 ⟨tsOf [(1, (.dat 4 (.bool x0))), (2, (.ptr 0 [] 0)), (5, (.dat 3 (.int x1)))], [(.box 30 (.dat 30 x2))], 0⟩ = rec1 x0 x1 x2) (x0 : Bool) (x1 : Int) (x2 : Dt) : e29 jn m [1, 0, 1, 0, 0, 1, 1] [M1] ⟨tsOf [(1, (.dat 4 (.bool x0))), (2, (.ptr 0 [] 0)), (5, (.dat 3 (.int x1)))], [(.box 30 (.dat 30 x2))], 0⟩ = ref01_fields_j8 m (ref01_formed m) rec1 x0 x1 x2 := by
  have h : ∀ J, e29 J m [1, 0, 1, 0, 0, 1, 1] [M1] ⟨tsOf [(1, (.dat 4 (.bool x0))), (2, (.ptr 0 [] 0)), (5, (.dat 3 (.int x1)))], [(.box 30 (.dat 30 x2))], 0⟩ =
    (J 1 2 M1 ⟨tsOf [(1, (.dat 4 (.bool x0))), (2, (.ptr 0 [] 0)), (5, (.dat 3 (.int (IntKind.wrap IntKind.i64 (x1 + (1 : Int))))))], [(.box 30 (.dat 30 x2))], 0⟩ (l29 J m [1, 0, 1, 0] [] M1 ⟨tsOf [(1, (.dat 4 (.bool x0))), (2, (.ptr 0 [] 0)), (5, (.dat 3 (.int (IntKind.wrap IntKind.i64 (x1 + (1 : Int))))))], [(.box 30 (.dat 30 x2))], 0⟩)) := fun J => by kernel_rfl
  exact (h jn).trans (by
    simp only [jn_eq, h1]
    rfl)
theorem ref01_fields_l5_eq (m : Nat) (M1 : Nat) (rec1 : Bool → Int → Dt → Option (Bool)) (h1 : ∀ (x0 : Bool) (x1 : Int) (x2 : Dt), l29 jn m [1, 0, 1, 0] [] M1 ⟨tsOf [(1, (.dat 4 (.bool x0))), (2, (.ptr 0 [] 0)), (5, (.dat 3 (.int x1)))], [(.box 30 (.dat 30 x2))], 0⟩ = rec1 x0 x1 x2) : ∀ (M5 : Nat) (x0 : Bool) (x1 : Int) (x2 : Int) (x3 : Dt) (x4 : Dt), l29 jn m [1, 0, 1, 0, 0, 1, 0, 0, 1, 1, 1, 0] [M1] M5 ⟨tsOf [(1, (.dat 4 (.bool x0))), (2, (.ptr 0 [] 0)), (5, (.dat 3 (.int x1))), (6, (.ptr 1 [] 0)), (7, (.dat 3 (.int x2)))], [(.box 30 (.dat 30 x3)), (.box 53 (.dat 53 x4))], 0⟩ = ref01_fields_l5 m (ref01_formed m) rec1 M5 x0 x1 x2 x3 x4
  | 0, _, _, _, _, _ => rfl
  | M5 + 1, x0, x1, x2, x3, x4 => by
    have h : ∀ J, l29 J m [1, 0, 1, 0, 0, 1, 0, 0, 1, 1, 1, 0] [M1] (M5 + 1) ⟨tsOf [(1, (.dat 4 (.bool x0))), (2, (.ptr 0 [] 0)), (5, (.dat 3 (.int x1))), (6, (.ptr 1 [] 0)), (7, (.dat 3 (.int x2)))], [(.box 30 (.dat 30 x3)), (.box 53 (.dat 53 x4))], 0⟩ =
    (bif (decide (x2 < x1)) then
      (J 0 10 0 ⟨tsOf [(1, (.dat 4 (.bool x0))), (2, (.ptr 0 [] 0)), (5, (.dat 3 (.int x1))), (6, (.ptr 1 [] 0)), (7, (.dat 3 (.int x2)))], [(.box 30 (.dat 30 x3)), (.box 53 (.dat 53 x4))], 0⟩ (e29 J m [1, 0, 1, 0, 0, 1, 0, 0, 1, 1, 1, 0, 0, 1] [M1, M5] ⟨tsOf [(1, (.dat 4 (.bool x0))), (2, (.ptr 0 [] 0)), (5, (.dat 3 (.int x1))), (6, (.ptr 1 [] 0)), (7, (.dat 3 (.int x2)))], [(.box 30 (.dat 30 x3)), (.box 53 (.dat 53 x4))], 0⟩))
    else
      (J 0 3 0 ⟨tsOf [(1, (.dat 4 (.bool x0))), (2, (.ptr 0 [] 0)), (5, (.dat 3 (.int x1)))], [(.box 30 (.dat 30 x3))], 0⟩ (e29 J m [1, 0, 1, 0, 0, 1, 1] [M1] ⟨tsOf [(1, (.dat 4 (.bool x0))), (2, (.ptr 0 [] 0)), (5, (.dat 3 (.int x1)))], [(.box 30 (.dat 30 x3))], 0⟩))) := fun J => by kernel_rfl
    refine (h jn).trans ?_
    simp only [jn_eq, ref01_fields_j6_eq m M1 rec1 h1 M5 (ref01_fields_l5 m (ref01_formed m) rec1 M5) (fun x0 x1 x2 x3 x4 => ref01_fields_l5_eq m M1 rec1 h1 M5 x0 x1 x2 x3 x4), ref01_fields_j8_eq m M1 rec1 h1]
    rfl
theorem ref01_fields_j4_eq (m : Nat) (M1 : Nat) (rec1 : Bool → Int → Dt → Option (Bool)) (h1 : ∀ (x0 : Bool) (x1 : Int) (x2 : Dt), l29 jn m [1, 0, 1, 0] [] M1 ⟨tsOf [(1, (.dat 4 (.bool x0))), (2, (.ptr 0 [] 0)), (5, (.dat 3 (.int x1)))], [(.box 30 (.dat 30 x2))], 0⟩ = rec1 x0 x1 x2) (x0 : Bool) (x1 : Int) (x2 : Int) (x3 : Dt) (x4 : Dt) : e29 jn m [1, 0, 1, 0, 0, 1, 0, 0, 1, 1, 1] [M1] ⟨tsOf [(1, (.dat 4 (.bool x0))), (2, (.ptr 0 [] 0)), (5, (.dat 3 (.int x1))), (6, (.ptr 1 [] 0)), (7, (.dat 3 (.int x2)))], [(.box 30 (.dat 30 x3)), (.box 53 (.dat 53 x4))], 0⟩ = ref01_fields_j4 m (ref01_formed m) rec1 x0 x1 x2 x3 x4 := by
  have h : ∀ J, e29 J m [1, 0, 1, 0, 0, 1, 0, 0, 1, 1, 1] [M1] ⟨tsOf [(1, (.dat 4 (.bool x0))), (2, (.ptr 0 [] 0)), (5, (.dat 3 (.int x1))), (6, (.ptr 1 [] 0)), (7, (.dat 3 (.int x2)))], [(.box 30 (.dat 30 x3)), (.box 53 (.dat 53 x4))], 0⟩ =
    (J 1 8 (Nat.succ m) ⟨tsOf [(1, (.dat 4 (.bool x0))), (2, (.ptr 0 [] 0)), (5, (.dat 3 (.int x1))), (6, (.ptr 1 [] 0)), (7, (.dat 3 (.int x2)))], [(.box 30 (.dat 30 x3)), (.box 53 (.dat 53 x4))], 0⟩ (l29 J m [1, 0, 1, 0, 0, 1, 0, 0, 1, 1, 1, 0] [M1] (Nat.succ m) ⟨tsOf [(1, (.dat 4 (.bool x0))), (2, (.ptr 0 [] 0)), (5, (.dat 3 (.int x1))), (6, (.ptr 1 [] 0)), (7, (.dat 3 (.int x2)))], [(.box 30 (.dat 30 x3)), (.box 53 (.dat 53 x4))], 0⟩)) := fun J => by kernel_rfl
  exact (h jn).trans (by
    simp only [jn_eq, ref01_fields_l5_eq m M1 rec1 h1]
    rfl)
theorem ref01_fields_j3_eq (m : Nat) (M1 : Nat) (rec1 : Bool → Int → Dt → Option (Bool)) (h1 : ∀ (x0 : Bool) (x1 : Int) (x2 : Dt), l29 jn m [1, 0, 1, 0] [] M1 ⟨tsOf [(1, (.dat 4 (.bool x0))), (2, (.ptr 0 [] 0)), (5, (.dat 3 (.int x1)))], [(.box 30 (.dat 30 x2))], 0⟩ = rec1 x0 x1 x2) (x0 : Bool) (x1 : Int) (x2 : Dt) (x3 : Dt) : e29 jn m [1, 0, 1, 0, 0, 1, 0, 0, 1, 1] [M1] ⟨tsOf [(1, (.dat 4 (.bool x0))), (2, (.ptr 0 [] 0)), (5, (.dat 3 (.int x1))), (6, (.ptr 1 [] 0))], [(.box 30 (.dat 30 x2)), (.box 53 (.dat 53 x3))], 0⟩ = ref01_fields_j3 m (ref01_formed m) rec1 x0 x1 x2 x3 := by
  have h : ∀ J, e29 J m [1, 0, 1, 0, 0, 1, 0, 0, 1, 1] [M1] ⟨tsOf [(1, (.dat 4 (.bool x0))), (2, (.ptr 0 [] 0)), (5, (.dat 3 (.int x1))), (6, (.ptr 1 [] 0))], [(.box 30 (.dat 30 x2)), (.box 53 (.dat 53 x3))], 0⟩ =
    (J 0 8 0 ⟨tsOf [(1, (.dat 4 (.bool x0))), (2, (.ptr 0 [] 0)), (5, (.dat 3 (.int x1))), (6, (.ptr 1 [] 0)), (7, (.dat 3 (.int (0 : Int))))], [(.box 30 (.dat 30 x2)), (.box 53 (.dat 53 x3))], 0⟩ (e29 J m [1, 0, 1, 0, 0, 1, 0, 0, 1, 1, 1] [M1] ⟨tsOf [(1, (.dat 4 (.bool x0))), (2, (.ptr 0 [] 0)), (5, (.dat 3 (.int x1))), (6, (.ptr 1 [] 0)), (7, (.dat 3 (.int (0 : Int))))], [(.box 30 (.dat 30 x2)), (.box 53 (.dat 53 x3))], 0⟩)) := fun J => by kernel_rfl
  exact (h jn).trans (by
    simp only [jn_eq, ref01_fields_j4_eq m M1 rec1 h1]
    rfl)
theorem ref01_fields_j2_eq (m : Nat) (M1 : Nat) (rec1 : Bool → Int → Dt → Option (Bool)) (h1 : ∀ (x0 : Bool) (x1 : Int) (x2 : Dt), l29 jn m [1, 0, 1, 0] [] M1 ⟨tsOf [(1, (.dat 4 (.bool x0))), (2, (.ptr 0 [] 0)), (5, (.dat 3 (.int x1)))], [(.box 30 (.dat 30 x2))], 0⟩ = rec1 x0 x1 x2) (x0 : Bool) (x1 : Int) (x2 : Dt) : e29 jn m [1, 0, 1, 0, 0, 1] [M1] ⟨tsOf [(1, (.dat 4 (.bool x0))), (2, (.ptr 0 [] 0)), (5, (.dat 3 (.int x1)))], [(.box 30 (.dat 30 x2))], 0⟩ = ref01_fields_j2 m (ref01_formed m) rec1 x0 x1 x2 := by
  have h : ∀ J, e29 J m [1, 0, 1, 0, 0, 1] [M1] ⟨tsOf [(1, (.dat 4 (.bool x0))), (2, (.ptr 0 [] 0)), (5, (.dat 3 (.int x1)))], [(.box 30 (.dat 30 x2))], 0⟩ =
    ((idx (Dt.L x2 4) x1).bind fun v0 =>
      (bif x0 then
        ((ref01_Name m (Dt.S v0 0)).bind fun r1 =>
          (bif (Bool.not r1) then
            some Bool.false
          else
            (bif (Bool.not x0) then
              ((ref01_wide m (Dt.S v0 0)).bind fun r2 =>
                (bif (Bool.not r2) then
                  some Bool.false
                else
                  ((ref01_formed m (Dt.fld v0 1) x0).bind fun r3 =>
                    (bif (Bool.not r3) then
                      some Bool.false
                    else
                      (J 0 7 0 ⟨tsOf [(1, (.dat 4 (.bool x0))), (2, (.ptr 0 [] 0)), (5, (.dat 3 (.int x1))), (6, (.ptr 1 [] 0))], [(.box 30 (.dat 30 x2)), (.box 53 (.dat 53 v0))], 0⟩ (e29 J m [1, 0, 1, 0, 0, 1, 0, 0, 1, 1] [M1] ⟨tsOf [(1, (.dat 4 (.bool x0))), (2, (.ptr 0 [] 0)), (5, (.dat 3 (.int x1))), (6, (.ptr 1 [] 0))], [(.box 30 (.dat 30 x2)), (.box 53 (.dat 53 v0))], 0⟩))))))
            else
              ((ref01_formed m (Dt.fld v0 1) x0).bind fun r5 =>
                (bif (Bool.not r5) then
                  some Bool.false
                else
                  (J 0 7 0 ⟨tsOf [(1, (.dat 4 (.bool x0))), (2, (.ptr 0 [] 0)), (5, (.dat 3 (.int x1))), (6, (.ptr 1 [] 0))], [(.box 30 (.dat 30 x2)), (.box 53 (.dat 53 v0))], 0⟩ (e29 J m [1, 0, 1, 0, 0, 1, 0, 0, 1, 1] [M1] ⟨tsOf [(1, (.dat 4 (.bool x0))), (2, (.ptr 0 [] 0)), (5, (.dat 3 (.int x1))), (6, (.ptr 1 [] 0))], [(.box 30 (.dat 30 x2)), (.box 53 (.dat 53 v0))], 0⟩)))))))
      else
        (bif (Bool.not x0) then
          ((ref01_wide m (Dt.S v0 0)).bind fun r6 =>
            (bif (Bool.not r6) then
              some Bool.false
            else
              ((ref01_formed m (Dt.fld v0 1) x0).bind fun r7 =>
                (bif (Bool.not r7) then
                  some Bool.false
                else
                  (J 0 7 0 ⟨tsOf [(1, (.dat 4 (.bool x0))), (2, (.ptr 0 [] 0)), (5, (.dat 3 (.int x1))), (6, (.ptr 1 [] 0))], [(.box 30 (.dat 30 x2)), (.box 53 (.dat 53 v0))], 0⟩ (e29 J m [1, 0, 1, 0, 0, 1, 0, 0, 1, 1] [M1] ⟨tsOf [(1, (.dat 4 (.bool x0))), (2, (.ptr 0 [] 0)), (5, (.dat 3 (.int x1))), (6, (.ptr 1 [] 0))], [(.box 30 (.dat 30 x2)), (.box 53 (.dat 53 v0))], 0⟩))))))
        else
          ((ref01_formed m (Dt.fld v0 1) x0).bind fun r8 =>
            (bif (Bool.not r8) then
              some Bool.false
            else
              (J 0 7 0 ⟨tsOf [(1, (.dat 4 (.bool x0))), (2, (.ptr 0 [] 0)), (5, (.dat 3 (.int x1))), (6, (.ptr 1 [] 0))], [(.box 30 (.dat 30 x2)), (.box 53 (.dat 53 v0))], 0⟩ (e29 J m [1, 0, 1, 0, 0, 1, 0, 0, 1, 1] [M1] ⟨tsOf [(1, (.dat 4 (.bool x0))), (2, (.ptr 0 [] 0)), (5, (.dat 3 (.int x1))), (6, (.ptr 1 [] 0))], [(.box 30 (.dat 30 x2)), (.box 53 (.dat 53 v0))], 0⟩))))))) := fun J => by kernel_rfl
  exact (h jn).trans (by
    simp only [jn_eq, ref01_fields_j3_eq m M1 rec1 h1]
    rfl)
theorem ref01_fields_j9_eq (m : Nat) : e29 jn m [1, 1] [] ⟨tsOf [], [], 0⟩ = ref01_fields_j9 m (ref01_formed m) := by
  have h : ∀ J, e29 J m [1, 1] [] ⟨tsOf [], [], 0⟩ =
    some Bool.true := fun J => by kernel_rfl
  exact (h jn).trans (rfl)
theorem ref01_fields_l1_eq (m : Nat) : ∀ (M1 : Nat) (x0 : Bool) (x1 : Int) (x2 : Dt), l29 jn m [1, 0, 1, 0] [] M1 ⟨tsOf [(1, (.dat 4 (.bool x0))), (2, (.ptr 0 [] 0)), (5, (.dat 3 (.int x1)))], [(.box 30 (.dat 30 x2))], 0⟩ = ref01_fields_l1 m (ref01_formed m) M1 x0 x1 x2
  | 0, _, _, _ => rfl
  | M1 + 1, x0, x1, x2 => by
    have h : ∀ J, l29 J m [1, 0, 1, 0] [] (M1 + 1) ⟨tsOf [(1, (.dat 4 (.bool x0))), (2, (.ptr 0 [] 0)), (5, (.dat 3 (.int x1)))], [(.box 30 (.dat 30 x2))], 0⟩ =
    (bif (decide (x1 < (((List.length (Dt.L x2 4)) : Nat) : Int))) then
      (J 0 4 0 ⟨tsOf [(1, (.dat 4 (.bool x0))), (2, (.ptr 0 [] 0)), (5, (.dat 3 (.int x1)))], [(.box 30 (.dat 30 x2))], 0⟩ (e29 J m [1, 0, 1, 0, 0, 1] [M1] ⟨tsOf [(1, (.dat 4 (.bool x0))), (2, (.ptr 0 [] 0)), (5, (.dat 3 (.int x1)))], [(.box 30 (.dat 30 x2))], 0⟩))
    else
      (J 0 12 0 ⟨tsOf [], [], 0⟩ (e29 J m [1, 1] [] ⟨tsOf [], [], 0⟩))) := fun J => by kernel_rfl
    refine (h jn).trans ?_
    simp only [jn_eq, ref01_fields_j2_eq m M1 (ref01_fields_l1 m (ref01_formed m) M1) (fun x0 x1 x2 => ref01_fields_l1_eq m M1 x0 x1 x2), ref01_fields_j9_eq m]
    rfl
theorem ref01_fields_j0_eq (m : Nat) (x0 : Bool) (x1 : Int) (x2 : Dt) : e29 jn m [1, 0, 1] [] ⟨tsOf [(1, (.dat 4 (.bool x0))), (2, (.ptr 0 [] 0)), (5, (.dat 3 (.int x1)))], [(.box 30 (.dat 30 x2))], 0⟩ = ref01_fields_j0 m (ref01_formed m) x0 x1 x2 := by
  have h : ∀ J, e29 J m [1, 0, 1] [] ⟨tsOf [(1, (.dat 4 (.bool x0))), (2, (.ptr 0 [] 0)), (5, (.dat 3 (.int x1)))], [(.box 30 (.dat 30 x2))], 0⟩ =
    (J 1 2 (Nat.succ m) ⟨tsOf [(1, (.dat 4 (.bool x0))), (2, (.ptr 0 [] 0)), (5, (.dat 3 (.int x1)))], [(.box 30 (.dat 30 x2))], 0⟩ (l29 J m [1, 0, 1, 0] [] (Nat.succ m) ⟨tsOf [(1, (.dat 4 (.bool x0))), (2, (.ptr 0 [] 0)), (5, (.dat 3 (.int x1)))], [(.box 30 (.dat 30 x2))], 0⟩)) := fun J => by kernel_rfl
  exact (h jn).trans (by
    simp only [jn_eq, ref01_fields_l1_eq m]
    rfl)
theorem ref01_fields_eq (m : Nat) (a0 : Dt) (a1 : Bool) : e29 jn m [] [] ⟨[(.dat 30 a0), (.dat 4 (.bool a1))], [], 0⟩ = ref01_fields (m + 1) a0 a1 := by
  have h : ∀ J, e29 J m [] [] ⟨[(.dat 30 a0), (.dat 4 (.bool a1))], [], 0⟩ =
    (J 0 2 0 ⟨tsOf [(1, (.dat 4 (.bool a1))), (2, (.ptr 0 [] 0)), (5, (.dat 3 (.int (0 : Int))))], [(.box 30 (.dat 30 a0))], 0⟩ (e29 J m [1, 0, 1] [] ⟨tsOf [(1, (.dat 4 (.bool a1))), (2, (.ptr 0 [] 0)), (5, (.dat 3 (.int (0 : Int))))], [(.box 30 (.dat 30 a0))], 0⟩)) := fun J => by kernel_rfl
  refine (h jn).trans ?_
  simp only [jn_eq, ref01_fields_j0_eq m]
  rfl
noncomputable def d12 (q : Res) : Option (Bool) := match q with
  | (.dat T0 x0, []) => bif Nat.beq T0 4 then some x0.toBool else none
  | _ => none
theorem d12_sim {b : Res} {r : Bool} (h : d12 b = some r) : Sim Tryd.prog b ((.dat 4 (.bool r)), []) := by
  unfold d12 at h
  split at h
  · obtain ⟨hc, h2⟩ := bif_some h
    cases h2
    have e0 := beq_eq hc
    subst e0
    exact Sim.of (.of (.dat (.bool Tryd.underlying4)) rfl rfl) .nil
  · cases h
noncomputable def e12 (J : Nat → Nat → Nat → St → Option (Bool) → Option (Bool)) (m : Nat) (p ms : List Nat) (σ : St) := evAt Tryd.prog env (ct m) J (m + 1) 36 15 Tryd.f36 d12 p ms σ
noncomputable def l12 (J : Nat → Nat → Nat → St → Option (Bool) → Option (Bool)) (m : Nat) (p ms : List Nat) (M : Nat) (σ : St) := loopAt Tryd.prog env (ct m) J (m + 1) 36 15 Tryd.f36 d12 p ms M σ
theorem ref01_Valid_eq (m : Nat) (a0 : Dt) : e12 jn m [] [] ⟨[(.dat 30 a0)], [], 0⟩ = ref01_Valid (m + 1) a0 := by
  have h : ∀ J, e12 J m [] [] ⟨[(.dat 30 a0)], [], 0⟩ =
    ((ref01_Depth m a0).bind fun r0 =>
      (bif (decide (r0 ≤ (16 : Int))) then
        ((ref01_Nodes m a0).bind fun r1 =>
          (bif (decide (r1 ≤ (1024 : Int))) then
            ((ref01_formed m a0 Bool.true).bind fun r2 =>
              some r2)
          else
            some Bool.false))
      else
        some Bool.false)) := fun J => by kernel_rfl
  refine (h jn).trans ?_
  
  rfl
noncomputable def d3 (q : Res) : Option (Bool) := match q with
  | (.dat T0 x0, []) => bif Nat.beq T0 4 then some x0.toBool else none
  | _ => none
theorem d3_sim {b : Res} {r : Bool} (h : d3 b = some r) : Sim Tryd.prog b ((.dat 4 (.bool r)), []) := by
  unfold d3 at h
  split at h
  · obtain ⟨hc, h2⟩ := bif_some h
    cases h2
    have e0 := beq_eq hc
    subst e0
    exact Sim.of (.of (.dat (.bool Tryd.underlying4)) rfl rfl) .nil
  · cases h
noncomputable def e3 (J : Nat → Nat → Nat → St → Option (Bool) → Option (Bool)) (m : Nat) (p ms : List Nat) (σ : St) := evAt Tryd.prog env (ct m) J (m + 1) 16 40 Tryd.f16 d3 p ms σ
noncomputable def l3 (J : Nat → Nat → Nat → St → Option (Bool) → Option (Bool)) (m : Nat) (p ms : List Nat) (M : Nat) (σ : St) := loopAt Tryd.prog env (ct m) J (m + 1) 16 40 Tryd.f16 d3 p ms M σ
theorem law12_Small_j4_eq (m : Nat) (M2 : Nat) (rec2 : List Dt → List Dt → Int → Int → Option (Bool)) (h2 : ∀ (x0 : List Dt) (x1 : List Dt) (x2 : Int) (x3 : Int), l3 jn m [1, 1, 0, 1, 0] [] M2 ⟨tsOf [(0, (.dat 22 (.lst x0))), (1, (.dat 27 (.lst x1))), (16, (.dat 3 (.int x2))), (17, (.dat 3 (.int x3)))], [], 0⟩ = rec2 x0 x1 x2 x3) (x0 : List Dt) (x1 : List Dt) (x2 : Int) (x3 : Int) : e3 jn m [1, 1, 0, 1, 0, 0, 1, 1, 1] [M2] ⟨tsOf [(0, (.dat 22 (.lst x0))), (1, (.dat 27 (.lst x1))), (16, (.dat 3 (.int x2))), (17, (.dat 3 (.int x3)))], [], 0⟩ = law12_Small_j4 m rec2 x0 x1 x2 x3 := by
  have h : ∀ J, e3 J m [1, 1, 0, 1, 0, 0, 1, 1, 1] [M2] ⟨tsOf [(0, (.dat 22 (.lst x0))), (1, (.dat 27 (.lst x1))), (16, (.dat 3 (.int x2))), (17, (.dat 3 (.int x3)))], [], 0⟩ =
    (J 1 4 M2 ⟨tsOf [(0, (.dat 22 (.lst x0))), (1, (.dat 27 (.lst x1))), (16, (.dat 3 (.int x2))), (17, (.dat 3 (.int (IntKind.wrap IntKind.i64 (x3 + (1 : Int))))))], [], 0⟩ (l3 J m [1, 1, 0, 1, 0] [] M2 ⟨tsOf [(0, (.dat 22 (.lst x0))), (1, (.dat 27 (.lst x1))), (16, (.dat 3 (.int x2))), (17, (.dat 3 (.int (IntKind.wrap IntKind.i64 (x3 + (1 : Int))))))], [], 0⟩)) := fun J => by kernel_rfl
  exact (h jn).trans (by
    simp only [jn_eq, h2]
    rfl)
theorem law12_Small_j3_eq (m : Nat) (M2 : Nat) (rec2 : List Dt → List Dt → Int → Int → Option (Bool)) (h2 : ∀ (x0 : List Dt) (x1 : List Dt) (x2 : Int) (x3 : Int), l3 jn m [1, 1, 0, 1, 0] [] M2 ⟨tsOf [(0, (.dat 22 (.lst x0))), (1, (.dat 27 (.lst x1))), (16, (.dat 3 (.int x2))), (17, (.dat 3 (.int x3)))], [], 0⟩ = rec2 x0 x1 x2 x3) (x0 : List Dt) (x1 : List Dt) (x2 : Int) (x3 : Int) : e3 jn m [1, 1, 0, 1, 0, 0, 1, 1] [M2] ⟨tsOf [(0, (.dat 22 (.lst x0))), (1, (.dat 27 (.lst x1))), (16, (.dat 3 (.int x2))), (17, (.dat 3 (.int x3)))], [], 0⟩ = law12_Small_j3 m rec2 x0 x1 x2 x3 := by
  have h : ∀ J, e3 J m [1, 1, 0, 1, 0, 0, 1, 1] [M2] ⟨tsOf [(0, (.dat 22 (.lst x0))), (1, (.dat 27 (.lst x1))), (16, (.dat 3 (.int x2))), (17, (.dat 3 (.int x3)))], [], 0⟩ =
    ((idx x0 x3).bind fun v0 =>
      (bif (decide ((16 : Int) < (((List.length (Dt.L v0 0)) : Nat) : Int))) then
        some Bool.false
      else
        (J 0 8 0 ⟨tsOf [(0, (.dat 22 (.lst x0))), (1, (.dat 27 (.lst x1))), (16, (.dat 3 (.int x2))), (17, (.dat 3 (.int x3)))], [], 0⟩ (e3 J m [1, 1, 0, 1, 0, 0, 1, 1, 1] [M2] ⟨tsOf [(0, (.dat 22 (.lst x0))), (1, (.dat 27 (.lst x1))), (16, (.dat 3 (.int x2))), (17, (.dat 3 (.int x3)))], [], 0⟩)))) := fun J => by kernel_rfl
  exact (h jn).trans (by
    simp only [jn_eq, law12_Small_j4_eq m M2 rec2 h2]
    rfl)
theorem law12_Small_j9_eq (m : Nat) (M7 : Nat) (rec7 : List Dt → Int → Int → Option (Bool)) (h7 : ∀ (x0 : List Dt) (x1 : Int) (x2 : Int), l3 jn m [1, 1, 1, 0, 1, 0] [] M7 ⟨tsOf [(1, (.dat 27 (.lst x0))), (29, (.dat 3 (.int x1))), (30, (.dat 3 (.int x2)))], [], 0⟩ = rec7 x0 x1 x2) (x0 : List Dt) (x1 : Int) (x2 : Int) : e3 jn m [1, 1, 1, 0, 1, 0, 0, 1, 1, 1] [M7] ⟨tsOf [(1, (.dat 27 (.lst x0))), (29, (.dat 3 (.int x1))), (30, (.dat 3 (.int x2)))], [], 0⟩ = law12_Small_j9 m rec7 x0 x1 x2 := by
  have h : ∀ J, e3 J m [1, 1, 1, 0, 1, 0, 0, 1, 1, 1] [M7] ⟨tsOf [(1, (.dat 27 (.lst x0))), (29, (.dat 3 (.int x1))), (30, (.dat 3 (.int x2)))], [], 0⟩ =
    (J 1 10 M7 ⟨tsOf [(1, (.dat 27 (.lst x0))), (29, (.dat 3 (.int x1))), (30, (.dat 3 (.int (IntKind.wrap IntKind.i64 (x2 + (1 : Int))))))], [], 0⟩ (l3 J m [1, 1, 1, 0, 1, 0] [] M7 ⟨tsOf [(1, (.dat 27 (.lst x0))), (29, (.dat 3 (.int x1))), (30, (.dat 3 (.int (IntKind.wrap IntKind.i64 (x2 + (1 : Int))))))], [], 0⟩)) := fun J => by kernel_rfl
  exact (h jn).trans (by
    simp only [jn_eq, h7]
    rfl)
theorem law12_Small_j8_eq (m : Nat) (M7 : Nat) (rec7 : List Dt → Int → Int → Option (Bool)) (h7 : ∀ (x0 : List Dt) (x1 : Int) (x2 : Int), l3 jn m [1, 1, 1, 0, 1, 0] [] M7 ⟨tsOf [(1, (.dat 27 (.lst x0))), (29, (.dat 3 (.int x1))), (30, (.dat 3 (.int x2)))], [], 0⟩ = rec7 x0 x1 x2) (x0 : List Dt) (x1 : Int) (x2 : Int) : e3 jn m [1, 1, 1, 0, 1, 0, 0, 1, 1] [M7] ⟨tsOf [(1, (.dat 27 (.lst x0))), (29, (.dat 3 (.int x1))), (30, (.dat 3 (.int x2)))], [], 0⟩ = law12_Small_j8 m rec7 x0 x1 x2 := by
  have h : ∀ J, e3 J m [1, 1, 1, 0, 1, 0, 0, 1, 1] [M7] ⟨tsOf [(1, (.dat 27 (.lst x0))), (29, (.dat 3 (.int x1))), (30, (.dat 3 (.int x2)))], [], 0⟩ =
    ((idx x0 x2).bind fun v1 =>
      ((ref01_Valid m v1).bind fun r2 =>
        (bif (Bool.not r2) then
          some Bool.false
        else
          (J 0 14 0 ⟨tsOf [(1, (.dat 27 (.lst x0))), (29, (.dat 3 (.int x1))), (30, (.dat 3 (.int x2)))], [], 0⟩ (e3 J m [1, 1, 1, 0, 1, 0, 0, 1, 1, 1] [M7] ⟨tsOf [(1, (.dat 27 (.lst x0))), (29, (.dat 3 (.int x1))), (30, (.dat 3 (.int x2)))], [], 0⟩))))) := fun J => by kernel_rfl
  exact (h jn).trans (by
    simp only [jn_eq, law12_Small_j9_eq m M7 rec7 h7]
    rfl)
theorem law12_Small_j10_eq (m : Nat) : e3 jn m [1, 1, 1, 1] [] ⟨tsOf [], [], 0⟩ = law12_Small_j10 m := by
  have h : ∀ J, e3 J m [1, 1, 1, 1] [] ⟨tsOf [], [], 0⟩ =
    some Bool.true := fun J => by kernel_rfl
  exact (h jn).trans (rfl)
theorem law12_Small_l7_eq (m : Nat) : ∀ (M7 : Nat) (x0 : List Dt) (x1 : Int) (x2 : Int), l3 jn m [1, 1, 1, 0, 1, 0] [] M7 ⟨tsOf [(1, (.dat 27 (.lst x0))), (29, (.dat 3 (.int x1))), (30, (.dat 3 (.int x2)))], [], 0⟩ = law12_Small_l7 m M7 x0 x1 x2
  | 0, _, _, _ => rfl
  | M7 + 1, x0, x1, x2 => by
    have h : ∀ J, l3 J m [1, 1, 1, 0, 1, 0] [] (M7 + 1) ⟨tsOf [(1, (.dat 27 (.lst x0))), (29, (.dat 3 (.int x1))), (30, (.dat 3 (.int x2)))], [], 0⟩ =
    (bif (decide (x2 < x1)) then
      (J 0 11 0 ⟨tsOf [(1, (.dat 27 (.lst x0))), (29, (.dat 3 (.int x1))), (30, (.dat 3 (.int x2)))], [], 0⟩ (e3 J m [1, 1, 1, 0, 1, 0, 0, 1, 1] [M7] ⟨tsOf [(1, (.dat 27 (.lst x0))), (29, (.dat 3 (.int x1))), (30, (.dat 3 (.int x2)))], [], 0⟩))
    else
      (J 0 15 0 ⟨tsOf [], [], 0⟩ (e3 J m [1, 1, 1, 1] [] ⟨tsOf [], [], 0⟩))) := fun J => by kernel_rfl
    refine (h jn).trans ?_
    simp only [jn_eq, law12_Small_j8_eq m M7 (law12_Small_l7 m M7) (fun x0 x1 x2 => law12_Small_l7_eq m M7 x0 x1 x2), law12_Small_j10_eq m]
    rfl
theorem law12_Small_j6_eq (m : Nat) (x0 : List Dt) (x1 : Int) (x2 : Int) : e3 jn m [1, 1, 1, 0, 1] [] ⟨tsOf [(1, (.dat 27 (.lst x0))), (29, (.dat 3 (.int x1))), (30, (.dat 3 (.int x2)))], [], 0⟩ = law12_Small_j6 m x0 x1 x2 := by
  have h : ∀ J, e3 J m [1, 1, 1, 0, 1] [] ⟨tsOf [(1, (.dat 27 (.lst x0))), (29, (.dat 3 (.int x1))), (30, (.dat 3 (.int x2)))], [], 0⟩ =
    (J 1 10 (Nat.succ m) ⟨tsOf [(1, (.dat 27 (.lst x0))), (29, (.dat 3 (.int x1))), (30, (.dat 3 (.int x2)))], [], 0⟩ (l3 J m [1, 1, 1, 0, 1, 0] [] (Nat.succ m) ⟨tsOf [(1, (.dat 27 (.lst x0))), (29, (.dat 3 (.int x1))), (30, (.dat 3 (.int x2)))], [], 0⟩)) := fun J => by kernel_rfl
  exact (h jn).trans (by
    simp only [jn_eq, law12_Small_l7_eq m]
    rfl)
theorem law12_Small_j5_eq (m : Nat) (x0 : List Dt) : e3 jn m [1, 1, 1] [] ⟨tsOf [(1, (.dat 27 (.lst x0)))], [], 0⟩ = law12_Small_j5 m x0 := by
  have h : ∀ J, e3 J m [1, 1, 1] [] ⟨tsOf [(1, (.dat 27 (.lst x0)))], [], 0⟩ =
    (J 0 10 0 ⟨tsOf [(1, (.dat 27 (.lst x0))), (29, (.dat 3 (.int (((List.length x0) : Nat) : Int)))), (30, (.dat 3 (.int (0 : Int))))], [], 0⟩ (e3 J m [1, 1, 1, 0, 1] [] ⟨tsOf [(1, (.dat 27 (.lst x0))), (29, (.dat 3 (.int (((List.length x0) : Nat) : Int)))), (30, (.dat 3 (.int (0 : Int))))], [], 0⟩)) := fun J => by kernel_rfl
  exact (h jn).trans (by
    simp only [jn_eq, law12_Small_j6_eq m]
    rfl)
theorem law12_Small_l2_eq (m : Nat) : ∀ (M2 : Nat) (x0 : List Dt) (x1 : List Dt) (x2 : Int) (x3 : Int), l3 jn m [1, 1, 0, 1, 0] [] M2 ⟨tsOf [(0, (.dat 22 (.lst x0))), (1, (.dat 27 (.lst x1))), (16, (.dat 3 (.int x2))), (17, (.dat 3 (.int x3)))], [], 0⟩ = law12_Small_l2 m M2 x0 x1 x2 x3
  | 0, _, _, _, _ => rfl
  | M2 + 1, x0, x1, x2, x3 => by
    have h : ∀ J, l3 J m [1, 1, 0, 1, 0] [] (M2 + 1) ⟨tsOf [(0, (.dat 22 (.lst x0))), (1, (.dat 27 (.lst x1))), (16, (.dat 3 (.int x2))), (17, (.dat 3 (.int x3)))], [], 0⟩ =
    (bif (decide (x3 < x2)) then
      (J 0 5 0 ⟨tsOf [(0, (.dat 22 (.lst x0))), (1, (.dat 27 (.lst x1))), (16, (.dat 3 (.int x2))), (17, (.dat 3 (.int x3)))], [], 0⟩ (e3 J m [1, 1, 0, 1, 0, 0, 1, 1] [M2] ⟨tsOf [(0, (.dat 22 (.lst x0))), (1, (.dat 27 (.lst x1))), (16, (.dat 3 (.int x2))), (17, (.dat 3 (.int x3)))], [], 0⟩))
    else
      (J 0 9 0 ⟨tsOf [(1, (.dat 27 (.lst x1)))], [], 0⟩ (e3 J m [1, 1, 1] [] ⟨tsOf [(1, (.dat 27 (.lst x1)))], [], 0⟩))) := fun J => by kernel_rfl
    refine (h jn).trans ?_
    simp only [jn_eq, law12_Small_j3_eq m M2 (law12_Small_l2 m M2) (fun x0 x1 x2 x3 => law12_Small_l2_eq m M2 x0 x1 x2 x3), law12_Small_j5_eq m]
    rfl
theorem law12_Small_j1_eq (m : Nat) (x0 : List Dt) (x1 : List Dt) (x2 : Int) (x3 : Int) : e3 jn m [1, 1, 0, 1] [] ⟨tsOf [(0, (.dat 22 (.lst x0))), (1, (.dat 27 (.lst x1))), (16, (.dat 3 (.int x2))), (17, (.dat 3 (.int x3)))], [], 0⟩ = law12_Small_j1 m x0 x1 x2 x3 := by
  have h : ∀ J, e3 J m [1, 1, 0, 1] [] ⟨tsOf [(0, (.dat 22 (.lst x0))), (1, (.dat 27 (.lst x1))), (16, (.dat 3 (.int x2))), (17, (.dat 3 (.int x3)))], [], 0⟩ =
    (J 1 4 (Nat.succ m) ⟨tsOf [(0, (.dat 22 (.lst x0))), (1, (.dat 27 (.lst x1))), (16, (.dat 3 (.int x2))), (17, (.dat 3 (.int x3)))], [], 0⟩ (l3 J m [1, 1, 0, 1, 0] [] (Nat.succ m) ⟨tsOf [(0, (.dat 22 (.lst x0))), (1, (.dat 27 (.lst x1))), (16, (.dat 3 (.int x2))), (17, (.dat 3 (.int x3)))], [], 0⟩)) := fun J => by kernel_rfl
  exact (h jn).trans (by
    simp only [jn_eq, law12_Small_l2_eq m]
    rfl)
theorem law12_Small_j0_eq (m : Nat) (x0 : List Dt) (x1 : List Dt) : e3 jn m [1, 1] [] ⟨tsOf [(0, (.dat 22 (.lst x0))), (1, (.dat 27 (.lst x1)))], [], 0⟩ = law12_Small_j0 m x0 x1 := by
  have h : ∀ J, e3 J m [1, 1] [] ⟨tsOf [(0, (.dat 22 (.lst x0))), (1, (.dat 27 (.lst x1)))], [], 0⟩ =
    (J 0 4 0 ⟨tsOf [(0, (.dat 22 (.lst x0))), (1, (.dat 27 (.lst x1))), (16, (.dat 3 (.int (((List.length x0) : Nat) : Int)))), (17, (.dat 3 (.int (0 : Int))))], [], 0⟩ (e3 J m [1, 1, 0, 1] [] ⟨tsOf [(0, (.dat 22 (.lst x0))), (1, (.dat 27 (.lst x1))), (16, (.dat 3 (.int (((List.length x0) : Nat) : Int)))), (17, (.dat 3 (.int (0 : Int))))], [], 0⟩)) := fun J => by kernel_rfl
  exact (h jn).trans (by
    simp only [jn_eq, law12_Small_j1_eq m]
    rfl)
theorem law12_Small_eq (m : Nat) (a0 : List Dt) (a1 : List Dt) : e3 jn m [] [] ⟨[(.dat 22 (.lst a0)), (.dat 27 (.lst a1))], [], 0⟩ = law12_Small (m + 1) a0 a1 := by
  have h : ∀ J, e3 J m [] [] ⟨[(.dat 22 (.lst a0)), (.dat 27 (.lst a1))], [], 0⟩ =
    (bif (decide ((8 : Int) < (((List.length a0) : Nat) : Int))) then
      some Bool.false
    else
      (bif (decide ((40 : Int) < (((List.length a1) : Nat) : Int))) then
        some Bool.false
      else
        (J 0 3 0 ⟨tsOf [(0, (.dat 22 (.lst a0))), (1, (.dat 27 (.lst a1)))], [], 0⟩ (e3 J m [1, 1] [] ⟨tsOf [(0, (.dat 22 (.lst a0))), (1, (.dat 27 (.lst a1)))], [], 0⟩)))) := fun J => by kernel_rfl
  refine (h jn).trans ?_
  simp only [jn_eq, law12_Small_j0_eq m]
  rfl
noncomputable def d41 (q : Res) : Option (Bool) := match q with
  | (.dat T0 x0, []) => bif Nat.beq T0 4 then some x0.toBool else none
  | _ => none
theorem d41_sim {b : Res} {r : Bool} (h : d41 b = some r) : Sim Tryd.prog b ((.dat 4 (.bool r)), []) := by
  unfold d41 at h
  split at h
  · obtain ⟨hc, h2⟩ := bif_some h
    cases h2
    have e0 := beq_eq hc
    subst e0
    exact Sim.of (.of (.dat (.bool Tryd.underlying4)) rfl rfl) .nil
  · cases h
noncomputable def e41 (J : Nat → Nat → Nat → St → Option (Bool) → Option (Bool)) (m : Nat) (p ms : List Nat) (σ : St) := evAt Tryd.prog env (ct m) J (m + 1) 78 6 Tryd.f78 d41 p ms σ
noncomputable def l41 (J : Nat → Nat → Nat → St → Option (Bool) → Option (Bool)) (m : Nat) (p ms : List Nat) (M : Nat) (σ : St) := loopAt Tryd.prog env (ct m) J (m + 1) 78 6 Tryd.f78 d41 p ms M σ
theorem cmp_isNaN_eq (m : Nat) (a0 : Int) : e41 jn m [] [] ⟨[(.dat 3 (.int a0))], [], 0⟩ = cmp_isNaN (m + 1) a0 := by
  have h : ∀ J, e41 J m [] [] ⟨[(.dat 3 (.int a0))], [], 0⟩ =
    some (a0 != a0) := fun J => by kernel_rfl
  refine (h jn).trans ?_
  
  rfl
noncomputable def d34 (q : Res) : Option (Int) := match q with
  | (.dat T0 x0, []) => bif Nat.beq T0 3 then some x0.toInt else none
  | _ => none
theorem d34_sim {b : Res} {r : Int} (h : d34 b = some r) : Sim Tryd.prog b ((.dat 3 (.int r)), []) := by
  unfold d34 at h
  split at h
  · obtain ⟨hc, h2⟩ := bif_some h
    cases h2
    have e0 := beq_eq hc
    subst e0
    exact Sim.of (.of (.dat (.int Tryd.underlying3)) rfl rfl) .nil
  · cases h
noncomputable def e34 (J : Nat → Nat → Nat → St → Option (Int) → Option (Int)) (m : Nat) (p ms : List Nat) (σ : St) := evAt Tryd.prog env (ct m) J (m + 1) 66 20 Tryd.f66 d34 p ms σ
noncomputable def l34 (J : Nat → Nat → Nat → St → Option (Int) → Option (Int)) (m : Nat) (p ms : List Nat) (M : Nat) (σ : St) := loopAt Tryd.prog env (ct m) J (m + 1) 66 20 Tryd.f66 d34 p ms M σ
theorem cmp_Compare_j0_eq (m : Nat) : e34 jn m [1, 1, 1, 0, 1, 0, 1] [] ⟨tsOf [], [], 0⟩ = cmp_Compare_j0 m := by
  have h : ∀ J, e34 J m [1, 1, 1, 0, 1, 0, 1] [] ⟨tsOf [], [], 0⟩ =
    some (-1 : Int) := fun J => by kernel_rfl
  exact (h jn).trans (rfl)
theorem cmp_Compare_j4_eq (m : Nat) : e34 jn m [1, 1, 1, 1, 1, 1, 1] [] ⟨tsOf [], [], 0⟩ = cmp_Compare_j4 m := by
  have h : ∀ J, e34 J m [1, 1, 1, 1, 1, 1, 1] [] ⟨tsOf [], [], 0⟩ =
    some (0 : Int) := fun J => by kernel_rfl
  exact (h jn).trans (rfl)
theorem cmp_Compare_j3_eq (m : Nat) (x0 : Int) (x1 : Int) : e34 jn m [1, 1, 1, 1, 1, 1] [] ⟨tsOf [(0, (.dat 3 (.int x0))), (1, (.dat 3 (.int x1)))], [], 0⟩ = cmp_Compare_j3 m x0 x1 := by
  have h : ∀ J, e34 J m [1, 1, 1, 1, 1, 1] [] ⟨tsOf [(0, (.dat 3 (.int x0))), (1, (.dat 3 (.int x1)))], [], 0⟩ =
    (bif (decide (x1 < x0)) then
      some (1 : Int)
    else
      (J 0 13 0 ⟨tsOf [], [], 0⟩ (e34 J m [1, 1, 1, 1, 1, 1, 1] [] ⟨tsOf [], [], 0⟩))) := fun J => by kernel_rfl
  exact (h jn).trans (by
    simp only [jn_eq, cmp_Compare_j4_eq m]
    rfl)
theorem cmp_Compare_j2_eq (m : Nat) (x0 : Int) (x1 : Int) : e34 jn m [1, 1, 1, 1, 1] [] ⟨tsOf [(0, (.dat 3 (.int x0))), (1, (.dat 3 (.int x1)))], [], 0⟩ = cmp_Compare_j2 m x0 x1 := by
  have h : ∀ J, e34 J m [1, 1, 1, 1, 1] [] ⟨tsOf [(0, (.dat 3 (.int x0))), (1, (.dat 3 (.int x1)))], [], 0⟩ =
    (bif (decide (x0 < x1)) then
      some (-1 : Int)
    else
      (J 0 11 0 ⟨tsOf [(0, (.dat 3 (.int x0))), (1, (.dat 3 (.int x1)))], [], 0⟩ (e34 J m [1, 1, 1, 1, 1, 1] [] ⟨tsOf [(0, (.dat 3 (.int x0))), (1, (.dat 3 (.int x1)))], [], 0⟩))) := fun J => by kernel_rfl
  exact (h jn).trans (by
    simp only [jn_eq, cmp_Compare_j3_eq m]
    rfl)
theorem cmp_Compare_j1_eq (m : Nat) (x0 : Int) (x1 : Int) (x2 : Bool) : e34 jn m [1, 1, 1, 1] [] ⟨tsOf [(0, (.dat 3 (.int x0))), (1, (.dat 3 (.int x1))), (6, (.dat 4 (.bool x2)))], [], 0⟩ = cmp_Compare_j1 m x0 x1 x2 := by
  have h : ∀ J, e34 J m [1, 1, 1, 1] [] ⟨tsOf [(0, (.dat 3 (.int x0))), (1, (.dat 3 (.int x1))), (6, (.dat 4 (.bool x2)))], [], 0⟩ =
    (bif x2 then
      some (1 : Int)
    else
      (J 0 9 0 ⟨tsOf [(0, (.dat 3 (.int x0))), (1, (.dat 3 (.int x1)))], [], 0⟩ (e34 J m [1, 1, 1, 1, 1] [] ⟨tsOf [(0, (.dat 3 (.int x0))), (1, (.dat 3 (.int x1)))], [], 0⟩))) := fun J => by kernel_rfl
  exact (h jn).trans (by
    simp only [jn_eq, cmp_Compare_j2_eq m]
    rfl)
theorem cmp_Compare_eq (m : Nat) (a0 : Int) (a1 : Int) : e34 jn m [] [] ⟨[(.dat 3 (.int a0)), (.dat 3 (.int a1))], [], 0⟩ = cmp_Compare (m + 1) a0 a1 := by
  have h : ∀ J, e34 J m [] [] ⟨[(.dat 3 (.int a0)), (.dat 3 (.int a1))], [], 0⟩ =
    ((cmp_isNaN m a0).bind fun r0 =>
      ((cmp_isNaN m a1).bind fun r1 =>
        (bif r0 then
          (bif r1 then
            some (0 : Int)
          else
            (J 0 6 0 ⟨tsOf [], [], 0⟩ (e34 J m [1, 1, 1, 0, 1, 0, 1] [] ⟨tsOf [], [], 0⟩)))
        else
          (J 0 7 0 ⟨tsOf [(0, (.dat 3 (.int a0))), (1, (.dat 3 (.int a1))), (6, (.dat 4 (.bool r1)))], [], 0⟩ (e34 J m [1, 1, 1, 1] [] ⟨tsOf [(0, (.dat 3 (.int a0))), (1, (.dat 3 (.int a1))), (6, (.dat 4 (.bool r1)))], [], 0⟩))))) := fun J => by kernel_rfl
  refine (h jn).trans ?_
  simp only [jn_eq, cmp_Compare_j0_eq m, cmp_Compare_j1_eq m]
  rfl
noncomputable def d22 (q : Res) : Option (Int) := match q with
  | (.dat T0 x0, []) => bif Nat.beq T0 3 then some x0.toInt else none
  | _ => none
theorem d22_sim {b : Res} {r : Int} (h : d22 b = some r) : Sim Tryd.prog b ((.dat 3 (.int r)), []) := by
  unfold d22 at h
  split at h
  · obtain ⟨hc, h2⟩ := bif_some h
    cases h2
    have e0 := beq_eq hc
    subst e0
    exact Sim.of (.of (.dat (.int Tryd.underlying3)) rfl rfl) .nil
  · cases h
noncomputable def e22 (J : Nat → Nat → Nat → St → Option (Int) → Option (Int)) (m : Nat) (p ms : List Nat) (σ : St) := evAt Tryd.prog env (ct m) J (m + 1) 51 126 Tryd.f51 d22 p ms σ
noncomputable def l22 (J : Nat → Nat → Nat → St → Option (Int) → Option (Int)) (m : Nat) (p ms : List Nat) (M : Nat) (σ : St) := loopAt Tryd.prog env (ct m) J (m + 1) 51 126 Tryd.f51 d22 p ms M σ
theorem value_Compare_j4_eq (m : Nat) (M2 : Nat) (rec2 : Int → Int → Dt → Dt → Option (Int)) (h2 : ∀ (x0 : Int) (x1 : Int) (x2 : Dt) (x3 : Dt), l22 jn m [1, 1, 0, 1, 0, 1, 1, 1, 1, 1, 0, 0, 1, 0] [] M2 ⟨tsOf [(2, (.ptr 0 [] 0)), (3, (.ptr 1 [] 0)), (48, (.dat 3 (.int x0))), (49, (.dat 3 (.int x1)))], [(.box 30 (.dat 30 x2)), (.box 30 (.dat 30 x3))], 0⟩ = rec2 x0 x1 x2 x3) (x0 : Int) (x1 : Int) (x2 : Dt) (x3 : Dt) : e22 jn m [1, 1, 0, 1, 0, 1, 1, 1, 1, 1, 0, 0, 1, 0, 0, 1, 1, 1] [M2] ⟨tsOf [(2, (.ptr 0 [] 0)), (3, (.ptr 1 [] 0)), (48, (.dat 3 (.int x0))), (49, (.dat 3 (.int x1)))], [(.box 30 (.dat 30 x2)), (.box 30 (.dat 30 x3))], 0⟩ = value_Compare_j4 m (value_Compare m) rec2 x0 x1 x2 x3 := by
  have h : ∀ J, e22 J m [1, 1, 0, 1, 0, 1, 1, 1, 1, 1, 0, 0, 1, 0, 0, 1, 1, 1] [M2] ⟨tsOf [(2, (.ptr 0 [] 0)), (3, (.ptr 1 [] 0)), (48, (.dat 3 (.int x0))), (49, (.dat 3 (.int x1)))], [(.box 30 (.dat 30 x2)), (.box 30 (.dat 30 x3))], 0⟩ =
    (J 1 14 M2 ⟨tsOf [(2, (.ptr 0 [] 0)), (3, (.ptr 1 [] 0)), (48, (.dat 3 (.int x0))), (49, (.dat 3 (.int (IntKind.wrap IntKind.i64 (x1 + (1 : Int))))))], [(.box 30 (.dat 30 x2)), (.box 30 (.dat 30 x3))], 0⟩ (l22 J m [1, 1, 0, 1, 0, 1, 1, 1, 1, 1, 0, 0, 1, 0] [] M2 ⟨tsOf [(2, (.ptr 0 [] 0)), (3, (.ptr 1 [] 0)), (48, (.dat 3 (.int x0))), (49, (.dat 3 (.int (IntKind.wrap IntKind.i64 (x1 + (1 : Int))))))], [(.box 30 (.dat 30 x2)), (.box 30 (.dat 30 x3))], 0⟩)) := fun J => by kernel_rfl
  exact (h jn).trans (by
    simp only [jn_eq, h2]
    rfl)
theorem value_Compare_j3_eq (m : Nat) (M2 : Nat) (rec2 : Int → Int → Dt → Dt → Option (Int)) (h2 : ∀ (x0 : Int) (x1 : Int) (x2 : Dt) (x3 : Dt), l22 jn m [1, 1, 0, 1, 0, 1, 1, 1, 1, 1, 0, 0, 1, 0] [] M2 ⟨tsOf [(2, (.ptr 0 [] 0)), (3, (.ptr 1 [] 0)), (48, (.dat 3 (.int x0))), (49, (.dat 3 (.int x1)))], [(.box 30 (.dat 30 x2)), (.box 30 (.dat 30 x3))], 0⟩ = rec2 x0 x1 x2 x3) (x0 : Int) (x1 : Int) (x2 : Dt) (x3 : Dt) : e22 jn m [1, 1, 0, 1, 0, 1, 1, 1, 1, 1, 0, 0, 1, 0, 0, 1, 1] [M2] ⟨tsOf [(2, (.ptr 0 [] 0)), (3, (.ptr 1 [] 0)), (48, (.dat 3 (.int x0))), (49, (.dat 3 (.int x1)))], [(.box 30 (.dat 30 x2)), (.box 30 (.dat 30 x3))], 0⟩ = value_Compare_j3 m (value_Compare m) rec2 x0 x1 x2 x3 := by
  have h : ∀ J, e22 J m [1, 1, 0, 1, 0, 1, 1, 1, 1, 1, 0, 0, 1, 0, 0, 1, 1] [M2] ⟨tsOf [(2, (.ptr 0 [] 0)), (3, (.ptr 1 [] 0)), (48, (.dat 3 (.int x0))), (49, (.dat 3 (.int x1)))], [(.box 30 (.dat 30 x2)), (.box 30 (.dat 30 x3))], 0⟩ =
    ((idx (Dt.L x2 3) x1).bind fun v3 =>
      ((idx (Dt.L x3 3) x1).bind fun v4 =>
        ((value_Compare m v3 v4).bind fun r5 =>
          (bif (r5 != (0 : Int)) then
            some r5
          else
            (J 0 19 0 ⟨tsOf [(2, (.ptr 0 [] 0)), (3, (.ptr 1 [] 0)), (48, (.dat 3 (.int x0))), (49, (.dat 3 (.int x1)))], [(.box 30 (.dat 30 x2)), (.box 30 (.dat 30 x3))], 0⟩ (e22 J m [1, 1, 0, 1, 0, 1, 1, 1, 1, 1, 0, 0, 1, 0, 0, 1, 1, 1] [M2] ⟨tsOf [(2, (.ptr 0 [] 0)), (3, (.ptr 1 [] 0)), (48, (.dat 3 (.int x0))), (49, (.dat 3 (.int x1)))], [(.box 30 (.dat 30 x2)), (.box 30 (.dat 30 x3))], 0⟩)))))) := fun J => by kernel_rfl
  exact (h jn).trans (by
    simp only [jn_eq, value_Compare_j4_eq m M2 rec2 h2]
    rfl)
theorem value_Compare_j5_eq (m : Nat) (x0 : Dt) (x1 : Dt) : e22 jn m [1, 1, 0, 1, 0, 1, 1, 1, 1, 1, 0, 1] [] ⟨tsOf [(2, (.ptr 0 [] 0)), (3, (.ptr 1 [] 0))], [(.box 30 (.dat 30 x0)), (.box 30 (.dat 30 x1))], 0⟩ = value_Compare_j5 m (value_Compare m) x0 x1 := by
  have h : ∀ J, e22 J m [1, 1, 0, 1, 0, 1, 1, 1, 1, 1, 0, 1] [] ⟨tsOf [(2, (.ptr 0 [] 0)), (3, (.ptr 1 [] 0))], [(.box 30 (.dat 30 x0)), (.box 30 (.dat 30 x1))], 0⟩ =
    ((cmp_Compare m (((List.length (Dt.L x0 3)) : Nat) : Int) (((List.length (Dt.L x1 3)) : Nat) : Int)).bind fun r6 =>
      some r6) := fun J => by kernel_rfl
  exact (h jn).trans (rfl)
theorem value_Compare_l2_eq (m : Nat) : ∀ (M2 : Nat) (x0 : Int) (x1 : Int) (x2 : Dt) (x3 : Dt), l22 jn m [1, 1, 0, 1, 0, 1, 1, 1, 1, 1, 0, 0, 1, 0] [] M2 ⟨tsOf [(2, (.ptr 0 [] 0)), (3, (.ptr 1 [] 0)), (48, (.dat 3 (.int x0))), (49, (.dat 3 (.int x1)))], [(.box 30 (.dat 30 x2)), (.box 30 (.dat 30 x3))], 0⟩ = value_Compare_l2 m (value_Compare m) M2 x0 x1 x2 x3
  | 0, _, _, _, _ => rfl
  | M2 + 1, x0, x1, x2, x3 => by
    have h : ∀ J, l22 J m [1, 1, 0, 1, 0, 1, 1, 1, 1, 1, 0, 0, 1, 0] [] (M2 + 1) ⟨tsOf [(2, (.ptr 0 [] 0)), (3, (.ptr 1 [] 0)), (48, (.dat 3 (.int x0))), (49, (.dat 3 (.int x1)))], [(.box 30 (.dat 30 x2)), (.box 30 (.dat 30 x3))], 0⟩ =
    (bif (decide (x1 < x0)) then
      (J 0 15 0 ⟨tsOf [(2, (.ptr 0 [] 0)), (3, (.ptr 1 [] 0)), (48, (.dat 3 (.int x0))), (49, (.dat 3 (.int x1)))], [(.box 30 (.dat 30 x2)), (.box 30 (.dat 30 x3))], 0⟩ (e22 J m [1, 1, 0, 1, 0, 1, 1, 1, 1, 1, 0, 0, 1, 0, 0, 1, 1] [M2] ⟨tsOf [(2, (.ptr 0 [] 0)), (3, (.ptr 1 [] 0)), (48, (.dat 3 (.int x0))), (49, (.dat 3 (.int x1)))], [(.box 30 (.dat 30 x2)), (.box 30 (.dat 30 x3))], 0⟩))
    else
      (J 0 20 0 ⟨tsOf [(2, (.ptr 0 [] 0)), (3, (.ptr 1 [] 0))], [(.box 30 (.dat 30 x2)), (.box 30 (.dat 30 x3))], 0⟩ (e22 J m [1, 1, 0, 1, 0, 1, 1, 1, 1, 1, 0, 1] [] ⟨tsOf [(2, (.ptr 0 [] 0)), (3, (.ptr 1 [] 0))], [(.box 30 (.dat 30 x2)), (.box 30 (.dat 30 x3))], 0⟩))) := fun J => by kernel_rfl
    refine (h jn).trans ?_
    simp only [jn_eq, value_Compare_j3_eq m M2 (value_Compare_l2 m (value_Compare m) M2) (fun x0 x1 x2 x3 => value_Compare_l2_eq m M2 x0 x1 x2 x3), value_Compare_j5_eq m]
    rfl
theorem value_Compare_j1_eq (m : Nat) (x0 : Int) (x1 : Int) (x2 : Dt) (x3 : Dt) : e22 jn m [1, 1, 0, 1, 0, 1, 1, 1, 1, 1, 0, 0, 1] [] ⟨tsOf [(2, (.ptr 0 [] 0)), (3, (.ptr 1 [] 0)), (48, (.dat 3 (.int x0))), (49, (.dat 3 (.int x1)))], [(.box 30 (.dat 30 x2)), (.box 30 (.dat 30 x3))], 0⟩ = value_Compare_j1 m (value_Compare m) x0 x1 x2 x3 := by
  have h : ∀ J, e22 J m [1, 1, 0, 1, 0, 1, 1, 1, 1, 1, 0, 0, 1] [] ⟨tsOf [(2, (.ptr 0 [] 0)), (3, (.ptr 1 [] 0)), (48, (.dat 3 (.int x0))), (49, (.dat 3 (.int x1)))], [(.box 30 (.dat 30 x2)), (.box 30 (.dat 30 x3))], 0⟩ =
    (J 1 14 (Nat.succ m) ⟨tsOf [(2, (.ptr 0 [] 0)), (3, (.ptr 1 [] 0)), (48, (.dat 3 (.int x0))), (49, (.dat 3 (.int x1)))], [(.box 30 (.dat 30 x2)), (.box 30 (.dat 30 x3))], 0⟩ (l22 J m [1, 1, 0, 1, 0, 1, 1, 1, 1, 1, 0, 0, 1, 0] [] (Nat.succ m) ⟨tsOf [(2, (.ptr 0 [] 0)), (3, (.ptr 1 [] 0)), (48, (.dat 3 (.int x0))), (49, (.dat 3 (.int x1)))], [(.box 30 (.dat 30 x2)), (.box 30 (.dat 30 x3))], 0⟩)) := fun J => by kernel_rfl
  exact (h jn).trans (by
    simp only [jn_eq, value_Compare_l2_eq m]
    rfl)
theorem value_Compare_j10_eq (m : Nat) (M7 : Nat) (rec7 : Int → Int → Dt → Dt → Option (Int)) (h7 : ∀ (x0 : Int) (x1 : Int) (x2 : Dt) (x3 : Dt), l22 jn m [1, 1, 0, 1, 0, 1, 1, 1, 1, 1, 1, 1, 0, 0, 1, 0] [] M7 ⟨tsOf [(2, (.ptr 0 [] 0)), (3, (.ptr 1 [] 0)), (82, (.dat 3 (.int x0))), (83, (.dat 3 (.int x1)))], [(.box 30 (.dat 30 x2)), (.box 30 (.dat 30 x3))], 0⟩ = rec7 x0 x1 x2 x3) (x0 : Int) (x1 : Int) (x2 : Dt) (x3 : Dt) : e22 jn m [1, 1, 0, 1, 0, 1, 1, 1, 1, 1, 1, 1, 0, 0, 1, 0, 0, 1, 1, 1] [M7] ⟨tsOf [(2, (.ptr 0 [] 0)), (3, (.ptr 1 [] 0)), (82, (.dat 3 (.int x0))), (83, (.dat 3 (.int x1)))], [(.box 30 (.dat 30 x2)), (.box 30 (.dat 30 x3))], 0⟩ = value_Compare_j10 m (value_Compare m) rec7 x0 x1 x2 x3 := by
  have h : ∀ J, e22 J m [1, 1, 0, 1, 0, 1, 1, 1, 1, 1, 1, 1, 0, 0, 1, 0, 0, 1, 1, 1] [M7] ⟨tsOf [(2, (.ptr 0 [] 0)), (3, (.ptr 1 [] 0)), (82, (.dat 3 (.int x0))), (83, (.dat 3 (.int x1)))], [(.box 30 (.dat 30 x2)), (.box 30 (.dat 30 x3))], 0⟩ =
    (J 1 23 M7 ⟨tsOf [(2, (.ptr 0 [] 0)), (3, (.ptr 1 [] 0)), (82, (.dat 3 (.int x0))), (83, (.dat 3 (.int (IntKind.wrap IntKind.i64 (x1 + (1 : Int))))))], [(.box 30 (.dat 30 x2)), (.box 30 (.dat 30 x3))], 0⟩ (l22 J m [1, 1, 0, 1, 0, 1, 1, 1, 1, 1, 1, 1, 0, 0, 1, 0] [] M7 ⟨tsOf [(2, (.ptr 0 [] 0)), (3, (.ptr 1 [] 0)), (82, (.dat 3 (.int x0))), (83, (.dat 3 (.int (IntKind.wrap IntKind.i64 (x1 + (1 : Int))))))], [(.box 30 (.dat 30 x2)), (.box 30 (.dat 30 x3))], 0⟩)) := fun J => by kernel_rfl
  exact (h jn).trans (by
    simp only [jn_eq, h7]
    rfl)
theorem value_Compare_j9_eq (m : Nat) (M7 : Nat) (rec7 : Int → Int → Dt → Dt → Option (Int)) (h7 : ∀ (x0 : Int) (x1 : Int) (x2 : Dt) (x3 : Dt), l22 jn m [1, 1, 0, 1, 0, 1, 1, 1, 1, 1, 1, 1, 0, 0, 1, 0] [] M7 ⟨tsOf [(2, (.ptr 0 [] 0)), (3, (.ptr 1 [] 0)), (82, (.dat 3 (.int x0))), (83, (.dat 3 (.int x1)))], [(.box 30 (.dat 30 x2)), (.box 30 (.dat 30 x3))], 0⟩ = rec7 x0 x1 x2 x3) (x0 : Int) (x1 : Int) (x2 : Int) (x3 : Dt) (x4 : Dt) : e22 jn m [1, 1, 0, 1, 0, 1, 1, 1, 1, 1, 1, 1, 0, 0, 1, 0, 0, 1, 1, 0, 0, 1, 1] [M7] ⟨tsOf [(2, (.ptr 0 [] 0)), (3, (.ptr 1 [] 0)), (7, (.dat 3 (.int x0))), (82, (.dat 3 (.int x1))), (83, (.dat 3 (.int x2)))], [(.box 30 (.dat 30 x3)), (.box 30 (.dat 30 x4))], 0⟩ = value_Compare_j9 m (value_Compare m) rec7 x0 x1 x2 x3 x4 := by
  have h : ∀ J, e22 J m [1, 1, 0, 1, 0, 1, 1, 1, 1, 1, 1, 1, 0, 0, 1, 0, 0, 1, 1, 0, 0, 1, 1] [M7] ⟨tsOf [(2, (.ptr 0 [] 0)), (3, (.ptr 1 [] 0)), (7, (.dat 3 (.int x0))), (82, (.dat 3 (.int x1))), (83, (.dat 3 (.int x2)))], [(.box 30 (.dat 30 x3)), (.box 30 (.dat 30 x4))], 0⟩ =
    ((idx (Dt.L x3 4) x0).bind fun v10 =>
      ((idx (Dt.L x4 4) x0).bind fun v11 =>
        ((value_Compare m (Dt.fld v10 1) (Dt.fld v11 1)).bind fun r12 =>
          (bif (r12 != (0 : Int)) then
            some r12
          else
            (J 0 31 0 ⟨tsOf [(2, (.ptr 0 [] 0)), (3, (.ptr 1 [] 0)), (82, (.dat 3 (.int x1))), (83, (.dat 3 (.int x2)))], [(.box 30 (.dat 30 x3)), (.box 30 (.dat 30 x4))], 0⟩ (e22 J m [1, 1, 0, 1, 0, 1, 1, 1, 1, 1, 1, 1, 0, 0, 1, 0, 0, 1, 1, 1] [M7] ⟨tsOf [(2, (.ptr 0 [] 0)), (3, (.ptr 1 [] 0)), (82, (.dat 3 (.int x1))), (83, (.dat 3 (.int x2)))], [(.box 30 (.dat 30 x3)), (.box 30 (.dat 30 x4))], 0⟩)))))) := fun J => by kernel_rfl
  exact (h jn).trans (by
    simp only [jn_eq, value_Compare_j10_eq m M7 rec7 h7]
    rfl)
theorem value_Compare_j8_eq (m : Nat) (M7 : Nat) (rec7 : Int → Int → Dt → Dt → Option (Int)) (h7 : ∀ (x0 : Int) (x1 : Int) (x2 : Dt) (x3 : Dt), l22 jn m [1, 1, 0, 1, 0, 1, 1, 1, 1, 1, 1, 1, 0, 0, 1, 0] [] M7 ⟨tsOf [(2, (.ptr 0 [] 0)), (3, (.ptr 1 [] 0)), (82, (.dat 3 (.int x0))), (83, (.dat 3 (.int x1)))], [(.box 30 (.dat 30 x2)), (.box 30 (.dat 30 x3))], 0⟩ = rec7 x0 x1 x2 x3) (x0 : Int) (x1 : Int) (x2 : Dt) (x3 : Dt) : e22 jn m [1, 1, 0, 1, 0, 1, 1, 1, 1, 1, 1, 1, 0, 0, 1, 0, 0, 1, 1] [M7] ⟨tsOf [(2, (.ptr 0 [] 0)), (3, (.ptr 1 [] 0)), (82, (.dat 3 (.int x0))), (83, (.dat 3 (.int x1)))], [(.box 30 (.dat 30 x2)), (.box 30 (.dat 30 x3))], 0⟩ = value_Compare_j8 m (value_Compare m) rec7 x0 x1 x2 x3 := by
  have h : ∀ J, e22 J m [1, 1, 0, 1, 0, 1, 1, 1, 1, 1, 1, 1, 0, 0, 1, 0, 0, 1, 1] [M7] ⟨tsOf [(2, (.ptr 0 [] 0)), (3, (.ptr 1 [] 0)), (82, (.dat 3 (.int x0))), (83, (.dat 3 (.int x1)))], [(.box 30 (.dat 30 x2)), (.box 30 (.dat 30 x3))], 0⟩ =
    ((idx (Dt.L x2 4) x1).bind fun v7 =>
      ((idx (Dt.L x3 4) x1).bind fun v8 =>
        ((strings_Compare (Dt.S v7 0) (Dt.S v8 0)).bind fun r9 =>
          (bif (r9 != (0 : Int)) then
            some r9
          else
            (J 0 28 0 ⟨tsOf [(2, (.ptr 0 [] 0)), (3, (.ptr 1 [] 0)), (7, (.dat 3 (.int x1))), (82, (.dat 3 (.int x0))), (83, (.dat 3 (.int x1)))], [(.box 30 (.dat 30 x2)), (.box 30 (.dat 30 x3))], 0⟩ (e22 J m [1, 1, 0, 1, 0, 1, 1, 1, 1, 1, 1, 1, 0, 0, 1, 0, 0, 1, 1, 0, 0, 1, 1] [M7] ⟨tsOf [(2, (.ptr 0 [] 0)), (3, (.ptr 1 [] 0)), (7, (.dat 3 (.int x1))), (82, (.dat 3 (.int x0))), (83, (.dat 3 (.int x1)))], [(.box 30 (.dat 30 x2)), (.box 30 (.dat 30 x3))], 0⟩)))))) := fun J => by kernel_rfl
  exact (h jn).trans (by
    simp only [jn_eq, value_Compare_j9_eq m M7 rec7 h7]
    rfl)
theorem value_Compare_j11_eq (m : Nat) (x0 : Dt) (x1 : Dt) : e22 jn m [1, 1, 0, 1, 0, 1, 1, 1, 1, 1, 1, 1, 0, 1] [] ⟨tsOf [(2, (.ptr 0 [] 0)), (3, (.ptr 1 [] 0))], [(.box 30 (.dat 30 x0)), (.box 30 (.dat 30 x1))], 0⟩ = value_Compare_j11 m (value_Compare m) x0 x1 := by
  have h : ∀ J, e22 J m [1, 1, 0, 1, 0, 1, 1, 1, 1, 1, 1, 1, 0, 1] [] ⟨tsOf [(2, (.ptr 0 [] 0)), (3, (.ptr 1 [] 0))], [(.box 30 (.dat 30 x0)), (.box 30 (.dat 30 x1))], 0⟩ =
    ((cmp_Compare m (((List.length (Dt.L x0 4)) : Nat) : Int) (((List.length (Dt.L x1 4)) : Nat) : Int)).bind fun r13 =>
      some r13) := fun J => by kernel_rfl
  exact (h jn).trans (rfl)
theorem value_Compare_l7_eq (m : Nat) : ∀ (M7 : Nat) (x0 : Int) (x1 : Int) (x2 : Dt) (x3 : Dt), l22 jn m [1, 1, 0, 1, 0, 1, 1, 1, 1, 1, 1, 1, 0, 0, 1, 0] [] M7 ⟨tsOf [(2, (.ptr 0 [] 0)), (3, (.ptr 1 [] 0)), (82, (.dat 3 (.int x0))), (83, (.dat 3 (.int x1)))], [(.box 30 (.dat 30 x2)), (.box 30 (.dat 30 x3))], 0⟩ = value_Compare_l7 m (value_Compare m) M7 x0 x1 x2 x3
  | 0, _, _, _, _ => rfl
  | M7 + 1, x0, x1, x2, x3 => by
    have h : ∀ J, l22 J m [1, 1, 0, 1, 0, 1, 1, 1, 1, 1, 1, 1, 0, 0, 1, 0] [] (M7 + 1) ⟨tsOf [(2, (.ptr 0 [] 0)), (3, (.ptr 1 [] 0)), (82, (.dat 3 (.int x0))), (83, (.dat 3 (.int x1)))], [(.box 30 (.dat 30 x2)), (.box 30 (.dat 30 x3))], 0⟩ =
    (bif (decide (x1 < x0)) then
      (J 0 24 0 ⟨tsOf [(2, (.ptr 0 [] 0)), (3, (.ptr 1 [] 0)), (82, (.dat 3 (.int x0))), (83, (.dat 3 (.int x1)))], [(.box 30 (.dat 30 x2)), (.box 30 (.dat 30 x3))], 0⟩ (e22 J m [1, 1, 0, 1, 0, 1, 1, 1, 1, 1, 1, 1, 0, 0, 1, 0, 0, 1, 1] [M7] ⟨tsOf [(2, (.ptr 0 [] 0)), (3, (.ptr 1 [] 0)), (82, (.dat 3 (.int x0))), (83, (.dat 3 (.int x1)))], [(.box 30 (.dat 30 x2)), (.box 30 (.dat 30 x3))], 0⟩))
    else
      (J 0 32 0 ⟨tsOf [(2, (.ptr 0 [] 0)), (3, (.ptr 1 [] 0))], [(.box 30 (.dat 30 x2)), (.box 30 (.dat 30 x3))], 0⟩ (e22 J m [1, 1, 0, 1, 0, 1, 1, 1, 1, 1, 1, 1, 0, 1] [] ⟨tsOf [(2, (.ptr 0 [] 0)), (3, (.ptr 1 [] 0))], [(.box 30 (.dat 30 x2)), (.box 30 (.dat 30 x3))], 0⟩))) := fun J => by kernel_rfl
    refine (h jn).trans ?_
    simp only [jn_eq, value_Compare_j8_eq m M7 (value_Compare_l7 m (value_Compare m) M7) (fun x0 x1 x2 x3 => value_Compare_l7_eq m M7 x0 x1 x2 x3), value_Compare_j11_eq m]
    rfl
theorem value_Compare_j6_eq (m : Nat) (x0 : Int) (x1 : Int) (x2 : Dt) (x3 : Dt) : e22 jn m [1, 1, 0, 1, 0, 1, 1, 1, 1, 1, 1, 1, 0, 0, 1] [] ⟨tsOf [(2, (.ptr 0 [] 0)), (3, (.ptr 1 [] 0)), (82, (.dat 3 (.int x0))), (83, (.dat 3 (.int x1)))], [(.box 30 (.dat 30 x2)), (.box 30 (.dat 30 x3))], 0⟩ = value_Compare_j6 m (value_Compare m) x0 x1 x2 x3 := by
  have h : ∀ J, e22 J m [1, 1, 0, 1, 0, 1, 1, 1, 1, 1, 1, 1, 0, 0, 1] [] ⟨tsOf [(2, (.ptr 0 [] 0)), (3, (.ptr 1 [] 0)), (82, (.dat 3 (.int x0))), (83, (.dat 3 (.int x1)))], [(.box 30 (.dat 30 x2)), (.box 30 (.dat 30 x3))], 0⟩ =
    (J 1 23 (Nat.succ m) ⟨tsOf [(2, (.ptr 0 [] 0)), (3, (.ptr 1 [] 0)), (82, (.dat 3 (.int x0))), (83, (.dat 3 (.int x1)))], [(.box 30 (.dat 30 x2)), (.box 30 (.dat 30 x3))], 0⟩ (l22 J m [1, 1, 0, 1, 0, 1, 1, 1, 1, 1, 1, 1, 0, 0, 1, 0] [] (Nat.succ m) ⟨tsOf [(2, (.ptr 0 [] 0)), (3, (.ptr 1 [] 0)), (82, (.dat 3 (.int x0))), (83, (.dat 3 (.int x1)))], [(.box 30 (.dat 30 x2)), (.box 30 (.dat 30 x3))], 0⟩)) := fun J => by kernel_rfl
  exact (h jn).trans (by
    simp only [jn_eq, value_Compare_l7_eq m]
    rfl)
theorem value_Compare_j12_eq (m : Nat) : e22 jn m [1, 1, 1] [] ⟨tsOf [], [], 0⟩ = value_Compare_j12 m (value_Compare m) := by
  have h : ∀ J, e22 J m [1, 1, 1] [] ⟨tsOf [], [], 0⟩ =
    some (0 : Int) := fun J => by kernel_rfl
  exact (h jn).trans (rfl)
theorem value_Compare_j0_eq (m : Nat) (x0 : Dt) (x1 : Dt) : e22 jn m [1, 1] [] ⟨tsOf [(2, (.ptr 0 [] 0)), (3, (.ptr 1 [] 0))], [(.box 30 (.dat 30 x0)), (.box 30 (.dat 30 x1))], 0⟩ = value_Compare_j0 m (value_Compare m) x0 x1 := by
  have h : ∀ J, e22 J m [1, 1] [] ⟨tsOf [(2, (.ptr 0 [] 0)), (3, (.ptr 1 [] 0))], [(.box 30 (.dat 30 x0)), (.box 30 (.dat 30 x1))], 0⟩ =
    (bif ((Dt.I x0 0) == (3 : Int)) then
      (bif ((Dt.I x0 0) == (3 : Int)) then
        ((cmp_Compare m (Dt.I x0 1) (Dt.I x1 1)).bind fun r1 =>
          some r1)
      else
        (bif ((Dt.I x0 0) == (4 : Int)) then
          (bif ((Dt.I x0 0) == (4 : Int)) then
            ((strings_Compare (Dt.S x0 2) (Dt.S x1 2)).bind fun r2 =>
              some r2)
          else
            (bif ((Dt.I x0 0) == (6 : Int)) then
              (J 0 14 0 ⟨tsOf [(2, (.ptr 0 [] 0)), (3, (.ptr 1 [] 0)), (48, (.dat 3 (.int (bif (decide ((((List.length (Dt.L x1 3)) : Nat) : Int) < (((List.length (Dt.L x0 3)) : Nat) : Int))) then (((List.length (Dt.L x1 3)) : Nat) : Int) else (((List.length (Dt.L x0 3)) : Nat) : Int))))), (49, (.dat 3 (.int (0 : Int))))], [(.box 30 (.dat 30 x0)), (.box 30 (.dat 30 x1))], 0⟩ (e22 J m [1, 1, 0, 1, 0, 1, 1, 1, 1, 1, 0, 0, 1] [] ⟨tsOf [(2, (.ptr 0 [] 0)), (3, (.ptr 1 [] 0)), (48, (.dat 3 (.int (bif (decide ((((List.length (Dt.L x1 3)) : Nat) : Int) < (((List.length (Dt.L x0 3)) : Nat) : Int))) then (((List.length (Dt.L x1 3)) : Nat) : Int) else (((List.length (Dt.L x0 3)) : Nat) : Int))))), (49, (.dat 3 (.int (0 : Int))))], [(.box 30 (.dat 30 x0)), (.box 30 (.dat 30 x1))], 0⟩))
            else
              (bif ((Dt.I x0 0) == (5 : Int)) then
                (J 0 23 0 ⟨tsOf [(2, (.ptr 0 [] 0)), (3, (.ptr 1 [] 0)), (82, (.dat 3 (.int (bif (decide ((((List.length (Dt.L x1 4)) : Nat) : Int) < (((List.length (Dt.L x0 4)) : Nat) : Int))) then (((List.length (Dt.L x1 4)) : Nat) : Int) else (((List.length (Dt.L x0 4)) : Nat) : Int))))), (83, (.dat 3 (.int (0 : Int))))], [(.box 30 (.dat 30 x0)), (.box 30 (.dat 30 x1))], 0⟩ (e22 J m [1, 1, 0, 1, 0, 1, 1, 1, 1, 1, 1, 1, 0, 0, 1] [] ⟨tsOf [(2, (.ptr 0 [] 0)), (3, (.ptr 1 [] 0)), (82, (.dat 3 (.int (bif (decide ((((List.length (Dt.L x1 4)) : Nat) : Int) < (((List.length (Dt.L x0 4)) : Nat) : Int))) then (((List.length (Dt.L x1 4)) : Nat) : Int) else (((List.length (Dt.L x0 4)) : Nat) : Int))))), (83, (.dat 3 (.int (0 : Int))))], [(.box 30 (.dat 30 x0)), (.box 30 (.dat 30 x1))], 0⟩))
              else
                (J 0 33 0 ⟨tsOf [], [], 0⟩ (e22 J m [1, 1, 1] [] ⟨tsOf [], [], 0⟩)))))
        else
          (bif ((Dt.I x0 0) == (7 : Int)) then
            (bif ((Dt.I x0 0) == (7 : Int)) then
              ((strings_Compare (Dt.S x0 2) (Dt.S x1 2)).bind fun r14 =>
                some r14)
            else
              (bif ((Dt.I x0 0) == (6 : Int)) then
                (J 0 14 0 ⟨tsOf [(2, (.ptr 0 [] 0)), (3, (.ptr 1 [] 0)), (48, (.dat 3 (.int (bif (decide ((((List.length (Dt.L x1 3)) : Nat) : Int) < (((List.length (Dt.L x0 3)) : Nat) : Int))) then (((List.length (Dt.L x1 3)) : Nat) : Int) else (((List.length (Dt.L x0 3)) : Nat) : Int))))), (49, (.dat 3 (.int (0 : Int))))], [(.box 30 (.dat 30 x0)), (.box 30 (.dat 30 x1))], 0⟩ (e22 J m [1, 1, 0, 1, 0, 1, 1, 1, 1, 1, 0, 0, 1] [] ⟨tsOf [(2, (.ptr 0 [] 0)), (3, (.ptr 1 [] 0)), (48, (.dat 3 (.int (bif (decide ((((List.length (Dt.L x1 3)) : Nat) : Int) < (((List.length (Dt.L x0 3)) : Nat) : Int))) then (((List.length (Dt.L x1 3)) : Nat) : Int) else (((List.length (Dt.L x0 3)) : Nat) : Int))))), (49, (.dat 3 (.int (0 : Int))))], [(.box 30 (.dat 30 x0)), (.box 30 (.dat 30 x1))], 0⟩))
              else
                (bif ((Dt.I x0 0) == (5 : Int)) then
                  (J 0 23 0 ⟨tsOf [(2, (.ptr 0 [] 0)), (3, (.ptr 1 [] 0)), (82, (.dat 3 (.int (bif (decide ((((List.length (Dt.L x1 4)) : Nat) : Int) < (((List.length (Dt.L x0 4)) : Nat) : Int))) then (((List.length (Dt.L x1 4)) : Nat) : Int) else (((List.length (Dt.L x0 4)) : Nat) : Int))))), (83, (.dat 3 (.int (0 : Int))))], [(.box 30 (.dat 30 x0)), (.box 30 (.dat 30 x1))], 0⟩ (e22 J m [1, 1, 0, 1, 0, 1, 1, 1, 1, 1, 1, 1, 0, 0, 1] [] ⟨tsOf [(2, (.ptr 0 [] 0)), (3, (.ptr 1 [] 0)), (82, (.dat 3 (.int (bif (decide ((((List.length (Dt.L x1 4)) : Nat) : Int) < (((List.length (Dt.L x0 4)) : Nat) : Int))) then (((List.length (Dt.L x1 4)) : Nat) : Int) else (((List.length (Dt.L x0 4)) : Nat) : Int))))), (83, (.dat 3 (.int (0 : Int))))], [(.box 30 (.dat 30 x0)), (.box 30 (.dat 30 x1))], 0⟩))
                else
                  (J 0 33 0 ⟨tsOf [], [], 0⟩ (e22 J m [1, 1, 1] [] ⟨tsOf [], [], 0⟩)))))
          else
            (bif ((Dt.I x0 0) == (8 : Int)) then
              ((strings_Compare (Dt.S x0 2) (Dt.S x1 2)).bind fun r15 =>
                some r15)
            else
              (bif ((Dt.I x0 0) == (6 : Int)) then
                (J 0 14 0 ⟨tsOf [(2, (.ptr 0 [] 0)), (3, (.ptr 1 [] 0)), (48, (.dat 3 (.int (bif (decide ((((List.length (Dt.L x1 3)) : Nat) : Int) < (((List.length (Dt.L x0 3)) : Nat) : Int))) then (((List.length (Dt.L x1 3)) : Nat) : Int) else (((List.length (Dt.L x0 3)) : Nat) : Int))))), (49, (.dat 3 (.int (0 : Int))))], [(.box 30 (.dat 30 x0)), (.box 30 (.dat 30 x1))], 0⟩ (e22 J m [1, 1, 0, 1, 0, 1, 1, 1, 1, 1, 0, 0, 1] [] ⟨tsOf [(2, (.ptr 0 [] 0)), (3, (.ptr 1 [] 0)), (48, (.dat 3 (.int (bif (decide ((((List.length (Dt.L x1 3)) : Nat) : Int) < (((List.length (Dt.L x0 3)) : Nat) : Int))) then (((List.length (Dt.L x1 3)) : Nat) : Int) else (((List.length (Dt.L x0 3)) : Nat) : Int))))), (49, (.dat 3 (.int (0 : Int))))], [(.box 30 (.dat 30 x0)), (.box 30 (.dat 30 x1))], 0⟩))
              else
                (bif ((Dt.I x0 0) == (5 : Int)) then
                  (J 0 23 0 ⟨tsOf [(2, (.ptr 0 [] 0)), (3, (.ptr 1 [] 0)), (82, (.dat 3 (.int (bif (decide ((((List.length (Dt.L x1 4)) : Nat) : Int) < (((List.length (Dt.L x0 4)) : Nat) : Int))) then (((List.length (Dt.L x1 4)) : Nat) : Int) else (((List.length (Dt.L x0 4)) : Nat) : Int))))), (83, (.dat 3 (.int (0 : Int))))], [(.box 30 (.dat 30 x0)), (.box 30 (.dat 30 x1))], 0⟩ (e22 J m [1, 1, 0, 1, 0, 1, 1, 1, 1, 1, 1, 1, 0, 0, 1] [] ⟨tsOf [(2, (.ptr 0 [] 0)), (3, (.ptr 1 [] 0)), (82, (.dat 3 (.int (bif (decide ((((List.length (Dt.L x1 4)) : Nat) : Int) < (((List.length (Dt.L x0 4)) : Nat) : Int))) then (((List.length (Dt.L x1 4)) : Nat) : Int) else (((List.length (Dt.L x0 4)) : Nat) : Int))))), (83, (.dat 3 (.int (0 : Int))))], [(.box 30 (.dat 30 x0)), (.box 30 (.dat 30 x1))], 0⟩))
                else
                  (J 0 33 0 ⟨tsOf [], [], 0⟩ (e22 J m [1, 1, 1] [] ⟨tsOf [], [], 0⟩))))))))
    else
      (bif ((Dt.I x0 0) == (9 : Int)) then
        (bif ((Dt.I x0 0) == (9 : Int)) then
          ((cmp_Compare m (Dt.I x0 1) (Dt.I x1 1)).bind fun r16 =>
            some r16)
        else
          (bif ((Dt.I x0 0) == (4 : Int)) then
            (bif ((Dt.I x0 0) == (4 : Int)) then
              ((strings_Compare (Dt.S x0 2) (Dt.S x1 2)).bind fun r17 =>
                some r17)
            else
              (bif ((Dt.I x0 0) == (6 : Int)) then
                (J 0 14 0 ⟨tsOf [(2, (.ptr 0 [] 0)), (3, (.ptr 1 [] 0)), (48, (.dat 3 (.int (bif (decide ((((List.length (Dt.L x1 3)) : Nat) : Int) < (((List.length (Dt.L x0 3)) : Nat) : Int))) then (((List.length (Dt.L x1 3)) : Nat) : Int) else (((List.length (Dt.L x0 3)) : Nat) : Int))))), (49, (.dat 3 (.int (0 : Int))))], [(.box 30 (.dat 30 x0)), (.box 30 (.dat 30 x1))], 0⟩ (e22 J m [1, 1, 0, 1, 0, 1, 1, 1, 1, 1, 0, 0, 1] [] ⟨tsOf [(2, (.ptr 0 [] 0)), (3, (.ptr 1 [] 0)), (48, (.dat 3 (.int (bif (decide ((((List.length (Dt.L x1 3)) : Nat) : Int) < (((List.length (Dt.L x0 3)) : Nat) : Int))) then (((List.length (Dt.L x1 3)) : Nat) : Int) else (((List.length (Dt.L x0 3)) : Nat) : Int))))), (49, (.dat 3 (.int (0 : Int))))], [(.box 30 (.dat 30 x0)), (.box 30 (.dat 30 x1))], 0⟩))
              else
                (bif ((Dt.I x0 0) == (5 : Int)) then
                  (J 0 23 0 ⟨tsOf [(2, (.ptr 0 [] 0)), (3, (.ptr 1 [] 0)), (82, (.dat 3 (.int (bif (decide ((((List.length (Dt.L x1 4)) : Nat) : Int) < (((List.length (Dt.L x0 4)) : Nat) : Int))) then (((List.length (Dt.L x1 4)) : Nat) : Int) else (((List.length (Dt.L x0 4)) : Nat) : Int))))), (83, (.dat 3 (.int (0 : Int))))], [(.box 30 (.dat 30 x0)), (.box 30 (.dat 30 x1))], 0⟩ (e22 J m [1, 1, 0, 1, 0, 1, 1, 1, 1, 1, 1, 1, 0, 0, 1] [] ⟨tsOf [(2, (.ptr 0 [] 0)), (3, (.ptr 1 [] 0)), (82, (.dat 3 (.int (bif (decide ((((List.length (Dt.L x1 4)) : Nat) : Int) < (((List.length (Dt.L x0 4)) : Nat) : Int))) then (((List.length (Dt.L x1 4)) : Nat) : Int) else (((List.length (Dt.L x0 4)) : Nat) : Int))))), (83, (.dat 3 (.int (0 : Int))))], [(.box 30 (.dat 30 x0)), (.box 30 (.dat 30 x1))], 0⟩))
                else
                  (J 0 33 0 ⟨tsOf [], [], 0⟩ (e22 J m [1, 1, 1] [] ⟨tsOf [], [], 0⟩)))))
          else
            (bif ((Dt.I x0 0) == (7 : Int)) then
              (bif ((Dt.I x0 0) == (7 : Int)) then
                ((strings_Compare (Dt.S x0 2) (Dt.S x1 2)).bind fun r18 =>
                  some r18)
              else
                (bif ((Dt.I x0 0) == (6 : Int)) then
                  (J 0 14 0 ⟨tsOf [(2, (.ptr 0 [] 0)), (3, (.ptr 1 [] 0)), (48, (.dat 3 (.int (bif (decide ((((List.length (Dt.L x1 3)) : Nat) : Int) < (((List.length (Dt.L x0 3)) : Nat) : Int))) then (((List.length (Dt.L x1 3)) : Nat) : Int) else (((List.length (Dt.L x0 3)) : Nat) : Int))))), (49, (.dat 3 (.int (0 : Int))))], [(.box 30 (.dat 30 x0)), (.box 30 (.dat 30 x1))], 0⟩ (e22 J m [1, 1, 0, 1, 0, 1, 1, 1, 1, 1, 0, 0, 1] [] ⟨tsOf [(2, (.ptr 0 [] 0)), (3, (.ptr 1 [] 0)), (48, (.dat 3 (.int (bif (decide ((((List.length (Dt.L x1 3)) : Nat) : Int) < (((List.length (Dt.L x0 3)) : Nat) : Int))) then (((List.length (Dt.L x1 3)) : Nat) : Int) else (((List.length (Dt.L x0 3)) : Nat) : Int))))), (49, (.dat 3 (.int (0 : Int))))], [(.box 30 (.dat 30 x0)), (.box 30 (.dat 30 x1))], 0⟩))
                else
                  (bif ((Dt.I x0 0) == (5 : Int)) then
                    (J 0 23 0 ⟨tsOf [(2, (.ptr 0 [] 0)), (3, (.ptr 1 [] 0)), (82, (.dat 3 (.int (bif (decide ((((List.length (Dt.L x1 4)) : Nat) : Int) < (((List.length (Dt.L x0 4)) : Nat) : Int))) then (((List.length (Dt.L x1 4)) : Nat) : Int) else (((List.length (Dt.L x0 4)) : Nat) : Int))))), (83, (.dat 3 (.int (0 : Int))))], [(.box 30 (.dat 30 x0)), (.box 30 (.dat 30 x1))], 0⟩ (e22 J m [1, 1, 0, 1, 0, 1, 1, 1, 1, 1, 1, 1, 0, 0, 1] [] ⟨tsOf [(2, (.ptr 0 [] 0)), (3, (.ptr 1 [] 0)), (82, (.dat 3 (.int (bif (decide ((((List.length (Dt.L x1 4)) : Nat) : Int) < (((List.length (Dt.L x0 4)) : Nat) : Int))) then (((List.length (Dt.L x1 4)) : Nat) : Int) else (((List.length (Dt.L x0 4)) : Nat) : Int))))), (83, (.dat 3 (.int (0 : Int))))], [(.box 30 (.dat 30 x0)), (.box 30 (.dat 30 x1))], 0⟩))
                  else
                    (J 0 33 0 ⟨tsOf [], [], 0⟩ (e22 J m [1, 1, 1] [] ⟨tsOf [], [], 0⟩)))))
            else
              (bif ((Dt.I x0 0) == (8 : Int)) then
                ((strings_Compare (Dt.S x0 2) (Dt.S x1 2)).bind fun r19 =>
                  some r19)
              else
                (bif ((Dt.I x0 0) == (6 : Int)) then
                  (J 0 14 0 ⟨tsOf [(2, (.ptr 0 [] 0)), (3, (.ptr 1 [] 0)), (48, (.dat 3 (.int (bif (decide ((((List.length (Dt.L x1 3)) : Nat) : Int) < (((List.length (Dt.L x0 3)) : Nat) : Int))) then (((List.length (Dt.L x1 3)) : Nat) : Int) else (((List.length (Dt.L x0 3)) : Nat) : Int))))), (49, (.dat 3 (.int (0 : Int))))], [(.box 30 (.dat 30 x0)), (.box 30 (.dat 30 x1))], 0⟩ (e22 J m [1, 1, 0, 1, 0, 1, 1, 1, 1, 1, 0, 0, 1] [] ⟨tsOf [(2, (.ptr 0 [] 0)), (3, (.ptr 1 [] 0)), (48, (.dat 3 (.int (bif (decide ((((List.length (Dt.L x1 3)) : Nat) : Int) < (((List.length (Dt.L x0 3)) : Nat) : Int))) then (((List.length (Dt.L x1 3)) : Nat) : Int) else (((List.length (Dt.L x0 3)) : Nat) : Int))))), (49, (.dat 3 (.int (0 : Int))))], [(.box 30 (.dat 30 x0)), (.box 30 (.dat 30 x1))], 0⟩))
                else
                  (bif ((Dt.I x0 0) == (5 : Int)) then
                    (J 0 23 0 ⟨tsOf [(2, (.ptr 0 [] 0)), (3, (.ptr 1 [] 0)), (82, (.dat 3 (.int (bif (decide ((((List.length (Dt.L x1 4)) : Nat) : Int) < (((List.length (Dt.L x0 4)) : Nat) : Int))) then (((List.length (Dt.L x1 4)) : Nat) : Int) else (((List.length (Dt.L x0 4)) : Nat) : Int))))), (83, (.dat 3 (.int (0 : Int))))], [(.box 30 (.dat 30 x0)), (.box 30 (.dat 30 x1))], 0⟩ (e22 J m [1, 1, 0, 1, 0, 1, 1, 1, 1, 1, 1, 1, 0, 0, 1] [] ⟨tsOf [(2, (.ptr 0 [] 0)), (3, (.ptr 1 [] 0)), (82, (.dat 3 (.int (bif (decide ((((List.length (Dt.L x1 4)) : Nat) : Int) < (((List.length (Dt.L x0 4)) : Nat) : Int))) then (((List.length (Dt.L x1 4)) : Nat) : Int) else (((List.length (Dt.L x0 4)) : Nat) : Int))))), (83, (.dat 3 (.int (0 : Int))))], [(.box 30 (.dat 30 x0)), (.box 30 (.dat 30 x1))], 0⟩))
                  else
                    (J 0 33 0 ⟨tsOf [], [], 0⟩ (e22 J m [1, 1, 1] [] ⟨tsOf [], [], 0⟩))))))))
      else
        (bif ((Dt.I x0 0) == (10 : Int)) then
          ((cmp_Compare m (Dt.I x0 1) (Dt.I x1 1)).bind fun r20 =>
            some r20)
        else
          (bif ((Dt.I x0 0) == (4 : Int)) then
            (bif ((Dt.I x0 0) == (4 : Int)) then
              ((strings_Compare (Dt.S x0 2) (Dt.S x1 2)).bind fun r21 =>
                some r21)
            else
              (bif ((Dt.I x0 0) == (6 : Int)) then
                (J 0 14 0 ⟨tsOf [(2, (.ptr 0 [] 0)), (3, (.ptr 1 [] 0)), (48, (.dat 3 (.int (bif (decide ((((List.length (Dt.L x1 3)) : Nat) : Int) < (((List.length (Dt.L x0 3)) : Nat) : Int))) then (((List.length (Dt.L x1 3)) : Nat) : Int) else (((List.length (Dt.L x0 3)) : Nat) : Int))))), (49, (.dat 3 (.int (0 : Int))))], [(.box 30 (.dat 30 x0)), (.box 30 (.dat 30 x1))], 0⟩ (e22 J m [1, 1, 0, 1, 0, 1, 1, 1, 1, 1, 0, 0, 1] [] ⟨tsOf [(2, (.ptr 0 [] 0)), (3, (.ptr 1 [] 0)), (48, (.dat 3 (.int (bif (decide ((((List.length (Dt.L x1 3)) : Nat) : Int) < (((List.length (Dt.L x0 3)) : Nat) : Int))) then (((List.length (Dt.L x1 3)) : Nat) : Int) else (((List.length (Dt.L x0 3)) : Nat) : Int))))), (49, (.dat 3 (.int (0 : Int))))], [(.box 30 (.dat 30 x0)), (.box 30 (.dat 30 x1))], 0⟩))
              else
                (bif ((Dt.I x0 0) == (5 : Int)) then
                  (J 0 23 0 ⟨tsOf [(2, (.ptr 0 [] 0)), (3, (.ptr 1 [] 0)), (82, (.dat 3 (.int (bif (decide ((((List.length (Dt.L x1 4)) : Nat) : Int) < (((List.length (Dt.L x0 4)) : Nat) : Int))) then (((List.length (Dt.L x1 4)) : Nat) : Int) else (((List.length (Dt.L x0 4)) : Nat) : Int))))), (83, (.dat 3 (.int (0 : Int))))], [(.box 30 (.dat 30 x0)), (.box 30 (.dat 30 x1))], 0⟩ (e22 J m [1, 1, 0, 1, 0, 1, 1, 1, 1, 1, 1, 1, 0, 0, 1] [] ⟨tsOf [(2, (.ptr 0 [] 0)), (3, (.ptr 1 [] 0)), (82, (.dat 3 (.int (bif (decide ((((List.length (Dt.L x1 4)) : Nat) : Int) < (((List.length (Dt.L x0 4)) : Nat) : Int))) then (((List.length (Dt.L x1 4)) : Nat) : Int) else (((List.length (Dt.L x0 4)) : Nat) : Int))))), (83, (.dat 3 (.int (0 : Int))))], [(.box 30 (.dat 30 x0)), (.box 30 (.dat 30 x1))], 0⟩))
                else
                  (J 0 33 0 ⟨tsOf [], [], 0⟩ (e22 J m [1, 1, 1] [] ⟨tsOf [], [], 0⟩)))))
          else
            (bif ((Dt.I x0 0) == (7 : Int)) then
              (bif ((Dt.I x0 0) == (7 : Int)) then
                ((strings_Compare (Dt.S x0 2) (Dt.S x1 2)).bind fun r22 =>
                  some r22)
              else
                (bif ((Dt.I x0 0) == (6 : Int)) then
                  (J 0 14 0 ⟨tsOf [(2, (.ptr 0 [] 0)), (3, (.ptr 1 [] 0)), (48, (.dat 3 (.int (bif (decide ((((List.length (Dt.L x1 3)) : Nat) : Int) < (((List.length (Dt.L x0 3)) : Nat) : Int))) then (((List.length (Dt.L x1 3)) : Nat) : Int) else (((List.length (Dt.L x0 3)) : Nat) : Int))))), (49, (.dat 3 (.int (0 : Int))))], [(.box 30 (.dat 30 x0)), (.box 30 (.dat 30 x1))], 0⟩ (e22 J m [1, 1, 0, 1, 0, 1, 1, 1, 1, 1, 0, 0, 1] [] ⟨tsOf [(2, (.ptr 0 [] 0)), (3, (.ptr 1 [] 0)), (48, (.dat 3 (.int (bif (decide ((((List.length (Dt.L x1 3)) : Nat) : Int) < (((List.length (Dt.L x0 3)) : Nat) : Int))) then (((List.length (Dt.L x1 3)) : Nat) : Int) else (((List.length (Dt.L x0 3)) : Nat) : Int))))), (49, (.dat 3 (.int (0 : Int))))], [(.box 30 (.dat 30 x0)), (.box 30 (.dat 30 x1))], 0⟩))
                else
                  (bif ((Dt.I x0 0) == (5 : Int)) then
                    (J 0 23 0 ⟨tsOf [(2, (.ptr 0 [] 0)), (3, (.ptr 1 [] 0)), (82, (.dat 3 (.int (bif (decide ((((List.length (Dt.L x1 4)) : Nat) : Int) < (((List.length (Dt.L x0 4)) : Nat) : Int))) then (((List.length (Dt.L x1 4)) : Nat) : Int) else (((List.length (Dt.L x0 4)) : Nat) : Int))))), (83, (.dat 3 (.int (0 : Int))))], [(.box 30 (.dat 30 x0)), (.box 30 (.dat 30 x1))], 0⟩ (e22 J m [1, 1, 0, 1, 0, 1, 1, 1, 1, 1, 1, 1, 0, 0, 1] [] ⟨tsOf [(2, (.ptr 0 [] 0)), (3, (.ptr 1 [] 0)), (82, (.dat 3 (.int (bif (decide ((((List.length (Dt.L x1 4)) : Nat) : Int) < (((List.length (Dt.L x0 4)) : Nat) : Int))) then (((List.length (Dt.L x1 4)) : Nat) : Int) else (((List.length (Dt.L x0 4)) : Nat) : Int))))), (83, (.dat 3 (.int (0 : Int))))], [(.box 30 (.dat 30 x0)), (.box 30 (.dat 30 x1))], 0⟩))
                  else
                    (J 0 33 0 ⟨tsOf [], [], 0⟩ (e22 J m [1, 1, 1] [] ⟨tsOf [], [], 0⟩)))))
            else
              (bif ((Dt.I x0 0) == (8 : Int)) then
                ((strings_Compare (Dt.S x0 2) (Dt.S x1 2)).bind fun r23 =>
                  some r23)
              else
                (bif ((Dt.I x0 0) == (6 : Int)) then
                  (J 0 14 0 ⟨tsOf [(2, (.ptr 0 [] 0)), (3, (.ptr 1 [] 0)), (48, (.dat 3 (.int (bif (decide ((((List.length (Dt.L x1 3)) : Nat) : Int) < (((List.length (Dt.L x0 3)) : Nat) : Int))) then (((List.length (Dt.L x1 3)) : Nat) : Int) else (((List.length (Dt.L x0 3)) : Nat) : Int))))), (49, (.dat 3 (.int (0 : Int))))], [(.box 30 (.dat 30 x0)), (.box 30 (.dat 30 x1))], 0⟩ (e22 J m [1, 1, 0, 1, 0, 1, 1, 1, 1, 1, 0, 0, 1] [] ⟨tsOf [(2, (.ptr 0 [] 0)), (3, (.ptr 1 [] 0)), (48, (.dat 3 (.int (bif (decide ((((List.length (Dt.L x1 3)) : Nat) : Int) < (((List.length (Dt.L x0 3)) : Nat) : Int))) then (((List.length (Dt.L x1 3)) : Nat) : Int) else (((List.length (Dt.L x0 3)) : Nat) : Int))))), (49, (.dat 3 (.int (0 : Int))))], [(.box 30 (.dat 30 x0)), (.box 30 (.dat 30 x1))], 0⟩))
                else
                  (bif ((Dt.I x0 0) == (5 : Int)) then
                    (J 0 23 0 ⟨tsOf [(2, (.ptr 0 [] 0)), (3, (.ptr 1 [] 0)), (82, (.dat 3 (.int (bif (decide ((((List.length (Dt.L x1 4)) : Nat) : Int) < (((List.length (Dt.L x0 4)) : Nat) : Int))) then (((List.length (Dt.L x1 4)) : Nat) : Int) else (((List.length (Dt.L x0 4)) : Nat) : Int))))), (83, (.dat 3 (.int (0 : Int))))], [(.box 30 (.dat 30 x0)), (.box 30 (.dat 30 x1))], 0⟩ (e22 J m [1, 1, 0, 1, 0, 1, 1, 1, 1, 1, 1, 1, 0, 0, 1] [] ⟨tsOf [(2, (.ptr 0 [] 0)), (3, (.ptr 1 [] 0)), (82, (.dat 3 (.int (bif (decide ((((List.length (Dt.L x1 4)) : Nat) : Int) < (((List.length (Dt.L x0 4)) : Nat) : Int))) then (((List.length (Dt.L x1 4)) : Nat) : Int) else (((List.length (Dt.L x0 4)) : Nat) : Int))))), (83, (.dat 3 (.int (0 : Int))))], [(.box 30 (.dat 30 x0)), (.box 30 (.dat 30 x1))], 0⟩))
                  else
                    (J 0 33 0 ⟨tsOf [], [], 0⟩ (e22 J m [1, 1, 1] [] ⟨tsOf [], [], 0⟩)))))))))) := fun J => by kernel_rfl
  exact (h jn).trans (by
    simp only [jn_eq, value_Compare_j1_eq m, value_Compare_j6_eq m, value_Compare_j12_eq m]
    rfl)
theorem value_Compare_eq (m : Nat) (a0 : Dt) (a1 : Dt) : e22 jn m [] [] ⟨[(.dat 30 a0), (.dat 30 a1)], [], 0⟩ = value_Compare (m + 1) a0 a1 := by
  have h : ∀ J, e22 J m [] [] ⟨[(.dat 30 a0), (.dat 30 a1)], [], 0⟩ =
    (bif ((Dt.I a0 0) != (Dt.I a1 0)) then
      ((cmp_Compare m (Dt.I a0 0) (Dt.I a1 0)).bind fun r0 =>
        some r0)
    else
      (J 0 3 0 ⟨tsOf [(2, (.ptr 0 [] 0)), (3, (.ptr 1 [] 0))], [(.box 30 (.dat 30 a0)), (.box 30 (.dat 30 a1))], 0⟩ (e22 J m [1, 1] [] ⟨tsOf [(2, (.ptr 0 [] 0)), (3, (.ptr 1 [] 0))], [(.box 30 (.dat 30 a0)), (.box 30 (.dat 30 a1))], 0⟩))) := fun J => by kernel_rfl
  refine (h jn).trans ?_
  simp only [jn_eq, value_Compare_j0_eq m]
  rfl
noncomputable def d13 (q : Res) : Option (Dt) := match q with
  | (.dat T0 x0, []) => bif Nat.beq T0 30 then some x0 else none
  | _ => none
theorem d13_sim {b : Res} {r : Dt} (h : d13 b = some r) : Sim Tryd.prog b ((.dat 30 r), []) := by
  unfold d13 at h
  split at h
  · obtain ⟨hc, h2⟩ := bif_some h
    cases h2
    have e0 := beq_eq hc
    subst e0
    exact Sim.of (.of .same rfl rfl) .nil
  · cases h
noncomputable def e13 (J : Nat → Nat → Nat → St → Option (Dt) → Option (Dt)) (m : Nat) (p ms : List Nat) (σ : St) := evAt Tryd.prog env (ct m) J (m + 1) 37 79 Tryd.f37 d13 p ms σ
noncomputable def l13 (J : Nat → Nat → Nat → St → Option (Dt) → Option (Dt)) (m : Nat) (p ms : List Nat) (M : Nat) (σ : St) := loopAt Tryd.prog env (ct m) J (m + 1) 37 79 Tryd.f37 d13 p ms M σ
theorem order_key_j3_eq (m : Nat) (M1 : Nat) (rec1 : List Dt → Int → Int → Dt → Dt → List Dt → Option (Dt)) (h1 : ∀ (x0 : List Dt) (x1 : Int) (x2 : Int) (x3 : Dt) (x4 : Dt) (x5 : List Dt), l13 jn m [1, 1, 0, 1, 0] [] M1 ⟨tsOf [(2, (.ptr 0 [] 0)), (4, (.ptr 1 [] 0)), (5, (.row 2)), (15, (.dat 27 (.lst x0))), (16, (.dat 3 (.int x1))), (17, (.dat 3 (.int x2)))], [(.box 47 (.dat 47 x3)), (.box 30 (.dat 30 x4)), (.row 27 x5)], 0⟩ = rec1 x0 x1 x2 x3 x4 x5) (x0 : List Dt) (x1 : Int) (x2 : Int) (x3 : Dt) (x4 : Dt) (x5 : List Dt) : e13 jn m [1, 1, 0, 1, 0, 0, 1, 1, 1] [M1] ⟨tsOf [(2, (.ptr 0 [] 0)), (4, (.ptr 1 [] 0)), (5, (.row 2)), (15, (.dat 27 (.lst x0))), (16, (.dat 3 (.int x1))), (17, (.dat 3 (.int x2)))], [(.box 47 (.dat 47 x3)), (.box 30 (.dat 30 x4)), (.row 27 x5)], 0⟩ = order_key_j3 m rec1 x0 x1 x2 x3 x4 x5 := by
  have h : ∀ J, e13 J m [1, 1, 0, 1, 0, 0, 1, 1, 1] [M1] ⟨tsOf [(2, (.ptr 0 [] 0)), (4, (.ptr 1 [] 0)), (5, (.row 2)), (15, (.dat 27 (.lst x0))), (16, (.dat 3 (.int x1))), (17, (.dat 3 (.int x2)))], [(.box 47 (.dat 47 x3)), (.box 30 (.dat 30 x4)), (.row 27 x5)], 0⟩ =
    (J 1 3 M1 ⟨tsOf [(2, (.ptr 0 [] 0)), (4, (.ptr 1 [] 0)), (5, (.row 2)), (15, (.dat 27 (.lst x0))), (16, (.dat 3 (.int x1))), (17, (.dat 3 (.int (IntKind.wrap IntKind.i64 (x2 + (1 : Int))))))], [(.box 47 (.dat 47 x3)), (.box 30 (.dat 30 x4)), (.row 27 x5)], 0⟩ (l13 J m [1, 1, 0, 1, 0] [] M1 ⟨tsOf [(2, (.ptr 0 [] 0)), (4, (.ptr 1 [] 0)), (5, (.row 2)), (15, (.dat 27 (.lst x0))), (16, (.dat 3 (.int x1))), (17, (.dat 3 (.int (IntKind.wrap IntKind.i64 (x2 + (1 : Int))))))], [(.box 47 (.dat 47 x3)), (.box 30 (.dat 30 x4)), (.row 27 x5)], 0⟩)) := fun J => by kernel_rfl
  exact (h jn).trans (by
    simp only [jn_eq, h1]
    rfl)
theorem order_key_j2_eq (m : Nat) (M1 : Nat) (rec1 : List Dt → Int → Int → Dt → Dt → List Dt → Option (Dt)) (h1 : ∀ (x0 : List Dt) (x1 : Int) (x2 : Int) (x3 : Dt) (x4 : Dt) (x5 : List Dt), l13 jn m [1, 1, 0, 1, 0] [] M1 ⟨tsOf [(2, (.ptr 0 [] 0)), (4, (.ptr 1 [] 0)), (5, (.row 2)), (15, (.dat 27 (.lst x0))), (16, (.dat 3 (.int x1))), (17, (.dat 3 (.int x2)))], [(.box 47 (.dat 47 x3)), (.box 30 (.dat 30 x4)), (.row 27 x5)], 0⟩ = rec1 x0 x1 x2 x3 x4 x5) (x0 : List Dt) (x1 : Int) (x2 : Int) (x3 : Dt) (x4 : Dt) (x5 : List Dt) : e13 jn m [1, 1, 0, 1, 0, 0, 1, 1] [M1] ⟨tsOf [(2, (.ptr 0 [] 0)), (4, (.ptr 1 [] 0)), (5, (.row 2)), (15, (.dat 27 (.lst x0))), (16, (.dat 3 (.int x1))), (17, (.dat 3 (.int x2)))], [(.box 47 (.dat 47 x3)), (.box 30 (.dat 30 x4)), (.row 27 x5)], 0⟩ = order_key_j2 m rec1 x0 x1 x2 x3 x4 x5 := by
  have h : ∀ J, e13 J m [1, 1, 0, 1, 0, 0, 1, 1] [M1] ⟨tsOf [(2, (.ptr 0 [] 0)), (4, (.ptr 1 [] 0)), (5, (.row 2)), (15, (.dat 27 (.lst x0))), (16, (.dat 3 (.int x1))), (17, (.dat 3 (.int x2)))], [(.box 47 (.dat 47 x3)), (.box 30 (.dat 30 x4)), (.row 27 x5)], 0⟩ =
    ((idx x0 x2).bind fun v1 =>
      (bif ((Dt.I v1 0) == (0 : Int)) then
        ((app x5 [(Dt.agg [(Dt.int (2 : Int)), (Dt.int (0 : Int)), (Dt.str (ByteArray.mk (List.toArray []))), (Dt.lst []), (Dt.lst [])])]).bind fun v2 =>
          (J 0 10 0 ⟨tsOf [(2, (.ptr 0 [] 0)), (4, (.ptr 1 [] 0)), (5, (.row 2)), (15, (.dat 27 (.lst x0))), (16, (.dat 3 (.int x1))), (17, (.dat 3 (.int x2)))], [(.box 47 (.dat 47 x3)), (.box 30 (.dat 30 x4)), (.row 27 v2)], 0⟩ (e13 J m [1, 1, 0, 1, 0, 0, 1, 1, 1] [M1] ⟨tsOf [(2, (.ptr 0 [] 0)), (4, (.ptr 1 [] 0)), (5, (.row 2)), (15, (.dat 27 (.lst x0))), (16, (.dat 3 (.int x1))), (17, (.dat 3 (.int x2)))], [(.box 47 (.dat 47 x3)), (.box 30 (.dat 30 x4)), (.row 27 v2)], 0⟩)))
      else
        (bif ((Dt.I v1 0) == (6 : Int)) then
          (bif (decide ((0 : Int) < (((List.length (Dt.L v1 3)) : Nat) : Int))) then
            ((app x5 (Dt.L v1 3)).bind fun v3 =>
              (J 0 10 0 ⟨tsOf [(2, (.ptr 0 [] 0)), (4, (.ptr 1 [] 0)), (5, (.row 2)), (15, (.dat 27 (.lst x0))), (16, (.dat 3 (.int x1))), (17, (.dat 3 (.int x2)))], [(.box 47 (.dat 47 x3)), (.box 30 (.dat 30 x4)), (.row 27 v3)], 0⟩ (e13 J m [1, 1, 0, 1, 0, 0, 1, 1, 1] [M1] ⟨tsOf [(2, (.ptr 0 [] 0)), (4, (.ptr 1 [] 0)), (5, (.row 2)), (15, (.dat 27 (.lst x0))), (16, (.dat 3 (.int x1))), (17, (.dat 3 (.int x2)))], [(.box 47 (.dat 47 x3)), (.box 30 (.dat 30 x4)), (.row 27 v3)], 0⟩)))
          else
            ((app x5 [v1]).bind fun v4 =>
              (J 0 10 0 ⟨tsOf [(2, (.ptr 0 [] 0)), (4, (.ptr 1 [] 0)), (5, (.row 2)), (15, (.dat 27 (.lst x0))), (16, (.dat 3 (.int x1))), (17, (.dat 3 (.int x2)))], [(.box 47 (.dat 47 x3)), (.box 30 (.dat 30 x4)), (.row 27 v4)], 0⟩ (e13 J m [1, 1, 0, 1, 0, 0, 1, 1, 1] [M1] ⟨tsOf [(2, (.ptr 0 [] 0)), (4, (.ptr 1 [] 0)), (5, (.row 2)), (15, (.dat 27 (.lst x0))), (16, (.dat 3 (.int x1))), (17, (.dat 3 (.int x2)))], [(.box 47 (.dat 47 x3)), (.box 30 (.dat 30 x4)), (.row 27 v4)], 0⟩))))
        else
          ((app x5 [v1]).bind fun v5 =>
            (J 0 10 0 ⟨tsOf [(2, (.ptr 0 [] 0)), (4, (.ptr 1 [] 0)), (5, (.row 2)), (15, (.dat 27 (.lst x0))), (16, (.dat 3 (.int x1))), (17, (.dat 3 (.int x2)))], [(.box 47 (.dat 47 x3)), (.box 30 (.dat 30 x4)), (.row 27 v5)], 0⟩ (e13 J m [1, 1, 0, 1, 0, 0, 1, 1, 1] [M1] ⟨tsOf [(2, (.ptr 0 [] 0)), (4, (.ptr 1 [] 0)), (5, (.row 2)), (15, (.dat 27 (.lst x0))), (16, (.dat 3 (.int x1))), (17, (.dat 3 (.int x2)))], [(.box 47 (.dat 47 x3)), (.box 30 (.dat 30 x4)), (.row 27 v5)], 0⟩)))))) := fun J => by kernel_rfl
  exact (h jn).trans (by
    simp only [jn_eq, order_key_j3_eq m M1 rec1 h1]
    rfl)
theorem order_key_j8_eq (m : Nat) (M6 : Nat) (rec6 : List Dt → Int → Int → Dt → Dt → Dt → Option (Dt)) (h6 : ∀ (x0 : List Dt) (x1 : Int) (x2 : Int) (x3 : Dt) (x4 : Dt) (x5 : Dt), l13 jn m [1, 1, 1, 1, 0, 1, 0] [] M6 ⟨tsOf [(2, (.ptr 0 [] 0)), (4, (.ptr 1 [] 0)), (8, (.ptr 2 [] 0)), (52, (.dat 27 (.lst x0))), (53, (.dat 3 (.int x1))), (54, (.dat 3 (.int x2)))], [(.box 47 (.dat 47 x3)), (.box 30 (.dat 30 x4)), (.box 30 (.dat 30 x5))], 0⟩ = rec6 x0 x1 x2 x3 x4 x5) (x0 : List Dt) (x1 : Int) (x2 : Int) (x3 : Dt) (x4 : Dt) (x5 : Dt) : e13 jn m [1, 1, 1, 1, 0, 1, 0, 0, 1, 1, 1] [M6] ⟨tsOf [(2, (.ptr 0 [] 0)), (4, (.ptr 1 [] 0)), (8, (.ptr 2 [] 0)), (52, (.dat 27 (.lst x0))), (53, (.dat 3 (.int x1))), (54, (.dat 3 (.int x2)))], [(.box 47 (.dat 47 x3)), (.box 30 (.dat 30 x4)), (.box 30 (.dat 30 x5))], 0⟩ = order_key_j8 m rec6 x0 x1 x2 x3 x4 x5 := by
  have h : ∀ J, e13 J m [1, 1, 1, 1, 0, 1, 0, 0, 1, 1, 1] [M6] ⟨tsOf [(2, (.ptr 0 [] 0)), (4, (.ptr 1 [] 0)), (8, (.ptr 2 [] 0)), (52, (.dat 27 (.lst x0))), (53, (.dat 3 (.int x1))), (54, (.dat 3 (.int x2)))], [(.box 47 (.dat 47 x3)), (.box 30 (.dat 30 x4)), (.box 30 (.dat 30 x5))], 0⟩ =
    (J 1 13 M6 ⟨tsOf [(2, (.ptr 0 [] 0)), (4, (.ptr 1 [] 0)), (8, (.ptr 2 [] 0)), (52, (.dat 27 (.lst x0))), (53, (.dat 3 (.int x1))), (54, (.dat 3 (.int (IntKind.wrap IntKind.i64 (x2 + (1 : Int))))))], [(.box 47 (.dat 47 x3)), (.box 30 (.dat 30 x4)), (.box 30 (.dat 30 x5))], 0⟩ (l13 J m [1, 1, 1, 1, 0, 1, 0] [] M6 ⟨tsOf [(2, (.ptr 0 [] 0)), (4, (.ptr 1 [] 0)), (8, (.ptr 2 [] 0)), (52, (.dat 27 (.lst x0))), (53, (.dat 3 (.int x1))), (54, (.dat 3 (.int (IntKind.wrap IntKind.i64 (x2 + (1 : Int))))))], [(.box 47 (.dat 47 x3)), (.box 30 (.dat 30 x4)), (.box 30 (.dat 30 x5))], 0⟩)) := fun J => by kernel_rfl
  exact (h jn).trans (by
    simp only [jn_eq, h6]
    rfl)
theorem order_key_j7_eq (m : Nat) (M6 : Nat) (rec6 : List Dt → Int → Int → Dt → Dt → Dt → Option (Dt)) (h6 : ∀ (x0 : List Dt) (x1 : Int) (x2 : Int) (x3 : Dt) (x4 : Dt) (x5 : Dt), l13 jn m [1, 1, 1, 1, 0, 1, 0] [] M6 ⟨tsOf [(2, (.ptr 0 [] 0)), (4, (.ptr 1 [] 0)), (8, (.ptr 2 [] 0)), (52, (.dat 27 (.lst x0))), (53, (.dat 3 (.int x1))), (54, (.dat 3 (.int x2)))], [(.box 47 (.dat 47 x3)), (.box 30 (.dat 30 x4)), (.box 30 (.dat 30 x5))], 0⟩ = rec6 x0 x1 x2 x3 x4 x5) (x0 : List Dt) (x1 : Int) (x2 : Int) (x3 : Dt) (x4 : Dt) (x5 : Dt) : e13 jn m [1, 1, 1, 1, 0, 1, 0, 0, 1, 1] [M6] ⟨tsOf [(2, (.ptr 0 [] 0)), (4, (.ptr 1 [] 0)), (8, (.ptr 2 [] 0)), (52, (.dat 27 (.lst x0))), (53, (.dat 3 (.int x1))), (54, (.dat 3 (.int x2)))], [(.box 47 (.dat 47 x3)), (.box 30 (.dat 30 x4)), (.box 30 (.dat 30 x5))], 0⟩ = order_key_j7 m rec6 x0 x1 x2 x3 x4 x5 := by
  have h : ∀ J, e13 J m [1, 1, 1, 1, 0, 1, 0, 0, 1, 1] [M6] ⟨tsOf [(2, (.ptr 0 [] 0)), (4, (.ptr 1 [] 0)), (8, (.ptr 2 [] 0)), (52, (.dat 27 (.lst x0))), (53, (.dat 3 (.int x1))), (54, (.dat 3 (.int x2)))], [(.box 47 (.dat 47 x3)), (.box 30 (.dat 30 x4)), (.box 30 (.dat 30 x5))], 0⟩ =
    ((idx x0 x2).bind fun v9 =>
      ((value_Compare m v9 x5).bind fun r10 =>
        (bif (decide (r10 < (0 : Int))) then
          (bif (Bool.not (Dt.B x3 1)) then
            (J 0 18 0 ⟨tsOf [(2, (.ptr 0 [] 0)), (4, (.ptr 1 [] 0)), (8, (.ptr 2 [] 0)), (52, (.dat 27 (.lst x0))), (53, (.dat 3 (.int x1))), (54, (.dat 3 (.int x2)))], [(.box 47 (.dat 47 x3)), (.box 30 (.dat 30 x4)), (.box 30 (.dat 30 v9))], 0⟩ (e13 J m [1, 1, 1, 1, 0, 1, 0, 0, 1, 1, 1] [M6] ⟨tsOf [(2, (.ptr 0 [] 0)), (4, (.ptr 1 [] 0)), (8, (.ptr 2 [] 0)), (52, (.dat 27 (.lst x0))), (53, (.dat 3 (.int x1))), (54, (.dat 3 (.int x2)))], [(.box 47 (.dat 47 x3)), (.box 30 (.dat 30 x4)), (.box 30 (.dat 30 v9))], 0⟩))
          else
            (bif (decide ((0 : Int) < r10)) then
              (bif (Dt.B x3 1) then
                (J 0 18 0 ⟨tsOf [(2, (.ptr 0 [] 0)), (4, (.ptr 1 [] 0)), (8, (.ptr 2 [] 0)), (52, (.dat 27 (.lst x0))), (53, (.dat 3 (.int x1))), (54, (.dat 3 (.int x2)))], [(.box 47 (.dat 47 x3)), (.box 30 (.dat 30 x4)), (.box 30 (.dat 30 v9))], 0⟩ (e13 J m [1, 1, 1, 1, 0, 1, 0, 0, 1, 1, 1] [M6] ⟨tsOf [(2, (.ptr 0 [] 0)), (4, (.ptr 1 [] 0)), (8, (.ptr 2 [] 0)), (52, (.dat 27 (.lst x0))), (53, (.dat 3 (.int x1))), (54, (.dat 3 (.int x2)))], [(.box 47 (.dat 47 x3)), (.box 30 (.dat 30 x4)), (.box 30 (.dat 30 v9))], 0⟩))
              else
                (J 0 18 0 ⟨tsOf [(2, (.ptr 0 [] 0)), (4, (.ptr 1 [] 0)), (8, (.ptr 2 [] 0)), (52, (.dat 27 (.lst x0))), (53, (.dat 3 (.int x1))), (54, (.dat 3 (.int x2)))], [(.box 47 (.dat 47 x3)), (.box 30 (.dat 30 x4)), (.box 30 (.dat 30 x5))], 0⟩ (e13 J m [1, 1, 1, 1, 0, 1, 0, 0, 1, 1, 1] [M6] ⟨tsOf [(2, (.ptr 0 [] 0)), (4, (.ptr 1 [] 0)), (8, (.ptr 2 [] 0)), (52, (.dat 27 (.lst x0))), (53, (.dat 3 (.int x1))), (54, (.dat 3 (.int x2)))], [(.box 47 (.dat 47 x3)), (.box 30 (.dat 30 x4)), (.box 30 (.dat 30 x5))], 0⟩)))
            else
              (J 0 18 0 ⟨tsOf [(2, (.ptr 0 [] 0)), (4, (.ptr 1 [] 0)), (8, (.ptr 2 [] 0)), (52, (.dat 27 (.lst x0))), (53, (.dat 3 (.int x1))), (54, (.dat 3 (.int x2)))], [(.box 47 (.dat 47 x3)), (.box 30 (.dat 30 x4)), (.box 30 (.dat 30 x5))], 0⟩ (e13 J m [1, 1, 1, 1, 0, 1, 0, 0, 1, 1, 1] [M6] ⟨tsOf [(2, (.ptr 0 [] 0)), (4, (.ptr 1 [] 0)), (8, (.ptr 2 [] 0)), (52, (.dat 27 (.lst x0))), (53, (.dat 3 (.int x1))), (54, (.dat 3 (.int x2)))], [(.box 47 (.dat 47 x3)), (.box 30 (.dat 30 x4)), (.box 30 (.dat 30 x5))], 0⟩))))
        else
          (bif (decide ((0 : Int) < r10)) then
            (bif (Dt.B x3 1) then
              (J 0 18 0 ⟨tsOf [(2, (.ptr 0 [] 0)), (4, (.ptr 1 [] 0)), (8, (.ptr 2 [] 0)), (52, (.dat 27 (.lst x0))), (53, (.dat 3 (.int x1))), (54, (.dat 3 (.int x2)))], [(.box 47 (.dat 47 x3)), (.box 30 (.dat 30 x4)), (.box 30 (.dat 30 v9))], 0⟩ (e13 J m [1, 1, 1, 1, 0, 1, 0, 0, 1, 1, 1] [M6] ⟨tsOf [(2, (.ptr 0 [] 0)), (4, (.ptr 1 [] 0)), (8, (.ptr 2 [] 0)), (52, (.dat 27 (.lst x0))), (53, (.dat 3 (.int x1))), (54, (.dat 3 (.int x2)))], [(.box 47 (.dat 47 x3)), (.box 30 (.dat 30 x4)), (.box 30 (.dat 30 v9))], 0⟩))
            else
              (J 0 18 0 ⟨tsOf [(2, (.ptr 0 [] 0)), (4, (.ptr 1 [] 0)), (8, (.ptr 2 [] 0)), (52, (.dat 27 (.lst x0))), (53, (.dat 3 (.int x1))), (54, (.dat 3 (.int x2)))], [(.box 47 (.dat 47 x3)), (.box 30 (.dat 30 x4)), (.box 30 (.dat 30 x5))], 0⟩ (e13 J m [1, 1, 1, 1, 0, 1, 0, 0, 1, 1, 1] [M6] ⟨tsOf [(2, (.ptr 0 [] 0)), (4, (.ptr 1 [] 0)), (8, (.ptr 2 [] 0)), (52, (.dat 27 (.lst x0))), (53, (.dat 3 (.int x1))), (54, (.dat 3 (.int x2)))], [(.box 47 (.dat 47 x3)), (.box 30 (.dat 30 x4)), (.box 30 (.dat 30 x5))], 0⟩)))
          else
            (J 0 18 0 ⟨tsOf [(2, (.ptr 0 [] 0)), (4, (.ptr 1 [] 0)), (8, (.ptr 2 [] 0)), (52, (.dat 27 (.lst x0))), (53, (.dat 3 (.int x1))), (54, (.dat 3 (.int x2)))], [(.box 47 (.dat 47 x3)), (.box 30 (.dat 30 x4)), (.box 30 (.dat 30 x5))], 0⟩ (e13 J m [1, 1, 1, 1, 0, 1, 0, 0, 1, 1, 1] [M6] ⟨tsOf [(2, (.ptr 0 [] 0)), (4, (.ptr 1 [] 0)), (8, (.ptr 2 [] 0)), (52, (.dat 27 (.lst x0))), (53, (.dat 3 (.int x1))), (54, (.dat 3 (.int x2)))], [(.box 47 (.dat 47 x3)), (.box 30 (.dat 30 x4)), (.box 30 (.dat 30 x5))], 0⟩)))))) := fun J => by kernel_rfl
  exact (h jn).trans (by
    simp only [jn_eq, order_key_j8_eq m M6 rec6 h6]
    rfl)
theorem order_key_j9_eq (m : Nat) (x0 : Dt) (x1 : Dt) : e13 jn m [1, 1, 1, 1, 1] [] ⟨tsOf [(4, (.ptr 0 [] 0)), (8, (.ptr 1 [] 0))], [(.box 30 (.dat 30 x0)), (.box 30 (.dat 30 x1))], 0⟩ = order_key_j9 m x0 x1 := by
  have h : ∀ J, e13 J m [1, 1, 1, 1, 1] [] ⟨tsOf [(4, (.ptr 0 [] 0)), (8, (.ptr 1 [] 0))], [(.box 30 (.dat 30 x0)), (.box 30 (.dat 30 x1))], 0⟩ =
    some x1 := fun J => by kernel_rfl
  exact (h jn).trans (rfl)
theorem order_key_l6_eq (m : Nat) : ∀ (M6 : Nat) (x0 : List Dt) (x1 : Int) (x2 : Int) (x3 : Dt) (x4 : Dt) (x5 : Dt), l13 jn m [1, 1, 1, 1, 0, 1, 0] [] M6 ⟨tsOf [(2, (.ptr 0 [] 0)), (4, (.ptr 1 [] 0)), (8, (.ptr 2 [] 0)), (52, (.dat 27 (.lst x0))), (53, (.dat 3 (.int x1))), (54, (.dat 3 (.int x2)))], [(.box 47 (.dat 47 x3)), (.box 30 (.dat 30 x4)), (.box 30 (.dat 30 x5))], 0⟩ = order_key_l6 m M6 x0 x1 x2 x3 x4 x5
  | 0, _, _, _, _, _, _ => rfl
  | M6 + 1, x0, x1, x2, x3, x4, x5 => by
    have h : ∀ J, l13 J m [1, 1, 1, 1, 0, 1, 0] [] (M6 + 1) ⟨tsOf [(2, (.ptr 0 [] 0)), (4, (.ptr 1 [] 0)), (8, (.ptr 2 [] 0)), (52, (.dat 27 (.lst x0))), (53, (.dat 3 (.int x1))), (54, (.dat 3 (.int x2)))], [(.box 47 (.dat 47 x3)), (.box 30 (.dat 30 x4)), (.box 30 (.dat 30 x5))], 0⟩ =
    (bif (decide (x2 < x1)) then
      (J 0 14 0 ⟨tsOf [(2, (.ptr 0 [] 0)), (4, (.ptr 1 [] 0)), (8, (.ptr 2 [] 0)), (52, (.dat 27 (.lst x0))), (53, (.dat 3 (.int x1))), (54, (.dat 3 (.int x2)))], [(.box 47 (.dat 47 x3)), (.box 30 (.dat 30 x4)), (.box 30 (.dat 30 x5))], 0⟩ (e13 J m [1, 1, 1, 1, 0, 1, 0, 0, 1, 1] [M6] ⟨tsOf [(2, (.ptr 0 [] 0)), (4, (.ptr 1 [] 0)), (8, (.ptr 2 [] 0)), (52, (.dat 27 (.lst x0))), (53, (.dat 3 (.int x1))), (54, (.dat 3 (.int x2)))], [(.box 47 (.dat 47 x3)), (.box 30 (.dat 30 x4)), (.box 30 (.dat 30 x5))], 0⟩))
    else
      (J 0 19 0 ⟨tsOf [(4, (.ptr 0 [] 0)), (8, (.ptr 1 [] 0))], [(.box 30 (.dat 30 x4)), (.box 30 (.dat 30 x5))], 0⟩ (e13 J m [1, 1, 1, 1, 1] [] ⟨tsOf [(4, (.ptr 0 [] 0)), (8, (.ptr 1 [] 0))], [(.box 30 (.dat 30 x4)), (.box 30 (.dat 30 x5))], 0⟩))) := fun J => by kernel_rfl
    refine (h jn).trans ?_
    simp only [jn_eq, order_key_j7_eq m M6 (order_key_l6 m M6) (fun x0 x1 x2 x3 x4 x5 => order_key_l6_eq m M6 x0 x1 x2 x3 x4 x5), order_key_j9_eq m]
    rfl
theorem order_key_j5_eq (m : Nat) (x0 : List Dt) (x1 : Int) (x2 : Int) (x3 : Dt) (x4 : Dt) (x5 : Dt) : e13 jn m [1, 1, 1, 1, 0, 1] [] ⟨tsOf [(2, (.ptr 0 [] 0)), (4, (.ptr 1 [] 0)), (8, (.ptr 2 [] 0)), (52, (.dat 27 (.lst x0))), (53, (.dat 3 (.int x1))), (54, (.dat 3 (.int x2)))], [(.box 47 (.dat 47 x3)), (.box 30 (.dat 30 x4)), (.box 30 (.dat 30 x5))], 0⟩ = order_key_j5 m x0 x1 x2 x3 x4 x5 := by
  have h : ∀ J, e13 J m [1, 1, 1, 1, 0, 1] [] ⟨tsOf [(2, (.ptr 0 [] 0)), (4, (.ptr 1 [] 0)), (8, (.ptr 2 [] 0)), (52, (.dat 27 (.lst x0))), (53, (.dat 3 (.int x1))), (54, (.dat 3 (.int x2)))], [(.box 47 (.dat 47 x3)), (.box 30 (.dat 30 x4)), (.box 30 (.dat 30 x5))], 0⟩ =
    (J 1 13 (Nat.succ m) ⟨tsOf [(2, (.ptr 0 [] 0)), (4, (.ptr 1 [] 0)), (8, (.ptr 2 [] 0)), (52, (.dat 27 (.lst x0))), (53, (.dat 3 (.int x1))), (54, (.dat 3 (.int x2)))], [(.box 47 (.dat 47 x3)), (.box 30 (.dat 30 x4)), (.box 30 (.dat 30 x5))], 0⟩ (l13 J m [1, 1, 1, 1, 0, 1, 0] [] (Nat.succ m) ⟨tsOf [(2, (.ptr 0 [] 0)), (4, (.ptr 1 [] 0)), (8, (.ptr 2 [] 0)), (52, (.dat 27 (.lst x0))), (53, (.dat 3 (.int x1))), (54, (.dat 3 (.int x2)))], [(.box 47 (.dat 47 x3)), (.box 30 (.dat 30 x4)), (.box 30 (.dat 30 x5))], 0⟩)) := fun J => by kernel_rfl
  exact (h jn).trans (by
    simp only [jn_eq, order_key_l6_eq m]
    rfl)
theorem order_key_j4_eq (m : Nat) (x0 : Dt) (x1 : Dt) (x2 : List Dt) : e13 jn m [1, 1, 1] [] ⟨tsOf [(2, (.ptr 0 [] 0)), (4, (.ptr 1 [] 0)), (5, (.row 2))], [(.box 47 (.dat 47 x0)), (.box 30 (.dat 30 x1)), (.row 27 x2)], 0⟩ = order_key_j4 m x0 x1 x2 := by
  have h : ∀ J, e13 J m [1, 1, 1] [] ⟨tsOf [(2, (.ptr 0 [] 0)), (4, (.ptr 1 [] 0)), (5, (.row 2))], [(.box 47 (.dat 47 x0)), (.box 30 (.dat 30 x1)), (.row 27 x2)], 0⟩ =
    ((inL x2 (0 : Int)).bind fun v6 =>
      ((x2[0]?).bind fun v7 =>
        ((cutL x2 (1 : Int) (((List.length x2) : Nat) : Int)).bind fun v8 =>
          (J 0 13 0 ⟨tsOf [(2, (.ptr 0 [] 0)), (4, (.ptr 1 [] 0)), (8, (.ptr 2 [] 0)), (52, (.dat 27 (.lst v8))), (53, (.dat 3 (.int (((List.length v8) : Nat) : Int)))), (54, (.dat 3 (.int (0 : Int))))], [(.box 47 (.dat 47 x0)), (.box 30 (.dat 30 x1)), (.box 30 (.dat 30 v7))], 0⟩ (e13 J m [1, 1, 1, 1, 0, 1] [] ⟨tsOf [(2, (.ptr 0 [] 0)), (4, (.ptr 1 [] 0)), (8, (.ptr 2 [] 0)), (52, (.dat 27 (.lst v8))), (53, (.dat 3 (.int (((List.length v8) : Nat) : Int)))), (54, (.dat 3 (.int (0 : Int))))], [(.box 47 (.dat 47 x0)), (.box 30 (.dat 30 x1)), (.box 30 (.dat 30 v7))], 0⟩))))) := fun J => by kernel_rfl
  exact (h jn).trans (by
    simp only [jn_eq, order_key_j5_eq m]
    rfl)
theorem order_key_l1_eq (m : Nat) : ∀ (M1 : Nat) (x0 : List Dt) (x1 : Int) (x2 : Int) (x3 : Dt) (x4 : Dt) (x5 : List Dt), l13 jn m [1, 1, 0, 1, 0] [] M1 ⟨tsOf [(2, (.ptr 0 [] 0)), (4, (.ptr 1 [] 0)), (5, (.row 2)), (15, (.dat 27 (.lst x0))), (16, (.dat 3 (.int x1))), (17, (.dat 3 (.int x2)))], [(.box 47 (.dat 47 x3)), (.box 30 (.dat 30 x4)), (.row 27 x5)], 0⟩ = order_key_l1 m M1 x0 x1 x2 x3 x4 x5
  | 0, _, _, _, _, _, _ => rfl
  | M1 + 1, x0, x1, x2, x3, x4, x5 => by
    have h : ∀ J, l13 J m [1, 1, 0, 1, 0] [] (M1 + 1) ⟨tsOf [(2, (.ptr 0 [] 0)), (4, (.ptr 1 [] 0)), (5, (.row 2)), (15, (.dat 27 (.lst x0))), (16, (.dat 3 (.int x1))), (17, (.dat 3 (.int x2)))], [(.box 47 (.dat 47 x3)), (.box 30 (.dat 30 x4)), (.row 27 x5)], 0⟩ =
    (bif (decide (x2 < x1)) then
      (J 0 4 0 ⟨tsOf [(2, (.ptr 0 [] 0)), (4, (.ptr 1 [] 0)), (5, (.row 2)), (15, (.dat 27 (.lst x0))), (16, (.dat 3 (.int x1))), (17, (.dat 3 (.int x2)))], [(.box 47 (.dat 47 x3)), (.box 30 (.dat 30 x4)), (.row 27 x5)], 0⟩ (e13 J m [1, 1, 0, 1, 0, 0, 1, 1] [M1] ⟨tsOf [(2, (.ptr 0 [] 0)), (4, (.ptr 1 [] 0)), (5, (.row 2)), (15, (.dat 27 (.lst x0))), (16, (.dat 3 (.int x1))), (17, (.dat 3 (.int x2)))], [(.box 47 (.dat 47 x3)), (.box 30 (.dat 30 x4)), (.row 27 x5)], 0⟩))
    else
      (J 0 11 0 ⟨tsOf [(2, (.ptr 0 [] 0)), (4, (.ptr 1 [] 0)), (5, (.row 2))], [(.box 47 (.dat 47 x3)), (.box 30 (.dat 30 x4)), (.row 27 x5)], 0⟩ (e13 J m [1, 1, 1] [] ⟨tsOf [(2, (.ptr 0 [] 0)), (4, (.ptr 1 [] 0)), (5, (.row 2))], [(.box 47 (.dat 47 x3)), (.box 30 (.dat 30 x4)), (.row 27 x5)], 0⟩))) := fun J => by kernel_rfl
    refine (h jn).trans ?_
    simp only [jn_eq, order_key_j2_eq m M1 (order_key_l1 m M1) (fun x0 x1 x2 x3 x4 x5 => order_key_l1_eq m M1 x0 x1 x2 x3 x4 x5), order_key_j4_eq m]
    rfl
theorem order_key_j0_eq (m : Nat) (x0 : List Dt) (x1 : Int) (x2 : Int) (x3 : Dt) (x4 : Dt) (x5 : List Dt) : e13 jn m [1, 1, 0, 1] [] ⟨tsOf [(2, (.ptr 0 [] 0)), (4, (.ptr 1 [] 0)), (5, (.row 2)), (15, (.dat 27 (.lst x0))), (16, (.dat 3 (.int x1))), (17, (.dat 3 (.int x2)))], [(.box 47 (.dat 47 x3)), (.box 30 (.dat 30 x4)), (.row 27 x5)], 0⟩ = order_key_j0 m x0 x1 x2 x3 x4 x5 := by
  have h : ∀ J, e13 J m [1, 1, 0, 1] [] ⟨tsOf [(2, (.ptr 0 [] 0)), (4, (.ptr 1 [] 0)), (5, (.row 2)), (15, (.dat 27 (.lst x0))), (16, (.dat 3 (.int x1))), (17, (.dat 3 (.int x2)))], [(.box 47 (.dat 47 x3)), (.box 30 (.dat 30 x4)), (.row 27 x5)], 0⟩ =
    (J 1 3 (Nat.succ m) ⟨tsOf [(2, (.ptr 0 [] 0)), (4, (.ptr 1 [] 0)), (5, (.row 2)), (15, (.dat 27 (.lst x0))), (16, (.dat 3 (.int x1))), (17, (.dat 3 (.int x2)))], [(.box 47 (.dat 47 x3)), (.box 30 (.dat 30 x4)), (.row 27 x5)], 0⟩ (l13 J m [1, 1, 0, 1, 0] [] (Nat.succ m) ⟨tsOf [(2, (.ptr 0 [] 0)), (4, (.ptr 1 [] 0)), (5, (.row 2)), (15, (.dat 27 (.lst x0))), (16, (.dat 3 (.int x1))), (17, (.dat 3 (.int x2)))], [(.box 47 (.dat 47 x3)), (.box 30 (.dat 30 x4)), (.row 27 x5)], 0⟩)) := fun J => by kernel_rfl
  exact (h jn).trans (by
    simp only [jn_eq, order_key_l1_eq m]
    rfl)
theorem order_key_eq (m : Nat) (a0 : Dt) (a1 : Dt) : e13 jn m [] [] ⟨[(.dat 47 a0), (.dat 30 a1)], [], 0⟩ = order_key (m + 1) a0 a1 := by
  have h : ∀ J, e13 J m [] [] ⟨[(.dat 47 a0), (.dat 30 a1)], [], 0⟩ =
    ((path_Reach m a1 (Dt.L a0 0)).bind fun r0 =>
      (J 0 3 0 ⟨tsOf [(2, (.ptr 0 [] 0)), (4, (.ptr 1 [] 0)), (5, (.row 2)), (15, (.dat 27 (.lst r0))), (16, (.dat 3 (.int (((List.length r0) : Nat) : Int)))), (17, (.dat 3 (.int (0 : Int))))], [(.box 47 (.dat 47 a0)), (.box 30 (.dat 30 (Dt.agg [(Dt.int (0 : Int)), (Dt.int (0 : Int)), (Dt.str (ByteArray.mk (List.toArray []))), (Dt.lst []), (Dt.lst [])]))), (.row 27 [])], 0⟩ (e13 J m [1, 1, 0, 1] [] ⟨tsOf [(2, (.ptr 0 [] 0)), (4, (.ptr 1 [] 0)), (5, (.row 2)), (15, (.dat 27 (.lst r0))), (16, (.dat 3 (.int (((List.length r0) : Nat) : Int)))), (17, (.dat 3 (.int (0 : Int))))], [(.box 47 (.dat 47 a0)), (.box 30 (.dat 30 (Dt.agg [(Dt.int (0 : Int)), (Dt.int (0 : Int)), (Dt.str (ByteArray.mk (List.toArray []))), (Dt.lst []), (Dt.lst [])]))), (.row 27 [])], 0⟩))) := fun J => by kernel_rfl
  refine (h jn).trans ?_
  simp only [jn_eq, order_key_j0_eq m]
  rfl
noncomputable def d5 (q : Res) : Option (List Dt) := match q with
  | (.dat T0 x0, []) => bif Nat.beq T0 27 then some x0.toLst else none
  | _ => none
theorem d5_sim {b : Res} {r : List Dt} (h : d5 b = some r) : Sim Tryd.prog b ((.dat 27 (.lst r)), []) := by
  unfold d5 at h
  split at h
  · obtain ⟨hc, h2⟩ := bif_some h
    cases h2
    have e0 := beq_eq hc
    subst e0
    exact Sim.of (.of (.dat (.lst Tryd.underlying27)) rfl rfl) .nil
  · cases h
noncomputable def e5 (J : Nat → Nat → Nat → St → Option (List Dt) → Option (List Dt)) (m : Nat) (p ms : List Nat) (σ : St) := evAt Tryd.prog env (ct m) J (m + 1) 18 22 Tryd.f18 d5 p ms σ
noncomputable def l5 (J : Nat → Nat → Nat → St → Option (List Dt) → Option (List Dt)) (m : Nat) (p ms : List Nat) (M : Nat) (σ : St) := loopAt Tryd.prog env (ct m) J (m + 1) 18 22 Tryd.f18 d5 p ms M σ
theorem order_Keys_j3_eq (m : Nat) (M1 : Nat) (rec1 : List Dt → Int → Int → Dt → List Dt → Option (List Dt)) (h1 : ∀ (x0 : List Dt) (x1 : Int) (x2 : Int) (x3 : Dt) (x4 : List Dt), l5 jn m [1, 1, 0, 1, 0] [] M1 ⟨tsOf [(3, (.ptr 0 [] 0)), (5, (.row 1)), (8, (.dat 22 (.lst x0))), (9, (.dat 3 (.int x1))), (10, (.dat 3 (.int x2)))], [(.box 30 (.dat 30 x3)), (.row 27 x4)], 0⟩ = rec1 x0 x1 x2 x3 x4) (x0 : List Dt) (x1 : Int) (x2 : Int) (x3 : Dt) (x4 : List Dt) : e5 jn m [1, 1, 0, 1, 0, 0, 1, 1, 1] [M1] ⟨tsOf [(3, (.ptr 0 [] 0)), (5, (.row 1)), (8, (.dat 22 (.lst x0))), (9, (.dat 3 (.int x1))), (10, (.dat 3 (.int x2)))], [(.box 30 (.dat 30 x3)), (.row 27 x4)], 0⟩ = order_Keys_j3 m rec1 x0 x1 x2 x3 x4 := by
  have h : ∀ J, e5 J m [1, 1, 0, 1, 0, 0, 1, 1, 1] [M1] ⟨tsOf [(3, (.ptr 0 [] 0)), (5, (.row 1)), (8, (.dat 22 (.lst x0))), (9, (.dat 3 (.int x1))), (10, (.dat 3 (.int x2)))], [(.box 30 (.dat 30 x3)), (.row 27 x4)], 0⟩ =
    (J 1 3 M1 ⟨tsOf [(3, (.ptr 0 [] 0)), (5, (.row 1)), (8, (.dat 22 (.lst x0))), (9, (.dat 3 (.int x1))), (10, (.dat 3 (.int (IntKind.wrap IntKind.i64 (x2 + (1 : Int))))))], [(.box 30 (.dat 30 x3)), (.row 27 x4)], 0⟩ (l5 J m [1, 1, 0, 1, 0] [] M1 ⟨tsOf [(3, (.ptr 0 [] 0)), (5, (.row 1)), (8, (.dat 22 (.lst x0))), (9, (.dat 3 (.int x1))), (10, (.dat 3 (.int (IntKind.wrap IntKind.i64 (x2 + (1 : Int))))))], [(.box 30 (.dat 30 x3)), (.row 27 x4)], 0⟩)) := fun J => by kernel_rfl
  exact (h jn).trans (by
    simp only [jn_eq, h1]
    rfl)
theorem order_Keys_j2_eq (m : Nat) (M1 : Nat) (rec1 : List Dt → Int → Int → Dt → List Dt → Option (List Dt)) (h1 : ∀ (x0 : List Dt) (x1 : Int) (x2 : Int) (x3 : Dt) (x4 : List Dt), l5 jn m [1, 1, 0, 1, 0] [] M1 ⟨tsOf [(3, (.ptr 0 [] 0)), (5, (.row 1)), (8, (.dat 22 (.lst x0))), (9, (.dat 3 (.int x1))), (10, (.dat 3 (.int x2)))], [(.box 30 (.dat 30 x3)), (.row 27 x4)], 0⟩ = rec1 x0 x1 x2 x3 x4) (x0 : List Dt) (x1 : Int) (x2 : Int) (x3 : Dt) (x4 : List Dt) : e5 jn m [1, 1, 0, 1, 0, 0, 1, 1] [M1] ⟨tsOf [(3, (.ptr 0 [] 0)), (5, (.row 1)), (8, (.dat 22 (.lst x0))), (9, (.dat 3 (.int x1))), (10, (.dat 3 (.int x2)))], [(.box 30 (.dat 30 x3)), (.row 27 x4)], 0⟩ = order_Keys_j2 m rec1 x0 x1 x2 x3 x4 := by
  have h : ∀ J, e5 J m [1, 1, 0, 1, 0, 0, 1, 1] [M1] ⟨tsOf [(3, (.ptr 0 [] 0)), (5, (.row 1)), (8, (.dat 22 (.lst x0))), (9, (.dat 3 (.int x1))), (10, (.dat 3 (.int x2)))], [(.box 30 (.dat 30 x3)), (.row 27 x4)], 0⟩ =
    ((idx x0 x2).bind fun v0 =>
      ((order_key m v0 x3).bind fun r1 =>
        ((app x4 [r1]).bind fun v2 =>
          (J 0 6 0 ⟨tsOf [(3, (.ptr 0 [] 0)), (5, (.row 1)), (8, (.dat 22 (.lst x0))), (9, (.dat 3 (.int x1))), (10, (.dat 3 (.int x2)))], [(.box 30 (.dat 30 x3)), (.row 27 v2)], 0⟩ (e5 J m [1, 1, 0, 1, 0, 0, 1, 1, 1] [M1] ⟨tsOf [(3, (.ptr 0 [] 0)), (5, (.row 1)), (8, (.dat 22 (.lst x0))), (9, (.dat 3 (.int x1))), (10, (.dat 3 (.int x2)))], [(.box 30 (.dat 30 x3)), (.row 27 v2)], 0⟩))))) := fun J => by kernel_rfl
  exact (h jn).trans (by
    simp only [jn_eq, order_Keys_j3_eq m M1 rec1 h1]
    rfl)
theorem order_Keys_j4_eq (m : Nat) (x0 : List Dt) : e5 jn m [1, 1, 1] [] ⟨tsOf [(5, (.row 0))], [(.row 27 x0)], 0⟩ = order_Keys_j4 m x0 := by
  have h : ∀ J, e5 J m [1, 1, 1] [] ⟨tsOf [(5, (.row 0))], [(.row 27 x0)], 0⟩ =
    some x0 := fun J => by kernel_rfl
  exact (h jn).trans (rfl)
theorem order_Keys_l1_eq (m : Nat) : ∀ (M1 : Nat) (x0 : List Dt) (x1 : Int) (x2 : Int) (x3 : Dt) (x4 : List Dt), l5 jn m [1, 1, 0, 1, 0] [] M1 ⟨tsOf [(3, (.ptr 0 [] 0)), (5, (.row 1)), (8, (.dat 22 (.lst x0))), (9, (.dat 3 (.int x1))), (10, (.dat 3 (.int x2)))], [(.box 30 (.dat 30 x3)), (.row 27 x4)], 0⟩ = order_Keys_l1 m M1 x0 x1 x2 x3 x4
  | 0, _, _, _, _, _ => rfl
  | M1 + 1, x0, x1, x2, x3, x4 => by
    have h : ∀ J, l5 J m [1, 1, 0, 1, 0] [] (M1 + 1) ⟨tsOf [(3, (.ptr 0 [] 0)), (5, (.row 1)), (8, (.dat 22 (.lst x0))), (9, (.dat 3 (.int x1))), (10, (.dat 3 (.int x2)))], [(.box 30 (.dat 30 x3)), (.row 27 x4)], 0⟩ =
    (bif (decide (x2 < x1)) then
      (J 0 4 0 ⟨tsOf [(3, (.ptr 0 [] 0)), (5, (.row 1)), (8, (.dat 22 (.lst x0))), (9, (.dat 3 (.int x1))), (10, (.dat 3 (.int x2)))], [(.box 30 (.dat 30 x3)), (.row 27 x4)], 0⟩ (e5 J m [1, 1, 0, 1, 0, 0, 1, 1] [M1] ⟨tsOf [(3, (.ptr 0 [] 0)), (5, (.row 1)), (8, (.dat 22 (.lst x0))), (9, (.dat 3 (.int x1))), (10, (.dat 3 (.int x2)))], [(.box 30 (.dat 30 x3)), (.row 27 x4)], 0⟩))
    else
      (J 0 7 0 ⟨tsOf [(5, (.row 0))], [(.row 27 x4)], 0⟩ (e5 J m [1, 1, 1] [] ⟨tsOf [(5, (.row 0))], [(.row 27 x4)], 0⟩))) := fun J => by kernel_rfl
    refine (h jn).trans ?_
    simp only [jn_eq, order_Keys_j2_eq m M1 (order_Keys_l1 m M1) (fun x0 x1 x2 x3 x4 => order_Keys_l1_eq m M1 x0 x1 x2 x3 x4), order_Keys_j4_eq m]
    rfl
theorem order_Keys_j0_eq (m : Nat) (x0 : List Dt) (x1 : Int) (x2 : Int) (x3 : Dt) (x4 : List Dt) : e5 jn m [1, 1, 0, 1] [] ⟨tsOf [(3, (.ptr 0 [] 0)), (5, (.row 1)), (8, (.dat 22 (.lst x0))), (9, (.dat 3 (.int x1))), (10, (.dat 3 (.int x2)))], [(.box 30 (.dat 30 x3)), (.row 27 x4)], 0⟩ = order_Keys_j0 m x0 x1 x2 x3 x4 := by
  have h : ∀ J, e5 J m [1, 1, 0, 1] [] ⟨tsOf [(3, (.ptr 0 [] 0)), (5, (.row 1)), (8, (.dat 22 (.lst x0))), (9, (.dat 3 (.int x1))), (10, (.dat 3 (.int x2)))], [(.box 30 (.dat 30 x3)), (.row 27 x4)], 0⟩ =
    (J 1 3 (Nat.succ m) ⟨tsOf [(3, (.ptr 0 [] 0)), (5, (.row 1)), (8, (.dat 22 (.lst x0))), (9, (.dat 3 (.int x1))), (10, (.dat 3 (.int x2)))], [(.box 30 (.dat 30 x3)), (.row 27 x4)], 0⟩ (l5 J m [1, 1, 0, 1, 0] [] (Nat.succ m) ⟨tsOf [(3, (.ptr 0 [] 0)), (5, (.row 1)), (8, (.dat 22 (.lst x0))), (9, (.dat 3 (.int x1))), (10, (.dat 3 (.int x2)))], [(.box 30 (.dat 30 x3)), (.row 27 x4)], 0⟩)) := fun J => by kernel_rfl
  exact (h jn).trans (by
    simp only [jn_eq, order_Keys_l1_eq m]
    rfl)
theorem order_Keys_eq (m : Nat) (a0 : List Dt) (a1 : Dt) : e5 jn m [] [] ⟨[(.dat 22 (.lst a0)), (.dat 30 a1)], [], 0⟩ = order_Keys (m + 1) a0 a1 := by
  have h : ∀ J, e5 J m [] [] ⟨[(.dat 22 (.lst a0)), (.dat 30 a1)], [], 0⟩ =
    (J 0 3 0 ⟨tsOf [(3, (.ptr 0 [] 0)), (5, (.row 1)), (8, (.dat 22 (.lst a0))), (9, (.dat 3 (.int (((List.length a0) : Nat) : Int)))), (10, (.dat 3 (.int (0 : Int))))], [(.box 30 (.dat 30 a1)), (.row 27 [])], 0⟩ (e5 J m [1, 1, 0, 1] [] ⟨tsOf [(3, (.ptr 0 [] 0)), (5, (.row 1)), (8, (.dat 22 (.lst a0))), (9, (.dat 3 (.int (((List.length a0) : Nat) : Int)))), (10, (.dat 3 (.int (0 : Int))))], [(.box 30 (.dat 30 a1)), (.row 27 [])], 0⟩)) := fun J => by kernel_rfl
  refine (h jn).trans ?_
  simp only [jn_eq, order_Keys_j0_eq m]
  rfl
noncomputable def d16 (q : Res) : Option (Int) := match q with
  | (.dat T0 x0, []) => bif Nat.beq T0 3 then some x0.toInt else none
  | _ => none
theorem d16_sim {b : Res} {r : Int} (h : d16 b = some r) : Sim Tryd.prog b ((.dat 3 (.int r)), []) := by
  unfold d16 at h
  split at h
  · obtain ⟨hc, h2⟩ := bif_some h
    cases h2
    have e0 := beq_eq hc
    subst e0
    exact Sim.of (.of (.dat (.int Tryd.underlying3)) rfl rfl) .nil
  · cases h
noncomputable def e16 (J : Nat → Nat → Nat → St → Option (Int) → Option (Int)) (m : Nat) (p ms : List Nat) (σ : St) := evAt Tryd.prog env (ct m) J (m + 1) 39 34 Tryd.f39 d16 p ms σ
noncomputable def l16 (J : Nat → Nat → Nat → St → Option (Int) → Option (Int)) (m : Nat) (p ms : List Nat) (M : Nat) (σ : St) := loopAt Tryd.prog env (ct m) J (m + 1) 39 34 Tryd.f39 d16 p ms M σ
theorem order_compare_j4_eq (m : Nat) (M1 : Nat) (rec1 : List Dt → List Dt → List Dt → Int → Int → Option (Int)) (h1 : ∀ (x0 : List Dt) (x1 : List Dt) (x2 : List Dt) (x3 : Int) (x4 : Int), l16 jn m [1, 0, 1, 0] [] M1 ⟨tsOf [(1, (.dat 27 (.lst x0))), (2, (.dat 27 (.lst x1))), (10, (.dat 22 (.lst x2))), (11, (.dat 3 (.int x3))), (12, (.dat 3 (.int x4)))], [], 0⟩ = rec1 x0 x1 x2 x3 x4) (x0 : List Dt) (x1 : List Dt) (x2 : List Dt) (x3 : Int) (x4 : Int) : e16 jn m [1, 0, 1, 0, 0, 1, 1, 1] [M1] ⟨tsOf [(1, (.dat 27 (.lst x0))), (2, (.dat 27 (.lst x1))), (10, (.dat 22 (.lst x2))), (11, (.dat 3 (.int x3))), (12, (.dat 3 (.int x4)))], [], 0⟩ = order_compare_j4 m rec1 x0 x1 x2 x3 x4 := by
  have h : ∀ J, e16 J m [1, 0, 1, 0, 0, 1, 1, 1] [M1] ⟨tsOf [(1, (.dat 27 (.lst x0))), (2, (.dat 27 (.lst x1))), (10, (.dat 22 (.lst x2))), (11, (.dat 3 (.int x3))), (12, (.dat 3 (.int x4)))], [], 0⟩ =
    (J 1 2 M1 ⟨tsOf [(1, (.dat 27 (.lst x0))), (2, (.dat 27 (.lst x1))), (10, (.dat 22 (.lst x2))), (11, (.dat 3 (.int x3))), (12, (.dat 3 (.int (IntKind.wrap IntKind.i64 (x4 + (1 : Int))))))], [], 0⟩ (l16 J m [1, 0, 1, 0] [] M1 ⟨tsOf [(1, (.dat 27 (.lst x0))), (2, (.dat 27 (.lst x1))), (10, (.dat 22 (.lst x2))), (11, (.dat 3 (.int x3))), (12, (.dat 3 (.int (IntKind.wrap IntKind.i64 (x4 + (1 : Int))))))], [], 0⟩)) := fun J => by kernel_rfl
  exact (h jn).trans (by
    simp only [jn_eq, h1]
    rfl)
theorem order_compare_j3_eq (m : Nat) (M1 : Nat) (rec1 : List Dt → List Dt → List Dt → Int → Int → Option (Int)) (h1 : ∀ (x0 : List Dt) (x1 : List Dt) (x2 : List Dt) (x3 : Int) (x4 : Int), l16 jn m [1, 0, 1, 0] [] M1 ⟨tsOf [(1, (.dat 27 (.lst x0))), (2, (.dat 27 (.lst x1))), (10, (.dat 22 (.lst x2))), (11, (.dat 3 (.int x3))), (12, (.dat 3 (.int x4)))], [], 0⟩ = rec1 x0 x1 x2 x3 x4) (x0 : List Dt) (x1 : List Dt) (x2 : Int) (x3 : List Dt) (x4 : Int) (x5 : Int) : e16 jn m [1, 0, 1, 0, 0, 1, 1, 0, 0, 1, 1, 1] [M1] ⟨tsOf [(1, (.dat 27 (.lst x0))), (2, (.dat 27 (.lst x1))), (9, (.dat 3 (.int x2))), (10, (.dat 22 (.lst x3))), (11, (.dat 3 (.int x4))), (12, (.dat 3 (.int x5)))], [], 0⟩ = order_compare_j3 m rec1 x0 x1 x2 x3 x4 x5 := by
  have h : ∀ J, e16 J m [1, 0, 1, 0, 0, 1, 1, 0, 0, 1, 1, 1] [M1] ⟨tsOf [(1, (.dat 27 (.lst x0))), (2, (.dat 27 (.lst x1))), (9, (.dat 3 (.int x2))), (10, (.dat 22 (.lst x3))), (11, (.dat 3 (.int x4))), (12, (.dat 3 (.int x5)))], [], 0⟩ =
    (bif (x2 != (0 : Int)) then
      some x2
    else
      (J 0 9 0 ⟨tsOf [(1, (.dat 27 (.lst x0))), (2, (.dat 27 (.lst x1))), (10, (.dat 22 (.lst x3))), (11, (.dat 3 (.int x4))), (12, (.dat 3 (.int x5)))], [], 0⟩ (e16 J m [1, 0, 1, 0, 0, 1, 1, 1] [M1] ⟨tsOf [(1, (.dat 27 (.lst x0))), (2, (.dat 27 (.lst x1))), (10, (.dat 22 (.lst x3))), (11, (.dat 3 (.int x4))), (12, (.dat 3 (.int x5)))], [], 0⟩))) := fun J => by kernel_rfl
  exact (h jn).trans (by
    simp only [jn_eq, order_compare_j4_eq m M1 rec1 h1]
    rfl)
theorem order_compare_j2_eq (m : Nat) (M1 : Nat) (rec1 : List Dt → List Dt → List Dt → Int → Int → Option (Int)) (h1 : ∀ (x0 : List Dt) (x1 : List Dt) (x2 : List Dt) (x3 : Int) (x4 : Int), l16 jn m [1, 0, 1, 0] [] M1 ⟨tsOf [(1, (.dat 27 (.lst x0))), (2, (.dat 27 (.lst x1))), (10, (.dat 22 (.lst x2))), (11, (.dat 3 (.int x3))), (12, (.dat 3 (.int x4)))], [], 0⟩ = rec1 x0 x1 x2 x3 x4) (x0 : List Dt) (x1 : List Dt) (x2 : List Dt) (x3 : Int) (x4 : Int) : e16 jn m [1, 0, 1, 0, 0, 1, 1] [M1] ⟨tsOf [(1, (.dat 27 (.lst x0))), (2, (.dat 27 (.lst x1))), (10, (.dat 22 (.lst x2))), (11, (.dat 3 (.int x3))), (12, (.dat 3 (.int x4)))], [], 0⟩ = order_compare_j2 m rec1 x0 x1 x2 x3 x4 := by
  have h : ∀ J, e16 J m [1, 0, 1, 0, 0, 1, 1] [M1] ⟨tsOf [(1, (.dat 27 (.lst x0))), (2, (.dat 27 (.lst x1))), (10, (.dat 22 (.lst x2))), (11, (.dat 3 (.int x3))), (12, (.dat 3 (.int x4)))], [], 0⟩ =
    ((idx x2 x4).bind fun v0 =>
      ((idx x0 x4).bind fun v1 =>
        ((idx x1 x4).bind fun v2 =>
          ((value_Compare m v1 v2).bind fun r3 =>
            (bif (Dt.B v0 1) then
              (J 0 7 0 ⟨tsOf [(1, (.dat 27 (.lst x0))), (2, (.dat 27 (.lst x1))), (9, (.dat 3 (.int (IntKind.wrap IntKind.i64 ((0 : Int) - r3))))), (10, (.dat 22 (.lst x2))), (11, (.dat 3 (.int x3))), (12, (.dat 3 (.int x4)))], [], 0⟩ (e16 J m [1, 0, 1, 0, 0, 1, 1, 0, 0, 1, 1, 1] [M1] ⟨tsOf [(1, (.dat 27 (.lst x0))), (2, (.dat 27 (.lst x1))), (9, (.dat 3 (.int (IntKind.wrap IntKind.i64 ((0 : Int) - r3))))), (10, (.dat 22 (.lst x2))), (11, (.dat 3 (.int x3))), (12, (.dat 3 (.int x4)))], [], 0⟩))
            else
              (J 0 7 0 ⟨tsOf [(1, (.dat 27 (.lst x0))), (2, (.dat 27 (.lst x1))), (9, (.dat 3 (.int r3))), (10, (.dat 22 (.lst x2))), (11, (.dat 3 (.int x3))), (12, (.dat 3 (.int x4)))], [], 0⟩ (e16 J m [1, 0, 1, 0, 0, 1, 1, 0, 0, 1, 1, 1] [M1] ⟨tsOf [(1, (.dat 27 (.lst x0))), (2, (.dat 27 (.lst x1))), (9, (.dat 3 (.int r3))), (10, (.dat 22 (.lst x2))), (11, (.dat 3 (.int x3))), (12, (.dat 3 (.int x4)))], [], 0⟩))))))) := fun J => by kernel_rfl
  exact (h jn).trans (by
    simp only [jn_eq, order_compare_j3_eq m M1 rec1 h1]
    rfl)
theorem order_compare_j5_eq (m : Nat) : e16 jn m [1, 1] [] ⟨tsOf [], [], 0⟩ = order_compare_j5 m := by
  have h : ∀ J, e16 J m [1, 1] [] ⟨tsOf [], [], 0⟩ =
    some (0 : Int) := fun J => by kernel_rfl
  exact (h jn).trans (rfl)
theorem order_compare_l1_eq (m : Nat) : ∀ (M1 : Nat) (x0 : List Dt) (x1 : List Dt) (x2 : List Dt) (x3 : Int) (x4 : Int), l16 jn m [1, 0, 1, 0] [] M1 ⟨tsOf [(1, (.dat 27 (.lst x0))), (2, (.dat 27 (.lst x1))), (10, (.dat 22 (.lst x2))), (11, (.dat 3 (.int x3))), (12, (.dat 3 (.int x4)))], [], 0⟩ = order_compare_l1 m M1 x0 x1 x2 x3 x4
  | 0, _, _, _, _, _ => rfl
  | M1 + 1, x0, x1, x2, x3, x4 => by
    have h : ∀ J, l16 J m [1, 0, 1, 0] [] (M1 + 1) ⟨tsOf [(1, (.dat 27 (.lst x0))), (2, (.dat 27 (.lst x1))), (10, (.dat 22 (.lst x2))), (11, (.dat 3 (.int x3))), (12, (.dat 3 (.int x4)))], [], 0⟩ =
    (bif (decide (x4 < x3)) then
      (J 0 3 0 ⟨tsOf [(1, (.dat 27 (.lst x0))), (2, (.dat 27 (.lst x1))), (10, (.dat 22 (.lst x2))), (11, (.dat 3 (.int x3))), (12, (.dat 3 (.int x4)))], [], 0⟩ (e16 J m [1, 0, 1, 0, 0, 1, 1] [M1] ⟨tsOf [(1, (.dat 27 (.lst x0))), (2, (.dat 27 (.lst x1))), (10, (.dat 22 (.lst x2))), (11, (.dat 3 (.int x3))), (12, (.dat 3 (.int x4)))], [], 0⟩))
    else
      (J 0 10 0 ⟨tsOf [], [], 0⟩ (e16 J m [1, 1] [] ⟨tsOf [], [], 0⟩))) := fun J => by kernel_rfl
    refine (h jn).trans ?_
    simp only [jn_eq, order_compare_j2_eq m M1 (order_compare_l1 m M1) (fun x0 x1 x2 x3 x4 => order_compare_l1_eq m M1 x0 x1 x2 x3 x4), order_compare_j5_eq m]
    rfl
theorem order_compare_j0_eq (m : Nat) (x0 : List Dt) (x1 : List Dt) (x2 : List Dt) (x3 : Int) (x4 : Int) : e16 jn m [1, 0, 1] [] ⟨tsOf [(1, (.dat 27 (.lst x0))), (2, (.dat 27 (.lst x1))), (10, (.dat 22 (.lst x2))), (11, (.dat 3 (.int x3))), (12, (.dat 3 (.int x4)))], [], 0⟩ = order_compare_j0 m x0 x1 x2 x3 x4 := by
  have h : ∀ J, e16 J m [1, 0, 1] [] ⟨tsOf [(1, (.dat 27 (.lst x0))), (2, (.dat 27 (.lst x1))), (10, (.dat 22 (.lst x2))), (11, (.dat 3 (.int x3))), (12, (.dat 3 (.int x4)))], [], 0⟩ =
    (J 1 2 (Nat.succ m) ⟨tsOf [(1, (.dat 27 (.lst x0))), (2, (.dat 27 (.lst x1))), (10, (.dat 22 (.lst x2))), (11, (.dat 3 (.int x3))), (12, (.dat 3 (.int x4)))], [], 0⟩ (l16 J m [1, 0, 1, 0] [] (Nat.succ m) ⟨tsOf [(1, (.dat 27 (.lst x0))), (2, (.dat 27 (.lst x1))), (10, (.dat 22 (.lst x2))), (11, (.dat 3 (.int x3))), (12, (.dat 3 (.int x4)))], [], 0⟩)) := fun J => by kernel_rfl
  exact (h jn).trans (by
    simp only [jn_eq, order_compare_l1_eq m]
    rfl)
theorem order_compare_eq (m : Nat) (a0 : List Dt) (a1 : List Dt) (a2 : List Dt) : e16 jn m [] [] ⟨[(.dat 22 (.lst a0)), (.dat 27 (.lst a1)), (.dat 27 (.lst a2))], [], 0⟩ = order_compare (m + 1) a0 a1 a2 := by
  have h : ∀ J, e16 J m [] [] ⟨[(.dat 22 (.lst a0)), (.dat 27 (.lst a1)), (.dat 27 (.lst a2))], [], 0⟩ =
    (J 0 2 0 ⟨tsOf [(1, (.dat 27 (.lst a1))), (2, (.dat 27 (.lst a2))), (10, (.dat 22 (.lst a0))), (11, (.dat 3 (.int (((List.length a0) : Nat) : Int)))), (12, (.dat 3 (.int (0 : Int))))], [], 0⟩ (e16 J m [1, 0, 1] [] ⟨tsOf [(1, (.dat 27 (.lst a1))), (2, (.dat 27 (.lst a2))), (10, (.dat 22 (.lst a0))), (11, (.dat 3 (.int (((List.length a0) : Nat) : Int)))), (12, (.dat 3 (.int (0 : Int))))], [], 0⟩)) := fun J => by kernel_rfl
  refine (h jn).trans ?_
  simp only [jn_eq, order_compare_j0_eq m]
  rfl
noncomputable def d8 (q : Res) : Option (Int) := match q with
  | (.dat T0 x0, []) => bif Nat.beq T0 3 then some x0.toInt else none
  | _ => none
theorem d8_sim {b : Res} {r : Int} (h : d8 b = some r) : Sim Tryd.prog b ((.dat 3 (.int r)), []) := by
  unfold d8 at h
  split at h
  · obtain ⟨hc, h2⟩ := bif_some h
    cases h2
    have e0 := beq_eq hc
    subst e0
    exact Sim.of (.of (.dat (.int Tryd.underlying3)) rfl rfl) .nil
  · cases h
noncomputable def e8 (J : Nat → Nat → Nat → St → Option (Int) → Option (Int)) (m : Nat) (p ms : List Nat) (σ : St) := evAt Tryd.prog env (ct m) J (m + 1) 20 15 Tryd.f20 d8 p ms σ
noncomputable def l8 (J : Nat → Nat → Nat → St → Option (Int) → Option (Int)) (m : Nat) (p ms : List Nat) (M : Nat) (σ : St) := loopAt Tryd.prog env (ct m) J (m + 1) 20 15 Tryd.f20 d8 p ms M σ
theorem order_Compare_eq (m : Nat) (a0 : List Dt) (a1 : Dt) (a2 : Dt) : e8 jn m [] [] ⟨[(.dat 22 (.lst a0)), (.dat 30 a1), (.dat 30 a2)], [], 0⟩ = order_Compare (m + 1) a0 a1 a2 := by
  have h : ∀ J, e8 J m [] [] ⟨[(.dat 22 (.lst a0)), (.dat 30 a1), (.dat 30 a2)], [], 0⟩ =
    ((order_Keys m a0 a1).bind fun r0 =>
      ((order_Keys m a0 a2).bind fun r1 =>
        ((order_compare m a0 r0 r1).bind fun r2 =>
          some r2))) := fun J => by kernel_rfl
  refine (h jn).trans ?_
  
  rfl
noncomputable def d1 (q : Res) : Option (Bool) := match q with
  | (.dat T0 x0, []) => bif Nat.beq T0 4 then some x0.toBool else none
  | _ => none
theorem d1_sim {b : Res} {r : Bool} (h : d1 b = some r) : Sim Tryd.prog b ((.dat 4 (.bool r)), []) := by
  unfold d1 at h
  split at h
  · obtain ⟨hc, h2⟩ := bif_some h
    cases h2
    have e0 := beq_eq hc
    subst e0
    exact Sim.of (.of (.dat (.bool Tryd.underlying4)) rfl rfl) .nil
  · cases h
noncomputable def e1 (J : Nat → Nat → Nat → St → Option (Bool) → Option (Bool)) (m : Nat) (p ms : List Nat) (σ : St) := evAt Tryd.prog env (ct m) J (m + 1) 7 79 Tryd.f7 d1 p ms σ
noncomputable def l1 (J : Nat → Nat → Nat → St → Option (Bool) → Option (Bool)) (m : Nat) (p ms : List Nat) (M : Nat) (σ : St) := loopAt Tryd.prog env (ct m) J (m + 1) 7 79 Tryd.f7 d1 p ms M σ
theorem law12_OrderTotal_j1_eq (m : Nat) (x0 : Int) (x1 : Int) (x2 : Int) : e1 jn m [1, 1, 1, 1] [] ⟨tsOf [(9, (.dat 3 (.int x0))), (10, (.dat 3 (.int x1))), (11, (.dat 3 (.int x2)))], [], 0⟩ = law12_OrderTotal_j1 m x0 x1 x2 := by
  have h : ∀ J, e1 J m [1, 1, 1, 1] [] ⟨tsOf [(9, (.dat 3 (.int x0))), (10, (.dat 3 (.int x1))), (11, (.dat 3 (.int x2)))], [], 0⟩ =
    (bif (decide ((0 : Int) < x0)) then
      (bif (decide ((0 : Int) ≤ x0)) then
        ((awakeC).bind fun r7 =>
          some r7)
      else
        (bif (decide ((0 : Int) < x1)) then
          ((awakeC).bind fun r8 =>
            some r8)
        else
          (bif (decide (x2 < (0 : Int))) then
            ((awakeC).bind fun r9 =>
              some r9)
          else
            some Bool.false)))
    else
      (bif (decide ((0 : Int) < x1)) then
        (bif (decide ((0 : Int) ≤ x0)) then
          ((awakeC).bind fun r10 =>
            some r10)
        else
          (bif (decide ((0 : Int) < x1)) then
            ((awakeC).bind fun r11 =>
              some r11)
          else
            (bif (decide (x2 < (0 : Int))) then
              ((awakeC).bind fun r12 =>
                some r12)
            else
              some Bool.false)))
      else
        (bif (decide (x2 ≤ (0 : Int))) then
          (bif (decide ((0 : Int) ≤ x0)) then
            ((awakeC).bind fun r13 =>
              some r13)
          else
            (bif (decide ((0 : Int) < x1)) then
              ((awakeC).bind fun r14 =>
                some r14)
            else
              (bif (decide (x2 < (0 : Int))) then
                ((awakeC).bind fun r15 =>
                  some r15)
              else
                some Bool.false)))
        else
          some Bool.false))) := fun J => by kernel_rfl
  exact (h jn).trans (rfl)
theorem law12_OrderTotal_j0_eq (m : Nat) (x0 : List Dt) (x1 : Dt) (x2 : Dt) (x3 : Dt) : e1 jn m [1, 1] [] ⟨tsOf [(0, (.dat 22 (.lst x0))), (5, (.ptr 0 [] 0)), (6, (.ptr 1 [] 0)), (7, (.ptr 2 [] 0))], [(.box 30 (.dat 30 x1)), (.box 30 (.dat 30 x2)), (.box 30 (.dat 30 x3))], 0⟩ = law12_OrderTotal_j0 m x0 x1 x2 x3 := by
  have h : ∀ J, e1 J m [1, 1] [] ⟨tsOf [(0, (.dat 22 (.lst x0))), (5, (.ptr 0 [] 0)), (6, (.ptr 1 [] 0)), (7, (.ptr 2 [] 0))], [(.box 30 (.dat 30 x1)), (.box 30 (.dat 30 x2)), (.box 30 (.dat 30 x3))], 0⟩ =
    ((order_Compare m x0 x1 x2).bind fun r2 =>
      ((order_Compare m x0 x2 x3).bind fun r3 =>
        ((order_Compare m x0 x1 x3).bind fun r4 =>
          (bif (decide (r2 < (-1 : Int))) then
            some Bool.false
          else
            (bif (decide ((1 : Int) < r2)) then
              some Bool.false
            else
              ((order_Compare m x0 x2 x1).bind fun r5 =>
                (bif (r2 != (IntKind.wrap IntKind.i64 ((0 : Int) - r5))) then
                  some Bool.false
                else
                  ((order_Compare m x0 x1 x1).bind fun r6 =>
                    (bif (r6 != (0 : Int)) then
                      some Bool.false
                    else
                      (J 0 6 0 ⟨tsOf [(9, (.dat 3 (.int r2))), (10, (.dat 3 (.int r3))), (11, (.dat 3 (.int r4)))], [], 0⟩ (e1 J m [1, 1, 1, 1] [] ⟨tsOf [(9, (.dat 3 (.int r2))), (10, (.dat 3 (.int r3))), (11, (.dat 3 (.int r4)))], [], 0⟩))))))))))) := fun J => by kernel_rfl
  exact (h jn).trans (by
    simp only [jn_eq, law12_OrderTotal_j1_eq m]
    rfl)
theorem law12_OrderTotal_eq (m : Nat) (a0 : List Dt) (a1 : Dt) (a2 : Dt) (a3 : Dt) : e1 jn m [] [] ⟨[(.dat 22 (.lst a0)), (.dat 30 a1), (.dat 30 a2), (.dat 30 a3)], [], 0⟩ = law12_OrderTotal (m + 1) a0 a1 a2 a3 := by
  have h : ∀ J, e1 J m [] [] ⟨[(.dat 22 (.lst a0)), (.dat 30 a1), (.dat 30 a2), (.dat 30 a3)], [], 0⟩ =
    ((law12_Small m a0 [a1, a2, a3]).bind fun r0 =>
      (bif (Bool.not r0) then
        ((awakeC).bind fun r1 =>
          some r1)
      else
        (J 0 3 0 ⟨tsOf [(0, (.dat 22 (.lst a0))), (5, (.ptr 0 [] 0)), (6, (.ptr 1 [] 0)), (7, (.ptr 2 [] 0))], [(.box 30 (.dat 30 a1)), (.box 30 (.dat 30 a2)), (.box 30 (.dat 30 a3))], 0⟩ (e1 J m [1, 1] [] ⟨tsOf [(0, (.dat 22 (.lst a0))), (5, (.ptr 0 [] 0)), (6, (.ptr 1 [] 0)), (7, (.ptr 2 [] 0))], [(.box 30 (.dat 30 a1)), (.box 30 (.dat 30 a2)), (.box 30 (.dat 30 a3))], 0⟩)))) := fun J => by kernel_rfl
  refine (h jn).trans ?_
  simp only [jn_eq, law12_OrderTotal_j0_eq m]
  rfl
noncomputable def d2 (q : Res) : Option (Bool) := match q with
  | (.dat T0 x0, []) => bif Nat.beq T0 4 then some x0.toBool else none
  | _ => none
theorem d2_sim {b : Res} {r : Bool} (h : d2 b = some r) : Sim Tryd.prog b ((.dat 4 (.bool r)), []) := by
  unfold d2 at h
  split at h
  · obtain ⟨hc, h2⟩ := bif_some h
    cases h2
    have e0 := beq_eq hc
    subst e0
    exact Sim.of (.of (.dat (.bool Tryd.underlying4)) rfl rfl) .nil
  · cases h
noncomputable def e2 (J : Nat → Nat → Nat → St → Option (Bool) → Option (Bool)) (m : Nat) (p ms : List Nat) (σ : St) := evAt Tryd.prog env (ct m) J (m + 1) 9 64 Tryd.f9 d2 p ms σ
noncomputable def l2 (J : Nat → Nat → Nat → St → Option (Bool) → Option (Bool)) (m : Nat) (p ms : List Nat) (M : Nat) (σ : St) := loopAt Tryd.prog env (ct m) J (m + 1) 9 64 Tryd.f9 d2 p ms M σ
theorem law12_OrderReverse_j4_eq (m : Nat) (M2 : Nat) (rec2 : List Dt → Int → Int → Dt → Dt → List Dt → Option (Bool)) (h2 : ∀ (x0 : List Dt) (x1 : Int) (x2 : Int) (x3 : Dt) (x4 : Dt) (x5 : List Dt), l2 jn m [1, 1, 1, 0, 1, 0] [] M2 ⟨tsOf [(0, (.dat 22 (.lst x0))), (4, (.ptr 0 [] 0)), (5, (.ptr 1 [] 0)), (7, (.row 2)), (27, (.dat 3 (.int x1))), (28, (.dat 3 (.int x2)))], [(.box 30 (.dat 30 x3)), (.box 30 (.dat 30 x4)), (.row 22 x5)], 0⟩ = rec2 x0 x1 x2 x3 x4 x5) (x0 : List Dt) (x1 : Int) (x2 : Int) (x3 : Dt) (x4 : Dt) (x5 : List Dt) : e2 jn m [1, 1, 1, 0, 1, 0, 0, 1, 1, 1] [M2] ⟨tsOf [(0, (.dat 22 (.lst x0))), (4, (.ptr 0 [] 0)), (5, (.ptr 1 [] 0)), (7, (.row 2)), (27, (.dat 3 (.int x1))), (28, (.dat 3 (.int x2)))], [(.box 30 (.dat 30 x3)), (.box 30 (.dat 30 x4)), (.row 22 x5)], 0⟩ = law12_OrderReverse_j4 m rec2 x0 x1 x2 x3 x4 x5 := by
  have h : ∀ J, e2 J m [1, 1, 1, 0, 1, 0, 0, 1, 1, 1] [M2] ⟨tsOf [(0, (.dat 22 (.lst x0))), (4, (.ptr 0 [] 0)), (5, (.ptr 1 [] 0)), (7, (.row 2)), (27, (.dat 3 (.int x1))), (28, (.dat 3 (.int x2)))], [(.box 30 (.dat 30 x3)), (.box 30 (.dat 30 x4)), (.row 22 x5)], 0⟩ =
    (J 1 5 M2 ⟨tsOf [(0, (.dat 22 (.lst x0))), (4, (.ptr 0 [] 0)), (5, (.ptr 1 [] 0)), (7, (.row 2)), (27, (.dat 3 (.int x1))), (28, (.dat 3 (.int (IntKind.wrap IntKind.i64 (x2 + (1 : Int))))))], [(.box 30 (.dat 30 x3)), (.box 30 (.dat 30 x4)), (.row 22 x5)], 0⟩ (l2 J m [1, 1, 1, 0, 1, 0] [] M2 ⟨tsOf [(0, (.dat 22 (.lst x0))), (4, (.ptr 0 [] 0)), (5, (.ptr 1 [] 0)), (7, (.row 2)), (27, (.dat 3 (.int x1))), (28, (.dat 3 (.int (IntKind.wrap IntKind.i64 (x2 + (1 : Int))))))], [(.box 30 (.dat 30 x3)), (.box 30 (.dat 30 x4)), (.row 22 x5)], 0⟩)) := fun J => by kernel_rfl
  exact (h jn).trans (by
    simp only [jn_eq, h2]
    rfl)
theorem law12_OrderReverse_j3_eq (m : Nat) (M2 : Nat) (rec2 : List Dt → Int → Int → Dt → Dt → List Dt → Option (Bool)) (h2 : ∀ (x0 : List Dt) (x1 : Int) (x2 : Int) (x3 : Dt) (x4 : Dt) (x5 : List Dt), l2 jn m [1, 1, 1, 0, 1, 0] [] M2 ⟨tsOf [(0, (.dat 22 (.lst x0))), (4, (.ptr 0 [] 0)), (5, (.ptr 1 [] 0)), (7, (.row 2)), (27, (.dat 3 (.int x1))), (28, (.dat 3 (.int x2)))], [(.box 30 (.dat 30 x3)), (.box 30 (.dat 30 x4)), (.row 22 x5)], 0⟩ = rec2 x0 x1 x2 x3 x4 x5) (x0 : List Dt) (x1 : Int) (x2 : Int) (x3 : Dt) (x4 : Dt) (x5 : List Dt) : e2 jn m [1, 1, 1, 0, 1, 0, 0, 1, 1] [M2] ⟨tsOf [(0, (.dat 22 (.lst x0))), (4, (.ptr 0 [] 0)), (5, (.ptr 1 [] 0)), (7, (.row 2)), (27, (.dat 3 (.int x1))), (28, (.dat 3 (.int x2)))], [(.box 30 (.dat 30 x3)), (.box 30 (.dat 30 x4)), (.row 22 x5)], 0⟩ = law12_OrderReverse_j3 m rec2 x0 x1 x2 x3 x4 x5 := by
  have h : ∀ J, e2 J m [1, 1, 1, 0, 1, 0, 0, 1, 1] [M2] ⟨tsOf [(0, (.dat 22 (.lst x0))), (4, (.ptr 0 [] 0)), (5, (.ptr 1 [] 0)), (7, (.row 2)), (27, (.dat 3 (.int x1))), (28, (.dat 3 (.int x2)))], [(.box 30 (.dat 30 x3)), (.box 30 (.dat 30 x4)), (.row 22 x5)], 0⟩ =
    ((inL x5 x2).bind fun v7 =>
      ((x5[(Int.toNat x2)]?).bind fun v8 =>
        ((inL x5 x2).bind fun v9 =>
          ((x5[(Int.toNat x2)]?).bind fun v10 =>
            (J 0 8 0 ⟨tsOf [(0, (.dat 22 (.lst x0))), (4, (.ptr 0 [] 0)), (5, (.ptr 1 [] 0)), (7, (.row 2)), (27, (.dat 3 (.int x1))), (28, (.dat 3 (.int x2)))], [(.box 30 (.dat 30 x3)), (.box 30 (.dat 30 x4)), (.row 22 (List.set x5 (Int.toNat x2) (Dt.agg [(Dt.lst (Dt.L v10 0)), (Dt.bool (Bool.not (Dt.B v8 1)))])))], 0⟩ (e2 J m [1, 1, 1, 0, 1, 0, 0, 1, 1, 1] [M2] ⟨tsOf [(0, (.dat 22 (.lst x0))), (4, (.ptr 0 [] 0)), (5, (.ptr 1 [] 0)), (7, (.row 2)), (27, (.dat 3 (.int x1))), (28, (.dat 3 (.int x2)))], [(.box 30 (.dat 30 x3)), (.box 30 (.dat 30 x4)), (.row 22 (List.set x5 (Int.toNat x2) (Dt.agg [(Dt.lst (Dt.L v10 0)), (Dt.bool (Bool.not (Dt.B v8 1)))])))], 0⟩)))))) := fun J => by kernel_rfl
  exact (h jn).trans (by
    simp only [jn_eq, law12_OrderReverse_j4_eq m M2 rec2 h2]
    rfl)
theorem law12_OrderReverse_j5_eq (m : Nat) (x0 : List Dt) (x1 : Dt) (x2 : Dt) (x3 : List Dt) : e2 jn m [1, 1, 1, 1] [] ⟨tsOf [(0, (.dat 22 (.lst x0))), (4, (.ptr 0 [] 0)), (5, (.ptr 1 [] 0)), (7, (.row 2))], [(.box 30 (.dat 30 x1)), (.box 30 (.dat 30 x2)), (.row 22 x3)], 0⟩ = law12_OrderReverse_j5 m x0 x1 x2 x3 := by
  have h : ∀ J, e2 J m [1, 1, 1, 1] [] ⟨tsOf [(0, (.dat 22 (.lst x0))), (4, (.ptr 0 [] 0)), (5, (.ptr 1 [] 0)), (7, (.row 2))], [(.box 30 (.dat 30 x1)), (.box 30 (.dat 30 x2)), (.row 22 x3)], 0⟩ =
    ((order_Compare m x0 x1 x2).bind fun r11 =>
      ((order_Compare m x3 x1 x2).bind fun r12 =>
        (bif (r11 == (IntKind.wrap IntKind.i64 ((0 : Int) - r12))) then
          ((order_Keys m x0 x1).bind fun r13 =>
            ((order_Keys m x3 x1).bind fun r14 =>
              ((law03_SameList m r13 r14).bind fun r15 =>
                (bif r15 then
                  ((awakeC).bind fun r16 =>
                    some r16)
                else
                  some Bool.false))))
        else
          some Bool.false))) := fun J => by kernel_rfl
  exact (h jn).trans (rfl)
theorem law12_OrderReverse_l2_eq (m : Nat) : ∀ (M2 : Nat) (x0 : List Dt) (x1 : Int) (x2 : Int) (x3 : Dt) (x4 : Dt) (x5 : List Dt), l2 jn m [1, 1, 1, 0, 1, 0] [] M2 ⟨tsOf [(0, (.dat 22 (.lst x0))), (4, (.ptr 0 [] 0)), (5, (.ptr 1 [] 0)), (7, (.row 2)), (27, (.dat 3 (.int x1))), (28, (.dat 3 (.int x2)))], [(.box 30 (.dat 30 x3)), (.box 30 (.dat 30 x4)), (.row 22 x5)], 0⟩ = law12_OrderReverse_l2 m M2 x0 x1 x2 x3 x4 x5
  | 0, _, _, _, _, _, _ => rfl
  | M2 + 1, x0, x1, x2, x3, x4, x5 => by
    have h : ∀ J, l2 J m [1, 1, 1, 0, 1, 0] [] (M2 + 1) ⟨tsOf [(0, (.dat 22 (.lst x0))), (4, (.ptr 0 [] 0)), (5, (.ptr 1 [] 0)), (7, (.row 2)), (27, (.dat 3 (.int x1))), (28, (.dat 3 (.int x2)))], [(.box 30 (.dat 30 x3)), (.box 30 (.dat 30 x4)), (.row 22 x5)], 0⟩ =
    (bif (decide (x2 < x1)) then
      (J 0 6 0 ⟨tsOf [(0, (.dat 22 (.lst x0))), (4, (.ptr 0 [] 0)), (5, (.ptr 1 [] 0)), (7, (.row 2)), (27, (.dat 3 (.int x1))), (28, (.dat 3 (.int x2)))], [(.box 30 (.dat 30 x3)), (.box 30 (.dat 30 x4)), (.row 22 x5)], 0⟩ (e2 J m [1, 1, 1, 0, 1, 0, 0, 1, 1] [M2] ⟨tsOf [(0, (.dat 22 (.lst x0))), (4, (.ptr 0 [] 0)), (5, (.ptr 1 [] 0)), (7, (.row 2)), (27, (.dat 3 (.int x1))), (28, (.dat 3 (.int x2)))], [(.box 30 (.dat 30 x3)), (.box 30 (.dat 30 x4)), (.row 22 x5)], 0⟩))
    else
      (J 0 9 0 ⟨tsOf [(0, (.dat 22 (.lst x0))), (4, (.ptr 0 [] 0)), (5, (.ptr 1 [] 0)), (7, (.row 2))], [(.box 30 (.dat 30 x3)), (.box 30 (.dat 30 x4)), (.row 22 x5)], 0⟩ (e2 J m [1, 1, 1, 1] [] ⟨tsOf [(0, (.dat 22 (.lst x0))), (4, (.ptr 0 [] 0)), (5, (.ptr 1 [] 0)), (7, (.row 2))], [(.box 30 (.dat 30 x3)), (.box 30 (.dat 30 x4)), (.row 22 x5)], 0⟩))) := fun J => by kernel_rfl
    refine (h jn).trans ?_
    simp only [jn_eq, law12_OrderReverse_j3_eq m M2 (law12_OrderReverse_l2 m M2) (fun x0 x1 x2 x3 x4 x5 => law12_OrderReverse_l2_eq m M2 x0 x1 x2 x3 x4 x5), law12_OrderReverse_j5_eq m]
    rfl
theorem law12_OrderReverse_j1_eq (m : Nat) (x0 : List Dt) (x1 : Int) (x2 : Int) (x3 : Dt) (x4 : Dt) (x5 : List Dt) : e2 jn m [1, 1, 1, 0, 1] [] ⟨tsOf [(0, (.dat 22 (.lst x0))), (4, (.ptr 0 [] 0)), (5, (.ptr 1 [] 0)), (7, (.row 2)), (27, (.dat 3 (.int x1))), (28, (.dat 3 (.int x2)))], [(.box 30 (.dat 30 x3)), (.box 30 (.dat 30 x4)), (.row 22 x5)], 0⟩ = law12_OrderReverse_j1 m x0 x1 x2 x3 x4 x5 := by
  have h : ∀ J, e2 J m [1, 1, 1, 0, 1] [] ⟨tsOf [(0, (.dat 22 (.lst x0))), (4, (.ptr 0 [] 0)), (5, (.ptr 1 [] 0)), (7, (.row 2)), (27, (.dat 3 (.int x1))), (28, (.dat 3 (.int x2)))], [(.box 30 (.dat 30 x3)), (.box 30 (.dat 30 x4)), (.row 22 x5)], 0⟩ =
    (J 1 5 (Nat.succ m) ⟨tsOf [(0, (.dat 22 (.lst x0))), (4, (.ptr 0 [] 0)), (5, (.ptr 1 [] 0)), (7, (.row 2)), (27, (.dat 3 (.int x1))), (28, (.dat 3 (.int x2)))], [(.box 30 (.dat 30 x3)), (.box 30 (.dat 30 x4)), (.row 22 x5)], 0⟩ (l2 J m [1, 1, 1, 0, 1, 0] [] (Nat.succ m) ⟨tsOf [(0, (.dat 22 (.lst x0))), (4, (.ptr 0 [] 0)), (5, (.ptr 1 [] 0)), (7, (.row 2)), (27, (.dat 3 (.int x1))), (28, (.dat 3 (.int x2)))], [(.box 30 (.dat 30 x3)), (.box 30 (.dat 30 x4)), (.row 22 x5)], 0⟩)) := fun J => by kernel_rfl
  exact (h jn).trans (by
    simp only [jn_eq, law12_OrderReverse_l2_eq m]
    rfl)
theorem law12_OrderReverse_j0_eq (m : Nat) (x0 : List Dt) (x1 : Dt) (x2 : Dt) : e2 jn m [1, 1] [] ⟨tsOf [(0, (.dat 22 (.lst x0))), (4, (.ptr 0 [] 0)), (5, (.ptr 1 [] 0))], [(.box 30 (.dat 30 x1)), (.box 30 (.dat 30 x2))], 0⟩ = law12_OrderReverse_j0 m x0 x1 x2 := by
  have h : ∀ J, e2 J m [1, 1] [] ⟨tsOf [(0, (.dat 22 (.lst x0))), (4, (.ptr 0 [] 0)), (5, (.ptr 1 [] 0))], [(.box 30 (.dat 30 x1)), (.box 30 (.dat 30 x2))], 0⟩ =
    ((slices_Clone x0).bind fun r6 =>
      (J 0 5 0 ⟨tsOf [(0, (.dat 22 (.lst x0))), (4, (.ptr 0 [] 0)), (5, (.ptr 1 [] 0)), (7, (.row 2)), (27, (.dat 3 (.int (((List.length r6) : Nat) : Int)))), (28, (.dat 3 (.int (0 : Int))))], [(.box 30 (.dat 30 x1)), (.box 30 (.dat 30 x2)), (.row 22 r6)], 0⟩ (e2 J m [1, 1, 1, 0, 1] [] ⟨tsOf [(0, (.dat 22 (.lst x0))), (4, (.ptr 0 [] 0)), (5, (.ptr 1 [] 0)), (7, (.row 2)), (27, (.dat 3 (.int (((List.length r6) : Nat) : Int)))), (28, (.dat 3 (.int (0 : Int))))], [(.box 30 (.dat 30 x1)), (.box 30 (.dat 30 x2)), (.row 22 r6)], 0⟩))) := fun J => by kernel_rfl
  exact (h jn).trans (by
    simp only [jn_eq, law12_OrderReverse_j1_eq m]
    rfl)
theorem law12_OrderReverse_eq (m : Nat) (a0 : List Dt) (a1 : Dt) (a2 : Dt) : e2 jn m [] [] ⟨[(.dat 22 (.lst a0)), (.dat 30 a1), (.dat 30 a2)], [], 0⟩ = law12_OrderReverse (m + 1) a0 a1 a2 := by
  have h : ∀ J, e2 J m [] [] ⟨[(.dat 22 (.lst a0)), (.dat 30 a1), (.dat 30 a2)], [], 0⟩ =
    ((law12_Small m a0 [a1, a2]).bind fun r0 =>
      (bif (Bool.not r0) then
        ((awakeC).bind fun r1 =>
          some r1)
      else
        ((law12_lists m a1).bind fun r2 =>
          (bif r2 then
            ((awakeC).bind fun r3 =>
              some r3)
          else
            ((law12_lists m a2).bind fun r4 =>
              (bif r4 then
                ((awakeC).bind fun r5 =>
                  some r5)
              else
                (J 0 3 0 ⟨tsOf [(0, (.dat 22 (.lst a0))), (4, (.ptr 0 [] 0)), (5, (.ptr 1 [] 0))], [(.box 30 (.dat 30 a1)), (.box 30 (.dat 30 a2))], 0⟩ (e2 J m [1, 1] [] ⟨tsOf [(0, (.dat 22 (.lst a0))), (4, (.ptr 0 [] 0)), (5, (.ptr 1 [] 0))], [(.box 30 (.dat 30 a1)), (.box 30 (.dat 30 a2))], 0⟩)))))))) := fun J => by kernel_rfl
  refine (h jn).trans ?_
  simp only [jn_eq, law12_OrderReverse_j0_eq m]
  rfl
noncomputable def d44 (q : Res) : Option (Int × Bool) := match q with
  | (.tup [.dat T0 x0, .dat T1 x1], []) => bif (Nat.beq T0 3 && Nat.beq T1 4) then some (x0.toInt, x1.toBool) else none
  | _ => none
theorem d44_sim {b : Res} {r : Int × Bool} (h : d44 b = some r) : Sim Tryd.prog b ((.tup [(.dat 3 (.int r.1)), (.dat 4 (.bool r.2))]), []) := by
  unfold d44 at h
  split at h
  · obtain ⟨hc, h2⟩ := bif_some h
    cases h2
    have e0 := beq_eq (and_l hc)
    have e1 := beq_eq (and_r hc)
    subst e0 e1
    exact Sim.of (.tup (.cons (.dat (.int Tryd.underlying3)) (.cons (.dat (.bool Tryd.underlying4)) .nil))) .nil
  · cases h
noncomputable def e44 (J : Nat → Nat → Nat → St → Option (Int × Bool) → Option (Int × Bool)) (m : Nat) (p ms : List Nat) (σ : St) := evAt Tryd.prog env (ct m) J (m + 1) 89 49 Tryd.f89 d44 p ms σ
noncomputable def l44 (J : Nat → Nat → Nat → St → Option (Int × Bool) → Option (Int × Bool)) (m : Nat) (p ms : List Nat) (M : Nat) (σ : St) := loopAt Tryd.prog env (ct m) J (m + 1) 89 49 Tryd.f89 d44 p ms M σ
theorem ref04_Number_j5_eq (m : Nat) (M2 : Nat) (rec2 : ByteArray → Int → Int → Option (Int × Bool)) (h2 : ∀ (x0 : ByteArray) (x1 : Int) (x2 : Int), l44 jn m [1, 1, 1, 0, 1, 0] [] M2 ⟨tsOf [(0, (.dat 9 (.str x0))), (4, (.dat 3 (.int x1))), (5, (.dat 3 (.int x2)))], [], 0⟩ = rec2 x0 x1 x2) (x0 : ByteArray) (x1 : Int) (x2 : Int) : e44 jn m [1, 1, 1, 0, 1, 0, 0, 1, 1] [M2] ⟨tsOf [(0, (.dat 9 (.str x0))), (4, (.dat 3 (.int x1))), (5, (.dat 3 (.int x2)))], [], 0⟩ = ref04_Number_j5 m rec2 x0 x1 x2 := by
  have h : ∀ J, e44 J m [1, 1, 1, 0, 1, 0, 0, 1, 1] [M2] ⟨tsOf [(0, (.dat 9 (.str x0))), (4, (.dat 3 (.int x1))), (5, (.dat 3 (.int x2)))], [], 0⟩ =
    (J 1 5 M2 ⟨tsOf [(0, (.dat 9 (.str x0))), (4, (.dat 3 (.int x1))), (5, (.dat 3 (.int (IntKind.wrap IntKind.i64 (x2 + (1 : Int))))))], [], 0⟩ (l44 J m [1, 1, 1, 0, 1, 0] [] M2 ⟨tsOf [(0, (.dat 9 (.str x0))), (4, (.dat 3 (.int x1))), (5, (.dat 3 (.int (IntKind.wrap IntKind.i64 (x2 + (1 : Int))))))], [], 0⟩)) := fun J => by kernel_rfl
  exact (h jn).trans (by
    simp only [jn_eq, h2]
    rfl)
theorem ref04_Number_j4_eq (m : Nat) (M2 : Nat) (rec2 : ByteArray → Int → Int → Option (Int × Bool)) (h2 : ∀ (x0 : ByteArray) (x1 : Int) (x2 : Int), l44 jn m [1, 1, 1, 0, 1, 0] [] M2 ⟨tsOf [(0, (.dat 9 (.str x0))), (4, (.dat 3 (.int x1))), (5, (.dat 3 (.int x2)))], [], 0⟩ = rec2 x0 x1 x2) (x0 : ByteArray) (x1 : Int) (x2 : Int) : e44 jn m [1, 1, 1, 0, 1, 0, 0, 1, 0, 0, 1] [M2] ⟨tsOf [(0, (.dat 9 (.str x0))), (4, (.dat 3 (.int x1))), (5, (.dat 3 (.int x2)))], [], 0⟩ = ref04_Number_j4 m rec2 x0 x1 x2 := by
  have h : ∀ J, e44 J m [1, 1, 1, 0, 1, 0, 0, 1, 0, 0, 1] [M2] ⟨tsOf [(0, (.dat 9 (.str x0))), (4, (.dat 3 (.int x1))), (5, (.dat 3 (.int x2)))], [], 0⟩ =
    ((idxS x0 x2).bind fun v3 =>
      (J 0 6 0 ⟨tsOf [(0, (.dat 9 (.str x0))), (4, (.dat 3 (.int (IntKind.wrap IntKind.i64 ((IntKind.wrap IntKind.i64 (x1 * (10 : Int))) + (IntKind.wrap IntKind.i64 (IntKind.wrap IntKind.u8 (v3 - (48 : Int))))))))), (5, (.dat 3 (.int x2)))], [], 0⟩ (e44 J m [1, 1, 1, 0, 1, 0, 0, 1, 1] [M2] ⟨tsOf [(0, (.dat 9 (.str x0))), (4, (.dat 3 (.int (IntKind.wrap IntKind.i64 ((IntKind.wrap IntKind.i64 (x1 * (10 : Int))) + (IntKind.wrap IntKind.i64 (IntKind.wrap IntKind.u8 (v3 - (48 : Int))))))))), (5, (.dat 3 (.int x2)))], [], 0⟩))) := fun J => by kernel_rfl
  exact (h jn).trans (by
    simp only [jn_eq, ref04_Number_j5_eq m M2 rec2 h2]
    rfl)
theorem ref04_Number_j3_eq (m : Nat) (M2 : Nat) (rec2 : ByteArray → Int → Int → Option (Int × Bool)) (h2 : ∀ (x0 : ByteArray) (x1 : Int) (x2 : Int), l44 jn m [1, 1, 1, 0, 1, 0] [] M2 ⟨tsOf [(0, (.dat 9 (.str x0))), (4, (.dat 3 (.int x1))), (5, (.dat 3 (.int x2)))], [], 0⟩ = rec2 x0 x1 x2) (x0 : ByteArray) (x1 : Int) (x2 : Int) : e44 jn m [1, 1, 1, 0, 1, 0, 0, 1] [M2] ⟨tsOf [(0, (.dat 9 (.str x0))), (4, (.dat 3 (.int x1))), (5, (.dat 3 (.int x2)))], [], 0⟩ = ref04_Number_j3 m rec2 x0 x1 x2 := by
  have h : ∀ J, e44 J m [1, 1, 1, 0, 1, 0, 0, 1] [M2] ⟨tsOf [(0, (.dat 9 (.str x0))), (4, (.dat 3 (.int x1))), (5, (.dat 3 (.int x2)))], [], 0⟩ =
    ((idxS x0 x2).bind fun v1 =>
      (bif (decide (v1 < (48 : Int))) then
        some ((0 : Int), Bool.false)
      else
        ((idxS x0 x2).bind fun v2 =>
          (bif (decide ((57 : Int) < v2)) then
            some ((0 : Int), Bool.false)
          else
            (J 0 9 0 ⟨tsOf [(0, (.dat 9 (.str x0))), (4, (.dat 3 (.int x1))), (5, (.dat 3 (.int x2)))], [], 0⟩ (e44 J m [1, 1, 1, 0, 1, 0, 0, 1, 0, 0, 1] [M2] ⟨tsOf [(0, (.dat 9 (.str x0))), (4, (.dat 3 (.int x1))), (5, (.dat 3 (.int x2)))], [], 0⟩)))))) := fun J => by kernel_rfl
  exact (h jn).trans (by
    simp only [jn_eq, ref04_Number_j4_eq m M2 rec2 h2]
    rfl)
theorem ref04_Number_j6_eq (m : Nat) (x0 : Int) : e44 jn m [1, 1, 1, 1] [] ⟨tsOf [(4, (.dat 3 (.int x0)))], [], 0⟩ = ref04_Number_j6 m x0 := by
  have h : ∀ J, e44 J m [1, 1, 1, 1] [] ⟨tsOf [(4, (.dat 3 (.int x0)))], [], 0⟩ =
    some (x0, Bool.true) := fun J => by kernel_rfl
  exact (h jn).trans (rfl)
theorem ref04_Number_l2_eq (m : Nat) : ∀ (M2 : Nat) (x0 : ByteArray) (x1 : Int) (x2 : Int), l44 jn m [1, 1, 1, 0, 1, 0] [] M2 ⟨tsOf [(0, (.dat 9 (.str x0))), (4, (.dat 3 (.int x1))), (5, (.dat 3 (.int x2)))], [], 0⟩ = ref04_Number_l2 m M2 x0 x1 x2
  | 0, _, _, _ => rfl
  | M2 + 1, x0, x1, x2 => by
    have h : ∀ J, l44 J m [1, 1, 1, 0, 1, 0] [] (M2 + 1) ⟨tsOf [(0, (.dat 9 (.str x0))), (4, (.dat 3 (.int x1))), (5, (.dat 3 (.int x2)))], [], 0⟩ =
    (bif (decide (x2 < (((ByteArray.size x0) : Nat) : Int))) then
      (J 0 7 0 ⟨tsOf [(0, (.dat 9 (.str x0))), (4, (.dat 3 (.int x1))), (5, (.dat 3 (.int x2)))], [], 0⟩ (e44 J m [1, 1, 1, 0, 1, 0, 0, 1] [M2] ⟨tsOf [(0, (.dat 9 (.str x0))), (4, (.dat 3 (.int x1))), (5, (.dat 3 (.int x2)))], [], 0⟩))
    else
      (J 0 10 0 ⟨tsOf [(4, (.dat 3 (.int x1)))], [], 0⟩ (e44 J m [1, 1, 1, 1] [] ⟨tsOf [(4, (.dat 3 (.int x1)))], [], 0⟩))) := fun J => by kernel_rfl
    refine (h jn).trans ?_
    simp only [jn_eq, ref04_Number_j3_eq m M2 (ref04_Number_l2 m M2) (fun x0 x1 x2 => ref04_Number_l2_eq m M2 x0 x1 x2), ref04_Number_j6_eq m]
    rfl
theorem ref04_Number_j1_eq (m : Nat) (x0 : ByteArray) (x1 : Int) (x2 : Int) : e44 jn m [1, 1, 1, 0, 1] [] ⟨tsOf [(0, (.dat 9 (.str x0))), (4, (.dat 3 (.int x1))), (5, (.dat 3 (.int x2)))], [], 0⟩ = ref04_Number_j1 m x0 x1 x2 := by
  have h : ∀ J, e44 J m [1, 1, 1, 0, 1] [] ⟨tsOf [(0, (.dat 9 (.str x0))), (4, (.dat 3 (.int x1))), (5, (.dat 3 (.int x2)))], [], 0⟩ =
    (J 1 5 (Nat.succ m) ⟨tsOf [(0, (.dat 9 (.str x0))), (4, (.dat 3 (.int x1))), (5, (.dat 3 (.int x2)))], [], 0⟩ (l44 J m [1, 1, 1, 0, 1, 0] [] (Nat.succ m) ⟨tsOf [(0, (.dat 9 (.str x0))), (4, (.dat 3 (.int x1))), (5, (.dat 3 (.int x2)))], [], 0⟩)) := fun J => by kernel_rfl
  exact (h jn).trans (by
    simp only [jn_eq, ref04_Number_l2_eq m]
    rfl)
theorem ref04_Number_j0_eq (m : Nat) (x0 : ByteArray) : e44 jn m [1, 1] [] ⟨tsOf [(0, (.dat 9 (.str x0)))], [], 0⟩ = ref04_Number_j0 m x0 := by
  have h : ∀ J, e44 J m [1, 1] [] ⟨tsOf [(0, (.dat 9 (.str x0)))], [], 0⟩ =
    (J 0 5 0 ⟨tsOf [(0, (.dat 9 (.str x0))), (4, (.dat 3 (.int (0 : Int)))), (5, (.dat 3 (.int (0 : Int))))], [], 0⟩ (e44 J m [1, 1, 1, 0, 1] [] ⟨tsOf [(0, (.dat 9 (.str x0))), (4, (.dat 3 (.int (0 : Int)))), (5, (.dat 3 (.int (0 : Int))))], [], 0⟩)) := fun J => by kernel_rfl
  exact (h jn).trans (by
    simp only [jn_eq, ref04_Number_j1_eq m]
    rfl)
theorem ref04_Number_eq (m : Nat) (a0 : ByteArray) : e44 jn m [] [] ⟨[(.dat 9 (.str a0))], [], 0⟩ = ref04_Number (m + 1) a0 := by
  have h : ∀ J, e44 J m [] [] ⟨[(.dat 9 (.str a0))], [], 0⟩ =
    (bif (decide ((((ByteArray.size a0) : Nat) : Int) < (1 : Int))) then
      some ((0 : Int), Bool.false)
    else
      (bif (decide ((4 : Int) < (((ByteArray.size a0) : Nat) : Int))) then
        some ((0 : Int), Bool.false)
      else
        ((idxS a0 (0 : Int)).bind fun v0 =>
          (bif (v0 == (48 : Int)) then
            (bif (decide ((1 : Int) < (((ByteArray.size a0) : Nat) : Int))) then
              some ((0 : Int), Bool.false)
            else
              (J 0 3 0 ⟨tsOf [(0, (.dat 9 (.str a0)))], [], 0⟩ (e44 J m [1, 1] [] ⟨tsOf [(0, (.dat 9 (.str a0)))], [], 0⟩)))
          else
            (J 0 3 0 ⟨tsOf [(0, (.dat 9 (.str a0)))], [], 0⟩ (e44 J m [1, 1] [] ⟨tsOf [(0, (.dat 9 (.str a0)))], [], 0⟩)))))) := fun J => by kernel_rfl
  refine (h jn).trans ?_
  simp only [jn_eq, ref04_Number_j0_eq m]
  rfl
noncomputable def d45 (q : Res) : Option (Int) := match q with
  | (.dat T0 x0, []) => bif Nat.beq T0 3 then some x0.toInt else none
  | _ => none
theorem d45_sim {b : Res} {r : Int} (h : d45 b = some r) : Sim Tryd.prog b ((.dat 3 (.int r)), []) := by
  unfold d45 at h
  split at h
  · obtain ⟨hc, h2⟩ := bif_some h
    cases h2
    have e0 := beq_eq hc
    subst e0
    exact Sim.of (.of (.dat (.int Tryd.underlying3)) rfl rfl) .nil
  · cases h
noncomputable def e45 (J : Nat → Nat → Nat → St → Option (Int) → Option (Int)) (m : Nat) (p ms : List Nat) (σ : St) := evAt Tryd.prog env (ct m) J (m + 1) 96 25 Tryd.f96 d45 p ms σ
noncomputable def l45 (J : Nat → Nat → Nat → St → Option (Int) → Option (Int)) (m : Nat) (p ms : List Nat) (M : Nat) (σ : St) := loopAt Tryd.prog env (ct m) J (m + 1) 96 25 Tryd.f96 d45 p ms M σ
theorem ref01_at_j4_eq (m : Nat) (M2 : Nat) (rec2 : ByteArray → Int → Dt → Option (Int)) (h2 : ∀ (x0 : ByteArray) (x1 : Int) (x2 : Dt), l45 jn m [1, 1, 0, 1, 0] [] M2 ⟨tsOf [(1, (.dat 9 (.str x0))), (2, (.ptr 0 [] 0)), (5, (.dat 3 (.int x1)))], [(.box 30 (.dat 30 x2))], 0⟩ = rec2 x0 x1 x2) (x0 : ByteArray) (x1 : Int) (x2 : Dt) : e45 jn m [1, 1, 0, 1, 0, 0, 1, 1] [M2] ⟨tsOf [(1, (.dat 9 (.str x0))), (2, (.ptr 0 [] 0)), (5, (.dat 3 (.int x1)))], [(.box 30 (.dat 30 x2))], 0⟩ = ref01_at_j4 m rec2 x0 x1 x2 := by
  have h : ∀ J, e45 J m [1, 1, 0, 1, 0, 0, 1, 1] [M2] ⟨tsOf [(1, (.dat 9 (.str x0))), (2, (.ptr 0 [] 0)), (5, (.dat 3 (.int x1)))], [(.box 30 (.dat 30 x2))], 0⟩ =
    (J 1 4 M2 ⟨tsOf [(1, (.dat 9 (.str x0))), (2, (.ptr 0 [] 0)), (5, (.dat 3 (.int (IntKind.wrap IntKind.i64 (x1 + (1 : Int))))))], [(.box 30 (.dat 30 x2))], 0⟩ (l45 J m [1, 1, 0, 1, 0] [] M2 ⟨tsOf [(1, (.dat 9 (.str x0))), (2, (.ptr 0 [] 0)), (5, (.dat 3 (.int (IntKind.wrap IntKind.i64 (x1 + (1 : Int))))))], [(.box 30 (.dat 30 x2))], 0⟩)) := fun J => by kernel_rfl
  exact (h jn).trans (by
    simp only [jn_eq, h2]
    rfl)
theorem ref01_at_j3_eq (m : Nat) (M2 : Nat) (rec2 : ByteArray → Int → Dt → Option (Int)) (h2 : ∀ (x0 : ByteArray) (x1 : Int) (x2 : Dt), l45 jn m [1, 1, 0, 1, 0] [] M2 ⟨tsOf [(1, (.dat 9 (.str x0))), (2, (.ptr 0 [] 0)), (5, (.dat 3 (.int x1)))], [(.box 30 (.dat 30 x2))], 0⟩ = rec2 x0 x1 x2) (x0 : ByteArray) (x1 : Int) (x2 : Dt) : e45 jn m [1, 1, 0, 1, 0, 0, 1] [M2] ⟨tsOf [(1, (.dat 9 (.str x0))), (2, (.ptr 0 [] 0)), (5, (.dat 3 (.int x1)))], [(.box 30 (.dat 30 x2))], 0⟩ = ref01_at_j3 m rec2 x0 x1 x2 := by
  have h : ∀ J, e45 J m [1, 1, 0, 1, 0, 0, 1] [M2] ⟨tsOf [(1, (.dat 9 (.str x0))), (2, (.ptr 0 [] 0)), (5, (.dat 3 (.int x1)))], [(.box 30 (.dat 30 x2))], 0⟩ =
    ((idx (Dt.L x2 4) x1).bind fun v0 =>
      (bif ((ByteArray.toList (Dt.S v0 0)) == (ByteArray.toList x0)) then
        some x1
      else
        (J 0 5 0 ⟨tsOf [(1, (.dat 9 (.str x0))), (2, (.ptr 0 [] 0)), (5, (.dat 3 (.int x1)))], [(.box 30 (.dat 30 x2))], 0⟩ (e45 J m [1, 1, 0, 1, 0, 0, 1, 1] [M2] ⟨tsOf [(1, (.dat 9 (.str x0))), (2, (.ptr 0 [] 0)), (5, (.dat 3 (.int x1)))], [(.box 30 (.dat 30 x2))], 0⟩)))) := fun J => by kernel_rfl
  exact (h jn).trans (by
    simp only [jn_eq, ref01_at_j4_eq m M2 rec2 h2]
    rfl)
theorem ref01_at_j5_eq (m : Nat) : e45 jn m [1, 1, 1] [] ⟨tsOf [], [], 0⟩ = ref01_at_j5 m := by
  have h : ∀ J, e45 J m [1, 1, 1] [] ⟨tsOf [], [], 0⟩ =
    some (-1 : Int) := fun J => by kernel_rfl
  exact (h jn).trans (rfl)
theorem ref01_at_l2_eq (m : Nat) : ∀ (M2 : Nat) (x0 : ByteArray) (x1 : Int) (x2 : Dt), l45 jn m [1, 1, 0, 1, 0] [] M2 ⟨tsOf [(1, (.dat 9 (.str x0))), (2, (.ptr 0 [] 0)), (5, (.dat 3 (.int x1)))], [(.box 30 (.dat 30 x2))], 0⟩ = ref01_at_l2 m M2 x0 x1 x2
  | 0, _, _, _ => rfl
  | M2 + 1, x0, x1, x2 => by
    have h : ∀ J, l45 J m [1, 1, 0, 1, 0] [] (M2 + 1) ⟨tsOf [(1, (.dat 9 (.str x0))), (2, (.ptr 0 [] 0)), (5, (.dat 3 (.int x1)))], [(.box 30 (.dat 30 x2))], 0⟩ =
    (bif (decide (x1 < (((List.length (Dt.L x2 4)) : Nat) : Int))) then
      (J 0 6 0 ⟨tsOf [(1, (.dat 9 (.str x0))), (2, (.ptr 0 [] 0)), (5, (.dat 3 (.int x1)))], [(.box 30 (.dat 30 x2))], 0⟩ (e45 J m [1, 1, 0, 1, 0, 0, 1] [M2] ⟨tsOf [(1, (.dat 9 (.str x0))), (2, (.ptr 0 [] 0)), (5, (.dat 3 (.int x1)))], [(.box 30 (.dat 30 x2))], 0⟩))
    else
      (J 0 8 0 ⟨tsOf [], [], 0⟩ (e45 J m [1, 1, 1] [] ⟨tsOf [], [], 0⟩))) := fun J => by kernel_rfl
    refine (h jn).trans ?_
    simp only [jn_eq, ref01_at_j3_eq m M2 (ref01_at_l2 m M2) (fun x0 x1 x2 => ref01_at_l2_eq m M2 x0 x1 x2), ref01_at_j5_eq m]
    rfl
theorem ref01_at_j1_eq (m : Nat) (x0 : ByteArray) (x1 : Int) (x2 : Dt) : e45 jn m [1, 1, 0, 1] [] ⟨tsOf [(1, (.dat 9 (.str x0))), (2, (.ptr 0 [] 0)), (5, (.dat 3 (.int x1)))], [(.box 30 (.dat 30 x2))], 0⟩ = ref01_at_j1 m x0 x1 x2 := by
  have h : ∀ J, e45 J m [1, 1, 0, 1] [] ⟨tsOf [(1, (.dat 9 (.str x0))), (2, (.ptr 0 [] 0)), (5, (.dat 3 (.int x1)))], [(.box 30 (.dat 30 x2))], 0⟩ =
    (J 1 4 (Nat.succ m) ⟨tsOf [(1, (.dat 9 (.str x0))), (2, (.ptr 0 [] 0)), (5, (.dat 3 (.int x1)))], [(.box 30 (.dat 30 x2))], 0⟩ (l45 J m [1, 1, 0, 1, 0] [] (Nat.succ m) ⟨tsOf [(1, (.dat 9 (.str x0))), (2, (.ptr 0 [] 0)), (5, (.dat 3 (.int x1)))], [(.box 30 (.dat 30 x2))], 0⟩)) := fun J => by kernel_rfl
  exact (h jn).trans (by
    simp only [jn_eq, ref01_at_l2_eq m]
    rfl)
theorem ref01_at_j0_eq (m : Nat) (x0 : ByteArray) (x1 : Dt) : e45 jn m [1, 1] [] ⟨tsOf [(1, (.dat 9 (.str x0))), (2, (.ptr 0 [] 0))], [(.box 30 (.dat 30 x1))], 0⟩ = ref01_at_j0 m x0 x1 := by
  have h : ∀ J, e45 J m [1, 1] [] ⟨tsOf [(1, (.dat 9 (.str x0))), (2, (.ptr 0 [] 0))], [(.box 30 (.dat 30 x1))], 0⟩ =
    (J 0 4 0 ⟨tsOf [(1, (.dat 9 (.str x0))), (2, (.ptr 0 [] 0)), (5, (.dat 3 (.int (0 : Int))))], [(.box 30 (.dat 30 x1))], 0⟩ (e45 J m [1, 1, 0, 1] [] ⟨tsOf [(1, (.dat 9 (.str x0))), (2, (.ptr 0 [] 0)), (5, (.dat 3 (.int (0 : Int))))], [(.box 30 (.dat 30 x1))], 0⟩)) := fun J => by kernel_rfl
  exact (h jn).trans (by
    simp only [jn_eq, ref01_at_j1_eq m]
    rfl)
theorem ref01_at_eq (m : Nat) (a0 : Dt) (a1 : ByteArray) : e45 jn m [] [] ⟨[(.dat 30 a0), (.dat 9 (.str a1))], [], 0⟩ = ref01_at (m + 1) a0 a1 := by
  have h : ∀ J, e45 J m [] [] ⟨[(.dat 30 a0), (.dat 9 (.str a1))], [], 0⟩ =
    (bif ((Dt.I a0 0) != (5 : Int)) then
      some (-1 : Int)
    else
      (J 0 3 0 ⟨tsOf [(1, (.dat 9 (.str a1))), (2, (.ptr 0 [] 0))], [(.box 30 (.dat 30 a0))], 0⟩ (e45 J m [1, 1] [] ⟨tsOf [(1, (.dat 9 (.str a1))), (2, (.ptr 0 [] 0))], [(.box 30 (.dat 30 a0))], 0⟩))) := fun J => by kernel_rfl
  refine (h jn).trans ?_
  simp only [jn_eq, ref01_at_j0_eq m]
  rfl
noncomputable def d43 (q : Res) : Option (Dt × Bool) := match q with
  | (.tup [.dat T0 x0, .dat T1 x1], []) => bif (Nat.beq T0 30 && Nat.beq T1 4) then some (x0, x1.toBool) else none
  | _ => none
theorem d43_sim {b : Res} {r : Dt × Bool} (h : d43 b = some r) : Sim Tryd.prog b ((.tup [(.dat 30 r.1), (.dat 4 (.bool r.2))]), []) := by
  unfold d43 at h
  split at h
  · obtain ⟨hc, h2⟩ := bif_some h
    cases h2
    have e0 := beq_eq (and_l hc)
    have e1 := beq_eq (and_r hc)
    subst e0 e1
    exact Sim.of (.tup (.cons .same (.cons (.dat (.bool Tryd.underlying4)) .nil))) .nil
  · cases h
noncomputable def e43 (J : Nat → Nat → Nat → St → Option (Dt × Bool) → Option (Dt × Bool)) (m : Nat) (p ms : List Nat) (σ : St) := evAt Tryd.prog env (ct m) J (m + 1) 88 19 Tryd.f88 d43 p ms σ
noncomputable def l43 (J : Nat → Nat → Nat → St → Option (Dt × Bool) → Option (Dt × Bool)) (m : Nat) (p ms : List Nat) (M : Nat) (σ : St) := loopAt Tryd.prog env (ct m) J (m + 1) 88 19 Tryd.f88 d43 p ms M σ
theorem ref01_Get_j0_eq (m : Nat) (x0 : Int) (x1 : Dt) (x2 : Dt) : e43 jn m [1, 1, 1] [] ⟨tsOf [(2, (.ptr 0 [] 0)), (4, (.ptr 1 [] 0)), (6, (.dat 3 (.int x0)))], [(.box 30 (.dat 30 x1)), (.box 30 (.dat 30 x2))], 0⟩ = ref01_Get_j0 m x0 x1 x2 := by
  have h : ∀ J, e43 J m [1, 1, 1] [] ⟨tsOf [(2, (.ptr 0 [] 0)), (4, (.ptr 1 [] 0)), (6, (.dat 3 (.int x0)))], [(.box 30 (.dat 30 x1)), (.box 30 (.dat 30 x2))], 0⟩ =
    ((idx (Dt.L x1 4) x0).bind fun v1 =>
      some ((Dt.fld v1 1), Bool.true)) := fun J => by kernel_rfl
  exact (h jn).trans (rfl)
theorem ref01_Get_eq (m : Nat) (a0 : Dt) (a1 : ByteArray) : e43 jn m [] [] ⟨[(.dat 30 a0), (.dat 9 (.str a1))], [], 0⟩ = ref01_Get (m + 1) a0 a1 := by
  have h : ∀ J, e43 J m [] [] ⟨[(.dat 30 a0), (.dat 9 (.str a1))], [], 0⟩ =
    ((ref01_at m a0 a1).bind fun r0 =>
      (bif (decide (r0 < (0 : Int))) then
        some ((Dt.agg [(Dt.int (0 : Int)), (Dt.int (0 : Int)), (Dt.str (ByteArray.mk (List.toArray []))), (Dt.lst []), (Dt.lst [])]), Bool.false)
      else
        (J 0 4 0 ⟨tsOf [(2, (.ptr 0 [] 0)), (4, (.ptr 1 [] 0)), (6, (.dat 3 (.int r0)))], [(.box 30 (.dat 30 a0)), (.box 30 (.dat 30 (Dt.agg [(Dt.int (0 : Int)), (Dt.int (0 : Int)), (Dt.str (ByteArray.mk (List.toArray []))), (Dt.lst []), (Dt.lst [])])))], 0⟩ (e43 J m [1, 1, 1] [] ⟨tsOf [(2, (.ptr 0 [] 0)), (4, (.ptr 1 [] 0)), (6, (.dat 3 (.int r0)))], [(.box 30 (.dat 30 a0)), (.box 30 (.dat 30 (Dt.agg [(Dt.int (0 : Int)), (Dt.int (0 : Int)), (Dt.str (ByteArray.mk (List.toArray []))), (Dt.lst []), (Dt.lst [])])))], 0⟩)))) := fun J => by kernel_rfl
  refine (h jn).trans ?_
  simp only [jn_eq, ref01_Get_j0_eq m]
  rfl
noncomputable def d42 (q : Res) : Option (List Dt) := match q with
  | (.dat T0 x0, []) => bif Nat.beq T0 27 then some x0.toLst else none
  | _ => none
theorem d42_sim {b : Res} {r : List Dt} (h : d42 b = some r) : Sim Tryd.prog b ((.dat 27 (.lst r)), []) := by
  unfold d42 at h
  split at h
  · obtain ⟨hc, h2⟩ := bif_some h
    cases h2
    have e0 := beq_eq hc
    subst e0
    exact Sim.of (.of (.dat (.lst Tryd.underlying27)) rfl rfl) .nil
  · cases h
noncomputable def e42 (J : Nat → Nat → Nat → St → Option (List Dt) → Option (List Dt)) (m : Nat) (p ms : List Nat) (σ : St) := evAt Tryd.prog env (ct m) J (m + 1) 80 84 Tryd.f80 d42 p ms σ
noncomputable def l42 (J : Nat → Nat → Nat → St → Option (List Dt) → Option (List Dt)) (m : Nat) (p ms : List Nat) (M : Nat) (σ : St) := loopAt Tryd.prog env (ct m) J (m + 1) 80 84 Tryd.f80 d42 p ms M σ
theorem ref04_Pass_j1_eq (m : Nat) : e42 jn m [1, 1, 0, 1, 0, 1, 1] [] ⟨tsOf [], [], 0⟩ = ref04_Pass_j1 m (ref04_Pass m) := by
  have h : ∀ J, e42 J m [1, 1, 0, 1, 0, 1, 1] [] ⟨tsOf [], [], 0⟩ =
    some [] := fun J => by kernel_rfl
  exact (h jn).trans (rfl)
theorem ref04_Pass_j7_eq (m : Nat) (M5 : Nat) (rec5 : List Dt → Int → Dt → List Dt → Option (List Dt)) (h5 : ∀ (x0 : List Dt) (x1 : Int) (x2 : Dt) (x3 : List Dt), l42 jn m [1, 1, 1, 1, 1, 0, 1, 0] [] M5 ⟨tsOf [(1, (.dat 45 (.lst x0))), (2, (.ptr 0 [] 0)), (7, (.row 1)), (8, (.dat 3 (.int x1)))], [(.box 30 (.dat 30 x2)), (.row 27 x3)], 0⟩ = rec5 x0 x1 x2 x3) (x0 : List Dt) (x1 : Int) (x2 : Dt) (x3 : List Dt) : e42 jn m [1, 1, 1, 1, 1, 0, 1, 0, 0, 1, 1] [M5] ⟨tsOf [(1, (.dat 45 (.lst x0))), (2, (.ptr 0 [] 0)), (7, (.row 1)), (8, (.dat 3 (.int x1)))], [(.box 30 (.dat 30 x2)), (.row 27 x3)], 0⟩ = ref04_Pass_j7 m (ref04_Pass m) rec5 x0 x1 x2 x3 := by
  have h : ∀ J, e42 J m [1, 1, 1, 1, 1, 0, 1, 0, 0, 1, 1] [M5] ⟨tsOf [(1, (.dat 45 (.lst x0))), (2, (.ptr 0 [] 0)), (7, (.row 1)), (8, (.dat 3 (.int x1)))], [(.box 30 (.dat 30 x2)), (.row 27 x3)], 0⟩ =
    (J 1 12 M5 ⟨tsOf [(1, (.dat 45 (.lst x0))), (2, (.ptr 0 [] 0)), (7, (.row 1)), (8, (.dat 3 (.int (IntKind.wrap IntKind.i64 (x1 + (1 : Int))))))], [(.box 30 (.dat 30 x2)), (.row 27 x3)], 0⟩ (l42 J m [1, 1, 1, 1, 1, 0, 1, 0] [] M5 ⟨tsOf [(1, (.dat 45 (.lst x0))), (2, (.ptr 0 [] 0)), (7, (.row 1)), (8, (.dat 3 (.int (IntKind.wrap IntKind.i64 (x1 + (1 : Int))))))], [(.box 30 (.dat 30 x2)), (.row 27 x3)], 0⟩)) := fun J => by kernel_rfl
  exact (h jn).trans (by
    simp only [jn_eq, h5]
    rfl)
theorem ref04_Pass_j6_eq (m : Nat) (M5 : Nat) (rec5 : List Dt → Int → Dt → List Dt → Option (List Dt)) (h5 : ∀ (x0 : List Dt) (x1 : Int) (x2 : Dt) (x3 : List Dt), l42 jn m [1, 1, 1, 1, 1, 0, 1, 0] [] M5 ⟨tsOf [(1, (.dat 45 (.lst x0))), (2, (.ptr 0 [] 0)), (7, (.row 1)), (8, (.dat 3 (.int x1)))], [(.box 30 (.dat 30 x2)), (.row 27 x3)], 0⟩ = rec5 x0 x1 x2 x3) (x0 : List Dt) (x1 : Int) (x2 : Dt) (x3 : List Dt) : e42 jn m [1, 1, 1, 1, 1, 0, 1, 0, 0, 1] [M5] ⟨tsOf [(1, (.dat 45 (.lst x0))), (2, (.ptr 0 [] 0)), (7, (.row 1)), (8, (.dat 3 (.int x1)))], [(.box 30 (.dat 30 x2)), (.row 27 x3)], 0⟩ = ref04_Pass_j6 m (ref04_Pass m) rec5 x0 x1 x2 x3 := by
  have h : ∀ J, e42 J m [1, 1, 1, 1, 1, 0, 1, 0, 0, 1] [M5] ⟨tsOf [(1, (.dat 45 (.lst x0))), (2, (.ptr 0 [] 0)), (7, (.row 1)), (8, (.dat 3 (.int x1)))], [(.box 30 (.dat 30 x2)), (.row 27 x3)], 0⟩ =
    ((idx (Dt.L x2 3) x1).bind fun v4 =>
      (bif ((Dt.I v4 0) == (5 : Int)) then
        ((idx (Dt.L x2 3) x1).bind fun v5 =>
          ((ref04_Pass m v5 x0).bind fun r6 =>
            ((app x3 r6).bind fun v7 =>
              (J 0 13 0 ⟨tsOf [(1, (.dat 45 (.lst x0))), (2, (.ptr 0 [] 0)), (7, (.row 1)), (8, (.dat 3 (.int x1)))], [(.box 30 (.dat 30 x2)), (.row 27 v7)], 0⟩ (e42 J m [1, 1, 1, 1, 1, 0, 1, 0, 0, 1, 1] [M5] ⟨tsOf [(1, (.dat 45 (.lst x0))), (2, (.ptr 0 [] 0)), (7, (.row 1)), (8, (.dat 3 (.int x1)))], [(.box 30 (.dat 30 x2)), (.row 27 v7)], 0⟩)))))
      else
        (J 0 13 0 ⟨tsOf [(1, (.dat 45 (.lst x0))), (2, (.ptr 0 [] 0)), (7, (.row 1)), (8, (.dat 3 (.int x1)))], [(.box 30 (.dat 30 x2)), (.row 27 x3)], 0⟩ (e42 J m [1, 1, 1, 1, 1, 0, 1, 0, 0, 1, 1] [M5] ⟨tsOf [(1, (.dat 45 (.lst x0))), (2, (.ptr 0 [] 0)), (7, (.row 1)), (8, (.dat 3 (.int x1)))], [(.box 30 (.dat 30 x2)), (.row 27 x3)], 0⟩)))) := fun J => by kernel_rfl
  exact (h jn).trans (by
    simp only [jn_eq, ref04_Pass_j7_eq m M5 rec5 h5]
    rfl)
theorem ref04_Pass_j9_eq (m : Nat) (x0 : List Dt) : e42 jn m [1, 1, 1, 1, 1, 1, 1, 1] [] ⟨tsOf [(7, (.row 0))], [(.row 27 x0)], 0⟩ = ref04_Pass_j9 m (ref04_Pass m) x0 := by
  have h : ∀ J, e42 J m [1, 1, 1, 1, 1, 1, 1, 1] [] ⟨tsOf [(7, (.row 0))], [(.row 27 x0)], 0⟩ =
    some x0 := fun J => by kernel_rfl
  exact (h jn).trans (rfl)
theorem ref04_Pass_j8_eq (m : Nat) (x0 : List Dt) (x1 : Dt) (x2 : List Dt) : e42 jn m [1, 1, 1, 1, 1, 1] [] ⟨tsOf [(1, (.dat 45 (.lst x0))), (2, (.ptr 0 [] 0)), (7, (.row 1))], [(.box 30 (.dat 30 x1)), (.row 27 x2)], 0⟩ = ref04_Pass_j8 m (ref04_Pass m) x0 x1 x2 := by
  have h : ∀ J, e42 J m [1, 1, 1, 1, 1, 1] [] ⟨tsOf [(1, (.dat 45 (.lst x0))), (2, (.ptr 0 [] 0)), (7, (.row 1))], [(.box 30 (.dat 30 x1)), (.row 27 x2)], 0⟩ =
    ((idx x0 (0 : Int)).bind fun v8 =>
      ((ref04_Number m (Dt.toStr v8)).bind fun r9 =>
        (bif (Prod.snd r9) then
          (bif (decide ((Prod.fst r9) < (((List.length (Dt.L x1 3)) : Nat) : Int))) then
            ((idx (Dt.L x1 3) (Prod.fst r9)).bind fun v10 =>
              ((cutL x0 (1 : Int) (((List.length x0) : Nat) : Int)).bind fun v11 =>
                ((ref04_Pass m v10 v11).bind fun r12 =>
                  ((app x2 r12).bind fun v13 =>
                    (J 0 19 0 ⟨tsOf [(7, (.row 0))], [(.row 27 v13)], 0⟩ (e42 J m [1, 1, 1, 1, 1, 1, 1, 1] [] ⟨tsOf [(7, (.row 0))], [(.row 27 v13)], 0⟩))))))
          else
            (J 0 19 0 ⟨tsOf [(7, (.row 0))], [(.row 27 x2)], 0⟩ (e42 J m [1, 1, 1, 1, 1, 1, 1, 1] [] ⟨tsOf [(7, (.row 0))], [(.row 27 x2)], 0⟩)))
        else
          (J 0 19 0 ⟨tsOf [(7, (.row 0))], [(.row 27 x2)], 0⟩ (e42 J m [1, 1, 1, 1, 1, 1, 1, 1] [] ⟨tsOf [(7, (.row 0))], [(.row 27 x2)], 0⟩))))) := fun J => by kernel_rfl
  exact (h jn).trans (by
    simp only [jn_eq, ref04_Pass_j9_eq m]
    rfl)
theorem ref04_Pass_l5_eq (m : Nat) : ∀ (M5 : Nat) (x0 : List Dt) (x1 : Int) (x2 : Dt) (x3 : List Dt), l42 jn m [1, 1, 1, 1, 1, 0, 1, 0] [] M5 ⟨tsOf [(1, (.dat 45 (.lst x0))), (2, (.ptr 0 [] 0)), (7, (.row 1)), (8, (.dat 3 (.int x1)))], [(.box 30 (.dat 30 x2)), (.row 27 x3)], 0⟩ = ref04_Pass_l5 m (ref04_Pass m) M5 x0 x1 x2 x3
  | 0, _, _, _, _ => rfl
  | M5 + 1, x0, x1, x2, x3 => by
    have h : ∀ J, l42 J m [1, 1, 1, 1, 1, 0, 1, 0] [] (M5 + 1) ⟨tsOf [(1, (.dat 45 (.lst x0))), (2, (.ptr 0 [] 0)), (7, (.row 1)), (8, (.dat 3 (.int x1)))], [(.box 30 (.dat 30 x2)), (.row 27 x3)], 0⟩ =
    (bif (decide (x1 < (((List.length (Dt.L x2 3)) : Nat) : Int))) then
      (J 0 14 0 ⟨tsOf [(1, (.dat 45 (.lst x0))), (2, (.ptr 0 [] 0)), (7, (.row 1)), (8, (.dat 3 (.int x1)))], [(.box 30 (.dat 30 x2)), (.row 27 x3)], 0⟩ (e42 J m [1, 1, 1, 1, 1, 0, 1, 0, 0, 1] [M5] ⟨tsOf [(1, (.dat 45 (.lst x0))), (2, (.ptr 0 [] 0)), (7, (.row 1)), (8, (.dat 3 (.int x1)))], [(.box 30 (.dat 30 x2)), (.row 27 x3)], 0⟩))
    else
      (J 0 16 0 ⟨tsOf [(1, (.dat 45 (.lst x0))), (2, (.ptr 0 [] 0)), (7, (.row 1))], [(.box 30 (.dat 30 x2)), (.row 27 x3)], 0⟩ (e42 J m [1, 1, 1, 1, 1, 1] [] ⟨tsOf [(1, (.dat 45 (.lst x0))), (2, (.ptr 0 [] 0)), (7, (.row 1))], [(.box 30 (.dat 30 x2)), (.row 27 x3)], 0⟩))) := fun J => by kernel_rfl
    refine (h jn).trans ?_
    simp only [jn_eq, ref04_Pass_j6_eq m M5 (ref04_Pass_l5 m (ref04_Pass m) M5) (fun x0 x1 x2 x3 => ref04_Pass_l5_eq m M5 x0 x1 x2 x3), ref04_Pass_j8_eq m]
    rfl
theorem ref04_Pass_j4_eq (m : Nat) (x0 : List Dt) (x1 : Int) (x2 : Dt) (x3 : List Dt) : e42 jn m [1, 1, 1, 1, 1, 0, 1] [] ⟨tsOf [(1, (.dat 45 (.lst x0))), (2, (.ptr 0 [] 0)), (7, (.row 1)), (8, (.dat 3 (.int x1)))], [(.box 30 (.dat 30 x2)), (.row 27 x3)], 0⟩ = ref04_Pass_j4 m (ref04_Pass m) x0 x1 x2 x3 := by
  have h : ∀ J, e42 J m [1, 1, 1, 1, 1, 0, 1] [] ⟨tsOf [(1, (.dat 45 (.lst x0))), (2, (.ptr 0 [] 0)), (7, (.row 1)), (8, (.dat 3 (.int x1)))], [(.box 30 (.dat 30 x2)), (.row 27 x3)], 0⟩ =
    (J 1 12 (Nat.succ m) ⟨tsOf [(1, (.dat 45 (.lst x0))), (2, (.ptr 0 [] 0)), (7, (.row 1)), (8, (.dat 3 (.int x1)))], [(.box 30 (.dat 30 x2)), (.row 27 x3)], 0⟩ (l42 J m [1, 1, 1, 1, 1, 0, 1, 0] [] (Nat.succ m) ⟨tsOf [(1, (.dat 45 (.lst x0))), (2, (.ptr 0 [] 0)), (7, (.row 1)), (8, (.dat 3 (.int x1)))], [(.box 30 (.dat 30 x2)), (.row 27 x3)], 0⟩)) := fun J => by kernel_rfl
  exact (h jn).trans (by
    simp only [jn_eq, ref04_Pass_l5_eq m]
    rfl)
theorem ref04_Pass_j3_eq (m : Nat) (x0 : List Dt) (x1 : Dt) : e42 jn m [1, 1, 1, 1] [] ⟨tsOf [(1, (.dat 45 (.lst x0))), (2, (.ptr 0 [] 0))], [(.box 30 (.dat 30 x1))], 0⟩ = ref04_Pass_j3 m (ref04_Pass m) x0 x1 := by
  have h : ∀ J, e42 J m [1, 1, 1, 1] [] ⟨tsOf [(1, (.dat 45 (.lst x0))), (2, (.ptr 0 [] 0))], [(.box 30 (.dat 30 x1))], 0⟩ =
    (J 0 12 0 ⟨tsOf [(1, (.dat 45 (.lst x0))), (2, (.ptr 0 [] 0)), (7, (.row 1)), (8, (.dat 3 (.int (0 : Int))))], [(.box 30 (.dat 30 x1)), (.row 27 [])], 0⟩ (e42 J m [1, 1, 1, 1, 1, 0, 1] [] ⟨tsOf [(1, (.dat 45 (.lst x0))), (2, (.ptr 0 [] 0)), (7, (.row 1)), (8, (.dat 3 (.int (0 : Int))))], [(.box 30 (.dat 30 x1)), (.row 27 [])], 0⟩)) := fun J => by kernel_rfl
  exact (h jn).trans (by
    simp only [jn_eq, ref04_Pass_j4_eq m]
    rfl)
theorem ref04_Pass_j2_eq (m : Nat) (x0 : List Dt) (x1 : Dt) : e42 jn m [1, 1, 1] [] ⟨tsOf [(1, (.dat 45 (.lst x0))), (2, (.ptr 0 [] 0))], [(.box 30 (.dat 30 x1))], 0⟩ = ref04_Pass_j2 m (ref04_Pass m) x0 x1 := by
  have h : ∀ J, e42 J m [1, 1, 1] [] ⟨tsOf [(1, (.dat 45 (.lst x0))), (2, (.ptr 0 [] 0))], [(.box 30 (.dat 30 x1))], 0⟩ =
    (bif ((Dt.I x1 0) != (6 : Int)) then
      some []
    else
      (J 0 10 0 ⟨tsOf [(1, (.dat 45 (.lst x0))), (2, (.ptr 0 [] 0))], [(.box 30 (.dat 30 x1))], 0⟩ (e42 J m [1, 1, 1, 1] [] ⟨tsOf [(1, (.dat 45 (.lst x0))), (2, (.ptr 0 [] 0))], [(.box 30 (.dat 30 x1))], 0⟩))) := fun J => by kernel_rfl
  exact (h jn).trans (by
    simp only [jn_eq, ref04_Pass_j3_eq m]
    rfl)
theorem ref04_Pass_j0_eq (m : Nat) (x0 : List Dt) (x1 : Dt) : e42 jn m [1, 1] [] ⟨tsOf [(1, (.dat 45 (.lst x0))), (2, (.ptr 0 [] 0))], [(.box 30 (.dat 30 x1))], 0⟩ = ref04_Pass_j0 m (ref04_Pass m) x0 x1 := by
  have h : ∀ J, e42 J m [1, 1] [] ⟨tsOf [(1, (.dat 45 (.lst x0))), (2, (.ptr 0 [] 0))], [(.box 30 (.dat 30 x1))], 0⟩ =
    (bif ((Dt.I x1 0) == (5 : Int)) then
      ((idx x0 (0 : Int)).bind fun v0 =>
        ((ref01_Get m x1 (Dt.toStr v0)).bind fun r1 =>
          (bif (Prod.snd r1) then
            ((cutL x0 (1 : Int) (((List.length x0) : Nat) : Int)).bind fun v2 =>
              ((ref04_Pass m (Prod.fst r1) v2).bind fun r3 =>
                some r3))
          else
            (J 0 7 0 ⟨tsOf [], [], 0⟩ (e42 J m [1, 1, 0, 1, 0, 1, 1] [] ⟨tsOf [], [], 0⟩)))))
    else
      (J 0 8 0 ⟨tsOf [(1, (.dat 45 (.lst x0))), (2, (.ptr 0 [] 0))], [(.box 30 (.dat 30 x1))], 0⟩ (e42 J m [1, 1, 1] [] ⟨tsOf [(1, (.dat 45 (.lst x0))), (2, (.ptr 0 [] 0))], [(.box 30 (.dat 30 x1))], 0⟩))) := fun J => by kernel_rfl
  exact (h jn).trans (by
    simp only [jn_eq, ref04_Pass_j1_eq m, ref04_Pass_j2_eq m]
    rfl)
theorem ref04_Pass_eq (m : Nat) (a0 : Dt) (a1 : List Dt) : e42 jn m [] [] ⟨[(.dat 30 a0), (.dat 45 (.lst a1))], [], 0⟩ = ref04_Pass (m + 1) a0 a1 := by
  have h : ∀ J, e42 J m [] [] ⟨[(.dat 30 a0), (.dat 45 (.lst a1))], [], 0⟩ =
    (bif ((((List.length a1) : Nat) : Int) == (0 : Int)) then
      some [a0]
    else
      (J 0 3 0 ⟨tsOf [(1, (.dat 45 (.lst a1))), (2, (.ptr 0 [] 0))], [(.box 30 (.dat 30 a0))], 0⟩ (e42 J m [1, 1] [] ⟨tsOf [(1, (.dat 45 (.lst a1))), (2, (.ptr 0 [] 0))], [(.box 30 (.dat 30 a0))], 0⟩))) := fun J => by kernel_rfl
  refine (h jn).trans ?_
  simp only [jn_eq, ref04_Pass_j0_eq m]
  rfl
noncomputable def d36 (q : Res) : Option (List Dt) := match q with
  | (.dat T0 x0, []) => bif Nat.beq T0 27 then some x0.toLst else none
  | _ => none
theorem d36_sim {b : Res} {r : List Dt} (h : d36 b = some r) : Sim Tryd.prog b ((.dat 27 (.lst r)), []) := by
  unfold d36 at h
  split at h
  · obtain ⟨hc, h2⟩ := bif_some h
    cases h2
    have e0 := beq_eq hc
    subst e0
    exact Sim.of (.of (.dat (.lst Tryd.underlying27)) rfl rfl) .nil
  · cases h
noncomputable def e36 (J : Nat → Nat → Nat → St → Option (List Dt) → Option (List Dt)) (m : Nat) (p ms : List Nat) (σ : St) := evAt Tryd.prog env (ct m) J (m + 1) 68 15 Tryd.f68 d36 p ms σ
noncomputable def l36 (J : Nat → Nat → Nat → St → Option (List Dt) → Option (List Dt)) (m : Nat) (p ms : List Nat) (M : Nat) (σ : St) := loopAt Tryd.prog env (ct m) J (m + 1) 68 15 Tryd.f68 d36 p ms M σ
theorem ref04_Reach_j0_eq (m : Nat) (x0 : List Dt) : e36 jn m [1, 1, 1] [] ⟨tsOf [(5, (.dat 27 (.lst x0)))], [], 0⟩ = ref04_Reach_j0 m x0 := by
  have h : ∀ J, e36 J m [1, 1, 1] [] ⟨tsOf [(5, (.dat 27 (.lst x0)))], [], 0⟩ =
    some x0 := fun J => by kernel_rfl
  exact (h jn).trans (rfl)
theorem ref04_Reach_eq (m : Nat) (a0 : Dt) (a1 : List Dt) : e36 jn m [] [] ⟨[(.dat 30 a0), (.dat 45 (.lst a1))], [], 0⟩ = ref04_Reach (m + 1) a0 a1 := by
  have h : ∀ J, e36 J m [] [] ⟨[(.dat 30 a0), (.dat 45 (.lst a1))], [], 0⟩ =
    ((ref04_Pass m a0 a1).bind fun r0 =>
      (bif ((((List.length r0) : Nat) : Int) == (0 : Int)) then
        some [(Dt.agg [(Dt.int (0 : Int)), (Dt.int (0 : Int)), (Dt.str (ByteArray.mk (List.toArray []))), (Dt.lst []), (Dt.lst [])])]
      else
        (J 0 4 0 ⟨tsOf [(5, (.dat 27 (.lst r0)))], [], 0⟩ (e36 J m [1, 1, 1] [] ⟨tsOf [(5, (.dat 27 (.lst r0)))], [], 0⟩)))) := fun J => by kernel_rfl
  refine (h jn).trans ?_
  simp only [jn_eq, ref04_Reach_j0_eq m]
  rfl
noncomputable def d23 (q : Res) : Option (List Dt) := match q with
  | (.dat T0 x0, []) => bif Nat.beq T0 27 then some x0.toLst else none
  | _ => none
theorem d23_sim {b : Res} {r : List Dt} (h : d23 b = some r) : Sim Tryd.prog b ((.dat 27 (.lst r)), []) := by
  unfold d23 at h
  split at h
  · obtain ⟨hc, h2⟩ := bif_some h
    cases h2
    have e0 := beq_eq hc
    subst e0
    exact Sim.of (.of (.dat (.lst Tryd.underlying27)) rfl rfl) .nil
  · cases h
noncomputable def e23 (J : Nat → Nat → Nat → St → Option (List Dt) → Option (List Dt)) (m : Nat) (p ms : List Nat) (σ : St) := evAt Tryd.prog env (ct m) J (m + 1) 52 57 Tryd.f52 d23 p ms σ
noncomputable def l23 (J : Nat → Nat → Nat → St → Option (List Dt) → Option (List Dt)) (m : Nat) (p ms : List Nat) (M : Nat) (σ : St) := loopAt Tryd.prog env (ct m) J (m + 1) 52 57 Tryd.f52 d23 p ms M σ
theorem ref12_Values_j3_eq (m : Nat) (M1 : Nat) (rec1 : List Dt → Int → List Dt → Option (List Dt)) (h1 : ∀ (x0 : List Dt) (x1 : Int) (x2 : List Dt), l23 jn m [1, 1, 1, 0, 1, 0] [] M1 ⟨tsOf [(5, (.dat 27 (.lst x0))), (6, (.row 0)), (7, (.dat 3 (.int x1)))], [(.row 27 x2)], 0⟩ = rec1 x0 x1 x2) (x0 : List Dt) (x1 : Int) (x2 : List Dt) : e23 jn m [1, 1, 1, 0, 1, 0, 0, 1, 1] [M1] ⟨tsOf [(5, (.dat 27 (.lst x0))), (6, (.row 0)), (7, (.dat 3 (.int x1)))], [(.row 27 x2)], 0⟩ = ref12_Values_j3 m rec1 x0 x1 x2 := by
  have h : ∀ J, e23 J m [1, 1, 1, 0, 1, 0, 0, 1, 1] [M1] ⟨tsOf [(5, (.dat 27 (.lst x0))), (6, (.row 0)), (7, (.dat 3 (.int x1)))], [(.row 27 x2)], 0⟩ =
    (J 1 4 M1 ⟨tsOf [(5, (.dat 27 (.lst x0))), (6, (.row 0)), (7, (.dat 3 (.int (IntKind.wrap IntKind.i64 (x1 + (1 : Int))))))], [(.row 27 x2)], 0⟩ (l23 J m [1, 1, 1, 0, 1, 0] [] M1 ⟨tsOf [(5, (.dat 27 (.lst x0))), (6, (.row 0)), (7, (.dat 3 (.int (IntKind.wrap IntKind.i64 (x1 + (1 : Int))))))], [(.row 27 x2)], 0⟩)) := fun J => by kernel_rfl
  exact (h jn).trans (by
    simp only [jn_eq, h1]
    rfl)
theorem ref12_Values_j2_eq (m : Nat) (M1 : Nat) (rec1 : List Dt → Int → List Dt → Option (List Dt)) (h1 : ∀ (x0 : List Dt) (x1 : Int) (x2 : List Dt), l23 jn m [1, 1, 1, 0, 1, 0] [] M1 ⟨tsOf [(5, (.dat 27 (.lst x0))), (6, (.row 0)), (7, (.dat 3 (.int x1)))], [(.row 27 x2)], 0⟩ = rec1 x0 x1 x2) (x0 : List Dt) (x1 : Int) (x2 : List Dt) : e23 jn m [1, 1, 1, 0, 1, 0, 0, 1] [M1] ⟨tsOf [(5, (.dat 27 (.lst x0))), (6, (.row 0)), (7, (.dat 3 (.int x1)))], [(.row 27 x2)], 0⟩ = ref12_Values_j2 m rec1 x0 x1 x2 := by
  have h : ∀ J, e23 J m [1, 1, 1, 0, 1, 0, 0, 1] [M1] ⟨tsOf [(5, (.dat 27 (.lst x0))), (6, (.row 0)), (7, (.dat 3 (.int x1)))], [(.row 27 x2)], 0⟩ =
    ((idx x0 x1).bind fun v1 =>
      (bif ((Dt.I v1 0) == (0 : Int)) then
        ((app x2 [(Dt.agg [(Dt.int (2 : Int)), (Dt.int (0 : Int)), (Dt.str (ByteArray.mk (List.toArray []))), (Dt.lst []), (Dt.lst [])])]).bind fun v2 =>
          (J 0 5 0 ⟨tsOf [(5, (.dat 27 (.lst x0))), (6, (.row 0)), (7, (.dat 3 (.int x1)))], [(.row 27 v2)], 0⟩ (e23 J m [1, 1, 1, 0, 1, 0, 0, 1, 1] [M1] ⟨tsOf [(5, (.dat 27 (.lst x0))), (6, (.row 0)), (7, (.dat 3 (.int x1)))], [(.row 27 v2)], 0⟩)))
      else
        ((idx x0 x1).bind fun v3 =>
          (bif ((Dt.I v3 0) == (6 : Int)) then
            ((idx x0 x1).bind fun v4 =>
              (bif (decide ((0 : Int) < (((List.length (Dt.L v4 3)) : Nat) : Int))) then
                ((idx x0 x1).bind fun v5 =>
                  ((app x2 (Dt.L v5 3)).bind fun v6 =>
                    (J 0 5 0 ⟨tsOf [(5, (.dat 27 (.lst x0))), (6, (.row 0)), (7, (.dat 3 (.int x1)))], [(.row 27 v6)], 0⟩ (e23 J m [1, 1, 1, 0, 1, 0, 0, 1, 1] [M1] ⟨tsOf [(5, (.dat 27 (.lst x0))), (6, (.row 0)), (7, (.dat 3 (.int x1)))], [(.row 27 v6)], 0⟩))))
              else
                ((idx x0 x1).bind fun v7 =>
                  ((app x2 [v7]).bind fun v8 =>
                    (J 0 5 0 ⟨tsOf [(5, (.dat 27 (.lst x0))), (6, (.row 0)), (7, (.dat 3 (.int x1)))], [(.row 27 v8)], 0⟩ (e23 J m [1, 1, 1, 0, 1, 0, 0, 1, 1] [M1] ⟨tsOf [(5, (.dat 27 (.lst x0))), (6, (.row 0)), (7, (.dat 3 (.int x1)))], [(.row 27 v8)], 0⟩))))))
          else
            ((idx x0 x1).bind fun v9 =>
              ((app x2 [v9]).bind fun v10 =>
                (J 0 5 0 ⟨tsOf [(5, (.dat 27 (.lst x0))), (6, (.row 0)), (7, (.dat 3 (.int x1)))], [(.row 27 v10)], 0⟩ (e23 J m [1, 1, 1, 0, 1, 0, 0, 1, 1] [M1] ⟨tsOf [(5, (.dat 27 (.lst x0))), (6, (.row 0)), (7, (.dat 3 (.int x1)))], [(.row 27 v10)], 0⟩)))))))) := fun J => by kernel_rfl
  exact (h jn).trans (by
    simp only [jn_eq, ref12_Values_j3_eq m M1 rec1 h1]
    rfl)
theorem ref12_Values_j4_eq (m : Nat) (x0 : List Dt) : e23 jn m [1, 1, 1, 1] [] ⟨tsOf [(6, (.row 0))], [(.row 27 x0)], 0⟩ = ref12_Values_j4 m x0 := by
  have h : ∀ J, e23 J m [1, 1, 1, 1] [] ⟨tsOf [(6, (.row 0))], [(.row 27 x0)], 0⟩ =
    some x0 := fun J => by kernel_rfl
  exact (h jn).trans (rfl)
theorem ref12_Values_l1_eq (m : Nat) : ∀ (M1 : Nat) (x0 : List Dt) (x1 : Int) (x2 : List Dt), l23 jn m [1, 1, 1, 0, 1, 0] [] M1 ⟨tsOf [(5, (.dat 27 (.lst x0))), (6, (.row 0)), (7, (.dat 3 (.int x1)))], [(.row 27 x2)], 0⟩ = ref12_Values_l1 m M1 x0 x1 x2
  | 0, _, _, _ => rfl
  | M1 + 1, x0, x1, x2 => by
    have h : ∀ J, l23 J m [1, 1, 1, 0, 1, 0] [] (M1 + 1) ⟨tsOf [(5, (.dat 27 (.lst x0))), (6, (.row 0)), (7, (.dat 3 (.int x1)))], [(.row 27 x2)], 0⟩ =
    (bif (decide (x1 < (((List.length x0) : Nat) : Int))) then
      (J 0 6 0 ⟨tsOf [(5, (.dat 27 (.lst x0))), (6, (.row 0)), (7, (.dat 3 (.int x1)))], [(.row 27 x2)], 0⟩ (e23 J m [1, 1, 1, 0, 1, 0, 0, 1] [M1] ⟨tsOf [(5, (.dat 27 (.lst x0))), (6, (.row 0)), (7, (.dat 3 (.int x1)))], [(.row 27 x2)], 0⟩))
    else
      (J 0 11 0 ⟨tsOf [(6, (.row 0))], [(.row 27 x2)], 0⟩ (e23 J m [1, 1, 1, 1] [] ⟨tsOf [(6, (.row 0))], [(.row 27 x2)], 0⟩))) := fun J => by kernel_rfl
    refine (h jn).trans ?_
    simp only [jn_eq, ref12_Values_j2_eq m M1 (ref12_Values_l1 m M1) (fun x0 x1 x2 => ref12_Values_l1_eq m M1 x0 x1 x2), ref12_Values_j4_eq m]
    rfl
theorem ref12_Values_j0_eq (m : Nat) (x0 : List Dt) (x1 : Int) (x2 : List Dt) : e23 jn m [1, 1, 1, 0, 1] [] ⟨tsOf [(5, (.dat 27 (.lst x0))), (6, (.row 0)), (7, (.dat 3 (.int x1)))], [(.row 27 x2)], 0⟩ = ref12_Values_j0 m x0 x1 x2 := by
  have h : ∀ J, e23 J m [1, 1, 1, 0, 1] [] ⟨tsOf [(5, (.dat 27 (.lst x0))), (6, (.row 0)), (7, (.dat 3 (.int x1)))], [(.row 27 x2)], 0⟩ =
    (J 1 4 (Nat.succ m) ⟨tsOf [(5, (.dat 27 (.lst x0))), (6, (.row 0)), (7, (.dat 3 (.int x1)))], [(.row 27 x2)], 0⟩ (l23 J m [1, 1, 1, 0, 1, 0] [] (Nat.succ m) ⟨tsOf [(5, (.dat 27 (.lst x0))), (6, (.row 0)), (7, (.dat 3 (.int x1)))], [(.row 27 x2)], 0⟩)) := fun J => by kernel_rfl
  exact (h jn).trans (by
    simp only [jn_eq, ref12_Values_l1_eq m]
    rfl)
theorem ref12_Values_eq (m : Nat) (a0 : Dt) (a1 : List Dt) : e23 jn m [] [] ⟨[(.dat 30 a0), (.dat 45 (.lst a1))], [], 0⟩ = ref12_Values (m + 1) a0 a1 := by
  have h : ∀ J, e23 J m [] [] ⟨[(.dat 30 a0), (.dat 45 (.lst a1))], [], 0⟩ =
    ((ref04_Reach m a0 a1).bind fun r0 =>
      (J 0 4 0 ⟨tsOf [(5, (.dat 27 (.lst r0))), (6, (.row 0)), (7, (.dat 3 (.int (0 : Int))))], [(.row 27 [])], 0⟩ (e23 J m [1, 1, 1, 0, 1] [] ⟨tsOf [(5, (.dat 27 (.lst r0))), (6, (.row 0)), (7, (.dat 3 (.int (0 : Int))))], [(.row 27 [])], 0⟩))) := fun J => by kernel_rfl
  refine (h jn).trans ?_
  simp only [jn_eq, ref12_Values_j0_eq m]
  rfl
end Go.Proofs.YtacchdeihafmnaaDoor
