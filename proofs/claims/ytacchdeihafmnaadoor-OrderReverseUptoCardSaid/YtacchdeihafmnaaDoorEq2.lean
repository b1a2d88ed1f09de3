/- Generated: each function's run in the abstract machine is its shallow function. -/
import Derived.Test.YtacchdeihafmnaaDoorCt
import Derived.Test.YtacchdeihafmnaaDoorAmEnv
import Derived.KernelRfl
set_option linter.unusedVariables false
set_option linter.unusedSimpArgs false
namespace Go.Proofs.YtacchdeihafmnaaDoor
open Go.Am
set_option maxRecDepth 100000
noncomputable def d14 (q : Res) : Option (Dt) := match q with
  | (.dat T0 x0, []) => bif Nat.beq T0 30 then some x0 else none
  | _ => none
theorem d14_sim {b : Res} {r : Dt} (h : d14 b = some r) : Sim Tryd.prog b ((.dat 30 r), []) := by
  unfold d14 at h
  split at h
  · obtain ⟨hc, h2⟩ := bif_some h
    cases h2
    have e0 := beq_eq hc
    subst e0
    exact Sim.of (.of .same rfl rfl) .nil
  · cases h
noncomputable def e14 (J : Nat → Nat → Nat → St → Option (Dt) → Option (Dt)) (m : Nat) (p ms : List Nat) (σ : St) := evAt Tryd.prog env (ct m) J (m + 1) 38 48 Tryd.f38 d14 p ms σ
noncomputable def l14 (J : Nat → Nat → Nat → St → Option (Dt) → Option (Dt)) (m : Nat) (p ms : List Nat) (M : Nat) (σ : St) := loopAt Tryd.prog env (ct m) J (m + 1) 38 48 Tryd.f38 d14 p ms M σ
theorem ref12_key_j3_eq (m : Nat) (M1 : Nat) (rec1 : List Dt → Int → Dt → Dt → Dt → Option (Dt)) (h1 : ∀ (x0 : List Dt) (x1 : Int) (x2 : Dt) (x3 : Dt) (x4 : Dt), l14 jn m [1, 1, 1, 0, 1, 0] [] M1 ⟨tsOf [(2, (.ptr 0 [] 0)), (4, (.ptr 1 [] 0)), (5, (.dat 27 (.lst x0))), (6, (.ptr 2 [] 0)), (7, (.dat 3 (.int x1)))], [(.box 47 (.dat 47 x2)), (.box 30 (.dat 30 x3)), (.box 30 (.dat 30 x4))], 0⟩ = rec1 x0 x1 x2 x3 x4) (x0 : List Dt) (x1 : Int) (x2 : Dt) (x3 : Dt) (x4 : Dt) : e14 jn m [1, 1, 1, 0, 1, 0, 0, 1, 1] [M1] ⟨tsOf [(2, (.ptr 0 [] 0)), (4, (.ptr 1 [] 0)), (5, (.dat 27 (.lst x0))), (6, (.ptr 2 [] 0)), (7, (.dat 3 (.int x1)))], [(.box 47 (.dat 47 x2)), (.box 30 (.dat 30 x3)), (.box 30 (.dat 30 x4))], 0⟩ = ref12_key_j3 m rec1 x0 x1 x2 x3 x4 := by
  have h : ∀ J, e14 J m [1, 1, 1, 0, 1, 0, 0, 1, 1] [M1] ⟨tsOf [(2, (.ptr 0 [] 0)), (4, (.ptr 1 [] 0)), (5, (.dat 27 (.lst x0))), (6, (.ptr 2 [] 0)), (7, (.dat 3 (.int x1)))], [(.box 47 (.dat 47 x2)), (.box 30 (.dat 30 x3)), (.box 30 (.dat 30 x4))], 0⟩ =
    (J 1 4 M1 ⟨tsOf [(2, (.ptr 0 [] 0)), (4, (.ptr 1 [] 0)), (5, (.dat 27 (.lst x0))), (6, (.ptr 2 [] 0)), (7, (.dat 3 (.int (IntKind.wrap IntKind.i64 (x1 + (1 : Int))))))], [(.box 47 (.dat 47 x2)), (.box 30 (.dat 30 x3)), (.box 30 (.dat 30 x4))], 0⟩ (l14 J m [1, 1, 1, 0, 1, 0] [] M1 ⟨tsOf [(2, (.ptr 0 [] 0)), (4, (.ptr 1 [] 0)), (5, (.dat 27 (.lst x0))), (6, (.ptr 2 [] 0)), (7, (.dat 3 (.int (IntKind.wrap IntKind.i64 (x1 + (1 : Int))))))], [(.box 47 (.dat 47 x2)), (.box 30 (.dat 30 x3)), (.box 30 (.dat 30 x4))], 0⟩)) := fun J => by kernel_rfl
  exact (h jn).trans (by
    simp only [jn_eq, h1]
    rfl)
theorem ref12_key_j2_eq (m : Nat) (M1 : Nat) (rec1 : List Dt → Int → Dt → Dt → Dt → Option (Dt)) (h1 : ∀ (x0 : List Dt) (x1 : Int) (x2 : Dt) (x3 : Dt) (x4 : Dt), l14 jn m [1, 1, 1, 0, 1, 0] [] M1 ⟨tsOf [(2, (.ptr 0 [] 0)), (4, (.ptr 1 [] 0)), (5, (.dat 27 (.lst x0))), (6, (.ptr 2 [] 0)), (7, (.dat 3 (.int x1)))], [(.box 47 (.dat 47 x2)), (.box 30 (.dat 30 x3)), (.box 30 (.dat 30 x4))], 0⟩ = rec1 x0 x1 x2 x3 x4) (x0 : List Dt) (x1 : Int) (x2 : Dt) (x3 : Dt) (x4 : Dt) : e14 jn m [1, 1, 1, 0, 1, 0, 0, 1] [M1] ⟨tsOf [(2, (.ptr 0 [] 0)), (4, (.ptr 1 [] 0)), (5, (.dat 27 (.lst x0))), (6, (.ptr 2 [] 0)), (7, (.dat 3 (.int x1)))], [(.box 47 (.dat 47 x2)), (.box 30 (.dat 30 x3)), (.box 30 (.dat 30 x4))], 0⟩ = ref12_key_j2 m rec1 x0 x1 x2 x3 x4 := by
  have h : ∀ J, e14 J m [1, 1, 1, 0, 1, 0, 0, 1] [M1] ⟨tsOf [(2, (.ptr 0 [] 0)), (4, (.ptr 1 [] 0)), (5, (.dat 27 (.lst x0))), (6, (.ptr 2 [] 0)), (7, (.dat 3 (.int x1)))], [(.box 47 (.dat 47 x2)), (.box 30 (.dat 30 x3)), (.box 30 (.dat 30 x4))], 0⟩ =
    ((idx x0 x1).bind fun v2 =>
      ((ref01_Compare m v2 x4).bind fun r3 =>
        (bif (decide (r3 < (0 : Int))) then
          (bif (Bool.not (Dt.B x2 1)) then
            ((idx x0 x1).bind fun v4 =>
              (J 0 5 0 ⟨tsOf [(2, (.ptr 0 [] 0)), (4, (.ptr 1 [] 0)), (5, (.dat 27 (.lst x0))), (6, (.ptr 2 [] 0)), (7, (.dat 3 (.int x1)))], [(.box 47 (.dat 47 x2)), (.box 30 (.dat 30 x3)), (.box 30 (.dat 30 v4))], 0⟩ (e14 J m [1, 1, 1, 0, 1, 0, 0, 1, 1] [M1] ⟨tsOf [(2, (.ptr 0 [] 0)), (4, (.ptr 1 [] 0)), (5, (.dat 27 (.lst x0))), (6, (.ptr 2 [] 0)), (7, (.dat 3 (.int x1)))], [(.box 47 (.dat 47 x2)), (.box 30 (.dat 30 x3)), (.box 30 (.dat 30 v4))], 0⟩)))
          else
            (bif (decide ((0 : Int) < r3)) then
              (bif (Dt.B x2 1) then
                ((idx x0 x1).bind fun v5 =>
                  (J 0 5 0 ⟨tsOf [(2, (.ptr 0 [] 0)), (4, (.ptr 1 [] 0)), (5, (.dat 27 (.lst x0))), (6, (.ptr 2 [] 0)), (7, (.dat 3 (.int x1)))], [(.box 47 (.dat 47 x2)), (.box 30 (.dat 30 x3)), (.box 30 (.dat 30 v5))], 0⟩ (e14 J m [1, 1, 1, 0, 1, 0, 0, 1, 1] [M1] ⟨tsOf [(2, (.ptr 0 [] 0)), (4, (.ptr 1 [] 0)), (5, (.dat 27 (.lst x0))), (6, (.ptr 2 [] 0)), (7, (.dat 3 (.int x1)))], [(.box 47 (.dat 47 x2)), (.box 30 (.dat 30 x3)), (.box 30 (.dat 30 v5))], 0⟩)))
              else
                (J 0 5 0 ⟨tsOf [(2, (.ptr 0 [] 0)), (4, (.ptr 1 [] 0)), (5, (.dat 27 (.lst x0))), (6, (.ptr 2 [] 0)), (7, (.dat 3 (.int x1)))], [(.box 47 (.dat 47 x2)), (.box 30 (.dat 30 x3)), (.box 30 (.dat 30 x4))], 0⟩ (e14 J m [1, 1, 1, 0, 1, 0, 0, 1, 1] [M1] ⟨tsOf [(2, (.ptr 0 [] 0)), (4, (.ptr 1 [] 0)), (5, (.dat 27 (.lst x0))), (6, (.ptr 2 [] 0)), (7, (.dat 3 (.int x1)))], [(.box 47 (.dat 47 x2)), (.box 30 (.dat 30 x3)), (.box 30 (.dat 30 x4))], 0⟩)))
            else
              (J 0 5 0 ⟨tsOf [(2, (.ptr 0 [] 0)), (4, (.ptr 1 [] 0)), (5, (.dat 27 (.lst x0))), (6, (.ptr 2 [] 0)), (7, (.dat 3 (.int x1)))], [(.box 47 (.dat 47 x2)), (.box 30 (.dat 30 x3)), (.box 30 (.dat 30 x4))], 0⟩ (e14 J m [1, 1, 1, 0, 1, 0, 0, 1, 1] [M1] ⟨tsOf [(2, (.ptr 0 [] 0)), (4, (.ptr 1 [] 0)), (5, (.dat 27 (.lst x0))), (6, (.ptr 2 [] 0)), (7, (.dat 3 (.int x1)))], [(.box 47 (.dat 47 x2)), (.box 30 (.dat 30 x3)), (.box 30 (.dat 30 x4))], 0⟩))))
        else
          (bif (decide ((0 : Int) < r3)) then
            (bif (Dt.B x2 1) then
              ((idx x0 x1).bind fun v6 =>
                (J 0 5 0 ⟨tsOf [(2, (.ptr 0 [] 0)), (4, (.ptr 1 [] 0)), (5, (.dat 27 (.lst x0))), (6, (.ptr 2 [] 0)), (7, (.dat 3 (.int x1)))], [(.box 47 (.dat 47 x2)), (.box 30 (.dat 30 x3)), (.box 30 (.dat 30 v6))], 0⟩ (e14 J m [1, 1, 1, 0, 1, 0, 0, 1, 1] [M1] ⟨tsOf [(2, (.ptr 0 [] 0)), (4, (.ptr 1 [] 0)), (5, (.dat 27 (.lst x0))), (6, (.ptr 2 [] 0)), (7, (.dat 3 (.int x1)))], [(.box 47 (.dat 47 x2)), (.box 30 (.dat 30 x3)), (.box 30 (.dat 30 v6))], 0⟩)))
            else
              (J 0 5 0 ⟨tsOf [(2, (.ptr 0 [] 0)), (4, (.ptr 1 [] 0)), (5, (.dat 27 (.lst x0))), (6, (.ptr 2 [] 0)), (7, (.dat 3 (.int x1)))], [(.box 47 (.dat 47 x2)), (.box 30 (.dat 30 x3)), (.box 30 (.dat 30 x4))], 0⟩ (e14 J m [1, 1, 1, 0, 1, 0, 0, 1, 1] [M1] ⟨tsOf [(2, (.ptr 0 [] 0)), (4, (.ptr 1 [] 0)), (5, (.dat 27 (.lst x0))), (6, (.ptr 2 [] 0)), (7, (.dat 3 (.int x1)))], [(.box 47 (.dat 47 x2)), (.box 30 (.dat 30 x3)), (.box 30 (.dat 30 x4))], 0⟩)))
          else
            (J 0 5 0 ⟨tsOf [(2, (.ptr 0 [] 0)), (4, (.ptr 1 [] 0)), (5, (.dat 27 (.lst x0))), (6, (.ptr 2 [] 0)), (7, (.dat 3 (.int x1)))], [(.box 47 (.dat 47 x2)), (.box 30 (.dat 30 x3)), (.box 30 (.dat 30 x4))], 0⟩ (e14 J m [1, 1, 1, 0, 1, 0, 0, 1, 1] [M1] ⟨tsOf [(2, (.ptr 0 [] 0)), (4, (.ptr 1 [] 0)), (5, (.dat 27 (.lst x0))), (6, (.ptr 2 [] 0)), (7, (.dat 3 (.int x1)))], [(.box 47 (.dat 47 x2)), (.box 30 (.dat 30 x3)), (.box 30 (.dat 30 x4))], 0⟩)))))) := fun J => by kernel_rfl
  exact (h jn).trans (by
    simp only [jn_eq, ref12_key_j3_eq m M1 rec1 h1]
    rfl)
theorem ref12_key_j4_eq (m : Nat) (x0 : Dt) (x1 : Dt) : e14 jn m [1, 1, 1, 1] [] ⟨tsOf [(4, (.ptr 0 [] 0)), (6, (.ptr 1 [] 0))], [(.box 30 (.dat 30 x0)), (.box 30 (.dat 30 x1))], 0⟩ = ref12_key_j4 m x0 x1 := by
  have h : ∀ J, e14 J m [1, 1, 1, 1] [] ⟨tsOf [(4, (.ptr 0 [] 0)), (6, (.ptr 1 [] 0))], [(.box 30 (.dat 30 x0)), (.box 30 (.dat 30 x1))], 0⟩ =
    some x1 := fun J => by kernel_rfl
  exact (h jn).trans (rfl)
theorem ref12_key_l1_eq (m : Nat) : ∀ (M1 : Nat) (x0 : List Dt) (x1 : Int) (x2 : Dt) (x3 : Dt) (x4 : Dt), l14 jn m [1, 1, 1, 0, 1, 0] [] M1 ⟨tsOf [(2, (.ptr 0 [] 0)), (4, (.ptr 1 [] 0)), (5, (.dat 27 (.lst x0))), (6, (.ptr 2 [] 0)), (7, (.dat 3 (.int x1)))], [(.box 47 (.dat 47 x2)), (.box 30 (.dat 30 x3)), (.box 30 (.dat 30 x4))], 0⟩ = ref12_key_l1 m M1 x0 x1 x2 x3 x4
  | 0, _, _, _, _, _ => rfl
  | M1 + 1, x0, x1, x2, x3, x4 => by
    have h : ∀ J, l14 J m [1, 1, 1, 0, 1, 0] [] (M1 + 1) ⟨tsOf [(2, (.ptr 0 [] 0)), (4, (.ptr 1 [] 0)), (5, (.dat 27 (.lst x0))), (6, (.ptr 2 [] 0)), (7, (.dat 3 (.int x1)))], [(.box 47 (.dat 47 x2)), (.box 30 (.dat 30 x3)), (.box 30 (.dat 30 x4))], 0⟩ =
    (bif (decide (x1 < (((List.length x0) : Nat) : Int))) then
      (J 0 6 0 ⟨tsOf [(2, (.ptr 0 [] 0)), (4, (.ptr 1 [] 0)), (5, (.dat 27 (.lst x0))), (6, (.ptr 2 [] 0)), (7, (.dat 3 (.int x1)))], [(.box 47 (.dat 47 x2)), (.box 30 (.dat 30 x3)), (.box 30 (.dat 30 x4))], 0⟩ (e14 J m [1, 1, 1, 0, 1, 0, 0, 1] [M1] ⟨tsOf [(2, (.ptr 0 [] 0)), (4, (.ptr 1 [] 0)), (5, (.dat 27 (.lst x0))), (6, (.ptr 2 [] 0)), (7, (.dat 3 (.int x1)))], [(.box 47 (.dat 47 x2)), (.box 30 (.dat 30 x3)), (.box 30 (.dat 30 x4))], 0⟩))
    else
      (J 0 9 0 ⟨tsOf [(4, (.ptr 0 [] 0)), (6, (.ptr 1 [] 0))], [(.box 30 (.dat 30 x3)), (.box 30 (.dat 30 x4))], 0⟩ (e14 J m [1, 1, 1, 1] [] ⟨tsOf [(4, (.ptr 0 [] 0)), (6, (.ptr 1 [] 0))], [(.box 30 (.dat 30 x3)), (.box 30 (.dat 30 x4))], 0⟩))) := fun J => by kernel_rfl
    refine (h jn).trans ?_
    simp only [jn_eq, ref12_key_j2_eq m M1 (ref12_key_l1 m M1) (fun x0 x1 x2 x3 x4 => ref12_key_l1_eq m M1 x0 x1 x2 x3 x4), ref12_key_j4_eq m]
    rfl
theorem ref12_key_j0_eq (m : Nat) (x0 : List Dt) (x1 : Int) (x2 : Dt) (x3 : Dt) (x4 : Dt) : e14 jn m [1, 1, 1, 0, 1] [] ⟨tsOf [(2, (.ptr 0 [] 0)), (4, (.ptr 1 [] 0)), (5, (.dat 27 (.lst x0))), (6, (.ptr 2 [] 0)), (7, (.dat 3 (.int x1)))], [(.box 47 (.dat 47 x2)), (.box 30 (.dat 30 x3)), (.box 30 (.dat 30 x4))], 0⟩ = ref12_key_j0 m x0 x1 x2 x3 x4 := by
  have h : ∀ J, e14 J m [1, 1, 1, 0, 1] [] ⟨tsOf [(2, (.ptr 0 [] 0)), (4, (.ptr 1 [] 0)), (5, (.dat 27 (.lst x0))), (6, (.ptr 2 [] 0)), (7, (.dat 3 (.int x1)))], [(.box 47 (.dat 47 x2)), (.box 30 (.dat 30 x3)), (.box 30 (.dat 30 x4))], 0⟩ =
    (J 1 4 (Nat.succ m) ⟨tsOf [(2, (.ptr 0 [] 0)), (4, (.ptr 1 [] 0)), (5, (.dat 27 (.lst x0))), (6, (.ptr 2 [] 0)), (7, (.dat 3 (.int x1)))], [(.box 47 (.dat 47 x2)), (.box 30 (.dat 30 x3)), (.box 30 (.dat 30 x4))], 0⟩ (l14 J m [1, 1, 1, 0, 1, 0] [] (Nat.succ m) ⟨tsOf [(2, (.ptr 0 [] 0)), (4, (.ptr 1 [] 0)), (5, (.dat 27 (.lst x0))), (6, (.ptr 2 [] 0)), (7, (.dat 3 (.int x1)))], [(.box 47 (.dat 47 x2)), (.box 30 (.dat 30 x3)), (.box 30 (.dat 30 x4))], 0⟩)) := fun J => by kernel_rfl
  exact (h jn).trans (by
    simp only [jn_eq, ref12_key_l1_eq m]
    rfl)
theorem ref12_key_eq (m : Nat) (a0 : Dt) (a1 : Dt) : e14 jn m [] [] ⟨[(.dat 47 a0), (.dat 30 a1)], [], 0⟩ = ref12_key (m + 1) a0 a1 := by
  have h : ∀ J, e14 J m [] [] ⟨[(.dat 47 a0), (.dat 30 a1)], [], 0⟩ =
    ((ref12_Values m a1 (Dt.L a0 0)).bind fun r0 =>
      ((idx r0 (0 : Int)).bind fun v1 =>
        (J 0 4 0 ⟨tsOf [(2, (.ptr 0 [] 0)), (4, (.ptr 1 [] 0)), (5, (.dat 27 (.lst r0))), (6, (.ptr 2 [] 0)), (7, (.dat 3 (.int (1 : Int))))], [(.box 47 (.dat 47 a0)), (.box 30 (.dat 30 (Dt.agg [(Dt.int (0 : Int)), (Dt.int (0 : Int)), (Dt.str (ByteArray.mk (List.toArray []))), (Dt.lst []), (Dt.lst [])]))), (.box 30 (.dat 30 v1))], 0⟩ (e14 J m [1, 1, 1, 0, 1] [] ⟨tsOf [(2, (.ptr 0 [] 0)), (4, (.ptr 1 [] 0)), (5, (.dat 27 (.lst r0))), (6, (.ptr 2 [] 0)), (7, (.dat 3 (.int (1 : Int))))], [(.box 47 (.dat 47 a0)), (.box 30 (.dat 30 (Dt.agg [(Dt.int (0 : Int)), (Dt.int (0 : Int)), (Dt.str (ByteArray.mk (List.toArray []))), (Dt.lst []), (Dt.lst [])]))), (.box 30 (.dat 30 v1))], 0⟩)))) := fun J => by kernel_rfl
  refine (h jn).trans ?_
  simp only [jn_eq, ref12_key_j0_eq m]
  rfl
noncomputable def d6 (q : Res) : Option (List Dt) := match q with
  | (.dat T0 x0, []) => bif Nat.beq T0 27 then some x0.toLst else none
  | _ => none
theorem d6_sim {b : Res} {r : List Dt} (h : d6 b = some r) : Sim Tryd.prog b ((.dat 27 (.lst r)), []) := by
  unfold d6 at h
  split at h
  · obtain ⟨hc, h2⟩ := bif_some h
    cases h2
    have e0 := beq_eq hc
    subst e0
    exact Sim.of (.of (.dat (.lst Tryd.underlying27)) rfl rfl) .nil
  · cases h
noncomputable def e6 (J : Nat → Nat → Nat → St → Option (List Dt) → Option (List Dt)) (m : Nat) (p ms : List Nat) (σ : St) := evAt Tryd.prog env (ct m) J (m + 1) 19 23 Tryd.f19 d6 p ms σ
noncomputable def l6 (J : Nat → Nat → Nat → St → Option (List Dt) → Option (List Dt)) (m : Nat) (p ms : List Nat) (M : Nat) (σ : St) := loopAt Tryd.prog env (ct m) J (m + 1) 19 23 Tryd.f19 d6 p ms M σ
theorem ref12_Keys_j3_eq (m : Nat) (M1 : Nat) (rec1 : List Dt → Int → Dt → List Dt → Option (List Dt)) (h1 : ∀ (x0 : List Dt) (x1 : Int) (x2 : Dt) (x3 : List Dt), l6 jn m [1, 1, 0, 1, 0] [] M1 ⟨tsOf [(0, (.dat 22 (.lst x0))), (3, (.ptr 0 [] 0)), (5, (.row 1)), (6, (.dat 3 (.int x1)))], [(.box 30 (.dat 30 x2)), (.row 27 x3)], 0⟩ = rec1 x0 x1 x2 x3) (x0 : List Dt) (x1 : Int) (x2 : Dt) (x3 : List Dt) : e6 jn m [1, 1, 0, 1, 0, 0, 1, 1] [M1] ⟨tsOf [(0, (.dat 22 (.lst x0))), (3, (.ptr 0 [] 0)), (5, (.row 1)), (6, (.dat 3 (.int x1)))], [(.box 30 (.dat 30 x2)), (.row 27 x3)], 0⟩ = ref12_Keys_j3 m rec1 x0 x1 x2 x3 := by
  have h : ∀ J, e6 J m [1, 1, 0, 1, 0, 0, 1, 1] [M1] ⟨tsOf [(0, (.dat 22 (.lst x0))), (3, (.ptr 0 [] 0)), (5, (.row 1)), (6, (.dat 3 (.int x1)))], [(.box 30 (.dat 30 x2)), (.row 27 x3)], 0⟩ =
    (J 1 3 M1 ⟨tsOf [(0, (.dat 22 (.lst x0))), (3, (.ptr 0 [] 0)), (5, (.row 1)), (6, (.dat 3 (.int (IntKind.wrap IntKind.i64 (x1 + (1 : Int))))))], [(.box 30 (.dat 30 x2)), (.row 27 x3)], 0⟩ (l6 J m [1, 1, 0, 1, 0] [] M1 ⟨tsOf [(0, (.dat 22 (.lst x0))), (3, (.ptr 0 [] 0)), (5, (.row 1)), (6, (.dat 3 (.int (IntKind.wrap IntKind.i64 (x1 + (1 : Int))))))], [(.box 30 (.dat 30 x2)), (.row 27 x3)], 0⟩)) := fun J => by kernel_rfl
  exact (h jn).trans (by
    simp only [jn_eq, h1]
    rfl)
theorem ref12_Keys_j2_eq (m : Nat) (M1 : Nat) (rec1 : List Dt → Int → Dt → List Dt → Option (List Dt)) (h1 : ∀ (x0 : List Dt) (x1 : Int) (x2 : Dt) (x3 : List Dt), l6 jn m [1, 1, 0, 1, 0] [] M1 ⟨tsOf [(0, (.dat 22 (.lst x0))), (3, (.ptr 0 [] 0)), (5, (.row 1)), (6, (.dat 3 (.int x1)))], [(.box 30 (.dat 30 x2)), (.row 27 x3)], 0⟩ = rec1 x0 x1 x2 x3) (x0 : List Dt) (x1 : Int) (x2 : Dt) (x3 : List Dt) : e6 jn m [1, 1, 0, 1, 0, 0, 1] [M1] ⟨tsOf [(0, (.dat 22 (.lst x0))), (3, (.ptr 0 [] 0)), (5, (.row 1)), (6, (.dat 3 (.int x1)))], [(.box 30 (.dat 30 x2)), (.row 27 x3)], 0⟩ = ref12_Keys_j2 m rec1 x0 x1 x2 x3 := by
  have h : ∀ J, e6 J m [1, 1, 0, 1, 0, 0, 1] [M1] ⟨tsOf [(0, (.dat 22 (.lst x0))), (3, (.ptr 0 [] 0)), (5, (.row 1)), (6, (.dat 3 (.int x1)))], [(.box 30 (.dat 30 x2)), (.row 27 x3)], 0⟩ =
    ((idx x0 x1).bind fun v0 =>
      ((ref12_key m v0 x2).bind fun r1 =>
        ((app x3 [r1]).bind fun v2 =>
          (J 0 4 0 ⟨tsOf [(0, (.dat 22 (.lst x0))), (3, (.ptr 0 [] 0)), (5, (.row 1)), (6, (.dat 3 (.int x1)))], [(.box 30 (.dat 30 x2)), (.row 27 v2)], 0⟩ (e6 J m [1, 1, 0, 1, 0, 0, 1, 1] [M1] ⟨tsOf [(0, (.dat 22 (.lst x0))), (3, (.ptr 0 [] 0)), (5, (.row 1)), (6, (.dat 3 (.int x1)))], [(.box 30 (.dat 30 x2)), (.row 27 v2)], 0⟩))))) := fun J => by kernel_rfl
  exact (h jn).trans (by
    simp only [jn_eq, ref12_Keys_j3_eq m M1 rec1 h1]
    rfl)
theorem ref12_Keys_j4_eq (m : Nat) (x0 : List Dt) : e6 jn m [1, 1, 1] [] ⟨tsOf [(5, (.row 0))], [(.row 27 x0)], 0⟩ = ref12_Keys_j4 m x0 := by
  have h : ∀ J, e6 J m [1, 1, 1] [] ⟨tsOf [(5, (.row 0))], [(.row 27 x0)], 0⟩ =
    some x0 := fun J => by kernel_rfl
  exact (h jn).trans (rfl)
theorem ref12_Keys_l1_eq (m : Nat) : ∀ (M1 : Nat) (x0 : List Dt) (x1 : Int) (x2 : Dt) (x3 : List Dt), l6 jn m [1, 1, 0, 1, 0] [] M1 ⟨tsOf [(0, (.dat 22 (.lst x0))), (3, (.ptr 0 [] 0)), (5, (.row 1)), (6, (.dat 3 (.int x1)))], [(.box 30 (.dat 30 x2)), (.row 27 x3)], 0⟩ = ref12_Keys_l1 m M1 x0 x1 x2 x3
  | 0, _, _, _, _ => rfl
  | M1 + 1, x0, x1, x2, x3 => by
    have h : ∀ J, l6 J m [1, 1, 0, 1, 0] [] (M1 + 1) ⟨tsOf [(0, (.dat 22 (.lst x0))), (3, (.ptr 0 [] 0)), (5, (.row 1)), (6, (.dat 3 (.int x1)))], [(.box 30 (.dat 30 x2)), (.row 27 x3)], 0⟩ =
    (bif (decide (x1 < (((List.length x0) : Nat) : Int))) then
      (J 0 5 0 ⟨tsOf [(0, (.dat 22 (.lst x0))), (3, (.ptr 0 [] 0)), (5, (.row 1)), (6, (.dat 3 (.int x1)))], [(.box 30 (.dat 30 x2)), (.row 27 x3)], 0⟩ (e6 J m [1, 1, 0, 1, 0, 0, 1] [M1] ⟨tsOf [(0, (.dat 22 (.lst x0))), (3, (.ptr 0 [] 0)), (5, (.row 1)), (6, (.dat 3 (.int x1)))], [(.box 30 (.dat 30 x2)), (.row 27 x3)], 0⟩))
    else
      (J 0 6 0 ⟨tsOf [(5, (.row 0))], [(.row 27 x3)], 0⟩ (e6 J m [1, 1, 1] [] ⟨tsOf [(5, (.row 0))], [(.row 27 x3)], 0⟩))) := fun J => by kernel_rfl
    refine (h jn).trans ?_
    simp only [jn_eq, ref12_Keys_j2_eq m M1 (ref12_Keys_l1 m M1) (fun x0 x1 x2 x3 => ref12_Keys_l1_eq m M1 x0 x1 x2 x3), ref12_Keys_j4_eq m]
    rfl
theorem ref12_Keys_j0_eq (m : Nat) (x0 : List Dt) (x1 : Int) (x2 : Dt) (x3 : List Dt) : e6 jn m [1, 1, 0, 1] [] ⟨tsOf [(0, (.dat 22 (.lst x0))), (3, (.ptr 0 [] 0)), (5, (.row 1)), (6, (.dat 3 (.int x1)))], [(.box 30 (.dat 30 x2)), (.row 27 x3)], 0⟩ = ref12_Keys_j0 m x0 x1 x2 x3 := by
  have h : ∀ J, e6 J m [1, 1, 0, 1] [] ⟨tsOf [(0, (.dat 22 (.lst x0))), (3, (.ptr 0 [] 0)), (5, (.row 1)), (6, (.dat 3 (.int x1)))], [(.box 30 (.dat 30 x2)), (.row 27 x3)], 0⟩ =
    (J 1 3 (Nat.succ m) ⟨tsOf [(0, (.dat 22 (.lst x0))), (3, (.ptr 0 [] 0)), (5, (.row 1)), (6, (.dat 3 (.int x1)))], [(.box 30 (.dat 30 x2)), (.row 27 x3)], 0⟩ (l6 J m [1, 1, 0, 1, 0] [] (Nat.succ m) ⟨tsOf [(0, (.dat 22 (.lst x0))), (3, (.ptr 0 [] 0)), (5, (.row 1)), (6, (.dat 3 (.int x1)))], [(.box 30 (.dat 30 x2)), (.row 27 x3)], 0⟩)) := fun J => by kernel_rfl
  exact (h jn).trans (by
    simp only [jn_eq, ref12_Keys_l1_eq m]
    rfl)
theorem ref12_Keys_eq (m : Nat) (a0 : List Dt) (a1 : Dt) : e6 jn m [] [] ⟨[(.dat 22 (.lst a0)), (.dat 30 a1)], [], 0⟩ = ref12_Keys (m + 1) a0 a1 := by
  have h : ∀ J, e6 J m [] [] ⟨[(.dat 22 (.lst a0)), (.dat 30 a1)], [], 0⟩ =
    (J 0 3 0 ⟨tsOf [(0, (.dat 22 (.lst a0))), (3, (.ptr 0 [] 0)), (5, (.row 1)), (6, (.dat 3 (.int (0 : Int))))], [(.box 30 (.dat 30 a1)), (.row 27 [])], 0⟩ (e6 J m [1, 1, 0, 1] [] ⟨tsOf [(0, (.dat 22 (.lst a0))), (3, (.ptr 0 [] 0)), (5, (.row 1)), (6, (.dat 3 (.int (0 : Int))))], [(.box 30 (.dat 30 a1)), (.row 27 [])], 0⟩)) := fun J => by kernel_rfl
  refine (h jn).trans ?_
  simp only [jn_eq, ref12_Keys_j0_eq m]
  rfl
noncomputable def d9 (q : Res) : Option (Int) := match q with
  | (.dat T0 x0, []) => bif Nat.beq T0 3 then some x0.toInt else none
  | _ => none
theorem d9_sim {b : Res} {r : Int} (h : d9 b = some r) : Sim Tryd.prog b ((.dat 3 (.int r)), []) := by
  unfold d9 at h
  split at h
  · obtain ⟨hc, h2⟩ := bif_some h
    cases h2
    have e0 := beq_eq hc
    subst e0
    exact Sim.of (.of (.dat (.int Tryd.underlying3)) rfl rfl) .nil
  · cases h
noncomputable def e9 (J : Nat → Nat → Nat → St → Option (Int) → Option (Int)) (m : Nat) (p ms : List Nat) (σ : St) := evAt Tryd.prog env (ct m) J (m + 1) 21 42 Tryd.f21 d9 p ms σ
noncomputable def l9 (J : Nat → Nat → Nat → St → Option (Int) → Option (Int)) (m : Nat) (p ms : List Nat) (M : Nat) (σ : St) := loopAt Tryd.prog env (ct m) J (m + 1) 21 42 Tryd.f21 d9 p ms M σ
theorem ref12_Compare_j4_eq (m : Nat) (M1 : Nat) (rec1 : List Dt → Int → Dt → Dt → Option (Int)) (h1 : ∀ (x0 : List Dt) (x1 : Int) (x2 : Dt) (x3 : Dt), l9 jn m [1, 0, 1, 0] [] M1 ⟨tsOf [(0, (.dat 22 (.lst x0))), (4, (.ptr 0 [] 0)), (5, (.ptr 1 [] 0)), (7, (.dat 3 (.int x1)))], [(.box 30 (.dat 30 x2)), (.box 30 (.dat 30 x3))], 0⟩ = rec1 x0 x1 x2 x3) (x0 : List Dt) (x1 : Int) (x2 : Dt) (x3 : Dt) : e9 jn m [1, 0, 1, 0, 0, 1, 1] [M1] ⟨tsOf [(0, (.dat 22 (.lst x0))), (4, (.ptr 0 [] 0)), (5, (.ptr 1 [] 0)), (7, (.dat 3 (.int x1)))], [(.box 30 (.dat 30 x2)), (.box 30 (.dat 30 x3))], 0⟩ = ref12_Compare_j4 m rec1 x0 x1 x2 x3 := by
  have h : ∀ J, e9 J m [1, 0, 1, 0, 0, 1, 1] [M1] ⟨tsOf [(0, (.dat 22 (.lst x0))), (4, (.ptr 0 [] 0)), (5, (.ptr 1 [] 0)), (7, (.dat 3 (.int x1)))], [(.box 30 (.dat 30 x2)), (.box 30 (.dat 30 x3))], 0⟩ =
    (J 1 2 M1 ⟨tsOf [(0, (.dat 22 (.lst x0))), (4, (.ptr 0 [] 0)), (5, (.ptr 1 [] 0)), (7, (.dat 3 (.int (IntKind.wrap IntKind.i64 (x1 + (1 : Int))))))], [(.box 30 (.dat 30 x2)), (.box 30 (.dat 30 x3))], 0⟩ (l9 J m [1, 0, 1, 0] [] M1 ⟨tsOf [(0, (.dat 22 (.lst x0))), (4, (.ptr 0 [] 0)), (5, (.ptr 1 [] 0)), (7, (.dat 3 (.int (IntKind.wrap IntKind.i64 (x1 + (1 : Int))))))], [(.box 30 (.dat 30 x2)), (.box 30 (.dat 30 x3))], 0⟩)) := fun J => by kernel_rfl
  exact (h jn).trans (by
    simp only [jn_eq, h1]
    rfl)
theorem ref12_Compare_j3_eq (m : Nat) (M1 : Nat) (rec1 : List Dt → Int → Dt → Dt → Option (Int)) (h1 : ∀ (x0 : List Dt) (x1 : Int) (x2 : Dt) (x3 : Dt), l9 jn m [1, 0, 1, 0] [] M1 ⟨tsOf [(0, (.dat 22 (.lst x0))), (4, (.ptr 0 [] 0)), (5, (.ptr 1 [] 0)), (7, (.dat 3 (.int x1)))], [(.box 30 (.dat 30 x2)), (.box 30 (.dat 30 x3))], 0⟩ = rec1 x0 x1 x2 x3) (x0 : List Dt) (x1 : Int) (x2 : Int) (x3 : Dt) (x4 : Dt) : e9 jn m [1, 0, 1, 0, 0, 1, 0, 0, 1, 1] [M1] ⟨tsOf [(0, (.dat 22 (.lst x0))), (4, (.ptr 0 [] 0)), (5, (.ptr 1 [] 0)), (7, (.dat 3 (.int x1))), (8, (.dat 3 (.int x2)))], [(.box 30 (.dat 30 x3)), (.box 30 (.dat 30 x4))], 0⟩ = ref12_Compare_j3 m rec1 x0 x1 x2 x3 x4 := by
  have h : ∀ J, e9 J m [1, 0, 1, 0, 0, 1, 0, 0, 1, 1] [M1] ⟨tsOf [(0, (.dat 22 (.lst x0))), (4, (.ptr 0 [] 0)), (5, (.ptr 1 [] 0)), (7, (.dat 3 (.int x1))), (8, (.dat 3 (.int x2)))], [(.box 30 (.dat 30 x3)), (.box 30 (.dat 30 x4))], 0⟩ =
    (bif (x2 != (0 : Int)) then
      some x2
    else
      (J 0 3 0 ⟨tsOf [(0, (.dat 22 (.lst x0))), (4, (.ptr 0 [] 0)), (5, (.ptr 1 [] 0)), (7, (.dat 3 (.int x1)))], [(.box 30 (.dat 30 x3)), (.box 30 (.dat 30 x4))], 0⟩ (e9 J m [1, 0, 1, 0, 0, 1, 1] [M1] ⟨tsOf [(0, (.dat 22 (.lst x0))), (4, (.ptr 0 [] 0)), (5, (.ptr 1 [] 0)), (7, (.dat 3 (.int x1)))], [(.box 30 (.dat 30 x3)), (.box 30 (.dat 30 x4))], 0⟩))) := fun J => by kernel_rfl
  exact (h jn).trans (by
    simp only [jn_eq, ref12_Compare_j4_eq m M1 rec1 h1]
    rfl)
theorem ref12_Compare_j2_eq (m : Nat) (M1 : Nat) (rec1 : List Dt → Int → Dt → Dt → Option (Int)) (h1 : ∀ (x0 : List Dt) (x1 : Int) (x2 : Dt) (x3 : Dt), l9 jn m [1, 0, 1, 0] [] M1 ⟨tsOf [(0, (.dat 22 (.lst x0))), (4, (.ptr 0 [] 0)), (5, (.ptr 1 [] 0)), (7, (.dat 3 (.int x1)))], [(.box 30 (.dat 30 x2)), (.box 30 (.dat 30 x3))], 0⟩ = rec1 x0 x1 x2 x3) (x0 : List Dt) (x1 : Int) (x2 : Dt) (x3 : Dt) : e9 jn m [1, 0, 1, 0, 0, 1] [M1] ⟨tsOf [(0, (.dat 22 (.lst x0))), (4, (.ptr 0 [] 0)), (5, (.ptr 1 [] 0)), (7, (.dat 3 (.int x1)))], [(.box 30 (.dat 30 x2)), (.box 30 (.dat 30 x3))], 0⟩ = ref12_Compare_j2 m rec1 x0 x1 x2 x3 := by
  have h : ∀ J, e9 J m [1, 0, 1, 0, 0, 1] [M1] ⟨tsOf [(0, (.dat 22 (.lst x0))), (4, (.ptr 0 [] 0)), (5, (.ptr 1 [] 0)), (7, (.dat 3 (.int x1)))], [(.box 30 (.dat 30 x2)), (.box 30 (.dat 30 x3))], 0⟩ =
    ((idx x0 x1).bind fun v0 =>
      ((ref12_key m v0 x2).bind fun r1 =>
        ((idx x0 x1).bind fun v2 =>
          ((ref12_key m v2 x3).bind fun r3 =>
            ((ref01_Compare m r1 r3).bind fun r4 =>
              (bif (r4 != (0 : Int)) then
                ((idx x0 x1).bind fun v5 =>
                  (bif (Dt.B v5 1) then
                    some (IntKind.wrap IntKind.i64 ((0 : Int) - r4))
                  else
                    (J 0 7 0 ⟨tsOf [(0, (.dat 22 (.lst x0))), (4, (.ptr 0 [] 0)), (5, (.ptr 1 [] 0)), (7, (.dat 3 (.int x1))), (8, (.dat 3 (.int r4)))], [(.box 30 (.dat 30 x2)), (.box 30 (.dat 30 x3))], 0⟩ (e9 J m [1, 0, 1, 0, 0, 1, 0, 0, 1, 1] [M1] ⟨tsOf [(0, (.dat 22 (.lst x0))), (4, (.ptr 0 [] 0)), (5, (.ptr 1 [] 0)), (7, (.dat 3 (.int x1))), (8, (.dat 3 (.int r4)))], [(.box 30 (.dat 30 x2)), (.box 30 (.dat 30 x3))], 0⟩))))
              else
                (J 0 7 0 ⟨tsOf [(0, (.dat 22 (.lst x0))), (4, (.ptr 0 [] 0)), (5, (.ptr 1 [] 0)), (7, (.dat 3 (.int x1))), (8, (.dat 3 (.int r4)))], [(.box 30 (.dat 30 x2)), (.box 30 (.dat 30 x3))], 0⟩ (e9 J m [1, 0, 1, 0, 0, 1, 0, 0, 1, 1] [M1] ⟨tsOf [(0, (.dat 22 (.lst x0))), (4, (.ptr 0 [] 0)), (5, (.ptr 1 [] 0)), (7, (.dat 3 (.int x1))), (8, (.dat 3 (.int r4)))], [(.box 30 (.dat 30 x2)), (.box 30 (.dat 30 x3))], 0⟩)))))))) := fun J => by kernel_rfl
  exact (h jn).trans (by
    simp only [jn_eq, ref12_Compare_j3_eq m M1 rec1 h1]
    rfl)
theorem ref12_Compare_j5_eq (m : Nat) : e9 jn m [1, 1] [] ⟨tsOf [], [], 0⟩ = ref12_Compare_j5 m := by
  have h : ∀ J, e9 J m [1, 1] [] ⟨tsOf [], [], 0⟩ =
    some (0 : Int) := fun J => by kernel_rfl
  exact (h jn).trans (rfl)
theorem ref12_Compare_l1_eq (m : Nat) : ∀ (M1 : Nat) (x0 : List Dt) (x1 : Int) (x2 : Dt) (x3 : Dt), l9 jn m [1, 0, 1, 0] [] M1 ⟨tsOf [(0, (.dat 22 (.lst x0))), (4, (.ptr 0 [] 0)), (5, (.ptr 1 [] 0)), (7, (.dat 3 (.int x1)))], [(.box 30 (.dat 30 x2)), (.box 30 (.dat 30 x3))], 0⟩ = ref12_Compare_l1 m M1 x0 x1 x2 x3
  | 0, _, _, _, _ => rfl
  | M1 + 1, x0, x1, x2, x3 => by
    have h : ∀ J, l9 J m [1, 0, 1, 0] [] (M1 + 1) ⟨tsOf [(0, (.dat 22 (.lst x0))), (4, (.ptr 0 [] 0)), (5, (.ptr 1 [] 0)), (7, (.dat 3 (.int x1)))], [(.box 30 (.dat 30 x2)), (.box 30 (.dat 30 x3))], 0⟩ =
    (bif (decide (x1 < (((List.length x0) : Nat) : Int))) then
      (J 0 4 0 ⟨tsOf [(0, (.dat 22 (.lst x0))), (4, (.ptr 0 [] 0)), (5, (.ptr 1 [] 0)), (7, (.dat 3 (.int x1)))], [(.box 30 (.dat 30 x2)), (.box 30 (.dat 30 x3))], 0⟩ (e9 J m [1, 0, 1, 0, 0, 1] [M1] ⟨tsOf [(0, (.dat 22 (.lst x0))), (4, (.ptr 0 [] 0)), (5, (.ptr 1 [] 0)), (7, (.dat 3 (.int x1)))], [(.box 30 (.dat 30 x2)), (.box 30 (.dat 30 x3))], 0⟩))
    else
      (J 0 9 0 ⟨tsOf [], [], 0⟩ (e9 J m [1, 1] [] ⟨tsOf [], [], 0⟩))) := fun J => by kernel_rfl
    refine (h jn).trans ?_
    simp only [jn_eq, ref12_Compare_j2_eq m M1 (ref12_Compare_l1 m M1) (fun x0 x1 x2 x3 => ref12_Compare_l1_eq m M1 x0 x1 x2 x3), ref12_Compare_j5_eq m]
    rfl
theorem ref12_Compare_j0_eq (m : Nat) (x0 : List Dt) (x1 : Int) (x2 : Dt) (x3 : Dt) : e9 jn m [1, 0, 1] [] ⟨tsOf [(0, (.dat 22 (.lst x0))), (4, (.ptr 0 [] 0)), (5, (.ptr 1 [] 0)), (7, (.dat 3 (.int x1)))], [(.box 30 (.dat 30 x2)), (.box 30 (.dat 30 x3))], 0⟩ = ref12_Compare_j0 m x0 x1 x2 x3 := by
  have h : ∀ J, e9 J m [1, 0, 1] [] ⟨tsOf [(0, (.dat 22 (.lst x0))), (4, (.ptr 0 [] 0)), (5, (.ptr 1 [] 0)), (7, (.dat 3 (.int x1)))], [(.box 30 (.dat 30 x2)), (.box 30 (.dat 30 x3))], 0⟩ =
    (J 1 2 (Nat.succ m) ⟨tsOf [(0, (.dat 22 (.lst x0))), (4, (.ptr 0 [] 0)), (5, (.ptr 1 [] 0)), (7, (.dat 3 (.int x1)))], [(.box 30 (.dat 30 x2)), (.box 30 (.dat 30 x3))], 0⟩ (l9 J m [1, 0, 1, 0] [] (Nat.succ m) ⟨tsOf [(0, (.dat 22 (.lst x0))), (4, (.ptr 0 [] 0)), (5, (.ptr 1 [] 0)), (7, (.dat 3 (.int x1)))], [(.box 30 (.dat 30 x2)), (.box 30 (.dat 30 x3))], 0⟩)) := fun J => by kernel_rfl
  exact (h jn).trans (by
    simp only [jn_eq, ref12_Compare_l1_eq m]
    rfl)
theorem ref12_Compare_eq (m : Nat) (a0 : List Dt) (a1 : Dt) (a2 : Dt) : e9 jn m [] [] ⟨[(.dat 22 (.lst a0)), (.dat 30 a1), (.dat 30 a2)], [], 0⟩ = ref12_Compare (m + 1) a0 a1 a2 := by
  have h : ∀ J, e9 J m [] [] ⟨[(.dat 22 (.lst a0)), (.dat 30 a1), (.dat 30 a2)], [], 0⟩ =
    (J 0 2 0 ⟨tsOf [(0, (.dat 22 (.lst a0))), (4, (.ptr 0 [] 0)), (5, (.ptr 1 [] 0)), (7, (.dat 3 (.int (0 : Int))))], [(.box 30 (.dat 30 a1)), (.box 30 (.dat 30 a2))], 0⟩ (e9 J m [1, 0, 1] [] ⟨tsOf [(0, (.dat 22 (.lst a0))), (4, (.ptr 0 [] 0)), (5, (.ptr 1 [] 0)), (7, (.dat 3 (.int (0 : Int))))], [(.box 30 (.dat 30 a1)), (.box 30 (.dat 30 a2))], 0⟩)) := fun J => by kernel_rfl
  refine (h jn).trans ?_
  simp only [jn_eq, ref12_Compare_j0_eq m]
  rfl
noncomputable def d0 (q : Res) : Option (Bool) := match q with
  | (.dat T0 x0, []) => bif Nat.beq T0 4 then some x0.toBool else none
  | _ => none
theorem d0_sim {b : Res} {r : Bool} (h : d0 b = some r) : Sim Tryd.prog b ((.dat 4 (.bool r)), []) := by
  unfold d0 at h
  split at h
  · obtain ⟨hc, h2⟩ := bif_some h
    cases h2
    have e0 := beq_eq hc
    subst e0
    exact Sim.of (.of (.dat (.bool Tryd.underlying4)) rfl rfl) .nil
  · cases h
noncomputable def e0 (J : Nat → Nat → Nat → St → Option (Bool) → Option (Bool)) (m : Nat) (p ms : List Nat) (σ : St) := evAt Tryd.prog env (ct m) J (m + 1) 5 35 Tryd.f5 d0 p ms σ
noncomputable def l0 (J : Nat → Nat → Nat → St → Option (Bool) → Option (Bool)) (m : Nat) (p ms : List Nat) (M : Nat) (σ : St) := loopAt Tryd.prog env (ct m) J (m + 1) 5 35 Tryd.f5 d0 p ms M σ
theorem law12_OrderKeys_j0_eq (m : Nat) (x0 : List Dt) (x1 : Dt) (x2 : Dt) : e0 jn m [1, 1] [] ⟨tsOf [(0, (.dat 22 (.lst x0))), (4, (.ptr 0 [] 0)), (5, (.ptr 1 [] 0))], [(.box 30 (.dat 30 x1)), (.box 30 (.dat 30 x2))], 0⟩ = law12_OrderKeys_j0 m x0 x1 x2 := by
  have h : ∀ J, e0 J m [1, 1] [] ⟨tsOf [(0, (.dat 22 (.lst x0))), (4, (.ptr 0 [] 0)), (5, (.ptr 1 [] 0))], [(.box 30 (.dat 30 x1)), (.box 30 (.dat 30 x2))], 0⟩ =
    ((order_Keys m x0 x1).bind fun r2 =>
      ((ref12_Keys m x0 x1).bind fun r3 =>
        ((law03_SameList m r2 r3).bind fun r4 =>
          (bif r4 then
            ((order_Compare m x0 x1 x2).bind fun r5 =>
              ((ref12_Compare m x0 x1 x2).bind fun r6 =>
                (bif (r5 == r6) then
                  ((awakeC).bind fun r7 =>
                    some r7)
                else
                  some Bool.false)))
          else
            some Bool.false)))) := fun J => by kernel_rfl
  exact (h jn).trans (rfl)
theorem law12_OrderKeys_eq (m : Nat) (a0 : List Dt) (a1 : Dt) (a2 : Dt) : e0 jn m [] [] ⟨[(.dat 22 (.lst a0)), (.dat 30 a1), (.dat 30 a2)], [], 0⟩ = law12_OrderKeys (m + 1) a0 a1 a2 := by
  have h : ∀ J, e0 J m [] [] ⟨[(.dat 22 (.lst a0)), (.dat 30 a1), (.dat 30 a2)], [], 0⟩ =
    ((law12_Small m a0 [a1, a2]).bind fun r0 =>
      (bif (Bool.not r0) then
        ((awakeC).bind fun r1 =>
          some r1)
      else
        (J 0 3 0 ⟨tsOf [(0, (.dat 22 (.lst a0))), (4, (.ptr 0 [] 0)), (5, (.ptr 1 [] 0))], [(.box 30 (.dat 30 a1)), (.box 30 (.dat 30 a2))], 0⟩ (e0 J m [1, 1] [] ⟨tsOf [(0, (.dat 22 (.lst a0))), (4, (.ptr 0 [] 0)), (5, (.ptr 1 [] 0))], [(.box 30 (.dat 30 a1)), (.box 30 (.dat 30 a2))], 0⟩)))) := fun J => by kernel_rfl
  refine (h jn).trans ?_
  simp only [jn_eq, law12_OrderKeys_j0_eq m]
  rfl
end Go.Proofs.YtacchdeihafmnaaDoor
