/- Generated: each function's run in the abstract machine is its shallow function. -/
import Derived.Test.YtfneddmmeadacaaGreatDoorCt
import Derived.Test.YtfneddmmeadacaaGreatDoorAmEnv
import Derived.KernelRfl
set_option linter.unusedVariables false
set_option linter.unusedSimpArgs false
namespace Go.Proofs.YtfneddmmeadacaaGreatDoor
open Go.Am
set_option maxRecDepth 100000
noncomputable def d6 (q : Res) : Option Int := match q with
  | (.dat T0 x0, []) => bif Nat.beq T0 3 then some x0.toInt else none
  | _ => none
theorem d6_sim {b : Res} {r : Int} (h : d6 b = some r) : Sim Tryz.prog b ((.dat 3 (.int r)), []) := by
  unfold d6 at h
  split at h
  · obtain ⟨hc, h2⟩ := bif_some h
    cases h2
    have e0 := beq_eq hc
    subst e0
    exact Sim.of (.of (.dat (.int Tryz.underlying3)) rfl rfl) .nil
  · cases h
noncomputable def e6 (J : Nat → Nat → Nat → St → Option Int → Option Int) (m : Nat) (p ms : List Nat) (σ : St) := evAt Tryz.prog env (ct m) J (m + 1) 17 69 Tryz.f17 d6 p ms σ
noncomputable def l6 (J : Nat → Nat → Nat → St → Option Int → Option Int) (m : Nat) (p ms : List Nat) (M : Nat) (σ : St) := loopAt Tryz.prog env (ct m) J (m + 1) 17 69 Tryz.f17 d6 p ms M σ
noncomputable def s6_5 (x0 x1 x2 : Int) (x3 : Dt) : St := ⟨tsOf [(1, (.dat 3 (.int x0))), (2, (.dat 3 (.int x1))), (3, (.ptr 0 [] 0)), (7, (.dat 3 (.int x2)))], [(.box 25 (.dat 25 x3))], 0⟩
noncomputable def s6_4 (x0 x1 x2 : Int) (x3 : Dt) : St := ⟨tsOf [(1, (.dat 3 (.int x0))), (2, (.dat 3 (.int x1))), (3, (.ptr 0 [] 0)), (7, (.dat 3 (.int x2)))], [(.box 25 (.dat 25 x3))], 0⟩
noncomputable def s6_11 (x0 x1 x2 : Int) (x3 : Dt) : St := ⟨tsOf [(1, (.dat 3 (.int x0))), (2, (.dat 3 (.int x1))), (3, (.ptr 0 [] 0)), (8, (.dat 3 (.int x2)))], [(.box 25 (.dat 25 x3))], 0⟩
noncomputable def s6_10 (x0 x1 x2 : Int) (x3 : Dt) : St := ⟨tsOf [(1, (.dat 3 (.int x0))), (2, (.dat 3 (.int x1))), (3, (.ptr 0 [] 0)), (8, (.dat 3 (.int x2)))], [(.box 25 (.dat 25 x3))], 0⟩
noncomputable def s6_9 (x0 x1 x2 : Int) (x3 : Dt) : St := ⟨tsOf [(1, (.dat 3 (.int x0))), (2, (.dat 3 (.int x1))), (3, (.ptr 0 [] 0)), (8, (.dat 3 (.int x2)))], [(.box 25 (.dat 25 x3))], 0⟩
noncomputable def s6_12 (x0 : Int) : St := ⟨tsOf [(2, (.dat 3 (.int x0)))], [], 0⟩
noncomputable def s6_8 (x0 x1 x2 : Int) (x3 : Dt) : St := ⟨tsOf [(1, (.dat 3 (.int x0))), (2, (.dat 3 (.int x1))), (3, (.ptr 0 [] 0)), (8, (.dat 3 (.int x2)))], [(.box 25 (.dat 25 x3))], 0⟩
noncomputable def s6_7 (x0 x1 x2 : Int) (x3 : Dt) : St := ⟨tsOf [(1, (.dat 3 (.int x0))), (2, (.dat 3 (.int x1))), (3, (.ptr 0 [] 0)), (8, (.dat 3 (.int x2)))], [(.box 25 (.dat 25 x3))], 0⟩
noncomputable def s6_6 (x0 x1 : Int) (x2 : Dt) : St := ⟨tsOf [(1, (.dat 3 (.int x0))), (2, (.dat 3 (.int x1))), (3, (.ptr 0 [] 0))], [(.box 25 (.dat 25 x2))], 0⟩
noncomputable def s6_3 (x0 x1 x2 : Int) (x3 : Dt) : St := ⟨tsOf [(1, (.dat 3 (.int x0))), (2, (.dat 3 (.int x1))), (3, (.ptr 0 [] 0)), (7, (.dat 3 (.int x2)))], [(.box 25 (.dat 25 x3))], 0⟩
noncomputable def s6_2 (x0 x1 x2 : Int) (x3 : Dt) : St := ⟨tsOf [(1, (.dat 3 (.int x0))), (2, (.dat 3 (.int x1))), (3, (.ptr 0 [] 0)), (7, (.dat 3 (.int x2)))], [(.box 25 (.dat 25 x3))], 0⟩
noncomputable def s6_1 (x0 x1 : Int) (x2 : Dt) : St := ⟨tsOf [(1, (.dat 3 (.int x0))), (2, (.dat 3 (.int x1))), (3, (.ptr 0 [] 0))], [(.box 25 (.dat 25 x2))], 0⟩
noncomputable def s6_0 (x0 x1 : Int) (x2 : Bool) (x3 : Dt) : St := ⟨tsOf [(1, (.dat 3 (.int x0))), (2, (.dat 3 (.int x1))), (3, (.ptr 0 [] 0)), (18, (.dat 4 (.bool x2)))], [(.box 25 (.dat 25 x3))], 0⟩
theorem ref02_count_j5_eq (m : Nat) (M3 : Nat) (rec3 : Int → Int → Int → Dt → Option Int) (h3 : ∀ (x0 x1 x2 : Int) (x3 : Dt), l6 jn m [1, 1, 1, 0, 1, 0] [] M3 (s6_3 x0 x1 x2 x3) = rec3 x0 x1 x2 x3) (x0 x1 x2 : Int) (x3 : Dt) : e6 jn m [1, 1, 1, 0, 1, 0, 0, 1, 1] [M3] (s6_5 x0 x1 x2 x3) = ref02_count_j5 m (ref02_count m) rec3 x0 x1 x2 x3 := by
  have h : ∀ J, e6 J m [1, 1, 1, 0, 1, 0, 0, 1, 1] [M3] (s6_5 x0 x1 x2 x3) =
    (J 1 5 M3 (s6_3 x0 x1 (IntKind.wrap .i64 (x2 + 1)) x3) (l6 J m [1, 1, 1, 0, 1, 0] [] M3 (s6_3 x0 x1 (IntKind.wrap .i64 (x2 + 1)) x3))) := fun J => by kernel_rfl
  exact (h jn).trans (by
    simp only [jn_eq, h3]
    rfl)
theorem ref02_count_j4_eq (m : Nat) (M3 : Nat) (rec3 : Int → Int → Int → Dt → Option Int) (h3 : ∀ (x0 x1 x2 : Int) (x3 : Dt), l6 jn m [1, 1, 1, 0, 1, 0] [] M3 (s6_3 x0 x1 x2 x3) = rec3 x0 x1 x2 x3) (x0 x1 x2 : Int) (x3 : Dt) : e6 jn m [1, 1, 1, 0, 1, 0, 0, 1] [M3] (s6_4 x0 x1 x2 x3) = ref02_count_j4 m (ref02_count m) rec3 x0 x1 x2 x3 := by
  have h : ∀ J, e6 J m [1, 1, 1, 0, 1, 0, 0, 1] [M3] (s6_4 x0 x1 x2 x3) =
    ((idx (Dt.L x3 3) x2).bind fun v0 =>
   ((ref02_count m v0 (IntKind.wrap .i64 (x0 + 1)) x1).bind fun r1 =>
   (J 0 6 0 (s6_5 x0 r1 x2 x3) (e6 J m [1, 1, 1, 0, 1, 0, 0, 1, 1] [M3] (s6_5 x0 r1 x2 x3))))) := fun J => by kernel_rfl
  exact (h jn).trans (by
    simp only [jn_eq, ref02_count_j5_eq m M3 rec3 h3]
    rfl)
theorem ref02_count_j11_eq (m : Nat) (M8 : Nat) (rec8 : Int → Int → Int → Dt → Option Int) (h8 : ∀ (x0 x1 x2 : Int) (x3 : Dt), l6 jn m [1, 1, 1, 1, 0, 1, 0] [] M8 (s6_8 x0 x1 x2 x3) = rec8 x0 x1 x2 x3) (x0 x1 x2 : Int) (x3 : Dt) : e6 jn m [1, 1, 1, 1, 0, 1, 0, 0, 1, 1] [M8] (s6_11 x0 x1 x2 x3) = ref02_count_j11 m (ref02_count m) rec8 x0 x1 x2 x3 := by
  have h : ∀ J, e6 J m [1, 1, 1, 1, 0, 1, 0, 0, 1, 1] [M8] (s6_11 x0 x1 x2 x3) =
    (J 1 9 M8 (s6_8 x0 x1 (IntKind.wrap .i64 (x2 + 1)) x3) (l6 J m [1, 1, 1, 1, 0, 1, 0] [] M8 (s6_8 x0 x1 (IntKind.wrap .i64 (x2 + 1)) x3))) := fun J => by kernel_rfl
  exact (h jn).trans (by
    simp only [jn_eq, h8]
    rfl)
theorem ref02_count_j10_eq (m : Nat) (M8 : Nat) (rec8 : Int → Int → Int → Dt → Option Int) (h8 : ∀ (x0 x1 x2 : Int) (x3 : Dt), l6 jn m [1, 1, 1, 1, 0, 1, 0] [] M8 (s6_8 x0 x1 x2 x3) = rec8 x0 x1 x2 x3) (x0 x1 x2 : Int) (x3 : Dt) : e6 jn m [1, 1, 1, 1, 0, 1, 0, 0, 1, 0, 0, 1] [M8] (s6_10 x0 x1 x2 x3) = ref02_count_j10 m (ref02_count m) rec8 x0 x1 x2 x3 := by
  have h : ∀ J, e6 J m [1, 1, 1, 1, 0, 1, 0, 0, 1, 0, 0, 1] [M8] (s6_10 x0 x1 x2 x3) =
    ((idx (Dt.L x3 4) x2).bind fun v3 =>
   ((ref02_count m (Dt.fld v3 1) (IntKind.wrap .i64 (x0 + 1)) x1).bind fun r4 =>
   (J 0 10 0 (s6_11 x0 r4 x2 x3) (e6 J m [1, 1, 1, 1, 0, 1, 0, 0, 1, 1] [M8] (s6_11 x0 r4 x2 x3))))) := fun J => by kernel_rfl
  exact (h jn).trans (by
    simp only [jn_eq, ref02_count_j11_eq m M8 rec8 h8]
    rfl)
theorem ref02_count_j9_eq (m : Nat) (M8 : Nat) (rec8 : Int → Int → Int → Dt → Option Int) (h8 : ∀ (x0 x1 x2 : Int) (x3 : Dt), l6 jn m [1, 1, 1, 1, 0, 1, 0] [] M8 (s6_8 x0 x1 x2 x3) = rec8 x0 x1 x2 x3) (x0 x1 x2 : Int) (x3 : Dt) : e6 jn m [1, 1, 1, 1, 0, 1, 0, 0, 1] [M8] (s6_9 x0 x1 x2 x3) = ref02_count_j9 m (ref02_count m) rec8 x0 x1 x2 x3 := by
  have h : ∀ J, e6 J m [1, 1, 1, 1, 0, 1, 0, 0, 1] [M8] (s6_9 x0 x1 x2 x3) =
    ((idx (Dt.L x3 4) x2).bind fun v2 =>
   (bif (decide (200 < (ByteArray.size (Dt.S v2 0) : Int))) then
   some (-1)
   else
   (J 0 13 0 (s6_10 x0 x1 x2 x3) (e6 J m [1, 1, 1, 1, 0, 1, 0, 0, 1, 0, 0, 1] [M8] (s6_10 x0 x1 x2 x3))))) := fun J => by kernel_rfl
  exact (h jn).trans (by
    simp only [jn_eq, ref02_count_j10_eq m M8 rec8 h8]
    rfl)
theorem ref02_count_j12_eq (m : Nat) (x0 : Int) : e6 jn m [1, 1, 1, 1, 1] [] (s6_12 x0) = ref02_count_j12 m (ref02_count m) x0 := by
  have h : ∀ J, e6 J m [1, 1, 1, 1, 1] [] (s6_12 x0) =
    some x0 := fun J => by kernel_rfl
  exact (h jn).trans (rfl)
theorem ref02_count_l8_eq (m : Nat) : ∀ (M8 : Nat) (x0 x1 x2 : Int) (x3 : Dt), l6 jn m [1, 1, 1, 1, 0, 1, 0] [] M8 (s6_8 x0 x1 x2 x3) = ref02_count_l8 m (ref02_count m) M8 x0 x1 x2 x3
  | 0, _, _, _, _ => rfl
  | M8 + 1, x0, x1, x2, x3 => by
    have h : ∀ J, l6 J m [1, 1, 1, 1, 0, 1, 0] [] (M8 + 1) (s6_8 x0 x1 x2 x3) =
    (bif (decide (x2 < (List.length (Dt.L x3 4) : Int))) then
   (bif (decide (0 ≤ x1)) then
   (J 0 11 0 (s6_9 x0 x1 x2 x3) (e6 J m [1, 1, 1, 1, 0, 1, 0, 0, 1] [M8] (s6_9 x0 x1 x2 x3)))
   else
   (J 0 14 0 (s6_12 x1) (e6 J m [1, 1, 1, 1, 1] [] (s6_12 x1))))
    else
   (J 0 14 0 (s6_12 x1) (e6 J m [1, 1, 1, 1, 1] [] (s6_12 x1)))) := fun J => by kernel_rfl
    refine (h jn).trans ?_
    simp only [jn_eq, ref02_count_j9_eq m M8 (ref02_count_l8 m (ref02_count m) M8) (fun x0 x1 x2 x3 => ref02_count_l8_eq m M8 x0 x1 x2 x3), ref02_count_j12_eq m]
    rfl
theorem ref02_count_j7_eq (m : Nat) (x0 x1 x2 : Int) (x3 : Dt) : e6 jn m [1, 1, 1, 1, 0, 1] [] (s6_7 x0 x1 x2 x3) = ref02_count_j7 m (ref02_count m) x0 x1 x2 x3 := by
  have h : ∀ J, e6 J m [1, 1, 1, 1, 0, 1] [] (s6_7 x0 x1 x2 x3) =
    (J 1 9 (Nat.succ m) (s6_8 x0 x1 x2 x3) (l6 J m [1, 1, 1, 1, 0, 1, 0] [] (Nat.succ m) (s6_8 x0 x1 x2 x3))) := fun J => by kernel_rfl
  exact (h jn).trans (by
    simp only [jn_eq, ref02_count_l8_eq m]
    rfl)
theorem ref02_count_j6_eq (m : Nat) (x0 x1 : Int) (x2 : Dt) : e6 jn m [1, 1, 1, 1] [] (s6_6 x0 x1 x2) = ref02_count_j6 m (ref02_count m) x0 x1 x2 := by
  have h : ∀ J, e6 J m [1, 1, 1, 1] [] (s6_6 x0 x1 x2) =
    (J 0 9 0 (s6_7 x0 x1 0 x2) (e6 J m [1, 1, 1, 1, 0, 1] [] (s6_7 x0 x1 0 x2))) := fun J => by kernel_rfl
  exact (h jn).trans (by
    simp only [jn_eq, ref02_count_j7_eq m]
    rfl)
theorem ref02_count_l3_eq (m : Nat) : ∀ (M3 : Nat) (x0 x1 x2 : Int) (x3 : Dt), l6 jn m [1, 1, 1, 0, 1, 0] [] M3 (s6_3 x0 x1 x2 x3) = ref02_count_l3 m (ref02_count m) M3 x0 x1 x2 x3
  | 0, _, _, _, _ => rfl
  | M3 + 1, x0, x1, x2, x3 => by
    have h : ∀ J, l6 J m [1, 1, 1, 0, 1, 0] [] (M3 + 1) (s6_3 x0 x1 x2 x3) =
    (bif (decide (x2 < (List.length (Dt.L x3 3) : Int))) then
   (bif (decide (0 ≤ x1)) then
   (J 0 7 0 (s6_4 x0 x1 x2 x3) (e6 J m [1, 1, 1, 0, 1, 0, 0, 1] [M3] (s6_4 x0 x1 x2 x3)))
   else
   (J 0 8 0 (s6_6 x0 x1 x3) (e6 J m [1, 1, 1, 1] [] (s6_6 x0 x1 x3))))
    else
   (J 0 8 0 (s6_6 x0 x1 x3) (e6 J m [1, 1, 1, 1] [] (s6_6 x0 x1 x3)))) := fun J => by kernel_rfl
    refine (h jn).trans ?_
    simp only [jn_eq, ref02_count_j4_eq m M3 (ref02_count_l3 m (ref02_count m) M3) (fun x0 x1 x2 x3 => ref02_count_l3_eq m M3 x0 x1 x2 x3), ref02_count_j6_eq m]
    rfl
theorem ref02_count_j2_eq (m : Nat) (x0 x1 x2 : Int) (x3 : Dt) : e6 jn m [1, 1, 1, 0, 1] [] (s6_2 x0 x1 x2 x3) = ref02_count_j2 m (ref02_count m) x0 x1 x2 x3 := by
  have h : ∀ J, e6 J m [1, 1, 1, 0, 1] [] (s6_2 x0 x1 x2 x3) =
    (J 1 5 (Nat.succ m) (s6_3 x0 x1 x2 x3) (l6 J m [1, 1, 1, 0, 1, 0] [] (Nat.succ m) (s6_3 x0 x1 x2 x3))) := fun J => by kernel_rfl
  exact (h jn).trans (by
    simp only [jn_eq, ref02_count_l3_eq m]
    rfl)
theorem ref02_count_j1_eq (m : Nat) (x0 x1 : Int) (x2 : Dt) : e6 jn m [1, 1, 1] [] (s6_1 x0 x1 x2) = ref02_count_j1 m (ref02_count m) x0 x1 x2 := by
  have h : ∀ J, e6 J m [1, 1, 1] [] (s6_1 x0 x1 x2) =
    (J 0 5 0 (s6_2 x0 x1 0 x2) (e6 J m [1, 1, 1, 0, 1] [] (s6_2 x0 x1 0 x2))) := fun J => by kernel_rfl
  exact (h jn).trans (by
    simp only [jn_eq, ref02_count_j2_eq m]
    rfl)
theorem ref02_count_j0_eq (m : Nat) (x0 x1 : Int) (x2 : Bool) (x3 : Dt) : e6 jn m [1, 1, 0, 1] [] (s6_0 x0 x1 x2 x3) = ref02_count_j0 m (ref02_count m) x0 x1 x2 x3 := by
  have h : ∀ J, e6 J m [1, 1, 0, 1] [] (s6_0 x0 x1 x2 x3) =
    (bif x2 then
   some (-1)
    else
   (J 0 4 0 (s6_1 x0 x1 x3) (e6 J m [1, 1, 1] [] (s6_1 x0 x1 x3)))) := fun J => by kernel_rfl
  exact (h jn).trans (by
    simp only [jn_eq, ref02_count_j1_eq m]
    rfl)
theorem ref02_count_eq (m : Nat) (a0 : Dt) (a1 a2 : Int) : e6 jn m [] [] ⟨[(.dat 25 a0), (.dat 3 (.int a1)), (.dat 3 (.int a2))], [], 0⟩ = ref02_count (m + 1) a0 a1 a2 := by
  have h : ∀ J, e6 J m [] [] ⟨[(.dat 25 a0), (.dat 3 (.int a1)), (.dat 3 (.int a2))], [], 0⟩ =
    (bif (decide (40 < a1)) then
   (J 0 3 0 (s6_0 a1 (IntKind.wrap .i64 (a2 - 1)) true a0) (e6 J m [1, 1, 0, 1] [] (s6_0 a1 (IntKind.wrap .i64 (a2 - 1)) true a0)))
    else
   (J 0 3 0 (s6_0 a1 (IntKind.wrap .i64 (a2 - 1)) (decide (5000 < (ByteArray.size (Dt.S a0 2) : Int))) a0) (e6 J m [1, 1, 0, 1] [] (s6_0 a1 (IntKind.wrap .i64 (a2 - 1)) (decide (5000 < (ByteArray.size (Dt.S a0 2) : Int))) a0)))) := fun J => by kernel_rfl
  refine (h jn).trans ?_
  simp only [jn_eq, ref02_count_j0_eq m]
  rfl
noncomputable def d1 (q : Res) : Option Bool := match q with
  | (.dat T0 x0, []) => bif Nat.beq T0 4 then some x0.toBool else none
  | _ => none
theorem d1_sim {b : Res} {r : Bool} (h : d1 b = some r) : Sim Tryz.prog b ((.dat 4 (.bool r)), []) := by
  unfold d1 at h
  split at h
  · obtain ⟨hc, h2⟩ := bif_some h
    cases h2
    have e0 := beq_eq hc
    subst e0
    exact Sim.of (.of (.dat (.bool Tryz.underlying4)) rfl rfl) .nil
  · cases h
noncomputable def e1 (J : Nat → Nat → Nat → St → Option Bool → Option Bool) (m : Nat) (p ms : List Nat) (σ : St) := evAt Tryz.prog env (ct m) J (m + 1) 6 9 Tryz.f6 d1 p ms σ
noncomputable def l1 (J : Nat → Nat → Nat → St → Option Bool → Option Bool) (m : Nat) (p ms : List Nat) (M : Nat) (σ : St) := loopAt Tryz.prog env (ct m) J (m + 1) 6 9 Tryz.f6 d1 p ms M σ
theorem ref02_Few_eq (m : Nat) (a0 : Dt) (a1 : Int) : e1 jn m [] [] ⟨[(.dat 25 a0), (.dat 3 (.int a1))], [], 0⟩ = ref02_Few (m + 1) a0 a1 := by
  have h : ∀ J, e1 J m [] [] ⟨[(.dat 25 a0), (.dat 3 (.int a1))], [], 0⟩ =
    ((ref02_count m a0 1 a1).bind fun r0 =>
   some (decide (0 ≤ r0))) := fun J => by kernel_rfl
  refine (h jn).trans ?_
  
  rfl
noncomputable def d14 (q : Res) : Option Bool := match q with
  | (.dat T0 x0, []) => bif Nat.beq T0 4 then some x0.toBool else none
  | _ => none
theorem d14_sim {b : Res} {r : Bool} (h : d14 b = some r) : Sim Tryz.prog b ((.dat 4 (.bool r)), []) := by
  unfold d14 at h
  split at h
  · obtain ⟨hc, h2⟩ := bif_some h
    cases h2
    have e0 := beq_eq hc
    subst e0
    exact Sim.of (.of (.dat (.bool Tryz.underlying4)) rfl rfl) .nil
  · cases h
noncomputable def e14 (J : Nat → Nat → Nat → St → Option Bool → Option Bool) (m : Nat) (p ms : List Nat) (σ : St) := evAt Tryz.prog env (ct m) J (m + 1) 26 99 Tryz.f26 d14 p ms σ
noncomputable def l14 (J : Nat → Nat → Nat → St → Option Bool → Option Bool) (m : Nat) (p ms : List Nat) (M : Nat) (σ : St) := loopAt Tryz.prog env (ct m) J (m + 1) 26 99 Tryz.f26 d14 p ms M σ
noncomputable def s14_5 (x0 : Int) (x1 x2 : Dt) : St := ⟨tsOf [(2, (.ptr 0 [] 0)), (3, (.ptr 1 [] 0)), (5, (.dat 3 (.int x0)))], [(.box 25 (.dat 25 x1)), (.box 25 (.dat 25 x2))], 0⟩
noncomputable def s14_4 (x0 : Int) (x1 x2 : Dt) : St := ⟨tsOf [(2, (.ptr 0 [] 0)), (3, (.ptr 1 [] 0)), (5, (.dat 3 (.int x0)))], [(.box 25 (.dat 25 x1)), (.box 25 (.dat 25 x2))], 0⟩
noncomputable def s14_11 (x0 : Int) (x1 x2 : Dt) : St := ⟨tsOf [(2, (.ptr 0 [] 0)), (3, (.ptr 1 [] 0)), (6, (.dat 3 (.int x0)))], [(.box 25 (.dat 25 x1)), (.box 25 (.dat 25 x2))], 0⟩
noncomputable def s14_10 (x0 : Int) (x1 : Bool) (x2 x3 : Dt) : St := ⟨tsOf [(2, (.ptr 0 [] 0)), (3, (.ptr 1 [] 0)), (6, (.dat 3 (.int x0))), (98, (.dat 4 (.bool x1)))], [(.box 25 (.dat 25 x2)), (.box 25 (.dat 25 x3))], 0⟩
noncomputable def s14_9 (x0 : Int) (x1 x2 : Dt) : St := ⟨tsOf [(2, (.ptr 0 [] 0)), (3, (.ptr 1 [] 0)), (6, (.dat 3 (.int x0)))], [(.box 25 (.dat 25 x1)), (.box 25 (.dat 25 x2))], 0⟩
noncomputable def s14_12 : St := ⟨tsOf [], [], 0⟩
noncomputable def s14_8 (x0 : Int) (x1 x2 : Dt) : St := ⟨tsOf [(2, (.ptr 0 [] 0)), (3, (.ptr 1 [] 0)), (6, (.dat 3 (.int x0)))], [(.box 25 (.dat 25 x1)), (.box 25 (.dat 25 x2))], 0⟩
noncomputable def s14_7 (x0 : Int) (x1 x2 : Dt) : St := ⟨tsOf [(2, (.ptr 0 [] 0)), (3, (.ptr 1 [] 0)), (6, (.dat 3 (.int x0)))], [(.box 25 (.dat 25 x1)), (.box 25 (.dat 25 x2))], 0⟩
noncomputable def s14_6 (x0 x1 : Dt) : St := ⟨tsOf [(2, (.ptr 0 [] 0)), (3, (.ptr 1 [] 0))], [(.box 25 (.dat 25 x0)), (.box 25 (.dat 25 x1))], 0⟩
noncomputable def s14_3 (x0 : Int) (x1 x2 : Dt) : St := ⟨tsOf [(2, (.ptr 0 [] 0)), (3, (.ptr 1 [] 0)), (5, (.dat 3 (.int x0)))], [(.box 25 (.dat 25 x1)), (.box 25 (.dat 25 x2))], 0⟩
noncomputable def s14_2 (x0 : Int) (x1 x2 : Dt) : St := ⟨tsOf [(2, (.ptr 0 [] 0)), (3, (.ptr 1 [] 0)), (5, (.dat 3 (.int x0)))], [(.box 25 (.dat 25 x1)), (.box 25 (.dat 25 x2))], 0⟩
noncomputable def s14_1 (x0 x1 : Dt) : St := ⟨tsOf [(2, (.ptr 0 [] 0)), (3, (.ptr 1 [] 0))], [(.box 25 (.dat 25 x0)), (.box 25 (.dat 25 x1))], 0⟩
noncomputable def s14_0 (x0 : Bool) (x1 x2 : Dt) : St := ⟨tsOf [(2, (.ptr 0 [] 0)), (3, (.ptr 1 [] 0)), (43, (.dat 4 (.bool x0)))], [(.box 25 (.dat 25 x1)), (.box 25 (.dat 25 x2))], 0⟩
theorem ref01_Same_j5_eq (m : Nat) (M3 : Nat) (rec3 : Int → Dt → Dt → Option Bool) (h3 : ∀ (x0 : Int) (x1 x2 : Dt), l14 jn m [1, 1, 0, 1, 0] [] M3 (s14_3 x0 x1 x2) = rec3 x0 x1 x2) (x0 : Int) (x1 x2 : Dt) : e14 jn m [1, 1, 0, 1, 0, 0, 1, 1] [M3] (s14_5 x0 x1 x2) = ref01_Same_j5 m (ref01_Same m) rec3 x0 x1 x2 := by
  have h : ∀ J, e14 J m [1, 1, 0, 1, 0, 0, 1, 1] [M3] (s14_5 x0 x1 x2) =
    (J 1 4 M3 (s14_3 (IntKind.wrap .i64 (x0 + 1)) x1 x2) (l14 J m [1, 1, 0, 1, 0] [] M3 (s14_3 (IntKind.wrap .i64 (x0 + 1)) x1 x2))) := fun J => by kernel_rfl
  exact (h jn).trans (by
    simp only [jn_eq, h3]
    rfl)
theorem ref01_Same_j4_eq (m : Nat) (M3 : Nat) (rec3 : Int → Dt → Dt → Option Bool) (h3 : ∀ (x0 : Int) (x1 x2 : Dt), l14 jn m [1, 1, 0, 1, 0] [] M3 (s14_3 x0 x1 x2) = rec3 x0 x1 x2) (x0 : Int) (x1 x2 : Dt) : e14 jn m [1, 1, 0, 1, 0, 0, 1] [M3] (s14_4 x0 x1 x2) = ref01_Same_j4 m (ref01_Same m) rec3 x0 x1 x2 := by
  have h : ∀ J, e14 J m [1, 1, 0, 1, 0, 0, 1] [M3] (s14_4 x0 x1 x2) =
    ((idx (Dt.L x1 3) x0).bind fun v0 =>
   ((idx (Dt.L x2 3) x0).bind fun v1 =>
   ((ref01_Same m v0 v1).bind fun r2 =>
   (bif (Bool.not r2) then
   some false
   else
   (J 0 5 0 (s14_5 x0 x1 x2) (e14 J m [1, 1, 0, 1, 0, 0, 1, 1] [M3] (s14_5 x0 x1 x2))))))) := fun J => by kernel_rfl
  exact (h jn).trans (by
    simp only [jn_eq, ref01_Same_j5_eq m M3 rec3 h3]
    rfl)
theorem ref01_Same_j11_eq (m : Nat) (M8 : Nat) (rec8 : Int → Dt → Dt → Option Bool) (h8 : ∀ (x0 : Int) (x1 x2 : Dt), l14 jn m [1, 1, 1, 0, 1, 0] [] M8 (s14_8 x0 x1 x2) = rec8 x0 x1 x2) (x0 : Int) (x1 x2 : Dt) : e14 jn m [1, 1, 1, 0, 1, 0, 0, 1, 1] [M8] (s14_11 x0 x1 x2) = ref01_Same_j11 m (ref01_Same m) rec8 x0 x1 x2 := by
  have h : ∀ J, e14 J m [1, 1, 1, 0, 1, 0, 0, 1, 1] [M8] (s14_11 x0 x1 x2) =
    (J 1 9 M8 (s14_8 (IntKind.wrap .i64 (x0 + 1)) x1 x2) (l14 J m [1, 1, 1, 0, 1, 0] [] M8 (s14_8 (IntKind.wrap .i64 (x0 + 1)) x1 x2))) := fun J => by kernel_rfl
  exact (h jn).trans (by
    simp only [jn_eq, h8]
    rfl)
theorem ref01_Same_j10_eq (m : Nat) (M8 : Nat) (rec8 : Int → Dt → Dt → Option Bool) (h8 : ∀ (x0 : Int) (x1 x2 : Dt), l14 jn m [1, 1, 1, 0, 1, 0] [] M8 (s14_8 x0 x1 x2) = rec8 x0 x1 x2) (x0 : Int) (x1 : Bool) (x2 x3 : Dt) : e14 jn m [1, 1, 1, 0, 1, 0, 0, 1, 0, 0, 1] [M8] (s14_10 x0 x1 x2 x3) = ref01_Same_j10 m (ref01_Same m) rec8 x0 x1 x2 x3 := by
  have h : ∀ J, e14 J m [1, 1, 1, 0, 1, 0, 0, 1, 0, 0, 1] [M8] (s14_10 x0 x1 x2 x3) =
    (bif x1 then
   some false
    else
   (J 0 10 0 (s14_11 x0 x2 x3) (e14 J m [1, 1, 1, 0, 1, 0, 0, 1, 1] [M8] (s14_11 x0 x2 x3)))) := fun J => by kernel_rfl
  exact (h jn).trans (by
    simp only [jn_eq, ref01_Same_j11_eq m M8 rec8 h8]
    rfl)
theorem ref01_Same_j9_eq (m : Nat) (M8 : Nat) (rec8 : Int → Dt → Dt → Option Bool) (h8 : ∀ (x0 : Int) (x1 x2 : Dt), l14 jn m [1, 1, 1, 0, 1, 0] [] M8 (s14_8 x0 x1 x2) = rec8 x0 x1 x2) (x0 : Int) (x1 x2 : Dt) : e14 jn m [1, 1, 1, 0, 1, 0, 0, 1] [M8] (s14_9 x0 x1 x2) = ref01_Same_j9 m (ref01_Same m) rec8 x0 x1 x2 := by
  have h : ∀ J, e14 J m [1, 1, 1, 0, 1, 0, 0, 1] [M8] (s14_9 x0 x1 x2) =
    ((idx (Dt.L x1 4) x0).bind fun v3 =>
   ((idx (Dt.L x2 4) x0).bind fun v4 =>
   (bif (Bool.not ((ByteArray.toList (Dt.S v3 0)) == (ByteArray.toList (Dt.S v4 0)))) then
   (J 0 12 0 (s14_10 x0 true x1 x2) (e14 J m [1, 1, 1, 0, 1, 0, 0, 1, 0, 0, 1] [M8] (s14_10 x0 true x1 x2)))
   else
   ((idx (Dt.L x1 4) x0).bind fun v5 =>
   ((idx (Dt.L x2 4) x0).bind fun v6 =>
   ((ref01_Same m (Dt.fld v5 1) (Dt.fld v6 1)).bind fun r7 =>
   (J 0 12 0 (s14_10 x0 (Bool.not r7) x1 x2) (e14 J m [1, 1, 1, 0, 1, 0, 0, 1, 0, 0, 1] [M8] (s14_10 x0 (Bool.not r7) x1 x2))))))))) := fun J => by kernel_rfl
  exact (h jn).trans (by
    simp only [jn_eq, ref01_Same_j10_eq m M8 rec8 h8]
    rfl)
theorem ref01_Same_j12_eq (m : Nat) : e14 jn m [1, 1, 1, 1] [] s14_12 = ref01_Same_j12 m (ref01_Same m) := by
  have h : ∀ J, e14 J m [1, 1, 1, 1] [] s14_12 =
    some true := fun J => by kernel_rfl
  exact (h jn).trans (rfl)
theorem ref01_Same_l8_eq (m : Nat) : ∀ (M8 : Nat) (x0 : Int) (x1 x2 : Dt), l14 jn m [1, 1, 1, 0, 1, 0] [] M8 (s14_8 x0 x1 x2) = ref01_Same_l8 m (ref01_Same m) M8 x0 x1 x2
  | 0, _, _, _ => rfl
  | M8 + 1, x0, x1, x2 => by
    have h : ∀ J, l14 J m [1, 1, 1, 0, 1, 0] [] (M8 + 1) (s14_8 x0 x1 x2) =
    (bif (decide (x0 < (List.length (Dt.L x1 4) : Int))) then
   (J 0 11 0 (s14_9 x0 x1 x2) (e14 J m [1, 1, 1, 0, 1, 0, 0, 1] [M8] (s14_9 x0 x1 x2)))
    else
   (J 0 13 0 s14_12 (e14 J m [1, 1, 1, 1] [] s14_12))) := fun J => by kernel_rfl
    refine (h jn).trans ?_
    simp only [jn_eq, ref01_Same_j9_eq m M8 (ref01_Same_l8 m (ref01_Same m) M8) (fun x0 x1 x2 => ref01_Same_l8_eq m M8 x0 x1 x2), ref01_Same_j12_eq m]
    rfl
theorem ref01_Same_j7_eq (m : Nat) (x0 : Int) (x1 x2 : Dt) : e14 jn m [1, 1, 1, 0, 1] [] (s14_7 x0 x1 x2) = ref01_Same_j7 m (ref01_Same m) x0 x1 x2 := by
  have h : ∀ J, e14 J m [1, 1, 1, 0, 1] [] (s14_7 x0 x1 x2) =
    (J 1 9 (Nat.succ m) (s14_8 x0 x1 x2) (l14 J m [1, 1, 1, 0, 1, 0] [] (Nat.succ m) (s14_8 x0 x1 x2))) := fun J => by kernel_rfl
  exact (h jn).trans (by
    simp only [jn_eq, ref01_Same_l8_eq m]
    rfl)
theorem ref01_Same_j6_eq (m : Nat) (x0 x1 : Dt) : e14 jn m [1, 1, 1] [] (s14_6 x0 x1) = ref01_Same_j6 m (ref01_Same m) x0 x1 := by
  have h : ∀ J, e14 J m [1, 1, 1] [] (s14_6 x0 x1) =
    (J 0 9 0 (s14_7 0 x0 x1) (e14 J m [1, 1, 1, 0, 1] [] (s14_7 0 x0 x1))) := fun J => by kernel_rfl
  exact (h jn).trans (by
    simp only [jn_eq, ref01_Same_j7_eq m]
    rfl)
theorem ref01_Same_l3_eq (m : Nat) : ∀ (M3 : Nat) (x0 : Int) (x1 x2 : Dt), l14 jn m [1, 1, 0, 1, 0] [] M3 (s14_3 x0 x1 x2) = ref01_Same_l3 m (ref01_Same m) M3 x0 x1 x2
  | 0, _, _, _ => rfl
  | M3 + 1, x0, x1, x2 => by
    have h : ∀ J, l14 J m [1, 1, 0, 1, 0] [] (M3 + 1) (s14_3 x0 x1 x2) =
    (bif (decide (x0 < (List.length (Dt.L x1 3) : Int))) then
   (J 0 6 0 (s14_4 x0 x1 x2) (e14 J m [1, 1, 0, 1, 0, 0, 1] [M3] (s14_4 x0 x1 x2)))
    else
   (J 0 8 0 (s14_6 x1 x2) (e14 J m [1, 1, 1] [] (s14_6 x1 x2)))) := fun J => by kernel_rfl
    refine (h jn).trans ?_
    simp only [jn_eq, ref01_Same_j4_eq m M3 (ref01_Same_l3 m (ref01_Same m) M3) (fun x0 x1 x2 => ref01_Same_l3_eq m M3 x0 x1 x2), ref01_Same_j6_eq m]
    rfl
theorem ref01_Same_j2_eq (m : Nat) (x0 : Int) (x1 x2 : Dt) : e14 jn m [1, 1, 0, 1] [] (s14_2 x0 x1 x2) = ref01_Same_j2 m (ref01_Same m) x0 x1 x2 := by
  have h : ∀ J, e14 J m [1, 1, 0, 1] [] (s14_2 x0 x1 x2) =
    (J 1 4 (Nat.succ m) (s14_3 x0 x1 x2) (l14 J m [1, 1, 0, 1, 0] [] (Nat.succ m) (s14_3 x0 x1 x2))) := fun J => by kernel_rfl
  exact (h jn).trans (by
    simp only [jn_eq, ref01_Same_l3_eq m]
    rfl)
theorem ref01_Same_j1_eq (m : Nat) (x0 x1 : Dt) : e14 jn m [1, 1] [] (s14_1 x0 x1) = ref01_Same_j1 m (ref01_Same m) x0 x1 := by
  have h : ∀ J, e14 J m [1, 1] [] (s14_1 x0 x1) =
    (J 0 4 0 (s14_2 0 x0 x1) (e14 J m [1, 1, 0, 1] [] (s14_2 0 x0 x1))) := fun J => by kernel_rfl
  exact (h jn).trans (by
    simp only [jn_eq, ref01_Same_j2_eq m]
    rfl)
theorem ref01_Same_j0_eq (m : Nat) (x0 : Bool) (x1 x2 : Dt) : e14 jn m [1, 0, 1] [] (s14_0 x0 x1 x2) = ref01_Same_j0 m (ref01_Same m) x0 x1 x2 := by
  have h : ∀ J, e14 J m [1, 0, 1] [] (s14_0 x0 x1 x2) =
    (bif x0 then
   some false
    else
   (J 0 3 0 (s14_1 x1 x2) (e14 J m [1, 1] [] (s14_1 x1 x2)))) := fun J => by kernel_rfl
  exact (h jn).trans (by
    simp only [jn_eq, ref01_Same_j1_eq m]
    rfl)
theorem ref01_Same_eq (m : Nat) (a0 a1 : Dt) : e14 jn m [] [] ⟨[(.dat 25 a0), (.dat 25 a1)], [], 0⟩ = ref01_Same (m + 1) a0 a1 := by
  have h : ∀ J, e14 J m [] [] ⟨[(.dat 25 a0), (.dat 25 a1)], [], 0⟩ =
    (bif ((Dt.I a0 0) != (Dt.I a1 0)) then
   (J 0 2 0 (s14_0 true a0 a1) (e14 J m [1, 0, 1] [] (s14_0 true a0 a1)))
    else
   (bif ((Dt.I a0 1) != (Dt.I a1 1)) then
   (J 0 2 0 (s14_0 true a0 a1) (e14 J m [1, 0, 1] [] (s14_0 true a0 a1)))
   else
   (bif (Bool.not ((ByteArray.toList (Dt.S a0 2)) == (ByteArray.toList (Dt.S a1 2)))) then
   (J 0 2 0 (s14_0 true a0 a1) (e14 J m [1, 0, 1] [] (s14_0 true a0 a1)))
   else
   (bif ((List.length (Dt.L a0 3) : Int) != (List.length (Dt.L a1 3) : Int)) then
   (J 0 2 0 (s14_0 true a0 a1) (e14 J m [1, 0, 1] [] (s14_0 true a0 a1)))
   else
   (J 0 2 0 (s14_0 ((List.length (Dt.L a0 4) : Int) != (List.length (Dt.L a1 4) : Int)) a0 a1) (e14 J m [1, 0, 1] [] (s14_0 ((List.length (Dt.L a0 4) : Int) != (List.length (Dt.L a1 4) : Int)) a0 a1))))))) := fun J => by kernel_rfl
  refine (h jn).trans ?_
  simp only [jn_eq, ref01_Same_j0_eq m]
  rfl
noncomputable def d15 (q : Res) : Option Bool := match q with
  | (.dat T0 x0, []) => bif Nat.beq T0 4 then some x0.toBool else none
  | _ => none
theorem d15_sim {b : Res} {r : Bool} (h : d15 b = some r) : Sim Tryz.prog b ((.dat 4 (.bool r)), []) := by
  unfold d15 at h
  split at h
  · obtain ⟨hc, h2⟩ := bif_some h
    cases h2
    have e0 := beq_eq hc
    subst e0
    exact Sim.of (.of (.dat (.bool Tryz.underlying4)) rfl rfl) .nil
  · cases h
noncomputable def e15 (J : Nat → Nat → Nat → St → Option Bool → Option Bool) (m : Nat) (p ms : List Nat) (σ : St) := evAt Tryz.prog env (ct m) J (m + 1) 27 10 Tryz.f27 d15 p ms σ
noncomputable def l15 (J : Nat → Nat → Nat → St → Option Bool → Option Bool) (m : Nat) (p ms : List Nat) (M : Nat) (σ : St) := loopAt Tryz.prog env (ct m) J (m + 1) 27 10 Tryz.f27 d15 p ms M σ
theorem ref01_SameList_eq (m : Nat) (a0 a1 : List Dt) : e15 jn m [] [] ⟨[(.dat 22 (.lst a0)), (.dat 22 (.lst a1))], [], 0⟩ = ref01_SameList (m + 1) a0 a1 := by
  have h : ∀ J, e15 J m [] [] ⟨[(.dat 22 (.lst a0)), (.dat 22 (.lst a1))], [], 0⟩ =
    ((ref01_Same m (Dt.agg [(Dt.int 6), (Dt.int 0), (Dt.str (ByteArray.mk (List.toArray []))), (Dt.lst a0), (Dt.lst [])]) (Dt.agg [(Dt.int 6), (Dt.int 0), (Dt.str (ByteArray.mk (List.toArray []))), (Dt.lst a1), (Dt.lst [])])).bind fun r0 =>
   some r0) := fun J => by kernel_rfl
  refine (h jn).trans ?_
  
  rfl
noncomputable def d18 (q : Res) : Option Dt := match q with
  | (.dat T0 x0, []) => bif Nat.beq T0 25 then some x0 else none
  | _ => none
theorem d18_sim {b : Res} {r : Dt} (h : d18 b = some r) : Sim Tryz.prog b ((.dat 25 r), []) := by
  unfold d18 at h
  split at h
  · obtain ⟨hc, h2⟩ := bif_some h
    cases h2
    have e0 := beq_eq hc
    subst e0
    exact Sim.of (.of .same rfl rfl) .nil
  · cases h
noncomputable def e18 (J : Nat → Nat → Nat → St → Option Dt → Option Dt) (m : Nat) (p ms : List Nat) (σ : St) := evAt Tryz.prog env (ct m) J (m + 1) 67 68 Tryz.f67 d18 p ms σ
noncomputable def l18 (J : Nat → Nat → Nat → St → Option Dt → Option Dt) (m : Nat) (p ms : List Nat) (M : Nat) (σ : St) := loopAt Tryz.prog env (ct m) J (m + 1) 67 68 Tryz.f67 d18 p ms M σ
noncomputable def s18_3 (x0 : List Dt) (x1 x2 : Int) (x3 x4 : Dt) (x5 x6 : Int) (x7 : ByteArray) (x8 : List Dt) : St := ⟨tsOf [(1, (.ptr 0 [] 0)), (2, (.ptr 1 [] 0)), (3, (.ptr 2 [] 0)), (25, (.dat 22 (.lst x0))), (26, (.dat 3 (.int x1))), (27, (.dat 3 (.int x2)))], [(.box 25 (.dat 25 x3)), (.box 25 (.dat 25 x4)), (.box 25 (.agg 25 [(.dat 3 (.int x5)), (.dat 3 (.int x6)), (.dat 9 (.str x7)), (.row 3), (.nils 23)])), (.row 22 x8)], 0⟩
noncomputable def s18_2 (x0 : List Dt) (x1 x2 : Int) (x3 x4 : Dt) (x5 x6 : Int) (x7 : ByteArray) (x8 : List Dt) : St := ⟨tsOf [(1, (.ptr 0 [] 0)), (2, (.ptr 1 [] 0)), (3, (.ptr 2 [] 0)), (25, (.dat 22 (.lst x0))), (26, (.dat 3 (.int x1))), (27, (.dat 3 (.int x2)))], [(.box 25 (.dat 25 x3)), (.box 25 (.dat 25 x4)), (.box 25 (.agg 25 [(.dat 3 (.int x5)), (.dat 3 (.int x6)), (.dat 9 (.str x7)), (.row 3), (.nils 23)])), (.row 22 x8)], 0⟩
noncomputable def s18_8 (x0 : List Dt) (x1 x2 : Int) (x3 : Dt) (x4 x5 : Int) (x6 : ByteArray) (x7 x8 : List Dt) : St := ⟨tsOf [(2, (.ptr 0 [] 0)), (3, (.ptr 1 [] 0)), (49, (.dat 23 (.lst x0))), (50, (.dat 3 (.int x1))), (51, (.dat 3 (.int x2)))], [(.box 25 (.dat 25 x3)), (.box 25 (.agg 25 [(.dat 3 (.int x4)), (.dat 3 (.int x5)), (.dat 9 (.str x6)), (.row 2), (.row 3)])), (.row 22 x7), (.row 23 x8)], 0⟩
noncomputable def s18_7 (x0 : List Dt) (x1 x2 : Int) (x3 : Dt) (x4 x5 : Int) (x6 : ByteArray) (x7 x8 : List Dt) : St := ⟨tsOf [(2, (.ptr 0 [] 0)), (3, (.ptr 1 [] 0)), (49, (.dat 23 (.lst x0))), (50, (.dat 3 (.int x1))), (51, (.dat 3 (.int x2)))], [(.box 25 (.dat 25 x3)), (.box 25 (.agg 25 [(.dat 3 (.int x4)), (.dat 3 (.int x5)), (.dat 9 (.str x6)), (.row 2), (.row 3)])), (.row 22 x7), (.row 23 x8)], 0⟩
noncomputable def s18_9 (x0 : Dt) (x1 x2 : Int) (x3 : ByteArray) (x4 x5 : List Dt) : St := ⟨tsOf [(2, (.ptr 0 [] 0)), (3, (.ptr 1 [] 0))], [(.box 25 (.dat 25 x0)), (.box 25 (.agg 25 [(.dat 3 (.int x1)), (.dat 3 (.int x2)), (.dat 9 (.str x3)), (.row 2), (.row 3)])), (.row 22 x4), (.row 23 x5)], 0⟩
noncomputable def s18_6 (x0 : List Dt) (x1 x2 : Int) (x3 : Dt) (x4 x5 : Int) (x6 : ByteArray) (x7 x8 : List Dt) : St := ⟨tsOf [(2, (.ptr 0 [] 0)), (3, (.ptr 1 [] 0)), (49, (.dat 23 (.lst x0))), (50, (.dat 3 (.int x1))), (51, (.dat 3 (.int x2)))], [(.box 25 (.dat 25 x3)), (.box 25 (.agg 25 [(.dat 3 (.int x4)), (.dat 3 (.int x5)), (.dat 9 (.str x6)), (.row 2), (.row 3)])), (.row 22 x7), (.row 23 x8)], 0⟩
noncomputable def s18_5 (x0 : List Dt) (x1 x2 : Int) (x3 : Dt) (x4 x5 : Int) (x6 : ByteArray) (x7 x8 : List Dt) : St := ⟨tsOf [(2, (.ptr 0 [] 0)), (3, (.ptr 1 [] 0)), (49, (.dat 23 (.lst x0))), (50, (.dat 3 (.int x1))), (51, (.dat 3 (.int x2)))], [(.box 25 (.dat 25 x3)), (.box 25 (.agg 25 [(.dat 3 (.int x4)), (.dat 3 (.int x5)), (.dat 9 (.str x6)), (.row 2), (.row 3)])), (.row 22 x7), (.row 23 x8)], 0⟩
noncomputable def s18_10 (x0 : Dt) (x1 x2 : Int) (x3 : ByteArray) (x4 : List Dt) : St := ⟨tsOf [(2, (.ptr 0 [] 0)), (3, (.ptr 1 [] 0))], [(.box 25 (.dat 25 x0)), (.box 25 (.agg 25 [(.dat 3 (.int x1)), (.dat 3 (.int x2)), (.dat 9 (.str x3)), (.row 2), (.nils 23)])), (.row 22 x4)], 0⟩
noncomputable def s18_4 (x0 x1 : Dt) (x2 x3 : Int) (x4 : ByteArray) (x5 : List Dt) : St := ⟨tsOf [(1, (.ptr 0 [] 0)), (2, (.ptr 1 [] 0)), (3, (.ptr 2 [] 0))], [(.box 25 (.dat 25 x0)), (.box 25 (.dat 25 x1)), (.box 25 (.agg 25 [(.dat 3 (.int x2)), (.dat 3 (.int x3)), (.dat 9 (.str x4)), (.row 3), (.nils 23)])), (.row 22 x5)], 0⟩
noncomputable def s18_1 (x0 : List Dt) (x1 x2 : Int) (x3 x4 : Dt) (x5 x6 : Int) (x7 : ByteArray) (x8 : List Dt) : St := ⟨tsOf [(1, (.ptr 0 [] 0)), (2, (.ptr 1 [] 0)), (3, (.ptr 2 [] 0)), (25, (.dat 22 (.lst x0))), (26, (.dat 3 (.int x1))), (27, (.dat 3 (.int x2)))], [(.box 25 (.dat 25 x3)), (.box 25 (.dat 25 x4)), (.box 25 (.agg 25 [(.dat 3 (.int x5)), (.dat 3 (.int x6)), (.dat 9 (.str x7)), (.row 3), (.nils 23)])), (.row 22 x8)], 0⟩
noncomputable def s18_0 (x0 : List Dt) (x1 x2 : Int) (x3 x4 : Dt) (x5 x6 : Int) (x7 : ByteArray) (x8 : List Dt) : St := ⟨tsOf [(1, (.ptr 0 [] 0)), (2, (.ptr 1 [] 0)), (3, (.ptr 2 [] 0)), (25, (.dat 22 (.lst x0))), (26, (.dat 3 (.int x1))), (27, (.dat 3 (.int x2)))], [(.box 25 (.dat 25 x3)), (.box 25 (.dat 25 x4)), (.box 25 (.agg 25 [(.dat 3 (.int x5)), (.dat 3 (.int x6)), (.dat 9 (.str x7)), (.row 3), (.nils 23)])), (.row 22 x8)], 0⟩
noncomputable def s18_15 (x0 : List Dt) (x1 x2 : Int) (x3 : Dt) (x4 x5 : Int) (x6 : ByteArray) (x7 x8 : List Dt) : St := ⟨tsOf [(2, (.ptr 0 [] 0)), (3, (.ptr 1 [] 0)), (49, (.dat 23 (.lst x0))), (50, (.dat 3 (.int x1))), (51, (.dat 3 (.int x2)))], [(.box 25 (.dat 25 x3)), (.box 25 (.agg 25 [(.dat 3 (.int x4)), (.dat 3 (.int x5)), (.dat 9 (.str x6)), (.dat 22 (.lst x7)), (.row 2)])), (.row 23 x8)], 0⟩
noncomputable def s18_14 (x0 : List Dt) (x1 x2 : Int) (x3 : Dt) (x4 x5 : Int) (x6 : ByteArray) (x7 x8 : List Dt) : St := ⟨tsOf [(2, (.ptr 0 [] 0)), (3, (.ptr 1 [] 0)), (49, (.dat 23 (.lst x0))), (50, (.dat 3 (.int x1))), (51, (.dat 3 (.int x2)))], [(.box 25 (.dat 25 x3)), (.box 25 (.agg 25 [(.dat 3 (.int x4)), (.dat 3 (.int x5)), (.dat 9 (.str x6)), (.dat 22 (.lst x7)), (.row 2)])), (.row 23 x8)], 0⟩
noncomputable def s18_16 (x0 : Dt) (x1 x2 : Int) (x3 : ByteArray) (x4 x5 : List Dt) : St := ⟨tsOf [(2, (.ptr 0 [] 0)), (3, (.ptr 1 [] 0))], [(.box 25 (.dat 25 x0)), (.box 25 (.agg 25 [(.dat 3 (.int x1)), (.dat 3 (.int x2)), (.dat 9 (.str x3)), (.dat 22 (.lst x4)), (.row 2)])), (.row 23 x5)], 0⟩
noncomputable def s18_13 (x0 : List Dt) (x1 x2 : Int) (x3 : Dt) (x4 x5 : Int) (x6 : ByteArray) (x7 x8 : List Dt) : St := ⟨tsOf [(2, (.ptr 0 [] 0)), (3, (.ptr 1 [] 0)), (49, (.dat 23 (.lst x0))), (50, (.dat 3 (.int x1))), (51, (.dat 3 (.int x2)))], [(.box 25 (.dat 25 x3)), (.box 25 (.agg 25 [(.dat 3 (.int x4)), (.dat 3 (.int x5)), (.dat 9 (.str x6)), (.dat 22 (.lst x7)), (.row 2)])), (.row 23 x8)], 0⟩
noncomputable def s18_12 (x0 : List Dt) (x1 x2 : Int) (x3 : Dt) (x4 x5 : Int) (x6 : ByteArray) (x7 x8 : List Dt) : St := ⟨tsOf [(2, (.ptr 0 [] 0)), (3, (.ptr 1 [] 0)), (49, (.dat 23 (.lst x0))), (50, (.dat 3 (.int x1))), (51, (.dat 3 (.int x2)))], [(.box 25 (.dat 25 x3)), (.box 25 (.agg 25 [(.dat 3 (.int x4)), (.dat 3 (.int x5)), (.dat 9 (.str x6)), (.dat 22 (.lst x7)), (.row 2)])), (.row 23 x8)], 0⟩
noncomputable def s18_17 (x0 x1 : Dt) : St := ⟨tsOf [(2, (.ptr 0 [] 0)), (3, (.ptr 1 [] 0))], [(.box 25 (.dat 25 x0)), (.box 25 (.dat 25 x1))], 0⟩
noncomputable def s18_11 (x0 x1 x2 : Dt) : St := ⟨tsOf [(1, (.ptr 0 [] 0)), (2, (.ptr 1 [] 0)), (3, (.ptr 2 [] 0))], [(.box 25 (.dat 25 x0)), (.box 25 (.dat 25 x1)), (.box 25 (.dat 25 x2))], 0⟩
theorem schema_clone_j3_eq (m : Nat) (M1 : Nat) (rec1 : List Dt → Int → Int → Dt → Dt → Int → Int → ByteArray → List Dt → Option Dt) (h1 : ∀ (x0 : List Dt) (x1 x2 : Int) (x3 x4 : Dt) (x5 x6 : Int) (x7 : ByteArray) (x8 : List Dt), l18 jn m [1, 1, 0, 1, 0, 1, 1, 0] [] M1 (s18_1 x0 x1 x2 x3 x4 x5 x6 x7 x8) = rec1 x0 x1 x2 x3 x4 x5 x6 x7 x8) (x0 : List Dt) (x1 x2 : Int) (x3 x4 : Dt) (x5 x6 : Int) (x7 : ByteArray) (x8 : List Dt) : e18 jn m [1, 1, 0, 1, 0, 1, 1, 0, 0, 1, 1, 1] [M1] (s18_3 x0 x1 x2 x3 x4 x5 x6 x7 x8) = schema_clone_j3 m (schema_clone m) rec1 x0 x1 x2 x3 x4 x5 x6 x7 x8 := by
  have h : ∀ J, e18 J m [1, 1, 0, 1, 0, 1, 1, 0, 0, 1, 1, 1] [M1] (s18_3 x0 x1 x2 x3 x4 x5 x6 x7 x8) =
    (J 1 5 M1 (s18_1 x0 x1 (IntKind.wrap .i64 (x2 + 1)) x3 x4 x5 x6 x7 x8) (l18 J m [1, 1, 0, 1, 0, 1, 1, 0] [] M1 (s18_1 x0 x1 (IntKind.wrap .i64 (x2 + 1)) x3 x4 x5 x6 x7 x8))) := fun J => by kernel_rfl
  exact (h jn).trans (by
    simp only [jn_eq, h1]
    rfl)
theorem schema_clone_j2_eq (m : Nat) (M1 : Nat) (rec1 : List Dt → Int → Int → Dt → Dt → Int → Int → ByteArray → List Dt → Option Dt) (h1 : ∀ (x0 : List Dt) (x1 x2 : Int) (x3 x4 : Dt) (x5 x6 : Int) (x7 : ByteArray) (x8 : List Dt), l18 jn m [1, 1, 0, 1, 0, 1, 1, 0] [] M1 (s18_1 x0 x1 x2 x3 x4 x5 x6 x7 x8) = rec1 x0 x1 x2 x3 x4 x5 x6 x7 x8) (x0 : List Dt) (x1 x2 : Int) (x3 x4 : Dt) (x5 x6 : Int) (x7 : ByteArray) (x8 : List Dt) : e18 jn m [1, 1, 0, 1, 0, 1, 1, 0, 0, 1, 1] [M1] (s18_2 x0 x1 x2 x3 x4 x5 x6 x7 x8) = schema_clone_j2 m (schema_clone m) rec1 x0 x1 x2 x3 x4 x5 x6 x7 x8 := by
  have h : ∀ J, e18 J m [1, 1, 0, 1, 0, 1, 1, 0, 0, 1, 1] [M1] (s18_2 x0 x1 x2 x3 x4 x5 x6 x7 x8) =
    ((idx x0 x2).bind fun v1 =>
   ((schema_clone m v1).bind fun r2 =>
   ((inL x8 x2).bind fun v3 =>
   ((x8[(Int.toNat x2)]?).bind fun v4 =>
   (J 0 8 0 (s18_3 x0 x1 x2 x3 x4 x5 x6 x7 (List.set x8 (Int.toNat x2) r2)) (e18 J m [1, 1, 0, 1, 0, 1, 1, 0, 0, 1, 1, 1] [M1] (s18_3 x0 x1 x2 x3 x4 x5 x6 x7 (List.set x8 (Int.toNat x2) r2)))))))) := fun J => by kernel_rfl
  exact (h jn).trans (by
    simp only [jn_eq, schema_clone_j3_eq m M1 rec1 h1]
    rfl)
theorem schema_clone_j8_eq (m : Nat) (M6 : Nat) (rec6 : List Dt → Int → Int → Dt → Int → Int → ByteArray → List Dt → List Dt → Option Dt) (h6 : ∀ (x0 : List Dt) (x1 x2 : Int) (x3 : Dt) (x4 x5 : Int) (x6 : ByteArray) (x7 x8 : List Dt), l18 jn m [1, 1, 1, 0, 1, 0, 1, 1, 0] [] M6 (s18_6 x0 x1 x2 x3 x4 x5 x6 x7 x8) = rec6 x0 x1 x2 x3 x4 x5 x6 x7 x8) (x0 : List Dt) (x1 x2 : Int) (x3 : Dt) (x4 x5 : Int) (x6 : ByteArray) (x7 x8 : List Dt) : e18 jn m [1, 1, 1, 0, 1, 0, 1, 1, 0, 0, 1, 1, 1] [M6] (s18_8 x0 x1 x2 x3 x4 x5 x6 x7 x8) = schema_clone_j8 m (schema_clone m) rec6 x0 x1 x2 x3 x4 x5 x6 x7 x8 := by
  have h : ∀ J, e18 J m [1, 1, 1, 0, 1, 0, 1, 1, 0, 0, 1, 1, 1] [M6] (s18_8 x0 x1 x2 x3 x4 x5 x6 x7 x8) =
    (J 1 12 M6 (s18_6 x0 x1 (IntKind.wrap .i64 (x2 + 1)) x3 x4 x5 x6 x7 x8) (l18 J m [1, 1, 1, 0, 1, 0, 1, 1, 0] [] M6 (s18_6 x0 x1 (IntKind.wrap .i64 (x2 + 1)) x3 x4 x5 x6 x7 x8))) := fun J => by kernel_rfl
  exact (h jn).trans (by
    simp only [jn_eq, h6]
    rfl)
theorem schema_clone_j7_eq (m : Nat) (M6 : Nat) (rec6 : List Dt → Int → Int → Dt → Int → Int → ByteArray → List Dt → List Dt → Option Dt) (h6 : ∀ (x0 : List Dt) (x1 x2 : Int) (x3 : Dt) (x4 x5 : Int) (x6 : ByteArray) (x7 x8 : List Dt), l18 jn m [1, 1, 1, 0, 1, 0, 1, 1, 0] [] M6 (s18_6 x0 x1 x2 x3 x4 x5 x6 x7 x8) = rec6 x0 x1 x2 x3 x4 x5 x6 x7 x8) (x0 : List Dt) (x1 x2 : Int) (x3 : Dt) (x4 x5 : Int) (x6 : ByteArray) (x7 x8 : List Dt) : e18 jn m [1, 1, 1, 0, 1, 0, 1, 1, 0, 0, 1, 1] [M6] (s18_7 x0 x1 x2 x3 x4 x5 x6 x7 x8) = schema_clone_j7 m (schema_clone m) rec6 x0 x1 x2 x3 x4 x5 x6 x7 x8 := by
  have h : ∀ J, e18 J m [1, 1, 1, 0, 1, 0, 1, 1, 0, 0, 1, 1] [M6] (s18_7 x0 x1 x2 x3 x4 x5 x6 x7 x8) =
    ((idx x0 x2).bind fun v6 =>
   ((schema_clone m (Dt.fld v6 1)).bind fun r7 =>
   ((inL x8 x2).bind fun v8 =>
   ((x8[(Int.toNat x2)]?).bind fun v9 =>
   (J 0 15 0 (s18_8 x0 x1 x2 x3 x4 x5 x6 x7 (List.set x8 (Int.toNat x2) (Dt.agg [(Dt.str (Dt.S v6 0)), r7]))) (e18 J m [1, 1, 1, 0, 1, 0, 1, 1, 0, 0, 1, 1, 1] [M6] (s18_8 x0 x1 x2 x3 x4 x5 x6 x7 (List.set x8 (Int.toNat x2) (Dt.agg [(Dt.str (Dt.S v6 0)), r7]))))))))) := fun J => by kernel_rfl
  exact (h jn).trans (by
    simp only [jn_eq, schema_clone_j8_eq m M6 rec6 h6]
    rfl)
theorem schema_clone_j9_eq (m : Nat) (x0 : Dt) (x1 x2 : Int) (x3 : ByteArray) (x4 x5 : List Dt) : e18 jn m [1, 1, 1, 1] [] (s18_9 x0 x1 x2 x3 x4 x5) = schema_clone_j9 m (schema_clone m) x0 x1 x2 x3 x4 x5 := by
  have h : ∀ J, e18 J m [1, 1, 1, 1] [] (s18_9 x0 x1 x2 x3 x4 x5) =
    some (Dt.agg [(Dt.int x1), (Dt.int x2), (Dt.str x3), (Dt.lst x4), (Dt.lst x5)]) := fun J => by kernel_rfl
  exact (h jn).trans (rfl)
theorem schema_clone_l6_eq (m : Nat) : ∀ (M6 : Nat) (x0 : List Dt) (x1 x2 : Int) (x3 : Dt) (x4 x5 : Int) (x6 : ByteArray) (x7 x8 : List Dt), l18 jn m [1, 1, 1, 0, 1, 0, 1, 1, 0] [] M6 (s18_6 x0 x1 x2 x3 x4 x5 x6 x7 x8) = schema_clone_l6 m (schema_clone m) M6 x0 x1 x2 x3 x4 x5 x6 x7 x8
  | 0, _, _, _, _, _, _, _, _, _ => rfl
  | M6 + 1, x0, x1, x2, x3, x4, x5, x6, x7, x8 => by
    have h : ∀ J, l18 J m [1, 1, 1, 0, 1, 0, 1, 1, 0] [] (M6 + 1) (s18_6 x0 x1 x2 x3 x4 x5 x6 x7 x8) =
    (bif (decide (x2 < x1)) then
   (J 0 13 0 (s18_7 x0 x1 x2 x3 x4 x5 x6 x7 x8) (e18 J m [1, 1, 1, 0, 1, 0, 1, 1, 0, 0, 1, 1] [M6] (s18_7 x0 x1 x2 x3 x4 x5 x6 x7 x8)))
    else
   (J 0 16 0 (s18_9 x3 x4 x5 x6 x7 x8) (e18 J m [1, 1, 1, 1] [] (s18_9 x3 x4 x5 x6 x7 x8)))) := fun J => by kernel_rfl
    refine (h jn).trans ?_
    simp only [jn_eq, schema_clone_j7_eq m M6 (schema_clone_l6 m (schema_clone m) M6) (fun x0 x1 x2 x3 x4 x5 x6 x7 x8 => schema_clone_l6_eq m M6 x0 x1 x2 x3 x4 x5 x6 x7 x8), schema_clone_j9_eq m]
    rfl
theorem schema_clone_j5_eq (m : Nat) (x0 : List Dt) (x1 x2 : Int) (x3 : Dt) (x4 x5 : Int) (x6 : ByteArray) (x7 x8 : List Dt) : e18 jn m [1, 1, 1, 0, 1, 0, 1, 1] [] (s18_5 x0 x1 x2 x3 x4 x5 x6 x7 x8) = schema_clone_j5 m (schema_clone m) x0 x1 x2 x3 x4 x5 x6 x7 x8 := by
  have h : ∀ J, e18 J m [1, 1, 1, 0, 1, 0, 1, 1] [] (s18_5 x0 x1 x2 x3 x4 x5 x6 x7 x8) =
    (J 1 12 (Nat.succ m) (s18_6 x0 x1 x2 x3 x4 x5 x6 x7 x8) (l18 J m [1, 1, 1, 0, 1, 0, 1, 1, 0] [] (Nat.succ m) (s18_6 x0 x1 x2 x3 x4 x5 x6 x7 x8))) := fun J => by kernel_rfl
  exact (h jn).trans (by
    simp only [jn_eq, schema_clone_l6_eq m]
    rfl)
theorem schema_clone_j10_eq (m : Nat) (x0 : Dt) (x1 x2 : Int) (x3 : ByteArray) (x4 : List Dt) : e18 jn m [1, 1, 1, 1] [] (s18_10 x0 x1 x2 x3 x4) = schema_clone_j10 m (schema_clone m) x0 x1 x2 x3 x4 := by
  have h : ∀ J, e18 J m [1, 1, 1, 1] [] (s18_10 x0 x1 x2 x3 x4) =
    some (Dt.agg [(Dt.int x1), (Dt.int x2), (Dt.str x3), (Dt.lst x4), (Dt.lst [])]) := fun J => by kernel_rfl
  exact (h jn).trans (rfl)
theorem schema_clone_j4_eq (m : Nat) (x0 x1 : Dt) (x2 x3 : Int) (x4 : ByteArray) (x5 : List Dt) : e18 jn m [1, 1, 1] [] (s18_4 x0 x1 x2 x3 x4 x5) = schema_clone_j4 m (schema_clone m) x0 x1 x2 x3 x4 x5 := by
  have h : ∀ J, e18 J m [1, 1, 1] [] (s18_4 x0 x1 x2 x3 x4 x5) =
    (bif (decide (0 < (List.length (Dt.L x0 4) : Int))) then
   ((mkL (List.length (Dt.L x0 4) : Int) (List.length (Dt.L x0 4) : Int) kzcda49).bind fun v5 =>
   (J 0 12 0 (s18_5 (Dt.L x0 4) (List.length (Dt.L x0 4) : Int) 0 x1 x2 x3 x4 x5 v5) (e18 J m [1, 1, 1, 0, 1, 0, 1, 1] [] (s18_5 (Dt.L x0 4) (List.length (Dt.L x0 4) : Int) 0 x1 x2 x3 x4 x5 v5))))
    else
   (J 0 16 0 (s18_10 x1 x2 x3 x4 x5) (e18 J m [1, 1, 1, 1] [] (s18_10 x1 x2 x3 x4 x5)))) := fun J => by kernel_rfl
  exact (h jn).trans (by
    simp only [jn_eq, schema_clone_j5_eq m, schema_clone_j10_eq m]
    rfl)
theorem schema_clone_l1_eq (m : Nat) : ∀ (M1 : Nat) (x0 : List Dt) (x1 x2 : Int) (x3 x4 : Dt) (x5 x6 : Int) (x7 : ByteArray) (x8 : List Dt), l18 jn m [1, 1, 0, 1, 0, 1, 1, 0] [] M1 (s18_1 x0 x1 x2 x3 x4 x5 x6 x7 x8) = schema_clone_l1 m (schema_clone m) M1 x0 x1 x2 x3 x4 x5 x6 x7 x8
  | 0, _, _, _, _, _, _, _, _, _ => rfl
  | M1 + 1, x0, x1, x2, x3, x4, x5, x6, x7, x8 => by
    have h : ∀ J, l18 J m [1, 1, 0, 1, 0, 1, 1, 0] [] (M1 + 1) (s18_1 x0 x1 x2 x3 x4 x5 x6 x7 x8) =
    (bif (decide (x2 < x1)) then
   (J 0 6 0 (s18_2 x0 x1 x2 x3 x4 x5 x6 x7 x8) (e18 J m [1, 1, 0, 1, 0, 1, 1, 0, 0, 1, 1] [M1] (s18_2 x0 x1 x2 x3 x4 x5 x6 x7 x8)))
    else
   (J 0 9 0 (s18_4 x3 x4 x5 x6 x7 x8) (e18 J m [1, 1, 1] [] (s18_4 x3 x4 x5 x6 x7 x8)))) := fun J => by kernel_rfl
    refine (h jn).trans ?_
    simp only [jn_eq, schema_clone_j2_eq m M1 (schema_clone_l1 m (schema_clone m) M1) (fun x0 x1 x2 x3 x4 x5 x6 x7 x8 => schema_clone_l1_eq m M1 x0 x1 x2 x3 x4 x5 x6 x7 x8), schema_clone_j4_eq m]
    rfl
theorem schema_clone_j0_eq (m : Nat) (x0 : List Dt) (x1 x2 : Int) (x3 x4 : Dt) (x5 x6 : Int) (x7 : ByteArray) (x8 : List Dt) : e18 jn m [1, 1, 0, 1, 0, 1, 1] [] (s18_0 x0 x1 x2 x3 x4 x5 x6 x7 x8) = schema_clone_j0 m (schema_clone m) x0 x1 x2 x3 x4 x5 x6 x7 x8 := by
  have h : ∀ J, e18 J m [1, 1, 0, 1, 0, 1, 1] [] (s18_0 x0 x1 x2 x3 x4 x5 x6 x7 x8) =
    (J 1 5 (Nat.succ m) (s18_1 x0 x1 x2 x3 x4 x5 x6 x7 x8) (l18 J m [1, 1, 0, 1, 0, 1, 1, 0] [] (Nat.succ m) (s18_1 x0 x1 x2 x3 x4 x5 x6 x7 x8))) := fun J => by kernel_rfl
  exact (h jn).trans (by
    simp only [jn_eq, schema_clone_l1_eq m]
    rfl)
theorem schema_clone_j15_eq (m : Nat) (M13 : Nat) (rec13 : List Dt → Int → Int → Dt → Int → Int → ByteArray → List Dt → List Dt → Option Dt) (h13 : ∀ (x0 : List Dt) (x1 x2 : Int) (x3 : Dt) (x4 x5 : Int) (x6 : ByteArray) (x7 x8 : List Dt), l18 jn m [1, 1, 1, 0, 1, 0, 1, 1, 0] [] M13 (s18_13 x0 x1 x2 x3 x4 x5 x6 x7 x8) = rec13 x0 x1 x2 x3 x4 x5 x6 x7 x8) (x0 : List Dt) (x1 x2 : Int) (x3 : Dt) (x4 x5 : Int) (x6 : ByteArray) (x7 x8 : List Dt) : e18 jn m [1, 1, 1, 0, 1, 0, 1, 1, 0, 0, 1, 1, 1] [M13] (s18_15 x0 x1 x2 x3 x4 x5 x6 x7 x8) = schema_clone_j15 m (schema_clone m) rec13 x0 x1 x2 x3 x4 x5 x6 x7 x8 := by
  have h : ∀ J, e18 J m [1, 1, 1, 0, 1, 0, 1, 1, 0, 0, 1, 1, 1] [M13] (s18_15 x0 x1 x2 x3 x4 x5 x6 x7 x8) =
    (J 1 12 M13 (s18_13 x0 x1 (IntKind.wrap .i64 (x2 + 1)) x3 x4 x5 x6 x7 x8) (l18 J m [1, 1, 1, 0, 1, 0, 1, 1, 0] [] M13 (s18_13 x0 x1 (IntKind.wrap .i64 (x2 + 1)) x3 x4 x5 x6 x7 x8))) := fun J => by kernel_rfl
  exact (h jn).trans (by
    simp only [jn_eq, h13]
    rfl)
theorem schema_clone_j14_eq (m : Nat) (M13 : Nat) (rec13 : List Dt → Int → Int → Dt → Int → Int → ByteArray → List Dt → List Dt → Option Dt) (h13 : ∀ (x0 : List Dt) (x1 x2 : Int) (x3 : Dt) (x4 x5 : Int) (x6 : ByteArray) (x7 x8 : List Dt), l18 jn m [1, 1, 1, 0, 1, 0, 1, 1, 0] [] M13 (s18_13 x0 x1 x2 x3 x4 x5 x6 x7 x8) = rec13 x0 x1 x2 x3 x4 x5 x6 x7 x8) (x0 : List Dt) (x1 x2 : Int) (x3 : Dt) (x4 x5 : Int) (x6 : ByteArray) (x7 x8 : List Dt) : e18 jn m [1, 1, 1, 0, 1, 0, 1, 1, 0, 0, 1, 1] [M13] (s18_14 x0 x1 x2 x3 x4 x5 x6 x7 x8) = schema_clone_j14 m (schema_clone m) rec13 x0 x1 x2 x3 x4 x5 x6 x7 x8 := by
  have h : ∀ J, e18 J m [1, 1, 1, 0, 1, 0, 1, 1, 0, 0, 1, 1] [M13] (s18_14 x0 x1 x2 x3 x4 x5 x6 x7 x8) =
    ((idx x0 x2).bind fun v11 =>
   ((schema_clone m (Dt.fld v11 1)).bind fun r12 =>
   ((inL x8 x2).bind fun v13 =>
   ((x8[(Int.toNat x2)]?).bind fun v14 =>
   (J 0 15 0 (s18_15 x0 x1 x2 x3 x4 x5 x6 x7 (List.set x8 (Int.toNat x2) (Dt.agg [(Dt.str (Dt.S v11 0)), r12]))) (e18 J m [1, 1, 1, 0, 1, 0, 1, 1, 0, 0, 1, 1, 1] [M13] (s18_15 x0 x1 x2 x3 x4 x5 x6 x7 (List.set x8 (Int.toNat x2) (Dt.agg [(Dt.str (Dt.S v11 0)), r12]))))))))) := fun J => by kernel_rfl
  exact (h jn).trans (by
    simp only [jn_eq, schema_clone_j15_eq m M13 rec13 h13]
    rfl)
theorem schema_clone_j16_eq (m : Nat) (x0 : Dt) (x1 x2 : Int) (x3 : ByteArray) (x4 x5 : List Dt) : e18 jn m [1, 1, 1, 1] [] (s18_16 x0 x1 x2 x3 x4 x5) = schema_clone_j16 m (schema_clone m) x0 x1 x2 x3 x4 x5 := by
  have h : ∀ J, e18 J m [1, 1, 1, 1] [] (s18_16 x0 x1 x2 x3 x4 x5) =
    some (Dt.agg [(Dt.int x1), (Dt.int x2), (Dt.str x3), (Dt.lst x4), (Dt.lst x5)]) := fun J => by kernel_rfl
  exact (h jn).trans (rfl)
theorem schema_clone_l13_eq (m : Nat) : ∀ (M13 : Nat) (x0 : List Dt) (x1 x2 : Int) (x3 : Dt) (x4 x5 : Int) (x6 : ByteArray) (x7 x8 : List Dt), l18 jn m [1, 1, 1, 0, 1, 0, 1, 1, 0] [] M13 (s18_13 x0 x1 x2 x3 x4 x5 x6 x7 x8) = schema_clone_l13 m (schema_clone m) M13 x0 x1 x2 x3 x4 x5 x6 x7 x8
  | 0, _, _, _, _, _, _, _, _, _ => rfl
  | M13 + 1, x0, x1, x2, x3, x4, x5, x6, x7, x8 => by
    have h : ∀ J, l18 J m [1, 1, 1, 0, 1, 0, 1, 1, 0] [] (M13 + 1) (s18_13 x0 x1 x2 x3 x4 x5 x6 x7 x8) =
    (bif (decide (x2 < x1)) then
   (J 0 13 0 (s18_14 x0 x1 x2 x3 x4 x5 x6 x7 x8) (e18 J m [1, 1, 1, 0, 1, 0, 1, 1, 0, 0, 1, 1] [M13] (s18_14 x0 x1 x2 x3 x4 x5 x6 x7 x8)))
    else
   (J 0 16 0 (s18_16 x3 x4 x5 x6 x7 x8) (e18 J m [1, 1, 1, 1] [] (s18_16 x3 x4 x5 x6 x7 x8)))) := fun J => by kernel_rfl
    refine (h jn).trans ?_
    simp only [jn_eq, schema_clone_j14_eq m M13 (schema_clone_l13 m (schema_clone m) M13) (fun x0 x1 x2 x3 x4 x5 x6 x7 x8 => schema_clone_l13_eq m M13 x0 x1 x2 x3 x4 x5 x6 x7 x8), schema_clone_j16_eq m]
    rfl
theorem schema_clone_j12_eq (m : Nat) (x0 : List Dt) (x1 x2 : Int) (x3 : Dt) (x4 x5 : Int) (x6 : ByteArray) (x7 x8 : List Dt) : e18 jn m [1, 1, 1, 0, 1, 0, 1, 1] [] (s18_12 x0 x1 x2 x3 x4 x5 x6 x7 x8) = schema_clone_j12 m (schema_clone m) x0 x1 x2 x3 x4 x5 x6 x7 x8 := by
  have h : ∀ J, e18 J m [1, 1, 1, 0, 1, 0, 1, 1] [] (s18_12 x0 x1 x2 x3 x4 x5 x6 x7 x8) =
    (J 1 12 (Nat.succ m) (s18_13 x0 x1 x2 x3 x4 x5 x6 x7 x8) (l18 J m [1, 1, 1, 0, 1, 0, 1, 1, 0] [] (Nat.succ m) (s18_13 x0 x1 x2 x3 x4 x5 x6 x7 x8))) := fun J => by kernel_rfl
  exact (h jn).trans (by
    simp only [jn_eq, schema_clone_l13_eq m]
    rfl)
theorem schema_clone_j17_eq (m : Nat) (x0 x1 : Dt) : e18 jn m [1, 1, 1, 1] [] (s18_17 x0 x1) = schema_clone_j17 m (schema_clone m) x0 x1 := by
  have h : ∀ J, e18 J m [1, 1, 1, 1] [] (s18_17 x0 x1) =
    some x1 := fun J => by kernel_rfl
  exact (h jn).trans (rfl)
theorem schema_clone_j11_eq (m : Nat) (x0 x1 x2 : Dt) : e18 jn m [1, 1, 1] [] (s18_11 x0 x1 x2) = schema_clone_j11 m (schema_clone m) x0 x1 x2 := by
  have h : ∀ J, e18 J m [1, 1, 1] [] (s18_11 x0 x1 x2) =
    (bif (decide (0 < (List.length (Dt.L x0 4) : Int))) then
   ((mkL (List.length (Dt.L x0 4) : Int) (List.length (Dt.L x0 4) : Int) kzcda49).bind fun v10 =>
   (J 0 12 0 (s18_12 (Dt.L x0 4) (List.length (Dt.L x0 4) : Int) 0 x1 (Dt.I x2 0) (Dt.I x2 1) (Dt.S x2 2) (Dt.L x2 3) v10) (e18 J m [1, 1, 1, 0, 1, 0, 1, 1] [] (s18_12 (Dt.L x0 4) (List.length (Dt.L x0 4) : Int) 0 x1 (Dt.I x2 0) (Dt.I x2 1) (Dt.S x2 2) (Dt.L x2 3) v10))))
    else
   (J 0 16 0 (s18_17 x1 x2) (e18 J m [1, 1, 1, 1] [] (s18_17 x1 x2)))) := fun J => by kernel_rfl
  exact (h jn).trans (by
    simp only [jn_eq, schema_clone_j12_eq m, schema_clone_j17_eq m]
    rfl)
theorem schema_clone_eq (m : Nat) (a0 : Dt) : e18 jn m [] [] ⟨[(.dat 25 a0)], [], 0⟩ = schema_clone (m + 1) a0 := by
  have h : ∀ J, e18 J m [] [] ⟨[(.dat 25 a0)], [], 0⟩ =
    (bif (decide (0 < (List.length (Dt.L a0 3) : Int))) then
   ((mkL (List.length (Dt.L a0 3) : Int) (List.length (Dt.L a0 3) : Int) kza2373).bind fun v0 =>
   (J 0 5 0 (s18_0 (Dt.L a0 3) (List.length (Dt.L a0 3) : Int) 0 a0 kza2373 (Dt.I a0 0) (Dt.I a0 1) (Dt.S a0 2) v0) (e18 J m [1, 1, 0, 1, 0, 1, 1] [] (s18_0 (Dt.L a0 3) (List.length (Dt.L a0 3) : Int) 0 a0 kza2373 (Dt.I a0 0) (Dt.I a0 1) (Dt.S a0 2) v0))))
    else
   (J 0 9 0 (s18_11 a0 kza2373 (Dt.agg [(Dt.int (Dt.I a0 0)), (Dt.int (Dt.I a0 1)), (Dt.str (Dt.S a0 2)), (Dt.lst []), (Dt.lst [])])) (e18 J m [1, 1, 1] [] (s18_11 a0 kza2373 (Dt.agg [(Dt.int (Dt.I a0 0)), (Dt.int (Dt.I a0 1)), (Dt.str (Dt.S a0 2)), (Dt.lst []), (Dt.lst [])]))))) := fun J => by kernel_rfl
  refine (h jn).trans ?_
  simp only [jn_eq, schema_clone_j0_eq m, schema_clone_j11_eq m]
  rfl
noncomputable def d19 (q : Res) : Option (List Dt × Bool) := match q with
  | (.tup [.dat T0 x0, .dat T1 x1], []) => bif (Nat.beq T0 28 && Nat.beq T1 4) then some (x0.toLst, x1.toBool) else none
  | _ => none
theorem d19_sim {b : Res} {r : List Dt × Bool} (h : d19 b = some r) : Sim Tryz.prog b ((.tup [(.dat 28 (.lst r.1)), (.dat 4 (.bool r.2))]), []) := by
  unfold d19 at h
  split at h
  · obtain ⟨hc, h2⟩ := bif_some h
    cases h2
    have e0 := beq_eq (and_l hc)
    have e1 := beq_eq (and_r hc)
    subst e0 e1
    exact Sim.of (.tup (.cons (.dat (.lst Tryz.underlying28)) (.cons (.dat (.bool Tryz.underlying4)) .nil))) .nil
  · cases h
noncomputable def e19 (J : Nat → Nat → Nat → St → Option (List Dt × Bool) → Option (List Dt × Bool)) (m : Nat) (p ms : List Nat) (σ : St) := evAt Tryz.prog env (ct m) J (m + 1) 68 27 Tryz.f68 d19 p ms σ
noncomputable def l19 (J : Nat → Nat → Nat → St → Option (List Dt × Bool) → Option (List Dt × Bool)) (m : Nat) (p ms : List Nat) (M : Nat) (σ : St) := loopAt Tryz.prog env (ct m) J (m + 1) 68 27 Tryz.f68 d19 p ms M σ
noncomputable def s19_5 (x0 : List Dt) (x1 x2 : Int) (x3 : List Dt) : St := ⟨tsOf [(4, (.row 0)), (11, (.dat 22 (.lst x0))), (12, (.dat 3 (.int x1))), (13, (.dat 3 (.int x2)))], [(.row 28 x3)], 0⟩
noncomputable def s19_4 (x0 : List Dt) (x1 x2 : Int) (x3 : List Dt) (x4 : Dt) : St := ⟨tsOf [(4, (.row 0)), (6, (.ptr 1 [] 0)), (11, (.dat 22 (.lst x0))), (12, (.dat 3 (.int x1))), (13, (.dat 3 (.int x2)))], [(.row 28 x3), (.box 25 (.dat 25 x4))], 0⟩
noncomputable def s19_3 (x0 : List Dt) (x1 x2 : Int) (x3 : List Dt) : St := ⟨tsOf [(4, (.row 0)), (11, (.dat 22 (.lst x0))), (12, (.dat 3 (.int x1))), (13, (.dat 3 (.int x2)))], [(.row 28 x3)], 0⟩
noncomputable def s19_6 (x0 : List Dt) : St := ⟨tsOf [(4, (.row 0))], [(.row 28 x0)], 0⟩
noncomputable def s19_2 (x0 : List Dt) (x1 x2 : Int) (x3 : List Dt) : St := ⟨tsOf [(4, (.row 0)), (11, (.dat 22 (.lst x0))), (12, (.dat 3 (.int x1))), (13, (.dat 3 (.int x2)))], [(.row 28 x3)], 0⟩
noncomputable def s19_1 (x0 : List Dt) (x1 x2 : Int) (x3 : List Dt) : St := ⟨tsOf [(4, (.row 0)), (11, (.dat 22 (.lst x0))), (12, (.dat 3 (.int x1))), (13, (.dat 3 (.int x2)))], [(.row 28 x3)], 0⟩
noncomputable def s19_0 (x0 : Dt) : St := ⟨tsOf [(1, (.ptr 0 [] 0))], [(.box 25 (.dat 25 x0))], 0⟩
theorem schema_parseNames_j5_eq (m : Nat) (M2 : Nat) (rec2 : List Dt → Int → Int → List Dt → Option (List Dt × Bool)) (h2 : ∀ (x0 : List Dt) (x1 x2 : Int) (x3 : List Dt), l19 jn m [1, 1, 1, 0, 1, 0] [] M2 (s19_2 x0 x1 x2 x3) = rec2 x0 x1 x2 x3) (x0 : List Dt) (x1 x2 : Int) (x3 : List Dt) : e19 jn m [1, 1, 1, 0, 1, 0, 0, 1, 1, 1] [M2] (s19_5 x0 x1 x2 x3) = schema_parseNames_j5 m rec2 x0 x1 x2 x3 := by
  have h : ∀ J, e19 J m [1, 1, 1, 0, 1, 0, 0, 1, 1, 1] [M2] (s19_5 x0 x1 x2 x3) =
    (J 1 5 M2 (s19_2 x0 x1 (IntKind.wrap .i64 (x2 + 1)) x3) (l19 J m [1, 1, 1, 0, 1, 0] [] M2 (s19_2 x0 x1 (IntKind.wrap .i64 (x2 + 1)) x3))) := fun J => by kernel_rfl
  exact (h jn).trans (by
    simp only [jn_eq, h2]
    rfl)
theorem schema_parseNames_j4_eq (m : Nat) (M2 : Nat) (rec2 : List Dt → Int → Int → List Dt → Option (List Dt × Bool)) (h2 : ∀ (x0 : List Dt) (x1 x2 : Int) (x3 : List Dt), l19 jn m [1, 1, 1, 0, 1, 0] [] M2 (s19_2 x0 x1 x2 x3) = rec2 x0 x1 x2 x3) (x0 : List Dt) (x1 x2 : Int) (x3 : List Dt) (x4 : Dt) : e19 jn m [1, 1, 1, 0, 1, 0, 0, 1, 1, 0, 0, 1, 1] [M2] (s19_4 x0 x1 x2 x3 x4) = schema_parseNames_j4 m rec2 x0 x1 x2 x3 x4 := by
  have h : ∀ J, e19 J m [1, 1, 1, 0, 1, 0, 0, 1, 1, 0, 0, 1, 1] [M2] (s19_4 x0 x1 x2 x3 x4) =
    ((app x3 [(Dt.str (Dt.S x4 2))]).bind fun v1 =>
   (J 0 10 0 (s19_5 x0 x1 x2 v1) (e19 J m [1, 1, 1, 0, 1, 0, 0, 1, 1, 1] [M2] (s19_5 x0 x1 x2 v1)))) := fun J => by kernel_rfl
  exact (h jn).trans (by
    simp only [jn_eq, schema_parseNames_j5_eq m M2 rec2 h2]
    rfl)
theorem schema_parseNames_j3_eq (m : Nat) (M2 : Nat) (rec2 : List Dt → Int → Int → List Dt → Option (List Dt × Bool)) (h2 : ∀ (x0 : List Dt) (x1 x2 : Int) (x3 : List Dt), l19 jn m [1, 1, 1, 0, 1, 0] [] M2 (s19_2 x0 x1 x2 x3) = rec2 x0 x1 x2 x3) (x0 : List Dt) (x1 x2 : Int) (x3 : List Dt) : e19 jn m [1, 1, 1, 0, 1, 0, 0, 1, 1] [M2] (s19_3 x0 x1 x2 x3) = schema_parseNames_j3 m rec2 x0 x1 x2 x3 := by
  have h : ∀ J, e19 J m [1, 1, 1, 0, 1, 0, 0, 1, 1] [M2] (s19_3 x0 x1 x2 x3) =
    ((idx x0 x2).bind fun v0 =>
   (bif ((Dt.I v0 0) != 4) then
   some ([], false)
   else
   (J 0 9 0 (s19_4 x0 x1 x2 x3 v0) (e19 J m [1, 1, 1, 0, 1, 0, 0, 1, 1, 0, 0, 1, 1] [M2] (s19_4 x0 x1 x2 x3 v0))))) := fun J => by kernel_rfl
  exact (h jn).trans (by
    simp only [jn_eq, schema_parseNames_j4_eq m M2 rec2 h2]
    rfl)
theorem schema_parseNames_j6_eq (m : Nat) (x0 : List Dt) : e19 jn m [1, 1, 1, 1] [] (s19_6 x0) = schema_parseNames_j6 m x0 := by
  have h : ∀ J, e19 J m [1, 1, 1, 1] [] (s19_6 x0) =
    some (x0, true) := fun J => by kernel_rfl
  exact (h jn).trans (rfl)
theorem schema_parseNames_l2_eq (m : Nat) : ∀ (M2 : Nat) (x0 : List Dt) (x1 x2 : Int) (x3 : List Dt), l19 jn m [1, 1, 1, 0, 1, 0] [] M2 (s19_2 x0 x1 x2 x3) = schema_parseNames_l2 m M2 x0 x1 x2 x3
  | 0, _, _, _, _ => rfl
  | M2 + 1, x0, x1, x2, x3 => by
    have h : ∀ J, l19 J m [1, 1, 1, 0, 1, 0] [] (M2 + 1) (s19_2 x0 x1 x2 x3) =
    (bif (decide (x2 < x1)) then
   (J 0 6 0 (s19_3 x0 x1 x2 x3) (e19 J m [1, 1, 1, 0, 1, 0, 0, 1, 1] [M2] (s19_3 x0 x1 x2 x3)))
    else
   (J 0 11 0 (s19_6 x3) (e19 J m [1, 1, 1, 1] [] (s19_6 x3)))) := fun J => by kernel_rfl
    refine (h jn).trans ?_
    simp only [jn_eq, schema_parseNames_j3_eq m M2 (schema_parseNames_l2 m M2) (fun x0 x1 x2 x3 => schema_parseNames_l2_eq m M2 x0 x1 x2 x3), schema_parseNames_j6_eq m]
    rfl
theorem schema_parseNames_j1_eq (m : Nat) (x0 : List Dt) (x1 x2 : Int) (x3 : List Dt) : e19 jn m [1, 1, 1, 0, 1] [] (s19_1 x0 x1 x2 x3) = schema_parseNames_j1 m x0 x1 x2 x3 := by
  have h : ∀ J, e19 J m [1, 1, 1, 0, 1] [] (s19_1 x0 x1 x2 x3) =
    (J 1 5 (Nat.succ m) (s19_2 x0 x1 x2 x3) (l19 J m [1, 1, 1, 0, 1, 0] [] (Nat.succ m) (s19_2 x0 x1 x2 x3))) := fun J => by kernel_rfl
  exact (h jn).trans (by
    simp only [jn_eq, schema_parseNames_l2_eq m]
    rfl)
theorem schema_parseNames_j0_eq (m : Nat) (x0 : Dt) : e19 jn m [1, 1] [] (s19_0 x0) = schema_parseNames_j0 m x0 := by
  have h : ∀ J, e19 J m [1, 1] [] (s19_0 x0) =
    (J 0 5 0 (s19_1 (Dt.L x0 3) (List.length (Dt.L x0 3) : Int) 0 []) (e19 J m [1, 1, 1, 0, 1] [] (s19_1 (Dt.L x0 3) (List.length (Dt.L x0 3) : Int) 0 []))) := fun J => by kernel_rfl
  exact (h jn).trans (by
    simp only [jn_eq, schema_parseNames_j1_eq m]
    rfl)
theorem schema_parseNames_eq (m : Nat) (a0 : Dt) : e19 jn m [] [] ⟨[(.dat 25 a0)], [], 0⟩ = schema_parseNames (m + 1) a0 := by
  have h : ∀ J, e19 J m [] [] ⟨[(.dat 25 a0)], [], 0⟩ =
    (bif ((Dt.I a0 0) != 6) then
   some ([], false)
    else
   (J 0 3 0 (s19_0 a0) (e19 J m [1, 1] [] (s19_0 a0)))) := fun J => by kernel_rfl
  refine (h jn).trans ?_
  simp only [jn_eq, schema_parseNames_j0_eq m]
  rfl
noncomputable def d32 (q : Res) : Option Bool := match q with
  | (.dat T0 x0, []) => bif Nat.beq T0 4 then some x0.toBool else none
  | _ => none
theorem d32_sim {b : Res} {r : Bool} (h : d32 b = some r) : Sim Tryz.prog b ((.dat 4 (.bool r)), []) := by
  unfold d32 at h
  split at h
  · obtain ⟨hc, h2⟩ := bif_some h
    cases h2
    have e0 := beq_eq hc
    subst e0
    exact Sim.of (.of (.dat (.bool Tryz.underlying4)) rfl rfl) .nil
  · cases h
noncomputable def e32 (J : Nat → Nat → Nat → St → Option Bool → Option Bool) (m : Nat) (p ms : List Nat) (σ : St) := evAt Tryz.prog env (ct m) J (m + 1) 43 26 Tryz.f43 d32 p ms σ
noncomputable def l32 (J : Nat → Nat → Nat → St → Option Bool → Option Bool) (m : Nat) (p ms : List Nat) (M : Nat) (σ : St) := loopAt Tryz.prog env (ct m) J (m + 1) 43 26 Tryz.f43 d32 p ms M σ
noncomputable def s32_4 (x0 x1 : List Dt) (x2 : Int) : St := ⟨tsOf [(0, (.dat 28 (.lst x0))), (1, (.dat 28 (.lst x1))), (5, (.dat 3 (.int x2)))], [], 0⟩
noncomputable def s32_3 (x0 x1 : List Dt) (x2 : Int) : St := ⟨tsOf [(0, (.dat 28 (.lst x0))), (1, (.dat 28 (.lst x1))), (5, (.dat 3 (.int x2)))], [], 0⟩
noncomputable def s32_5 : St := ⟨tsOf [], [], 0⟩
noncomputable def s32_2 (x0 x1 : List Dt) (x2 : Int) : St := ⟨tsOf [(0, (.dat 28 (.lst x0))), (1, (.dat 28 (.lst x1))), (5, (.dat 3 (.int x2)))], [], 0⟩
noncomputable def s32_1 (x0 x1 : List Dt) (x2 : Int) : St := ⟨tsOf [(0, (.dat 28 (.lst x0))), (1, (.dat 28 (.lst x1))), (5, (.dat 3 (.int x2)))], [], 0⟩
noncomputable def s32_0 (x0 x1 : List Dt) : St := ⟨tsOf [(0, (.dat 28 (.lst x0))), (1, (.dat 28 (.lst x1)))], [], 0⟩
theorem ref04_prefix_j4_eq (m : Nat) (M2 : Nat) (rec2 : List Dt → List Dt → Int → Option Bool) (h2 : ∀ (x0 x1 : List Dt) (x2 : Int), l32 jn m [1, 1, 0, 1, 0] [] M2 (s32_2 x0 x1 x2) = rec2 x0 x1 x2) (x0 x1 : List Dt) (x2 : Int) : e32 jn m [1, 1, 0, 1, 0, 0, 1, 1] [M2] (s32_4 x0 x1 x2) = ref04_prefix_j4 m rec2 x0 x1 x2 := by
  have h : ∀ J, e32 J m [1, 1, 0, 1, 0, 0, 1, 1] [M2] (s32_4 x0 x1 x2) =
    (J 1 4 M2 (s32_2 x0 x1 (IntKind.wrap .i64 (x2 + 1))) (l32 J m [1, 1, 0, 1, 0] [] M2 (s32_2 x0 x1 (IntKind.wrap .i64 (x2 + 1))))) := fun J => by kernel_rfl
  exact (h jn).trans (by
    simp only [jn_eq, h2]
    rfl)
theorem ref04_prefix_j3_eq (m : Nat) (M2 : Nat) (rec2 : List Dt → List Dt → Int → Option Bool) (h2 : ∀ (x0 x1 : List Dt) (x2 : Int), l32 jn m [1, 1, 0, 1, 0] [] M2 (s32_2 x0 x1 x2) = rec2 x0 x1 x2) (x0 x1 : List Dt) (x2 : Int) : e32 jn m [1, 1, 0, 1, 0, 0, 1] [M2] (s32_3 x0 x1 x2) = ref04_prefix_j3 m rec2 x0 x1 x2 := by
  have h : ∀ J, e32 J m [1, 1, 0, 1, 0, 0, 1] [M2] (s32_3 x0 x1 x2) =
    ((idx x0 x2).bind fun v0 =>
   ((idx x1 x2).bind fun v1 =>
   (bif (Bool.not ((ByteArray.toList (Dt.toStr v0)) == (ByteArray.toList (Dt.toStr v1)))) then
   some false
   else
   (J 0 5 0 (s32_4 x0 x1 x2) (e32 J m [1, 1, 0, 1, 0, 0, 1, 1] [M2] (s32_4 x0 x1 x2)))))) := fun J => by kernel_rfl
  exact (h jn).trans (by
    simp only [jn_eq, ref04_prefix_j4_eq m M2 rec2 h2]
    rfl)
theorem ref04_prefix_j5_eq (m : Nat) : e32 jn m [1, 1, 1] [] s32_5 = ref04_prefix_j5 m := by
  have h : ∀ J, e32 J m [1, 1, 1] [] s32_5 =
    some true := fun J => by kernel_rfl
  exact (h jn).trans (rfl)
theorem ref04_prefix_l2_eq (m : Nat) : ∀ (M2 : Nat) (x0 x1 : List Dt) (x2 : Int), l32 jn m [1, 1, 0, 1, 0] [] M2 (s32_2 x0 x1 x2) = ref04_prefix_l2 m M2 x0 x1 x2
  | 0, _, _, _ => rfl
  | M2 + 1, x0, x1, x2 => by
    have h : ∀ J, l32 J m [1, 1, 0, 1, 0] [] (M2 + 1) (s32_2 x0 x1 x2) =
    (bif (decide (x2 < (List.length x0 : Int))) then
   (J 0 6 0 (s32_3 x0 x1 x2) (e32 J m [1, 1, 0, 1, 0, 0, 1] [M2] (s32_3 x0 x1 x2)))
    else
   (J 0 8 0 s32_5 (e32 J m [1, 1, 1] [] s32_5))) := fun J => by kernel_rfl
    refine (h jn).trans ?_
    simp only [jn_eq, ref04_prefix_j3_eq m M2 (ref04_prefix_l2 m M2) (fun x0 x1 x2 => ref04_prefix_l2_eq m M2 x0 x1 x2), ref04_prefix_j5_eq m]
    rfl
theorem ref04_prefix_j1_eq (m : Nat) (x0 x1 : List Dt) (x2 : Int) : e32 jn m [1, 1, 0, 1] [] (s32_1 x0 x1 x2) = ref04_prefix_j1 m x0 x1 x2 := by
  have h : ∀ J, e32 J m [1, 1, 0, 1] [] (s32_1 x0 x1 x2) =
    (J 1 4 (Nat.succ m) (s32_2 x0 x1 x2) (l32 J m [1, 1, 0, 1, 0] [] (Nat.succ m) (s32_2 x0 x1 x2))) := fun J => by kernel_rfl
  exact (h jn).trans (by
    simp only [jn_eq, ref04_prefix_l2_eq m]
    rfl)
theorem ref04_prefix_j0_eq (m : Nat) (x0 x1 : List Dt) : e32 jn m [1, 1] [] (s32_0 x0 x1) = ref04_prefix_j0 m x0 x1 := by
  have h : ∀ J, e32 J m [1, 1] [] (s32_0 x0 x1) =
    (J 0 4 0 (s32_1 x0 x1 0) (e32 J m [1, 1, 0, 1] [] (s32_1 x0 x1 0))) := fun J => by kernel_rfl
  exact (h jn).trans (by
    simp only [jn_eq, ref04_prefix_j1_eq m]
    rfl)
theorem ref04_prefix_eq (m : Nat) (a0 a1 : List Dt) : e32 jn m [] [] ⟨[(.dat 28 (.lst a0)), (.dat 28 (.lst a1))], [], 0⟩ = ref04_prefix (m + 1) a0 a1 := by
  have h : ∀ J, e32 J m [] [] ⟨[(.dat 28 (.lst a0)), (.dat 28 (.lst a1))], [], 0⟩ =
    (bif (decide ((List.length a1 : Int) < (List.length a0 : Int))) then
   some false
    else
   (J 0 3 0 (s32_0 a0 a1) (e32 J m [1, 1] [] (s32_0 a0 a1)))) := fun J => by kernel_rfl
  refine (h jn).trans ?_
  simp only [jn_eq, ref04_prefix_j0_eq m]
  rfl
noncomputable def d13 (q : Res) : Option Bool := match q with
  | (.dat T0 x0, []) => bif Nat.beq T0 4 then some x0.toBool else none
  | _ => none
theorem d13_sim {b : Res} {r : Bool} (h : d13 b = some r) : Sim Tryz.prog b ((.dat 4 (.bool r)), []) := by
  unfold d13 at h
  split at h
  · obtain ⟨hc, h2⟩ := bif_some h
    cases h2
    have e0 := beq_eq hc
    subst e0
    exact Sim.of (.of (.dat (.bool Tryz.underlying4)) rfl rfl) .nil
  · cases h
noncomputable def e13 (J : Nat → Nat → Nat → St → Option Bool → Option Bool) (m : Nat) (p ms : List Nat) (σ : St) := evAt Tryz.prog env (ct m) J (m + 1) 28 15 Tryz.f28 d13 p ms σ
noncomputable def l13 (J : Nat → Nat → Nat → St → Option Bool → Option Bool) (m : Nat) (p ms : List Nat) (M : Nat) (σ : St) := loopAt Tryz.prog env (ct m) J (m + 1) 28 15 Tryz.f28 d13 p ms M σ
theorem ref04_Same_eq (m : Nat) (a0 a1 : List Dt) : e13 jn m [] [] ⟨[(.dat 28 (.lst a0)), (.dat 28 (.lst a1))], [], 0⟩ = ref04_Same (m + 1) a0 a1 := by
  have h : ∀ J, e13 J m [] [] ⟨[(.dat 28 (.lst a0)), (.dat 28 (.lst a1))], [], 0⟩ =
    (bif ((List.length a0 : Int) == (List.length a1 : Int)) then
   ((ref04_prefix m a0 a1).bind fun r0 =>
   some r0)
    else
   some false) := fun J => by kernel_rfl
  refine (h jn).trans ?_
  
  rfl
noncomputable def d5 (q : Res) : Option Bool := match q with
  | (.dat T0 x0, []) => bif Nat.beq T0 4 then some x0.toBool else none
  | _ => none
theorem d5_sim {b : Res} {r : Bool} (h : d5 b = some r) : Sim Tryz.prog b ((.dat 4 (.bool r)), []) := by
  unfold d5 at h
  split at h
  · obtain ⟨hc, h2⟩ := bif_some h
    cases h2
    have e0 := beq_eq hc
    subst e0
    exact Sim.of (.of (.dat (.bool Tryz.underlying4)) rfl rfl) .nil
  · cases h
noncomputable def e5 (J : Nat → Nat → Nat → St → Option Bool → Option Bool) (m : Nat) (p ms : List Nat) (σ : St) := evAt Tryz.prog env (ct m) J (m + 1) 10 157 Tryz.f10 d5 p ms σ
noncomputable def l5 (J : Nat → Nat → Nat → St → Option Bool → Option Bool) (m : Nat) (p ms : List Nat) (M : Nat) (σ : St) := loopAt Tryz.prog env (ct m) J (m + 1) 10 157 Tryz.f10 d5 p ms M σ
noncomputable def s5_8 (x0 : Int) (x1 x2 : Dt) : St := ⟨tsOf [(2, (.ptr 0 [] 0)), (3, (.ptr 1 [] 0)), (5, (.dat 3 (.int x0)))], [(.box 32 (.dat 32 x1)), (.box 32 (.dat 32 x2))], 0⟩
noncomputable def s5_7 (x0 : Int) (x1 : Bool) (x2 x3 : Dt) : St := ⟨tsOf [(2, (.ptr 0 [] 0)), (3, (.ptr 1 [] 0)), (5, (.dat 3 (.int x0))), (137, (.dat 4 (.bool x1)))], [(.box 32 (.dat 32 x2)), (.box 32 (.dat 32 x3))], 0⟩
noncomputable def s5_6 (x0 : Int) (x1 x2 : Dt) : St := ⟨tsOf [(2, (.ptr 0 [] 0)), (3, (.ptr 1 [] 0)), (5, (.dat 3 (.int x0)))], [(.box 32 (.dat 32 x1)), (.box 32 (.dat 32 x2))], 0⟩
noncomputable def s5_13 (x0 : Int) (x1 x2 : Dt) : St := ⟨tsOf [(2, (.ptr 0 [] 0)), (3, (.ptr 1 [] 0)), (6, (.dat 3 (.int x0)))], [(.box 32 (.dat 32 x1)), (.box 32 (.dat 32 x2))], 0⟩
noncomputable def s5_12 (x0 : Int) (x1 x2 : Dt) : St := ⟨tsOf [(2, (.ptr 0 [] 0)), (3, (.ptr 1 [] 0)), (6, (.dat 3 (.int x0)))], [(.box 32 (.dat 32 x1)), (.box 32 (.dat 32 x2))], 0⟩
noncomputable def s5_14 : St := ⟨tsOf [], [], 0⟩
noncomputable def s5_11 (x0 : Int) (x1 x2 : Dt) : St := ⟨tsOf [(2, (.ptr 0 [] 0)), (3, (.ptr 1 [] 0)), (6, (.dat 3 (.int x0)))], [(.box 32 (.dat 32 x1)), (.box 32 (.dat 32 x2))], 0⟩
noncomputable def s5_10 (x0 : Int) (x1 x2 : Dt) : St := ⟨tsOf [(2, (.ptr 0 [] 0)), (3, (.ptr 1 [] 0)), (6, (.dat 3 (.int x0)))], [(.box 32 (.dat 32 x1)), (.box 32 (.dat 32 x2))], 0⟩
noncomputable def s5_9 (x0 x1 : Dt) : St := ⟨tsOf [(2, (.ptr 0 [] 0)), (3, (.ptr 1 [] 0))], [(.box 32 (.dat 32 x0)), (.box 32 (.dat 32 x1))], 0⟩
noncomputable def s5_5 (x0 : Int) (x1 x2 : Dt) : St := ⟨tsOf [(2, (.ptr 0 [] 0)), (3, (.ptr 1 [] 0)), (5, (.dat 3 (.int x0)))], [(.box 32 (.dat 32 x1)), (.box 32 (.dat 32 x2))], 0⟩
noncomputable def s5_4 (x0 : Int) (x1 x2 : Dt) : St := ⟨tsOf [(2, (.ptr 0 [] 0)), (3, (.ptr 1 [] 0)), (5, (.dat 3 (.int x0)))], [(.box 32 (.dat 32 x1)), (.box 32 (.dat 32 x2))], 0⟩
noncomputable def s5_3 (x0 x1 : Dt) : St := ⟨tsOf [(2, (.ptr 0 [] 0)), (3, (.ptr 1 [] 0))], [(.box 32 (.dat 32 x0)), (.box 32 (.dat 32 x1))], 0⟩
noncomputable def s5_2 (x0 : Bool) (x1 x2 : Dt) : St := ⟨tsOf [(2, (.ptr 0 [] 0)), (3, (.ptr 1 [] 0)), (101, (.dat 4 (.bool x0)))], [(.box 32 (.dat 32 x1)), (.box 32 (.dat 32 x2))], 0⟩
noncomputable def s5_1 (x0 x1 : Dt) : St := ⟨tsOf [(2, (.ptr 0 [] 0)), (3, (.ptr 1 [] 0))], [(.box 32 (.dat 32 x0)), (.box 32 (.dat 32 x1))], 0⟩
noncomputable def s5_0 (x0 : Bool) (x1 x2 : Dt) : St := ⟨tsOf [(2, (.ptr 0 [] 0)), (3, (.ptr 1 [] 0)), (49, (.dat 4 (.bool x0)))], [(.box 32 (.dat 32 x1)), (.box 32 (.dat 32 x2))], 0⟩
theorem ref14_Same_j8_eq (m : Nat) (M5 : Nat) (rec5 : Int → Dt → Dt → Option Bool) (h5 : ∀ (x0 : Int) (x1 x2 : Dt), l5 jn m [1, 1, 1, 0, 1, 0] [] M5 (s5_5 x0 x1 x2) = rec5 x0 x1 x2) (x0 : Int) (x1 x2 : Dt) : e5 jn m [1, 1, 1, 0, 1, 0, 0, 1, 1] [M5] (s5_8 x0 x1 x2) = ref14_Same_j8 m (ref14_Same m) rec5 x0 x1 x2 := by
  have h : ∀ J, e5 J m [1, 1, 1, 0, 1, 0, 0, 1, 1] [M5] (s5_8 x0 x1 x2) =
    (J 1 6 M5 (s5_5 (IntKind.wrap .i64 (x0 + 1)) x1 x2) (l5 J m [1, 1, 1, 0, 1, 0] [] M5 (s5_5 (IntKind.wrap .i64 (x0 + 1)) x1 x2))) := fun J => by kernel_rfl
  exact (h jn).trans (by
    simp only [jn_eq, h5]
    rfl)
theorem ref14_Same_j7_eq (m : Nat) (M5 : Nat) (rec5 : Int → Dt → Dt → Option Bool) (h5 : ∀ (x0 : Int) (x1 x2 : Dt), l5 jn m [1, 1, 1, 0, 1, 0] [] M5 (s5_5 x0 x1 x2) = rec5 x0 x1 x2) (x0 : Int) (x1 : Bool) (x2 x3 : Dt) : e5 jn m [1, 1, 1, 0, 1, 0, 0, 1, 0, 0, 1] [M5] (s5_7 x0 x1 x2 x3) = ref14_Same_j7 m (ref14_Same m) rec5 x0 x1 x2 x3 := by
  have h : ∀ J, e5 J m [1, 1, 1, 0, 1, 0, 0, 1, 0, 0, 1] [M5] (s5_7 x0 x1 x2 x3) =
    (bif x1 then
   some false
    else
   (J 0 7 0 (s5_8 x0 x2 x3) (e5 J m [1, 1, 1, 0, 1, 0, 0, 1, 1] [M5] (s5_8 x0 x2 x3)))) := fun J => by kernel_rfl
  exact (h jn).trans (by
    simp only [jn_eq, ref14_Same_j8_eq m M5 rec5 h5]
    rfl)
theorem ref14_Same_j6_eq (m : Nat) (M5 : Nat) (rec5 : Int → Dt → Dt → Option Bool) (h5 : ∀ (x0 : Int) (x1 x2 : Dt), l5 jn m [1, 1, 1, 0, 1, 0] [] M5 (s5_5 x0 x1 x2) = rec5 x0 x1 x2) (x0 : Int) (x1 x2 : Dt) : e5 jn m [1, 1, 1, 0, 1, 0, 0, 1] [M5] (s5_6 x0 x1 x2) = ref14_Same_j6 m (ref14_Same m) rec5 x0 x1 x2 := by
  have h : ∀ J, e5 J m [1, 1, 1, 0, 1, 0, 0, 1] [M5] (s5_6 x0 x1 x2) =
    ((idx (Dt.L x1 9) x0).bind fun v0 =>
   ((idx (Dt.L x2 9) x0).bind fun v1 =>
   (bif (Bool.not ((ByteArray.toList (Dt.S v0 0)) == (ByteArray.toList (Dt.S v1 0)))) then
   (J 0 9 0 (s5_7 x0 true x1 x2) (e5 J m [1, 1, 1, 0, 1, 0, 0, 1, 0, 0, 1] [M5] (s5_7 x0 true x1 x2)))
   else
   ((idx (Dt.L x1 9) x0).bind fun v2 =>
   ((idx (Dt.L x2 9) x0).bind fun v3 =>
   ((ref14_Same m (Dt.fld v2 1) (Dt.fld v3 1)).bind fun r4 =>
   (J 0 9 0 (s5_7 x0 (Bool.not r4) x1 x2) (e5 J m [1, 1, 1, 0, 1, 0, 0, 1, 0, 0, 1] [M5] (s5_7 x0 (Bool.not r4) x1 x2))))))))) := fun J => by kernel_rfl
  exact (h jn).trans (by
    simp only [jn_eq, ref14_Same_j7_eq m M5 rec5 h5]
    rfl)
theorem ref14_Same_j13_eq (m : Nat) (M11 : Nat) (rec11 : Int → Dt → Dt → Option Bool) (h11 : ∀ (x0 : Int) (x1 x2 : Dt), l5 jn m [1, 1, 1, 1, 0, 1, 0] [] M11 (s5_11 x0 x1 x2) = rec11 x0 x1 x2) (x0 : Int) (x1 x2 : Dt) : e5 jn m [1, 1, 1, 1, 0, 1, 0, 0, 1, 1] [M11] (s5_13 x0 x1 x2) = ref14_Same_j13 m (ref14_Same m) rec11 x0 x1 x2 := by
  have h : ∀ J, e5 J m [1, 1, 1, 1, 0, 1, 0, 0, 1, 1] [M11] (s5_13 x0 x1 x2) =
    (J 1 11 M11 (s5_11 (IntKind.wrap .i64 (x0 + 1)) x1 x2) (l5 J m [1, 1, 1, 1, 0, 1, 0] [] M11 (s5_11 (IntKind.wrap .i64 (x0 + 1)) x1 x2))) := fun J => by kernel_rfl
  exact (h jn).trans (by
    simp only [jn_eq, h11]
    rfl)
theorem ref14_Same_j12_eq (m : Nat) (M11 : Nat) (rec11 : Int → Dt → Dt → Option Bool) (h11 : ∀ (x0 : Int) (x1 x2 : Dt), l5 jn m [1, 1, 1, 1, 0, 1, 0] [] M11 (s5_11 x0 x1 x2) = rec11 x0 x1 x2) (x0 : Int) (x1 x2 : Dt) : e5 jn m [1, 1, 1, 1, 0, 1, 0, 0, 1] [M11] (s5_12 x0 x1 x2) = ref14_Same_j12 m (ref14_Same m) rec11 x0 x1 x2 := by
  have h : ∀ J, e5 J m [1, 1, 1, 1, 0, 1, 0, 0, 1] [M11] (s5_12 x0 x1 x2) =
    ((idx (Dt.L x1 11) x0).bind fun v5 =>
   ((idx (Dt.L x2 11) x0).bind fun v6 =>
   ((ref14_Same m v5 v6).bind fun r7 =>
   (bif (Bool.not r7) then
   some false
   else
   (J 0 12 0 (s5_13 x0 x1 x2) (e5 J m [1, 1, 1, 1, 0, 1, 0, 0, 1, 1] [M11] (s5_13 x0 x1 x2))))))) := fun J => by kernel_rfl
  exact (h jn).trans (by
    simp only [jn_eq, ref14_Same_j13_eq m M11 rec11 h11]
    rfl)
theorem ref14_Same_j14_eq (m : Nat) : e5 jn m [1, 1, 1, 1, 1] [] s5_14 = ref14_Same_j14 m (ref14_Same m) := by
  have h : ∀ J, e5 J m [1, 1, 1, 1, 1] [] s5_14 =
    some true := fun J => by kernel_rfl
  exact (h jn).trans (rfl)
theorem ref14_Same_l11_eq (m : Nat) : ∀ (M11 : Nat) (x0 : Int) (x1 x2 : Dt), l5 jn m [1, 1, 1, 1, 0, 1, 0] [] M11 (s5_11 x0 x1 x2) = ref14_Same_l11 m (ref14_Same m) M11 x0 x1 x2
  | 0, _, _, _ => rfl
  | M11 + 1, x0, x1, x2 => by
    have h : ∀ J, l5 J m [1, 1, 1, 1, 0, 1, 0] [] (M11 + 1) (s5_11 x0 x1 x2) =
    (bif (decide (x0 < (List.length (Dt.L x1 11) : Int))) then
   (J 0 13 0 (s5_12 x0 x1 x2) (e5 J m [1, 1, 1, 1, 0, 1, 0, 0, 1] [M11] (s5_12 x0 x1 x2)))
    else
   (J 0 15 0 s5_14 (e5 J m [1, 1, 1, 1, 1] [] s5_14))) := fun J => by kernel_rfl
    refine (h jn).trans ?_
    simp only [jn_eq, ref14_Same_j12_eq m M11 (ref14_Same_l11 m (ref14_Same m) M11) (fun x0 x1 x2 => ref14_Same_l11_eq m M11 x0 x1 x2), ref14_Same_j14_eq m]
    rfl
theorem ref14_Same_j10_eq (m : Nat) (x0 : Int) (x1 x2 : Dt) : e5 jn m [1, 1, 1, 1, 0, 1] [] (s5_10 x0 x1 x2) = ref14_Same_j10 m (ref14_Same m) x0 x1 x2 := by
  have h : ∀ J, e5 J m [1, 1, 1, 1, 0, 1] [] (s5_10 x0 x1 x2) =
    (J 1 11 (Nat.succ m) (s5_11 x0 x1 x2) (l5 J m [1, 1, 1, 1, 0, 1, 0] [] (Nat.succ m) (s5_11 x0 x1 x2))) := fun J => by kernel_rfl
  exact (h jn).trans (by
    simp only [jn_eq, ref14_Same_l11_eq m]
    rfl)
theorem ref14_Same_j9_eq (m : Nat) (x0 x1 : Dt) : e5 jn m [1, 1, 1, 1] [] (s5_9 x0 x1) = ref14_Same_j9 m (ref14_Same m) x0 x1 := by
  have h : ∀ J, e5 J m [1, 1, 1, 1] [] (s5_9 x0 x1) =
    (J 0 11 0 (s5_10 0 x0 x1) (e5 J m [1, 1, 1, 1, 0, 1] [] (s5_10 0 x0 x1))) := fun J => by kernel_rfl
  exact (h jn).trans (by
    simp only [jn_eq, ref14_Same_j10_eq m]
    rfl)
theorem ref14_Same_l5_eq (m : Nat) : ∀ (M5 : Nat) (x0 : Int) (x1 x2 : Dt), l5 jn m [1, 1, 1, 0, 1, 0] [] M5 (s5_5 x0 x1 x2) = ref14_Same_l5 m (ref14_Same m) M5 x0 x1 x2
  | 0, _, _, _ => rfl
  | M5 + 1, x0, x1, x2 => by
    have h : ∀ J, l5 J m [1, 1, 1, 0, 1, 0] [] (M5 + 1) (s5_5 x0 x1 x2) =
    (bif (decide (x0 < (List.length (Dt.L x1 9) : Int))) then
   (J 0 8 0 (s5_6 x0 x1 x2) (e5 J m [1, 1, 1, 0, 1, 0, 0, 1] [M5] (s5_6 x0 x1 x2)))
    else
   (J 0 10 0 (s5_9 x1 x2) (e5 J m [1, 1, 1, 1] [] (s5_9 x1 x2)))) := fun J => by kernel_rfl
    refine (h jn).trans ?_
    simp only [jn_eq, ref14_Same_j6_eq m M5 (ref14_Same_l5 m (ref14_Same m) M5) (fun x0 x1 x2 => ref14_Same_l5_eq m M5 x0 x1 x2), ref14_Same_j9_eq m]
    rfl
theorem ref14_Same_j4_eq (m : Nat) (x0 : Int) (x1 x2 : Dt) : e5 jn m [1, 1, 1, 0, 1] [] (s5_4 x0 x1 x2) = ref14_Same_j4 m (ref14_Same m) x0 x1 x2 := by
  have h : ∀ J, e5 J m [1, 1, 1, 0, 1] [] (s5_4 x0 x1 x2) =
    (J 1 6 (Nat.succ m) (s5_5 x0 x1 x2) (l5 J m [1, 1, 1, 0, 1, 0] [] (Nat.succ m) (s5_5 x0 x1 x2))) := fun J => by kernel_rfl
  exact (h jn).trans (by
    simp only [jn_eq, ref14_Same_l5_eq m]
    rfl)
theorem ref14_Same_j3_eq (m : Nat) (x0 x1 : Dt) : e5 jn m [1, 1, 1] [] (s5_3 x0 x1) = ref14_Same_j3 m (ref14_Same m) x0 x1 := by
  have h : ∀ J, e5 J m [1, 1, 1] [] (s5_3 x0 x1) =
    (J 0 6 0 (s5_4 0 x0 x1) (e5 J m [1, 1, 1, 0, 1] [] (s5_4 0 x0 x1))) := fun J => by kernel_rfl
  exact (h jn).trans (by
    simp only [jn_eq, ref14_Same_j4_eq m]
    rfl)
theorem ref14_Same_j2_eq (m : Nat) (x0 : Bool) (x1 x2 : Dt) : e5 jn m [1, 1, 0, 1] [] (s5_2 x0 x1 x2) = ref14_Same_j2 m (ref14_Same m) x0 x1 x2 := by
  have h : ∀ J, e5 J m [1, 1, 0, 1] [] (s5_2 x0 x1 x2) =
    (bif x0 then
   some false
    else
   (J 0 5 0 (s5_3 x1 x2) (e5 J m [1, 1, 1] [] (s5_3 x1 x2)))) := fun J => by kernel_rfl
  exact (h jn).trans (by
    simp only [jn_eq, ref14_Same_j3_eq m]
    rfl)
theorem ref14_Same_j1_eq (m : Nat) (x0 x1 : Dt) : e5 jn m [1, 1] [] (s5_1 x0 x1) = ref14_Same_j1 m (ref14_Same m) x0 x1 := by
  have h : ∀ J, e5 J m [1, 1] [] (s5_1 x0 x1) =
    (bif ((Dt.I x0 6) != (Dt.I x1 6)) then
   (J 0 4 0 (s5_2 true x0 x1) (e5 J m [1, 1, 0, 1] [] (s5_2 true x0 x1)))
    else
   (bif ((Dt.I x0 7) != (Dt.I x1 7)) then
   (J 0 4 0 (s5_2 true x0 x1) (e5 J m [1, 1, 0, 1] [] (s5_2 true x0 x1)))
   else
   (bif (Bool.not ((Dt.B x0 10) == (Dt.B x1 10))) then
   (J 0 4 0 (s5_2 true x0 x1) (e5 J m [1, 1, 0, 1] [] (s5_2 true x0 x1)))
   else
   (bif (Bool.not ((Dt.B x0 12) == (Dt.B x1 12))) then
   (J 0 4 0 (s5_2 true x0 x1) (e5 J m [1, 1, 0, 1] [] (s5_2 true x0 x1)))
   else
   ((ref04_Same m (Dt.L x0 8) (Dt.L x1 8)).bind fun r8 =>
   (bif (Bool.not r8) then
   (J 0 4 0 (s5_2 true x0 x1) (e5 J m [1, 1, 0, 1] [] (s5_2 true x0 x1)))
   else
   (bif ((List.length (Dt.L x0 9) : Int) != (List.length (Dt.L x1 9) : Int)) then
   (J 0 4 0 (s5_2 true x0 x1) (e5 J m [1, 1, 0, 1] [] (s5_2 true x0 x1)))
   else
   (J 0 4 0 (s5_2 ((List.length (Dt.L x0 11) : Int) != (List.length (Dt.L x1 11) : Int)) x0 x1) (e5 J m [1, 1, 0, 1] [] (s5_2 ((List.length (Dt.L x0 11) : Int) != (List.length (Dt.L x1 11) : Int)) x0 x1)))))))))) := fun J => by kernel_rfl
  exact (h jn).trans (by
    simp only [jn_eq, ref14_Same_j2_eq m]
    rfl)
theorem ref14_Same_j0_eq (m : Nat) (x0 : Bool) (x1 x2 : Dt) : e5 jn m [1, 0, 1] [] (s5_0 x0 x1 x2) = ref14_Same_j0 m (ref14_Same m) x0 x1 x2 := by
  have h : ∀ J, e5 J m [1, 0, 1] [] (s5_0 x0 x1 x2) =
    (bif x0 then
   some false
    else
   (J 0 3 0 (s5_1 x1 x2) (e5 J m [1, 1] [] (s5_1 x1 x2)))) := fun J => by kernel_rfl
  exact (h jn).trans (by
    simp only [jn_eq, ref14_Same_j1_eq m]
    rfl)
theorem ref14_Same_eq (m : Nat) (a0 a1 : Dt) : e5 jn m [] [] ⟨[(.dat 32 a0), (.dat 32 a1)], [], 0⟩ = ref14_Same (m + 1) a0 a1 := by
  have h : ∀ J, e5 J m [] [] ⟨[(.dat 32 a0), (.dat 32 a1)], [], 0⟩ =
    (bif ((Dt.I a0 0) != (Dt.I a1 0)) then
   (J 0 2 0 (s5_0 true a0 a1) (e5 J m [1, 0, 1] [] (s5_0 true a0 a1)))
    else
   (bif (Bool.not ((Dt.B a0 1) == (Dt.B a1 1))) then
   (J 0 2 0 (s5_0 true a0 a1) (e5 J m [1, 0, 1] [] (s5_0 true a0 a1)))
   else
   (bif (Bool.not ((Dt.B a0 3) == (Dt.B a1 3))) then
   (J 0 2 0 (s5_0 true a0 a1) (e5 J m [1, 0, 1] [] (s5_0 true a0 a1)))
   else
   ((ref01_Same m (Dt.fld a0 2) (Dt.fld a1 2)).bind fun r9 =>
   (bif (Bool.not r9) then
   (J 0 2 0 (s5_0 true a0 a1) (e5 J m [1, 0, 1] [] (s5_0 true a0 a1)))
   else
   ((ref01_Same m (Dt.fld a0 4) (Dt.fld a1 4)).bind fun r10 =>
   (bif (Bool.not r10) then
   (J 0 2 0 (s5_0 true a0 a1) (e5 J m [1, 0, 1] [] (s5_0 true a0 a1)))
   else
   ((ref01_SameList m (Dt.L a0 5) (Dt.L a1 5)).bind fun r11 =>
   (J 0 2 0 (s5_0 (Bool.not r11) a0 a1) (e5 J m [1, 0, 1] [] (s5_0 (Bool.not r11) a0 a1))))))))))) := fun J => by kernel_rfl
  refine (h jn).trans ?_
  simp only [jn_eq, ref14_Same_j0_eq m]
  rfl
noncomputable def d33 (q : Res) : Option Int := match q with
  | (.dat T0 x0, []) => bif Nat.beq T0 3 then some x0.toInt else none
  | _ => none
theorem d33_sim {b : Res} {r : Int} (h : d33 b = some r) : Sim Tryz.prog b ((.dat 3 (.int r)), []) := by
  unfold d33 at h
  split at h
  · obtain ⟨hc, h2⟩ := bif_some h
    cases h2
    have e0 := beq_eq hc
    subst e0
    exact Sim.of (.of (.dat (.int Tryz.underlying3)) rfl rfl) .nil
  · cases h
noncomputable def e33 (J : Nat → Nat → Nat → St → Option Int → Option Int) (m : Nat) (p ms : List Nat) (σ : St) := evAt Tryz.prog env (ct m) J (m + 1) 99 19 Tryz.f99 d33 p ms σ
noncomputable def l33 (J : Nat → Nat → Nat → St → Option Int → Option Int) (m : Nat) (p ms : List Nat) (M : Nat) (σ : St) := loopAt Tryz.prog env (ct m) J (m + 1) 99 19 Tryz.f99 d33 p ms M σ
noncomputable def s33_4 (x0 : Int) (x1 : Dt) : St := ⟨tsOf [(1, (.ptr 0 [] 0)), (7, (.dat 3 (.int x0)))], [(.box 25 (.dat 25 x1))], 0⟩
noncomputable def s33_3 (x0 : Int) (x1 : Dt) : St := ⟨tsOf [(1, (.ptr 0 [] 0)), (7, (.dat 3 (.int x0)))], [(.box 25 (.dat 25 x1))], 0⟩
noncomputable def s33_5 : St := ⟨tsOf [], [], 0⟩
noncomputable def s33_2 (x0 : Int) (x1 : Dt) : St := ⟨tsOf [(1, (.ptr 0 [] 0)), (7, (.dat 3 (.int x0)))], [(.box 25 (.dat 25 x1))], 0⟩
noncomputable def s33_1 (x0 : Int) (x1 : Dt) : St := ⟨tsOf [(1, (.ptr 0 [] 0)), (7, (.dat 3 (.int x0)))], [(.box 25 (.dat 25 x1))], 0⟩
noncomputable def s33_0 (x0 : Dt) : St := ⟨tsOf [(1, (.ptr 0 [] 0))], [(.box 25 (.dat 25 x0))], 0⟩
theorem schema_kindOf_j4_eq (m : Nat) (M2 : Nat) (rec2 : Int → Dt → Option Int) (h2 : ∀ (x0 : Int) (x1 : Dt), l33 jn m [1, 1, 0, 1, 0] [] M2 (s33_2 x0 x1) = rec2 x0 x1) (x0 : Int) (x1 : Dt) : e33 jn m [1, 1, 0, 1, 0, 0, 1, 1, 1] [M2] (s33_4 x0 x1) = schema_kindOf_j4 m rec2 x0 x1 := by
  have h : ∀ J, e33 J m [1, 1, 0, 1, 0, 0, 1, 1, 1] [M2] (s33_4 x0 x1) =
    (J 1 4 M2 (s33_2 (IntKind.wrap .i64 (x0 + 1)) x1) (l33 J m [1, 1, 0, 1, 0] [] M2 (s33_2 (IntKind.wrap .i64 (x0 + 1)) x1))) := fun J => by kernel_rfl
  exact (h jn).trans (by
    simp only [jn_eq, h2]
    rfl)
theorem schema_kindOf_j3_eq (m : Nat) (M2 : Nat) (rec2 : Int → Dt → Option Int) (h2 : ∀ (x0 : Int) (x1 : Dt), l33 jn m [1, 1, 0, 1, 0] [] M2 (s33_2 x0 x1) = rec2 x0 x1) (x0 : Int) (x1 : Dt) : e33 jn m [1, 1, 0, 1, 0, 0, 1, 1] [M2] (s33_3 x0 x1) = schema_kindOf_j3 m rec2 x0 x1 := by
  have h : ∀ J, e33 J m [1, 1, 0, 1, 0, 0, 1, 1] [M2] (s33_3 x0 x1) =
    ((idx [(Dt.str (ByteArray.mk (List.toArray [109, 105, 110]))), (Dt.str (ByteArray.mk (List.toArray [110, 117, 108, 108]))), (Dt.str (ByteArray.mk (List.toArray [105, 110, 116]))), (Dt.str (ByteArray.mk (List.toArray [116, 101, 120, 116]))), (Dt.str (ByteArray.mk (List.toArray [100, 111, 99]))), (Dt.str (ByteArray.mk (List.toArray [108, 105, 115, 116]))), (Dt.str (ByteArray.mk (List.toArray [98, 121, 116, 101, 115]))), (Dt.str (ByteArray.mk (List.toArray [105, 100]))), (Dt.str (ByteArray.mk (List.toArray [98, 111, 111, 108]))), (Dt.str (ByteArray.mk (List.toArray [116, 105, 109, 101]))), (Dt.str (ByteArray.mk (List.toArray [109, 97, 120])))] x0).bind fun v0 =>
   (bif ((ByteArray.toList (Dt.toStr v0)) == (ByteArray.toList (Dt.S x1 2))) then
   some (IntKind.wrap .i64 (x0 + 1))
   else
   (J 0 8 0 (s33_4 x0 x1) (e33 J m [1, 1, 0, 1, 0, 0, 1, 1, 1] [M2] (s33_4 x0 x1))))) := fun J => by kernel_rfl
  exact (h jn).trans (by
    simp only [jn_eq, schema_kindOf_j4_eq m M2 rec2 h2]
    rfl)
theorem schema_kindOf_j5_eq (m : Nat) : e33 jn m [1, 1, 1] [] s33_5 = schema_kindOf_j5 m := by
  have h : ∀ J, e33 J m [1, 1, 1] [] s33_5 =
    some 0 := fun J => by kernel_rfl
  exact (h jn).trans (rfl)
theorem schema_kindOf_l2_eq (m : Nat) : ∀ (M2 : Nat) (x0 : Int) (x1 : Dt), l33 jn m [1, 1, 0, 1, 0] [] M2 (s33_2 x0 x1) = schema_kindOf_l2 m M2 x0 x1
  | 0, _, _ => rfl
  | M2 + 1, x0, x1 => by
    have h : ∀ J, l33 J m [1, 1, 0, 1, 0] [] (M2 + 1) (s33_2 x0 x1) =
    (bif (decide (x0 < 11)) then
   (J 0 5 0 (s33_3 x0 x1) (e33 J m [1, 1, 0, 1, 0, 0, 1, 1] [M2] (s33_3 x0 x1)))
    else
   (J 0 9 0 s33_5 (e33 J m [1, 1, 1] [] s33_5))) := fun J => by kernel_rfl
    refine (h jn).trans ?_
    simp only [jn_eq, schema_kindOf_j3_eq m M2 (schema_kindOf_l2 m M2) (fun x0 x1 => schema_kindOf_l2_eq m M2 x0 x1), schema_kindOf_j5_eq m]
    rfl
theorem schema_kindOf_j1_eq (m : Nat) (x0 : Int) (x1 : Dt) : e33 jn m [1, 1, 0, 1] [] (s33_1 x0 x1) = schema_kindOf_j1 m x0 x1 := by
  have h : ∀ J, e33 J m [1, 1, 0, 1] [] (s33_1 x0 x1) =
    (J 1 4 (Nat.succ m) (s33_2 x0 x1) (l33 J m [1, 1, 0, 1, 0] [] (Nat.succ m) (s33_2 x0 x1))) := fun J => by kernel_rfl
  exact (h jn).trans (by
    simp only [jn_eq, schema_kindOf_l2_eq m]
    rfl)
theorem schema_kindOf_j0_eq (m : Nat) (x0 : Dt) : e33 jn m [1, 1] [] (s33_0 x0) = schema_kindOf_j0 m x0 := by
  have h : ∀ J, e33 J m [1, 1] [] (s33_0 x0) =
    (J 0 4 0 (s33_1 0 x0) (e33 J m [1, 1, 0, 1] [] (s33_1 0 x0))) := fun J => by kernel_rfl
  exact (h jn).trans (by
    simp only [jn_eq, schema_kindOf_j1_eq m]
    rfl)
theorem schema_kindOf_eq (m : Nat) (a0 : Dt) : e33 jn m [] [] ⟨[(.dat 25 a0)], [], 0⟩ = schema_kindOf (m + 1) a0 := by
  have h : ∀ J, e33 J m [] [] ⟨[(.dat 25 a0)], [], 0⟩ =
    (bif ((Dt.I a0 0) != 4) then
   some 0
    else
   (J 0 3 0 (s33_0 a0) (e33 J m [1, 1] [] (s33_0 a0)))) := fun J => by kernel_rfl
  refine (h jn).trans ?_
  simp only [jn_eq, schema_kindOf_j0_eq m]
  rfl
noncomputable def d17 (q : Res) : Option (Int × Bool) := match q with
  | (.tup [.dat T0 x0, .dat T1 x1], []) => bif (Nat.beq T0 3 && Nat.beq T1 4) then some (x0.toInt, x1.toBool) else none
  | _ => none
theorem d17_sim {b : Res} {r : Int × Bool} (h : d17 b = some r) : Sim Tryz.prog b ((.tup [(.dat 3 (.int r.1)), (.dat 4 (.bool r.2))]), []) := by
  unfold d17 at h
  split at h
  · obtain ⟨hc, h2⟩ := bif_some h
    cases h2
    have e0 := beq_eq (and_l hc)
    have e1 := beq_eq (and_r hc)
    subst e0 e1
    exact Sim.of (.tup (.cons (.dat (.int Tryz.underlying3)) (.cons (.dat (.bool Tryz.underlying4)) .nil))) .nil
  · cases h
noncomputable def e17 (J : Nat → Nat → Nat → St → Option (Int × Bool) → Option (Int × Bool)) (m : Nat) (p ms : List Nat) (σ : St) := evAt Tryz.prog env (ct m) J (m + 1) 66 35 Tryz.f66 d17 p ms σ
noncomputable def l17 (J : Nat → Nat → Nat → St → Option (Int × Bool) → Option (Int × Bool)) (m : Nat) (p ms : List Nat) (M : Nat) (σ : St) := loopAt Tryz.prog env (ct m) J (m + 1) 66 35 Tryz.f66 d17 p ms M σ
noncomputable def s17_5 (x0 : List Dt) (x1 : Int) (x2 : List Dt) (x3 x4 : Int) : St := ⟨tsOf [(4, (.dat 22 (.lst x0))), (5, (.dat 3 (.int x1))), (16, (.dat 22 (.lst x2))), (17, (.dat 3 (.int x3))), (18, (.dat 3 (.int x4)))], [], 0⟩
noncomputable def s17_4 (x0 : List Dt) (x1 x2 : Int) (x3 : List Dt) (x4 x5 : Int) : St := ⟨tsOf [(4, (.dat 22 (.lst x0))), (5, (.dat 3 (.int x1))), (8, (.dat 3 (.int x2))), (16, (.dat 22 (.lst x3))), (17, (.dat 3 (.int x4))), (18, (.dat 3 (.int x5)))], [], 0⟩
noncomputable def s17_3 (x0 : List Dt) (x1 : Int) (x2 : List Dt) (x3 x4 : Int) : St := ⟨tsOf [(4, (.dat 22 (.lst x0))), (5, (.dat 3 (.int x1))), (16, (.dat 22 (.lst x2))), (17, (.dat 3 (.int x3))), (18, (.dat 3 (.int x4)))], [], 0⟩
noncomputable def s17_6 (x0 : List Dt) (x1 : Int) : St := ⟨tsOf [(4, (.dat 22 (.lst x0))), (5, (.dat 3 (.int x1)))], [], 0⟩
noncomputable def s17_2 (x0 : List Dt) (x1 : Int) (x2 : List Dt) (x3 x4 : Int) : St := ⟨tsOf [(4, (.dat 22 (.lst x0))), (5, (.dat 3 (.int x1))), (16, (.dat 22 (.lst x2))), (17, (.dat 3 (.int x3))), (18, (.dat 3 (.int x4)))], [], 0⟩
noncomputable def s17_1 (x0 : List Dt) (x1 : Int) (x2 : List Dt) (x3 x4 : Int) : St := ⟨tsOf [(4, (.dat 22 (.lst x0))), (5, (.dat 3 (.int x1))), (16, (.dat 22 (.lst x2))), (17, (.dat 3 (.int x3))), (18, (.dat 3 (.int x4)))], [], 0⟩
noncomputable def s17_0 (x0 : List Dt) : St := ⟨tsOf [(4, (.dat 22 (.lst x0)))], [], 0⟩
theorem schema_parseKinds_j5_eq (m : Nat) (M2 : Nat) (rec2 : List Dt → Int → List Dt → Int → Int → Option (Int × Bool)) (h2 : ∀ (x0 : List Dt) (x1 : Int) (x2 : List Dt) (x3 x4 : Int), l17 jn m [1, 1, 1, 1, 0, 1, 0] [] M2 (s17_2 x0 x1 x2 x3 x4) = rec2 x0 x1 x2 x3 x4) (x0 : List Dt) (x1 : Int) (x2 : List Dt) (x3 x4 : Int) : e17 jn m [1, 1, 1, 1, 0, 1, 0, 0, 1, 1, 1] [M2] (s17_5 x0 x1 x2 x3 x4) = schema_parseKinds_j5 m rec2 x0 x1 x2 x3 x4 := by
  have h : ∀ J, e17 J m [1, 1, 1, 1, 0, 1, 0, 0, 1, 1, 1] [M2] (s17_5 x0 x1 x2 x3 x4) =
    (J 1 6 M2 (s17_2 x0 x1 x2 x3 (IntKind.wrap .i64 (x4 + 1))) (l17 J m [1, 1, 1, 1, 0, 1, 0] [] M2 (s17_2 x0 x1 x2 x3 (IntKind.wrap .i64 (x4 + 1))))) := fun J => by kernel_rfl
  exact (h jn).trans (by
    simp only [jn_eq, h2]
    rfl)
theorem schema_parseKinds_j4_eq (m : Nat) (M2 : Nat) (rec2 : List Dt → Int → List Dt → Int → Int → Option (Int × Bool)) (h2 : ∀ (x0 : List Dt) (x1 : Int) (x2 : List Dt) (x3 x4 : Int), l17 jn m [1, 1, 1, 1, 0, 1, 0] [] M2 (s17_2 x0 x1 x2 x3 x4) = rec2 x0 x1 x2 x3 x4) (x0 : List Dt) (x1 x2 : Int) (x3 : List Dt) (x4 x5 : Int) : e17 jn m [1, 1, 1, 1, 0, 1, 0, 0, 1, 1, 0, 0, 1, 1, 1] [M2] (s17_4 x0 x1 x2 x3 x4 x5) = schema_parseKinds_j4 m rec2 x0 x1 x2 x3 x4 x5 := by
  have h : ∀ J, e17 J m [1, 1, 1, 1, 0, 1, 0, 0, 1, 1, 0, 0, 1, 1, 1] [M2] (s17_4 x0 x1 x2 x3 x4 x5) =
    (bif (decide (0 ≤ x2)) then
   (J 0 12 0 (s17_5 x0 (orI IntKind.i64 x1 (shlI IntKind.i64 1 x2)) x3 x4 x5) (e17 J m [1, 1, 1, 1, 0, 1, 0, 0, 1, 1, 1] [M2] (s17_5 x0 (orI IntKind.i64 x1 (shlI IntKind.i64 1 x2)) x3 x4 x5)))
    else
   none) := fun J => by kernel_rfl
  exact (h jn).trans (by
    simp only [jn_eq, schema_parseKinds_j5_eq m M2 rec2 h2]
    rfl)
theorem schema_parseKinds_j3_eq (m : Nat) (M2 : Nat) (rec2 : List Dt → Int → List Dt → Int → Int → Option (Int × Bool)) (h2 : ∀ (x0 : List Dt) (x1 : Int) (x2 : List Dt) (x3 x4 : Int), l17 jn m [1, 1, 1, 1, 0, 1, 0] [] M2 (s17_2 x0 x1 x2 x3 x4) = rec2 x0 x1 x2 x3 x4) (x0 : List Dt) (x1 : Int) (x2 : List Dt) (x3 x4 : Int) : e17 jn m [1, 1, 1, 1, 0, 1, 0, 0, 1, 1] [M2] (s17_3 x0 x1 x2 x3 x4) = schema_parseKinds_j3 m rec2 x0 x1 x2 x3 x4 := by
  have h : ∀ J, e17 J m [1, 1, 1, 1, 0, 1, 0, 0, 1, 1] [M2] (s17_3 x0 x1 x2 x3 x4) =
    ((idx x2 x4).bind fun v0 =>
   ((schema_kindOf m v0).bind fun r1 =>
   (bif (r1 == 0) then
   some (0, false)
   else
   (J 0 11 0 (s17_4 x0 x1 r1 x2 x3 x4) (e17 J m [1, 1, 1, 1, 0, 1, 0, 0, 1, 1, 0, 0, 1, 1, 1] [M2] (s17_4 x0 x1 r1 x2 x3 x4)))))) := fun J => by kernel_rfl
  exact (h jn).trans (by
    simp only [jn_eq, schema_parseKinds_j4_eq m M2 rec2 h2]
    rfl)
theorem schema_parseKinds_j6_eq (m : Nat) (x0 : List Dt) (x1 : Int) : e17 jn m [1, 1, 1, 1, 1] [] (s17_6 x0 x1) = schema_parseKinds_j6 m x0 x1 := by
  have h : ∀ J, e17 J m [1, 1, 1, 1, 1] [] (s17_6 x0 x1) =
    some (x1, (decide (0 < (List.length x0 : Int)))) := fun J => by kernel_rfl
  exact (h jn).trans (rfl)
theorem schema_parseKinds_l2_eq (m : Nat) : ∀ (M2 : Nat) (x0 : List Dt) (x1 : Int) (x2 : List Dt) (x3 x4 : Int), l17 jn m [1, 1, 1, 1, 0, 1, 0] [] M2 (s17_2 x0 x1 x2 x3 x4) = schema_parseKinds_l2 m M2 x0 x1 x2 x3 x4
  | 0, _, _, _, _, _ => rfl
  | M2 + 1, x0, x1, x2, x3, x4 => by
    have h : ∀ J, l17 J m [1, 1, 1, 1, 0, 1, 0] [] (M2 + 1) (s17_2 x0 x1 x2 x3 x4) =
    (bif (decide (x4 < x3)) then
   (J 0 7 0 (s17_3 x0 x1 x2 x3 x4) (e17 J m [1, 1, 1, 1, 0, 1, 0, 0, 1, 1] [M2] (s17_3 x0 x1 x2 x3 x4)))
    else
   (J 0 13 0 (s17_6 x0 x1) (e17 J m [1, 1, 1, 1, 1] [] (s17_6 x0 x1)))) := fun J => by kernel_rfl
    refine (h jn).trans ?_
    simp only [jn_eq, schema_parseKinds_j3_eq m M2 (schema_parseKinds_l2 m M2) (fun x0 x1 x2 x3 x4 => schema_parseKinds_l2_eq m M2 x0 x1 x2 x3 x4), schema_parseKinds_j6_eq m]
    rfl
theorem schema_parseKinds_j1_eq (m : Nat) (x0 : List Dt) (x1 : Int) (x2 : List Dt) (x3 x4 : Int) : e17 jn m [1, 1, 1, 1, 0, 1] [] (s17_1 x0 x1 x2 x3 x4) = schema_parseKinds_j1 m x0 x1 x2 x3 x4 := by
  have h : ∀ J, e17 J m [1, 1, 1, 1, 0, 1] [] (s17_1 x0 x1 x2 x3 x4) =
    (J 1 6 (Nat.succ m) (s17_2 x0 x1 x2 x3 x4) (l17 J m [1, 1, 1, 1, 0, 1, 0] [] (Nat.succ m) (s17_2 x0 x1 x2 x3 x4))) := fun J => by kernel_rfl
  exact (h jn).trans (by
    simp only [jn_eq, schema_parseKinds_l2_eq m]
    rfl)
theorem schema_parseKinds_j0_eq (m : Nat) (x0 : List Dt) : e17 jn m [1, 1, 1] [] (s17_0 x0) = schema_parseKinds_j0 m x0 := by
  have h : ∀ J, e17 J m [1, 1, 1] [] (s17_0 x0) =
    (J 0 6 0 (s17_1 x0 0 x0 (List.length x0 : Int) 0) (e17 J m [1, 1, 1, 1, 0, 1] [] (s17_1 x0 0 x0 (List.length x0 : Int) 0))) := fun J => by kernel_rfl
  exact (h jn).trans (by
    simp only [jn_eq, schema_parseKinds_j1_eq m]
    rfl)
theorem schema_parseKinds_eq (m : Nat) (a0 : Dt) : e17 jn m [] [] ⟨[(.dat 25 a0)], [], 0⟩ = schema_parseKinds (m + 1) a0 := by
  have h : ∀ J, e17 J m [] [] ⟨[(.dat 25 a0)], [], 0⟩ =
    (bif ((Dt.I a0 0) == 6) then
   (J 0 4 0 (s17_0 (Dt.L a0 3)) (e17 J m [1, 1, 1] [] (s17_0 (Dt.L a0 3))))
    else
   (J 0 4 0 (s17_0 [a0]) (e17 J m [1, 1, 1] [] (s17_0 [a0])))) := fun J => by kernel_rfl
  refine (h jn).trans ?_
  simp only [jn_eq, schema_parseKinds_j0_eq m]
  rfl
noncomputable def d7 (q : Res) : Option (Dt × Bool) := match q with
  | (.tup [.dat T0 x0, .dat T1 x1], []) => bif (Nat.beq T0 32 && Nat.beq T1 4) then some (x0, x1.toBool) else none
  | _ => none
theorem d7_sim {b : Res} {r : Dt × Bool} (h : d7 b = some r) : Sim Tryz.prog b ((.tup [(.dat 32 r.1), (.dat 4 (.bool r.2))]), []) := by
  unfold d7 at h
  split at h
  · obtain ⟨hc, h2⟩ := bif_some h
    cases h2
    have e0 := beq_eq (and_l hc)
    have e1 := beq_eq (and_r hc)
    subst e0 e1
    exact Sim.of (.tup (.cons .same (.cons (.dat (.bool Tryz.underlying4)) .nil))) .nil
  · cases h
noncomputable def e7 (J : Nat → Nat → Nat → St → Option (Dt × Bool) → Option (Dt × Bool)) (m : Nat) (p ms : List Nat) (σ : St) := evAt Tryz.prog env (ct m) J (m + 1) 22 28 Tryz.f22 d7 p ms σ
noncomputable def l7 (J : Nat → Nat → Nat → St → Option (Dt × Bool) → Option (Dt × Bool)) (m : Nat) (p ms : List Nat) (M : Nat) (σ : St) := loopAt Tryz.prog env (ct m) J (m + 1) 22 28 Tryz.f22 d7 p ms M σ
noncomputable def s7_4 (x0 : List Dt) (x1 x2 : Int) (x3 x4 : Dt) : St := ⟨tsOf [(2, (.ptr 0 [] 0)), (4, (.ptr 1 [] 0)), (13, (.dat 23 (.lst x0))), (14, (.dat 3 (.int x1))), (15, (.dat 3 (.int x2)))], [(.box 32 (.dat 32 x3)), (.box 32 (.dat 32 x4))], 0⟩
noncomputable def s7_3 (x0 : List Dt) (x1 x2 : Int) (x3 x4 : Dt) : St := ⟨tsOf [(2, (.ptr 0 [] 0)), (4, (.ptr 1 [] 0)), (13, (.dat 23 (.lst x0))), (14, (.dat 3 (.int x1))), (15, (.dat 3 (.int x2)))], [(.box 32 (.dat 32 x3)), (.box 32 (.dat 32 x4))], 0⟩
noncomputable def s7_5 (x0 x1 : Dt) : St := ⟨tsOf [(2, (.ptr 0 [] 0)), (4, (.ptr 1 [] 0))], [(.box 32 (.dat 32 x0)), (.box 32 (.dat 32 x1))], 0⟩
noncomputable def s7_2 (x0 : List Dt) (x1 x2 : Int) (x3 x4 : Dt) : St := ⟨tsOf [(2, (.ptr 0 [] 0)), (4, (.ptr 1 [] 0)), (13, (.dat 23 (.lst x0))), (14, (.dat 3 (.int x1))), (15, (.dat 3 (.int x2)))], [(.box 32 (.dat 32 x3)), (.box 32 (.dat 32 x4))], 0⟩
noncomputable def s7_1 (x0 : List Dt) (x1 x2 : Int) (x3 x4 : Dt) : St := ⟨tsOf [(2, (.ptr 0 [] 0)), (4, (.ptr 1 [] 0)), (13, (.dat 23 (.lst x0))), (14, (.dat 3 (.int x1))), (15, (.dat 3 (.int x2)))], [(.box 32 (.dat 32 x3)), (.box 32 (.dat 32 x4))], 0⟩
noncomputable def s7_0 (x0 x1 x2 : Dt) : St := ⟨tsOf [(1, (.ptr 0 [] 0)), (2, (.ptr 1 [] 0)), (4, (.ptr 2 [] 0))], [(.box 25 (.dat 25 x0)), (.box 32 (.dat 32 x1)), (.box 32 (.dat 32 x2))], 0⟩
theorem schema_parse_j4_eq (m : Nat) (M2 : Nat) (rec2 : List Dt → Int → Int → Dt → Dt → Option (Dt × Bool)) (h2 : ∀ (x0 : List Dt) (x1 x2 : Int) (x3 x4 : Dt), l7 jn m [1, 1, 1, 0, 1, 0] [] M2 (s7_2 x0 x1 x2 x3 x4) = rec2 x0 x1 x2 x3 x4) (x0 : List Dt) (x1 x2 : Int) (x3 x4 : Dt) : e7 jn m [1, 1, 1, 0, 1, 0, 0, 1, 1, 1] [M2] (s7_4 x0 x1 x2 x3 x4) = schema_parse_j4 m (i16 m) rec2 x0 x1 x2 x3 x4 := by
  have h : ∀ J, e7 J m [1, 1, 1, 0, 1, 0, 0, 1, 1, 1] [M2] (s7_4 x0 x1 x2 x3 x4) =
    (J 1 5 M2 (s7_2 x0 x1 (IntKind.wrap .i64 (x2 + 1)) x3 x4) (l7 J m [1, 1, 1, 0, 1, 0] [] M2 (s7_2 x0 x1 (IntKind.wrap .i64 (x2 + 1)) x3 x4))) := fun J => by kernel_rfl
  exact (h jn).trans (by
    simp only [jn_eq, h2]
    rfl)
theorem schema_parse_j3_eq (m : Nat) (M2 : Nat) (rec2 : List Dt → Int → Int → Dt → Dt → Option (Dt × Bool)) (h2 : ∀ (x0 : List Dt) (x1 x2 : Int) (x3 x4 : Dt), l7 jn m [1, 1, 1, 0, 1, 0] [] M2 (s7_2 x0 x1 x2 x3 x4) = rec2 x0 x1 x2 x3 x4) (x0 : List Dt) (x1 x2 : Int) (x3 x4 : Dt) : e7 jn m [1, 1, 1, 0, 1, 0, 0, 1, 1] [M2] (s7_3 x0 x1 x2 x3 x4) = schema_parse_j3 m (i16 m) rec2 x0 x1 x2 x3 x4 := by
  have h : ∀ J, e7 J m [1, 1, 1, 0, 1, 0, 0, 1, 1] [M2] (s7_3 x0 x1 x2 x3 x4) =
    ((idx x0 x2).bind fun v0 =>
   ((i16 m (Dt.S v0 0) (Dt.fld v0 1) x4).bind fun r1 =>
   (bif (Bool.not r1.1) then
   some (kza2d60, false)
   else
   (J 0 9 0 (s7_4 x0 x1 x2 x3 r1.2) (e7 J m [1, 1, 1, 0, 1, 0, 0, 1, 1, 1] [M2] (s7_4 x0 x1 x2 x3 r1.2)))))) := fun J => by kernel_rfl
  exact (h jn).trans (by
    simp only [jn_eq, schema_parse_j4_eq m M2 rec2 h2]
    rfl)
theorem schema_parse_j5_eq (m : Nat) (x0 x1 : Dt) : e7 jn m [1, 1, 1, 1] [] (s7_5 x0 x1) = schema_parse_j5 m (i16 m) x0 x1 := by
  have h : ∀ J, e7 J m [1, 1, 1, 1] [] (s7_5 x0 x1) =
    some (x1, true) := fun J => by kernel_rfl
  exact (h jn).trans (rfl)
theorem schema_parse_l2_eq (m : Nat) : ∀ (M2 : Nat) (x0 : List Dt) (x1 x2 : Int) (x3 x4 : Dt), l7 jn m [1, 1, 1, 0, 1, 0] [] M2 (s7_2 x0 x1 x2 x3 x4) = schema_parse_l2 m (i16 m) M2 x0 x1 x2 x3 x4
  | 0, _, _, _, _, _ => rfl
  | M2 + 1, x0, x1, x2, x3, x4 => by
    have h : ∀ J, l7 J m [1, 1, 1, 0, 1, 0] [] (M2 + 1) (s7_2 x0 x1 x2 x3 x4) =
    (bif (decide (x2 < x1)) then
   (J 0 6 0 (s7_3 x0 x1 x2 x3 x4) (e7 J m [1, 1, 1, 0, 1, 0, 0, 1, 1] [M2] (s7_3 x0 x1 x2 x3 x4)))
    else
   (J 0 10 0 (s7_5 x3 x4) (e7 J m [1, 1, 1, 1] [] (s7_5 x3 x4)))) := fun J => by kernel_rfl
    refine (h jn).trans ?_
    simp only [jn_eq, schema_parse_j3_eq m M2 (schema_parse_l2 m (i16 m) M2) (fun x0 x1 x2 x3 x4 => schema_parse_l2_eq m M2 x0 x1 x2 x3 x4), schema_parse_j5_eq m]
    rfl
theorem schema_parse_j1_eq (m : Nat) (x0 : List Dt) (x1 x2 : Int) (x3 x4 : Dt) : e7 jn m [1, 1, 1, 0, 1] [] (s7_1 x0 x1 x2 x3 x4) = schema_parse_j1 m (i16 m) x0 x1 x2 x3 x4 := by
  have h : ∀ J, e7 J m [1, 1, 1, 0, 1] [] (s7_1 x0 x1 x2 x3 x4) =
    (J 1 5 (Nat.succ m) (s7_2 x0 x1 x2 x3 x4) (l7 J m [1, 1, 1, 0, 1, 0] [] (Nat.succ m) (s7_2 x0 x1 x2 x3 x4))) := fun J => by kernel_rfl
  exact (h jn).trans (by
    simp only [jn_eq, schema_parse_l2_eq m]
    rfl)
theorem schema_parse_j0_eq (m : Nat) (x0 x1 x2 : Dt) : e7 jn m [1, 1, 1] [] (s7_0 x0 x1 x2) = schema_parse_j0 m (i16 m) x0 x1 x2 := by
  have h : ∀ J, e7 J m [1, 1, 1] [] (s7_0 x0 x1 x2) =
    (J 0 5 0 (s7_1 (Dt.L x0 4) (List.length (Dt.L x0 4) : Int) 0 x1 x2) (e7 J m [1, 1, 1, 0, 1] [] (s7_1 (Dt.L x0 4) (List.length (Dt.L x0 4) : Int) 0 x1 x2))) := fun J => by kernel_rfl
  exact (h jn).trans (by
    simp only [jn_eq, schema_parse_j1_eq m]
    rfl)
theorem schema_parse_eq (m : Nat) (a0 : Dt) : e7 jn m [] [] ⟨[(.dat 25 a0)], [], 0⟩ = schema_parse (m + 1) a0 := by
  have h : ∀ J, e7 J m [] [] ⟨[(.dat 25 a0)], [], 0⟩ =
    (bif ((Dt.I a0 0) != 5) then
   some (kza2d60, false)
    else
   (J 0 4 0 (s7_0 a0 kza2d60 kz8469e) (e7 J m [1, 1, 1] [] (s7_0 a0 kza2d60 kz8469e)))) := fun J => by kernel_rfl
  refine (h jn).trans ?_
  simp only [jn_eq, schema_parse_j0_eq m]
  rfl
noncomputable def d16 (q : Res) : Option (Bool × Dt) := match q with
  | (.dat T0 x0, [.box T1 (.dat T2 x2)]) => bif (Nat.beq T0 4 && (Nat.beq T1 32 && Nat.beq T2 32)) then some (x0.toBool, x2) else none
  | _ => none
theorem d16_sim {b : Res} {r : Bool × Dt} (h : d16 b = some r) : Sim Tryz.prog b ((.dat 4 (.bool r.1)), [(.box 32 (.dat 32 r.2))]) := by
  unfold d16 at h
  split at h
  · obtain ⟨hc, h2⟩ := bif_some h
    cases h2
    have e0 := beq_eq (and_l hc)
    have e1 := beq_eq (and_l (and_r hc))
    have e2 := beq_eq (and_r (and_r hc))
    subst e0 e1 e2
    exact Sim.of (.of (.dat (.bool Tryz.underlying4)) rfl rfl) (.cons (.box .same) .nil)
  · cases h
noncomputable def e16 (J : Nat → Nat → Nat → St → Option (Bool × Dt) → Option (Bool × Dt)) (m : Nat) (p ms : List Nat) (σ : St) := evAt Tryz.prog env (ct m) J (m + 1) 37 126 Tryz.f37 d16 p ms σ
noncomputable def l16 (J : Nat → Nat → Nat → St → Option (Bool × Dt) → Option (Bool × Dt)) (m : Nat) (p ms : List Nat) (M : Nat) (σ : St) := loopAt Tryz.prog env (ct m) J (m + 1) 37 126 Tryz.f37 d16 p ms M σ
noncomputable def s16_0 (x0 : Bool) (x1 : Dt) : St := ⟨tsOf [(0, (.ptr 0 [] 0)), (7, (.dat 4 (.bool x0)))], [(.box 32 (.dat 32 x1))], 1⟩
theorem i16_j0_eq (m : Nat) (x0 : Bool) (x1 : Dt) : e16 jn m [1, 1, 1] [] (s16_0 x0 x1) = i16_j0 m (schema_parse m) (schema_parseProps m) x0 x1 := by
  have h : ∀ J, e16 J m [1, 1, 1] [] (s16_0 x0 x1) =
    some (x0, x1) := fun J => by kernel_rfl
  exact (h jn).trans (rfl)
theorem i16_eq (m : Nat) (a0 : ByteArray) (a1 a2 : Dt) : e16 jn m [] [] ⟨[(.ptr 0 [] 0), (.dat 9 (.str a0)), (.dat 25 a1)], [(.box 32 (.dat 32 a2))], 1⟩ = i16 (m + 1) a0 a1 a2 := by
  have h : ∀ J, e16 J m [] [] ⟨[(.ptr 0 [] 0), (.dat 9 (.str a0)), (.dat 25 a1)], [(.box 32 (.dat 32 a2))], 1⟩ =
    (bif ((ByteArray.toList a0) == [107, 105, 110, 100]) then
   ((schema_parseKinds m a1).bind fun r0 =>
   (J 0 27 0 (s16_0 r0.2 (Dt.agg [(Dt.int r0.1), (Dt.bool (Dt.B a2 1)), (Dt.fld a2 2), (Dt.bool (Dt.B a2 3)), (Dt.fld a2 4), (Dt.lst (Dt.L a2 5)), (Dt.int (Dt.I a2 6)), (Dt.int (Dt.I a2 7)), (Dt.lst (Dt.L a2 8)), (Dt.lst (Dt.L a2 9)), (Dt.bool (Dt.B a2 10)), (Dt.lst (Dt.L a2 11)), (Dt.bool (Dt.B a2 12))])) (e16 J m [1, 1, 1] [] (s16_0 r0.2 (Dt.agg [(Dt.int r0.1), (Dt.bool (Dt.B a2 1)), (Dt.fld a2 2), (Dt.bool (Dt.B a2 3)), (Dt.fld a2 4), (Dt.lst (Dt.L a2 5)), (Dt.int (Dt.I a2 6)), (Dt.int (Dt.I a2 7)), (Dt.lst (Dt.L a2 8)), (Dt.lst (Dt.L a2 9)), (Dt.bool (Dt.B a2 10)), (Dt.lst (Dt.L a2 11)), (Dt.bool (Dt.B a2 12))])))))
    else
   (bif ((ByteArray.toList a0) == [109, 105, 110]) then
   ((schema_clone m a1).bind fun r1 =>
   (J 0 27 0 (s16_0 true (Dt.agg [(Dt.int (Dt.I a2 0)), (Dt.bool true), r1, (Dt.bool (Dt.B a2 3)), (Dt.fld a2 4), (Dt.lst (Dt.L a2 5)), (Dt.int (Dt.I a2 6)), (Dt.int (Dt.I a2 7)), (Dt.lst (Dt.L a2 8)), (Dt.lst (Dt.L a2 9)), (Dt.bool (Dt.B a2 10)), (Dt.lst (Dt.L a2 11)), (Dt.bool (Dt.B a2 12))])) (e16 J m [1, 1, 1] [] (s16_0 true (Dt.agg [(Dt.int (Dt.I a2 0)), (Dt.bool true), r1, (Dt.bool (Dt.B a2 3)), (Dt.fld a2 4), (Dt.lst (Dt.L a2 5)), (Dt.int (Dt.I a2 6)), (Dt.int (Dt.I a2 7)), (Dt.lst (Dt.L a2 8)), (Dt.lst (Dt.L a2 9)), (Dt.bool (Dt.B a2 10)), (Dt.lst (Dt.L a2 11)), (Dt.bool (Dt.B a2 12))])))))
   else
   (bif ((ByteArray.toList a0) == [109, 97, 120]) then
   ((schema_clone m a1).bind fun r2 =>
   (J 0 27 0 (s16_0 true (Dt.agg [(Dt.int (Dt.I a2 0)), (Dt.bool (Dt.B a2 1)), (Dt.fld a2 2), (Dt.bool true), r2, (Dt.lst (Dt.L a2 5)), (Dt.int (Dt.I a2 6)), (Dt.int (Dt.I a2 7)), (Dt.lst (Dt.L a2 8)), (Dt.lst (Dt.L a2 9)), (Dt.bool (Dt.B a2 10)), (Dt.lst (Dt.L a2 11)), (Dt.bool (Dt.B a2 12))])) (e16 J m [1, 1, 1] [] (s16_0 true (Dt.agg [(Dt.int (Dt.I a2 0)), (Dt.bool (Dt.B a2 1)), (Dt.fld a2 2), (Dt.bool true), r2, (Dt.lst (Dt.L a2 5)), (Dt.int (Dt.I a2 6)), (Dt.int (Dt.I a2 7)), (Dt.lst (Dt.L a2 8)), (Dt.lst (Dt.L a2 9)), (Dt.bool (Dt.B a2 10)), (Dt.lst (Dt.L a2 11)), (Dt.bool (Dt.B a2 12))])))))
   else
   (bif ((ByteArray.toList a0) == [101, 110, 117, 109]) then
   ((schema_clone m a1).bind fun r3 =>
   (J 0 27 0 (s16_0 ((Dt.I a1 0) == 6) (Dt.agg [(Dt.int (Dt.I a2 0)), (Dt.bool (Dt.B a2 1)), (Dt.fld a2 2), (Dt.bool (Dt.B a2 3)), (Dt.fld a2 4), (Dt.lst (Dt.L r3 3)), (Dt.int (Dt.I a2 6)), (Dt.int (Dt.I a2 7)), (Dt.lst (Dt.L a2 8)), (Dt.lst (Dt.L a2 9)), (Dt.bool (Dt.B a2 10)), (Dt.lst (Dt.L a2 11)), (Dt.bool (Dt.B a2 12))])) (e16 J m [1, 1, 1] [] (s16_0 ((Dt.I a1 0) == 6) (Dt.agg [(Dt.int (Dt.I a2 0)), (Dt.bool (Dt.B a2 1)), (Dt.fld a2 2), (Dt.bool (Dt.B a2 3)), (Dt.fld a2 4), (Dt.lst (Dt.L r3 3)), (Dt.int (Dt.I a2 6)), (Dt.int (Dt.I a2 7)), (Dt.lst (Dt.L a2 8)), (Dt.lst (Dt.L a2 9)), (Dt.bool (Dt.B a2 10)), (Dt.lst (Dt.L a2 11)), (Dt.bool (Dt.B a2 12))])))))
   else
   (bif ((ByteArray.toList a0) == [109, 105, 110, 76, 101, 110]) then
   (J 0 27 0 (s16_0 ((Dt.I a1 0) == 3) (Dt.agg [(Dt.int (Dt.I a2 0)), (Dt.bool (Dt.B a2 1)), (Dt.fld a2 2), (Dt.bool (Dt.B a2 3)), (Dt.fld a2 4), (Dt.lst (Dt.L a2 5)), (Dt.int (Dt.I a1 1)), (Dt.int (Dt.I a2 7)), (Dt.lst (Dt.L a2 8)), (Dt.lst (Dt.L a2 9)), (Dt.bool (Dt.B a2 10)), (Dt.lst (Dt.L a2 11)), (Dt.bool (Dt.B a2 12))])) (e16 J m [1, 1, 1] [] (s16_0 ((Dt.I a1 0) == 3) (Dt.agg [(Dt.int (Dt.I a2 0)), (Dt.bool (Dt.B a2 1)), (Dt.fld a2 2), (Dt.bool (Dt.B a2 3)), (Dt.fld a2 4), (Dt.lst (Dt.L a2 5)), (Dt.int (Dt.I a1 1)), (Dt.int (Dt.I a2 7)), (Dt.lst (Dt.L a2 8)), (Dt.lst (Dt.L a2 9)), (Dt.bool (Dt.B a2 10)), (Dt.lst (Dt.L a2 11)), (Dt.bool (Dt.B a2 12))]))))
   else
   (bif ((ByteArray.toList a0) == [109, 97, 120, 76, 101, 110]) then
   (J 0 27 0 (s16_0 ((Dt.I a1 0) == 3) (Dt.agg [(Dt.int (Dt.I a2 0)), (Dt.bool (Dt.B a2 1)), (Dt.fld a2 2), (Dt.bool (Dt.B a2 3)), (Dt.fld a2 4), (Dt.lst (Dt.L a2 5)), (Dt.int (Dt.I a2 6)), (Dt.int (Dt.I a1 1)), (Dt.lst (Dt.L a2 8)), (Dt.lst (Dt.L a2 9)), (Dt.bool (Dt.B a2 10)), (Dt.lst (Dt.L a2 11)), (Dt.bool (Dt.B a2 12))])) (e16 J m [1, 1, 1] [] (s16_0 ((Dt.I a1 0) == 3) (Dt.agg [(Dt.int (Dt.I a2 0)), (Dt.bool (Dt.B a2 1)), (Dt.fld a2 2), (Dt.bool (Dt.B a2 3)), (Dt.fld a2 4), (Dt.lst (Dt.L a2 5)), (Dt.int (Dt.I a2 6)), (Dt.int (Dt.I a1 1)), (Dt.lst (Dt.L a2 8)), (Dt.lst (Dt.L a2 9)), (Dt.bool (Dt.B a2 10)), (Dt.lst (Dt.L a2 11)), (Dt.bool (Dt.B a2 12))]))))
   else
   (bif ((ByteArray.toList a0) == [114, 101, 113, 117, 105, 114, 101, 100]) then
   ((schema_parseNames m a1).bind fun r4 =>
   (J 0 27 0 (s16_0 r4.2 (Dt.agg [(Dt.int (Dt.I a2 0)), (Dt.bool (Dt.B a2 1)), (Dt.fld a2 2), (Dt.bool (Dt.B a2 3)), (Dt.fld a2 4), (Dt.lst (Dt.L a2 5)), (Dt.int (Dt.I a2 6)), (Dt.int (Dt.I a2 7)), (Dt.lst r4.1), (Dt.lst (Dt.L a2 9)), (Dt.bool (Dt.B a2 10)), (Dt.lst (Dt.L a2 11)), (Dt.bool (Dt.B a2 12))])) (e16 J m [1, 1, 1] [] (s16_0 r4.2 (Dt.agg [(Dt.int (Dt.I a2 0)), (Dt.bool (Dt.B a2 1)), (Dt.fld a2 2), (Dt.bool (Dt.B a2 3)), (Dt.fld a2 4), (Dt.lst (Dt.L a2 5)), (Dt.int (Dt.I a2 6)), (Dt.int (Dt.I a2 7)), (Dt.lst r4.1), (Dt.lst (Dt.L a2 9)), (Dt.bool (Dt.B a2 10)), (Dt.lst (Dt.L a2 11)), (Dt.bool (Dt.B a2 12))])))))
   else
   (bif ((ByteArray.toList a0) == [112, 114, 111, 112, 115]) then
   ((schema_parseProps m a1).bind fun r5 =>
   (J 0 27 0 (s16_0 r5.2 (Dt.agg [(Dt.int (Dt.I a2 0)), (Dt.bool (Dt.B a2 1)), (Dt.fld a2 2), (Dt.bool (Dt.B a2 3)), (Dt.fld a2 4), (Dt.lst (Dt.L a2 5)), (Dt.int (Dt.I a2 6)), (Dt.int (Dt.I a2 7)), (Dt.lst (Dt.L a2 8)), (Dt.lst r5.1), (Dt.bool (Dt.B a2 10)), (Dt.lst (Dt.L a2 11)), (Dt.bool (Dt.B a2 12))])) (e16 J m [1, 1, 1] [] (s16_0 r5.2 (Dt.agg [(Dt.int (Dt.I a2 0)), (Dt.bool (Dt.B a2 1)), (Dt.fld a2 2), (Dt.bool (Dt.B a2 3)), (Dt.fld a2 4), (Dt.lst (Dt.L a2 5)), (Dt.int (Dt.I a2 6)), (Dt.int (Dt.I a2 7)), (Dt.lst (Dt.L a2 8)), (Dt.lst r5.1), (Dt.bool (Dt.B a2 10)), (Dt.lst (Dt.L a2 11)), (Dt.bool (Dt.B a2 12))])))))
   else
   (bif ((ByteArray.toList a0) == [99, 108, 111, 115, 101, 100]) then
   (J 0 27 0 (s16_0 ((Dt.I a1 0) == 9) (Dt.agg [(Dt.int (Dt.I a2 0)), (Dt.bool (Dt.B a2 1)), (Dt.fld a2 2), (Dt.bool (Dt.B a2 3)), (Dt.fld a2 4), (Dt.lst (Dt.L a2 5)), (Dt.int (Dt.I a2 6)), (Dt.int (Dt.I a2 7)), (Dt.lst (Dt.L a2 8)), (Dt.lst (Dt.L a2 9)), (Dt.bool ((Dt.I a1 1) == 1)), (Dt.lst (Dt.L a2 11)), (Dt.bool (Dt.B a2 12))])) (e16 J m [1, 1, 1] [] (s16_0 ((Dt.I a1 0) == 9) (Dt.agg [(Dt.int (Dt.I a2 0)), (Dt.bool (Dt.B a2 1)), (Dt.fld a2 2), (Dt.bool (Dt.B a2 3)), (Dt.fld a2 4), (Dt.lst (Dt.L a2 5)), (Dt.int (Dt.I a2 6)), (Dt.int (Dt.I a2 7)), (Dt.lst (Dt.L a2 8)), (Dt.lst (Dt.L a2 9)), (Dt.bool ((Dt.I a1 1) == 1)), (Dt.lst (Dt.L a2 11)), (Dt.bool (Dt.B a2 12))]))))
   else
   (bif ((ByteArray.toList a0) == [117, 110, 105, 113, 117, 101]) then
   (J 0 27 0 (s16_0 ((Dt.I a1 0) == 9) (Dt.agg [(Dt.int (Dt.I a2 0)), (Dt.bool (Dt.B a2 1)), (Dt.fld a2 2), (Dt.bool (Dt.B a2 3)), (Dt.fld a2 4), (Dt.lst (Dt.L a2 5)), (Dt.int (Dt.I a2 6)), (Dt.int (Dt.I a2 7)), (Dt.lst (Dt.L a2 8)), (Dt.lst (Dt.L a2 9)), (Dt.bool (Dt.B a2 10)), (Dt.lst (Dt.L a2 11)), (Dt.bool ((Dt.I a1 1) == 1))])) (e16 J m [1, 1, 1] [] (s16_0 ((Dt.I a1 0) == 9) (Dt.agg [(Dt.int (Dt.I a2 0)), (Dt.bool (Dt.B a2 1)), (Dt.fld a2 2), (Dt.bool (Dt.B a2 3)), (Dt.fld a2 4), (Dt.lst (Dt.L a2 5)), (Dt.int (Dt.I a2 6)), (Dt.int (Dt.I a2 7)), (Dt.lst (Dt.L a2 8)), (Dt.lst (Dt.L a2 9)), (Dt.bool (Dt.B a2 10)), (Dt.lst (Dt.L a2 11)), (Dt.bool ((Dt.I a1 1) == 1))]))))
   else
   (bif ((ByteArray.toList a0) == [105, 116, 101, 109, 115]) then
   ((schema_parse m a1).bind fun r6 =>
   (J 0 27 0 (s16_0 r6.2 (Dt.agg [(Dt.int (Dt.I a2 0)), (Dt.bool (Dt.B a2 1)), (Dt.fld a2 2), (Dt.bool (Dt.B a2 3)), (Dt.fld a2 4), (Dt.lst (Dt.L a2 5)), (Dt.int (Dt.I a2 6)), (Dt.int (Dt.I a2 7)), (Dt.lst (Dt.L a2 8)), (Dt.lst (Dt.L a2 9)), (Dt.bool (Dt.B a2 10)), (Dt.lst [r6.1]), (Dt.bool (Dt.B a2 12))])) (e16 J m [1, 1, 1] [] (s16_0 r6.2 (Dt.agg [(Dt.int (Dt.I a2 0)), (Dt.bool (Dt.B a2 1)), (Dt.fld a2 2), (Dt.bool (Dt.B a2 3)), (Dt.fld a2 4), (Dt.lst (Dt.L a2 5)), (Dt.int (Dt.I a2 6)), (Dt.int (Dt.I a2 7)), (Dt.lst (Dt.L a2 8)), (Dt.lst (Dt.L a2 9)), (Dt.bool (Dt.B a2 10)), (Dt.lst [r6.1]), (Dt.bool (Dt.B a2 12))])))))
   else
   (J 0 27 0 (s16_0 false a2) (e16 J m [1, 1, 1] [] (s16_0 false a2)))))))))))))) := fun J => by kernel_rfl
  refine (h jn).trans ?_
  simp only [jn_eq, i16_j0_eq m]
  rfl
noncomputable def d20 (q : Res) : Option (List Dt × Bool) := match q with
  | (.tup [.dat T0 x0, .dat T1 x1], []) => bif (Nat.beq T0 29 && Nat.beq T1 4) then some (x0.toLst, x1.toBool) else none
  | _ => none
theorem d20_sim {b : Res} {r : List Dt × Bool} (h : d20 b = some r) : Sim Tryz.prog b ((.tup [(.dat 29 (.lst r.1)), (.dat 4 (.bool r.2))]), []) := by
  unfold d20 at h
  split at h
  · obtain ⟨hc, h2⟩ := bif_some h
    cases h2
    have e0 := beq_eq (and_l hc)
    have e1 := beq_eq (and_r hc)
    subst e0 e1
    exact Sim.of (.tup (.cons (.dat (.lst Tryz.underlying29)) (.cons (.dat (.bool Tryz.underlying4)) .nil))) .nil
  · cases h
noncomputable def e20 (J : Nat → Nat → Nat → St → Option (List Dt × Bool) → Option (List Dt × Bool)) (m : Nat) (p ms : List Nat) (σ : St) := evAt Tryz.prog env (ct m) J (m + 1) 69 36 Tryz.f69 d20 p ms σ
noncomputable def l20 (J : Nat → Nat → Nat → St → Option (List Dt × Bool) → Option (List Dt × Bool)) (m : Nat) (p ms : List Nat) (M : Nat) (σ : St) := loopAt Tryz.prog env (ct m) J (m + 1) 69 36 Tryz.f69 d20 p ms M σ
noncomputable def s20_5 (x0 : List Dt) (x1 x2 : Int) (x3 : List Dt) : St := ⟨tsOf [(4, (.row 0)), (13, (.dat 23 (.lst x0))), (14, (.dat 3 (.int x1))), (15, (.dat 3 (.int x2)))], [(.row 29 x3)], 0⟩
noncomputable def s20_4 (x0 : List Dt) (x1 x2 : Int) (x3 : List Dt) (x4 x5 : Dt) : St := ⟨tsOf [(4, (.row 0)), (6, (.ptr 1 [] 0)), (7, (.ptr 2 [] 0)), (13, (.dat 23 (.lst x0))), (14, (.dat 3 (.int x1))), (15, (.dat 3 (.int x2)))], [(.row 29 x3), (.box 53 (.dat 53 x4)), (.box 32 (.dat 32 x5))], 0⟩
noncomputable def s20_3 (x0 : List Dt) (x1 x2 : Int) (x3 : List Dt) : St := ⟨tsOf [(4, (.row 0)), (13, (.dat 23 (.lst x0))), (14, (.dat 3 (.int x1))), (15, (.dat 3 (.int x2)))], [(.row 29 x3)], 0⟩
noncomputable def s20_6 (x0 : List Dt) : St := ⟨tsOf [(4, (.row 0))], [(.row 29 x0)], 0⟩
noncomputable def s20_2 (x0 : List Dt) (x1 x2 : Int) (x3 : List Dt) : St := ⟨tsOf [(4, (.row 0)), (13, (.dat 23 (.lst x0))), (14, (.dat 3 (.int x1))), (15, (.dat 3 (.int x2)))], [(.row 29 x3)], 0⟩
noncomputable def s20_1 (x0 : List Dt) (x1 x2 : Int) (x3 : List Dt) : St := ⟨tsOf [(4, (.row 0)), (13, (.dat 23 (.lst x0))), (14, (.dat 3 (.int x1))), (15, (.dat 3 (.int x2)))], [(.row 29 x3)], 0⟩
noncomputable def s20_0 (x0 : Dt) : St := ⟨tsOf [(1, (.ptr 0 [] 0))], [(.box 25 (.dat 25 x0))], 0⟩
theorem schema_parseProps_j5_eq (m : Nat) (M2 : Nat) (rec2 : List Dt → Int → Int → List Dt → Option (List Dt × Bool)) (h2 : ∀ (x0 : List Dt) (x1 x2 : Int) (x3 : List Dt), l20 jn m [1, 1, 1, 0, 1, 0] [] M2 (s20_2 x0 x1 x2 x3) = rec2 x0 x1 x2 x3) (x0 : List Dt) (x1 x2 : Int) (x3 : List Dt) : e20 jn m [1, 1, 1, 0, 1, 0, 0, 1, 1, 1] [M2] (s20_5 x0 x1 x2 x3) = schema_parseProps_j5 m (schema_parse m) rec2 x0 x1 x2 x3 := by
  have h : ∀ J, e20 J m [1, 1, 1, 0, 1, 0, 0, 1, 1, 1] [M2] (s20_5 x0 x1 x2 x3) =
    (J 1 5 M2 (s20_2 x0 x1 (IntKind.wrap .i64 (x2 + 1)) x3) (l20 J m [1, 1, 1, 0, 1, 0] [] M2 (s20_2 x0 x1 (IntKind.wrap .i64 (x2 + 1)) x3))) := fun J => by kernel_rfl
  exact (h jn).trans (by
    simp only [jn_eq, h2]
    rfl)
theorem schema_parseProps_j4_eq (m : Nat) (M2 : Nat) (rec2 : List Dt → Int → Int → List Dt → Option (List Dt × Bool)) (h2 : ∀ (x0 : List Dt) (x1 x2 : Int) (x3 : List Dt), l20 jn m [1, 1, 1, 0, 1, 0] [] M2 (s20_2 x0 x1 x2 x3) = rec2 x0 x1 x2 x3) (x0 : List Dt) (x1 x2 : Int) (x3 : List Dt) (x4 x5 : Dt) : e20 jn m [1, 1, 1, 0, 1, 0, 0, 1, 1, 0, 0, 1, 1, 1] [M2] (s20_4 x0 x1 x2 x3 x4 x5) = schema_parseProps_j4 m (schema_parse m) rec2 x0 x1 x2 x3 x4 x5 := by
  have h : ∀ J, e20 J m [1, 1, 1, 0, 1, 0, 0, 1, 1, 0, 0, 1, 1, 1] [M2] (s20_4 x0 x1 x2 x3 x4 x5) =
    ((app x3 [(Dt.agg [(Dt.str (Dt.S x4 0)), x5])]).bind fun v2 =>
   (J 0 11 0 (s20_5 x0 x1 x2 v2) (e20 J m [1, 1, 1, 0, 1, 0, 0, 1, 1, 1] [M2] (s20_5 x0 x1 x2 v2)))) := fun J => by kernel_rfl
  exact (h jn).trans (by
    simp only [jn_eq, schema_parseProps_j5_eq m M2 rec2 h2]
    rfl)
theorem schema_parseProps_j3_eq (m : Nat) (M2 : Nat) (rec2 : List Dt → Int → Int → List Dt → Option (List Dt × Bool)) (h2 : ∀ (x0 : List Dt) (x1 x2 : Int) (x3 : List Dt), l20 jn m [1, 1, 1, 0, 1, 0] [] M2 (s20_2 x0 x1 x2 x3) = rec2 x0 x1 x2 x3) (x0 : List Dt) (x1 x2 : Int) (x3 : List Dt) : e20 jn m [1, 1, 1, 0, 1, 0, 0, 1, 1] [M2] (s20_3 x0 x1 x2 x3) = schema_parseProps_j3 m (schema_parse m) rec2 x0 x1 x2 x3 := by
  have h : ∀ J, e20 J m [1, 1, 1, 0, 1, 0, 0, 1, 1] [M2] (s20_3 x0 x1 x2 x3) =
    ((idx x0 x2).bind fun v0 =>
   ((schema_parse m (Dt.fld v0 1)).bind fun r1 =>
   (bif (Bool.not r1.2) then
   some ([], false)
   else
   (J 0 10 0 (s20_4 x0 x1 x2 x3 v0 r1.1) (e20 J m [1, 1, 1, 0, 1, 0, 0, 1, 1, 0, 0, 1, 1, 1] [M2] (s20_4 x0 x1 x2 x3 v0 r1.1)))))) := fun J => by kernel_rfl
  exact (h jn).trans (by
    simp only [jn_eq, schema_parseProps_j4_eq m M2 rec2 h2]
    rfl)
theorem schema_parseProps_j6_eq (m : Nat) (x0 : List Dt) : e20 jn m [1, 1, 1, 1] [] (s20_6 x0) = schema_parseProps_j6 m (schema_parse m) x0 := by
  have h : ∀ J, e20 J m [1, 1, 1, 1] [] (s20_6 x0) =
    some (x0, true) := fun J => by kernel_rfl
  exact (h jn).trans (rfl)
theorem schema_parseProps_l2_eq (m : Nat) : ∀ (M2 : Nat) (x0 : List Dt) (x1 x2 : Int) (x3 : List Dt), l20 jn m [1, 1, 1, 0, 1, 0] [] M2 (s20_2 x0 x1 x2 x3) = schema_parseProps_l2 m (schema_parse m) M2 x0 x1 x2 x3
  | 0, _, _, _, _ => rfl
  | M2 + 1, x0, x1, x2, x3 => by
    have h : ∀ J, l20 J m [1, 1, 1, 0, 1, 0] [] (M2 + 1) (s20_2 x0 x1 x2 x3) =
    (bif (decide (x2 < x1)) then
   (J 0 6 0 (s20_3 x0 x1 x2 x3) (e20 J m [1, 1, 1, 0, 1, 0, 0, 1, 1] [M2] (s20_3 x0 x1 x2 x3)))
    else
   (J 0 12 0 (s20_6 x3) (e20 J m [1, 1, 1, 1] [] (s20_6 x3)))) := fun J => by kernel_rfl
    refine (h jn).trans ?_
    simp only [jn_eq, schema_parseProps_j3_eq m M2 (schema_parseProps_l2 m (schema_parse m) M2) (fun x0 x1 x2 x3 => schema_parseProps_l2_eq m M2 x0 x1 x2 x3), schema_parseProps_j6_eq m]
    rfl
theorem schema_parseProps_j1_eq (m : Nat) (x0 : List Dt) (x1 x2 : Int) (x3 : List Dt) : e20 jn m [1, 1, 1, 0, 1] [] (s20_1 x0 x1 x2 x3) = schema_parseProps_j1 m (schema_parse m) x0 x1 x2 x3 := by
  have h : ∀ J, e20 J m [1, 1, 1, 0, 1] [] (s20_1 x0 x1 x2 x3) =
    (J 1 5 (Nat.succ m) (s20_2 x0 x1 x2 x3) (l20 J m [1, 1, 1, 0, 1, 0] [] (Nat.succ m) (s20_2 x0 x1 x2 x3))) := fun J => by kernel_rfl
  exact (h jn).trans (by
    simp only [jn_eq, schema_parseProps_l2_eq m]
    rfl)
theorem schema_parseProps_j0_eq (m : Nat) (x0 : Dt) : e20 jn m [1, 1] [] (s20_0 x0) = schema_parseProps_j0 m (schema_parse m) x0 := by
  have h : ∀ J, e20 J m [1, 1] [] (s20_0 x0) =
    (J 0 5 0 (s20_1 (Dt.L x0 4) (List.length (Dt.L x0 4) : Int) 0 []) (e20 J m [1, 1, 1, 0, 1] [] (s20_1 (Dt.L x0 4) (List.length (Dt.L x0 4) : Int) 0 []))) := fun J => by kernel_rfl
  exact (h jn).trans (by
    simp only [jn_eq, schema_parseProps_j1_eq m]
    rfl)
theorem schema_parseProps_eq (m : Nat) (a0 : Dt) : e20 jn m [] [] ⟨[(.dat 25 a0)], [], 0⟩ = schema_parseProps (m + 1) a0 := by
  have h : ∀ J, e20 J m [] [] ⟨[(.dat 25 a0)], [], 0⟩ =
    (bif ((Dt.I a0 0) != 5) then
   some ([], false)
    else
   (J 0 3 0 (s20_0 a0) (e20 J m [1, 1] [] (s20_0 a0)))) := fun J => by kernel_rfl
  refine (h jn).trans ?_
  simp only [jn_eq, schema_parseProps_j0_eq m]
  rfl
noncomputable def d34 (q : Res) : Option Bool := match q with
  | (.dat T0 x0, []) => bif Nat.beq T0 4 then some x0.toBool else none
  | _ => none
theorem d34_sim {b : Res} {r : Bool} (h : d34 b = some r) : Sim Tryz.prog b ((.dat 4 (.bool r)), []) := by
  unfold d34 at h
  split at h
  · obtain ⟨hc, h2⟩ := bif_some h
    cases h2
    have e0 := beq_eq hc
    subst e0
    exact Sim.of (.of (.dat (.bool Tryz.underlying4)) rfl rfl) .nil
  · cases h
noncomputable def e34 (J : Nat → Nat → Nat → St → Option Bool → Option Bool) (m : Nat) (p ms : List Nat) (σ : St) := evAt Tryz.prog env (ct m) J (m + 1) 92 39 Tryz.f92 d34 p ms σ
noncomputable def l34 (J : Nat → Nat → Nat → St → Option Bool → Option Bool) (m : Nat) (p ms : List Nat) (M : Nat) (σ : St) := loopAt Tryz.prog env (ct m) J (m + 1) 92 39 Tryz.f92 d34 p ms M σ
noncomputable def s34_6 (x0 : ByteArray) (x1 x2 : Int) : St := ⟨tsOf [(0, (.dat 9 (.str x0))), (18, (.dat 3 (.int x1))), (19, (.dat 3 (.int x2)))], [], 0⟩
noncomputable def s34_5 (x0 : ByteArray) (x1 x2 : Int) (x3 : Bool) : St := ⟨tsOf [(0, (.dat 9 (.str x0))), (18, (.dat 3 (.int x1))), (19, (.dat 3 (.int x2))), (37, (.dat 4 (.bool x3)))], [], 0⟩
noncomputable def s34_4 (x0 : ByteArray) (x1 x2 : Int) : St := ⟨tsOf [(0, (.dat 9 (.str x0))), (18, (.dat 3 (.int x1))), (19, (.dat 3 (.int x2)))], [], 0⟩
noncomputable def s34_7 : St := ⟨tsOf [], [], 0⟩
noncomputable def s34_3 (x0 : ByteArray) (x1 x2 : Int) : St := ⟨tsOf [(0, (.dat 9 (.str x0))), (18, (.dat 3 (.int x1))), (19, (.dat 3 (.int x2)))], [], 0⟩
noncomputable def s34_2 (x0 : ByteArray) (x1 x2 : Int) : St := ⟨tsOf [(0, (.dat 9 (.str x0))), (18, (.dat 3 (.int x1))), (19, (.dat 3 (.int x2)))], [], 0⟩
noncomputable def s34_1 (x0 : ByteArray) : St := ⟨tsOf [(0, (.dat 9 (.str x0)))], [], 0⟩
noncomputable def s34_0 (x0 : ByteArray) (x1 : Bool) : St := ⟨tsOf [(0, (.dat 9 (.str x0))), (16, (.dat 4 (.bool x1)))], [], 0⟩
theorem schema_isName_j6_eq (m : Nat) (M3 : Nat) (rec3 : ByteArray → Int → Int → Option Bool) (h3 : ∀ (x0 : ByteArray) (x1 x2 : Int), l34 jn m [1, 1, 0, 1, 0] [] M3 (s34_3 x0 x1 x2) = rec3 x0 x1 x2) (x0 : ByteArray) (x1 x2 : Int) : e34 jn m [1, 1, 0, 1, 0, 0, 1, 1, 1] [M3] (s34_6 x0 x1 x2) = schema_isName_j6 m rec3 x0 x1 x2 := by
  have h : ∀ J, e34 J m [1, 1, 0, 1, 0, 0, 1, 1, 1] [M3] (s34_6 x0 x1 x2) =
    (J 1 4 M3 (s34_3 x0 x1 (IntKind.wrap .i64 (x2 + 1))) (l34 J m [1, 1, 0, 1, 0] [] M3 (s34_3 x0 x1 (IntKind.wrap .i64 (x2 + 1))))) := fun J => by kernel_rfl
  exact (h jn).trans (by
    simp only [jn_eq, h3]
    rfl)
theorem schema_isName_j5_eq (m : Nat) (M3 : Nat) (rec3 : ByteArray → Int → Int → Option Bool) (h3 : ∀ (x0 : ByteArray) (x1 x2 : Int), l34 jn m [1, 1, 0, 1, 0] [] M3 (s34_3 x0 x1 x2) = rec3 x0 x1 x2) (x0 : ByteArray) (x1 x2 : Int) (x3 : Bool) : e34 jn m [1, 1, 0, 1, 0, 0, 1, 1, 0, 0, 1, 1] [M3] (s34_5 x0 x1 x2 x3) = schema_isName_j5 m rec3 x0 x1 x2 x3 := by
  have h : ∀ J, e34 J m [1, 1, 0, 1, 0, 0, 1, 1, 0, 0, 1, 1] [M3] (s34_5 x0 x1 x2 x3) =
    (bif x3 then
   some false
    else
   (J 0 8 0 (s34_6 x0 x1 x2) (e34 J m [1, 1, 0, 1, 0, 0, 1, 1, 1] [M3] (s34_6 x0 x1 x2)))) := fun J => by kernel_rfl
  exact (h jn).trans (by
    simp only [jn_eq, schema_isName_j6_eq m M3 rec3 h3]
    rfl)
theorem schema_isName_j4_eq (m : Nat) (M3 : Nat) (rec3 : ByteArray → Int → Int → Option Bool) (h3 : ∀ (x0 : ByteArray) (x1 x2 : Int), l34 jn m [1, 1, 0, 1, 0] [] M3 (s34_3 x0 x1 x2) = rec3 x0 x1 x2) (x0 : ByteArray) (x1 x2 : Int) : e34 jn m [1, 1, 0, 1, 0, 0, 1, 1] [M3] (s34_4 x0 x1 x2) = schema_isName_j4 m rec3 x0 x1 x2 := by
  have h : ∀ J, e34 J m [1, 1, 0, 1, 0, 0, 1, 1] [M3] (s34_4 x0 x1 x2) =
    ((idxS x0 x2).bind fun v0 =>
   (bif (decide (v0 < 33)) then
   (J 0 7 0 (s34_5 x0 x1 x2 true) (e34 J m [1, 1, 0, 1, 0, 0, 1, 1, 0, 0, 1, 1] [M3] (s34_5 x0 x1 x2 true)))
   else
   ((idxS x0 x2).bind fun v1 =>
   (bif (decide (126 < v1)) then
   (J 0 7 0 (s34_5 x0 x1 x2 true) (e34 J m [1, 1, 0, 1, 0, 0, 1, 1, 0, 0, 1, 1] [M3] (s34_5 x0 x1 x2 true)))
   else
   ((idxS x0 x2).bind fun v2 =>
   (J 0 7 0 (s34_5 x0 x1 x2 (v2 == 46)) (e34 J m [1, 1, 0, 1, 0, 0, 1, 1, 0, 0, 1, 1] [M3] (s34_5 x0 x1 x2 (v2 == 46))))))))) := fun J => by kernel_rfl
  exact (h jn).trans (by
    simp only [jn_eq, schema_isName_j5_eq m M3 rec3 h3]
    rfl)
theorem schema_isName_j7_eq (m : Nat) : e34 jn m [1, 1, 1] [] s34_7 = schema_isName_j7 m := by
  have h : ∀ J, e34 J m [1, 1, 1] [] s34_7 =
    some true := fun J => by kernel_rfl
  exact (h jn).trans (rfl)
theorem schema_isName_l3_eq (m : Nat) : ∀ (M3 : Nat) (x0 : ByteArray) (x1 x2 : Int), l34 jn m [1, 1, 0, 1, 0] [] M3 (s34_3 x0 x1 x2) = schema_isName_l3 m M3 x0 x1 x2
  | 0, _, _, _ => rfl
  | M3 + 1, x0, x1, x2 => by
    have h : ∀ J, l34 J m [1, 1, 0, 1, 0] [] (M3 + 1) (s34_3 x0 x1 x2) =
    (bif (decide (x2 < x1)) then
   (J 0 5 0 (s34_4 x0 x1 x2) (e34 J m [1, 1, 0, 1, 0, 0, 1, 1] [M3] (s34_4 x0 x1 x2)))
    else
   (J 0 9 0 s34_7 (e34 J m [1, 1, 1] [] s34_7))) := fun J => by kernel_rfl
    refine (h jn).trans ?_
    simp only [jn_eq, schema_isName_j4_eq m M3 (schema_isName_l3 m M3) (fun x0 x1 x2 => schema_isName_l3_eq m M3 x0 x1 x2), schema_isName_j7_eq m]
    rfl
theorem schema_isName_j2_eq (m : Nat) (x0 : ByteArray) (x1 x2 : Int) : e34 jn m [1, 1, 0, 1] [] (s34_2 x0 x1 x2) = schema_isName_j2 m x0 x1 x2 := by
  have h : ∀ J, e34 J m [1, 1, 0, 1] [] (s34_2 x0 x1 x2) =
    (J 1 4 (Nat.succ m) (s34_3 x0 x1 x2) (l34 J m [1, 1, 0, 1, 0] [] (Nat.succ m) (s34_3 x0 x1 x2))) := fun J => by kernel_rfl
  exact (h jn).trans (by
    simp only [jn_eq, schema_isName_l3_eq m]
    rfl)
theorem schema_isName_j1_eq (m : Nat) (x0 : ByteArray) : e34 jn m [1, 1] [] (s34_1 x0) = schema_isName_j1 m x0 := by
  have h : ∀ J, e34 J m [1, 1] [] (s34_1 x0) =
    (J 0 4 0 (s34_2 x0 (ByteArray.size x0 : Int) 0) (e34 J m [1, 1, 0, 1] [] (s34_2 x0 (ByteArray.size x0 : Int) 0))) := fun J => by kernel_rfl
  exact (h jn).trans (by
    simp only [jn_eq, schema_isName_j2_eq m]
    rfl)
theorem schema_isName_j0_eq (m : Nat) (x0 : ByteArray) (x1 : Bool) : e34 jn m [1, 0, 1] [] (s34_0 x0 x1) = schema_isName_j0 m x0 x1 := by
  have h : ∀ J, e34 J m [1, 0, 1] [] (s34_0 x0 x1) =
    (bif x1 then
   some false
    else
   (J 0 3 0 (s34_1 x0) (e34 J m [1, 1] [] (s34_1 x0)))) := fun J => by kernel_rfl
  exact (h jn).trans (by
    simp only [jn_eq, schema_isName_j1_eq m]
    rfl)
theorem schema_isName_eq (m : Nat) (a0 : ByteArray) : e34 jn m [] [] ⟨[(.dat 9 (.str a0))], [], 0⟩ = schema_isName (m + 1) a0 := by
  have h : ∀ J, e34 J m [] [] ⟨[(.dat 9 (.str a0))], [], 0⟩ =
    (bif (decide ((ByteArray.size a0 : Int) < 1)) then
   (J 0 2 0 (s34_0 a0 true) (e34 J m [1, 0, 1] [] (s34_0 a0 true)))
    else
   (bif (decide (32 < (ByteArray.size a0 : Int))) then
   (J 0 2 0 (s34_0 a0 true) (e34 J m [1, 0, 1] [] (s34_0 a0 true)))
   else
   ((idxS a0 0).bind fun v3 =>
   (J 0 2 0 (s34_0 a0 (v3 == 36)) (e34 J m [1, 0, 1] [] (s34_0 a0 (v3 == 36))))))) := fun J => by kernel_rfl
  refine (h jn).trans ?_
  simp only [jn_eq, schema_isName_j0_eq m]
  rfl
noncomputable def d36 (q : Res) : Option Int := match q with
  | (.dat T0 x0, []) => bif Nat.beq T0 3 then some x0.toInt else none
  | _ => none
theorem d36_sim {b : Res} {r : Int} (h : d36 b = some r) : Sim Tryz.prog b ((.dat 3 (.int r)), []) := by
  unfold d36 at h
  split at h
  · obtain ⟨hc, h2⟩ := bif_some h
    cases h2
    have e0 := beq_eq hc
    subst e0
    exact Sim.of (.of (.dat (.int Tryz.underlying3)) rfl rfl) .nil
  · cases h
noncomputable def e36 (J : Nat → Nat → Nat → St → Option Int → Option Int) (m : Nat) (p ms : List Nat) (σ : St) := evAt Tryz.prog env (ct m) J (m + 1) 62 14 Tryz.f62 d36 p ms σ
noncomputable def l36 (J : Nat → Nat → Nat → St → Option Int → Option Int) (m : Nat) (p ms : List Nat) (M : Nat) (σ : St) := loopAt Tryz.prog env (ct m) J (m + 1) 62 14 Tryz.f62 d36 p ms M σ
noncomputable def s36_0 (x0 : Dt) (x1 x2 : Int) : St := ⟨tsOf [(2, (.ptr 0 [] 0)), (3, (.ptr 1 [] 0)), (5, (.ptr 2 [] 0))], [(.box 25 (.dat 25 x0)), (.box 3 (.dat 3 (.int x1))), (.box 3 (.dat 3 (.int x2)))], 0⟩
theorem value_nodes_j0_eq (m : Nat) (x0 : Dt) (x1 x2 : Int) : e36 jn m [1, 1, 1] [] (s36_0 x0 x1 x2) = value_nodes_j0 m (i49 m) x0 x1 x2 := by
  have h : ∀ J, e36 J m [1, 1, 1] [] (s36_0 x0 x1 x2) =
    ((i49 m x0 x2 x1).bind fun r0 =>
   some r0.1) := fun J => by kernel_rfl
  exact (h jn).trans (rfl)
theorem value_nodes_eq (m : Nat) (a0 : Dt) (a1 : Int) : e36 jn m [] [] ⟨[(.dat 25 a0), (.dat 3 (.int a1))], [], 0⟩ = value_nodes (m + 1) a0 a1 := by
  have h : ∀ J, e36 J m [] [] ⟨[(.dat 25 a0), (.dat 3 (.int a1))], [], 0⟩ =
    (bif (1 == a1) then
   some 1
    else
   (J 0 4 0 (s36_0 a0 a1 1) (e36 J m [1, 1, 1] [] (s36_0 a0 a1 1)))) := fun J => by kernel_rfl
  refine (h jn).trans ?_
  simp only [jn_eq, value_nodes_j0_eq m]
  rfl
noncomputable def d49 (q : Res) : Option (Int × Int) := match q with
  | (.tup [], [.box T0 (.dat T1 x1), .box T2 (.dat T3 x3)]) => bif (Nat.beq T0 3 && (Nat.beq T1 3 && (Nat.beq T2 3 && Nat.beq T3 3))) then some (x1.toInt, x3.toInt) else none
  | _ => none
theorem d49_sim {b : Res} {r : Int × Int} (h : d49 b = some r) : Sim Tryz.prog b ((.tup []), [(.box 3 (.dat 3 (.int r.1))), (.box 3 (.dat 3 (.int r.2)))]) := by
  unfold d49 at h
  split at h
  · obtain ⟨hc, h2⟩ := bif_some h
    cases h2
    have e0 := beq_eq (and_l hc)
    have e1 := beq_eq (and_l (and_r hc))
    have e2 := beq_eq (and_l (and_r (and_r hc)))
    have e3 := beq_eq (and_r (and_r (and_r hc)))
    subst e0 e1 e2 e3
    exact Sim.of (.tup .nil) (.cons (.box (.dat (.int Tryz.underlying3))) (.cons (.box (.dat (.int Tryz.underlying3))) .nil))
  · cases h
noncomputable def e49 (J : Nat → Nat → Nat → St → Option (Int × Int) → Option (Int × Int)) (m : Nat) (p ms : List Nat) (σ : St) := evAt Tryz.prog env (ct m) J (m + 1) 94 39 Tryz.f94 d49 p ms σ
noncomputable def l49 (J : Nat → Nat → Nat → St → Option (Int × Int) → Option (Int × Int)) (m : Nat) (p ms : List Nat) (M : Nat) (σ : St) := loopAt Tryz.prog env (ct m) J (m + 1) 94 39 Tryz.f94 d49 p ms M σ
noncomputable def s49_3 (x0 : List Dt) (x1 x2 x3 x4 : Int) : St := ⟨tsOf [(1, (.fn 95 [(.ptr 0 [] 0), (.ptr 1 [] 0)])), (13, (.dat 22 (.lst x0))), (14, (.dat 3 (.int x1))), (15, (.dat 3 (.int x2)))], [(.box 3 (.dat 3 (.int x3))), (.box 3 (.dat 3 (.int x4)))], 2⟩
noncomputable def s49_2 (x0 : List Dt) (x1 x2 x3 x4 : Int) : St := ⟨tsOf [(1, (.fn 95 [(.ptr 0 [] 0), (.ptr 1 [] 0)])), (13, (.dat 22 (.lst x0))), (14, (.dat 3 (.int x1))), (15, (.dat 3 (.int x2)))], [(.box 3 (.dat 3 (.int x3))), (.box 3 (.dat 3 (.int x4)))], 2⟩
noncomputable def s49_1 (x0 : List Dt) (x1 x2 x3 x4 : Int) : St := ⟨tsOf [(1, (.fn 95 [(.ptr 0 [] 0), (.ptr 1 [] 0)])), (13, (.dat 22 (.lst x0))), (14, (.dat 3 (.int x1))), (15, (.dat 3 (.int x2)))], [(.box 3 (.dat 3 (.int x3))), (.box 3 (.dat 3 (.int x4)))], 2⟩
noncomputable def s49_0 (x0 : List Dt) (x1 x2 x3 x4 : Int) : St := ⟨tsOf [(1, (.fn 95 [(.ptr 0 [] 0), (.ptr 1 [] 0)])), (13, (.dat 22 (.lst x0))), (14, (.dat 3 (.int x1))), (15, (.dat 3 (.int x2)))], [(.box 3 (.dat 3 (.int x3))), (.box 3 (.dat 3 (.int x4)))], 2⟩
noncomputable def s49_7 (x0 : List Dt) (x1 x2 x3 x4 : Int) : St := ⟨tsOf [(1, (.fn 95 [(.ptr 0 [] 0), (.ptr 1 [] 0)])), (27, (.dat 23 (.lst x0))), (28, (.dat 3 (.int x1))), (29, (.dat 3 (.int x2)))], [(.box 3 (.dat 3 (.int x3))), (.box 3 (.dat 3 (.int x4)))], 2⟩
noncomputable def s49_6 (x0 : List Dt) (x1 x2 x3 x4 : Int) : St := ⟨tsOf [(1, (.fn 95 [(.ptr 0 [] 0), (.ptr 1 [] 0)])), (27, (.dat 23 (.lst x0))), (28, (.dat 3 (.int x1))), (29, (.dat 3 (.int x2)))], [(.box 3 (.dat 3 (.int x3))), (.box 3 (.dat 3 (.int x4)))], 2⟩
noncomputable def s49_5 (x0 : List Dt) (x1 x2 x3 x4 : Int) : St := ⟨tsOf [(1, (.fn 95 [(.ptr 0 [] 0), (.ptr 1 [] 0)])), (27, (.dat 23 (.lst x0))), (28, (.dat 3 (.int x1))), (29, (.dat 3 (.int x2)))], [(.box 3 (.dat 3 (.int x3))), (.box 3 (.dat 3 (.int x4)))], 2⟩
noncomputable def s49_4 (x0 : List Dt) (x1 x2 x3 x4 : Int) : St := ⟨tsOf [(1, (.fn 95 [(.ptr 0 [] 0), (.ptr 1 [] 0)])), (27, (.dat 23 (.lst x0))), (28, (.dat 3 (.int x1))), (29, (.dat 3 (.int x2)))], [(.box 3 (.dat 3 (.int x3))), (.box 3 (.dat 3 (.int x4)))], 2⟩
theorem i49_j3_eq (m : Nat) (M1 : Nat) (rec1 : List Dt → Int → Int → Int → Int → Option (Int × Int)) (h1 : ∀ (x0 : List Dt) (x1 x2 x3 x4 : Int), l49 jn m [1, 1, 0, 1, 0, 1, 0] [] M1 (s49_1 x0 x1 x2 x3 x4) = rec1 x0 x1 x2 x3 x4) (x0 : List Dt) (x1 x2 x3 x4 : Int) : e49 jn m [1, 1, 0, 1, 0, 1, 0, 0, 1, 1, 1] [M1] (s49_3 x0 x1 x2 x3 x4) = i49_j3 m (i50 m) rec1 x0 x1 x2 x3 x4 := by
  have h : ∀ J, e49 J m [1, 1, 0, 1, 0, 1, 0, 0, 1, 1, 1] [M1] (s49_3 x0 x1 x2 x3 x4) =
    (J 1 4 M1 (s49_1 x0 x1 (IntKind.wrap .i64 (x2 + 1)) x3 x4) (l49 J m [1, 1, 0, 1, 0, 1, 0] [] M1 (s49_1 x0 x1 (IntKind.wrap .i64 (x2 + 1)) x3 x4))) := fun J => by kernel_rfl
  exact (h jn).trans (by
    simp only [jn_eq, h1]
    rfl)
theorem i49_j2_eq (m : Nat) (M1 : Nat) (rec1 : List Dt → Int → Int → Int → Int → Option (Int × Int)) (h1 : ∀ (x0 : List Dt) (x1 x2 x3 x4 : Int), l49 jn m [1, 1, 0, 1, 0, 1, 0] [] M1 (s49_1 x0 x1 x2 x3 x4) = rec1 x0 x1 x2 x3 x4) (x0 : List Dt) (x1 x2 x3 x4 : Int) : e49 jn m [1, 1, 0, 1, 0, 1, 0, 0, 1, 1] [M1] (s49_2 x0 x1 x2 x3 x4) = i49_j2 m (i50 m) rec1 x0 x1 x2 x3 x4 := by
  have h : ∀ J, e49 J m [1, 1, 0, 1, 0, 1, 0, 0, 1, 1] [M1] (s49_2 x0 x1 x2 x3 x4) =
    ((idx x0 x2).bind fun v0 =>
   ((i50 m v0 x3 x4).bind fun r1 =>
   (bif (Bool.not r1.1) then
   some (r1.2.1, r1.2.2)
   else
   (J 0 7 0 (s49_3 x0 x1 x2 r1.2.1 r1.2.2) (e49 J m [1, 1, 0, 1, 0, 1, 0, 0, 1, 1, 1] [M1] (s49_3 x0 x1 x2 r1.2.1 r1.2.2)))))) := fun J => by kernel_rfl
  exact (h jn).trans (by
    simp only [jn_eq, i49_j3_eq m M1 rec1 h1]
    rfl)
theorem i49_l1_eq (m : Nat) : ∀ (M1 : Nat) (x0 : List Dt) (x1 x2 x3 x4 : Int), l49 jn m [1, 1, 0, 1, 0, 1, 0] [] M1 (s49_1 x0 x1 x2 x3 x4) = i49_l1 m (i50 m) M1 x0 x1 x2 x3 x4
  | 0, _, _, _, _, _ => rfl
  | M1 + 1, x0, x1, x2, x3, x4 => by
    have h : ∀ J, l49 J m [1, 1, 0, 1, 0, 1, 0] [] (M1 + 1) (s49_1 x0 x1 x2 x3 x4) =
    (bif (decide (x2 < x1)) then
   (J 0 5 0 (s49_2 x0 x1 x2 x3 x4) (e49 J m [1, 1, 0, 1, 0, 1, 0, 0, 1, 1] [M1] (s49_2 x0 x1 x2 x3 x4)))
    else
   some (x3, x4)) := fun J => by kernel_rfl
    refine (h jn).trans ?_
    simp only [jn_eq, i49_j2_eq m M1 (i49_l1 m (i50 m) M1) (fun x0 x1 x2 x3 x4 => i49_l1_eq m M1 x0 x1 x2 x3 x4)]
    rfl
theorem i49_j0_eq (m : Nat) (x0 : List Dt) (x1 x2 x3 x4 : Int) : e49 jn m [1, 1, 0, 1, 0, 1] [] (s49_0 x0 x1 x2 x3 x4) = i49_j0 m (i50 m) x0 x1 x2 x3 x4 := by
  have h : ∀ J, e49 J m [1, 1, 0, 1, 0, 1] [] (s49_0 x0 x1 x2 x3 x4) =
    (J 1 4 (Nat.succ m) (s49_1 x0 x1 x2 x3 x4) (l49 J m [1, 1, 0, 1, 0, 1, 0] [] (Nat.succ m) (s49_1 x0 x1 x2 x3 x4))) := fun J => by kernel_rfl
  exact (h jn).trans (by
    simp only [jn_eq, i49_l1_eq m]
    rfl)
theorem i49_j7_eq (m : Nat) (M5 : Nat) (rec5 : List Dt → Int → Int → Int → Int → Option (Int × Int)) (h5 : ∀ (x0 : List Dt) (x1 x2 x3 x4 : Int), l49 jn m [1, 1, 0, 1, 1, 1, 0, 1, 0] [] M5 (s49_5 x0 x1 x2 x3 x4) = rec5 x0 x1 x2 x3 x4) (x0 : List Dt) (x1 x2 x3 x4 : Int) : e49 jn m [1, 1, 0, 1, 1, 1, 0, 1, 0, 0, 1, 1, 1] [M5] (s49_7 x0 x1 x2 x3 x4) = i49_j7 m (i50 m) rec5 x0 x1 x2 x3 x4 := by
  have h : ∀ J, e49 J m [1, 1, 0, 1, 1, 1, 0, 1, 0, 0, 1, 1, 1] [M5] (s49_7 x0 x1 x2 x3 x4) =
    (J 1 10 M5 (s49_5 x0 x1 (IntKind.wrap .i64 (x2 + 1)) x3 x4) (l49 J m [1, 1, 0, 1, 1, 1, 0, 1, 0] [] M5 (s49_5 x0 x1 (IntKind.wrap .i64 (x2 + 1)) x3 x4))) := fun J => by kernel_rfl
  exact (h jn).trans (by
    simp only [jn_eq, h5]
    rfl)
theorem i49_j6_eq (m : Nat) (M5 : Nat) (rec5 : List Dt → Int → Int → Int → Int → Option (Int × Int)) (h5 : ∀ (x0 : List Dt) (x1 x2 x3 x4 : Int), l49 jn m [1, 1, 0, 1, 1, 1, 0, 1, 0] [] M5 (s49_5 x0 x1 x2 x3 x4) = rec5 x0 x1 x2 x3 x4) (x0 : List Dt) (x1 x2 x3 x4 : Int) : e49 jn m [1, 1, 0, 1, 1, 1, 0, 1, 0, 0, 1, 1] [M5] (s49_6 x0 x1 x2 x3 x4) = i49_j6 m (i50 m) rec5 x0 x1 x2 x3 x4 := by
  have h : ∀ J, e49 J m [1, 1, 0, 1, 1, 1, 0, 1, 0, 0, 1, 1] [M5] (s49_6 x0 x1 x2 x3 x4) =
    ((idx x0 x2).bind fun v2 =>
   ((i50 m (Dt.fld v2 1) x3 x4).bind fun r3 =>
   (bif (Bool.not r3.1) then
   some (r3.2.1, r3.2.2)
   else
   (J 0 13 0 (s49_7 x0 x1 x2 r3.2.1 r3.2.2) (e49 J m [1, 1, 0, 1, 1, 1, 0, 1, 0, 0, 1, 1, 1] [M5] (s49_7 x0 x1 x2 r3.2.1 r3.2.2)))))) := fun J => by kernel_rfl
  exact (h jn).trans (by
    simp only [jn_eq, i49_j7_eq m M5 rec5 h5]
    rfl)
theorem i49_l5_eq (m : Nat) : ∀ (M5 : Nat) (x0 : List Dt) (x1 x2 x3 x4 : Int), l49 jn m [1, 1, 0, 1, 1, 1, 0, 1, 0] [] M5 (s49_5 x0 x1 x2 x3 x4) = i49_l5 m (i50 m) M5 x0 x1 x2 x3 x4
  | 0, _, _, _, _, _ => rfl
  | M5 + 1, x0, x1, x2, x3, x4 => by
    have h : ∀ J, l49 J m [1, 1, 0, 1, 1, 1, 0, 1, 0] [] (M5 + 1) (s49_5 x0 x1 x2 x3 x4) =
    (bif (decide (x2 < x1)) then
   (J 0 11 0 (s49_6 x0 x1 x2 x3 x4) (e49 J m [1, 1, 0, 1, 1, 1, 0, 1, 0, 0, 1, 1] [M5] (s49_6 x0 x1 x2 x3 x4)))
    else
   some (x3, x4)) := fun J => by kernel_rfl
    refine (h jn).trans ?_
    simp only [jn_eq, i49_j6_eq m M5 (i49_l5 m (i50 m) M5) (fun x0 x1 x2 x3 x4 => i49_l5_eq m M5 x0 x1 x2 x3 x4)]
    rfl
theorem i49_j4_eq (m : Nat) (x0 : List Dt) (x1 x2 x3 x4 : Int) : e49 jn m [1, 1, 0, 1, 1, 1, 0, 1] [] (s49_4 x0 x1 x2 x3 x4) = i49_j4 m (i50 m) x0 x1 x2 x3 x4 := by
  have h : ∀ J, e49 J m [1, 1, 0, 1, 1, 1, 0, 1] [] (s49_4 x0 x1 x2 x3 x4) =
    (J 1 10 (Nat.succ m) (s49_5 x0 x1 x2 x3 x4) (l49 J m [1, 1, 0, 1, 1, 1, 0, 1, 0] [] (Nat.succ m) (s49_5 x0 x1 x2 x3 x4))) := fun J => by kernel_rfl
  exact (h jn).trans (by
    simp only [jn_eq, i49_l5_eq m]
    rfl)
theorem i49_eq (m : Nat) (a0 : Dt) (a1 a2 : Int) : e49 jn m [] [] ⟨[(.dat 25 a0), (.fn 95 [(.ptr 0 [] 0), (.ptr 1 [] 0)])], [(.box 3 (.dat 3 (.int a1))), (.box 3 (.dat 3 (.int a2)))], 2⟩ = i49 (m + 1) a0 a1 a2 := by
  have h : ∀ J, e49 J m [] [] ⟨[(.dat 25 a0), (.fn 95 [(.ptr 0 [] 0), (.ptr 1 [] 0)])], [(.box 3 (.dat 3 (.int a1))), (.box 3 (.dat 3 (.int a2)))], 2⟩ =
    (bif ((Dt.I a0 0) == 6) then
   (J 0 4 0 (s49_0 (Dt.L a0 3) (List.length (Dt.L a0 3) : Int) 0 a1 a2) (e49 J m [1, 1, 0, 1, 0, 1] [] (s49_0 (Dt.L a0 3) (List.length (Dt.L a0 3) : Int) 0 a1 a2)))
    else
   (bif ((Dt.I a0 0) == 5) then
   (J 0 10 0 (s49_4 (Dt.L a0 4) (List.length (Dt.L a0 4) : Int) 0 a1 a2) (e49 J m [1, 1, 0, 1, 1, 1, 0, 1] [] (s49_4 (Dt.L a0 4) (List.length (Dt.L a0 4) : Int) 0 a1 a2)))
   else
   some (a1, a2))) := fun J => by kernel_rfl
  refine (h jn).trans ?_
  simp only [jn_eq, i49_j0_eq m, i49_j4_eq m]
  rfl
noncomputable def d50 (q : Res) : Option (Bool × Int × Int) := match q with
  | (.dat T0 x0, [.box T1 (.dat T2 x2), .box T3 (.dat T4 x4)]) => bif (Nat.beq T0 4 && (Nat.beq T1 3 && (Nat.beq T2 3 && (Nat.beq T3 3 && Nat.beq T4 3)))) then some (x0.toBool, x2.toInt, x4.toInt) else none
  | _ => none
theorem d50_sim {b : Res} {r : Bool × Int × Int} (h : d50 b = some r) : Sim Tryz.prog b ((.dat 4 (.bool r.1)), [(.box 3 (.dat 3 (.int r.2.1))), (.box 3 (.dat 3 (.int r.2.2)))]) := by
  unfold d50 at h
  split at h
  · obtain ⟨hc, h2⟩ := bif_some h
    cases h2
    have e0 := beq_eq (and_l hc)
    have e1 := beq_eq (and_l (and_r hc))
    have e2 := beq_eq (and_l (and_r (and_r hc)))
    have e3 := beq_eq (and_l (and_r (and_r (and_r hc))))
    have e4 := beq_eq (and_r (and_r (and_r (and_r hc))))
    subst e0 e1 e2 e3 e4
    exact Sim.of (.of (.dat (.bool Tryz.underlying4)) rfl rfl) (.cons (.box (.dat (.int Tryz.underlying3))) (.cons (.box (.dat (.int Tryz.underlying3))) .nil))
  · cases h
noncomputable def e50 (J : Nat → Nat → Nat → St → Option (Bool × Int × Int) → Option (Bool × Int × Int)) (m : Nat) (p ms : List Nat) (σ : St) := evAt Tryz.prog env (ct m) J (m + 1) 95 15 Tryz.f95 d50 p ms σ
noncomputable def l50 (J : Nat → Nat → Nat → St → Option (Bool × Int × Int) → Option (Bool × Int × Int)) (m : Nat) (p ms : List Nat) (M : Nat) (σ : St) := loopAt Tryz.prog env (ct m) J (m + 1) 95 15 Tryz.f95 d50 p ms M σ
theorem i50_eq (m : Nat) (a0 : Dt) (a1 a2 : Int) : e50 jn m [] [] ⟨[(.dat 25 a0), (.ptr 0 [] 0), (.ptr 1 [] 0)], [(.box 3 (.dat 3 (.int a1))), (.box 3 (.dat 3 (.int a2)))], 2⟩ = i50 (m + 1) a0 a1 a2 := by
  have h : ∀ J, e50 J m [] [] ⟨[(.dat 25 a0), (.ptr 0 [] 0), (.ptr 1 [] 0)], [(.box 3 (.dat 3 (.int a1))), (.box 3 (.dat 3 (.int a2)))], 2⟩ =
    ((value_nodes m a0 (IntKind.wrap .i64 (a2 - a1))).bind fun r0 =>
   some ((decide ((IntKind.wrap .i64 (a1 + r0)) < a2)), (IntKind.wrap .i64 (a1 + r0)), a2)) := fun J => by kernel_rfl
  refine (h jn).trans ?_
  
  rfl
noncomputable def d23 (q : Res) : Option Int := match q with
  | (.dat T0 x0, []) => bif Nat.beq T0 3 then some x0.toInt else none
  | _ => none
theorem d23_sim {b : Res} {r : Int} (h : d23 b = some r) : Sim Tryz.prog b ((.dat 3 (.int r)), []) := by
  unfold d23 at h
  split at h
  · obtain ⟨hc, h2⟩ := bif_some h
    cases h2
    have e0 := beq_eq hc
    subst e0
    exact Sim.of (.of (.dat (.int Tryz.underlying3)) rfl rfl) .nil
  · cases h
noncomputable def e23 (J : Nat → Nat → Nat → St → Option Int → Option Int) (m : Nat) (p ms : List Nat) (σ : St) := evAt Tryz.prog env (ct m) J (m + 1) 33 5 Tryz.f33 d23 p ms σ
noncomputable def l23 (J : Nat → Nat → Nat → St → Option Int → Option Int) (m : Nat) (p ms : List Nat) (M : Nat) (σ : St) := loopAt Tryz.prog env (ct m) J (m + 1) 33 5 Tryz.f33 d23 p ms M σ
theorem value_Nodes_eq (m : Nat) (a0 : Dt) : e23 jn m [] [] ⟨[(.dat 25 a0)], [], 0⟩ = value_Nodes (m + 1) a0 := by
  have h : ∀ J, e23 J m [] [] ⟨[(.dat 25 a0)], [], 0⟩ =
    ((value_nodes m a0 1025).bind fun r0 =>
   some r0) := fun J => by kernel_rfl
  refine (h jn).trans ?_
  
  rfl
noncomputable def d38 (q : Res) : Option Bool := match q with
  | (.dat T0 x0, []) => bif Nat.beq T0 4 then some x0.toBool else none
  | _ => none
theorem d38_sim {b : Res} {r : Bool} (h : d38 b = some r) : Sim Tryz.prog b ((.dat 4 (.bool r)), []) := by
  unfold d38 at h
  split at h
  · obtain ⟨hc, h2⟩ := bif_some h
    cases h2
    have e0 := beq_eq hc
    subst e0
    exact Sim.of (.of (.dat (.bool Tryz.underlying4)) rfl rfl) .nil
  · cases h
noncomputable def e38 (J : Nat → Nat → Nat → St → Option Bool → Option Bool) (m : Nat) (p ms : List Nat) (σ : St) := evAt Tryz.prog env (ct m) J (m + 1) 64 28 Tryz.f64 d38 p ms σ
noncomputable def l38 (J : Nat → Nat → Nat → St → Option Bool → Option Bool) (m : Nat) (p ms : List Nat) (M : Nat) (σ : St) := loopAt Tryz.prog env (ct m) J (m + 1) 64 28 Tryz.f64 d38 p ms M σ
noncomputable def s38_4 (x0 : ByteArray) (x1 x2 : Int) : St := ⟨tsOf [(0, (.dat 9 (.str x0))), (5, (.dat 3 (.int x1))), (6, (.dat 3 (.int x2)))], [], 0⟩
noncomputable def s38_3 (x0 : ByteArray) (x1 x2 : Int) (x3 : Bool) : St := ⟨tsOf [(0, (.dat 9 (.str x0))), (5, (.dat 3 (.int x1))), (6, (.dat 3 (.int x2))), (18, (.dat 4 (.bool x3)))], [], 0⟩
noncomputable def s38_2 (x0 : ByteArray) (x1 x2 : Int) : St := ⟨tsOf [(0, (.dat 9 (.str x0))), (5, (.dat 3 (.int x1))), (6, (.dat 3 (.int x2)))], [], 0⟩
noncomputable def s38_5 (x0 : ByteArray) : St := ⟨tsOf [(0, (.dat 9 (.str x0)))], [], 0⟩
noncomputable def s38_1 (x0 : ByteArray) (x1 x2 : Int) : St := ⟨tsOf [(0, (.dat 9 (.str x0))), (5, (.dat 3 (.int x1))), (6, (.dat 3 (.int x2)))], [], 0⟩
noncomputable def s38_0 (x0 : ByteArray) (x1 x2 : Int) : St := ⟨tsOf [(0, (.dat 9 (.str x0))), (5, (.dat 3 (.int x1))), (6, (.dat 3 (.int x2)))], [], 0⟩
theorem schema_isField_j4_eq (m : Nat) (M1 : Nat) (rec1 : ByteArray → Int → Int → Option Bool) (h1 : ∀ (x0 : ByteArray) (x1 x2 : Int), l38 jn m [1, 0, 1, 0] [] M1 (s38_1 x0 x1 x2) = rec1 x0 x1 x2) (x0 : ByteArray) (x1 x2 : Int) : e38 jn m [1, 0, 1, 0, 0, 1, 1, 1] [M1] (s38_4 x0 x1 x2) = schema_isField_j4 m rec1 x0 x1 x2 := by
  have h : ∀ J, e38 J m [1, 0, 1, 0, 0, 1, 1, 1] [M1] (s38_4 x0 x1 x2) =
    (J 1 2 M1 (s38_1 x0 x1 (IntKind.wrap .i64 (x2 + 1))) (l38 J m [1, 0, 1, 0] [] M1 (s38_1 x0 x1 (IntKind.wrap .i64 (x2 + 1))))) := fun J => by kernel_rfl
  exact (h jn).trans (by
    simp only [jn_eq, h1]
    rfl)
theorem schema_isField_j3_eq (m : Nat) (M1 : Nat) (rec1 : ByteArray → Int → Int → Option Bool) (h1 : ∀ (x0 : ByteArray) (x1 x2 : Int), l38 jn m [1, 0, 1, 0] [] M1 (s38_1 x0 x1 x2) = rec1 x0 x1 x2) (x0 : ByteArray) (x1 x2 : Int) (x3 : Bool) : e38 jn m [1, 0, 1, 0, 0, 1, 1, 0, 0, 1, 1] [M1] (s38_3 x0 x1 x2 x3) = schema_isField_j3 m rec1 x0 x1 x2 x3 := by
  have h : ∀ J, e38 J m [1, 0, 1, 0, 0, 1, 1, 0, 0, 1, 1] [M1] (s38_3 x0 x1 x2 x3) =
    (bif x3 then
   some false
    else
   (J 0 6 0 (s38_4 x0 x1 x2) (e38 J m [1, 0, 1, 0, 0, 1, 1, 1] [M1] (s38_4 x0 x1 x2)))) := fun J => by kernel_rfl
  exact (h jn).trans (by
    simp only [jn_eq, schema_isField_j4_eq m M1 rec1 h1]
    rfl)
theorem schema_isField_j2_eq (m : Nat) (M1 : Nat) (rec1 : ByteArray → Int → Int → Option Bool) (h1 : ∀ (x0 : ByteArray) (x1 x2 : Int), l38 jn m [1, 0, 1, 0] [] M1 (s38_1 x0 x1 x2) = rec1 x0 x1 x2) (x0 : ByteArray) (x1 x2 : Int) : e38 jn m [1, 0, 1, 0, 0, 1, 1] [M1] (s38_2 x0 x1 x2) = schema_isField_j2 m rec1 x0 x1 x2 := by
  have h : ∀ J, e38 J m [1, 0, 1, 0, 0, 1, 1] [M1] (s38_2 x0 x1 x2) =
    ((idxS x0 x2).bind fun v0 =>
   (bif (decide (v0 < 32)) then
   (J 0 5 0 (s38_3 x0 x1 x2 true) (e38 J m [1, 0, 1, 0, 0, 1, 1, 0, 0, 1, 1] [M1] (s38_3 x0 x1 x2 true)))
   else
   ((idxS x0 x2).bind fun v1 =>
   (J 0 5 0 (s38_3 x0 x1 x2 (decide (126 < v1))) (e38 J m [1, 0, 1, 0, 0, 1, 1, 0, 0, 1, 1] [M1] (s38_3 x0 x1 x2 (decide (126 < v1)))))))) := fun J => by kernel_rfl
  exact (h jn).trans (by
    simp only [jn_eq, schema_isField_j3_eq m M1 rec1 h1]
    rfl)
theorem schema_isField_j5_eq (m : Nat) (x0 : ByteArray) : e38 jn m [1, 1] [] (s38_5 x0) = schema_isField_j5 m x0 := by
  have h : ∀ J, e38 J m [1, 1] [] (s38_5 x0) =
    (bif (decide (1 ≤ (ByteArray.size x0 : Int))) then
   some (decide ((ByteArray.size x0 : Int) ≤ 128))
    else
   some false) := fun J => by kernel_rfl
  exact (h jn).trans (rfl)
theorem schema_isField_l1_eq (m : Nat) : ∀ (M1 : Nat) (x0 : ByteArray) (x1 x2 : Int), l38 jn m [1, 0, 1, 0] [] M1 (s38_1 x0 x1 x2) = schema_isField_l1 m M1 x0 x1 x2
  | 0, _, _, _ => rfl
  | M1 + 1, x0, x1, x2 => by
    have h : ∀ J, l38 J m [1, 0, 1, 0] [] (M1 + 1) (s38_1 x0 x1 x2) =
    (bif (decide (x2 < x1)) then
   (J 0 3 0 (s38_2 x0 x1 x2) (e38 J m [1, 0, 1, 0, 0, 1, 1] [M1] (s38_2 x0 x1 x2)))
    else
   (J 0 7 0 (s38_5 x0) (e38 J m [1, 1] [] (s38_5 x0)))) := fun J => by kernel_rfl
    refine (h jn).trans ?_
    simp only [jn_eq, schema_isField_j2_eq m M1 (schema_isField_l1 m M1) (fun x0 x1 x2 => schema_isField_l1_eq m M1 x0 x1 x2), schema_isField_j5_eq m]
    rfl
theorem schema_isField_j0_eq (m : Nat) (x0 : ByteArray) (x1 x2 : Int) : e38 jn m [1, 0, 1] [] (s38_0 x0 x1 x2) = schema_isField_j0 m x0 x1 x2 := by
  have h : ∀ J, e38 J m [1, 0, 1] [] (s38_0 x0 x1 x2) =
    (J 1 2 (Nat.succ m) (s38_1 x0 x1 x2) (l38 J m [1, 0, 1, 0] [] (Nat.succ m) (s38_1 x0 x1 x2))) := fun J => by kernel_rfl
  exact (h jn).trans (by
    simp only [jn_eq, schema_isField_l1_eq m]
    rfl)
theorem schema_isField_eq (m : Nat) (a0 : ByteArray) : e38 jn m [] [] ⟨[(.dat 9 (.str a0))], [], 0⟩ = schema_isField (m + 1) a0 := by
  have h : ∀ J, e38 J m [] [] ⟨[(.dat 9 (.str a0))], [], 0⟩ =
    (J 0 2 0 (s38_0 a0 (ByteArray.size a0 : Int) 0) (e38 J m [1, 0, 1] [] (s38_0 a0 (ByteArray.size a0 : Int) 0))) := fun J => by kernel_rfl
  refine (h jn).trans ?_
  simp only [jn_eq, schema_isField_j0_eq m]
  rfl
noncomputable def d24 (q : Res) : Option (Dt × Bool) := match q with
  | (.tup [.dat T0 x0, .dat T1 x1], []) => bif (Nat.beq T0 25 && Nat.beq T1 4) then some (x0, x1.toBool) else none
  | _ => none
theorem d24_sim {b : Res} {r : Dt × Bool} (h : d24 b = some r) : Sim Tryz.prog b ((.tup [(.dat 25 r.1), (.dat 4 (.bool r.2))]), []) := by
  unfold d24 at h
  split at h
  · obtain ⟨hc, h2⟩ := bif_some h
    cases h2
    have e0 := beq_eq (and_l hc)
    have e1 := beq_eq (and_r hc)
    subst e0 e1
    exact Sim.of (.tup (.cons .same (.cons (.dat (.bool Tryz.underlying4)) .nil))) .nil
  · cases h
noncomputable def e24 (J : Nat → Nat → Nat → St → Option (Dt × Bool) → Option (Dt × Bool)) (m : Nat) (p ms : List Nat) (σ : St) := evAt Tryz.prog env (ct m) J (m + 1) 35 96 Tryz.f35 d24 p ms σ
noncomputable def l24 (J : Nat → Nat → Nat → St → Option (Dt × Bool) → Option (Dt × Bool)) (m : Nat) (p ms : List Nat) (M : Nat) (σ : St) := loopAt Tryz.prog env (ct m) J (m + 1) 35 96 Tryz.f35 d24 p ms M σ
noncomputable def s24_4 (x0 : List Dt) (x1 x2 : Int) (x3 x4 : Dt) (x5 : List Dt) : St := ⟨tsOf [(1, (.ptr 0 [] 0)), (2, (.ptr 1 [] 0)), (4, (.row 2)), (24, (.dat 22 (.lst x0))), (25, (.dat 3 (.int x1))), (26, (.dat 3 (.int x2)))], [(.box 25 (.dat 25 x3)), (.box 25 (.dat 25 x4)), (.row 22 x5)], 0⟩
noncomputable def s24_3 (x0 : Int) (x1 : List Dt) (x2 x3 : Int) (x4 x5 : Dt) (x6 : List Dt) (x7 : Dt) : St := ⟨tsOf [(1, (.ptr 0 [] 0)), (2, (.ptr 1 [] 0)), (4, (.row 2)), (5, (.dat 3 (.int x0))), (7, (.ptr 3 [] 0)), (24, (.dat 22 (.lst x1))), (25, (.dat 3 (.int x2))), (26, (.dat 3 (.int x3)))], [(.box 25 (.dat 25 x4)), (.box 25 (.dat 25 x5)), (.row 22 x6), (.box 25 (.dat 25 x7))], 0⟩
noncomputable def s24_2 (x0 : List Dt) (x1 x2 : Int) (x3 x4 : Dt) (x5 : List Dt) : St := ⟨tsOf [(1, (.ptr 0 [] 0)), (2, (.ptr 1 [] 0)), (4, (.row 2)), (24, (.dat 22 (.lst x0))), (25, (.dat 3 (.int x1))), (26, (.dat 3 (.int x2)))], [(.box 25 (.dat 25 x3)), (.box 25 (.dat 25 x4)), (.row 22 x5)], 0⟩
noncomputable def s24_6 (x0 x1 : Dt) : St := ⟨tsOf [(1, (.ptr 0 [] 0)), (2, (.ptr 1 [] 0))], [(.box 25 (.dat 25 x0)), (.box 25 (.dat 25 x1))], 0⟩
noncomputable def s24_5 (x0 x1 : Dt) (x2 : List Dt) : St := ⟨tsOf [(1, (.ptr 0 [] 0)), (2, (.ptr 1 [] 0)), (4, (.row 2))], [(.box 25 (.dat 25 x0)), (.box 25 (.dat 25 x1)), (.row 22 x2)], 0⟩
noncomputable def s24_1 (x0 : List Dt) (x1 x2 : Int) (x3 x4 : Dt) (x5 : List Dt) : St := ⟨tsOf [(1, (.ptr 0 [] 0)), (2, (.ptr 1 [] 0)), (4, (.row 2)), (24, (.dat 22 (.lst x0))), (25, (.dat 3 (.int x1))), (26, (.dat 3 (.int x2)))], [(.box 25 (.dat 25 x3)), (.box 25 (.dat 25 x4)), (.row 22 x5)], 0⟩
noncomputable def s24_0 (x0 : List Dt) (x1 x2 : Int) (x3 x4 : Dt) (x5 : List Dt) : St := ⟨tsOf [(1, (.ptr 0 [] 0)), (2, (.ptr 1 [] 0)), (4, (.row 2)), (24, (.dat 22 (.lst x0))), (25, (.dat 3 (.int x1))), (26, (.dat 3 (.int x2)))], [(.box 25 (.dat 25 x3)), (.box 25 (.dat 25 x4)), (.row 22 x5)], 0⟩
noncomputable def s24_12 (x0 : List Dt) (x1 x2 : Int) (x3 x4 : Dt) (x5 x6 : List Dt) : St := ⟨tsOf [(1, (.ptr 0 [] 0)), (2, (.ptr 1 [] 0)), (9, (.row 2)), (10, (.row 3)), (54, (.dat 23 (.lst x0))), (55, (.dat 3 (.int x1))), (56, (.dat 3 (.int x2)))], [(.box 25 (.dat 25 x3)), (.box 25 (.dat 25 x4)), (.row 23 x5), (.map 93 x6)], 0⟩
noncomputable def s24_11 (x0 : Int) (x1 : List Dt) (x2 x3 : Int) (x4 x5 : Dt) (x6 x7 : List Dt) (x8 x9 : Dt) : St := ⟨tsOf [(1, (.ptr 0 [] 0)), (2, (.ptr 1 [] 0)), (9, (.row 2)), (10, (.row 3)), (11, (.dat 3 (.int x0))), (12, (.ptr 4 [] 0)), (13, (.ptr 5 [] 0)), (54, (.dat 23 (.lst x1))), (55, (.dat 3 (.int x2))), (56, (.dat 3 (.int x3)))], [(.box 25 (.dat 25 x4)), (.box 25 (.dat 25 x5)), (.row 23 x6), (.map 93 x7), (.box 53 (.dat 53 x8)), (.box 25 (.dat 25 x9))], 0⟩
noncomputable def s24_10 (x0 : Int) (x1 : List Dt) (x2 x3 : Int) (x4 : Bool) (x5 x6 : Dt) (x7 x8 : List Dt) (x9 x10 : Dt) : St := ⟨tsOf [(1, (.ptr 0 [] 0)), (2, (.ptr 1 [] 0)), (9, (.row 2)), (10, (.row 3)), (11, (.dat 3 (.int x0))), (12, (.ptr 4 [] 0)), (13, (.ptr 5 [] 0)), (54, (.dat 23 (.lst x1))), (55, (.dat 3 (.int x2))), (56, (.dat 3 (.int x3))), (80, (.dat 4 (.bool x4)))], [(.box 25 (.dat 25 x5)), (.box 25 (.dat 25 x6)), (.row 23 x7), (.map 93 x8), (.box 53 (.dat 53 x9)), (.box 25 (.dat 25 x10))], 0⟩
noncomputable def s24_9 (x0 : List Dt) (x1 x2 : Int) (x3 x4 : Dt) (x5 x6 : List Dt) : St := ⟨tsOf [(1, (.ptr 0 [] 0)), (2, (.ptr 1 [] 0)), (9, (.row 2)), (10, (.row 3)), (54, (.dat 23 (.lst x0))), (55, (.dat 3 (.int x1))), (56, (.dat 3 (.int x2)))], [(.box 25 (.dat 25 x3)), (.box 25 (.dat 25 x4)), (.row 23 x5), (.map 93 x6)], 0⟩
noncomputable def s24_13 (x0 x1 : Dt) (x2 : List Dt) : St := ⟨tsOf [(1, (.ptr 0 [] 0)), (2, (.ptr 1 [] 0)), (9, (.row 2))], [(.box 25 (.dat 25 x0)), (.box 25 (.dat 25 x1)), (.row 23 x2)], 0⟩
noncomputable def s24_8 (x0 : List Dt) (x1 x2 : Int) (x3 x4 : Dt) (x5 x6 : List Dt) : St := ⟨tsOf [(1, (.ptr 0 [] 0)), (2, (.ptr 1 [] 0)), (9, (.row 2)), (10, (.row 3)), (54, (.dat 23 (.lst x0))), (55, (.dat 3 (.int x1))), (56, (.dat 3 (.int x2)))], [(.box 25 (.dat 25 x3)), (.box 25 (.dat 25 x4)), (.row 23 x5), (.map 93 x6)], 0⟩
noncomputable def s24_7 (x0 : List Dt) (x1 x2 : Int) (x3 x4 : Dt) (x5 x6 : List Dt) : St := ⟨tsOf [(1, (.ptr 0 [] 0)), (2, (.ptr 1 [] 0)), (9, (.row 2)), (10, (.row 3)), (54, (.dat 23 (.lst x0))), (55, (.dat 3 (.int x1))), (56, (.dat 3 (.int x2)))], [(.box 25 (.dat 25 x3)), (.box 25 (.dat 25 x4)), (.row 23 x5), (.map 93 x6)], 0⟩
theorem schema_rename_j4_eq (m : Nat) (M1 : Nat) (rec1 : List Dt → Int → Int → Dt → Dt → List Dt → Option (Dt × Bool)) (h1 : ∀ (x0 : List Dt) (x1 x2 : Int) (x3 x4 : Dt) (x5 : List Dt), l24 jn m [1, 0, 1, 0, 1, 0, 1, 0, 1, 0] [] M1 (s24_1 x0 x1 x2 x3 x4 x5) = rec1 x0 x1 x2 x3 x4 x5) (x0 : List Dt) (x1 x2 : Int) (x3 x4 : Dt) (x5 : List Dt) : e24 jn m [1, 0, 1, 0, 1, 0, 1, 0, 1, 0, 0, 1, 1, 1] [M1] (s24_4 x0 x1 x2 x3 x4 x5) = schema_rename_j4 m (schema_rename m) rec1 x0 x1 x2 x3 x4 x5 := by
  have h : ∀ J, e24 J m [1, 0, 1, 0, 1, 0, 1, 0, 1, 0, 0, 1, 1, 1] [M1] (s24_4 x0 x1 x2 x3 x4 x5) =
    (J 1 5 M1 (s24_1 x0 x1 (IntKind.wrap .i64 (x2 + 1)) x3 x4 x5) (l24 J m [1, 0, 1, 0, 1, 0, 1, 0, 1, 0] [] M1 (s24_1 x0 x1 (IntKind.wrap .i64 (x2 + 1)) x3 x4 x5))) := fun J => by kernel_rfl
  exact (h jn).trans (by
    simp only [jn_eq, h1]
    rfl)
theorem schema_rename_j3_eq (m : Nat) (M1 : Nat) (rec1 : List Dt → Int → Int → Dt → Dt → List Dt → Option (Dt × Bool)) (h1 : ∀ (x0 : List Dt) (x1 x2 : Int) (x3 x4 : Dt) (x5 : List Dt), l24 jn m [1, 0, 1, 0, 1, 0, 1, 0, 1, 0] [] M1 (s24_1 x0 x1 x2 x3 x4 x5) = rec1 x0 x1 x2 x3 x4 x5) (x0 : Int) (x1 : List Dt) (x2 x3 : Int) (x4 x5 : Dt) (x6 : List Dt) (x7 : Dt) : e24 jn m [1, 0, 1, 0, 1, 0, 1, 0, 1, 0, 0, 1, 1, 0, 0, 1, 1, 1] [M1] (s24_3 x0 x1 x2 x3 x4 x5 x6 x7) = schema_rename_j3 m (schema_rename m) rec1 x0 x1 x2 x3 x4 x5 x6 x7 := by
  have h : ∀ J, e24 J m [1, 0, 1, 0, 1, 0, 1, 0, 1, 0, 0, 1, 1, 0, 0, 1, 1, 1] [M1] (s24_3 x0 x1 x2 x3 x4 x5 x6 x7) =
    ((inL x6 x0).bind fun v3 =>
   ((x6[(Int.toNat x0)]?).bind fun v4 =>
   (J 0 11 0 (s24_4 x1 x2 x3 x4 x5 (List.set x6 (Int.toNat x0) x7)) (e24 J m [1, 0, 1, 0, 1, 0, 1, 0, 1, 0, 0, 1, 1, 1] [M1] (s24_4 x1 x2 x3 x4 x5 (List.set x6 (Int.toNat x0) x7)))))) := fun J => by kernel_rfl
  exact (h jn).trans (by
    simp only [jn_eq, schema_rename_j4_eq m M1 rec1 h1]
    rfl)
theorem schema_rename_j2_eq (m : Nat) (M1 : Nat) (rec1 : List Dt → Int → Int → Dt → Dt → List Dt → Option (Dt × Bool)) (h1 : ∀ (x0 : List Dt) (x1 x2 : Int) (x3 x4 : Dt) (x5 : List Dt), l24 jn m [1, 0, 1, 0, 1, 0, 1, 0, 1, 0] [] M1 (s24_1 x0 x1 x2 x3 x4 x5) = rec1 x0 x1 x2 x3 x4 x5) (x0 : List Dt) (x1 x2 : Int) (x3 x4 : Dt) (x5 : List Dt) : e24 jn m [1, 0, 1, 0, 1, 0, 1, 0, 1, 0, 0, 1, 1] [M1] (s24_2 x0 x1 x2 x3 x4 x5) = schema_rename_j2 m (schema_rename m) rec1 x0 x1 x2 x3 x4 x5 := by
  have h : ∀ J, e24 J m [1, 0, 1, 0, 1, 0, 1, 0, 1, 0, 0, 1, 1] [M1] (s24_2 x0 x1 x2 x3 x4 x5) =
    ((idx x0 x2).bind fun v1 =>
   ((schema_rename m v1).bind fun r2 =>
   (bif (Bool.not r2.2) then
   some (kza2373, false)
   else
   (J 0 10 0 (s24_3 x2 x0 x1 x2 x3 x4 x5 r2.1) (e24 J m [1, 0, 1, 0, 1, 0, 1, 0, 1, 0, 0, 1, 1, 0, 0, 1, 1, 1] [M1] (s24_3 x2 x0 x1 x2 x3 x4 x5 r2.1)))))) := fun J => by kernel_rfl
  exact (h jn).trans (by
    simp only [jn_eq, schema_rename_j3_eq m M1 rec1 h1]
    rfl)
theorem schema_rename_j6_eq (m : Nat) (x0 x1 : Dt) : e24 jn m [1, 1] [] (s24_6 x0 x1) = schema_rename_j6 m (schema_rename m) x0 x1 := by
  have h : ∀ J, e24 J m [1, 1] [] (s24_6 x0 x1) =
    some (x0, true) := fun J => by kernel_rfl
  exact (h jn).trans (rfl)
theorem schema_rename_j5_eq (m : Nat) (x0 x1 : Dt) (x2 : List Dt) : e24 jn m [1, 0, 1, 0, 1, 0, 1, 1] [] (s24_5 x0 x1 x2) = schema_rename_j5 m (schema_rename m) x0 x1 x2 := by
  have h : ∀ J, e24 J m [1, 0, 1, 0, 1, 0, 1, 1] [] (s24_5 x0 x1 x2) =
    (J 0 26 0 (s24_6 (Dt.agg [(Dt.int (Dt.I x0 0)), (Dt.int (Dt.I x0 1)), (Dt.str (Dt.S x0 2)), (Dt.lst x2), (Dt.lst (Dt.L x0 4))]) x1) (e24 J m [1, 1] [] (s24_6 (Dt.agg [(Dt.int (Dt.I x0 0)), (Dt.int (Dt.I x0 1)), (Dt.str (Dt.S x0 2)), (Dt.lst x2), (Dt.lst (Dt.L x0 4))]) x1))) := fun J => by kernel_rfl
  exact (h jn).trans (by
    simp only [jn_eq, schema_rename_j6_eq m]
    rfl)
theorem schema_rename_l1_eq (m : Nat) : ∀ (M1 : Nat) (x0 : List Dt) (x1 x2 : Int) (x3 x4 : Dt) (x5 : List Dt), l24 jn m [1, 0, 1, 0, 1, 0, 1, 0, 1, 0] [] M1 (s24_1 x0 x1 x2 x3 x4 x5) = schema_rename_l1 m (schema_rename m) M1 x0 x1 x2 x3 x4 x5
  | 0, _, _, _, _, _, _ => rfl
  | M1 + 1, x0, x1, x2, x3, x4, x5 => by
    have h : ∀ J, l24 J m [1, 0, 1, 0, 1, 0, 1, 0, 1, 0] [] (M1 + 1) (s24_1 x0 x1 x2 x3 x4 x5) =
    (bif (decide (x2 < x1)) then
   (J 0 6 0 (s24_2 x0 x1 x2 x3 x4 x5) (e24 J m [1, 0, 1, 0, 1, 0, 1, 0, 1, 0, 0, 1, 1] [M1] (s24_2 x0 x1 x2 x3 x4 x5)))
    else
   (J 0 12 0 (s24_5 x3 x4 x5) (e24 J m [1, 0, 1, 0, 1, 0, 1, 1] [] (s24_5 x3 x4 x5)))) := fun J => by kernel_rfl
    refine (h jn).trans ?_
    simp only [jn_eq, schema_rename_j2_eq m M1 (schema_rename_l1 m (schema_rename m) M1) (fun x0 x1 x2 x3 x4 x5 => schema_rename_l1_eq m M1 x0 x1 x2 x3 x4 x5), schema_rename_j5_eq m]
    rfl
theorem schema_rename_j0_eq (m : Nat) (x0 : List Dt) (x1 x2 : Int) (x3 x4 : Dt) (x5 : List Dt) : e24 jn m [1, 0, 1, 0, 1, 0, 1, 0, 1] [] (s24_0 x0 x1 x2 x3 x4 x5) = schema_rename_j0 m (schema_rename m) x0 x1 x2 x3 x4 x5 := by
  have h : ∀ J, e24 J m [1, 0, 1, 0, 1, 0, 1, 0, 1] [] (s24_0 x0 x1 x2 x3 x4 x5) =
    (J 1 5 (Nat.succ m) (s24_1 x0 x1 x2 x3 x4 x5) (l24 J m [1, 0, 1, 0, 1, 0, 1, 0, 1, 0] [] (Nat.succ m) (s24_1 x0 x1 x2 x3 x4 x5))) := fun J => by kernel_rfl
  exact (h jn).trans (by
    simp only [jn_eq, schema_rename_l1_eq m]
    rfl)
theorem schema_rename_j12_eq (m : Nat) (M8 : Nat) (rec8 : List Dt → Int → Int → Dt → Dt → List Dt → List Dt → Option (Dt × Bool)) (h8 : ∀ (x0 : List Dt) (x1 x2 : Int) (x3 x4 : Dt) (x5 x6 : List Dt), l24 jn m [1, 0, 1, 0, 1, 1, 1, 0, 1, 1, 0, 1, 0] [] M8 (s24_8 x0 x1 x2 x3 x4 x5 x6) = rec8 x0 x1 x2 x3 x4 x5 x6) (x0 : List Dt) (x1 x2 : Int) (x3 x4 : Dt) (x5 x6 : List Dt) : e24 jn m [1, 0, 1, 0, 1, 1, 1, 0, 1, 1, 0, 1, 0, 0, 1, 1, 1] [M8] (s24_12 x0 x1 x2 x3 x4 x5 x6) = schema_rename_j12 m (schema_rename m) rec8 x0 x1 x2 x3 x4 x5 x6 := by
  have h : ∀ J, e24 J m [1, 0, 1, 0, 1, 1, 1, 0, 1, 1, 0, 1, 0, 0, 1, 1, 1] [M8] (s24_12 x0 x1 x2 x3 x4 x5 x6) =
    (J 1 17 M8 (s24_8 x0 x1 (IntKind.wrap .i64 (x2 + 1)) x3 x4 x5 x6) (l24 J m [1, 0, 1, 0, 1, 1, 1, 0, 1, 1, 0, 1, 0] [] M8 (s24_8 x0 x1 (IntKind.wrap .i64 (x2 + 1)) x3 x4 x5 x6))) := fun J => by kernel_rfl
  exact (h jn).trans (by
    simp only [jn_eq, h8]
    rfl)
theorem schema_rename_j11_eq (m : Nat) (M8 : Nat) (rec8 : List Dt → Int → Int → Dt → Dt → List Dt → List Dt → Option (Dt × Bool)) (h8 : ∀ (x0 : List Dt) (x1 x2 : Int) (x3 x4 : Dt) (x5 x6 : List Dt), l24 jn m [1, 0, 1, 0, 1, 1, 1, 0, 1, 1, 0, 1, 0] [] M8 (s24_8 x0 x1 x2 x3 x4 x5 x6) = rec8 x0 x1 x2 x3 x4 x5 x6) (x0 : Int) (x1 : List Dt) (x2 x3 : Int) (x4 x5 : Dt) (x6 x7 : List Dt) (x8 x9 : Dt) : e24 jn m [1, 0, 1, 0, 1, 1, 1, 0, 1, 1, 0, 1, 0, 0, 1, 1, 0, 0, 1, 1, 1] [M8] (s24_11 x0 x1 x2 x3 x4 x5 x6 x7 x8 x9) = schema_rename_j11 m (schema_rename m) rec8 x0 x1 x2 x3 x4 x5 x6 x7 x8 x9 := by
  have h : ∀ J, e24 J m [1, 0, 1, 0, 1, 1, 1, 0, 1, 1, 0, 1, 0, 0, 1, 1, 0, 0, 1, 1, 1] [M8] (s24_11 x0 x1 x2 x3 x4 x5 x6 x7 x8 x9) =
    ((strconv_Itoa x0).bind fun r8 =>
   ((inL x6 x0).bind fun v9 =>
   ((x6[(Int.toNat x0)]?).bind fun v10 =>
   (J 0 24 0 (s24_12 x1 x2 x3 x4 x5 (List.set x6 (Int.toNat x0) (Dt.agg [(Dt.str r8), x9])) (mput x7 (Dt.S x8 0) (Dt.bool true))) (e24 J m [1, 0, 1, 0, 1, 1, 1, 0, 1, 1, 0, 1, 0, 0, 1, 1, 1] [M8] (s24_12 x1 x2 x3 x4 x5 (List.set x6 (Int.toNat x0) (Dt.agg [(Dt.str r8), x9])) (mput x7 (Dt.S x8 0) (Dt.bool true)))))))) := fun J => by kernel_rfl
  exact (h jn).trans (by
    simp only [jn_eq, schema_rename_j12_eq m M8 rec8 h8]
    rfl)
theorem schema_rename_j10_eq (m : Nat) (M8 : Nat) (rec8 : List Dt → Int → Int → Dt → Dt → List Dt → List Dt → Option (Dt × Bool)) (h8 : ∀ (x0 : List Dt) (x1 x2 : Int) (x3 x4 : Dt) (x5 x6 : List Dt), l24 jn m [1, 0, 1, 0, 1, 1, 1, 0, 1, 1, 0, 1, 0] [] M8 (s24_8 x0 x1 x2 x3 x4 x5 x6) = rec8 x0 x1 x2 x3 x4 x5 x6) (x0 : Int) (x1 : List Dt) (x2 x3 : Int) (x4 : Bool) (x5 x6 : Dt) (x7 x8 : List Dt) (x9 x10 : Dt) : e24 jn m [1, 0, 1, 0, 1, 1, 1, 0, 1, 1, 0, 1, 0, 0, 1, 1, 0, 0, 1, 1, 0, 1] [M8] (s24_10 x0 x1 x2 x3 x4 x5 x6 x7 x8 x9 x10) = schema_rename_j10 m (schema_rename m) rec8 x0 x1 x2 x3 x4 x5 x6 x7 x8 x9 x10 := by
  have h : ∀ J, e24 J m [1, 0, 1, 0, 1, 1, 1, 0, 1, 1, 0, 1, 0, 0, 1, 1, 0, 0, 1, 1, 0, 1] [M8] (s24_10 x0 x1 x2 x3 x4 x5 x6 x7 x8 x9 x10) =
    (bif x4 then
   some (kza2373, false)
    else
   (J 0 22 0 (s24_11 x0 x1 x2 x3 x5 x6 x7 x8 x9 x10) (e24 J m [1, 0, 1, 0, 1, 1, 1, 0, 1, 1, 0, 1, 0, 0, 1, 1, 0, 0, 1, 1, 1] [M8] (s24_11 x0 x1 x2 x3 x5 x6 x7 x8 x9 x10)))) := fun J => by kernel_rfl
  exact (h jn).trans (by
    simp only [jn_eq, schema_rename_j11_eq m M8 rec8 h8]
    rfl)
theorem schema_rename_j9_eq (m : Nat) (M8 : Nat) (rec8 : List Dt → Int → Int → Dt → Dt → List Dt → List Dt → Option (Dt × Bool)) (h8 : ∀ (x0 : List Dt) (x1 x2 : Int) (x3 x4 : Dt) (x5 x6 : List Dt), l24 jn m [1, 0, 1, 0, 1, 1, 1, 0, 1, 1, 0, 1, 0] [] M8 (s24_8 x0 x1 x2 x3 x4 x5 x6) = rec8 x0 x1 x2 x3 x4 x5 x6) (x0 : List Dt) (x1 x2 : Int) (x3 x4 : Dt) (x5 x6 : List Dt) : e24 jn m [1, 0, 1, 0, 1, 1, 1, 0, 1, 1, 0, 1, 0, 0, 1, 1] [M8] (s24_9 x0 x1 x2 x3 x4 x5 x6) = schema_rename_j9 m (schema_rename m) rec8 x0 x1 x2 x3 x4 x5 x6 := by
  have h : ∀ J, e24 J m [1, 0, 1, 0, 1, 1, 1, 0, 1, 1, 0, 1, 0, 0, 1, 1] [M8] (s24_9 x0 x1 x2 x3 x4 x5 x6) =
    ((idx x0 x2).bind fun v6 =>
   ((schema_rename m (Dt.fld v6 1)).bind fun r7 =>
   (bif (Bool.not r7.2) then
   (J 0 21 0 (s24_10 x2 x0 x1 x2 true x3 x4 x5 x6 v6 r7.1) (e24 J m [1, 0, 1, 0, 1, 1, 1, 0, 1, 1, 0, 1, 0, 0, 1, 1, 0, 0, 1, 1, 0, 1] [M8] (s24_10 x2 x0 x1 x2 true x3 x4 x5 x6 v6 r7.1)))
   else
   ((schema_isField m (Dt.S v6 0)).bind fun r11 =>
   (bif (Bool.not r11) then
   (J 0 21 0 (s24_10 x2 x0 x1 x2 true x3 x4 x5 x6 v6 r7.1) (e24 J m [1, 0, 1, 0, 1, 1, 1, 0, 1, 1, 0, 1, 0, 0, 1, 1, 0, 0, 1, 1, 0, 1] [M8] (s24_10 x2 x0 x1 x2 true x3 x4 x5 x6 v6 r7.1)))
   else
   (J 0 21 0 (s24_10 x2 x0 x1 x2 (Dt.toBool (mgetD x6 (Dt.S v6 0) (Dt.bool false))) x3 x4 x5 x6 v6 r7.1) (e24 J m [1, 0, 1, 0, 1, 1, 1, 0, 1, 1, 0, 1, 0, 0, 1, 1, 0, 0, 1, 1, 0, 1] [M8] (s24_10 x2 x0 x1 x2 (Dt.toBool (mgetD x6 (Dt.S v6 0) (Dt.bool false))) x3 x4 x5 x6 v6 r7.1)))))))) := fun J => by kernel_rfl
  exact (h jn).trans (by
    simp only [jn_eq, schema_rename_j10_eq m M8 rec8 h8]
    rfl)
theorem schema_rename_j13_eq (m : Nat) (x0 x1 : Dt) (x2 : List Dt) : e24 jn m [1, 0, 1, 0, 1, 1, 1, 0, 1, 1, 1] [] (s24_13 x0 x1 x2) = schema_rename_j13 m (schema_rename m) x0 x1 x2 := by
  have h : ∀ J, e24 J m [1, 0, 1, 0, 1, 1, 1, 0, 1, 1, 1] [] (s24_13 x0 x1 x2) =
    (J 0 26 0 (s24_6 (Dt.agg [(Dt.int (Dt.I x0 0)), (Dt.int (Dt.I x0 1)), (Dt.str (Dt.S x0 2)), (Dt.lst (Dt.L x0 3)), (Dt.lst x2)]) x1) (e24 J m [1, 1] [] (s24_6 (Dt.agg [(Dt.int (Dt.I x0 0)), (Dt.int (Dt.I x0 1)), (Dt.str (Dt.S x0 2)), (Dt.lst (Dt.L x0 3)), (Dt.lst x2)]) x1))) := fun J => by kernel_rfl
  exact (h jn).trans (by
    simp only [jn_eq, schema_rename_j6_eq m]
    rfl)
theorem schema_rename_l8_eq (m : Nat) : ∀ (M8 : Nat) (x0 : List Dt) (x1 x2 : Int) (x3 x4 : Dt) (x5 x6 : List Dt), l24 jn m [1, 0, 1, 0, 1, 1, 1, 0, 1, 1, 0, 1, 0] [] M8 (s24_8 x0 x1 x2 x3 x4 x5 x6) = schema_rename_l8 m (schema_rename m) M8 x0 x1 x2 x3 x4 x5 x6
  | 0, _, _, _, _, _, _, _ => rfl
  | M8 + 1, x0, x1, x2, x3, x4, x5, x6 => by
    have h : ∀ J, l24 J m [1, 0, 1, 0, 1, 1, 1, 0, 1, 1, 0, 1, 0] [] (M8 + 1) (s24_8 x0 x1 x2 x3 x4 x5 x6) =
    (bif (decide (x2 < x1)) then
   (J 0 18 0 (s24_9 x0 x1 x2 x3 x4 x5 x6) (e24 J m [1, 0, 1, 0, 1, 1, 1, 0, 1, 1, 0, 1, 0, 0, 1, 1] [M8] (s24_9 x0 x1 x2 x3 x4 x5 x6)))
    else
   (J 0 25 0 (s24_13 x3 x4 x5) (e24 J m [1, 0, 1, 0, 1, 1, 1, 0, 1, 1, 1] [] (s24_13 x3 x4 x5)))) := fun J => by kernel_rfl
    refine (h jn).trans ?_
    simp only [jn_eq, schema_rename_j9_eq m M8 (schema_rename_l8 m (schema_rename m) M8) (fun x0 x1 x2 x3 x4 x5 x6 => schema_rename_l8_eq m M8 x0 x1 x2 x3 x4 x5 x6), schema_rename_j13_eq m]
    rfl
theorem schema_rename_j7_eq (m : Nat) (x0 : List Dt) (x1 x2 : Int) (x3 x4 : Dt) (x5 x6 : List Dt) : e24 jn m [1, 0, 1, 0, 1, 1, 1, 0, 1, 1, 0, 1] [] (s24_7 x0 x1 x2 x3 x4 x5 x6) = schema_rename_j7 m (schema_rename m) x0 x1 x2 x3 x4 x5 x6 := by
  have h : ∀ J, e24 J m [1, 0, 1, 0, 1, 1, 1, 0, 1, 1, 0, 1] [] (s24_7 x0 x1 x2 x3 x4 x5 x6) =
    (J 1 17 (Nat.succ m) (s24_8 x0 x1 x2 x3 x4 x5 x6) (l24 J m [1, 0, 1, 0, 1, 1, 1, 0, 1, 1, 0, 1, 0] [] (Nat.succ m) (s24_8 x0 x1 x2 x3 x4 x5 x6))) := fun J => by kernel_rfl
  exact (h jn).trans (by
    simp only [jn_eq, schema_rename_l8_eq m]
    rfl)
theorem schema_rename_eq (m : Nat) (a0 : Dt) : e24 jn m [] [] ⟨[(.dat 25 a0)], [], 0⟩ = schema_rename (m + 1) a0 := by
  have h : ∀ J, e24 J m [] [] ⟨[(.dat 25 a0)], [], 0⟩ =
    (bif ((Dt.I a0 0) == 6) then
   ((mkL (List.length (Dt.L a0 3) : Int) (List.length (Dt.L a0 3) : Int) kza2373).bind fun v0 =>
   (J 0 5 0 (s24_0 (Dt.L a0 3) (List.length (Dt.L a0 3) : Int) 0 a0 kza2373 v0) (e24 J m [1, 0, 1, 0, 1, 0, 1, 0, 1] [] (s24_0 (Dt.L a0 3) (List.length (Dt.L a0 3) : Int) 0 a0 kza2373 v0))))
    else
   (bif ((Dt.I a0 0) == 5) then
   ((mkL (List.length (Dt.L a0 4) : Int) (List.length (Dt.L a0 4) : Int) kzcda49).bind fun v5 =>
   (J 0 17 0 (s24_7 (Dt.L a0 4) (List.length (Dt.L a0 4) : Int) 0 a0 kza2373 v5 []) (e24 J m [1, 0, 1, 0, 1, 1, 1, 0, 1, 1, 0, 1] [] (s24_7 (Dt.L a0 4) (List.length (Dt.L a0 4) : Int) 0 a0 kza2373 v5 []))))
   else
   (J 0 26 0 (s24_6 a0 kza2373) (e24 J m [1, 1] [] (s24_6 a0 kza2373))))) := fun J => by kernel_rfl
  refine (h jn).trans ?_
  simp only [jn_eq, schema_rename_j0_eq m, schema_rename_j7_eq m, schema_rename_j6_eq m]
  rfl
noncomputable def d40 (q : Res) : Option Int := match q with
  | (.dat T0 x0, []) => bif Nat.beq T0 3 then some x0.toInt else none
  | _ => none
theorem d40_sim {b : Res} {r : Int} (h : d40 b = some r) : Sim Tryz.prog b ((.dat 3 (.int r)), []) := by
  unfold d40 at h
  split at h
  · obtain ⟨hc, h2⟩ := bif_some h
    cases h2
    have e0 := beq_eq hc
    subst e0
    exact Sim.of (.of (.dat (.int Tryz.underlying3)) rfl rfl) .nil
  · cases h
noncomputable def e40 (J : Nat → Nat → Nat → St → Option Int → Option Int) (m : Nat) (p ms : List Nat) (σ : St) := evAt Tryz.prog env (ct m) J (m + 1) 63 13 Tryz.f63 d40 p ms σ
noncomputable def l40 (J : Nat → Nat → Nat → St → Option Int → Option Int) (m : Nat) (p ms : List Nat) (M : Nat) (σ : St) := loopAt Tryz.prog env (ct m) J (m + 1) 63 13 Tryz.f63 d40 p ms M σ
noncomputable def s40_0 (x0 : Dt) (x1 : Int) : St := ⟨tsOf [(2, (.ptr 0 [] 0)), (3, (.ptr 1 [] 0))], [(.box 25 (.dat 25 x0)), (.box 3 (.dat 3 (.int x1)))], 0⟩
theorem value_depth_j0_eq (m : Nat) (x0 : Dt) (x1 : Int) : e40 jn m [1, 1] [] (s40_0 x0 x1) = value_depth_j0 m (i53 m) x0 x1 := by
  have h : ∀ J, e40 J m [1, 1] [] (s40_0 x0 x1) =
    ((i53 m x0 0 x1).bind fun r0 =>
   some (IntKind.wrap .i64 (1 + r0.1))) := fun J => by kernel_rfl
  exact (h jn).trans (rfl)
theorem value_depth_eq (m : Nat) (a0 : Dt) (a1 : Int) : e40 jn m [] [] ⟨[(.dat 25 a0), (.dat 3 (.int a1))], [], 0⟩ = value_depth (m + 1) a0 a1 := by
  have h : ∀ J, e40 J m [] [] ⟨[(.dat 25 a0), (.dat 3 (.int a1))], [], 0⟩ =
    (bif (a1 == 1) then
   some 1
    else
   (J 0 3 0 (s40_0 a0 a1) (e40 J m [1, 1] [] (s40_0 a0 a1)))) := fun J => by kernel_rfl
  refine (h jn).trans ?_
  simp only [jn_eq, value_depth_j0_eq m]
  rfl
noncomputable def d53 (q : Res) : Option (Int × Int) := match q with
  | (.tup [], [.box T0 (.dat T1 x1), .box T2 (.dat T3 x3)]) => bif (Nat.beq T0 3 && (Nat.beq T1 3 && (Nat.beq T2 3 && Nat.beq T3 3))) then some (x1.toInt, x3.toInt) else none
  | _ => none
theorem d53_sim {b : Res} {r : Int × Int} (h : d53 b = some r) : Sim Tryz.prog b ((.tup []), [(.box 3 (.dat 3 (.int r.1))), (.box 3 (.dat 3 (.int r.2)))]) := by
  unfold d53 at h
  split at h
  · obtain ⟨hc, h2⟩ := bif_some h
    cases h2
    have e0 := beq_eq (and_l hc)
    have e1 := beq_eq (and_l (and_r hc))
    have e2 := beq_eq (and_l (and_r (and_r hc)))
    have e3 := beq_eq (and_r (and_r (and_r hc)))
    subst e0 e1 e2 e3
    exact Sim.of (.tup .nil) (.cons (.box (.dat (.int Tryz.underlying3))) (.cons (.box (.dat (.int Tryz.underlying3))) .nil))
  · cases h
noncomputable def e53 (J : Nat → Nat → Nat → St → Option (Int × Int) → Option (Int × Int)) (m : Nat) (p ms : List Nat) (σ : St) := evAt Tryz.prog env (ct m) J (m + 1) 94 39 Tryz.f94 d53 p ms σ
noncomputable def l53 (J : Nat → Nat → Nat → St → Option (Int × Int) → Option (Int × Int)) (m : Nat) (p ms : List Nat) (M : Nat) (σ : St) := loopAt Tryz.prog env (ct m) J (m + 1) 94 39 Tryz.f94 d53 p ms M σ
noncomputable def s53_3 (x0 : List Dt) (x1 x2 x3 x4 : Int) : St := ⟨tsOf [(1, (.fn 96 [(.ptr 0 [] 0), (.ptr 1 [] 0)])), (13, (.dat 22 (.lst x0))), (14, (.dat 3 (.int x1))), (15, (.dat 3 (.int x2)))], [(.box 3 (.dat 3 (.int x3))), (.box 3 (.dat 3 (.int x4)))], 2⟩
noncomputable def s53_2 (x0 : List Dt) (x1 x2 x3 x4 : Int) : St := ⟨tsOf [(1, (.fn 96 [(.ptr 0 [] 0), (.ptr 1 [] 0)])), (13, (.dat 22 (.lst x0))), (14, (.dat 3 (.int x1))), (15, (.dat 3 (.int x2)))], [(.box 3 (.dat 3 (.int x3))), (.box 3 (.dat 3 (.int x4)))], 2⟩
noncomputable def s53_1 (x0 : List Dt) (x1 x2 x3 x4 : Int) : St := ⟨tsOf [(1, (.fn 96 [(.ptr 0 [] 0), (.ptr 1 [] 0)])), (13, (.dat 22 (.lst x0))), (14, (.dat 3 (.int x1))), (15, (.dat 3 (.int x2)))], [(.box 3 (.dat 3 (.int x3))), (.box 3 (.dat 3 (.int x4)))], 2⟩
noncomputable def s53_0 (x0 : List Dt) (x1 x2 x3 x4 : Int) : St := ⟨tsOf [(1, (.fn 96 [(.ptr 0 [] 0), (.ptr 1 [] 0)])), (13, (.dat 22 (.lst x0))), (14, (.dat 3 (.int x1))), (15, (.dat 3 (.int x2)))], [(.box 3 (.dat 3 (.int x3))), (.box 3 (.dat 3 (.int x4)))], 2⟩
noncomputable def s53_7 (x0 : List Dt) (x1 x2 x3 x4 : Int) : St := ⟨tsOf [(1, (.fn 96 [(.ptr 0 [] 0), (.ptr 1 [] 0)])), (27, (.dat 23 (.lst x0))), (28, (.dat 3 (.int x1))), (29, (.dat 3 (.int x2)))], [(.box 3 (.dat 3 (.int x3))), (.box 3 (.dat 3 (.int x4)))], 2⟩
noncomputable def s53_6 (x0 : List Dt) (x1 x2 x3 x4 : Int) : St := ⟨tsOf [(1, (.fn 96 [(.ptr 0 [] 0), (.ptr 1 [] 0)])), (27, (.dat 23 (.lst x0))), (28, (.dat 3 (.int x1))), (29, (.dat 3 (.int x2)))], [(.box 3 (.dat 3 (.int x3))), (.box 3 (.dat 3 (.int x4)))], 2⟩
noncomputable def s53_5 (x0 : List Dt) (x1 x2 x3 x4 : Int) : St := ⟨tsOf [(1, (.fn 96 [(.ptr 0 [] 0), (.ptr 1 [] 0)])), (27, (.dat 23 (.lst x0))), (28, (.dat 3 (.int x1))), (29, (.dat 3 (.int x2)))], [(.box 3 (.dat 3 (.int x3))), (.box 3 (.dat 3 (.int x4)))], 2⟩
noncomputable def s53_4 (x0 : List Dt) (x1 x2 x3 x4 : Int) : St := ⟨tsOf [(1, (.fn 96 [(.ptr 0 [] 0), (.ptr 1 [] 0)])), (27, (.dat 23 (.lst x0))), (28, (.dat 3 (.int x1))), (29, (.dat 3 (.int x2)))], [(.box 3 (.dat 3 (.int x3))), (.box 3 (.dat 3 (.int x4)))], 2⟩
theorem i53_j3_eq (m : Nat) (M1 : Nat) (rec1 : List Dt → Int → Int → Int → Int → Option (Int × Int)) (h1 : ∀ (x0 : List Dt) (x1 x2 x3 x4 : Int), l53 jn m [1, 1, 0, 1, 0, 1, 0] [] M1 (s53_1 x0 x1 x2 x3 x4) = rec1 x0 x1 x2 x3 x4) (x0 : List Dt) (x1 x2 x3 x4 : Int) : e53 jn m [1, 1, 0, 1, 0, 1, 0, 0, 1, 1, 1] [M1] (s53_3 x0 x1 x2 x3 x4) = i53_j3 m (i54 m) rec1 x0 x1 x2 x3 x4 := by
  have h : ∀ J, e53 J m [1, 1, 0, 1, 0, 1, 0, 0, 1, 1, 1] [M1] (s53_3 x0 x1 x2 x3 x4) =
    (J 1 4 M1 (s53_1 x0 x1 (IntKind.wrap .i64 (x2 + 1)) x3 x4) (l53 J m [1, 1, 0, 1, 0, 1, 0] [] M1 (s53_1 x0 x1 (IntKind.wrap .i64 (x2 + 1)) x3 x4))) := fun J => by kernel_rfl
  exact (h jn).trans (by
    simp only [jn_eq, h1]
    rfl)
theorem i53_j2_eq (m : Nat) (M1 : Nat) (rec1 : List Dt → Int → Int → Int → Int → Option (Int × Int)) (h1 : ∀ (x0 : List Dt) (x1 x2 x3 x4 : Int), l53 jn m [1, 1, 0, 1, 0, 1, 0] [] M1 (s53_1 x0 x1 x2 x3 x4) = rec1 x0 x1 x2 x3 x4) (x0 : List Dt) (x1 x2 x3 x4 : Int) : e53 jn m [1, 1, 0, 1, 0, 1, 0, 0, 1, 1] [M1] (s53_2 x0 x1 x2 x3 x4) = i53_j2 m (i54 m) rec1 x0 x1 x2 x3 x4 := by
  have h : ∀ J, e53 J m [1, 1, 0, 1, 0, 1, 0, 0, 1, 1] [M1] (s53_2 x0 x1 x2 x3 x4) =
    ((idx x0 x2).bind fun v0 =>
   ((i54 m v0 x3 x4).bind fun r1 =>
   (bif (Bool.not r1.1) then
   some (r1.2.1, r1.2.2)
   else
   (J 0 7 0 (s53_3 x0 x1 x2 r1.2.1 r1.2.2) (e53 J m [1, 1, 0, 1, 0, 1, 0, 0, 1, 1, 1] [M1] (s53_3 x0 x1 x2 r1.2.1 r1.2.2)))))) := fun J => by kernel_rfl
  exact (h jn).trans (by
    simp only [jn_eq, i53_j3_eq m M1 rec1 h1]
    rfl)
theorem i53_l1_eq (m : Nat) : ∀ (M1 : Nat) (x0 : List Dt) (x1 x2 x3 x4 : Int), l53 jn m [1, 1, 0, 1, 0, 1, 0] [] M1 (s53_1 x0 x1 x2 x3 x4) = i53_l1 m (i54 m) M1 x0 x1 x2 x3 x4
  | 0, _, _, _, _, _ => rfl
  | M1 + 1, x0, x1, x2, x3, x4 => by
    have h : ∀ J, l53 J m [1, 1, 0, 1, 0, 1, 0] [] (M1 + 1) (s53_1 x0 x1 x2 x3 x4) =
    (bif (decide (x2 < x1)) then
   (J 0 5 0 (s53_2 x0 x1 x2 x3 x4) (e53 J m [1, 1, 0, 1, 0, 1, 0, 0, 1, 1] [M1] (s53_2 x0 x1 x2 x3 x4)))
    else
   some (x3, x4)) := fun J => by kernel_rfl
    refine (h jn).trans ?_
    simp only [jn_eq, i53_j2_eq m M1 (i53_l1 m (i54 m) M1) (fun x0 x1 x2 x3 x4 => i53_l1_eq m M1 x0 x1 x2 x3 x4)]
    rfl
theorem i53_j0_eq (m : Nat) (x0 : List Dt) (x1 x2 x3 x4 : Int) : e53 jn m [1, 1, 0, 1, 0, 1] [] (s53_0 x0 x1 x2 x3 x4) = i53_j0 m (i54 m) x0 x1 x2 x3 x4 := by
  have h : ∀ J, e53 J m [1, 1, 0, 1, 0, 1] [] (s53_0 x0 x1 x2 x3 x4) =
    (J 1 4 (Nat.succ m) (s53_1 x0 x1 x2 x3 x4) (l53 J m [1, 1, 0, 1, 0, 1, 0] [] (Nat.succ m) (s53_1 x0 x1 x2 x3 x4))) := fun J => by kernel_rfl
  exact (h jn).trans (by
    simp only [jn_eq, i53_l1_eq m]
    rfl)
theorem i53_j7_eq (m : Nat) (M5 : Nat) (rec5 : List Dt → Int → Int → Int → Int → Option (Int × Int)) (h5 : ∀ (x0 : List Dt) (x1 x2 x3 x4 : Int), l53 jn m [1, 1, 0, 1, 1, 1, 0, 1, 0] [] M5 (s53_5 x0 x1 x2 x3 x4) = rec5 x0 x1 x2 x3 x4) (x0 : List Dt) (x1 x2 x3 x4 : Int) : e53 jn m [1, 1, 0, 1, 1, 1, 0, 1, 0, 0, 1, 1, 1] [M5] (s53_7 x0 x1 x2 x3 x4) = i53_j7 m (i54 m) rec5 x0 x1 x2 x3 x4 := by
  have h : ∀ J, e53 J m [1, 1, 0, 1, 1, 1, 0, 1, 0, 0, 1, 1, 1] [M5] (s53_7 x0 x1 x2 x3 x4) =
    (J 1 10 M5 (s53_5 x0 x1 (IntKind.wrap .i64 (x2 + 1)) x3 x4) (l53 J m [1, 1, 0, 1, 1, 1, 0, 1, 0] [] M5 (s53_5 x0 x1 (IntKind.wrap .i64 (x2 + 1)) x3 x4))) := fun J => by kernel_rfl
  exact (h jn).trans (by
    simp only [jn_eq, h5]
    rfl)
theorem i53_j6_eq (m : Nat) (M5 : Nat) (rec5 : List Dt → Int → Int → Int → Int → Option (Int × Int)) (h5 : ∀ (x0 : List Dt) (x1 x2 x3 x4 : Int), l53 jn m [1, 1, 0, 1, 1, 1, 0, 1, 0] [] M5 (s53_5 x0 x1 x2 x3 x4) = rec5 x0 x1 x2 x3 x4) (x0 : List Dt) (x1 x2 x3 x4 : Int) : e53 jn m [1, 1, 0, 1, 1, 1, 0, 1, 0, 0, 1, 1] [M5] (s53_6 x0 x1 x2 x3 x4) = i53_j6 m (i54 m) rec5 x0 x1 x2 x3 x4 := by
  have h : ∀ J, e53 J m [1, 1, 0, 1, 1, 1, 0, 1, 0, 0, 1, 1] [M5] (s53_6 x0 x1 x2 x3 x4) =
    ((idx x0 x2).bind fun v2 =>
   ((i54 m (Dt.fld v2 1) x3 x4).bind fun r3 =>
   (bif (Bool.not r3.1) then
   some (r3.2.1, r3.2.2)
   else
   (J 0 13 0 (s53_7 x0 x1 x2 r3.2.1 r3.2.2) (e53 J m [1, 1, 0, 1, 1, 1, 0, 1, 0, 0, 1, 1, 1] [M5] (s53_7 x0 x1 x2 r3.2.1 r3.2.2)))))) := fun J => by kernel_rfl
  exact (h jn).trans (by
    simp only [jn_eq, i53_j7_eq m M5 rec5 h5]
    rfl)
theorem i53_l5_eq (m : Nat) : ∀ (M5 : Nat) (x0 : List Dt) (x1 x2 x3 x4 : Int), l53 jn m [1, 1, 0, 1, 1, 1, 0, 1, 0] [] M5 (s53_5 x0 x1 x2 x3 x4) = i53_l5 m (i54 m) M5 x0 x1 x2 x3 x4
  | 0, _, _, _, _, _ => rfl
  | M5 + 1, x0, x1, x2, x3, x4 => by
    have h : ∀ J, l53 J m [1, 1, 0, 1, 1, 1, 0, 1, 0] [] (M5 + 1) (s53_5 x0 x1 x2 x3 x4) =
    (bif (decide (x2 < x1)) then
   (J 0 11 0 (s53_6 x0 x1 x2 x3 x4) (e53 J m [1, 1, 0, 1, 1, 1, 0, 1, 0, 0, 1, 1] [M5] (s53_6 x0 x1 x2 x3 x4)))
    else
   some (x3, x4)) := fun J => by kernel_rfl
    refine (h jn).trans ?_
    simp only [jn_eq, i53_j6_eq m M5 (i53_l5 m (i54 m) M5) (fun x0 x1 x2 x3 x4 => i53_l5_eq m M5 x0 x1 x2 x3 x4)]
    rfl
theorem i53_j4_eq (m : Nat) (x0 : List Dt) (x1 x2 x3 x4 : Int) : e53 jn m [1, 1, 0, 1, 1, 1, 0, 1] [] (s53_4 x0 x1 x2 x3 x4) = i53_j4 m (i54 m) x0 x1 x2 x3 x4 := by
  have h : ∀ J, e53 J m [1, 1, 0, 1, 1, 1, 0, 1] [] (s53_4 x0 x1 x2 x3 x4) =
    (J 1 10 (Nat.succ m) (s53_5 x0 x1 x2 x3 x4) (l53 J m [1, 1, 0, 1, 1, 1, 0, 1, 0] [] (Nat.succ m) (s53_5 x0 x1 x2 x3 x4))) := fun J => by kernel_rfl
  exact (h jn).trans (by
    simp only [jn_eq, i53_l5_eq m]
    rfl)
theorem i53_eq (m : Nat) (a0 : Dt) (a1 a2 : Int) : e53 jn m [] [] ⟨[(.dat 25 a0), (.fn 96 [(.ptr 0 [] 0), (.ptr 1 [] 0)])], [(.box 3 (.dat 3 (.int a1))), (.box 3 (.dat 3 (.int a2)))], 2⟩ = i53 (m + 1) a0 a1 a2 := by
  have h : ∀ J, e53 J m [] [] ⟨[(.dat 25 a0), (.fn 96 [(.ptr 0 [] 0), (.ptr 1 [] 0)])], [(.box 3 (.dat 3 (.int a1))), (.box 3 (.dat 3 (.int a2)))], 2⟩ =
    (bif ((Dt.I a0 0) == 6) then
   (J 0 4 0 (s53_0 (Dt.L a0 3) (List.length (Dt.L a0 3) : Int) 0 a1 a2) (e53 J m [1, 1, 0, 1, 0, 1] [] (s53_0 (Dt.L a0 3) (List.length (Dt.L a0 3) : Int) 0 a1 a2)))
    else
   (bif ((Dt.I a0 0) == 5) then
   (J 0 10 0 (s53_4 (Dt.L a0 4) (List.length (Dt.L a0 4) : Int) 0 a1 a2) (e53 J m [1, 1, 0, 1, 1, 1, 0, 1] [] (s53_4 (Dt.L a0 4) (List.length (Dt.L a0 4) : Int) 0 a1 a2)))
   else
   some (a1, a2))) := fun J => by kernel_rfl
  refine (h jn).trans ?_
  simp only [jn_eq, i53_j0_eq m, i53_j4_eq m]
  rfl
noncomputable def d54 (q : Res) : Option (Bool × Int × Int) := match q with
  | (.dat T0 x0, [.box T1 (.dat T2 x2), .box T3 (.dat T4 x4)]) => bif (Nat.beq T0 4 && (Nat.beq T1 3 && (Nat.beq T2 3 && (Nat.beq T3 3 && Nat.beq T4 3)))) then some (x0.toBool, x2.toInt, x4.toInt) else none
  | _ => none
theorem d54_sim {b : Res} {r : Bool × Int × Int} (h : d54 b = some r) : Sim Tryz.prog b ((.dat 4 (.bool r.1)), [(.box 3 (.dat 3 (.int r.2.1))), (.box 3 (.dat 3 (.int r.2.2)))]) := by
  unfold d54 at h
  split at h
  · obtain ⟨hc, h2⟩ := bif_some h
    cases h2
    have e0 := beq_eq (and_l hc)
    have e1 := beq_eq (and_l (and_r hc))
    have e2 := beq_eq (and_l (and_r (and_r hc)))
    have e3 := beq_eq (and_l (and_r (and_r (and_r hc))))
    have e4 := beq_eq (and_r (and_r (and_r (and_r hc))))
    subst e0 e1 e2 e3 e4
    exact Sim.of (.of (.dat (.bool Tryz.underlying4)) rfl rfl) (.cons (.box (.dat (.int Tryz.underlying3))) (.cons (.box (.dat (.int Tryz.underlying3))) .nil))
  · cases h
noncomputable def e54 (J : Nat → Nat → Nat → St → Option (Bool × Int × Int) → Option (Bool × Int × Int)) (m : Nat) (p ms : List Nat) (σ : St) := evAt Tryz.prog env (ct m) J (m + 1) 96 15 Tryz.f96 d54 p ms σ
noncomputable def l54 (J : Nat → Nat → Nat → St → Option (Bool × Int × Int) → Option (Bool × Int × Int)) (m : Nat) (p ms : List Nat) (M : Nat) (σ : St) := loopAt Tryz.prog env (ct m) J (m + 1) 96 15 Tryz.f96 d54 p ms M σ
theorem i54_eq (m : Nat) (a0 : Dt) (a1 a2 : Int) : e54 jn m [] [] ⟨[(.dat 25 a0), (.ptr 0 [] 0), (.ptr 1 [] 0)], [(.box 3 (.dat 3 (.int a1))), (.box 3 (.dat 3 (.int a2)))], 2⟩ = i54 (m + 1) a0 a1 a2 := by
  have h : ∀ J, e54 J m [] [] ⟨[(.dat 25 a0), (.ptr 0 [] 0), (.ptr 1 [] 0)], [(.box 3 (.dat 3 (.int a1))), (.box 3 (.dat 3 (.int a2)))], 2⟩ =
    ((value_depth m a0 (IntKind.wrap .i64 (a2 - 1))).bind fun r0 =>
   some ((decide ((bif (decide (a1 < r0)) then r0 else a1) < (IntKind.wrap .i64 (a2 - 1)))), (bif (decide (a1 < r0)) then r0 else a1), a2)) := fun J => by kernel_rfl
  refine (h jn).trans ?_
  
  rfl
noncomputable def d26 (q : Res) : Option Int := match q with
  | (.dat T0 x0, []) => bif Nat.beq T0 3 then some x0.toInt else none
  | _ => none
theorem d26_sim {b : Res} {r : Int} (h : d26 b = some r) : Sim Tryz.prog b ((.dat 3 (.int r)), []) := by
  unfold d26 at h
  split at h
  · obtain ⟨hc, h2⟩ := bif_some h
    cases h2
    have e0 := beq_eq hc
    subst e0
    exact Sim.of (.of (.dat (.int Tryz.underlying3)) rfl rfl) .nil
  · cases h
noncomputable def e26 (J : Nat → Nat → Nat → St → Option Int → Option Int) (m : Nat) (p ms : List Nat) (σ : St) := evAt Tryz.prog env (ct m) J (m + 1) 34 5 Tryz.f34 d26 p ms σ
noncomputable def l26 (J : Nat → Nat → Nat → St → Option Int → Option Int) (m : Nat) (p ms : List Nat) (M : Nat) (σ : St) := loopAt Tryz.prog env (ct m) J (m + 1) 34 5 Tryz.f34 d26 p ms M σ
theorem value_Depth_eq (m : Nat) (a0 : Dt) : e26 jn m [] [] ⟨[(.dat 25 a0)], [], 0⟩ = value_Depth (m + 1) a0 := by
  have h : ∀ J, e26 J m [] [] ⟨[(.dat 25 a0)], [], 0⟩ =
    ((value_depth m a0 17).bind fun r0 =>
   some r0) := fun J => by kernel_rfl
  refine (h jn).trans ?_
  
  rfl
noncomputable def d42 (q : Res) : Option (List Dt × Bool) := match q with
  | (.tup [.dat T0 x0, .dat T1 x1], []) => bif (Nat.beq T0 28 && Nat.beq T1 4) then some (x0.toLst, x1.toBool) else none
  | _ => none
theorem d42_sim {b : Res} {r : List Dt × Bool} (h : d42 b = some r) : Sim Tryz.prog b ((.tup [(.dat 28 (.lst r.1)), (.dat 4 (.bool r.2))]), []) := by
  unfold d42 at h
  split at h
  · obtain ⟨hc, h2⟩ := bif_some h
    cases h2
    have e0 := beq_eq (and_l hc)
    have e1 := beq_eq (and_r hc)
    subst e0 e1
    exact Sim.of (.tup (.cons (.dat (.lst Tryz.underlying28)) (.cons (.dat (.bool Tryz.underlying4)) .nil))) .nil
  · cases h
noncomputable def e42 (J : Nat → Nat → Nat → St → Option (List Dt × Bool) → Option (List Dt × Bool)) (m : Nat) (p ms : List Nat) (σ : St) := evAt Tryz.prog env (ct m) J (m + 1) 75 33 Tryz.f75 d42 p ms σ
noncomputable def l42 (J : Nat → Nat → Nat → St → Option (List Dt × Bool) → Option (List Dt × Bool)) (m : Nat) (p ms : List Nat) (M : Nat) (σ : St) := loopAt Tryz.prog env (ct m) J (m + 1) 75 33 Tryz.f75 d42 p ms M σ
noncomputable def s42_5 (x0 : Int) (x1 : Dt) (x2 : List Dt) : St := ⟨tsOf [(1, (.ptr 0 [] 0)), (4, (.row 1)), (5, (.dat 3 (.int x0)))], [(.box 25 (.dat 25 x1)), (.row 28 x2)], 0⟩
noncomputable def s42_4 (x0 : Int) (x1 : Dt) (x2 : List Dt) : St := ⟨tsOf [(1, (.ptr 0 [] 0)), (4, (.row 1)), (5, (.dat 3 (.int x0)))], [(.box 25 (.dat 25 x1)), (.row 28 x2)], 0⟩
noncomputable def s42_3 (x0 : Int) (x1 : Dt) (x2 : List Dt) : St := ⟨tsOf [(1, (.ptr 0 [] 0)), (4, (.row 1)), (5, (.dat 3 (.int x0)))], [(.box 25 (.dat 25 x1)), (.row 28 x2)], 0⟩
noncomputable def s42_6 (x0 : List Dt) : St := ⟨tsOf [(4, (.row 0))], [(.row 28 x0)], 0⟩
noncomputable def s42_2 (x0 : Int) (x1 : Dt) (x2 : List Dt) : St := ⟨tsOf [(1, (.ptr 0 [] 0)), (4, (.row 1)), (5, (.dat 3 (.int x0)))], [(.box 25 (.dat 25 x1)), (.row 28 x2)], 0⟩
noncomputable def s42_1 (x0 : Int) (x1 : Dt) (x2 : List Dt) : St := ⟨tsOf [(1, (.ptr 0 [] 0)), (4, (.row 1)), (5, (.dat 3 (.int x0)))], [(.box 25 (.dat 25 x1)), (.row 28 x2)], 0⟩
noncomputable def s42_0 (x0 : Dt) : St := ⟨tsOf [(1, (.ptr 0 [] 0))], [(.box 25 (.dat 25 x0))], 0⟩
theorem ref14_texts_j5_eq (m : Nat) (M2 : Nat) (rec2 : Int → Dt → List Dt → Option (List Dt × Bool)) (h2 : ∀ (x0 : Int) (x1 : Dt) (x2 : List Dt), l42 jn m [1, 1, 1, 0, 1, 0] [] M2 (s42_2 x0 x1 x2) = rec2 x0 x1 x2) (x0 : Int) (x1 : Dt) (x2 : List Dt) : e42 jn m [1, 1, 1, 0, 1, 0, 0, 1, 1] [M2] (s42_5 x0 x1 x2) = ref14_texts_j5 m rec2 x0 x1 x2 := by
  have h : ∀ J, e42 J m [1, 1, 1, 0, 1, 0, 0, 1, 1] [M2] (s42_5 x0 x1 x2) =
    (J 1 5 M2 (s42_2 (IntKind.wrap .i64 (x0 + 1)) x1 x2) (l42 J m [1, 1, 1, 0, 1, 0] [] M2 (s42_2 (IntKind.wrap .i64 (x0 + 1)) x1 x2))) := fun J => by kernel_rfl
  exact (h jn).trans (by
    simp only [jn_eq, h2]
    rfl)
theorem ref14_texts_j4_eq (m : Nat) (M2 : Nat) (rec2 : Int → Dt → List Dt → Option (List Dt × Bool)) (h2 : ∀ (x0 : Int) (x1 : Dt) (x2 : List Dt), l42 jn m [1, 1, 1, 0, 1, 0] [] M2 (s42_2 x0 x1 x2) = rec2 x0 x1 x2) (x0 : Int) (x1 : Dt) (x2 : List Dt) : e42 jn m [1, 1, 1, 0, 1, 0, 0, 1, 0, 0, 1] [M2] (s42_4 x0 x1 x2) = ref14_texts_j4 m rec2 x0 x1 x2 := by
  have h : ∀ J, e42 J m [1, 1, 1, 0, 1, 0, 0, 1, 0, 0, 1] [M2] (s42_4 x0 x1 x2) =
    ((idx (Dt.L x1 3) x0).bind fun v1 =>
   ((app x2 [(Dt.str (Dt.S v1 2))]).bind fun v2 =>
   (J 0 6 0 (s42_5 x0 x1 v2) (e42 J m [1, 1, 1, 0, 1, 0, 0, 1, 1] [M2] (s42_5 x0 x1 v2))))) := fun J => by kernel_rfl
  exact (h jn).trans (by
    simp only [jn_eq, ref14_texts_j5_eq m M2 rec2 h2]
    rfl)
theorem ref14_texts_j3_eq (m : Nat) (M2 : Nat) (rec2 : Int → Dt → List Dt → Option (List Dt × Bool)) (h2 : ∀ (x0 : Int) (x1 : Dt) (x2 : List Dt), l42 jn m [1, 1, 1, 0, 1, 0] [] M2 (s42_2 x0 x1 x2) = rec2 x0 x1 x2) (x0 : Int) (x1 : Dt) (x2 : List Dt) : e42 jn m [1, 1, 1, 0, 1, 0, 0, 1] [M2] (s42_3 x0 x1 x2) = ref14_texts_j3 m rec2 x0 x1 x2 := by
  have h : ∀ J, e42 J m [1, 1, 1, 0, 1, 0, 0, 1] [M2] (s42_3 x0 x1 x2) =
    ((idx (Dt.L x1 3) x0).bind fun v0 =>
   (bif ((Dt.I v0 0) != 4) then
   some ([], false)
   else
   (J 0 9 0 (s42_4 x0 x1 x2) (e42 J m [1, 1, 1, 0, 1, 0, 0, 1, 0, 0, 1] [M2] (s42_4 x0 x1 x2))))) := fun J => by kernel_rfl
  exact (h jn).trans (by
    simp only [jn_eq, ref14_texts_j4_eq m M2 rec2 h2]
    rfl)
theorem ref14_texts_j6_eq (m : Nat) (x0 : List Dt) : e42 jn m [1, 1, 1, 1] [] (s42_6 x0) = ref14_texts_j6 m x0 := by
  have h : ∀ J, e42 J m [1, 1, 1, 1] [] (s42_6 x0) =
    some (x0, true) := fun J => by kernel_rfl
  exact (h jn).trans (rfl)
theorem ref14_texts_l2_eq (m : Nat) : ∀ (M2 : Nat) (x0 : Int) (x1 : Dt) (x2 : List Dt), l42 jn m [1, 1, 1, 0, 1, 0] [] M2 (s42_2 x0 x1 x2) = ref14_texts_l2 m M2 x0 x1 x2
  | 0, _, _, _ => rfl
  | M2 + 1, x0, x1, x2 => by
    have h : ∀ J, l42 J m [1, 1, 1, 0, 1, 0] [] (M2 + 1) (s42_2 x0 x1 x2) =
    (bif (decide (x0 < (List.length (Dt.L x1 3) : Int))) then
   (J 0 7 0 (s42_3 x0 x1 x2) (e42 J m [1, 1, 1, 0, 1, 0, 0, 1] [M2] (s42_3 x0 x1 x2)))
    else
   (J 0 10 0 (s42_6 x2) (e42 J m [1, 1, 1, 1] [] (s42_6 x2)))) := fun J => by kernel_rfl
    refine (h jn).trans ?_
    simp only [jn_eq, ref14_texts_j3_eq m M2 (ref14_texts_l2 m M2) (fun x0 x1 x2 => ref14_texts_l2_eq m M2 x0 x1 x2), ref14_texts_j6_eq m]
    rfl
theorem ref14_texts_j1_eq (m : Nat) (x0 : Int) (x1 : Dt) (x2 : List Dt) : e42 jn m [1, 1, 1, 0, 1] [] (s42_1 x0 x1 x2) = ref14_texts_j1 m x0 x1 x2 := by
  have h : ∀ J, e42 J m [1, 1, 1, 0, 1] [] (s42_1 x0 x1 x2) =
    (J 1 5 (Nat.succ m) (s42_2 x0 x1 x2) (l42 J m [1, 1, 1, 0, 1, 0] [] (Nat.succ m) (s42_2 x0 x1 x2))) := fun J => by kernel_rfl
  exact (h jn).trans (by
    simp only [jn_eq, ref14_texts_l2_eq m]
    rfl)
theorem ref14_texts_j0_eq (m : Nat) (x0 : Dt) : e42 jn m [1, 1] [] (s42_0 x0) = ref14_texts_j0 m x0 := by
  have h : ∀ J, e42 J m [1, 1] [] (s42_0 x0) =
    (J 0 5 0 (s42_1 0 x0 []) (e42 J m [1, 1, 1, 0, 1] [] (s42_1 0 x0 []))) := fun J => by kernel_rfl
  exact (h jn).trans (by
    simp only [jn_eq, ref14_texts_j1_eq m]
    rfl)
theorem ref14_texts_eq (m : Nat) (a0 : Dt) : e42 jn m [] [] ⟨[(.dat 25 a0)], [], 0⟩ = ref14_texts (m + 1) a0 := by
  have h : ∀ J, e42 J m [] [] ⟨[(.dat 25 a0)], [], 0⟩ =
    (bif ((Dt.I a0 0) != 6) then
   some ([], false)
    else
   (J 0 3 0 (s42_0 a0) (e42 J m [1, 1] [] (s42_0 a0)))) := fun J => by kernel_rfl
  refine (h jn).trans ?_
  simp only [jn_eq, ref14_texts_j0_eq m]
  rfl
noncomputable def d55 (q : Res) : Option Int := match q with
  | (.dat T0 x0, []) => bif Nat.beq T0 3 then some x0.toInt else none
  | _ => none
theorem d55_sim {b : Res} {r : Int} (h : d55 b = some r) : Sim Tryz.prog b ((.dat 3 (.int r)), []) := by
  unfold d55 at h
  split at h
  · obtain ⟨hc, h2⟩ := bif_some h
    cases h2
    have e0 := beq_eq hc
    subst e0
    exact Sim.of (.of (.dat (.int Tryz.underlying3)) rfl rfl) .nil
  · cases h
noncomputable def e55 (J : Nat → Nat → Nat → St → Option Int → Option Int) (m : Nat) (p ms : List Nat) (σ : St) := evAt Tryz.prog env (ct m) J (m + 1) 104 25 Tryz.f104 d55 p ms σ
noncomputable def l55 (J : Nat → Nat → Nat → St → Option Int → Option Int) (m : Nat) (p ms : List Nat) (M : Nat) (σ : St) := loopAt Tryz.prog env (ct m) J (m + 1) 104 25 Tryz.f104 d55 p ms M σ
noncomputable def s55_4 (x0 : List Dt) (x1 : Int) (x2 : Dt) : St := ⟨tsOf [(1, (.ptr 0 [] 0)), (3, (.dat 28 (.lst x0))), (4, (.dat 3 (.int x1)))], [(.box 25 (.dat 25 x2))], 0⟩
noncomputable def s55_3 (x0 : List Dt) (x1 : Int) (x2 : Bool) (x3 : Dt) : St := ⟨tsOf [(1, (.ptr 0 [] 0)), (3, (.dat 28 (.lst x0))), (4, (.dat 3 (.int x1))), (23, (.dat 4 (.bool x2)))], [(.box 25 (.dat 25 x3))], 0⟩
noncomputable def s55_2 (x0 : List Dt) (x1 : Int) (x2 : Dt) : St := ⟨tsOf [(1, (.ptr 0 [] 0)), (3, (.dat 28 (.lst x0))), (4, (.dat 3 (.int x1)))], [(.box 25 (.dat 25 x2))], 0⟩
noncomputable def s55_5 : St := ⟨tsOf [], [], 0⟩
noncomputable def s55_1 (x0 : List Dt) (x1 : Int) (x2 : Dt) : St := ⟨tsOf [(1, (.ptr 0 [] 0)), (3, (.dat 28 (.lst x0))), (4, (.dat 3 (.int x1)))], [(.box 25 (.dat 25 x2))], 0⟩
noncomputable def s55_0 (x0 : List Dt) (x1 : Int) (x2 : Dt) : St := ⟨tsOf [(1, (.ptr 0 [] 0)), (3, (.dat 28 (.lst x0))), (4, (.dat 3 (.int x1)))], [(.box 25 (.dat 25 x2))], 0⟩
theorem ref14_kind_j4_eq (m : Nat) (M1 : Nat) (rec1 : List Dt → Int → Dt → Option Int) (h1 : ∀ (x0 : List Dt) (x1 : Int) (x2 : Dt), l55 jn m [1, 1, 0, 1, 0] [] M1 (s55_1 x0 x1 x2) = rec1 x0 x1 x2) (x0 : List Dt) (x1 : Int) (x2 : Dt) : e55 jn m [1, 1, 0, 1, 0, 0, 1, 1] [M1] (s55_4 x0 x1 x2) = ref14_kind_j4 m rec1 x0 x1 x2 := by
  have h : ∀ J, e55 J m [1, 1, 0, 1, 0, 0, 1, 1] [M1] (s55_4 x0 x1 x2) =
    (J 1 3 M1 (s55_1 x0 (IntKind.wrap .i64 (x1 + 1)) x2) (l55 J m [1, 1, 0, 1, 0] [] M1 (s55_1 x0 (IntKind.wrap .i64 (x1 + 1)) x2))) := fun J => by kernel_rfl
  exact (h jn).trans (by
    simp only [jn_eq, h1]
    rfl)
theorem ref14_kind_j3_eq (m : Nat) (M1 : Nat) (rec1 : List Dt → Int → Dt → Option Int) (h1 : ∀ (x0 : List Dt) (x1 : Int) (x2 : Dt), l55 jn m [1, 1, 0, 1, 0] [] M1 (s55_1 x0 x1 x2) = rec1 x0 x1 x2) (x0 : List Dt) (x1 : Int) (x2 : Bool) (x3 : Dt) : e55 jn m [1, 1, 0, 1, 0, 0, 1, 0, 0, 1] [M1] (s55_3 x0 x1 x2 x3) = ref14_kind_j3 m rec1 x0 x1 x2 x3 := by
  have h : ∀ J, e55 J m [1, 1, 0, 1, 0, 0, 1, 0, 0, 1] [M1] (s55_3 x0 x1 x2 x3) =
    (bif x2 then
   some x1
    else
   (J 0 4 0 (s55_4 x0 x1 x3) (e55 J m [1, 1, 0, 1, 0, 0, 1, 1] [M1] (s55_4 x0 x1 x3)))) := fun J => by kernel_rfl
  exact (h jn).trans (by
    simp only [jn_eq, ref14_kind_j4_eq m M1 rec1 h1]
    rfl)
theorem ref14_kind_j2_eq (m : Nat) (M1 : Nat) (rec1 : List Dt → Int → Dt → Option Int) (h1 : ∀ (x0 : List Dt) (x1 : Int) (x2 : Dt), l55 jn m [1, 1, 0, 1, 0] [] M1 (s55_1 x0 x1 x2) = rec1 x0 x1 x2) (x0 : List Dt) (x1 : Int) (x2 : Dt) : e55 jn m [1, 1, 0, 1, 0, 0, 1] [M1] (s55_2 x0 x1 x2) = ref14_kind_j2 m rec1 x0 x1 x2 := by
  have h : ∀ J, e55 J m [1, 1, 0, 1, 0, 0, 1] [M1] (s55_2 x0 x1 x2) =
    (bif ((Dt.I x2 0) == 4) then
   ((idx x0 x1).bind fun v0 =>
   (J 0 6 0 (s55_3 x0 x1 ((ByteArray.toList (Dt.S x2 2)) == (ByteArray.toList (Dt.toStr v0))) x2) (e55 J m [1, 1, 0, 1, 0, 0, 1, 0, 0, 1] [M1] (s55_3 x0 x1 ((ByteArray.toList (Dt.S x2 2)) == (ByteArray.toList (Dt.toStr v0))) x2))))
    else
   (J 0 6 0 (s55_3 x0 x1 false x2) (e55 J m [1, 1, 0, 1, 0, 0, 1, 0, 0, 1] [M1] (s55_3 x0 x1 false x2)))) := fun J => by kernel_rfl
  exact (h jn).trans (by
    simp only [jn_eq, ref14_kind_j3_eq m M1 rec1 h1]
    rfl)
theorem ref14_kind_j5_eq (m : Nat) : e55 jn m [1, 1, 1] [] s55_5 = ref14_kind_j5 m := by
  have h : ∀ J, e55 J m [1, 1, 1] [] s55_5 =
    some 0 := fun J => by kernel_rfl
  exact (h jn).trans (rfl)
theorem ref14_kind_l1_eq (m : Nat) : ∀ (M1 : Nat) (x0 : List Dt) (x1 : Int) (x2 : Dt), l55 jn m [1, 1, 0, 1, 0] [] M1 (s55_1 x0 x1 x2) = ref14_kind_l1 m M1 x0 x1 x2
  | 0, _, _, _ => rfl
  | M1 + 1, x0, x1, x2 => by
    have h : ∀ J, l55 J m [1, 1, 0, 1, 0] [] (M1 + 1) (s55_1 x0 x1 x2) =
    (bif (decide (x1 < (List.length x0 : Int))) then
   (J 0 5 0 (s55_2 x0 x1 x2) (e55 J m [1, 1, 0, 1, 0, 0, 1] [M1] (s55_2 x0 x1 x2)))
    else
   (J 0 7 0 s55_5 (e55 J m [1, 1, 1] [] s55_5))) := fun J => by kernel_rfl
    refine (h jn).trans ?_
    simp only [jn_eq, ref14_kind_j2_eq m M1 (ref14_kind_l1 m M1) (fun x0 x1 x2 => ref14_kind_l1_eq m M1 x0 x1 x2), ref14_kind_j5_eq m]
    rfl
theorem ref14_kind_j0_eq (m : Nat) (x0 : List Dt) (x1 : Int) (x2 : Dt) : e55 jn m [1, 1, 0, 1] [] (s55_0 x0 x1 x2) = ref14_kind_j0 m x0 x1 x2 := by
  have h : ∀ J, e55 J m [1, 1, 0, 1] [] (s55_0 x0 x1 x2) =
    (J 1 3 (Nat.succ m) (s55_1 x0 x1 x2) (l55 J m [1, 1, 0, 1, 0] [] (Nat.succ m) (s55_1 x0 x1 x2))) := fun J => by kernel_rfl
  exact (h jn).trans (by
    simp only [jn_eq, ref14_kind_l1_eq m]
    rfl)
theorem ref14_kind_eq (m : Nat) (a0 : Dt) : e55 jn m [] [] ⟨[(.dat 25 a0)], [], 0⟩ = ref14_kind (m + 1) a0 := by
  have h : ∀ J, e55 J m [] [] ⟨[(.dat 25 a0)], [], 0⟩ =
    (J 0 3 0 (s55_0 [(Dt.str (ByteArray.mk (List.toArray []))), (Dt.str (ByteArray.mk (List.toArray [109, 105, 110]))), (Dt.str (ByteArray.mk (List.toArray [110, 117, 108, 108]))), (Dt.str (ByteArray.mk (List.toArray [105, 110, 116]))), (Dt.str (ByteArray.mk (List.toArray [116, 101, 120, 116]))), (Dt.str (ByteArray.mk (List.toArray [100, 111, 99]))), (Dt.str (ByteArray.mk (List.toArray [108, 105, 115, 116]))), (Dt.str (ByteArray.mk (List.toArray [98, 121, 116, 101, 115]))), (Dt.str (ByteArray.mk (List.toArray [105, 100]))), (Dt.str (ByteArray.mk (List.toArray [98, 111, 111, 108]))), (Dt.str (ByteArray.mk (List.toArray [116, 105, 109, 101]))), (Dt.str (ByteArray.mk (List.toArray [109, 97, 120])))] 1 a0) (e55 J m [1, 1, 0, 1] [] (s55_0 [(Dt.str (ByteArray.mk (List.toArray []))), (Dt.str (ByteArray.mk (List.toArray [109, 105, 110]))), (Dt.str (ByteArray.mk (List.toArray [110, 117, 108, 108]))), (Dt.str (ByteArray.mk (List.toArray [105, 110, 116]))), (Dt.str (ByteArray.mk (List.toArray [116, 101, 120, 116]))), (Dt.str (ByteArray.mk (List.toArray [100, 111, 99]))), (Dt.str (ByteArray.mk (List.toArray [108, 105, 115, 116]))), (Dt.str (ByteArray.mk (List.toArray [98, 121, 116, 101, 115]))), (Dt.str (ByteArray.mk (List.toArray [105, 100]))), (Dt.str (ByteArray.mk (List.toArray [98, 111, 111, 108]))), (Dt.str (ByteArray.mk (List.toArray [116, 105, 109, 101]))), (Dt.str (ByteArray.mk (List.toArray [109, 97, 120])))] 1 a0))) := fun J => by kernel_rfl
  refine (h jn).trans ?_
  simp only [jn_eq, ref14_kind_j0_eq m]
  rfl
noncomputable def d41 (q : Res) : Option Int := match q with
  | (.dat T0 x0, []) => bif Nat.beq T0 3 then some x0.toInt else none
  | _ => none
theorem d41_sim {b : Res} {r : Int} (h : d41 b = some r) : Sim Tryz.prog b ((.dat 3 (.int r)), []) := by
  unfold d41 at h
  split at h
  · obtain ⟨hc, h2⟩ := bif_some h
    cases h2
    have e0 := beq_eq hc
    subst e0
    exact Sim.of (.of (.dat (.int Tryz.underlying3)) rfl rfl) .nil
  · cases h
noncomputable def e41 (J : Nat → Nat → Nat → St → Option Int → Option Int) (m : Nat) (p ms : List Nat) (σ : St) := evAt Tryz.prog env (ct m) J (m + 1) 74 32 Tryz.f74 d41 p ms σ
noncomputable def l41 (J : Nat → Nat → Nat → St → Option Int → Option Int) (m : Nat) (p ms : List Nat) (M : Nat) (σ : St) := loopAt Tryz.prog env (ct m) J (m + 1) 74 32 Tryz.f74 d41 p ms M σ
noncomputable def s41_5 (x0 : List Dt) (x1 x2 : Int) : St := ⟨tsOf [(3, (.dat 22 (.lst x0))), (4, (.dat 3 (.int x1))), (5, (.dat 3 (.int x2)))], [], 0⟩
noncomputable def s41_4 (x0 : List Dt) (x1 x2 x3 : Int) : St := ⟨tsOf [(3, (.dat 22 (.lst x0))), (4, (.dat 3 (.int x1))), (5, (.dat 3 (.int x2))), (6, (.dat 3 (.int x3)))], [], 0⟩
noncomputable def s41_3 (x0 : List Dt) (x1 x2 : Int) : St := ⟨tsOf [(3, (.dat 22 (.lst x0))), (4, (.dat 3 (.int x1))), (5, (.dat 3 (.int x2)))], [], 0⟩
noncomputable def s41_6 (x0 : Int) : St := ⟨tsOf [(4, (.dat 3 (.int x0)))], [], 0⟩
noncomputable def s41_2 (x0 : List Dt) (x1 x2 : Int) : St := ⟨tsOf [(3, (.dat 22 (.lst x0))), (4, (.dat 3 (.int x1))), (5, (.dat 3 (.int x2)))], [], 0⟩
noncomputable def s41_1 (x0 : List Dt) (x1 x2 : Int) : St := ⟨tsOf [(3, (.dat 22 (.lst x0))), (4, (.dat 3 (.int x1))), (5, (.dat 3 (.int x2)))], [], 0⟩
noncomputable def s41_0 (x0 : List Dt) : St := ⟨tsOf [(3, (.dat 22 (.lst x0)))], [], 0⟩
theorem ref14_kinds_j5_eq (m : Nat) (M2 : Nat) (rec2 : List Dt → Int → Int → Option Int) (h2 : ∀ (x0 : List Dt) (x1 x2 : Int), l41 jn m [1, 1, 1, 1, 0, 1, 0] [] M2 (s41_2 x0 x1 x2) = rec2 x0 x1 x2) (x0 : List Dt) (x1 x2 : Int) : e41 jn m [1, 1, 1, 1, 0, 1, 0, 0, 1, 1] [M2] (s41_5 x0 x1 x2) = ref14_kinds_j5 m rec2 x0 x1 x2 := by
  have h : ∀ J, e41 J m [1, 1, 1, 1, 0, 1, 0, 0, 1, 1] [M2] (s41_5 x0 x1 x2) =
    (J 1 6 M2 (s41_2 x0 x1 (IntKind.wrap .i64 (x2 + 1))) (l41 J m [1, 1, 1, 1, 0, 1, 0] [] M2 (s41_2 x0 x1 (IntKind.wrap .i64 (x2 + 1))))) := fun J => by kernel_rfl
  exact (h jn).trans (by
    simp only [jn_eq, h2]
    rfl)
theorem ref14_kinds_j4_eq (m : Nat) (M2 : Nat) (rec2 : List Dt → Int → Int → Option Int) (h2 : ∀ (x0 : List Dt) (x1 x2 : Int), l41 jn m [1, 1, 1, 1, 0, 1, 0] [] M2 (s41_2 x0 x1 x2) = rec2 x0 x1 x2) (x0 : List Dt) (x1 x2 x3 : Int) : e41 jn m [1, 1, 1, 1, 0, 1, 0, 0, 1, 0, 0, 1, 1] [M2] (s41_4 x0 x1 x2 x3) = ref14_kinds_j4 m rec2 x0 x1 x2 x3 := by
  have h : ∀ J, e41 J m [1, 1, 1, 1, 0, 1, 0, 0, 1, 0, 0, 1, 1] [M2] (s41_4 x0 x1 x2 x3) =
    (bif (decide (0 ≤ x3)) then
   (J 0 7 0 (s41_5 x0 (orI IntKind.i64 x1 (shlI IntKind.i64 1 x3)) x2) (e41 J m [1, 1, 1, 1, 0, 1, 0, 0, 1, 1] [M2] (s41_5 x0 (orI IntKind.i64 x1 (shlI IntKind.i64 1 x3)) x2)))
    else
   none) := fun J => by kernel_rfl
  exact (h jn).trans (by
    simp only [jn_eq, ref14_kinds_j5_eq m M2 rec2 h2]
    rfl)
theorem ref14_kinds_j3_eq (m : Nat) (M2 : Nat) (rec2 : List Dt → Int → Int → Option Int) (h2 : ∀ (x0 : List Dt) (x1 x2 : Int), l41 jn m [1, 1, 1, 1, 0, 1, 0] [] M2 (s41_2 x0 x1 x2) = rec2 x0 x1 x2) (x0 : List Dt) (x1 x2 : Int) : e41 jn m [1, 1, 1, 1, 0, 1, 0, 0, 1] [M2] (s41_3 x0 x1 x2) = ref14_kinds_j3 m rec2 x0 x1 x2 := by
  have h : ∀ J, e41 J m [1, 1, 1, 1, 0, 1, 0, 0, 1] [M2] (s41_3 x0 x1 x2) =
    ((idx x0 x2).bind fun v0 =>
   ((ref14_kind m v0).bind fun r1 =>
   (bif (r1 == 0) then
   some 0
   else
   (J 0 11 0 (s41_4 x0 x1 x2 r1) (e41 J m [1, 1, 1, 1, 0, 1, 0, 0, 1, 0, 0, 1, 1] [M2] (s41_4 x0 x1 x2 r1)))))) := fun J => by kernel_rfl
  exact (h jn).trans (by
    simp only [jn_eq, ref14_kinds_j4_eq m M2 rec2 h2]
    rfl)
theorem ref14_kinds_j6_eq (m : Nat) (x0 : Int) : e41 jn m [1, 1, 1, 1, 1] [] (s41_6 x0) = ref14_kinds_j6 m x0 := by
  have h : ∀ J, e41 J m [1, 1, 1, 1, 1] [] (s41_6 x0) =
    some x0 := fun J => by kernel_rfl
  exact (h jn).trans (rfl)
theorem ref14_kinds_l2_eq (m : Nat) : ∀ (M2 : Nat) (x0 : List Dt) (x1 x2 : Int), l41 jn m [1, 1, 1, 1, 0, 1, 0] [] M2 (s41_2 x0 x1 x2) = ref14_kinds_l2 m M2 x0 x1 x2
  | 0, _, _, _ => rfl
  | M2 + 1, x0, x1, x2 => by
    have h : ∀ J, l41 J m [1, 1, 1, 1, 0, 1, 0] [] (M2 + 1) (s41_2 x0 x1 x2) =
    (bif (decide (x2 < (List.length x0 : Int))) then
   (J 0 8 0 (s41_3 x0 x1 x2) (e41 J m [1, 1, 1, 1, 0, 1, 0, 0, 1] [M2] (s41_3 x0 x1 x2)))
    else
   (J 0 12 0 (s41_6 x1) (e41 J m [1, 1, 1, 1, 1] [] (s41_6 x1)))) := fun J => by kernel_rfl
    refine (h jn).trans ?_
    simp only [jn_eq, ref14_kinds_j3_eq m M2 (ref14_kinds_l2 m M2) (fun x0 x1 x2 => ref14_kinds_l2_eq m M2 x0 x1 x2), ref14_kinds_j6_eq m]
    rfl
theorem ref14_kinds_j1_eq (m : Nat) (x0 : List Dt) (x1 x2 : Int) : e41 jn m [1, 1, 1, 1, 0, 1] [] (s41_1 x0 x1 x2) = ref14_kinds_j1 m x0 x1 x2 := by
  have h : ∀ J, e41 J m [1, 1, 1, 1, 0, 1] [] (s41_1 x0 x1 x2) =
    (J 1 6 (Nat.succ m) (s41_2 x0 x1 x2) (l41 J m [1, 1, 1, 1, 0, 1, 0] [] (Nat.succ m) (s41_2 x0 x1 x2))) := fun J => by kernel_rfl
  exact (h jn).trans (by
    simp only [jn_eq, ref14_kinds_l2_eq m]
    rfl)
theorem ref14_kinds_j0_eq (m : Nat) (x0 : List Dt) : e41 jn m [1, 1, 1] [] (s41_0 x0) = ref14_kinds_j0 m x0 := by
  have h : ∀ J, e41 J m [1, 1, 1] [] (s41_0 x0) =
    (J 0 6 0 (s41_1 x0 0 0) (e41 J m [1, 1, 1, 1, 0, 1] [] (s41_1 x0 0 0))) := fun J => by kernel_rfl
  exact (h jn).trans (by
    simp only [jn_eq, ref14_kinds_j1_eq m]
    rfl)
theorem ref14_kinds_eq (m : Nat) (a0 : Dt) : e41 jn m [] [] ⟨[(.dat 25 a0)], [], 0⟩ = ref14_kinds (m + 1) a0 := by
  have h : ∀ J, e41 J m [] [] ⟨[(.dat 25 a0)], [], 0⟩ =
    (bif ((Dt.I a0 0) == 6) then
   (J 0 4 0 (s41_0 (Dt.L a0 3)) (e41 J m [1, 1, 1] [] (s41_0 (Dt.L a0 3))))
    else
   (J 0 4 0 (s41_0 [a0]) (e41 J m [1, 1, 1] [] (s41_0 [a0])))) := fun J => by kernel_rfl
  refine (h jn).trans ?_
  simp only [jn_eq, ref14_kinds_j0_eq m]
  rfl
end Go.Proofs.YtfneddmmeadacaaGreatDoor
