/- Generated: each function's run in the abstract machine is its shallow function. -/
import Derived.Test.YtfneddmmeadacaaDoorCt
import Derived.Test.YtfneddmmeadacaaDoorAmEnv
import Derived.KernelRfl
set_option linter.unusedVariables false
set_option linter.unusedSimpArgs false
namespace Go.Proofs.YtfneddmmeadacaaDoor
open Go.Am
set_option maxRecDepth 100000
noncomputable def d5 (q : Res) : Option Int := match q with
  | (.dat T0 x0, []) => bif Nat.beq T0 3 then some x0.toInt else none
  | _ => none
theorem d5_sim {b : Res} {r : Int} (h : d5 b = some r) : Sim Tryd.prog b ((.dat 3 (.int r)), []) := by
  unfold d5 at h
  split at h
  · obtain ⟨hc, h2⟩ := bif_some h
    cases h2
    have e0 := beq_eq hc
    subst e0
    exact Sim.of (.of (.dat (.int Tryd.underlying3)) rfl rfl) .nil
  · cases h
noncomputable def e5 (J : Nat → Nat → Nat → St → Option Int → Option Int) (m : Nat) (p ms : List Nat) (σ : St) := evAt Tryd.prog env (ct m) J (m + 1) 7 56 Tryd.f7 d5 p ms σ
noncomputable def l5 (J : Nat → Nat → Nat → St → Option Int → Option Int) (m : Nat) (p ms : List Nat) (M : Nat) (σ : St) := loopAt Tryd.prog env (ct m) J (m + 1) 7 56 Tryd.f7 d5 p ms M σ
noncomputable def s5_3 (x0 x1 x2 : Int) (x3 : Dt) : St := ⟨tsOf [(1, (.dat 3 (.int x0))), (2, (.ptr 0 [] 0)), (5, (.dat 3 (.int x1))), (6, (.dat 3 (.int x2)))], [(.box 30 (.dat 30 x3))], 0⟩
noncomputable def s5_2 (x0 x1 x2 : Int) (x3 : Dt) : St := ⟨tsOf [(1, (.dat 3 (.int x0))), (2, (.ptr 0 [] 0)), (5, (.dat 3 (.int x1))), (6, (.dat 3 (.int x2)))], [(.box 30 (.dat 30 x3))], 0⟩
noncomputable def s5_8 (x0 x1 x2 : Int) (x3 : Dt) : St := ⟨tsOf [(1, (.dat 3 (.int x0))), (2, (.ptr 0 [] 0)), (5, (.dat 3 (.int x1))), (7, (.dat 3 (.int x2)))], [(.box 30 (.dat 30 x3))], 0⟩
noncomputable def s5_7 (x0 x1 x2 : Int) (x3 : Dt) : St := ⟨tsOf [(1, (.dat 3 (.int x0))), (2, (.ptr 0 [] 0)), (5, (.dat 3 (.int x1))), (7, (.dat 3 (.int x2)))], [(.box 30 (.dat 30 x3))], 0⟩
noncomputable def s5_9 (x0 : Int) : St := ⟨tsOf [(5, (.dat 3 (.int x0)))], [], 0⟩
noncomputable def s5_6 (x0 x1 x2 : Int) (x3 : Dt) : St := ⟨tsOf [(1, (.dat 3 (.int x0))), (2, (.ptr 0 [] 0)), (5, (.dat 3 (.int x1))), (7, (.dat 3 (.int x2)))], [(.box 30 (.dat 30 x3))], 0⟩
noncomputable def s5_5 (x0 x1 x2 : Int) (x3 : Dt) : St := ⟨tsOf [(1, (.dat 3 (.int x0))), (2, (.ptr 0 [] 0)), (5, (.dat 3 (.int x1))), (7, (.dat 3 (.int x2)))], [(.box 30 (.dat 30 x3))], 0⟩
noncomputable def s5_4 (x0 x1 : Int) (x2 : Dt) : St := ⟨tsOf [(1, (.dat 3 (.int x0))), (2, (.ptr 0 [] 0)), (5, (.dat 3 (.int x1)))], [(.box 30 (.dat 30 x2))], 0⟩
noncomputable def s5_1 (x0 x1 x2 : Int) (x3 : Dt) : St := ⟨tsOf [(1, (.dat 3 (.int x0))), (2, (.ptr 0 [] 0)), (5, (.dat 3 (.int x1))), (6, (.dat 3 (.int x2)))], [(.box 30 (.dat 30 x3))], 0⟩
noncomputable def s5_0 (x0 x1 x2 : Int) (x3 : Dt) : St := ⟨tsOf [(1, (.dat 3 (.int x0))), (2, (.ptr 0 [] 0)), (5, (.dat 3 (.int x1))), (6, (.dat 3 (.int x2)))], [(.box 30 (.dat 30 x3))], 0⟩
theorem ref14_Count_j3_eq (m : Nat) (M1 : Nat) (rec1 : Int → Int → Int → Dt → Option Int) (h1 : ∀ (x0 x1 x2 : Int) (x3 : Dt), l5 jn m [1, 1, 0, 1, 0] [] M1 (s5_1 x0 x1 x2 x3) = rec1 x0 x1 x2 x3) (x0 x1 x2 : Int) (x3 : Dt) : e5 jn m [1, 1, 0, 1, 0, 0, 1, 1] [M1] (s5_3 x0 x1 x2 x3) = ref14_Count_j3 m (ref14_Count m) rec1 x0 x1 x2 x3 := by
  have h : ∀ J, e5 J m [1, 1, 0, 1, 0, 0, 1, 1] [M1] (s5_3 x0 x1 x2 x3) =
    (J 1 3 M1 (s5_1 x0 x1 (IntKind.wrap .i64 (x2 + 1)) x3) (l5 J m [1, 1, 0, 1, 0] [] M1 (s5_1 x0 x1 (IntKind.wrap .i64 (x2 + 1)) x3))) := fun J => by kernel_rfl
  exact (h jn).trans (by
    simp only [jn_eq, h1]
    rfl)
theorem ref14_Count_j2_eq (m : Nat) (M1 : Nat) (rec1 : Int → Int → Int → Dt → Option Int) (h1 : ∀ (x0 x1 x2 : Int) (x3 : Dt), l5 jn m [1, 1, 0, 1, 0] [] M1 (s5_1 x0 x1 x2 x3) = rec1 x0 x1 x2 x3) (x0 x1 x2 : Int) (x3 : Dt) : e5 jn m [1, 1, 0, 1, 0, 0, 1] [M1] (s5_2 x0 x1 x2 x3) = ref14_Count_j2 m (ref14_Count m) rec1 x0 x1 x2 x3 := by
  have h : ∀ J, e5 J m [1, 1, 0, 1, 0, 0, 1] [M1] (s5_2 x0 x1 x2 x3) =
    ((idx (Dt.L x3 9) x2).bind fun v0 =>
   ((ref14_Count m (Dt.fld v0 1) (IntKind.wrap .i64 (x0 - x1))).bind fun r1 =>
   (J 0 4 0 (s5_3 x0 (IntKind.wrap .i64 (x1 + r1)) x2 x3) (e5 J m [1, 1, 0, 1, 0, 0, 1, 1] [M1] (s5_3 x0 (IntKind.wrap .i64 (x1 + r1)) x2 x3))))) := fun J => by kernel_rfl
  exact (h jn).trans (by
    simp only [jn_eq, ref14_Count_j3_eq m M1 rec1 h1]
    rfl)
theorem ref14_Count_j8_eq (m : Nat) (M6 : Nat) (rec6 : Int → Int → Int → Dt → Option Int) (h6 : ∀ (x0 x1 x2 : Int) (x3 : Dt), l5 jn m [1, 1, 1, 0, 1, 0] [] M6 (s5_6 x0 x1 x2 x3) = rec6 x0 x1 x2 x3) (x0 x1 x2 : Int) (x3 : Dt) : e5 jn m [1, 1, 1, 0, 1, 0, 0, 1, 1] [M6] (s5_8 x0 x1 x2 x3) = ref14_Count_j8 m (ref14_Count m) rec6 x0 x1 x2 x3 := by
  have h : ∀ J, e5 J m [1, 1, 1, 0, 1, 0, 0, 1, 1] [M6] (s5_8 x0 x1 x2 x3) =
    (J 1 7 M6 (s5_6 x0 x1 (IntKind.wrap .i64 (x2 + 1)) x3) (l5 J m [1, 1, 1, 0, 1, 0] [] M6 (s5_6 x0 x1 (IntKind.wrap .i64 (x2 + 1)) x3))) := fun J => by kernel_rfl
  exact (h jn).trans (by
    simp only [jn_eq, h6]
    rfl)
theorem ref14_Count_j7_eq (m : Nat) (M6 : Nat) (rec6 : Int → Int → Int → Dt → Option Int) (h6 : ∀ (x0 x1 x2 : Int) (x3 : Dt), l5 jn m [1, 1, 1, 0, 1, 0] [] M6 (s5_6 x0 x1 x2 x3) = rec6 x0 x1 x2 x3) (x0 x1 x2 : Int) (x3 : Dt) : e5 jn m [1, 1, 1, 0, 1, 0, 0, 1] [M6] (s5_7 x0 x1 x2 x3) = ref14_Count_j7 m (ref14_Count m) rec6 x0 x1 x2 x3 := by
  have h : ∀ J, e5 J m [1, 1, 1, 0, 1, 0, 0, 1] [M6] (s5_7 x0 x1 x2 x3) =
    ((idx (Dt.L x3 11) x2).bind fun v2 =>
   ((ref14_Count m v2 (IntKind.wrap .i64 (x0 - x1))).bind fun r3 =>
   (J 0 8 0 (s5_8 x0 (IntKind.wrap .i64 (x1 + r3)) x2 x3) (e5 J m [1, 1, 1, 0, 1, 0, 0, 1, 1] [M6] (s5_8 x0 (IntKind.wrap .i64 (x1 + r3)) x2 x3))))) := fun J => by kernel_rfl
  exact (h jn).trans (by
    simp only [jn_eq, ref14_Count_j8_eq m M6 rec6 h6]
    rfl)
theorem ref14_Count_j9_eq (m : Nat) (x0 : Int) : e5 jn m [1, 1, 1, 1] [] (s5_9 x0) = ref14_Count_j9 m (ref14_Count m) x0 := by
  have h : ∀ J, e5 J m [1, 1, 1, 1] [] (s5_9 x0) =
    some x0 := fun J => by kernel_rfl
  exact (h jn).trans (rfl)
theorem ref14_Count_l6_eq (m : Nat) : ∀ (M6 : Nat) (x0 x1 x2 : Int) (x3 : Dt), l5 jn m [1, 1, 1, 0, 1, 0] [] M6 (s5_6 x0 x1 x2 x3) = ref14_Count_l6 m (ref14_Count m) M6 x0 x1 x2 x3
  | 0, _, _, _, _ => rfl
  | M6 + 1, x0, x1, x2, x3 => by
    have h : ∀ J, l5 J m [1, 1, 1, 0, 1, 0] [] (M6 + 1) (s5_6 x0 x1 x2 x3) =
    (bif (decide (x2 < (List.length (Dt.L x3 11) : Int))) then
   (bif (decide (x1 < x0)) then
   (J 0 9 0 (s5_7 x0 x1 x2 x3) (e5 J m [1, 1, 1, 0, 1, 0, 0, 1] [M6] (s5_7 x0 x1 x2 x3)))
   else
   (J 0 10 0 (s5_9 x1) (e5 J m [1, 1, 1, 1] [] (s5_9 x1))))
    else
   (J 0 10 0 (s5_9 x1) (e5 J m [1, 1, 1, 1] [] (s5_9 x1)))) := fun J => by kernel_rfl
    refine (h jn).trans ?_
    simp only [jn_eq, ref14_Count_j7_eq m M6 (ref14_Count_l6 m (ref14_Count m) M6) (fun x0 x1 x2 x3 => ref14_Count_l6_eq m M6 x0 x1 x2 x3), ref14_Count_j9_eq m]
    rfl
theorem ref14_Count_j5_eq (m : Nat) (x0 x1 x2 : Int) (x3 : Dt) : e5 jn m [1, 1, 1, 0, 1] [] (s5_5 x0 x1 x2 x3) = ref14_Count_j5 m (ref14_Count m) x0 x1 x2 x3 := by
  have h : ∀ J, e5 J m [1, 1, 1, 0, 1] [] (s5_5 x0 x1 x2 x3) =
    (J 1 7 (Nat.succ m) (s5_6 x0 x1 x2 x3) (l5 J m [1, 1, 1, 0, 1, 0] [] (Nat.succ m) (s5_6 x0 x1 x2 x3))) := fun J => by kernel_rfl
  exact (h jn).trans (by
    simp only [jn_eq, ref14_Count_l6_eq m]
    rfl)
theorem ref14_Count_j4_eq (m : Nat) (x0 x1 : Int) (x2 : Dt) : e5 jn m [1, 1, 1] [] (s5_4 x0 x1 x2) = ref14_Count_j4 m (ref14_Count m) x0 x1 x2 := by
  have h : ∀ J, e5 J m [1, 1, 1] [] (s5_4 x0 x1 x2) =
    (J 0 7 0 (s5_5 x0 x1 0 x2) (e5 J m [1, 1, 1, 0, 1] [] (s5_5 x0 x1 0 x2))) := fun J => by kernel_rfl
  exact (h jn).trans (by
    simp only [jn_eq, ref14_Count_j5_eq m]
    rfl)
theorem ref14_Count_l1_eq (m : Nat) : ∀ (M1 : Nat) (x0 x1 x2 : Int) (x3 : Dt), l5 jn m [1, 1, 0, 1, 0] [] M1 (s5_1 x0 x1 x2 x3) = ref14_Count_l1 m (ref14_Count m) M1 x0 x1 x2 x3
  | 0, _, _, _, _ => rfl
  | M1 + 1, x0, x1, x2, x3 => by
    have h : ∀ J, l5 J m [1, 1, 0, 1, 0] [] (M1 + 1) (s5_1 x0 x1 x2 x3) =
    (bif (decide (x2 < (List.length (Dt.L x3 9) : Int))) then
   (bif (decide (x1 < x0)) then
   (J 0 5 0 (s5_2 x0 x1 x2 x3) (e5 J m [1, 1, 0, 1, 0, 0, 1] [M1] (s5_2 x0 x1 x2 x3)))
   else
   (J 0 6 0 (s5_4 x0 x1 x3) (e5 J m [1, 1, 1] [] (s5_4 x0 x1 x3))))
    else
   (J 0 6 0 (s5_4 x0 x1 x3) (e5 J m [1, 1, 1] [] (s5_4 x0 x1 x3)))) := fun J => by kernel_rfl
    refine (h jn).trans ?_
    simp only [jn_eq, ref14_Count_j2_eq m M1 (ref14_Count_l1 m (ref14_Count m) M1) (fun x0 x1 x2 x3 => ref14_Count_l1_eq m M1 x0 x1 x2 x3), ref14_Count_j4_eq m]
    rfl
theorem ref14_Count_j0_eq (m : Nat) (x0 x1 x2 : Int) (x3 : Dt) : e5 jn m [1, 1, 0, 1] [] (s5_0 x0 x1 x2 x3) = ref14_Count_j0 m (ref14_Count m) x0 x1 x2 x3 := by
  have h : ∀ J, e5 J m [1, 1, 0, 1] [] (s5_0 x0 x1 x2 x3) =
    (J 1 3 (Nat.succ m) (s5_1 x0 x1 x2 x3) (l5 J m [1, 1, 0, 1, 0] [] (Nat.succ m) (s5_1 x0 x1 x2 x3))) := fun J => by kernel_rfl
  exact (h jn).trans (by
    simp only [jn_eq, ref14_Count_l1_eq m]
    rfl)
theorem ref14_Count_eq (m : Nat) (a0 : Dt) (a1 : Int) : e5 jn m [] [] ⟨[(.dat 30 a0), (.dat 3 (.int a1))], [], 0⟩ = ref14_Count (m + 1) a0 a1 := by
  have h : ∀ J, e5 J m [] [] ⟨[(.dat 30 a0), (.dat 3 (.int a1))], [], 0⟩ =
    (J 0 3 0 (s5_0 a1 1 0 a0) (e5 J m [1, 1, 0, 1] [] (s5_0 a1 1 0 a0))) := fun J => by kernel_rfl
  refine (h jn).trans ?_
  simp only [jn_eq, ref14_Count_j0_eq m]
  rfl
noncomputable def d8 (q : Res) : Option Bool := match q with
  | (.dat T0 x0, []) => bif Nat.beq T0 4 then some x0.toBool else none
  | _ => none
theorem d8_sim {b : Res} {r : Bool} (h : d8 b = some r) : Sim Tryd.prog b ((.dat 4 (.bool r)), []) := by
  unfold d8 at h
  split at h
  · obtain ⟨hc, h2⟩ := bif_some h
    cases h2
    have e0 := beq_eq hc
    subst e0
    exact Sim.of (.of (.dat (.bool Tryd.underlying4)) rfl rfl) .nil
  · cases h
noncomputable def e8 (J : Nat → Nat → Nat → St → Option Bool → Option Bool) (m : Nat) (p ms : List Nat) (σ : St) := evAt Tryd.prog env (ct m) J (m + 1) 41 22 Tryd.f41 d8 p ms σ
noncomputable def l8 (J : Nat → Nat → Nat → St → Option Bool → Option Bool) (m : Nat) (p ms : List Nat) (M : Nat) (σ : St) := loopAt Tryd.prog env (ct m) J (m + 1) 41 22 Tryd.f41 d8 p ms M σ
theorem schema_hasKind_eq (m : Nat) (a0 a1 : Int) : e8 jn m [] [] ⟨[(.dat 3 (.int a0)), (.dat 3 (.int a1))], [], 0⟩ = schema_hasKind (m + 1) a0 a1 := by
  have h : ∀ J, e8 J m [] [] ⟨[(.dat 3 (.int a0)), (.dat 3 (.int a1))], [], 0⟩ =
    (bif (a0 == 0) then
   some true
    else
   (bif (decide (0 ≤ a1)) then
   (bif (decide (a1 ≤ 11)) then
   (bif (decide (0 ≤ a1)) then
   some ((andI IntKind.i64 (shrI IntKind.i64 a0 a1) 1) == 1)
   else
   none)
   else
   some false)
   else
   some false)) := fun J => by kernel_rfl
  refine (h jn).trans ?_
  
  rfl
noncomputable def d10 (q : Res) : Option (List Dt) := match q with
  | (.dat T0 x0, []) => bif Nat.beq T0 26 then some x0.toLst else none
  | _ => none
theorem d10_sim {b : Res} {r : List Dt} (h : d10 b = some r) : Sim Tryd.prog b ((.dat 26 (.lst r)), []) := by
  unfold d10 at h
  split at h
  · obtain ⟨hc, h2⟩ := bif_some h
    cases h2
    have e0 := beq_eq hc
    subst e0
    exact Sim.of (.of (.dat (.lst Tryd.underlying26)) rfl rfl) .nil
  · cases h
noncomputable def e10 (J : Nat → Nat → Nat → St → Option (List Dt) → Option (List Dt)) (m : Nat) (p ms : List Nat) (σ : St) := evAt Tryd.prog env (ct m) J (m + 1) 38 36 Tryd.f38 d10 p ms σ
noncomputable def l10 (J : Nat → Nat → Nat → St → Option (List Dt) → Option (List Dt)) (m : Nat) (p ms : List Nat) (M : Nat) (σ : St) := loopAt Tryd.prog env (ct m) J (m + 1) 38 36 Tryd.f38 d10 p ms M σ
noncomputable def s10_3 (x0 : List Dt) (x1 : Int) (x2 : List Dt) (x3 x4 : Int) : St := ⟨tsOf [(0, (.dat 94 (.lst x0))), (3, (.dat 3 (.int x1))), (9, (.dat 94 (.lst x2))), (10, (.dat 3 (.int x3))), (11, (.dat 3 (.int x4)))], [], 0⟩
noncomputable def s10_2 (x0 : List Dt) (x1 : Int) (x2 : List Dt) (x3 x4 : Int) : St := ⟨tsOf [(0, (.dat 94 (.lst x0))), (3, (.dat 3 (.int x1))), (9, (.dat 94 (.lst x2))), (10, (.dat 3 (.int x3))), (11, (.dat 3 (.int x4)))], [], 0⟩
noncomputable def s10_8 (x0 : List Dt) (x1 x2 : Int) (x3 : List Dt) : St := ⟨tsOf [(6, (.row 0)), (25, (.dat 94 (.lst x0))), (26, (.dat 3 (.int x1))), (27, (.dat 3 (.int x2)))], [(.row 26 x3)], 0⟩
noncomputable def s10_7 (x0 : List Dt) (x1 x2 : Int) (x3 : List Dt) : St := ⟨tsOf [(6, (.row 0)), (25, (.dat 94 (.lst x0))), (26, (.dat 3 (.int x1))), (27, (.dat 3 (.int x2)))], [(.row 26 x3)], 0⟩
noncomputable def s10_9 (x0 : List Dt) : St := ⟨tsOf [(6, (.row 0))], [(.row 26 x0)], 0⟩
noncomputable def s10_6 (x0 : List Dt) (x1 x2 : Int) (x3 : List Dt) : St := ⟨tsOf [(6, (.row 0)), (25, (.dat 94 (.lst x0))), (26, (.dat 3 (.int x1))), (27, (.dat 3 (.int x2)))], [(.row 26 x3)], 0⟩
noncomputable def s10_5 (x0 : List Dt) (x1 x2 : Int) (x3 : List Dt) : St := ⟨tsOf [(6, (.row 0)), (25, (.dat 94 (.lst x0))), (26, (.dat 3 (.int x1))), (27, (.dat 3 (.int x2)))], [(.row 26 x3)], 0⟩
noncomputable def s10_4 (x0 : List Dt) (x1 : Int) : St := ⟨tsOf [(0, (.dat 94 (.lst x0))), (3, (.dat 3 (.int x1)))], [], 0⟩
noncomputable def s10_1 (x0 : List Dt) (x1 : Int) (x2 : List Dt) (x3 x4 : Int) : St := ⟨tsOf [(0, (.dat 94 (.lst x0))), (3, (.dat 3 (.int x1))), (9, (.dat 94 (.lst x2))), (10, (.dat 3 (.int x3))), (11, (.dat 3 (.int x4)))], [], 0⟩
noncomputable def s10_0 (x0 : List Dt) (x1 : Int) (x2 : List Dt) (x3 x4 : Int) : St := ⟨tsOf [(0, (.dat 94 (.lst x0))), (3, (.dat 3 (.int x1))), (9, (.dat 94 (.lst x2))), (10, (.dat 3 (.int x3))), (11, (.dat 3 (.int x4)))], [], 0⟩
theorem slices_Concat_j3_eq (m : Nat) (M1 : Nat) (rec1 : List Dt → Int → List Dt → Int → Int → Option (List Dt)) (h1 : ∀ (x0 : List Dt) (x1 : Int) (x2 : List Dt) (x3 x4 : Int), l10 jn m [1, 1, 0, 1, 0] [] M1 (s10_1 x0 x1 x2 x3 x4) = rec1 x0 x1 x2 x3 x4) (x0 : List Dt) (x1 : Int) (x2 : List Dt) (x3 x4 : Int) : e10 jn m [1, 1, 0, 1, 0, 0, 1, 1, 1] [M1] (s10_3 x0 x1 x2 x3 x4) = slices_Concat_j3 m rec1 x0 x1 x2 x3 x4 := by
  have h : ∀ J, e10 J m [1, 1, 0, 1, 0, 0, 1, 1, 1] [M1] (s10_3 x0 x1 x2 x3 x4) =
    (J 1 3 M1 (s10_1 x0 x1 x2 x3 (IntKind.wrap .i64 (x4 + 1))) (l10 J m [1, 1, 0, 1, 0] [] M1 (s10_1 x0 x1 x2 x3 (IntKind.wrap .i64 (x4 + 1))))) := fun J => by kernel_rfl
  exact (h jn).trans (by
    simp only [jn_eq, h1]
    rfl)
theorem slices_Concat_j2_eq (m : Nat) (M1 : Nat) (rec1 : List Dt → Int → List Dt → Int → Int → Option (List Dt)) (h1 : ∀ (x0 : List Dt) (x1 : Int) (x2 : List Dt) (x3 x4 : Int), l10 jn m [1, 1, 0, 1, 0] [] M1 (s10_1 x0 x1 x2 x3 x4) = rec1 x0 x1 x2 x3 x4) (x0 : List Dt) (x1 : Int) (x2 : List Dt) (x3 x4 : Int) : e10 jn m [1, 1, 0, 1, 0, 0, 1, 1] [M1] (s10_2 x0 x1 x2 x3 x4) = slices_Concat_j2 m rec1 x0 x1 x2 x3 x4 := by
  have h : ∀ J, e10 J m [1, 1, 0, 1, 0, 0, 1, 1] [M1] (s10_2 x0 x1 x2 x3 x4) =
    ((idx x2 x4).bind fun v0 =>
   (bif (decide ((IntKind.wrap .i64 (x1 + (List.length (Dt.toLst v0) : Int))) < 0)) then
   none
   else
   (J 0 8 0 (s10_3 x0 (IntKind.wrap .i64 (x1 + (List.length (Dt.toLst v0) : Int))) x2 x3 x4) (e10 J m [1, 1, 0, 1, 0, 0, 1, 1, 1] [M1] (s10_3 x0 (IntKind.wrap .i64 (x1 + (List.length (Dt.toLst v0) : Int))) x2 x3 x4))))) := fun J => by kernel_rfl
  exact (h jn).trans (by
    simp only [jn_eq, slices_Concat_j3_eq m M1 rec1 h1]
    rfl)
theorem slices_Concat_j8_eq (m : Nat) (M6 : Nat) (rec6 : List Dt → Int → Int → List Dt → Option (List Dt)) (h6 : ∀ (x0 : List Dt) (x1 x2 : Int) (x3 : List Dt), l10 jn m [1, 1, 1, 1, 0, 1, 0] [] M6 (s10_6 x0 x1 x2 x3) = rec6 x0 x1 x2 x3) (x0 : List Dt) (x1 x2 : Int) (x3 : List Dt) : e10 jn m [1, 1, 1, 1, 0, 1, 0, 0, 1, 1, 1] [M6] (s10_8 x0 x1 x2 x3) = slices_Concat_j8 m rec6 x0 x1 x2 x3 := by
  have h : ∀ J, e10 J m [1, 1, 1, 1, 0, 1, 0, 0, 1, 1, 1] [M6] (s10_8 x0 x1 x2 x3) =
    (J 1 11 M6 (s10_6 x0 x1 (IntKind.wrap .i64 (x2 + 1)) x3) (l10 J m [1, 1, 1, 1, 0, 1, 0] [] M6 (s10_6 x0 x1 (IntKind.wrap .i64 (x2 + 1)) x3))) := fun J => by kernel_rfl
  exact (h jn).trans (by
    simp only [jn_eq, h6]
    rfl)
theorem slices_Concat_j7_eq (m : Nat) (M6 : Nat) (rec6 : List Dt → Int → Int → List Dt → Option (List Dt)) (h6 : ∀ (x0 : List Dt) (x1 x2 : Int) (x3 : List Dt), l10 jn m [1, 1, 1, 1, 0, 1, 0] [] M6 (s10_6 x0 x1 x2 x3) = rec6 x0 x1 x2 x3) (x0 : List Dt) (x1 x2 : Int) (x3 : List Dt) : e10 jn m [1, 1, 1, 1, 0, 1, 0, 0, 1, 1] [M6] (s10_7 x0 x1 x2 x3) = slices_Concat_j7 m rec6 x0 x1 x2 x3 := by
  have h : ∀ J, e10 J m [1, 1, 1, 1, 0, 1, 0, 0, 1, 1] [M6] (s10_7 x0 x1 x2 x3) =
    ((idx x0 x2).bind fun v2 =>
   ((app x3 (Dt.toLst v2)).bind fun v3 =>
   (J 0 14 0 (s10_8 x0 x1 x2 v3) (e10 J m [1, 1, 1, 1, 0, 1, 0, 0, 1, 1, 1] [M6] (s10_8 x0 x1 x2 v3))))) := fun J => by kernel_rfl
  exact (h jn).trans (by
    simp only [jn_eq, slices_Concat_j8_eq m M6 rec6 h6]
    rfl)
theorem slices_Concat_j9_eq (m : Nat) (x0 : List Dt) : e10 jn m [1, 1, 1, 1, 1] [] (s10_9 x0) = slices_Concat_j9 m x0 := by
  have h : ∀ J, e10 J m [1, 1, 1, 1, 1] [] (s10_9 x0) =
    some x0 := fun J => by kernel_rfl
  exact (h jn).trans (rfl)
theorem slices_Concat_l6_eq (m : Nat) : ∀ (M6 : Nat) (x0 : List Dt) (x1 x2 : Int) (x3 : List Dt), l10 jn m [1, 1, 1, 1, 0, 1, 0] [] M6 (s10_6 x0 x1 x2 x3) = slices_Concat_l6 m M6 x0 x1 x2 x3
  | 0, _, _, _, _ => rfl
  | M6 + 1, x0, x1, x2, x3 => by
    have h : ∀ J, l10 J m [1, 1, 1, 1, 0, 1, 0] [] (M6 + 1) (s10_6 x0 x1 x2 x3) =
    (bif (decide (x2 < x1)) then
   (J 0 12 0 (s10_7 x0 x1 x2 x3) (e10 J m [1, 1, 1, 1, 0, 1, 0, 0, 1, 1] [M6] (s10_7 x0 x1 x2 x3)))
    else
   (J 0 15 0 (s10_9 x3) (e10 J m [1, 1, 1, 1, 1] [] (s10_9 x3)))) := fun J => by kernel_rfl
    refine (h jn).trans ?_
    simp only [jn_eq, slices_Concat_j7_eq m M6 (slices_Concat_l6 m M6) (fun x0 x1 x2 x3 => slices_Concat_l6_eq m M6 x0 x1 x2 x3), slices_Concat_j9_eq m]
    rfl
theorem slices_Concat_j5_eq (m : Nat) (x0 : List Dt) (x1 x2 : Int) (x3 : List Dt) : e10 jn m [1, 1, 1, 1, 0, 1] [] (s10_5 x0 x1 x2 x3) = slices_Concat_j5 m x0 x1 x2 x3 := by
  have h : ∀ J, e10 J m [1, 1, 1, 1, 0, 1] [] (s10_5 x0 x1 x2 x3) =
    (J 1 11 (Nat.succ m) (s10_6 x0 x1 x2 x3) (l10 J m [1, 1, 1, 1, 0, 1, 0] [] (Nat.succ m) (s10_6 x0 x1 x2 x3))) := fun J => by kernel_rfl
  exact (h jn).trans (by
    simp only [jn_eq, slices_Concat_l6_eq m]
    rfl)
theorem slices_Concat_j4_eq (m : Nat) (x0 : List Dt) (x1 : Int) : e10 jn m [1, 1, 1] [] (s10_4 x0 x1) = slices_Concat_j4 m x0 x1 := by
  have h : ∀ J, e10 J m [1, 1, 1] [] (s10_4 x0 x1) =
    ((slices_Grow x1).bind fun r1 =>
   (J 0 11 0 (s10_5 x0 (List.length x0 : Int) 0 r1) (e10 J m [1, 1, 1, 1, 0, 1] [] (s10_5 x0 (List.length x0 : Int) 0 r1)))) := fun J => by kernel_rfl
  exact (h jn).trans (by
    simp only [jn_eq, slices_Concat_j5_eq m]
    rfl)
theorem slices_Concat_l1_eq (m : Nat) : ∀ (M1 : Nat) (x0 : List Dt) (x1 : Int) (x2 : List Dt) (x3 x4 : Int), l10 jn m [1, 1, 0, 1, 0] [] M1 (s10_1 x0 x1 x2 x3 x4) = slices_Concat_l1 m M1 x0 x1 x2 x3 x4
  | 0, _, _, _, _, _ => rfl
  | M1 + 1, x0, x1, x2, x3, x4 => by
    have h : ∀ J, l10 J m [1, 1, 0, 1, 0] [] (M1 + 1) (s10_1 x0 x1 x2 x3 x4) =
    (bif (decide (x4 < x3)) then
   (J 0 4 0 (s10_2 x0 x1 x2 x3 x4) (e10 J m [1, 1, 0, 1, 0, 0, 1, 1] [M1] (s10_2 x0 x1 x2 x3 x4)))
    else
   (J 0 9 0 (s10_4 x0 x1) (e10 J m [1, 1, 1] [] (s10_4 x0 x1)))) := fun J => by kernel_rfl
    refine (h jn).trans ?_
    simp only [jn_eq, slices_Concat_j2_eq m M1 (slices_Concat_l1 m M1) (fun x0 x1 x2 x3 x4 => slices_Concat_l1_eq m M1 x0 x1 x2 x3 x4), slices_Concat_j4_eq m]
    rfl
theorem slices_Concat_j0_eq (m : Nat) (x0 : List Dt) (x1 : Int) (x2 : List Dt) (x3 x4 : Int) : e10 jn m [1, 1, 0, 1] [] (s10_0 x0 x1 x2 x3 x4) = slices_Concat_j0 m x0 x1 x2 x3 x4 := by
  have h : ∀ J, e10 J m [1, 1, 0, 1] [] (s10_0 x0 x1 x2 x3 x4) =
    (J 1 3 (Nat.succ m) (s10_1 x0 x1 x2 x3 x4) (l10 J m [1, 1, 0, 1, 0] [] (Nat.succ m) (s10_1 x0 x1 x2 x3 x4))) := fun J => by kernel_rfl
  exact (h jn).trans (by
    simp only [jn_eq, slices_Concat_l1_eq m]
    rfl)
theorem slices_Concat_eq (m : Nat) (a0 : List Dt) : e10 jn m [] [] ⟨[(.dat 94 (.lst a0))], [], 0⟩ = slices_Concat (m + 1) a0 := by
  have h : ∀ J, e10 J m [] [] ⟨[(.dat 94 (.lst a0))], [], 0⟩ =
    (J 0 3 0 (s10_0 a0 0 a0 (List.length a0 : Int) 0) (e10 J m [1, 1, 0, 1] [] (s10_0 a0 0 a0 (List.length a0 : Int) 0))) := fun J => by kernel_rfl
  refine (h jn).trans ?_
  simp only [jn_eq, slices_Concat_j0_eq m]
  rfl
noncomputable def d9 (q : Res) : Option (List Dt × List Dt × List Dt) := match q with
  | (.tup [], [.box T0 (.row n1), .gone, .box T2 (.dat T3 x3), .frz T4 x4, .row T5 x5]) => bif (Nat.beq T0 38 && (Nat.beq n1 4 && (Nat.beq T2 26 && (Nat.beq T3 26 && (Nat.beq T4 26 && Nat.beq T5 38))))) then some (x3.toLst, x4, x5) else none
  | _ => none
theorem d9_sim {b : Res} {r : List Dt × List Dt × List Dt} (h : d9 b = some r) : Sim Tryd.prog b ((.tup []), [(.box 38 (.row 4)), .gone, (.box 26 (.dat 26 (.lst r.1))), (.frz 26 r.2.1), (.row 38 r.2.2)]) := by
  unfold d9 at h
  split at h
  · obtain ⟨hc, h2⟩ := bif_some h
    cases h2
    have e0 := beq_eq (and_l hc)
    have e1 := beq_eq (and_l (and_r hc))
    have e2 := beq_eq (and_l (and_r (and_r hc)))
    have e3 := beq_eq (and_l (and_r (and_r (and_r hc))))
    have e4 := beq_eq (and_l (and_r (and_r (and_r (and_r hc)))))
    have e5 := beq_eq (and_r (and_r (and_r (and_r (and_r hc)))))
    subst e0 e1 e2 e3 e4 e5
    exact Sim.of (.tup .nil) (.cons (.box .same) (.cons .same (.cons (.box (.dat (.lst Tryd.underlying26))) (.cons .same (.cons .same .nil)))))
  · cases h
noncomputable def e9 (J : Nat → Nat → Nat → St → Option (List Dt × List Dt × List Dt) → Option (List Dt × List Dt × List Dt)) (m : Nat) (p ms : List Nat) (σ : St) := evAt Tryd.prog env (ct m) J (m + 1) 37 18 Tryd.f37 d9 p ms σ
noncomputable def l9 (J : Nat → Nat → Nat → St → Option (List Dt × List Dt × List Dt) → Option (List Dt × List Dt × List Dt)) (m : Nat) (p ms : List Nat) (M : Nat) (σ : St) := loopAt Tryd.prog env (ct m) J (m + 1) 37 18 Tryd.f37 d9 p ms M σ
theorem i9_eq (m : Nat) (a0 : Bool) (a1 : Int) (a2 a3 a4 : List Dt) : e9 jn m [] [] ⟨[(.dat 4 (.bool a0)), (.dat 3 (.int a1)), (.dat 26 (.lst a2)), (.ptr 0 [] 0), (.ptr 2 [] 0)], [(.box 38 (.row 1)), (.row 38 a3), (.box 26 (.row 3)), (.row 26 a4)], 4⟩ = i9 (m + 1) a0 a1 a2 a3 a4 := by
  have h : ∀ J, e9 J m [] [] ⟨[(.dat 4 (.bool a0)), (.dat 3 (.int a1)), (.dat 26 (.lst a2)), (.ptr 0 [] 0), (.ptr 2 [] 0)], [(.box 38 (.row 1)), (.row 38 a3), (.box 26 (.row 3)), (.row 26 a4)], 4⟩ =
    (bif a0 then
   ((slices_Concat m [(Dt.lst a4), (Dt.lst a2)]).bind fun r0 =>
   ((app a3 [(Dt.agg [(Dt.lst r0), (Dt.int a1)])]).bind fun v1 =>
   some (a4, a4, v1)))
    else
   some (a4, a4, a3)) := fun J => by kernel_rfl
  refine (h jn).trans ?_
  
  rfl
noncomputable def d15 (q : Res) : Option (List Dt × List Dt) := match q with
  | (.tup [], [.box T0 (.row n1), .gone, .box T2 (.dat T3 x3), .row T4 x4]) => bif (Nat.beq T0 38 && (Nat.beq n1 3 && (Nat.beq T2 26 && (Nat.beq T3 26 && Nat.beq T4 38)))) then some (x3.toLst, x4) else none
  | _ => none
theorem d15_sim {b : Res} {r : List Dt × List Dt} (h : d15 b = some r) : Sim Tryd.prog b ((.tup []), [(.box 38 (.row 3)), .gone, (.box 26 (.dat 26 (.lst r.1))), (.row 38 r.2)]) := by
  unfold d15 at h
  split at h
  · obtain ⟨hc, h2⟩ := bif_some h
    cases h2
    have e0 := beq_eq (and_l hc)
    have e1 := beq_eq (and_l (and_r hc))
    have e2 := beq_eq (and_l (and_r (and_r hc)))
    have e3 := beq_eq (and_l (and_r (and_r (and_r hc))))
    have e4 := beq_eq (and_r (and_r (and_r (and_r hc))))
    subst e0 e1 e2 e3 e4
    exact Sim.of (.tup .nil) (.cons (.box .same) (.cons .same (.cons (.box (.dat (.lst Tryd.underlying26))) (.cons .same .nil))))
  · cases h
noncomputable def e15 (J : Nat → Nat → Nat → St → Option (List Dt × List Dt) → Option (List Dt × List Dt)) (m : Nat) (p ms : List Nat) (σ : St) := evAt Tryd.prog env (ct m) J (m + 1) 37 18 Tryd.f37 d15 p ms σ
noncomputable def l15 (J : Nat → Nat → Nat → St → Option (List Dt × List Dt) → Option (List Dt × List Dt)) (m : Nat) (p ms : List Nat) (M : Nat) (σ : St) := loopAt Tryd.prog env (ct m) J (m + 1) 37 18 Tryd.f37 d15 p ms M σ
theorem i15_eq (m : Nat) (a0 : Bool) (a1 : Int) (a2 a3 a4 : List Dt) : e15 jn m [] [] ⟨[(.dat 4 (.bool a0)), (.dat 3 (.int a1)), (.dat 26 (.lst a2)), (.ptr 0 [] 0), (.ptr 2 [] 0)], [(.box 38 (.row 1)), (.row 38 a3), (.box 26 (.dat 26 (.lst a4)))], 3⟩ = i15 (m + 1) a0 a1 a2 a3 a4 := by
  have h : ∀ J, e15 J m [] [] ⟨[(.dat 4 (.bool a0)), (.dat 3 (.int a1)), (.dat 26 (.lst a2)), (.ptr 0 [] 0), (.ptr 2 [] 0)], [(.box 38 (.row 1)), (.row 38 a3), (.box 26 (.dat 26 (.lst a4)))], 3⟩ =
    (bif a0 then
   ((slices_Concat m [(Dt.lst a4), (Dt.lst a2)]).bind fun r0 =>
   ((app a3 [(Dt.agg [(Dt.lst r0), (Dt.int a1)])]).bind fun v1 =>
   some (a4, v1)))
    else
   some (a4, a3)) := fun J => by kernel_rfl
  refine (h jn).trans ?_
  
  rfl
noncomputable def d17 (q : Res) : Option (Int × Bool) := match q with
  | (.tup [.dat T0 x0, .dat T1 x1], []) => bif (Nat.beq T0 3 && Nat.beq T1 4) then some (x0.toInt, x1.toBool) else none
  | _ => none
theorem d17_sim {b : Res} {r : Int × Bool} (h : d17 b = some r) : Sim Tryd.prog b ((.tup [(.dat 3 (.int r.1)), (.dat 4 (.bool r.2))]), []) := by
  unfold d17 at h
  split at h
  · obtain ⟨hc, h2⟩ := bif_some h
    cases h2
    have e0 := beq_eq (and_l hc)
    have e1 := beq_eq (and_r hc)
    subst e0 e1
    exact Sim.of (.tup (.cons (.dat (.int Tryd.underlying3)) (.cons (.dat (.bool Tryd.underlying4)) .nil))) .nil
  · cases h
noncomputable def e17 (J : Nat → Nat → Nat → St → Option (Int × Bool) → Option (Int × Bool)) (m : Nat) (p ms : List Nat) (σ : St) := evAt Tryd.prog env (ct m) J (m + 1) 44 17 Tryd.f44 d17 p ms σ
noncomputable def l17 (J : Nat → Nat → Nat → St → Option (Int × Bool) → Option (Int × Bool)) (m : Nat) (p ms : List Nat) (M : Nat) (σ : St) := loopAt Tryd.prog env (ct m) J (m + 1) 44 17 Tryd.f44 d17 p ms M σ
noncomputable def s17_1 : St := ⟨tsOf [], [], 0⟩
noncomputable def s17_0 (x0 : Int) (x1 : Bool) (x2 : Dt) : St := ⟨tsOf [(1, (.ptr 0 [] 0)), (5, (.dat 3 (.int x0))), (6, (.dat 4 (.bool x1)))], [(.box 25 (.dat 25 x2))], 0⟩
theorem schema_length_j1_eq (m : Nat) : e17 jn m [1, 1] [] s17_1 = schema_length_j1 m := by
  have h : ∀ J, e17 J m [1, 1] [] s17_1 =
    some (0, false) := fun J => by kernel_rfl
  exact (h jn).trans (rfl)
theorem schema_length_j0_eq (m : Nat) (x0 : Int) (x1 : Bool) (x2 : Dt) : e17 jn m [1, 0, 1, 0, 1] [] (s17_0 x0 x1 x2) = schema_length_j0 m x0 x1 x2 := by
  have h : ∀ J, e17 J m [1, 0, 1, 0, 1] [] (s17_0 x0 x1 x2) =
    (bif x1 then
   some ((ByteArray.size (Dt.S x2 2) : Int), true)
    else
   (bif (x0 == 6) then
   some ((List.length (Dt.L x2 3) : Int), true)
   else
   (J 0 7 0 s17_1 (e17 J m [1, 1] [] s17_1)))) := fun J => by kernel_rfl
  exact (h jn).trans (by
    simp only [jn_eq, schema_length_j1_eq m]
    rfl)
theorem schema_length_eq (m : Nat) (a0 : Dt) : e17 jn m [] [] ⟨[(.dat 25 a0)], [], 0⟩ = schema_length (m + 1) a0 := by
  have h : ∀ J, e17 J m [] [] ⟨[(.dat 25 a0)], [], 0⟩ =
    (bif ((Dt.I a0 0) == 4) then
   (J 0 4 0 (s17_0 (Dt.I a0 0) ((Dt.I a0 0) == 4) a0) (e17 J m [1, 0, 1, 0, 1] [] (s17_0 (Dt.I a0 0) ((Dt.I a0 0) == 4) a0)))
    else
   (J 0 4 0 (s17_0 (Dt.I a0 0) ((Dt.I a0 0) == 7) a0) (e17 J m [1, 0, 1, 0, 1] [] (s17_0 (Dt.I a0 0) ((Dt.I a0 0) == 7) a0)))) := fun J => by kernel_rfl
  refine (h jn).trans ?_
  simp only [jn_eq, schema_length_j0_eq m]
  rfl
noncomputable def d18 (q : Res) : Option (Dt × Bool) := match q with
  | (.tup [.dat T0 x0, .dat T1 x1], []) => bif (Nat.beq T0 25 && Nat.beq T1 4) then some (x0, x1.toBool) else none
  | _ => none
theorem d18_sim {b : Res} {r : Dt × Bool} (h : d18 b = some r) : Sim Tryd.prog b ((.tup [(.dat 25 r.1), (.dat 4 (.bool r.2))]), []) := by
  unfold d18 at h
  split at h
  · obtain ⟨hc, h2⟩ := bif_some h
    cases h2
    have e0 := beq_eq (and_l hc)
    have e1 := beq_eq (and_r hc)
    subst e0 e1
    exact Sim.of (.tup (.cons .same (.cons (.dat (.bool Tryd.underlying4)) .nil))) .nil
  · cases h
noncomputable def e18 (J : Nat → Nat → Nat → St → Option (Dt × Bool) → Option (Dt × Bool)) (m : Nat) (p ms : List Nat) (σ : St) := evAt Tryd.prog env (ct m) J (m + 1) 45 23 Tryd.f45 d18 p ms σ
noncomputable def l18 (J : Nat → Nat → Nat → St → Option (Dt × Bool) → Option (Dt × Bool)) (m : Nat) (p ms : List Nat) (M : Nat) (σ : St) := loopAt Tryd.prog env (ct m) J (m + 1) 45 23 Tryd.f45 d18 p ms M σ
noncomputable def s18_3 (x0 : ByteArray) (x1 : List Dt) (x2 x3 : Int) (x4 : Dt) : St := ⟨tsOf [(1, (.dat 9 (.str x0))), (4, (.ptr 0 [] 0)), (9, (.dat 23 (.lst x1))), (10, (.dat 3 (.int x2))), (11, (.dat 3 (.int x3)))], [(.box 25 (.dat 25 x4))], 0⟩
noncomputable def s18_2 (x0 : ByteArray) (x1 : List Dt) (x2 x3 : Int) (x4 : Dt) : St := ⟨tsOf [(1, (.dat 9 (.str x0))), (4, (.ptr 0 [] 0)), (9, (.dat 23 (.lst x1))), (10, (.dat 3 (.int x2))), (11, (.dat 3 (.int x3)))], [(.box 25 (.dat 25 x4))], 0⟩
noncomputable def s18_4 (x0 : Dt) : St := ⟨tsOf [(4, (.ptr 0 [] 0))], [(.box 25 (.dat 25 x0))], 0⟩
noncomputable def s18_1 (x0 : ByteArray) (x1 : List Dt) (x2 x3 : Int) (x4 : Dt) : St := ⟨tsOf [(1, (.dat 9 (.str x0))), (4, (.ptr 0 [] 0)), (9, (.dat 23 (.lst x1))), (10, (.dat 3 (.int x2))), (11, (.dat 3 (.int x3)))], [(.box 25 (.dat 25 x4))], 0⟩
noncomputable def s18_0 (x0 : ByteArray) (x1 : List Dt) (x2 x3 : Int) (x4 : Dt) : St := ⟨tsOf [(1, (.dat 9 (.str x0))), (4, (.ptr 0 [] 0)), (9, (.dat 23 (.lst x1))), (10, (.dat 3 (.int x2))), (11, (.dat 3 (.int x3)))], [(.box 25 (.dat 25 x4))], 0⟩
theorem schema_field_j3_eq (m : Nat) (M1 : Nat) (rec1 : ByteArray → List Dt → Int → Int → Dt → Option (Dt × Bool)) (h1 : ∀ (x0 : ByteArray) (x1 : List Dt) (x2 x3 : Int) (x4 : Dt), l18 jn m [1, 0, 1, 0] [] M1 (s18_1 x0 x1 x2 x3 x4) = rec1 x0 x1 x2 x3 x4) (x0 : ByteArray) (x1 : List Dt) (x2 x3 : Int) (x4 : Dt) : e18 jn m [1, 0, 1, 0, 0, 1, 1, 1] [M1] (s18_3 x0 x1 x2 x3 x4) = schema_field_j3 m rec1 x0 x1 x2 x3 x4 := by
  have h : ∀ J, e18 J m [1, 0, 1, 0, 0, 1, 1, 1] [M1] (s18_3 x0 x1 x2 x3 x4) =
    (J 1 2 M1 (s18_1 x0 x1 x2 (IntKind.wrap .i64 (x3 + 1)) x4) (l18 J m [1, 0, 1, 0] [] M1 (s18_1 x0 x1 x2 (IntKind.wrap .i64 (x3 + 1)) x4))) := fun J => by kernel_rfl
  exact (h jn).trans (by
    simp only [jn_eq, h1]
    rfl)
theorem schema_field_j2_eq (m : Nat) (M1 : Nat) (rec1 : ByteArray → List Dt → Int → Int → Dt → Option (Dt × Bool)) (h1 : ∀ (x0 : ByteArray) (x1 : List Dt) (x2 x3 : Int) (x4 : Dt), l18 jn m [1, 0, 1, 0] [] M1 (s18_1 x0 x1 x2 x3 x4) = rec1 x0 x1 x2 x3 x4) (x0 : ByteArray) (x1 : List Dt) (x2 x3 : Int) (x4 : Dt) : e18 jn m [1, 0, 1, 0, 0, 1, 1] [M1] (s18_2 x0 x1 x2 x3 x4) = schema_field_j2 m rec1 x0 x1 x2 x3 x4 := by
  have h : ∀ J, e18 J m [1, 0, 1, 0, 0, 1, 1] [M1] (s18_2 x0 x1 x2 x3 x4) =
    ((idx x1 x3).bind fun v0 =>
   (bif ((ByteArray.toList (Dt.S v0 0)) == (ByteArray.toList x0)) then
   some ((Dt.fld v0 1), true)
   else
   (J 0 6 0 (s18_3 x0 x1 x2 x3 x4) (e18 J m [1, 0, 1, 0, 0, 1, 1, 1] [M1] (s18_3 x0 x1 x2 x3 x4))))) := fun J => by kernel_rfl
  exact (h jn).trans (by
    simp only [jn_eq, schema_field_j3_eq m M1 rec1 h1]
    rfl)
theorem schema_field_j4_eq (m : Nat) (x0 : Dt) : e18 jn m [1, 1] [] (s18_4 x0) = schema_field_j4 m x0 := by
  have h : ∀ J, e18 J m [1, 1] [] (s18_4 x0) =
    some (kza2373, false) := fun J => by kernel_rfl
  exact (h jn).trans (rfl)
theorem schema_field_l1_eq (m : Nat) : ∀ (M1 : Nat) (x0 : ByteArray) (x1 : List Dt) (x2 x3 : Int) (x4 : Dt), l18 jn m [1, 0, 1, 0] [] M1 (s18_1 x0 x1 x2 x3 x4) = schema_field_l1 m M1 x0 x1 x2 x3 x4
  | 0, _, _, _, _, _ => rfl
  | M1 + 1, x0, x1, x2, x3, x4 => by
    have h : ∀ J, l18 J m [1, 0, 1, 0] [] (M1 + 1) (s18_1 x0 x1 x2 x3 x4) =
    (bif (decide (x3 < x2)) then
   (J 0 3 0 (s18_2 x0 x1 x2 x3 x4) (e18 J m [1, 0, 1, 0, 0, 1, 1] [M1] (s18_2 x0 x1 x2 x3 x4)))
    else
   (J 0 7 0 (s18_4 x4) (e18 J m [1, 1] [] (s18_4 x4)))) := fun J => by kernel_rfl
    refine (h jn).trans ?_
    simp only [jn_eq, schema_field_j2_eq m M1 (schema_field_l1 m M1) (fun x0 x1 x2 x3 x4 => schema_field_l1_eq m M1 x0 x1 x2 x3 x4), schema_field_j4_eq m]
    rfl
theorem schema_field_j0_eq (m : Nat) (x0 : ByteArray) (x1 : List Dt) (x2 x3 : Int) (x4 : Dt) : e18 jn m [1, 0, 1] [] (s18_0 x0 x1 x2 x3 x4) = schema_field_j0 m x0 x1 x2 x3 x4 := by
  have h : ∀ J, e18 J m [1, 0, 1] [] (s18_0 x0 x1 x2 x3 x4) =
    (J 1 2 (Nat.succ m) (s18_1 x0 x1 x2 x3 x4) (l18 J m [1, 0, 1, 0] [] (Nat.succ m) (s18_1 x0 x1 x2 x3 x4))) := fun J => by kernel_rfl
  exact (h jn).trans (by
    simp only [jn_eq, schema_field_l1_eq m]
    rfl)
theorem schema_field_eq (m : Nat) (a0 : Dt) (a1 : ByteArray) : e18 jn m [] [] ⟨[(.dat 25 a0), (.dat 9 (.str a1))], [], 0⟩ = schema_field (m + 1) a0 a1 := by
  have h : ∀ J, e18 J m [] [] ⟨[(.dat 25 a0), (.dat 9 (.str a1))], [], 0⟩ =
    (J 0 2 0 (s18_0 a1 (Dt.L a0 4) (List.length (Dt.L a0 4) : Int) 0 kza2373) (e18 J m [1, 0, 1] [] (s18_0 a1 (Dt.L a0 4) (List.length (Dt.L a0 4) : Int) 0 kza2373))) := fun J => by kernel_rfl
  refine (h jn).trans ?_
  simp only [jn_eq, schema_field_j0_eq m]
  rfl
noncomputable def d21 (q : Res) : Option Bool := match q with
  | (.dat T0 x0, []) => bif Nat.beq T0 4 then some x0.toBool else none
  | _ => none
theorem d21_sim {b : Res} {r : Bool} (h : d21 b = some r) : Sim Tryd.prog b ((.dat 4 (.bool r)), []) := by
  unfold d21 at h
  split at h
  · obtain ⟨hc, h2⟩ := bif_some h
    cases h2
    have e0 := beq_eq hc
    subst e0
    exact Sim.of (.of (.dat (.bool Tryd.underlying4)) rfl rfl) .nil
  · cases h
noncomputable def e21 (J : Nat → Nat → Nat → St → Option Bool → Option Bool) (m : Nat) (p ms : List Nat) (σ : St) := evAt Tryd.prog env (ct m) J (m + 1) 46 9 Tryd.f46 d21 p ms σ
noncomputable def l21 (J : Nat → Nat → Nat → St → Option Bool → Option Bool) (m : Nat) (p ms : List Nat) (M : Nat) (σ : St) := loopAt Tryd.prog env (ct m) J (m + 1) 46 9 Tryd.f46 d21 p ms M σ
theorem i21_eq (m : Nat) (a0 a1 : Dt) : e21 jn m [] [] ⟨[(.dat 51 a0), (.rptr 56 a1)], [], 0⟩ = i21 (m + 1) a0 a1 := by
  have h : ∀ J, e21 J m [] [] ⟨[(.dat 51 a0), (.rptr 56 a1)], [], 0⟩ =
    some ((ByteArray.toList (Dt.S a0 0)) == (ByteArray.toList (Dt.S a1 0))) := fun J => by kernel_rfl
  refine (h jn).trans ?_
  
  rfl
noncomputable def d20 (q : Res) : Option Int := match q with
  | (.dat T0 x0, []) => bif Nat.beq T0 3 then some x0.toInt else none
  | _ => none
theorem d20_sim {b : Res} {r : Int} (h : d20 b = some r) : Sim Tryd.prog b ((.dat 3 (.int r)), []) := by
  unfold d20 at h
  split at h
  · obtain ⟨hc, h2⟩ := bif_some h
    cases h2
    have e0 := beq_eq hc
    subst e0
    exact Sim.of (.of (.dat (.int Tryd.underlying3)) rfl rfl) .nil
  · cases h
noncomputable def e20 (J : Nat → Nat → Nat → St → Option Int → Option Int) (m : Nat) (p ms : List Nat) (σ : St) := evAt Tryd.prog env (ct m) J (m + 1) 68 19 Tryd.f68 d20 p ms σ
noncomputable def l20 (J : Nat → Nat → Nat → St → Option Int → Option Int) (m : Nat) (p ms : List Nat) (M : Nat) (σ : St) := loopAt Tryd.prog env (ct m) J (m + 1) 68 19 Tryd.f68 d20 p ms M σ
noncomputable def s20_3 (x0 : List Dt) (x1 : Dt) (x2 x3 : Int) : St := ⟨tsOf [(0, (.dat 27 (.lst x0))), (1, (.fn 46 [(.rptr 56 x1)])), (7, (.dat 3 (.int x2))), (8, (.dat 3 (.int x3)))], [], 0⟩
noncomputable def s20_2 (x0 : List Dt) (x1 : Dt) (x2 x3 : Int) : St := ⟨tsOf [(0, (.dat 27 (.lst x0))), (1, (.fn 46 [(.rptr 56 x1)])), (7, (.dat 3 (.int x2))), (8, (.dat 3 (.int x3)))], [], 0⟩
noncomputable def s20_4 : St := ⟨tsOf [], [], 0⟩
noncomputable def s20_1 (x0 : List Dt) (x1 : Dt) (x2 x3 : Int) : St := ⟨tsOf [(0, (.dat 27 (.lst x0))), (1, (.fn 46 [(.rptr 56 x1)])), (7, (.dat 3 (.int x2))), (8, (.dat 3 (.int x3)))], [], 0⟩
noncomputable def s20_0 (x0 : List Dt) (x1 : Dt) (x2 x3 : Int) : St := ⟨tsOf [(0, (.dat 27 (.lst x0))), (1, (.fn 46 [(.rptr 56 x1)])), (7, (.dat 3 (.int x2))), (8, (.dat 3 (.int x3)))], [], 0⟩
theorem i20_j3_eq (m : Nat) (M1 : Nat) (rec1 : List Dt → Dt → Int → Int → Option Int) (h1 : ∀ (x0 : List Dt) (x1 : Dt) (x2 x3 : Int), l20 jn m [1, 0, 1, 0] [] M1 (s20_1 x0 x1 x2 x3) = rec1 x0 x1 x2 x3) (x0 : List Dt) (x1 : Dt) (x2 x3 : Int) : e20 jn m [1, 0, 1, 0, 0, 1, 1, 1] [M1] (s20_3 x0 x1 x2 x3) = i20_j3 m rec1 x0 x1 x2 x3 := by
  have h : ∀ J, e20 J m [1, 0, 1, 0, 0, 1, 1, 1] [M1] (s20_3 x0 x1 x2 x3) =
    (J 1 2 M1 (s20_1 x0 x1 x2 (IntKind.wrap .i64 (x3 + 1))) (l20 J m [1, 0, 1, 0] [] M1 (s20_1 x0 x1 x2 (IntKind.wrap .i64 (x3 + 1))))) := fun J => by kernel_rfl
  exact (h jn).trans (by
    simp only [jn_eq, h1]
    rfl)
theorem i20_j2_eq (m : Nat) (M1 : Nat) (rec1 : List Dt → Dt → Int → Int → Option Int) (h1 : ∀ (x0 : List Dt) (x1 : Dt) (x2 x3 : Int), l20 jn m [1, 0, 1, 0] [] M1 (s20_1 x0 x1 x2 x3) = rec1 x0 x1 x2 x3) (x0 : List Dt) (x1 : Dt) (x2 x3 : Int) : e20 jn m [1, 0, 1, 0, 0, 1, 1] [M1] (s20_2 x0 x1 x2 x3) = i20_j2 m rec1 x0 x1 x2 x3 := by
  have h : ∀ J, e20 J m [1, 0, 1, 0, 0, 1, 1] [M1] (s20_2 x0 x1 x2 x3) =
    ((idx x0 x3).bind fun v0 =>
   ((i21 m v0 x1).bind fun r1 =>
   (bif r1 then
   some x3
   else
   (J 0 6 0 (s20_3 x0 x1 x2 x3) (e20 J m [1, 0, 1, 0, 0, 1, 1, 1] [M1] (s20_3 x0 x1 x2 x3)))))) := fun J => by kernel_rfl
  exact (h jn).trans (by
    simp only [jn_eq, i20_j3_eq m M1 rec1 h1]
    rfl)
theorem i20_j4_eq (m : Nat) : e20 jn m [1, 1] [] s20_4 = i20_j4 m := by
  have h : ∀ J, e20 J m [1, 1] [] s20_4 =
    some (-1) := fun J => by kernel_rfl
  exact (h jn).trans (rfl)
theorem i20_l1_eq (m : Nat) : ∀ (M1 : Nat) (x0 : List Dt) (x1 : Dt) (x2 x3 : Int), l20 jn m [1, 0, 1, 0] [] M1 (s20_1 x0 x1 x2 x3) = i20_l1 m M1 x0 x1 x2 x3
  | 0, _, _, _, _ => rfl
  | M1 + 1, x0, x1, x2, x3 => by
    have h : ∀ J, l20 J m [1, 0, 1, 0] [] (M1 + 1) (s20_1 x0 x1 x2 x3) =
    (bif (decide (x3 < x2)) then
   (J 0 3 0 (s20_2 x0 x1 x2 x3) (e20 J m [1, 0, 1, 0, 0, 1, 1] [M1] (s20_2 x0 x1 x2 x3)))
    else
   (J 0 7 0 s20_4 (e20 J m [1, 1] [] s20_4))) := fun J => by kernel_rfl
    refine (h jn).trans ?_
    simp only [jn_eq, i20_j2_eq m M1 (i20_l1 m M1) (fun x0 x1 x2 x3 => i20_l1_eq m M1 x0 x1 x2 x3), i20_j4_eq m]
    rfl
theorem i20_j0_eq (m : Nat) (x0 : List Dt) (x1 : Dt) (x2 x3 : Int) : e20 jn m [1, 0, 1] [] (s20_0 x0 x1 x2 x3) = i20_j0 m x0 x1 x2 x3 := by
  have h : ∀ J, e20 J m [1, 0, 1] [] (s20_0 x0 x1 x2 x3) =
    (J 1 2 (Nat.succ m) (s20_1 x0 x1 x2 x3) (l20 J m [1, 0, 1, 0] [] (Nat.succ m) (s20_1 x0 x1 x2 x3))) := fun J => by kernel_rfl
  exact (h jn).trans (by
    simp only [jn_eq, i20_l1_eq m]
    rfl)
theorem i20_eq (m : Nat) (a0 : List Dt) (a1 : Dt) : e20 jn m [] [] ⟨[(.dat 27 (.lst a0)), (.fn 46 [(.rptr 56 a1)])], [], 0⟩ = i20 (m + 1) a0 a1 := by
  have h : ∀ J, e20 J m [] [] ⟨[(.dat 27 (.lst a0)), (.fn 46 [(.rptr 56 a1)])], [], 0⟩ =
    (J 0 2 0 (s20_0 a0 a1 (List.length a0 : Int) 0) (e20 J m [1, 0, 1] [] (s20_0 a0 a1 (List.length a0 : Int) 0))) := fun J => by kernel_rfl
  refine (h jn).trans ?_
  simp only [jn_eq, i20_j0_eq m]
  rfl
noncomputable def d19 (q : Res) : Option Bool := match q with
  | (.dat T0 x0, []) => bif Nat.beq T0 4 then some x0.toBool else none
  | _ => none
theorem d19_sim {b : Res} {r : Bool} (h : d19 b = some r) : Sim Tryd.prog b ((.dat 4 (.bool r)), []) := by
  unfold d19 at h
  split at h
  · obtain ⟨hc, h2⟩ := bif_some h
    cases h2
    have e0 := beq_eq hc
    subst e0
    exact Sim.of (.of (.dat (.bool Tryd.underlying4)) rfl rfl) .nil
  · cases h
noncomputable def e19 (J : Nat → Nat → Nat → St → Option Bool → Option Bool) (m : Nat) (p ms : List Nat) (σ : St) := evAt Tryd.prog env (ct m) J (m + 1) 47 9 Tryd.f47 d19 p ms σ
noncomputable def l19 (J : Nat → Nat → Nat → St → Option Bool → Option Bool) (m : Nat) (p ms : List Nat) (M : Nat) (σ : St) := loopAt Tryd.prog env (ct m) J (m + 1) 47 9 Tryd.f47 d19 p ms M σ
theorem i19_eq (m : Nat) (a0 : List Dt) (a1 : Dt) : e19 jn m [] [] ⟨[(.dat 27 (.lst a0)), (.fn 46 [(.rptr 56 a1)])], [], 0⟩ = i19 (m + 1) a0 a1 := by
  have h : ∀ J, e19 J m [] [] ⟨[(.dat 27 (.lst a0)), (.fn 46 [(.rptr 56 a1)])], [], 0⟩ =
    ((i20 m a0 a1).bind fun r0 =>
   some (decide (0 ≤ r0))) := fun J => by kernel_rfl
  refine (h jn).trans ?_
  
  rfl
noncomputable def d27 (q : Res) : Option Int := match q with
  | (.dat T0 x0, []) => bif Nat.beq T0 3 then some x0.toInt else none
  | _ => none
theorem d27_sim {b : Res} {r : Int} (h : d27 b = some r) : Sim Tryd.prog b ((.dat 3 (.int r)), []) := by
  unfold d27 at h
  split at h
  · obtain ⟨hc, h2⟩ := bif_some h
    cases h2
    have e0 := beq_eq hc
    subst e0
    exact Sim.of (.of (.dat (.int Tryd.underlying3)) rfl rfl) .nil
  · cases h
noncomputable def e27 (J : Nat → Nat → Nat → St → Option Int → Option Int) (m : Nat) (p ms : List Nat) (σ : St) := evAt Tryd.prog env (ct m) J (m + 1) 28 69 Tryd.f28 d27 p ms σ
noncomputable def l27 (J : Nat → Nat → Nat → St → Option Int → Option Int) (m : Nat) (p ms : List Nat) (M : Nat) (σ : St) := loopAt Tryd.prog env (ct m) J (m + 1) 28 69 Tryd.f28 d27 p ms M σ
noncomputable def s27_5 (x0 x1 x2 : Int) (x3 : Dt) : St := ⟨tsOf [(1, (.dat 3 (.int x0))), (2, (.dat 3 (.int x1))), (3, (.ptr 0 [] 0)), (7, (.dat 3 (.int x2)))], [(.box 25 (.dat 25 x3))], 0⟩
noncomputable def s27_4 (x0 x1 x2 : Int) (x3 : Dt) : St := ⟨tsOf [(1, (.dat 3 (.int x0))), (2, (.dat 3 (.int x1))), (3, (.ptr 0 [] 0)), (7, (.dat 3 (.int x2)))], [(.box 25 (.dat 25 x3))], 0⟩
noncomputable def s27_11 (x0 x1 x2 : Int) (x3 : Dt) : St := ⟨tsOf [(1, (.dat 3 (.int x0))), (2, (.dat 3 (.int x1))), (3, (.ptr 0 [] 0)), (8, (.dat 3 (.int x2)))], [(.box 25 (.dat 25 x3))], 0⟩
noncomputable def s27_10 (x0 x1 x2 : Int) (x3 : Dt) : St := ⟨tsOf [(1, (.dat 3 (.int x0))), (2, (.dat 3 (.int x1))), (3, (.ptr 0 [] 0)), (8, (.dat 3 (.int x2)))], [(.box 25 (.dat 25 x3))], 0⟩
noncomputable def s27_9 (x0 x1 x2 : Int) (x3 : Dt) : St := ⟨tsOf [(1, (.dat 3 (.int x0))), (2, (.dat 3 (.int x1))), (3, (.ptr 0 [] 0)), (8, (.dat 3 (.int x2)))], [(.box 25 (.dat 25 x3))], 0⟩
noncomputable def s27_12 (x0 : Int) : St := ⟨tsOf [(2, (.dat 3 (.int x0)))], [], 0⟩
noncomputable def s27_8 (x0 x1 x2 : Int) (x3 : Dt) : St := ⟨tsOf [(1, (.dat 3 (.int x0))), (2, (.dat 3 (.int x1))), (3, (.ptr 0 [] 0)), (8, (.dat 3 (.int x2)))], [(.box 25 (.dat 25 x3))], 0⟩
noncomputable def s27_7 (x0 x1 x2 : Int) (x3 : Dt) : St := ⟨tsOf [(1, (.dat 3 (.int x0))), (2, (.dat 3 (.int x1))), (3, (.ptr 0 [] 0)), (8, (.dat 3 (.int x2)))], [(.box 25 (.dat 25 x3))], 0⟩
noncomputable def s27_6 (x0 x1 : Int) (x2 : Dt) : St := ⟨tsOf [(1, (.dat 3 (.int x0))), (2, (.dat 3 (.int x1))), (3, (.ptr 0 [] 0))], [(.box 25 (.dat 25 x2))], 0⟩
noncomputable def s27_3 (x0 x1 x2 : Int) (x3 : Dt) : St := ⟨tsOf [(1, (.dat 3 (.int x0))), (2, (.dat 3 (.int x1))), (3, (.ptr 0 [] 0)), (7, (.dat 3 (.int x2)))], [(.box 25 (.dat 25 x3))], 0⟩
noncomputable def s27_2 (x0 x1 x2 : Int) (x3 : Dt) : St := ⟨tsOf [(1, (.dat 3 (.int x0))), (2, (.dat 3 (.int x1))), (3, (.ptr 0 [] 0)), (7, (.dat 3 (.int x2)))], [(.box 25 (.dat 25 x3))], 0⟩
noncomputable def s27_1 (x0 x1 : Int) (x2 : Dt) : St := ⟨tsOf [(1, (.dat 3 (.int x0))), (2, (.dat 3 (.int x1))), (3, (.ptr 0 [] 0))], [(.box 25 (.dat 25 x2))], 0⟩
noncomputable def s27_0 (x0 x1 : Int) (x2 : Bool) (x3 : Dt) : St := ⟨tsOf [(1, (.dat 3 (.int x0))), (2, (.dat 3 (.int x1))), (3, (.ptr 0 [] 0)), (18, (.dat 4 (.bool x2)))], [(.box 25 (.dat 25 x3))], 0⟩
theorem ref02_count_j5_eq (m : Nat) (M3 : Nat) (rec3 : Int → Int → Int → Dt → Option Int) (h3 : ∀ (x0 x1 x2 : Int) (x3 : Dt), l27 jn m [1, 1, 1, 0, 1, 0] [] M3 (s27_3 x0 x1 x2 x3) = rec3 x0 x1 x2 x3) (x0 x1 x2 : Int) (x3 : Dt) : e27 jn m [1, 1, 1, 0, 1, 0, 0, 1, 1] [M3] (s27_5 x0 x1 x2 x3) = ref02_count_j5 m (ref02_count m) rec3 x0 x1 x2 x3 := by
  have h : ∀ J, e27 J m [1, 1, 1, 0, 1, 0, 0, 1, 1] [M3] (s27_5 x0 x1 x2 x3) =
    (J 1 5 M3 (s27_3 x0 x1 (IntKind.wrap .i64 (x2 + 1)) x3) (l27 J m [1, 1, 1, 0, 1, 0] [] M3 (s27_3 x0 x1 (IntKind.wrap .i64 (x2 + 1)) x3))) := fun J => by kernel_rfl
  exact (h jn).trans (by
    simp only [jn_eq, h3]
    rfl)
theorem ref02_count_j4_eq (m : Nat) (M3 : Nat) (rec3 : Int → Int → Int → Dt → Option Int) (h3 : ∀ (x0 x1 x2 : Int) (x3 : Dt), l27 jn m [1, 1, 1, 0, 1, 0] [] M3 (s27_3 x0 x1 x2 x3) = rec3 x0 x1 x2 x3) (x0 x1 x2 : Int) (x3 : Dt) : e27 jn m [1, 1, 1, 0, 1, 0, 0, 1] [M3] (s27_4 x0 x1 x2 x3) = ref02_count_j4 m (ref02_count m) rec3 x0 x1 x2 x3 := by
  have h : ∀ J, e27 J m [1, 1, 1, 0, 1, 0, 0, 1] [M3] (s27_4 x0 x1 x2 x3) =
    ((idx (Dt.L x3 3) x2).bind fun v0 =>
   ((ref02_count m v0 (IntKind.wrap .i64 (x0 + 1)) x1).bind fun r1 =>
   (J 0 6 0 (s27_5 x0 r1 x2 x3) (e27 J m [1, 1, 1, 0, 1, 0, 0, 1, 1] [M3] (s27_5 x0 r1 x2 x3))))) := fun J => by kernel_rfl
  exact (h jn).trans (by
    simp only [jn_eq, ref02_count_j5_eq m M3 rec3 h3]
    rfl)
theorem ref02_count_j11_eq (m : Nat) (M8 : Nat) (rec8 : Int → Int → Int → Dt → Option Int) (h8 : ∀ (x0 x1 x2 : Int) (x3 : Dt), l27 jn m [1, 1, 1, 1, 0, 1, 0] [] M8 (s27_8 x0 x1 x2 x3) = rec8 x0 x1 x2 x3) (x0 x1 x2 : Int) (x3 : Dt) : e27 jn m [1, 1, 1, 1, 0, 1, 0, 0, 1, 1] [M8] (s27_11 x0 x1 x2 x3) = ref02_count_j11 m (ref02_count m) rec8 x0 x1 x2 x3 := by
  have h : ∀ J, e27 J m [1, 1, 1, 1, 0, 1, 0, 0, 1, 1] [M8] (s27_11 x0 x1 x2 x3) =
    (J 1 9 M8 (s27_8 x0 x1 (IntKind.wrap .i64 (x2 + 1)) x3) (l27 J m [1, 1, 1, 1, 0, 1, 0] [] M8 (s27_8 x0 x1 (IntKind.wrap .i64 (x2 + 1)) x3))) := fun J => by kernel_rfl
  exact (h jn).trans (by
    simp only [jn_eq, h8]
    rfl)
theorem ref02_count_j10_eq (m : Nat) (M8 : Nat) (rec8 : Int → Int → Int → Dt → Option Int) (h8 : ∀ (x0 x1 x2 : Int) (x3 : Dt), l27 jn m [1, 1, 1, 1, 0, 1, 0] [] M8 (s27_8 x0 x1 x2 x3) = rec8 x0 x1 x2 x3) (x0 x1 x2 : Int) (x3 : Dt) : e27 jn m [1, 1, 1, 1, 0, 1, 0, 0, 1, 0, 0, 1] [M8] (s27_10 x0 x1 x2 x3) = ref02_count_j10 m (ref02_count m) rec8 x0 x1 x2 x3 := by
  have h : ∀ J, e27 J m [1, 1, 1, 1, 0, 1, 0, 0, 1, 0, 0, 1] [M8] (s27_10 x0 x1 x2 x3) =
    ((idx (Dt.L x3 4) x2).bind fun v3 =>
   ((ref02_count m (Dt.fld v3 1) (IntKind.wrap .i64 (x0 + 1)) x1).bind fun r4 =>
   (J 0 10 0 (s27_11 x0 r4 x2 x3) (e27 J m [1, 1, 1, 1, 0, 1, 0, 0, 1, 1] [M8] (s27_11 x0 r4 x2 x3))))) := fun J => by kernel_rfl
  exact (h jn).trans (by
    simp only [jn_eq, ref02_count_j11_eq m M8 rec8 h8]
    rfl)
theorem ref02_count_j9_eq (m : Nat) (M8 : Nat) (rec8 : Int → Int → Int → Dt → Option Int) (h8 : ∀ (x0 x1 x2 : Int) (x3 : Dt), l27 jn m [1, 1, 1, 1, 0, 1, 0] [] M8 (s27_8 x0 x1 x2 x3) = rec8 x0 x1 x2 x3) (x0 x1 x2 : Int) (x3 : Dt) : e27 jn m [1, 1, 1, 1, 0, 1, 0, 0, 1] [M8] (s27_9 x0 x1 x2 x3) = ref02_count_j9 m (ref02_count m) rec8 x0 x1 x2 x3 := by
  have h : ∀ J, e27 J m [1, 1, 1, 1, 0, 1, 0, 0, 1] [M8] (s27_9 x0 x1 x2 x3) =
    ((idx (Dt.L x3 4) x2).bind fun v2 =>
   (bif (decide (200 < (ByteArray.size (Dt.S v2 0) : Int))) then
   some (-1)
   else
   (J 0 13 0 (s27_10 x0 x1 x2 x3) (e27 J m [1, 1, 1, 1, 0, 1, 0, 0, 1, 0, 0, 1] [M8] (s27_10 x0 x1 x2 x3))))) := fun J => by kernel_rfl
  exact (h jn).trans (by
    simp only [jn_eq, ref02_count_j10_eq m M8 rec8 h8]
    rfl)
theorem ref02_count_j12_eq (m : Nat) (x0 : Int) : e27 jn m [1, 1, 1, 1, 1] [] (s27_12 x0) = ref02_count_j12 m (ref02_count m) x0 := by
  have h : ∀ J, e27 J m [1, 1, 1, 1, 1] [] (s27_12 x0) =
    some x0 := fun J => by kernel_rfl
  exact (h jn).trans (rfl)
theorem ref02_count_l8_eq (m : Nat) : ∀ (M8 : Nat) (x0 x1 x2 : Int) (x3 : Dt), l27 jn m [1, 1, 1, 1, 0, 1, 0] [] M8 (s27_8 x0 x1 x2 x3) = ref02_count_l8 m (ref02_count m) M8 x0 x1 x2 x3
  | 0, _, _, _, _ => rfl
  | M8 + 1, x0, x1, x2, x3 => by
    have h : ∀ J, l27 J m [1, 1, 1, 1, 0, 1, 0] [] (M8 + 1) (s27_8 x0 x1 x2 x3) =
    (bif (decide (x2 < (List.length (Dt.L x3 4) : Int))) then
   (bif (decide (0 ≤ x1)) then
   (J 0 11 0 (s27_9 x0 x1 x2 x3) (e27 J m [1, 1, 1, 1, 0, 1, 0, 0, 1] [M8] (s27_9 x0 x1 x2 x3)))
   else
   (J 0 14 0 (s27_12 x1) (e27 J m [1, 1, 1, 1, 1] [] (s27_12 x1))))
    else
   (J 0 14 0 (s27_12 x1) (e27 J m [1, 1, 1, 1, 1] [] (s27_12 x1)))) := fun J => by kernel_rfl
    refine (h jn).trans ?_
    simp only [jn_eq, ref02_count_j9_eq m M8 (ref02_count_l8 m (ref02_count m) M8) (fun x0 x1 x2 x3 => ref02_count_l8_eq m M8 x0 x1 x2 x3), ref02_count_j12_eq m]
    rfl
theorem ref02_count_j7_eq (m : Nat) (x0 x1 x2 : Int) (x3 : Dt) : e27 jn m [1, 1, 1, 1, 0, 1] [] (s27_7 x0 x1 x2 x3) = ref02_count_j7 m (ref02_count m) x0 x1 x2 x3 := by
  have h : ∀ J, e27 J m [1, 1, 1, 1, 0, 1] [] (s27_7 x0 x1 x2 x3) =
    (J 1 9 (Nat.succ m) (s27_8 x0 x1 x2 x3) (l27 J m [1, 1, 1, 1, 0, 1, 0] [] (Nat.succ m) (s27_8 x0 x1 x2 x3))) := fun J => by kernel_rfl
  exact (h jn).trans (by
    simp only [jn_eq, ref02_count_l8_eq m]
    rfl)
theorem ref02_count_j6_eq (m : Nat) (x0 x1 : Int) (x2 : Dt) : e27 jn m [1, 1, 1, 1] [] (s27_6 x0 x1 x2) = ref02_count_j6 m (ref02_count m) x0 x1 x2 := by
  have h : ∀ J, e27 J m [1, 1, 1, 1] [] (s27_6 x0 x1 x2) =
    (J 0 9 0 (s27_7 x0 x1 0 x2) (e27 J m [1, 1, 1, 1, 0, 1] [] (s27_7 x0 x1 0 x2))) := fun J => by kernel_rfl
  exact (h jn).trans (by
    simp only [jn_eq, ref02_count_j7_eq m]
    rfl)
theorem ref02_count_l3_eq (m : Nat) : ∀ (M3 : Nat) (x0 x1 x2 : Int) (x3 : Dt), l27 jn m [1, 1, 1, 0, 1, 0] [] M3 (s27_3 x0 x1 x2 x3) = ref02_count_l3 m (ref02_count m) M3 x0 x1 x2 x3
  | 0, _, _, _, _ => rfl
  | M3 + 1, x0, x1, x2, x3 => by
    have h : ∀ J, l27 J m [1, 1, 1, 0, 1, 0] [] (M3 + 1) (s27_3 x0 x1 x2 x3) =
    (bif (decide (x2 < (List.length (Dt.L x3 3) : Int))) then
   (bif (decide (0 ≤ x1)) then
   (J 0 7 0 (s27_4 x0 x1 x2 x3) (e27 J m [1, 1, 1, 0, 1, 0, 0, 1] [M3] (s27_4 x0 x1 x2 x3)))
   else
   (J 0 8 0 (s27_6 x0 x1 x3) (e27 J m [1, 1, 1, 1] [] (s27_6 x0 x1 x3))))
    else
   (J 0 8 0 (s27_6 x0 x1 x3) (e27 J m [1, 1, 1, 1] [] (s27_6 x0 x1 x3)))) := fun J => by kernel_rfl
    refine (h jn).trans ?_
    simp only [jn_eq, ref02_count_j4_eq m M3 (ref02_count_l3 m (ref02_count m) M3) (fun x0 x1 x2 x3 => ref02_count_l3_eq m M3 x0 x1 x2 x3), ref02_count_j6_eq m]
    rfl
theorem ref02_count_j2_eq (m : Nat) (x0 x1 x2 : Int) (x3 : Dt) : e27 jn m [1, 1, 1, 0, 1] [] (s27_2 x0 x1 x2 x3) = ref02_count_j2 m (ref02_count m) x0 x1 x2 x3 := by
  have h : ∀ J, e27 J m [1, 1, 1, 0, 1] [] (s27_2 x0 x1 x2 x3) =
    (J 1 5 (Nat.succ m) (s27_3 x0 x1 x2 x3) (l27 J m [1, 1, 1, 0, 1, 0] [] (Nat.succ m) (s27_3 x0 x1 x2 x3))) := fun J => by kernel_rfl
  exact (h jn).trans (by
    simp only [jn_eq, ref02_count_l3_eq m]
    rfl)
theorem ref02_count_j1_eq (m : Nat) (x0 x1 : Int) (x2 : Dt) : e27 jn m [1, 1, 1] [] (s27_1 x0 x1 x2) = ref02_count_j1 m (ref02_count m) x0 x1 x2 := by
  have h : ∀ J, e27 J m [1, 1, 1] [] (s27_1 x0 x1 x2) =
    (J 0 5 0 (s27_2 x0 x1 0 x2) (e27 J m [1, 1, 1, 0, 1] [] (s27_2 x0 x1 0 x2))) := fun J => by kernel_rfl
  exact (h jn).trans (by
    simp only [jn_eq, ref02_count_j2_eq m]
    rfl)
theorem ref02_count_j0_eq (m : Nat) (x0 x1 : Int) (x2 : Bool) (x3 : Dt) : e27 jn m [1, 1, 0, 1] [] (s27_0 x0 x1 x2 x3) = ref02_count_j0 m (ref02_count m) x0 x1 x2 x3 := by
  have h : ∀ J, e27 J m [1, 1, 0, 1] [] (s27_0 x0 x1 x2 x3) =
    (bif x2 then
   some (-1)
    else
   (J 0 4 0 (s27_1 x0 x1 x3) (e27 J m [1, 1, 1] [] (s27_1 x0 x1 x3)))) := fun J => by kernel_rfl
  exact (h jn).trans (by
    simp only [jn_eq, ref02_count_j1_eq m]
    rfl)
theorem ref02_count_eq (m : Nat) (a0 : Dt) (a1 a2 : Int) : e27 jn m [] [] ⟨[(.dat 25 a0), (.dat 3 (.int a1)), (.dat 3 (.int a2))], [], 0⟩ = ref02_count (m + 1) a0 a1 a2 := by
  have h : ∀ J, e27 J m [] [] ⟨[(.dat 25 a0), (.dat 3 (.int a1)), (.dat 3 (.int a2))], [], 0⟩ =
    (bif (decide (40 < a1)) then
   (J 0 3 0 (s27_0 a1 (IntKind.wrap .i64 (a2 - 1)) true a0) (e27 J m [1, 1, 0, 1] [] (s27_0 a1 (IntKind.wrap .i64 (a2 - 1)) true a0)))
    else
   (J 0 3 0 (s27_0 a1 (IntKind.wrap .i64 (a2 - 1)) (decide (5000 < (ByteArray.size (Dt.S a0 2) : Int))) a0) (e27 J m [1, 1, 0, 1] [] (s27_0 a1 (IntKind.wrap .i64 (a2 - 1)) (decide (5000 < (ByteArray.size (Dt.S a0 2) : Int))) a0)))) := fun J => by kernel_rfl
  refine (h jn).trans ?_
  simp only [jn_eq, ref02_count_j0_eq m]
  rfl
noncomputable def d6 (q : Res) : Option Bool := match q with
  | (.dat T0 x0, []) => bif Nat.beq T0 4 then some x0.toBool else none
  | _ => none
theorem d6_sim {b : Res} {r : Bool} (h : d6 b = some r) : Sim Tryd.prog b ((.dat 4 (.bool r)), []) := by
  unfold d6 at h
  split at h
  · obtain ⟨hc, h2⟩ := bif_some h
    cases h2
    have e0 := beq_eq hc
    subst e0
    exact Sim.of (.of (.dat (.bool Tryd.underlying4)) rfl rfl) .nil
  · cases h
noncomputable def e6 (J : Nat → Nat → Nat → St → Option Bool → Option Bool) (m : Nat) (p ms : List Nat) (σ : St) := evAt Tryd.prog env (ct m) J (m + 1) 15 9 Tryd.f15 d6 p ms σ
noncomputable def l6 (J : Nat → Nat → Nat → St → Option Bool → Option Bool) (m : Nat) (p ms : List Nat) (M : Nat) (σ : St) := loopAt Tryd.prog env (ct m) J (m + 1) 15 9 Tryd.f15 d6 p ms M σ
theorem ref02_Few_eq (m : Nat) (a0 : Dt) (a1 : Int) : e6 jn m [] [] ⟨[(.dat 25 a0), (.dat 3 (.int a1))], [], 0⟩ = ref02_Few (m + 1) a0 a1 := by
  have h : ∀ J, e6 J m [] [] ⟨[(.dat 25 a0), (.dat 3 (.int a1))], [], 0⟩ =
    ((ref02_count m a0 1 a1).bind fun r0 =>
   some (decide (0 ≤ r0))) := fun J => by kernel_rfl
  refine (h jn).trans ?_
  
  rfl
noncomputable def d1 (q : Res) : Option Bool := match q with
  | (.dat T0 x0, []) => bif Nat.beq T0 4 then some x0.toBool else none
  | _ => none
theorem d1_sim {b : Res} {r : Bool} (h : d1 b = some r) : Sim Tryd.prog b ((.dat 4 (.bool r)), []) := by
  unfold d1 at h
  split at h
  · obtain ⟨hc, h2⟩ := bif_some h
    cases h2
    have e0 := beq_eq hc
    subst e0
    exact Sim.of (.of (.dat (.bool Tryd.underlying4)) rfl rfl) .nil
  · cases h
noncomputable def e1 (J : Nat → Nat → Nat → St → Option Bool → Option Bool) (m : Nat) (p ms : List Nat) (σ : St) := evAt Tryd.prog env (ct m) J (m + 1) 11 12 Tryd.f11 d1 p ms σ
noncomputable def l1 (J : Nat → Nat → Nat → St → Option Bool → Option Bool) (m : Nat) (p ms : List Nat) (M : Nat) (σ : St) := loopAt Tryd.prog env (ct m) J (m + 1) 11 12 Tryd.f11 d1 p ms M σ
theorem law14_few_eq (m : Nat) (a0 a1 : Dt) : e1 jn m [] [] ⟨[(.dat 30 a0), (.dat 25 a1)], [], 0⟩ = law14_few (m + 1) a0 a1 := by
  have h : ∀ J, e1 J m [] [] ⟨[(.dat 30 a0), (.dat 25 a1)], [], 0⟩ =
    ((ref14_Count m a0 81).bind fun r0 =>
   (bif (decide (r0 ≤ 80)) then
   ((ref02_Few m a1 300).bind fun r1 =>
   some r1)
   else
   some false)) := fun J => by kernel_rfl
  refine (h jn).trans ?_
  
  rfl
noncomputable def d37 (q : Res) : Option (List Dt) := match q with
  | (.tup [], [.row T0 x0]) => bif Nat.beq T0 22 then some x0 else none
  | _ => none
theorem d37_sim {b : Res} {r : List Dt} (h : d37 b = some r) : Sim Tryd.prog b ((.tup []), [(.row 22 r)]) := by
  unfold d37 at h
  split at h
  · obtain ⟨hc, h2⟩ := bif_some h
    cases h2
    have e0 := beq_eq hc
    subst e0
    exact Sim.of (.tup .nil) (.cons .same .nil)
  · cases h
noncomputable def e37 (J : Nat → Nat → Nat → St → Option (List Dt) → Option (List Dt)) (m : Nat) (p ms : List Nat) (σ : St) := evAt Tryd.prog env (ct m) J (m + 1) 106 38 Tryd.f106 d37 p ms σ
noncomputable def l37 (J : Nat → Nat → Nat → St → Option (List Dt) → Option (List Dt)) (m : Nat) (p ms : List Nat) (M : Nat) (σ : St) := loopAt Tryd.prog env (ct m) J (m + 1) 106 38 Tryd.f106 d37 p ms M σ
noncomputable def s37_3 (x0 x1 x2 x3 : Int) (x4 : List Dt) : St := ⟨tsOf [(0, (.row 0)), (1, (.dat 3 (.int x0))), (2, (.dat 3 (.int x1))), (3, (.dat 3 (.int x2))), (10, (.dat 3 (.int x3)))], [(.row 22 x4)], 1⟩
noncomputable def s37_2 (x0 x1 x2 x3 : Int) (x4 : List Dt) : St := ⟨tsOf [(0, (.row 0)), (1, (.dat 3 (.int x0))), (2, (.dat 3 (.int x1))), (3, (.dat 3 (.int x2))), (10, (.dat 3 (.int x3)))], [(.row 22 x4)], 1⟩
noncomputable def s37_1 (x0 x1 x2 x3 : Int) (x4 : List Dt) : St := ⟨tsOf [(0, (.row 0)), (1, (.dat 3 (.int x0))), (2, (.dat 3 (.int x1))), (3, (.dat 3 (.int x2))), (10, (.dat 3 (.int x3)))], [(.row 22 x4)], 1⟩
noncomputable def s37_0 (x0 x1 x2 x3 : Int) (x4 : List Dt) : St := ⟨tsOf [(0, (.row 0)), (1, (.dat 3 (.int x0))), (2, (.dat 3 (.int x1))), (3, (.dat 3 (.int x2))), (10, (.dat 3 (.int x3)))], [(.row 22 x4)], 1⟩
theorem i37_j3_eq (m : Nat) (M1 : Nat) (rec1 : Int → Int → Int → Int → List Dt → Option (List Dt)) (h1 : ∀ (x0 x1 x2 x3 : Int) (x4 : List Dt), l37 jn m [1, 0] [] M1 (s37_1 x0 x1 x2 x3 x4) = rec1 x0 x1 x2 x3 x4) (x0 x1 x2 x3 : Int) (x4 : List Dt) : e37 jn m [1, 0, 0, 1, 1] [M1] (s37_3 x0 x1 x2 x3 x4) = i37_j3 m rec1 x0 x1 x2 x3 x4 := by
  have h : ∀ J, e37 J m [1, 0, 0, 1, 1] [M1] (s37_3 x0 x1 x2 x3 x4) =
    (J 1 1 M1 (s37_1 x0 x1 x2 (IntKind.wrap .i64 (x3 + 1)) x4) (l37 J m [1, 0] [] M1 (s37_1 x0 x1 x2 (IntKind.wrap .i64 (x3 + 1)) x4))) := fun J => by kernel_rfl
  exact (h jn).trans (by
    simp only [jn_eq, h1]
    rfl)
theorem i37_j2_eq (m : Nat) (M1 : Nat) (rec1 : Int → Int → Int → Int → List Dt → Option (List Dt)) (h1 : ∀ (x0 x1 x2 x3 : Int) (x4 : List Dt), l37 jn m [1, 0] [] M1 (s37_1 x0 x1 x2 x3 x4) = rec1 x0 x1 x2 x3 x4) (x0 x1 x2 x3 : Int) (x4 : List Dt) : e37 jn m [1, 0, 0, 1] [M1] (s37_2 x0 x1 x2 x3 x4) = i37_j2 m rec1 x0 x1 x2 x3 x4 := by
  have h : ∀ J, e37 J m [1, 0, 0, 1] [M1] (s37_2 x0 x1 x2 x3 x4) =
    ((inL x4 (IntKind.wrap .i64 (x1 + x3))).bind fun v0 =>
   ((x4[(Int.toNat (IntKind.wrap .i64 (x1 + x3)))]?).bind fun v1 =>
   ((inL x4 (IntKind.wrap .i64 (x0 + x3))).bind fun v2 =>
   ((x4[(Int.toNat (IntKind.wrap .i64 (x0 + x3)))]?).bind fun v3 =>
   ((inL x4 (IntKind.wrap .i64 (x0 + x3))).bind fun v4 =>
   ((x4[(Int.toNat (IntKind.wrap .i64 (x0 + x3)))]?).bind fun v5 =>
   ((inL (List.set x4 (Int.toNat (IntKind.wrap .i64 (x0 + x3))) v1) (IntKind.wrap .i64 (x1 + x3))).bind fun v6 =>
   (((List.set x4 (Int.toNat (IntKind.wrap .i64 (x0 + x3))) v1)[(Int.toNat (IntKind.wrap .i64 (x1 + x3)))]?).bind fun v7 =>
   (J 0 2 0 (s37_3 x0 x1 x2 x3 (List.set (List.set x4 (Int.toNat (IntKind.wrap .i64 (x0 + x3))) v1) (Int.toNat (IntKind.wrap .i64 (x1 + x3))) v3)) (e37 J m [1, 0, 0, 1, 1] [M1] (s37_3 x0 x1 x2 x3 (List.set (List.set x4 (Int.toNat (IntKind.wrap .i64 (x0 + x3))) v1) (Int.toNat (IntKind.wrap .i64 (x1 + x3))) v3)))))))))))) := fun J => by kernel_rfl
  exact (h jn).trans (by
    simp only [jn_eq, i37_j3_eq m M1 rec1 h1]
    rfl)
theorem i37_l1_eq (m : Nat) : ∀ (M1 : Nat) (x0 x1 x2 x3 : Int) (x4 : List Dt), l37 jn m [1, 0] [] M1 (s37_1 x0 x1 x2 x3 x4) = i37_l1 m M1 x0 x1 x2 x3 x4
  | 0, _, _, _, _, _ => rfl
  | M1 + 1, x0, x1, x2, x3, x4 => by
    have h : ∀ J, l37 J m [1, 0] [] (M1 + 1) (s37_1 x0 x1 x2 x3 x4) =
    (bif (decide (x3 < x2)) then
   (J 0 3 0 (s37_2 x0 x1 x2 x3 x4) (e37 J m [1, 0, 0, 1] [M1] (s37_2 x0 x1 x2 x3 x4)))
    else
   some x4) := fun J => by kernel_rfl
    refine (h jn).trans ?_
    simp only [jn_eq, i37_j2_eq m M1 (i37_l1 m M1) (fun x0 x1 x2 x3 x4 => i37_l1_eq m M1 x0 x1 x2 x3 x4)]
    rfl
theorem i37_j0_eq (m : Nat) (x0 x1 x2 x3 : Int) (x4 : List Dt) : e37 jn m [1] [] (s37_0 x0 x1 x2 x3 x4) = i37_j0 m x0 x1 x2 x3 x4 := by
  have h : ∀ J, e37 J m [1] [] (s37_0 x0 x1 x2 x3 x4) =
    (J 1 1 (Nat.succ m) (s37_1 x0 x1 x2 x3 x4) (l37 J m [1, 0] [] (Nat.succ m) (s37_1 x0 x1 x2 x3 x4))) := fun J => by kernel_rfl
  exact (h jn).trans (by
    simp only [jn_eq, i37_l1_eq m]
    rfl)
theorem i37_eq (m : Nat) (a0 a1 a2 : Int) (a3 : List Dt) : e37 jn m [] [] ⟨[(.row 0), (.dat 3 (.int a0)), (.dat 3 (.int a1)), (.dat 3 (.int a2)), (.fn 43 [])], [(.row 22 a3)], 1⟩ = i37 (m + 1) a0 a1 a2 a3 := by
  have h : ∀ J, e37 J m [] [] ⟨[(.row 0), (.dat 3 (.int a0)), (.dat 3 (.int a1)), (.dat 3 (.int a2)), (.fn 43 [])], [(.row 22 a3)], 1⟩ =
    (J 0 1 0 (s37_0 a0 a1 a2 0 a3) (e37 J m [1] [] (s37_0 a0 a1 a2 0 a3))) := fun J => by kernel_rfl
  refine (h jn).trans ?_
  simp only [jn_eq, i37_j0_eq m]
  rfl
noncomputable def d36 (q : Res) : Option (List Dt) := match q with
  | (.tup [], [.row T0 x0]) => bif Nat.beq T0 22 then some x0 else none
  | _ => none
theorem d36_sim {b : Res} {r : List Dt} (h : d36 b = some r) : Sim Tryd.prog b ((.tup []), [(.row 22 r)]) := by
  unfold d36 at h
  split at h
  · obtain ⟨hc, h2⟩ := bif_some h
    cases h2
    have e0 := beq_eq hc
    subst e0
    exact Sim.of (.tup .nil) (.cons .same .nil)
  · cases h
noncomputable def e36 (J : Nat → Nat → Nat → St → Option (List Dt) → Option (List Dt)) (m : Nat) (p ms : List Nat) (σ : St) := evAt Tryd.prog env (ct m) J (m + 1) 100 58 Tryd.f100 d36 p ms σ
noncomputable def l36 (J : Nat → Nat → Nat → St → Option (List Dt) → Option (List Dt)) (m : Nat) (p ms : List Nat) (M : Nat) (σ : St) := loopAt Tryd.prog env (ct m) J (m + 1) 100 58 Tryd.f100 d36 p ms M σ
noncomputable def s36_2 (x0 x1 x2 : Int) (x3 : List Dt) : St := ⟨tsOf [(0, (.row 0)), (2, (.dat 3 (.int x0))), (4, (.fn 43 [])), (10, (.dat 3 (.int x1))), (11, (.dat 3 (.int x2)))], [(.row 22 x3)], 1⟩
noncomputable def s36_3 (x0 x1 : Int) (x2 : List Dt) : St := ⟨tsOf [(0, (.row 0)), (2, (.dat 3 (.int x0))), (4, (.fn 43 [])), (10, (.dat 3 (.int x1)))], [(.row 22 x2)], 1⟩
noncomputable def s36_1 (x0 x1 x2 : Int) (x3 : List Dt) : St := ⟨tsOf [(0, (.row 0)), (2, (.dat 3 (.int x0))), (4, (.fn 43 [])), (10, (.dat 3 (.int x1))), (11, (.dat 3 (.int x2)))], [(.row 22 x3)], 1⟩
noncomputable def s36_0 (x0 x1 x2 : Int) (x3 : List Dt) : St := ⟨tsOf [(0, (.row 0)), (2, (.dat 3 (.int x0))), (4, (.fn 43 [])), (10, (.dat 3 (.int x1))), (11, (.dat 3 (.int x2)))], [(.row 22 x3)], 1⟩
theorem i36_j2_eq (m : Nat) (M1 : Nat) (rec1 : Int → Int → Int → List Dt → Option (List Dt)) (h1 : ∀ (x0 x1 x2 : Int) (x3 : List Dt), l36 jn m [1, 1, 0, 0] [] M1 (s36_1 x0 x1 x2 x3) = rec1 x0 x1 x2 x3) (x0 x1 x2 : Int) (x3 : List Dt) : e36 jn m [1, 1, 0, 0, 0, 1] [M1] (s36_2 x0 x1 x2 x3) = i36_j2 m rec1 x0 x1 x2 x3 := by
  have h : ∀ J, e36 J m [1, 1, 0, 0, 0, 1] [M1] (s36_2 x0 x1 x2 x3) =
    (bif (decide (x2 < x1)) then
   ((i37 m (IntKind.wrap .i64 (x0 - x1)) x0 x2 x3).bind fun r0 =>
   (J 1 2 M1 (s36_1 x0 (IntKind.wrap .i64 (x1 - x2)) x2 r0) (l36 J m [1, 1, 0, 0] [] M1 (s36_1 x0 (IntKind.wrap .i64 (x1 - x2)) x2 r0))))
    else
   ((i37 m (IntKind.wrap .i64 (x0 - x1)) (IntKind.wrap .i64 ((IntKind.wrap .i64 (x0 + x2)) - x1)) x1 x3).bind fun r1 =>
   (J 1 2 M1 (s36_1 x0 x1 (IntKind.wrap .i64 (x2 - x1)) r1) (l36 J m [1, 1, 0, 0] [] M1 (s36_1 x0 x1 (IntKind.wrap .i64 (x2 - x1)) r1))))) := fun J => by kernel_rfl
  exact (h jn).trans (by
    simp only [jn_eq, h1]
    rfl)
theorem i36_j3_eq (m : Nat) (x0 x1 : Int) (x2 : List Dt) : e36 jn m [1, 1, 1] [] (s36_3 x0 x1 x2) = i36_j3 m x0 x1 x2 := by
  have h : ∀ J, e36 J m [1, 1, 1] [] (s36_3 x0 x1 x2) =
    ((i37 m (IntKind.wrap .i64 (x0 - x1)) x0 x1 x2).bind fun r2 =>
   some r2) := fun J => by kernel_rfl
  exact (h jn).trans (rfl)
theorem i36_l1_eq (m : Nat) : ∀ (M1 : Nat) (x0 x1 x2 : Int) (x3 : List Dt), l36 jn m [1, 1, 0, 0] [] M1 (s36_1 x0 x1 x2 x3) = i36_l1 m M1 x0 x1 x2 x3
  | 0, _, _, _, _ => rfl
  | M1 + 1, x0, x1, x2, x3 => by
    have h : ∀ J, l36 J m [1, 1, 0, 0] [] (M1 + 1) (s36_1 x0 x1 x2 x3) =
    (bif (x1 != x2) then
   (J 0 3 0 (s36_2 x0 x1 x2 x3) (e36 J m [1, 1, 0, 0, 0, 1] [M1] (s36_2 x0 x1 x2 x3)))
    else
   (J 0 8 0 (s36_3 x0 x1 x3) (e36 J m [1, 1, 1] [] (s36_3 x0 x1 x3)))) := fun J => by kernel_rfl
    refine (h jn).trans ?_
    simp only [jn_eq, i36_j2_eq m M1 (i36_l1 m M1) (fun x0 x1 x2 x3 => i36_l1_eq m M1 x0 x1 x2 x3), i36_j3_eq m]
    rfl
theorem i36_j0_eq (m : Nat) (x0 x1 x2 : Int) (x3 : List Dt) : e36 jn m [1, 1] [] (s36_0 x0 x1 x2 x3) = i36_j0 m x0 x1 x2 x3 := by
  have h : ∀ J, e36 J m [1, 1] [] (s36_0 x0 x1 x2 x3) =
    (J 1 2 (Nat.succ m) (s36_1 x0 x1 x2 x3) (l36 J m [1, 1, 0, 0] [] (Nat.succ m) (s36_1 x0 x1 x2 x3))) := fun J => by kernel_rfl
  exact (h jn).trans (by
    simp only [jn_eq, i36_l1_eq m]
    rfl)
theorem i36_eq (m : Nat) (a0 a1 a2 : Int) (a3 : List Dt) : e36 jn m [] [] ⟨[(.row 0), (.dat 3 (.int a0)), (.dat 3 (.int a1)), (.dat 3 (.int a2)), (.fn 43 [])], [(.row 22 a3)], 1⟩ = i36 (m + 1) a0 a1 a2 a3 := by
  have h : ∀ J, e36 J m [] [] ⟨[(.row 0), (.dat 3 (.int a0)), (.dat 3 (.int a1)), (.dat 3 (.int a2)), (.fn 43 [])], [(.row 22 a3)], 1⟩ =
    (J 0 2 0 (s36_0 a1 (IntKind.wrap .i64 (a1 - a0)) (IntKind.wrap .i64 (a2 - a1)) a3) (e36 J m [1, 1] [] (s36_0 a1 (IntKind.wrap .i64 (a1 - a0)) (IntKind.wrap .i64 (a2 - a1)) a3))) := fun J => by kernel_rfl
  refine (h jn).trans ?_
  simp only [jn_eq, i36_j0_eq m]
  rfl
noncomputable def d38 (q : Res) : Option Bool := match q with
  | (.dat T0 x0, []) => bif Nat.beq T0 4 then some x0.toBool else none
  | _ => none
theorem d38_sim {b : Res} {r : Bool} (h : d38 b = some r) : Sim Tryd.prog b ((.dat 4 (.bool r)), []) := by
  unfold d38 at h
  split at h
  · obtain ⟨hc, h2⟩ := bif_some h
    cases h2
    have e0 := beq_eq hc
    subst e0
    exact Sim.of (.of (.dat (.bool Tryd.underlying4)) rfl rfl) .nil
  · cases h
noncomputable def e38 (J : Nat → Nat → Nat → St → Option Bool → Option Bool) (m : Nat) (p ms : List Nat) (σ : St) := evAt Tryd.prog env (ct m) J (m + 1) 56 39 Tryd.f56 d38 p ms σ
noncomputable def l38 (J : Nat → Nat → Nat → St → Option Bool → Option Bool) (m : Nat) (p ms : List Nat) (M : Nat) (σ : St) := loopAt Tryd.prog env (ct m) J (m + 1) 56 39 Tryd.f56 d38 p ms M σ
noncomputable def s38_6 (x0 : ByteArray) (x1 x2 : Int) : St := ⟨tsOf [(0, (.dat 9 (.str x0))), (18, (.dat 3 (.int x1))), (19, (.dat 3 (.int x2)))], [], 0⟩
noncomputable def s38_5 (x0 : ByteArray) (x1 x2 : Int) (x3 : Bool) : St := ⟨tsOf [(0, (.dat 9 (.str x0))), (18, (.dat 3 (.int x1))), (19, (.dat 3 (.int x2))), (37, (.dat 4 (.bool x3)))], [], 0⟩
noncomputable def s38_4 (x0 : ByteArray) (x1 x2 : Int) : St := ⟨tsOf [(0, (.dat 9 (.str x0))), (18, (.dat 3 (.int x1))), (19, (.dat 3 (.int x2)))], [], 0⟩
noncomputable def s38_7 : St := ⟨tsOf [], [], 0⟩
noncomputable def s38_3 (x0 : ByteArray) (x1 x2 : Int) : St := ⟨tsOf [(0, (.dat 9 (.str x0))), (18, (.dat 3 (.int x1))), (19, (.dat 3 (.int x2)))], [], 0⟩
noncomputable def s38_2 (x0 : ByteArray) (x1 x2 : Int) : St := ⟨tsOf [(0, (.dat 9 (.str x0))), (18, (.dat 3 (.int x1))), (19, (.dat 3 (.int x2)))], [], 0⟩
noncomputable def s38_1 (x0 : ByteArray) : St := ⟨tsOf [(0, (.dat 9 (.str x0)))], [], 0⟩
noncomputable def s38_0 (x0 : ByteArray) (x1 : Bool) : St := ⟨tsOf [(0, (.dat 9 (.str x0))), (16, (.dat 4 (.bool x1)))], [], 0⟩
theorem schema_isName_j6_eq (m : Nat) (M3 : Nat) (rec3 : ByteArray → Int → Int → Option Bool) (h3 : ∀ (x0 : ByteArray) (x1 x2 : Int), l38 jn m [1, 1, 0, 1, 0] [] M3 (s38_3 x0 x1 x2) = rec3 x0 x1 x2) (x0 : ByteArray) (x1 x2 : Int) : e38 jn m [1, 1, 0, 1, 0, 0, 1, 1, 1] [M3] (s38_6 x0 x1 x2) = schema_isName_j6 m rec3 x0 x1 x2 := by
  have h : ∀ J, e38 J m [1, 1, 0, 1, 0, 0, 1, 1, 1] [M3] (s38_6 x0 x1 x2) =
    (J 1 4 M3 (s38_3 x0 x1 (IntKind.wrap .i64 (x2 + 1))) (l38 J m [1, 1, 0, 1, 0] [] M3 (s38_3 x0 x1 (IntKind.wrap .i64 (x2 + 1))))) := fun J => by kernel_rfl
  exact (h jn).trans (by
    simp only [jn_eq, h3]
    rfl)
theorem schema_isName_j5_eq (m : Nat) (M3 : Nat) (rec3 : ByteArray → Int → Int → Option Bool) (h3 : ∀ (x0 : ByteArray) (x1 x2 : Int), l38 jn m [1, 1, 0, 1, 0] [] M3 (s38_3 x0 x1 x2) = rec3 x0 x1 x2) (x0 : ByteArray) (x1 x2 : Int) (x3 : Bool) : e38 jn m [1, 1, 0, 1, 0, 0, 1, 1, 0, 0, 1, 1] [M3] (s38_5 x0 x1 x2 x3) = schema_isName_j5 m rec3 x0 x1 x2 x3 := by
  have h : ∀ J, e38 J m [1, 1, 0, 1, 0, 0, 1, 1, 0, 0, 1, 1] [M3] (s38_5 x0 x1 x2 x3) =
    (bif x3 then
   some false
    else
   (J 0 8 0 (s38_6 x0 x1 x2) (e38 J m [1, 1, 0, 1, 0, 0, 1, 1, 1] [M3] (s38_6 x0 x1 x2)))) := fun J => by kernel_rfl
  exact (h jn).trans (by
    simp only [jn_eq, schema_isName_j6_eq m M3 rec3 h3]
    rfl)
theorem schema_isName_j4_eq (m : Nat) (M3 : Nat) (rec3 : ByteArray → Int → Int → Option Bool) (h3 : ∀ (x0 : ByteArray) (x1 x2 : Int), l38 jn m [1, 1, 0, 1, 0] [] M3 (s38_3 x0 x1 x2) = rec3 x0 x1 x2) (x0 : ByteArray) (x1 x2 : Int) : e38 jn m [1, 1, 0, 1, 0, 0, 1, 1] [M3] (s38_4 x0 x1 x2) = schema_isName_j4 m rec3 x0 x1 x2 := by
  have h : ∀ J, e38 J m [1, 1, 0, 1, 0, 0, 1, 1] [M3] (s38_4 x0 x1 x2) =
    ((idxS x0 x2).bind fun v0 =>
   (bif (decide (v0 < 33)) then
   (J 0 7 0 (s38_5 x0 x1 x2 true) (e38 J m [1, 1, 0, 1, 0, 0, 1, 1, 0, 0, 1, 1] [M3] (s38_5 x0 x1 x2 true)))
   else
   ((idxS x0 x2).bind fun v1 =>
   (bif (decide (126 < v1)) then
   (J 0 7 0 (s38_5 x0 x1 x2 true) (e38 J m [1, 1, 0, 1, 0, 0, 1, 1, 0, 0, 1, 1] [M3] (s38_5 x0 x1 x2 true)))
   else
   ((idxS x0 x2).bind fun v2 =>
   (J 0 7 0 (s38_5 x0 x1 x2 (v2 == 46)) (e38 J m [1, 1, 0, 1, 0, 0, 1, 1, 0, 0, 1, 1] [M3] (s38_5 x0 x1 x2 (v2 == 46))))))))) := fun J => by kernel_rfl
  exact (h jn).trans (by
    simp only [jn_eq, schema_isName_j5_eq m M3 rec3 h3]
    rfl)
theorem schema_isName_j7_eq (m : Nat) : e38 jn m [1, 1, 1] [] s38_7 = schema_isName_j7 m := by
  have h : ∀ J, e38 J m [1, 1, 1] [] s38_7 =
    some true := fun J => by kernel_rfl
  exact (h jn).trans (rfl)
theorem schema_isName_l3_eq (m : Nat) : ∀ (M3 : Nat) (x0 : ByteArray) (x1 x2 : Int), l38 jn m [1, 1, 0, 1, 0] [] M3 (s38_3 x0 x1 x2) = schema_isName_l3 m M3 x0 x1 x2
  | 0, _, _, _ => rfl
  | M3 + 1, x0, x1, x2 => by
    have h : ∀ J, l38 J m [1, 1, 0, 1, 0] [] (M3 + 1) (s38_3 x0 x1 x2) =
    (bif (decide (x2 < x1)) then
   (J 0 5 0 (s38_4 x0 x1 x2) (e38 J m [1, 1, 0, 1, 0, 0, 1, 1] [M3] (s38_4 x0 x1 x2)))
    else
   (J 0 9 0 s38_7 (e38 J m [1, 1, 1] [] s38_7))) := fun J => by kernel_rfl
    refine (h jn).trans ?_
    simp only [jn_eq, schema_isName_j4_eq m M3 (schema_isName_l3 m M3) (fun x0 x1 x2 => schema_isName_l3_eq m M3 x0 x1 x2), schema_isName_j7_eq m]
    rfl
theorem schema_isName_j2_eq (m : Nat) (x0 : ByteArray) (x1 x2 : Int) : e38 jn m [1, 1, 0, 1] [] (s38_2 x0 x1 x2) = schema_isName_j2 m x0 x1 x2 := by
  have h : ∀ J, e38 J m [1, 1, 0, 1] [] (s38_2 x0 x1 x2) =
    (J 1 4 (Nat.succ m) (s38_3 x0 x1 x2) (l38 J m [1, 1, 0, 1, 0] [] (Nat.succ m) (s38_3 x0 x1 x2))) := fun J => by kernel_rfl
  exact (h jn).trans (by
    simp only [jn_eq, schema_isName_l3_eq m]
    rfl)
theorem schema_isName_j1_eq (m : Nat) (x0 : ByteArray) : e38 jn m [1, 1] [] (s38_1 x0) = schema_isName_j1 m x0 := by
  have h : ∀ J, e38 J m [1, 1] [] (s38_1 x0) =
    (J 0 4 0 (s38_2 x0 (ByteArray.size x0 : Int) 0) (e38 J m [1, 1, 0, 1] [] (s38_2 x0 (ByteArray.size x0 : Int) 0))) := fun J => by kernel_rfl
  exact (h jn).trans (by
    simp only [jn_eq, schema_isName_j2_eq m]
    rfl)
theorem schema_isName_j0_eq (m : Nat) (x0 : ByteArray) (x1 : Bool) : e38 jn m [1, 0, 1] [] (s38_0 x0 x1) = schema_isName_j0 m x0 x1 := by
  have h : ∀ J, e38 J m [1, 0, 1] [] (s38_0 x0 x1) =
    (bif x1 then
   some false
    else
   (J 0 3 0 (s38_1 x0) (e38 J m [1, 1] [] (s38_1 x0)))) := fun J => by kernel_rfl
  exact (h jn).trans (by
    simp only [jn_eq, schema_isName_j1_eq m]
    rfl)
theorem schema_isName_eq (m : Nat) (a0 : ByteArray) : e38 jn m [] [] ⟨[(.dat 9 (.str a0))], [], 0⟩ = schema_isName (m + 1) a0 := by
  have h : ∀ J, e38 J m [] [] ⟨[(.dat 9 (.str a0))], [], 0⟩ =
    (bif (decide ((ByteArray.size a0 : Int) < 1)) then
   (J 0 2 0 (s38_0 a0 true) (e38 J m [1, 0, 1] [] (s38_0 a0 true)))
    else
   (bif (decide (32 < (ByteArray.size a0 : Int))) then
   (J 0 2 0 (s38_0 a0 true) (e38 J m [1, 0, 1] [] (s38_0 a0 true)))
   else
   ((idxS a0 0).bind fun v3 =>
   (J 0 2 0 (s38_0 a0 (v3 == 36)) (e38 J m [1, 0, 1] [] (s38_0 a0 (v3 == 36))))))) := fun J => by kernel_rfl
  refine (h jn).trans ?_
  simp only [jn_eq, schema_isName_j0_eq m]
  rfl
noncomputable def d41 (q : Res) : Option Bool := match q with
  | (.dat T0 x0, []) => bif Nat.beq T0 4 then some x0.toBool else none
  | _ => none
theorem d41_sim {b : Res} {r : Bool} (h : d41 b = some r) : Sim Tryd.prog b ((.dat 4 (.bool r)), []) := by
  unfold d41 at h
  split at h
  · obtain ⟨hc, h2⟩ := bif_some h
    cases h2
    have e0 := beq_eq hc
    subst e0
    exact Sim.of (.of (.dat (.bool Tryd.underlying4)) rfl rfl) .nil
  · cases h
noncomputable def e41 (J : Nat → Nat → Nat → St → Option Bool → Option Bool) (m : Nat) (p ms : List Nat) (σ : St) := evAt Tryd.prog env (ct m) J (m + 1) 81 6 Tryd.f81 d41 p ms σ
noncomputable def l41 (J : Nat → Nat → Nat → St → Option Bool → Option Bool) (m : Nat) (p ms : List Nat) (M : Nat) (σ : St) := loopAt Tryd.prog env (ct m) J (m + 1) 81 6 Tryd.f81 d41 p ms M σ
theorem cmp_isNaN_eq (m : Nat) (a0 : Int) : e41 jn m [] [] ⟨[(.dat 3 (.int a0))], [], 0⟩ = cmp_isNaN (m + 1) a0 := by
  have h : ∀ J, e41 J m [] [] ⟨[(.dat 3 (.int a0))], [], 0⟩ =
    some (a0 != a0) := fun J => by kernel_rfl
  refine (h jn).trans ?_
  
  rfl
noncomputable def d29 (q : Res) : Option Int := match q with
  | (.dat T0 x0, []) => bif Nat.beq T0 3 then some x0.toInt else none
  | _ => none
theorem d29_sim {b : Res} {r : Int} (h : d29 b = some r) : Sim Tryd.prog b ((.dat 3 (.int r)), []) := by
  unfold d29 at h
  split at h
  · obtain ⟨hc, h2⟩ := bif_some h
    cases h2
    have e0 := beq_eq hc
    subst e0
    exact Sim.of (.of (.dat (.int Tryd.underlying3)) rfl rfl) .nil
  · cases h
noncomputable def e29 (J : Nat → Nat → Nat → St → Option Int → Option Int) (m : Nat) (p ms : List Nat) (σ : St) := evAt Tryd.prog env (ct m) J (m + 1) 66 20 Tryd.f66 d29 p ms σ
noncomputable def l29 (J : Nat → Nat → Nat → St → Option Int → Option Int) (m : Nat) (p ms : List Nat) (M : Nat) (σ : St) := loopAt Tryd.prog env (ct m) J (m + 1) 66 20 Tryd.f66 d29 p ms M σ
noncomputable def s29_0 : St := ⟨tsOf [], [], 0⟩
noncomputable def s29_4 : St := ⟨tsOf [], [], 0⟩
noncomputable def s29_3 (x0 x1 : Int) : St := ⟨tsOf [(0, (.dat 3 (.int x0))), (1, (.dat 3 (.int x1)))], [], 0⟩
noncomputable def s29_2 (x0 x1 : Int) : St := ⟨tsOf [(0, (.dat 3 (.int x0))), (1, (.dat 3 (.int x1)))], [], 0⟩
noncomputable def s29_1 (x0 x1 : Int) (x2 : Bool) : St := ⟨tsOf [(0, (.dat 3 (.int x0))), (1, (.dat 3 (.int x1))), (6, (.dat 4 (.bool x2)))], [], 0⟩
theorem cmp_Compare_j0_eq (m : Nat) : e29 jn m [1, 1, 1, 0, 1, 0, 1] [] s29_0 = cmp_Compare_j0 m := by
  have h : ∀ J, e29 J m [1, 1, 1, 0, 1, 0, 1] [] s29_0 =
    some (-1) := fun J => by kernel_rfl
  exact (h jn).trans (rfl)
theorem cmp_Compare_j4_eq (m : Nat) : e29 jn m [1, 1, 1, 1, 1, 1, 1] [] s29_4 = cmp_Compare_j4 m := by
  have h : ∀ J, e29 J m [1, 1, 1, 1, 1, 1, 1] [] s29_4 =
    some 0 := fun J => by kernel_rfl
  exact (h jn).trans (rfl)
theorem cmp_Compare_j3_eq (m : Nat) (x0 x1 : Int) : e29 jn m [1, 1, 1, 1, 1, 1] [] (s29_3 x0 x1) = cmp_Compare_j3 m x0 x1 := by
  have h : ∀ J, e29 J m [1, 1, 1, 1, 1, 1] [] (s29_3 x0 x1) =
    (bif (decide (x1 < x0)) then
   some 1
    else
   (J 0 13 0 s29_4 (e29 J m [1, 1, 1, 1, 1, 1, 1] [] s29_4))) := fun J => by kernel_rfl
  exact (h jn).trans (by
    simp only [jn_eq, cmp_Compare_j4_eq m]
    rfl)
theorem cmp_Compare_j2_eq (m : Nat) (x0 x1 : Int) : e29 jn m [1, 1, 1, 1, 1] [] (s29_2 x0 x1) = cmp_Compare_j2 m x0 x1 := by
  have h : ∀ J, e29 J m [1, 1, 1, 1, 1] [] (s29_2 x0 x1) =
    (bif (decide (x0 < x1)) then
   some (-1)
    else
   (J 0 11 0 (s29_3 x0 x1) (e29 J m [1, 1, 1, 1, 1, 1] [] (s29_3 x0 x1)))) := fun J => by kernel_rfl
  exact (h jn).trans (by
    simp only [jn_eq, cmp_Compare_j3_eq m]
    rfl)
theorem cmp_Compare_j1_eq (m : Nat) (x0 x1 : Int) (x2 : Bool) : e29 jn m [1, 1, 1, 1] [] (s29_1 x0 x1 x2) = cmp_Compare_j1 m x0 x1 x2 := by
  have h : ∀ J, e29 J m [1, 1, 1, 1] [] (s29_1 x0 x1 x2) =
    (bif x2 then
   some 1
    else
   (J 0 9 0 (s29_2 x0 x1) (e29 J m [1, 1, 1, 1, 1] [] (s29_2 x0 x1)))) := fun J => by kernel_rfl
  exact (h jn).trans (by
    simp only [jn_eq, cmp_Compare_j2_eq m]
    rfl)
theorem cmp_Compare_eq (m : Nat) (a0 a1 : Int) : e29 jn m [] [] ⟨[(.dat 3 (.int a0)), (.dat 3 (.int a1))], [], 0⟩ = cmp_Compare (m + 1) a0 a1 := by
  have h : ∀ J, e29 J m [] [] ⟨[(.dat 3 (.int a0)), (.dat 3 (.int a1))], [], 0⟩ =
    ((cmp_isNaN m a0).bind fun r0 =>
   ((cmp_isNaN m a1).bind fun r1 =>
   (bif r0 then
   (bif r1 then
   some 0
   else
   (J 0 6 0 s29_0 (e29 J m [1, 1, 1, 0, 1, 0, 1] [] s29_0)))
   else
   (J 0 7 0 (s29_1 a0 a1 r1) (e29 J m [1, 1, 1, 1] [] (s29_1 a0 a1 r1)))))) := fun J => by kernel_rfl
  refine (h jn).trans ?_
  simp only [jn_eq, cmp_Compare_j0_eq m, cmp_Compare_j1_eq m]
  rfl
noncomputable def d16 (q : Res) : Option Int := match q with
  | (.dat T0 x0, []) => bif Nat.beq T0 3 then some x0.toInt else none
  | _ => none
theorem d16_sim {b : Res} {r : Int} (h : d16 b = some r) : Sim Tryd.prog b ((.dat 3 (.int r)), []) := by
  unfold d16 at h
  split at h
  · obtain ⟨hc, h2⟩ := bif_some h
    cases h2
    have e0 := beq_eq hc
    subst e0
    exact Sim.of (.of (.dat (.int Tryd.underlying3)) rfl rfl) .nil
  · cases h
noncomputable def e16 (J : Nat → Nat → Nat → St → Option Int → Option Int) (m : Nat) (p ms : List Nat) (σ : St) := evAt Tryd.prog env (ct m) J (m + 1) 43 126 Tryd.f43 d16 p ms σ
noncomputable def l16 (J : Nat → Nat → Nat → St → Option Int → Option Int) (m : Nat) (p ms : List Nat) (M : Nat) (σ : St) := loopAt Tryd.prog env (ct m) J (m + 1) 43 126 Tryd.f43 d16 p ms M σ
noncomputable def s16_6 (x0 x1 : Int) (x2 x3 : Dt) : St := ⟨tsOf [(2, (.ptr 0 [] 0)), (3, (.ptr 1 [] 0)), (48, (.dat 3 (.int x0))), (49, (.dat 3 (.int x1)))], [(.box 25 (.dat 25 x2)), (.box 25 (.dat 25 x3))], 0⟩
noncomputable def s16_5 (x0 x1 : Int) (x2 x3 : Dt) : St := ⟨tsOf [(2, (.ptr 0 [] 0)), (3, (.ptr 1 [] 0)), (48, (.dat 3 (.int x0))), (49, (.dat 3 (.int x1)))], [(.box 25 (.dat 25 x2)), (.box 25 (.dat 25 x3))], 0⟩
noncomputable def s16_7 (x0 x1 : Dt) : St := ⟨tsOf [(2, (.ptr 0 [] 0)), (3, (.ptr 1 [] 0))], [(.box 25 (.dat 25 x0)), (.box 25 (.dat 25 x1))], 0⟩
noncomputable def s16_4 (x0 x1 : Int) (x2 x3 : Dt) : St := ⟨tsOf [(2, (.ptr 0 [] 0)), (3, (.ptr 1 [] 0)), (48, (.dat 3 (.int x0))), (49, (.dat 3 (.int x1)))], [(.box 25 (.dat 25 x2)), (.box 25 (.dat 25 x3))], 0⟩
noncomputable def s16_3 (x0 x1 : Int) (x2 x3 : Dt) : St := ⟨tsOf [(2, (.ptr 0 [] 0)), (3, (.ptr 1 [] 0)), (48, (.dat 3 (.int x0))), (49, (.dat 3 (.int x1)))], [(.box 25 (.dat 25 x2)), (.box 25 (.dat 25 x3))], 0⟩
noncomputable def s16_12 (x0 x1 : Int) (x2 x3 : Dt) : St := ⟨tsOf [(2, (.ptr 0 [] 0)), (3, (.ptr 1 [] 0)), (82, (.dat 3 (.int x0))), (83, (.dat 3 (.int x1)))], [(.box 25 (.dat 25 x2)), (.box 25 (.dat 25 x3))], 0⟩
noncomputable def s16_11 (x0 x1 x2 : Int) (x3 x4 : Dt) : St := ⟨tsOf [(2, (.ptr 0 [] 0)), (3, (.ptr 1 [] 0)), (7, (.dat 3 (.int x0))), (82, (.dat 3 (.int x1))), (83, (.dat 3 (.int x2)))], [(.box 25 (.dat 25 x3)), (.box 25 (.dat 25 x4))], 0⟩
noncomputable def s16_10 (x0 x1 : Int) (x2 x3 : Dt) : St := ⟨tsOf [(2, (.ptr 0 [] 0)), (3, (.ptr 1 [] 0)), (82, (.dat 3 (.int x0))), (83, (.dat 3 (.int x1)))], [(.box 25 (.dat 25 x2)), (.box 25 (.dat 25 x3))], 0⟩
noncomputable def s16_13 (x0 x1 : Dt) : St := ⟨tsOf [(2, (.ptr 0 [] 0)), (3, (.ptr 1 [] 0))], [(.box 25 (.dat 25 x0)), (.box 25 (.dat 25 x1))], 0⟩
noncomputable def s16_9 (x0 x1 : Int) (x2 x3 : Dt) : St := ⟨tsOf [(2, (.ptr 0 [] 0)), (3, (.ptr 1 [] 0)), (82, (.dat 3 (.int x0))), (83, (.dat 3 (.int x1)))], [(.box 25 (.dat 25 x2)), (.box 25 (.dat 25 x3))], 0⟩
noncomputable def s16_8 (x0 x1 : Int) (x2 x3 : Dt) : St := ⟨tsOf [(2, (.ptr 0 [] 0)), (3, (.ptr 1 [] 0)), (82, (.dat 3 (.int x0))), (83, (.dat 3 (.int x1)))], [(.box 25 (.dat 25 x2)), (.box 25 (.dat 25 x3))], 0⟩
noncomputable def s16_14 : St := ⟨tsOf [], [], 0⟩
noncomputable def s16_2 (x0 : Int) (x1 : Bool) (x2 x3 : Dt) : St := ⟨tsOf [(2, (.ptr 0 [] 0)), (3, (.ptr 1 [] 0)), (21, (.dat 3 (.int x0))), (31, (.dat 4 (.bool x1)))], [(.box 25 (.dat 25 x2)), (.box 25 (.dat 25 x3))], 0⟩
noncomputable def s16_1 (x0 : Int) (x1 : Bool) (x2 x3 : Dt) : St := ⟨tsOf [(2, (.ptr 0 [] 0)), (3, (.ptr 1 [] 0)), (21, (.dat 3 (.int x0))), (22, (.dat 4 (.bool x1)))], [(.box 25 (.dat 25 x2)), (.box 25 (.dat 25 x3))], 0⟩
noncomputable def s16_0 (x0 x1 : Dt) : St := ⟨tsOf [(2, (.ptr 0 [] 0)), (3, (.ptr 1 [] 0))], [(.box 25 (.dat 25 x0)), (.box 25 (.dat 25 x1))], 0⟩
theorem value_Compare_j6_eq (m : Nat) (M4 : Nat) (rec4 : Int → Int → Dt → Dt → Option Int) (h4 : ∀ (x0 x1 : Int) (x2 x3 : Dt), l16 jn m [1, 1, 0, 1, 0, 1, 1, 1, 1, 1, 0, 0, 1, 0] [] M4 (s16_4 x0 x1 x2 x3) = rec4 x0 x1 x2 x3) (x0 x1 : Int) (x2 x3 : Dt) : e16 jn m [1, 1, 0, 1, 0, 1, 1, 1, 1, 1, 0, 0, 1, 0, 0, 1, 1, 1] [M4] (s16_6 x0 x1 x2 x3) = value_Compare_j6 m (value_Compare m) rec4 x0 x1 x2 x3 := by
  have h : ∀ J, e16 J m [1, 1, 0, 1, 0, 1, 1, 1, 1, 1, 0, 0, 1, 0, 0, 1, 1, 1] [M4] (s16_6 x0 x1 x2 x3) =
    (J 1 14 M4 (s16_4 x0 (IntKind.wrap .i64 (x1 + 1)) x2 x3) (l16 J m [1, 1, 0, 1, 0, 1, 1, 1, 1, 1, 0, 0, 1, 0] [] M4 (s16_4 x0 (IntKind.wrap .i64 (x1 + 1)) x2 x3))) := fun J => by kernel_rfl
  exact (h jn).trans (by
    simp only [jn_eq, h4]
    rfl)
theorem value_Compare_j5_eq (m : Nat) (M4 : Nat) (rec4 : Int → Int → Dt → Dt → Option Int) (h4 : ∀ (x0 x1 : Int) (x2 x3 : Dt), l16 jn m [1, 1, 0, 1, 0, 1, 1, 1, 1, 1, 0, 0, 1, 0] [] M4 (s16_4 x0 x1 x2 x3) = rec4 x0 x1 x2 x3) (x0 x1 : Int) (x2 x3 : Dt) : e16 jn m [1, 1, 0, 1, 0, 1, 1, 1, 1, 1, 0, 0, 1, 0, 0, 1, 1] [M4] (s16_5 x0 x1 x2 x3) = value_Compare_j5 m (value_Compare m) rec4 x0 x1 x2 x3 := by
  have h : ∀ J, e16 J m [1, 1, 0, 1, 0, 1, 1, 1, 1, 1, 0, 0, 1, 0, 0, 1, 1] [M4] (s16_5 x0 x1 x2 x3) =
    ((idx (Dt.L x2 3) x1).bind fun v3 =>
   ((idx (Dt.L x3 3) x1).bind fun v4 =>
   ((value_Compare m v3 v4).bind fun r5 =>
   (bif (r5 != 0) then
   some r5
   else
   (J 0 19 0 (s16_6 x0 x1 x2 x3) (e16 J m [1, 1, 0, 1, 0, 1, 1, 1, 1, 1, 0, 0, 1, 0, 0, 1, 1, 1] [M4] (s16_6 x0 x1 x2 x3))))))) := fun J => by kernel_rfl
  exact (h jn).trans (by
    simp only [jn_eq, value_Compare_j6_eq m M4 rec4 h4]
    rfl)
theorem value_Compare_j7_eq (m : Nat) (x0 x1 : Dt) : e16 jn m [1, 1, 0, 1, 0, 1, 1, 1, 1, 1, 0, 1] [] (s16_7 x0 x1) = value_Compare_j7 m (value_Compare m) x0 x1 := by
  have h : ∀ J, e16 J m [1, 1, 0, 1, 0, 1, 1, 1, 1, 1, 0, 1] [] (s16_7 x0 x1) =
    ((cmp_Compare m (List.length (Dt.L x0 3) : Int) (List.length (Dt.L x1 3) : Int)).bind fun r6 =>
   some r6) := fun J => by kernel_rfl
  exact (h jn).trans (rfl)
theorem value_Compare_l4_eq (m : Nat) : ∀ (M4 : Nat) (x0 x1 : Int) (x2 x3 : Dt), l16 jn m [1, 1, 0, 1, 0, 1, 1, 1, 1, 1, 0, 0, 1, 0] [] M4 (s16_4 x0 x1 x2 x3) = value_Compare_l4 m (value_Compare m) M4 x0 x1 x2 x3
  | 0, _, _, _, _ => rfl
  | M4 + 1, x0, x1, x2, x3 => by
    have h : ∀ J, l16 J m [1, 1, 0, 1, 0, 1, 1, 1, 1, 1, 0, 0, 1, 0] [] (M4 + 1) (s16_4 x0 x1 x2 x3) =
    (bif (decide (x1 < x0)) then
   (J 0 15 0 (s16_5 x0 x1 x2 x3) (e16 J m [1, 1, 0, 1, 0, 1, 1, 1, 1, 1, 0, 0, 1, 0, 0, 1, 1] [M4] (s16_5 x0 x1 x2 x3)))
    else
   (J 0 20 0 (s16_7 x2 x3) (e16 J m [1, 1, 0, 1, 0, 1, 1, 1, 1, 1, 0, 1] [] (s16_7 x2 x3)))) := fun J => by kernel_rfl
    refine (h jn).trans ?_
    simp only [jn_eq, value_Compare_j5_eq m M4 (value_Compare_l4 m (value_Compare m) M4) (fun x0 x1 x2 x3 => value_Compare_l4_eq m M4 x0 x1 x2 x3), value_Compare_j7_eq m]
    rfl
theorem value_Compare_j3_eq (m : Nat) (x0 x1 : Int) (x2 x3 : Dt) : e16 jn m [1, 1, 0, 1, 0, 1, 1, 1, 1, 1, 0, 0, 1] [] (s16_3 x0 x1 x2 x3) = value_Compare_j3 m (value_Compare m) x0 x1 x2 x3 := by
  have h : ∀ J, e16 J m [1, 1, 0, 1, 0, 1, 1, 1, 1, 1, 0, 0, 1] [] (s16_3 x0 x1 x2 x3) =
    (J 1 14 (Nat.succ m) (s16_4 x0 x1 x2 x3) (l16 J m [1, 1, 0, 1, 0, 1, 1, 1, 1, 1, 0, 0, 1, 0] [] (Nat.succ m) (s16_4 x0 x1 x2 x3))) := fun J => by kernel_rfl
  exact (h jn).trans (by
    simp only [jn_eq, value_Compare_l4_eq m]
    rfl)
theorem value_Compare_j12_eq (m : Nat) (M9 : Nat) (rec9 : Int → Int → Dt → Dt → Option Int) (h9 : ∀ (x0 x1 : Int) (x2 x3 : Dt), l16 jn m [1, 1, 0, 1, 0, 1, 1, 1, 1, 1, 1, 1, 0, 0, 1, 0] [] M9 (s16_9 x0 x1 x2 x3) = rec9 x0 x1 x2 x3) (x0 x1 : Int) (x2 x3 : Dt) : e16 jn m [1, 1, 0, 1, 0, 1, 1, 1, 1, 1, 1, 1, 0, 0, 1, 0, 0, 1, 1, 1] [M9] (s16_12 x0 x1 x2 x3) = value_Compare_j12 m (value_Compare m) rec9 x0 x1 x2 x3 := by
  have h : ∀ J, e16 J m [1, 1, 0, 1, 0, 1, 1, 1, 1, 1, 1, 1, 0, 0, 1, 0, 0, 1, 1, 1] [M9] (s16_12 x0 x1 x2 x3) =
    (J 1 23 M9 (s16_9 x0 (IntKind.wrap .i64 (x1 + 1)) x2 x3) (l16 J m [1, 1, 0, 1, 0, 1, 1, 1, 1, 1, 1, 1, 0, 0, 1, 0] [] M9 (s16_9 x0 (IntKind.wrap .i64 (x1 + 1)) x2 x3))) := fun J => by kernel_rfl
  exact (h jn).trans (by
    simp only [jn_eq, h9]
    rfl)
theorem value_Compare_j11_eq (m : Nat) (M9 : Nat) (rec9 : Int → Int → Dt → Dt → Option Int) (h9 : ∀ (x0 x1 : Int) (x2 x3 : Dt), l16 jn m [1, 1, 0, 1, 0, 1, 1, 1, 1, 1, 1, 1, 0, 0, 1, 0] [] M9 (s16_9 x0 x1 x2 x3) = rec9 x0 x1 x2 x3) (x0 x1 x2 : Int) (x3 x4 : Dt) : e16 jn m [1, 1, 0, 1, 0, 1, 1, 1, 1, 1, 1, 1, 0, 0, 1, 0, 0, 1, 1, 0, 0, 1, 1] [M9] (s16_11 x0 x1 x2 x3 x4) = value_Compare_j11 m (value_Compare m) rec9 x0 x1 x2 x3 x4 := by
  have h : ∀ J, e16 J m [1, 1, 0, 1, 0, 1, 1, 1, 1, 1, 1, 1, 0, 0, 1, 0, 0, 1, 1, 0, 0, 1, 1] [M9] (s16_11 x0 x1 x2 x3 x4) =
    ((idx (Dt.L x3 4) x0).bind fun v10 =>
   ((idx (Dt.L x4 4) x0).bind fun v11 =>
   ((value_Compare m (Dt.fld v10 1) (Dt.fld v11 1)).bind fun r12 =>
   (bif (r12 != 0) then
   some r12
   else
   (J 0 31 0 (s16_12 x1 x2 x3 x4) (e16 J m [1, 1, 0, 1, 0, 1, 1, 1, 1, 1, 1, 1, 0, 0, 1, 0, 0, 1, 1, 1] [M9] (s16_12 x1 x2 x3 x4))))))) := fun J => by kernel_rfl
  exact (h jn).trans (by
    simp only [jn_eq, value_Compare_j12_eq m M9 rec9 h9]
    rfl)
theorem value_Compare_j10_eq (m : Nat) (M9 : Nat) (rec9 : Int → Int → Dt → Dt → Option Int) (h9 : ∀ (x0 x1 : Int) (x2 x3 : Dt), l16 jn m [1, 1, 0, 1, 0, 1, 1, 1, 1, 1, 1, 1, 0, 0, 1, 0] [] M9 (s16_9 x0 x1 x2 x3) = rec9 x0 x1 x2 x3) (x0 x1 : Int) (x2 x3 : Dt) : e16 jn m [1, 1, 0, 1, 0, 1, 1, 1, 1, 1, 1, 1, 0, 0, 1, 0, 0, 1, 1] [M9] (s16_10 x0 x1 x2 x3) = value_Compare_j10 m (value_Compare m) rec9 x0 x1 x2 x3 := by
  have h : ∀ J, e16 J m [1, 1, 0, 1, 0, 1, 1, 1, 1, 1, 1, 1, 0, 0, 1, 0, 0, 1, 1] [M9] (s16_10 x0 x1 x2 x3) =
    ((idx (Dt.L x2 4) x1).bind fun v7 =>
   ((idx (Dt.L x3 4) x1).bind fun v8 =>
   ((strings_Compare (Dt.S v7 0) (Dt.S v8 0)).bind fun r9 =>
   (bif (r9 != 0) then
   some r9
   else
   (J 0 28 0 (s16_11 x1 x0 x1 x2 x3) (e16 J m [1, 1, 0, 1, 0, 1, 1, 1, 1, 1, 1, 1, 0, 0, 1, 0, 0, 1, 1, 0, 0, 1, 1] [M9] (s16_11 x1 x0 x1 x2 x3))))))) := fun J => by kernel_rfl
  exact (h jn).trans (by
    simp only [jn_eq, value_Compare_j11_eq m M9 rec9 h9]
    rfl)
theorem value_Compare_j13_eq (m : Nat) (x0 x1 : Dt) : e16 jn m [1, 1, 0, 1, 0, 1, 1, 1, 1, 1, 1, 1, 0, 1] [] (s16_13 x0 x1) = value_Compare_j13 m (value_Compare m) x0 x1 := by
  have h : ∀ J, e16 J m [1, 1, 0, 1, 0, 1, 1, 1, 1, 1, 1, 1, 0, 1] [] (s16_13 x0 x1) =
    ((cmp_Compare m (List.length (Dt.L x0 4) : Int) (List.length (Dt.L x1 4) : Int)).bind fun r13 =>
   some r13) := fun J => by kernel_rfl
  exact (h jn).trans (rfl)
theorem value_Compare_l9_eq (m : Nat) : ∀ (M9 : Nat) (x0 x1 : Int) (x2 x3 : Dt), l16 jn m [1, 1, 0, 1, 0, 1, 1, 1, 1, 1, 1, 1, 0, 0, 1, 0] [] M9 (s16_9 x0 x1 x2 x3) = value_Compare_l9 m (value_Compare m) M9 x0 x1 x2 x3
  | 0, _, _, _, _ => rfl
  | M9 + 1, x0, x1, x2, x3 => by
    have h : ∀ J, l16 J m [1, 1, 0, 1, 0, 1, 1, 1, 1, 1, 1, 1, 0, 0, 1, 0] [] (M9 + 1) (s16_9 x0 x1 x2 x3) =
    (bif (decide (x1 < x0)) then
   (J 0 24 0 (s16_10 x0 x1 x2 x3) (e16 J m [1, 1, 0, 1, 0, 1, 1, 1, 1, 1, 1, 1, 0, 0, 1, 0, 0, 1, 1] [M9] (s16_10 x0 x1 x2 x3)))
    else
   (J 0 32 0 (s16_13 x2 x3) (e16 J m [1, 1, 0, 1, 0, 1, 1, 1, 1, 1, 1, 1, 0, 1] [] (s16_13 x2 x3)))) := fun J => by kernel_rfl
    refine (h jn).trans ?_
    simp only [jn_eq, value_Compare_j10_eq m M9 (value_Compare_l9 m (value_Compare m) M9) (fun x0 x1 x2 x3 => value_Compare_l9_eq m M9 x0 x1 x2 x3), value_Compare_j13_eq m]
    rfl
theorem value_Compare_j8_eq (m : Nat) (x0 x1 : Int) (x2 x3 : Dt) : e16 jn m [1, 1, 0, 1, 0, 1, 1, 1, 1, 1, 1, 1, 0, 0, 1] [] (s16_8 x0 x1 x2 x3) = value_Compare_j8 m (value_Compare m) x0 x1 x2 x3 := by
  have h : ∀ J, e16 J m [1, 1, 0, 1, 0, 1, 1, 1, 1, 1, 1, 1, 0, 0, 1] [] (s16_8 x0 x1 x2 x3) =
    (J 1 23 (Nat.succ m) (s16_9 x0 x1 x2 x3) (l16 J m [1, 1, 0, 1, 0, 1, 1, 1, 1, 1, 1, 1, 0, 0, 1, 0] [] (Nat.succ m) (s16_9 x0 x1 x2 x3))) := fun J => by kernel_rfl
  exact (h jn).trans (by
    simp only [jn_eq, value_Compare_l9_eq m]
    rfl)
theorem value_Compare_j14_eq (m : Nat) : e16 jn m [1, 1, 1] [] s16_14 = value_Compare_j14 m (value_Compare m) := by
  have h : ∀ J, e16 J m [1, 1, 1] [] s16_14 =
    some 0 := fun J => by kernel_rfl
  exact (h jn).trans (rfl)
theorem value_Compare_j2_eq (m : Nat) (x0 : Int) (x1 : Bool) (x2 x3 : Dt) : e16 jn m [1, 1, 0, 1, 0, 1, 1, 1] [] (s16_2 x0 x1 x2 x3) = value_Compare_j2 m (value_Compare m) x0 x1 x2 x3 := by
  have h : ∀ J, e16 J m [1, 1, 0, 1, 0, 1, 1, 1] [] (s16_2 x0 x1 x2 x3) =
    (bif x1 then
   ((strings_Compare (Dt.S x2 2) (Dt.S x3 2)).bind fun r2 =>
   some r2)
    else
   (bif (x0 == 6) then
   (J 0 14 0 (s16_3 (bif (decide ((List.length (Dt.L x3 3) : Int) < (List.length (Dt.L x2 3) : Int))) then (List.length (Dt.L x3 3) : Int) else (List.length (Dt.L x2 3) : Int)) 0 x2 x3) (e16 J m [1, 1, 0, 1, 0, 1, 1, 1, 1, 1, 0, 0, 1] [] (s16_3 (bif (decide ((List.length (Dt.L x3 3) : Int) < (List.length (Dt.L x2 3) : Int))) then (List.length (Dt.L x3 3) : Int) else (List.length (Dt.L x2 3) : Int)) 0 x2 x3)))
   else
   (bif (x0 == 5) then
   (J 0 23 0 (s16_8 (bif (decide ((List.length (Dt.L x3 4) : Int) < (List.length (Dt.L x2 4) : Int))) then (List.length (Dt.L x3 4) : Int) else (List.length (Dt.L x2 4) : Int)) 0 x2 x3) (e16 J m [1, 1, 0, 1, 0, 1, 1, 1, 1, 1, 1, 1, 0, 0, 1] [] (s16_8 (bif (decide ((List.length (Dt.L x3 4) : Int) < (List.length (Dt.L x2 4) : Int))) then (List.length (Dt.L x3 4) : Int) else (List.length (Dt.L x2 4) : Int)) 0 x2 x3)))
   else
   (J 0 33 0 s16_14 (e16 J m [1, 1, 1] [] s16_14))))) := fun J => by kernel_rfl
  exact (h jn).trans (by
    simp only [jn_eq, value_Compare_j3_eq m, value_Compare_j8_eq m, value_Compare_j14_eq m]
    rfl)
theorem value_Compare_j1_eq (m : Nat) (x0 : Int) (x1 : Bool) (x2 x3 : Dt) : e16 jn m [1, 1, 0, 1, 0, 1] [] (s16_1 x0 x1 x2 x3) = value_Compare_j1 m (value_Compare m) x0 x1 x2 x3 := by
  have h : ∀ J, e16 J m [1, 1, 0, 1, 0, 1] [] (s16_1 x0 x1 x2 x3) =
    (bif x1 then
   ((cmp_Compare m (Dt.I x2 1) (Dt.I x3 1)).bind fun r1 =>
   some r1)
    else
   (bif (x0 == 4) then
   (J 0 11 0 (s16_2 x0 (x0 == 4) x2 x3) (e16 J m [1, 1, 0, 1, 0, 1, 1, 1] [] (s16_2 x0 (x0 == 4) x2 x3)))
   else
   (bif (x0 == 7) then
   (J 0 11 0 (s16_2 x0 (x0 == 7) x2 x3) (e16 J m [1, 1, 0, 1, 0, 1, 1, 1] [] (s16_2 x0 (x0 == 7) x2 x3)))
   else
   (J 0 11 0 (s16_2 x0 (x0 == 8) x2 x3) (e16 J m [1, 1, 0, 1, 0, 1, 1, 1] [] (s16_2 x0 (x0 == 8) x2 x3)))))) := fun J => by kernel_rfl
  exact (h jn).trans (by
    simp only [jn_eq, value_Compare_j2_eq m]
    rfl)
theorem value_Compare_j0_eq (m : Nat) (x0 x1 : Dt) : e16 jn m [1, 1] [] (s16_0 x0 x1) = value_Compare_j0 m (value_Compare m) x0 x1 := by
  have h : ∀ J, e16 J m [1, 1] [] (s16_0 x0 x1) =
    (bif ((Dt.I x0 0) == 3) then
   (J 0 7 0 (s16_1 (Dt.I x0 0) ((Dt.I x0 0) == 3) x0 x1) (e16 J m [1, 1, 0, 1, 0, 1] [] (s16_1 (Dt.I x0 0) ((Dt.I x0 0) == 3) x0 x1)))
    else
   (bif ((Dt.I x0 0) == 9) then
   (J 0 7 0 (s16_1 (Dt.I x0 0) ((Dt.I x0 0) == 9) x0 x1) (e16 J m [1, 1, 0, 1, 0, 1] [] (s16_1 (Dt.I x0 0) ((Dt.I x0 0) == 9) x0 x1)))
   else
   (J 0 7 0 (s16_1 (Dt.I x0 0) ((Dt.I x0 0) == 10) x0 x1) (e16 J m [1, 1, 0, 1, 0, 1] [] (s16_1 (Dt.I x0 0) ((Dt.I x0 0) == 10) x0 x1))))) := fun J => by kernel_rfl
  exact (h jn).trans (by
    simp only [jn_eq, value_Compare_j1_eq m]
    rfl)
theorem value_Compare_eq (m : Nat) (a0 a1 : Dt) : e16 jn m [] [] ⟨[(.dat 25 a0), (.dat 25 a1)], [], 0⟩ = value_Compare (m + 1) a0 a1 := by
  have h : ∀ J, e16 J m [] [] ⟨[(.dat 25 a0), (.dat 25 a1)], [], 0⟩ =
    (bif ((Dt.I a0 0) != (Dt.I a1 0)) then
   ((cmp_Compare m (Dt.I a0 0) (Dt.I a1 0)).bind fun r0 =>
   some r0)
    else
   (J 0 3 0 (s16_0 a0 a1) (e16 J m [1, 1] [] (s16_0 a0 a1)))) := fun J => by kernel_rfl
  refine (h jn).trans ?_
  simp only [jn_eq, value_Compare_j0_eq m]
  rfl
noncomputable def d14 (q : Res) : Option Bool := match q with
  | (.dat T0 x0, []) => bif Nat.beq T0 4 then some x0.toBool else none
  | _ => none
theorem d14_sim {b : Res} {r : Bool} (h : d14 b = some r) : Sim Tryd.prog b ((.dat 4 (.bool r)), []) := by
  unfold d14 at h
  split at h
  · obtain ⟨hc, h2⟩ := bif_some h
    cases h2
    have e0 := beq_eq hc
    subst e0
    exact Sim.of (.of (.dat (.bool Tryd.underlying4)) rfl rfl) .nil
  · cases h
noncomputable def e14 (J : Nat → Nat → Nat → St → Option Bool → Option Bool) (m : Nat) (p ms : List Nat) (σ : St) := evAt Tryd.prog env (ct m) J (m + 1) 40 9 Tryd.f40 d14 p ms σ
noncomputable def l14 (J : Nat → Nat → Nat → St → Option Bool → Option Bool) (m : Nat) (p ms : List Nat) (M : Nat) (σ : St) := loopAt Tryd.prog env (ct m) J (m + 1) 40 9 Tryd.f40 d14 p ms M σ
theorem value_Equal_eq (m : Nat) (a0 a1 : Dt) : e14 jn m [] [] ⟨[(.dat 25 a0), (.dat 25 a1)], [], 0⟩ = value_Equal (m + 1) a0 a1 := by
  have h : ∀ J, e14 J m [] [] ⟨[(.dat 25 a0), (.dat 25 a1)], [], 0⟩ =
    ((value_Compare m a0 a1).bind fun r0 =>
   some (r0 == 0)) := fun J => by kernel_rfl
  refine (h jn).trans ?_
  
  rfl
noncomputable def d13 (q : Res) : Option Bool := match q with
  | (.dat T0 x0, []) => bif Nat.beq T0 4 then some x0.toBool else none
  | _ => none
theorem d13_sim {b : Res} {r : Bool} (h : d13 b = some r) : Sim Tryd.prog b ((.dat 4 (.bool r)), []) := by
  unfold d13 at h
  split at h
  · obtain ⟨hc, h2⟩ := bif_some h
    cases h2
    have e0 := beq_eq hc
    subst e0
    exact Sim.of (.of (.dat (.bool Tryd.underlying4)) rfl rfl) .nil
  · cases h
noncomputable def e13 (J : Nat → Nat → Nat → St → Option Bool → Option Bool) (m : Nat) (p ms : List Nat) (σ : St) := evAt Tryd.prog env (ct m) J (m + 1) 39 7 Tryd.f39 d13 p ms σ
noncomputable def l13 (J : Nat → Nat → Nat → St → Option Bool → Option Bool) (m : Nat) (p ms : List Nat) (M : Nat) (σ : St) := loopAt Tryd.prog env (ct m) J (m + 1) 39 7 Tryd.f39 d13 p ms M σ
theorem i13_eq (m : Nat) (a0 a1 : Dt) : e13 jn m [] [] ⟨[(.dat 25 a0), (.rptr 25 a1)], [], 0⟩ = i13 (m + 1) a0 a1 := by
  have h : ∀ J, e13 J m [] [] ⟨[(.dat 25 a0), (.rptr 25 a1)], [], 0⟩ =
    ((value_Equal m a0 a1).bind fun r0 =>
   some r0) := fun J => by kernel_rfl
  refine (h jn).trans ?_
  
  rfl
noncomputable def d12 (q : Res) : Option Int := match q with
  | (.dat T0 x0, []) => bif Nat.beq T0 3 then some x0.toInt else none
  | _ => none
theorem d12_sim {b : Res} {r : Int} (h : d12 b = some r) : Sim Tryd.prog b ((.dat 3 (.int r)), []) := by
  unfold d12 at h
  split at h
  · obtain ⟨hc, h2⟩ := bif_some h
    cases h2
    have e0 := beq_eq hc
    subst e0
    exact Sim.of (.of (.dat (.int Tryd.underlying3)) rfl rfl) .nil
  · cases h
noncomputable def e12 (J : Nat → Nat → Nat → St → Option Int → Option Int) (m : Nat) (p ms : List Nat) (σ : St) := evAt Tryd.prog env (ct m) J (m + 1) 65 19 Tryd.f65 d12 p ms σ
noncomputable def l12 (J : Nat → Nat → Nat → St → Option Int → Option Int) (m : Nat) (p ms : List Nat) (M : Nat) (σ : St) := loopAt Tryd.prog env (ct m) J (m + 1) 65 19 Tryd.f65 d12 p ms M σ
noncomputable def s12_3 (x0 : List Dt) (x1 : Dt) (x2 x3 : Int) : St := ⟨tsOf [(0, (.dat 22 (.lst x0))), (1, (.fn 39 [(.rptr 25 x1)])), (7, (.dat 3 (.int x2))), (8, (.dat 3 (.int x3)))], [], 0⟩
noncomputable def s12_2 (x0 : List Dt) (x1 : Dt) (x2 x3 : Int) : St := ⟨tsOf [(0, (.dat 22 (.lst x0))), (1, (.fn 39 [(.rptr 25 x1)])), (7, (.dat 3 (.int x2))), (8, (.dat 3 (.int x3)))], [], 0⟩
noncomputable def s12_4 : St := ⟨tsOf [], [], 0⟩
noncomputable def s12_1 (x0 : List Dt) (x1 : Dt) (x2 x3 : Int) : St := ⟨tsOf [(0, (.dat 22 (.lst x0))), (1, (.fn 39 [(.rptr 25 x1)])), (7, (.dat 3 (.int x2))), (8, (.dat 3 (.int x3)))], [], 0⟩
noncomputable def s12_0 (x0 : List Dt) (x1 : Dt) (x2 x3 : Int) : St := ⟨tsOf [(0, (.dat 22 (.lst x0))), (1, (.fn 39 [(.rptr 25 x1)])), (7, (.dat 3 (.int x2))), (8, (.dat 3 (.int x3)))], [], 0⟩
theorem i12_j3_eq (m : Nat) (M1 : Nat) (rec1 : List Dt → Dt → Int → Int → Option Int) (h1 : ∀ (x0 : List Dt) (x1 : Dt) (x2 x3 : Int), l12 jn m [1, 0, 1, 0] [] M1 (s12_1 x0 x1 x2 x3) = rec1 x0 x1 x2 x3) (x0 : List Dt) (x1 : Dt) (x2 x3 : Int) : e12 jn m [1, 0, 1, 0, 0, 1, 1, 1] [M1] (s12_3 x0 x1 x2 x3) = i12_j3 m rec1 x0 x1 x2 x3 := by
  have h : ∀ J, e12 J m [1, 0, 1, 0, 0, 1, 1, 1] [M1] (s12_3 x0 x1 x2 x3) =
    (J 1 2 M1 (s12_1 x0 x1 x2 (IntKind.wrap .i64 (x3 + 1))) (l12 J m [1, 0, 1, 0] [] M1 (s12_1 x0 x1 x2 (IntKind.wrap .i64 (x3 + 1))))) := fun J => by kernel_rfl
  exact (h jn).trans (by
    simp only [jn_eq, h1]
    rfl)
theorem i12_j2_eq (m : Nat) (M1 : Nat) (rec1 : List Dt → Dt → Int → Int → Option Int) (h1 : ∀ (x0 : List Dt) (x1 : Dt) (x2 x3 : Int), l12 jn m [1, 0, 1, 0] [] M1 (s12_1 x0 x1 x2 x3) = rec1 x0 x1 x2 x3) (x0 : List Dt) (x1 : Dt) (x2 x3 : Int) : e12 jn m [1, 0, 1, 0, 0, 1, 1] [M1] (s12_2 x0 x1 x2 x3) = i12_j2 m rec1 x0 x1 x2 x3 := by
  have h : ∀ J, e12 J m [1, 0, 1, 0, 0, 1, 1] [M1] (s12_2 x0 x1 x2 x3) =
    ((idx x0 x3).bind fun v0 =>
   ((i13 m v0 x1).bind fun r1 =>
   (bif r1 then
   some x3
   else
   (J 0 6 0 (s12_3 x0 x1 x2 x3) (e12 J m [1, 0, 1, 0, 0, 1, 1, 1] [M1] (s12_3 x0 x1 x2 x3)))))) := fun J => by kernel_rfl
  exact (h jn).trans (by
    simp only [jn_eq, i12_j3_eq m M1 rec1 h1]
    rfl)
theorem i12_j4_eq (m : Nat) : e12 jn m [1, 1] [] s12_4 = i12_j4 m := by
  have h : ∀ J, e12 J m [1, 1] [] s12_4 =
    some (-1) := fun J => by kernel_rfl
  exact (h jn).trans (rfl)
theorem i12_l1_eq (m : Nat) : ∀ (M1 : Nat) (x0 : List Dt) (x1 : Dt) (x2 x3 : Int), l12 jn m [1, 0, 1, 0] [] M1 (s12_1 x0 x1 x2 x3) = i12_l1 m M1 x0 x1 x2 x3
  | 0, _, _, _, _ => rfl
  | M1 + 1, x0, x1, x2, x3 => by
    have h : ∀ J, l12 J m [1, 0, 1, 0] [] (M1 + 1) (s12_1 x0 x1 x2 x3) =
    (bif (decide (x3 < x2)) then
   (J 0 3 0 (s12_2 x0 x1 x2 x3) (e12 J m [1, 0, 1, 0, 0, 1, 1] [M1] (s12_2 x0 x1 x2 x3)))
    else
   (J 0 7 0 s12_4 (e12 J m [1, 1] [] s12_4))) := fun J => by kernel_rfl
    refine (h jn).trans ?_
    simp only [jn_eq, i12_j2_eq m M1 (i12_l1 m M1) (fun x0 x1 x2 x3 => i12_l1_eq m M1 x0 x1 x2 x3), i12_j4_eq m]
    rfl
theorem i12_j0_eq (m : Nat) (x0 : List Dt) (x1 : Dt) (x2 x3 : Int) : e12 jn m [1, 0, 1] [] (s12_0 x0 x1 x2 x3) = i12_j0 m x0 x1 x2 x3 := by
  have h : ∀ J, e12 J m [1, 0, 1] [] (s12_0 x0 x1 x2 x3) =
    (J 1 2 (Nat.succ m) (s12_1 x0 x1 x2 x3) (l12 J m [1, 0, 1, 0] [] (Nat.succ m) (s12_1 x0 x1 x2 x3))) := fun J => by kernel_rfl
  exact (h jn).trans (by
    simp only [jn_eq, i12_l1_eq m]
    rfl)
theorem i12_eq (m : Nat) (a0 : List Dt) (a1 : Dt) : e12 jn m [] [] ⟨[(.dat 22 (.lst a0)), (.fn 39 [(.rptr 25 a1)])], [], 0⟩ = i12 (m + 1) a0 a1 := by
  have h : ∀ J, e12 J m [] [] ⟨[(.dat 22 (.lst a0)), (.fn 39 [(.rptr 25 a1)])], [], 0⟩ =
    (J 0 2 0 (s12_0 a0 a1 (List.length a0 : Int) 0) (e12 J m [1, 0, 1] [] (s12_0 a0 a1 (List.length a0 : Int) 0))) := fun J => by kernel_rfl
  refine (h jn).trans ?_
  simp only [jn_eq, i12_j0_eq m]
  rfl
noncomputable def d11 (q : Res) : Option Bool := match q with
  | (.dat T0 x0, []) => bif Nat.beq T0 4 then some x0.toBool else none
  | _ => none
theorem d11_sim {b : Res} {r : Bool} (h : d11 b = some r) : Sim Tryd.prog b ((.dat 4 (.bool r)), []) := by
  unfold d11 at h
  split at h
  · obtain ⟨hc, h2⟩ := bif_some h
    cases h2
    have e0 := beq_eq hc
    subst e0
    exact Sim.of (.of (.dat (.bool Tryd.underlying4)) rfl rfl) .nil
  · cases h
noncomputable def e11 (J : Nat → Nat → Nat → St → Option Bool → Option Bool) (m : Nat) (p ms : List Nat) (σ : St) := evAt Tryd.prog env (ct m) J (m + 1) 42 9 Tryd.f42 d11 p ms σ
noncomputable def l11 (J : Nat → Nat → Nat → St → Option Bool → Option Bool) (m : Nat) (p ms : List Nat) (M : Nat) (σ : St) := loopAt Tryd.prog env (ct m) J (m + 1) 42 9 Tryd.f42 d11 p ms M σ
theorem i11_eq (m : Nat) (a0 : List Dt) (a1 : Dt) : e11 jn m [] [] ⟨[(.dat 22 (.lst a0)), (.fn 39 [(.rptr 25 a1)])], [], 0⟩ = i11 (m + 1) a0 a1 := by
  have h : ∀ J, e11 J m [] [] ⟨[(.dat 22 (.lst a0)), (.fn 39 [(.rptr 25 a1)])], [], 0⟩ =
    ((i12 m a0 a1).bind fun r0 =>
   some (decide (0 ≤ r0))) := fun J => by kernel_rfl
  refine (h jn).trans ?_
  
  rfl
noncomputable def d34 (q : Res) : Option (List Dt) := match q with
  | (.tup [], [.row T0 x0]) => bif Nat.beq T0 22 then some x0 else none
  | _ => none
theorem d34_sim {b : Res} {r : List Dt} (h : d34 b = some r) : Sim Tryd.prog b ((.tup []), [(.row 22 r)]) := by
  unfold d34 at h
  split at h
  · obtain ⟨hc, h2⟩ := bif_some h
    cases h2
    have e0 := beq_eq hc
    subst e0
    exact Sim.of (.tup .nil) (.cons .same .nil)
  · cases h
noncomputable def e34 (J : Nat → Nat → Nat → St → Option (List Dt) → Option (List Dt)) (m : Nat) (p ms : List Nat) (σ : St) := evAt Tryd.prog env (ct m) J (m + 1) 92 53 Tryd.f92 d34 p ms σ
noncomputable def l34 (J : Nat → Nat → Nat → St → Option (List Dt) → Option (List Dt)) (m : Nat) (p ms : List Nat) (M : Nat) (σ : St) := loopAt Tryd.prog env (ct m) J (m + 1) 92 53 Tryd.f92 d34 p ms M σ
noncomputable def s34_6 (x0 x1 x2 x3 : Int) (x4 : List Dt) : St := ⟨tsOf [(0, (.row 0)), (1, (.dat 3 (.int x0))), (2, (.dat 3 (.int x1))), (3, (.fn 43 [])), (8, (.dat 3 (.int x2))), (9, (.dat 3 (.int x3)))], [(.row 22 x4)], 1⟩
noncomputable def s34_5 (x0 x1 x2 x3 : Int) (x4 : List Dt) : St := ⟨tsOf [(0, (.row 0)), (1, (.dat 3 (.int x0))), (2, (.dat 3 (.int x1))), (3, (.fn 43 [])), (8, (.dat 3 (.int x2))), (9, (.dat 3 (.int x3)))], [(.row 22 x4)], 1⟩
noncomputable def s34_7 (x0 x1 x2 : Int) (x3 : List Dt) : St := ⟨tsOf [(0, (.row 0)), (1, (.dat 3 (.int x0))), (2, (.dat 3 (.int x1))), (3, (.fn 43 [])), (8, (.dat 3 (.int x2)))], [(.row 22 x3)], 1⟩
noncomputable def s34_4 (x0 x1 x2 x3 : Int) (x4 : List Dt) : St := ⟨tsOf [(0, (.row 0)), (1, (.dat 3 (.int x0))), (2, (.dat 3 (.int x1))), (3, (.fn 43 [])), (8, (.dat 3 (.int x2))), (9, (.dat 3 (.int x3)))], [(.row 22 x4)], 1⟩
noncomputable def s34_3 (x0 x1 x2 x3 : Int) (x4 : List Dt) : St := ⟨tsOf [(0, (.row 0)), (1, (.dat 3 (.int x0))), (2, (.dat 3 (.int x1))), (3, (.fn 43 [])), (8, (.dat 3 (.int x2))), (9, (.dat 3 (.int x3)))], [(.row 22 x4)], 1⟩
noncomputable def s34_2 (x0 x1 x2 : Int) (x3 : List Dt) : St := ⟨tsOf [(0, (.row 0)), (1, (.dat 3 (.int x0))), (2, (.dat 3 (.int x1))), (3, (.fn 43 [])), (8, (.dat 3 (.int x2)))], [(.row 22 x3)], 1⟩
noncomputable def s34_1 (x0 x1 x2 : Int) (x3 : List Dt) : St := ⟨tsOf [(0, (.row 0)), (1, (.dat 3 (.int x0))), (2, (.dat 3 (.int x1))), (3, (.fn 43 [])), (8, (.dat 3 (.int x2)))], [(.row 22 x3)], 1⟩
noncomputable def s34_0 (x0 x1 x2 : Int) (x3 : List Dt) : St := ⟨tsOf [(0, (.row 0)), (1, (.dat 3 (.int x0))), (2, (.dat 3 (.int x1))), (3, (.fn 43 [])), (8, (.dat 3 (.int x2)))], [(.row 22 x3)], 1⟩
theorem i34_j6_eq (m : Nat) (M1 : Nat) (rec1 : Int → Int → Int → List Dt → Option (List Dt)) (h1 : ∀ (x0 x1 x2 : Int) (x3 : List Dt), l34 jn m [1, 0] [] M1 (s34_1 x0 x1 x2 x3) = rec1 x0 x1 x2 x3) (M4 : Nat) (rec4 : Int → Int → Int → Int → List Dt → Option (List Dt)) (h4 : ∀ (x0 x1 x2 x3 : Int) (x4 : List Dt), l34 jn m [1, 0, 0, 1, 0, 0, 1, 0] [M1] M4 (s34_4 x0 x1 x2 x3 x4) = rec4 x0 x1 x2 x3 x4) (x0 x1 x2 x3 : Int) (x4 : List Dt) : e34 jn m [1, 0, 0, 1, 0, 0, 1, 0, 0, 1, 1] [M1, M4] (s34_6 x0 x1 x2 x3 x4) = i34_j6 m rec1 rec4 x0 x1 x2 x3 x4 := by
  have h : ∀ J, e34 J m [1, 0, 0, 1, 0, 0, 1, 0, 0, 1, 1] [M1, M4] (s34_6 x0 x1 x2 x3 x4) =
    (J 1 4 M4 (s34_4 x0 x1 x2 (IntKind.wrap .i64 (x3 - 1)) x4) (l34 J m [1, 0, 0, 1, 0, 0, 1, 0] [M1] M4 (s34_4 x0 x1 x2 (IntKind.wrap .i64 (x3 - 1)) x4))) := fun J => by kernel_rfl
  exact (h jn).trans (by
    simp only [jn_eq, h4]
    rfl)
theorem i34_j5_eq (m : Nat) (M1 : Nat) (rec1 : Int → Int → Int → List Dt → Option (List Dt)) (h1 : ∀ (x0 x1 x2 : Int) (x3 : List Dt), l34 jn m [1, 0] [] M1 (s34_1 x0 x1 x2 x3) = rec1 x0 x1 x2 x3) (M4 : Nat) (rec4 : Int → Int → Int → Int → List Dt → Option (List Dt)) (h4 : ∀ (x0 x1 x2 x3 : Int) (x4 : List Dt), l34 jn m [1, 0, 0, 1, 0, 0, 1, 0] [M1] M4 (s34_4 x0 x1 x2 x3 x4) = rec4 x0 x1 x2 x3 x4) (x0 x1 x2 x3 : Int) (x4 : List Dt) : e34 jn m [1, 0, 0, 1, 0, 0, 1, 0, 0, 1] [M1, M4] (s34_5 x0 x1 x2 x3 x4) = i34_j5 m rec1 rec4 x0 x1 x2 x3 x4 := by
  have h : ∀ J, e34 J m [1, 0, 0, 1, 0, 0, 1, 0, 0, 1] [M1, M4] (s34_5 x0 x1 x2 x3 x4) =
    ((inL x4 (IntKind.wrap .i64 (x3 - 1))).bind fun v5 =>
   ((x4[(Int.toNat (IntKind.wrap .i64 (x3 - 1)))]?).bind fun v6 =>
   ((inL x4 x3).bind fun v7 =>
   ((x4[(Int.toNat x3)]?).bind fun v8 =>
   ((inL x4 x3).bind fun v9 =>
   ((x4[(Int.toNat x3)]?).bind fun v10 =>
   ((inL (List.set x4 (Int.toNat x3) v6) (IntKind.wrap .i64 (x3 - 1))).bind fun v11 =>
   (((List.set x4 (Int.toNat x3) v6)[(Int.toNat (IntKind.wrap .i64 (x3 - 1)))]?).bind fun v12 =>
   (J 0 5 0 (s34_6 x0 x1 x2 x3 (List.set (List.set x4 (Int.toNat x3) v6) (Int.toNat (IntKind.wrap .i64 (x3 - 1))) v8)) (e34 J m [1, 0, 0, 1, 0, 0, 1, 0, 0, 1, 1] [M1, M4] (s34_6 x0 x1 x2 x3 (List.set (List.set x4 (Int.toNat x3) v6) (Int.toNat (IntKind.wrap .i64 (x3 - 1))) v8)))))))))))) := fun J => by kernel_rfl
  exact (h jn).trans (by
    simp only [jn_eq, i34_j6_eq m M1 rec1 h1 M4 rec4 h4]
    rfl)
theorem i34_j7_eq (m : Nat) (M1 : Nat) (rec1 : Int → Int → Int → List Dt → Option (List Dt)) (h1 : ∀ (x0 x1 x2 : Int) (x3 : List Dt), l34 jn m [1, 0] [] M1 (s34_1 x0 x1 x2 x3) = rec1 x0 x1 x2 x3) (x0 x1 x2 : Int) (x3 : List Dt) : e34 jn m [1, 0, 0, 1, 1] [M1] (s34_7 x0 x1 x2 x3) = i34_j7 m rec1 x0 x1 x2 x3 := by
  have h : ∀ J, e34 J m [1, 0, 0, 1, 1] [M1] (s34_7 x0 x1 x2 x3) =
    (J 1 1 M1 (s34_1 x0 x1 (IntKind.wrap .i64 (x2 + 1)) x3) (l34 J m [1, 0] [] M1 (s34_1 x0 x1 (IntKind.wrap .i64 (x2 + 1)) x3))) := fun J => by kernel_rfl
  exact (h jn).trans (by
    simp only [jn_eq, h1]
    rfl)
theorem i34_l4_eq (m : Nat) (M1 : Nat) (rec1 : Int → Int → Int → List Dt → Option (List Dt)) (h1 : ∀ (x0 x1 x2 : Int) (x3 : List Dt), l34 jn m [1, 0] [] M1 (s34_1 x0 x1 x2 x3) = rec1 x0 x1 x2 x3) : ∀ (M4 : Nat) (x0 x1 x2 x3 : Int) (x4 : List Dt), l34 jn m [1, 0, 0, 1, 0, 0, 1, 0] [M1] M4 (s34_4 x0 x1 x2 x3 x4) = i34_l4 m rec1 M4 x0 x1 x2 x3 x4
  | 0, _, _, _, _, _ => rfl
  | M4 + 1, x0, x1, x2, x3, x4 => by
    have h : ∀ J, l34 J m [1, 0, 0, 1, 0, 0, 1, 0] [M1] (M4 + 1) (s34_4 x0 x1 x2 x3 x4) =
    (bif (decide (x0 < x3)) then
   ((inL x4 x3).bind fun v0 =>
   ((x4[(Int.toNat x3)]?).bind fun v1 =>
   ((inL x4 (IntKind.wrap .i64 (x3 - 1))).bind fun v2 =>
   ((x4[(Int.toNat (IntKind.wrap .i64 (x3 - 1)))]?).bind fun v3 =>
   ((value_Compare m v1 v3).bind fun r4 =>
   (bif (decide (r4 < 0)) then
   (J 0 6 0 (s34_5 x0 x1 x2 x3 x4) (e34 J m [1, 0, 0, 1, 0, 0, 1, 0, 0, 1] [M1, M4] (s34_5 x0 x1 x2 x3 x4)))
   else
   (J 0 2 0 (s34_7 x0 x1 x2 x4) (e34 J m [1, 0, 0, 1, 1] [M1] (s34_7 x0 x1 x2 x4)))))))))
    else
   (J 0 2 0 (s34_7 x0 x1 x2 x4) (e34 J m [1, 0, 0, 1, 1] [M1] (s34_7 x0 x1 x2 x4)))) := fun J => by kernel_rfl
    refine (h jn).trans ?_
    simp only [jn_eq, i34_j5_eq m M1 rec1 h1 M4 (i34_l4 m rec1 M4) (fun x0 x1 x2 x3 x4 => i34_l4_eq m M1 rec1 h1 M4 x0 x1 x2 x3 x4), i34_j7_eq m M1 rec1 h1]
    rfl
theorem i34_j3_eq (m : Nat) (M1 : Nat) (rec1 : Int → Int → Int → List Dt → Option (List Dt)) (h1 : ∀ (x0 x1 x2 : Int) (x3 : List Dt), l34 jn m [1, 0] [] M1 (s34_1 x0 x1 x2 x3) = rec1 x0 x1 x2 x3) (x0 x1 x2 x3 : Int) (x4 : List Dt) : e34 jn m [1, 0, 0, 1, 0, 0, 1] [M1] (s34_3 x0 x1 x2 x3 x4) = i34_j3 m rec1 x0 x1 x2 x3 x4 := by
  have h : ∀ J, e34 J m [1, 0, 0, 1, 0, 0, 1] [M1] (s34_3 x0 x1 x2 x3 x4) =
    (J 1 4 (Nat.succ m) (s34_4 x0 x1 x2 x3 x4) (l34 J m [1, 0, 0, 1, 0, 0, 1, 0] [M1] (Nat.succ m) (s34_4 x0 x1 x2 x3 x4))) := fun J => by kernel_rfl
  exact (h jn).trans (by
    simp only [jn_eq, i34_l4_eq m M1 rec1 h1]
    rfl)
theorem i34_j2_eq (m : Nat) (M1 : Nat) (rec1 : Int → Int → Int → List Dt → Option (List Dt)) (h1 : ∀ (x0 x1 x2 : Int) (x3 : List Dt), l34 jn m [1, 0] [] M1 (s34_1 x0 x1 x2 x3) = rec1 x0 x1 x2 x3) (x0 x1 x2 : Int) (x3 : List Dt) : e34 jn m [1, 0, 0, 1] [M1] (s34_2 x0 x1 x2 x3) = i34_j2 m rec1 x0 x1 x2 x3 := by
  have h : ∀ J, e34 J m [1, 0, 0, 1] [M1] (s34_2 x0 x1 x2 x3) =
    (J 0 4 0 (s34_3 x0 x1 x2 x2 x3) (e34 J m [1, 0, 0, 1, 0, 0, 1] [M1] (s34_3 x0 x1 x2 x2 x3))) := fun J => by kernel_rfl
  exact (h jn).trans (by
    simp only [jn_eq, i34_j3_eq m M1 rec1 h1]
    rfl)
theorem i34_l1_eq (m : Nat) : ∀ (M1 : Nat) (x0 x1 x2 : Int) (x3 : List Dt), l34 jn m [1, 0] [] M1 (s34_1 x0 x1 x2 x3) = i34_l1 m M1 x0 x1 x2 x3
  | 0, _, _, _, _ => rfl
  | M1 + 1, x0, x1, x2, x3 => by
    have h : ∀ J, l34 J m [1, 0] [] (M1 + 1) (s34_1 x0 x1 x2 x3) =
    (bif (decide (x2 < x1)) then
   (J 0 3 0 (s34_2 x0 x1 x2 x3) (e34 J m [1, 0, 0, 1] [M1] (s34_2 x0 x1 x2 x3)))
    else
   some x3) := fun J => by kernel_rfl
    refine (h jn).trans ?_
    simp only [jn_eq, i34_j2_eq m M1 (i34_l1 m M1) (fun x0 x1 x2 x3 => i34_l1_eq m M1 x0 x1 x2 x3)]
    rfl
theorem i34_j0_eq (m : Nat) (x0 x1 x2 : Int) (x3 : List Dt) : e34 jn m [1] [] (s34_0 x0 x1 x2 x3) = i34_j0 m x0 x1 x2 x3 := by
  have h : ∀ J, e34 J m [1] [] (s34_0 x0 x1 x2 x3) =
    (J 1 1 (Nat.succ m) (s34_1 x0 x1 x2 x3) (l34 J m [1, 0] [] (Nat.succ m) (s34_1 x0 x1 x2 x3))) := fun J => by kernel_rfl
  exact (h jn).trans (by
    simp only [jn_eq, i34_l1_eq m]
    rfl)
theorem i34_eq (m : Nat) (a0 a1 : Int) (a2 : List Dt) : e34 jn m [] [] ⟨[(.row 0), (.dat 3 (.int a0)), (.dat 3 (.int a1)), (.fn 43 [])], [(.row 22 a2)], 1⟩ = i34 (m + 1) a0 a1 a2 := by
  have h : ∀ J, e34 J m [] [] ⟨[(.row 0), (.dat 3 (.int a0)), (.dat 3 (.int a1)), (.fn 43 [])], [(.row 22 a2)], 1⟩ =
    (J 0 1 0 (s34_0 a0 a1 (IntKind.wrap .i64 (a0 + 1)) a2) (e34 J m [1] [] (s34_0 a0 a1 (IntKind.wrap .i64 (a0 + 1)) a2))) := fun J => by kernel_rfl
  refine (h jn).trans ?_
  simp only [jn_eq, i34_j0_eq m]
  rfl
noncomputable def d35 (q : Res) : Option (List Dt) := match q with
  | (.tup [], [.row T0 x0]) => bif Nat.beq T0 22 then some x0 else none
  | _ => none
theorem d35_sim {b : Res} {r : List Dt} (h : d35 b = some r) : Sim Tryd.prog b ((.tup []), [(.row 22 r)]) := by
  unfold d35 at h
  split at h
  · obtain ⟨hc, h2⟩ := bif_some h
    cases h2
    have e0 := beq_eq hc
    subst e0
    exact Sim.of (.tup .nil) (.cons .same .nil)
  · cases h
noncomputable def e35 (J : Nat → Nat → Nat → St → Option (List Dt) → Option (List Dt)) (m : Nat) (p ms : List Nat) (σ : St) := evAt Tryd.prog env (ct m) J (m + 1) 93 220 Tryd.f93 d35 p ms σ
noncomputable def l35 (J : Nat → Nat → Nat → St → Option (List Dt) → Option (List Dt)) (m : Nat) (p ms : List Nat) (M : Nat) (σ : St) := loopAt Tryd.prog env (ct m) J (m + 1) 93 220 Tryd.f93 d35 p ms M σ
noncomputable def s35_2 (x0 x1 x2 : Int) (x3 : List Dt) : St := ⟨tsOf [(0, (.row 0)), (1, (.dat 3 (.int x0))), (4, (.fn 43 [])), (10, (.dat 3 (.int x1))), (11, (.dat 3 (.int x2)))], [(.row 22 x3)], 1⟩
noncomputable def s35_7 (x0 x1 : Int) (x2 : List Dt) : St := ⟨tsOf [(0, (.row 0)), (10, (.dat 3 (.int x0))), (13, (.dat 3 (.int x1)))], [(.row 22 x2)], 1⟩
noncomputable def s35_6 (x0 x1 : Int) (x2 : List Dt) : St := ⟨tsOf [(0, (.row 0)), (10, (.dat 3 (.int x0))), (13, (.dat 3 (.int x1)))], [(.row 22 x2)], 1⟩
noncomputable def s35_5 (x0 x1 : Int) (x2 : List Dt) : St := ⟨tsOf [(0, (.row 0)), (10, (.dat 3 (.int x0))), (13, (.dat 3 (.int x1)))], [(.row 22 x2)], 1⟩
noncomputable def s35_4 (x0 x1 : Int) (x2 : List Dt) : St := ⟨tsOf [(0, (.row 0)), (10, (.dat 3 (.int x0))), (13, (.dat 3 (.int x1)))], [(.row 22 x2)], 1⟩
noncomputable def s35_3 (x0 x1 : Int) (x2 : List Dt) : St := ⟨tsOf [(0, (.row 0)), (1, (.dat 3 (.int x0))), (10, (.dat 3 (.int x1)))], [(.row 22 x2)], 1⟩
noncomputable def s35_1 (x0 x1 x2 : Int) (x3 : List Dt) : St := ⟨tsOf [(0, (.row 0)), (1, (.dat 3 (.int x0))), (4, (.fn 43 [])), (10, (.dat 3 (.int x1))), (11, (.dat 3 (.int x2)))], [(.row 22 x3)], 1⟩
noncomputable def s35_0 (x0 x1 x2 : Int) (x3 : List Dt) : St := ⟨tsOf [(0, (.row 0)), (1, (.dat 3 (.int x0))), (4, (.fn 43 [])), (10, (.dat 3 (.int x1))), (11, (.dat 3 (.int x2)))], [(.row 22 x3)], 1⟩
noncomputable def s35_11 (x0 x1 x2 : Int) (x3 : List Dt) : St := ⟨tsOf [(0, (.row 0)), (2, (.dat 3 (.int x0))), (4, (.fn 43 [])), (14, (.dat 3 (.int x1))), (15, (.dat 3 (.int x2)))], [(.row 22 x3)], 1⟩
noncomputable def s35_16 (x0 x1 : Int) (x2 : List Dt) : St := ⟨tsOf [(0, (.row 0)), (14, (.dat 3 (.int x0))), (17, (.dat 3 (.int x1)))], [(.row 22 x2)], 1⟩
noncomputable def s35_15 (x0 x1 : Int) (x2 : List Dt) : St := ⟨tsOf [(0, (.row 0)), (14, (.dat 3 (.int x0))), (17, (.dat 3 (.int x1)))], [(.row 22 x2)], 1⟩
noncomputable def s35_14 (x0 x1 : Int) (x2 : List Dt) : St := ⟨tsOf [(0, (.row 0)), (14, (.dat 3 (.int x0))), (17, (.dat 3 (.int x1)))], [(.row 22 x2)], 1⟩
noncomputable def s35_13 (x0 x1 : Int) (x2 : List Dt) : St := ⟨tsOf [(0, (.row 0)), (14, (.dat 3 (.int x0))), (17, (.dat 3 (.int x1)))], [(.row 22 x2)], 1⟩
noncomputable def s35_12 (x0 x1 : Int) (x2 : List Dt) : St := ⟨tsOf [(0, (.row 0)), (2, (.dat 3 (.int x0))), (14, (.dat 3 (.int x1)))], [(.row 22 x2)], 1⟩
noncomputable def s35_10 (x0 x1 x2 : Int) (x3 : List Dt) : St := ⟨tsOf [(0, (.row 0)), (2, (.dat 3 (.int x0))), (4, (.fn 43 [])), (14, (.dat 3 (.int x1))), (15, (.dat 3 (.int x2)))], [(.row 22 x3)], 1⟩
noncomputable def s35_9 (x0 x1 x2 : Int) (x3 : List Dt) : St := ⟨tsOf [(0, (.row 0)), (2, (.dat 3 (.int x0))), (4, (.fn 43 [])), (14, (.dat 3 (.int x1))), (15, (.dat 3 (.int x2)))], [(.row 22 x3)], 1⟩
noncomputable def s35_21 (x0 x1 x2 x3 x4 x5 x6 x7 : Int) (x8 : List Dt) : St := ⟨tsOf [(0, (.row 0)), (1, (.dat 3 (.int x0))), (2, (.dat 3 (.int x1))), (3, (.dat 3 (.int x2))), (4, (.fn 43 [])), (18, (.dat 3 (.int x3))), (19, (.dat 3 (.int x4))), (20, (.dat 3 (.int x5))), (21, (.dat 3 (.int x6))), (22, (.dat 3 (.int x7)))], [(.row 22 x8)], 1⟩
noncomputable def s35_27 (x0 x1 x2 : Int) (x3 : Bool) (x4 : List Dt) : St := ⟨tsOf [(0, (.row 0)), (3, (.dat 3 (.int x0))), (4, (.fn 43 [])), (18, (.dat 3 (.int x1))), (24, (.dat 3 (.int x2))), (213, (.dat 4 (.bool x3)))], [(.row 22 x4)], 1⟩
noncomputable def s35_26 (x0 x1 x2 : Int) (x3 : List Dt) : St := ⟨tsOf [(0, (.row 0)), (3, (.dat 3 (.int x0))), (4, (.fn 43 [])), (18, (.dat 3 (.int x1))), (24, (.dat 3 (.int x2)))], [(.row 22 x3)], 1⟩
noncomputable def s35_25 (x0 x1 x2 x3 x4 : Int) (x5 : Bool) (x6 : List Dt) : St := ⟨tsOf [(0, (.row 0)), (1, (.dat 3 (.int x0))), (3, (.dat 3 (.int x1))), (4, (.fn 43 [])), (18, (.dat 3 (.int x2))), (20, (.dat 3 (.int x3))), (24, (.dat 3 (.int x4))), (199, (.dat 4 (.bool x5)))], [(.row 22 x6)], 1⟩
noncomputable def s35_24 (x0 x1 x2 x3 x4 : Int) (x5 : List Dt) : St := ⟨tsOf [(0, (.row 0)), (1, (.dat 3 (.int x0))), (3, (.dat 3 (.int x1))), (4, (.fn 43 [])), (18, (.dat 3 (.int x2))), (20, (.dat 3 (.int x3))), (24, (.dat 3 (.int x4)))], [(.row 22 x5)], 1⟩
noncomputable def s35_23 (x0 x1 x2 x3 x4 x5 : Int) (x6 : Bool) (x7 : List Dt) : St := ⟨tsOf [(0, (.row 0)), (1, (.dat 3 (.int x0))), (2, (.dat 3 (.int x1))), (3, (.dat 3 (.int x2))), (4, (.fn 43 [])), (18, (.dat 3 (.int x3))), (20, (.dat 3 (.int x4))), (24, (.dat 3 (.int x5))), (185, (.dat 4 (.bool x6)))], [(.row 22 x7)], 1⟩
noncomputable def s35_22 (x0 x1 x2 x3 x4 x5 : Int) (x6 : List Dt) : St := ⟨tsOf [(0, (.row 0)), (1, (.dat 3 (.int x0))), (2, (.dat 3 (.int x1))), (3, (.dat 3 (.int x2))), (4, (.fn 43 [])), (18, (.dat 3 (.int x3))), (19, (.dat 3 (.int x4))), (20, (.dat 3 (.int x5)))], [(.row 22 x6)], 1⟩
noncomputable def s35_20 (x0 x1 x2 x3 x4 x5 x6 x7 : Int) (x8 : List Dt) : St := ⟨tsOf [(0, (.row 0)), (1, (.dat 3 (.int x0))), (2, (.dat 3 (.int x1))), (3, (.dat 3 (.int x2))), (4, (.fn 43 [])), (18, (.dat 3 (.int x3))), (19, (.dat 3 (.int x4))), (20, (.dat 3 (.int x5))), (21, (.dat 3 (.int x6))), (22, (.dat 3 (.int x7)))], [(.row 22 x8)], 1⟩
noncomputable def s35_19 (x0 x1 x2 x3 x4 x5 x6 x7 : Int) (x8 : List Dt) : St := ⟨tsOf [(0, (.row 0)), (1, (.dat 3 (.int x0))), (2, (.dat 3 (.int x1))), (3, (.dat 3 (.int x2))), (4, (.fn 43 [])), (18, (.dat 3 (.int x3))), (19, (.dat 3 (.int x4))), (20, (.dat 3 (.int x5))), (21, (.dat 3 (.int x6))), (22, (.dat 3 (.int x7)))], [(.row 22 x8)], 1⟩
noncomputable def s35_18 (x0 x1 x2 x3 x4 x5 x6 : Int) (x7 : List Dt) : St := ⟨tsOf [(0, (.row 0)), (1, (.dat 3 (.int x0))), (2, (.dat 3 (.int x1))), (3, (.dat 3 (.int x2))), (4, (.fn 43 [])), (18, (.dat 3 (.int x3))), (19, (.dat 3 (.int x4))), (20, (.dat 3 (.int x5))), (21, (.dat 3 (.int x6)))], [(.row 22 x7)], 1⟩
noncomputable def s35_17 (x0 x1 x2 : Int) (x3 : List Dt) : St := ⟨tsOf [(0, (.row 0)), (1, (.dat 3 (.int x0))), (2, (.dat 3 (.int x1))), (3, (.dat 3 (.int x2))), (4, (.fn 43 []))], [(.row 22 x3)], 1⟩
noncomputable def s35_8 (x0 x1 x2 : Int) (x3 : List Dt) : St := ⟨tsOf [(0, (.row 0)), (1, (.dat 3 (.int x0))), (2, (.dat 3 (.int x1))), (3, (.dat 3 (.int x2))), (4, (.fn 43 []))], [(.row 22 x3)], 1⟩
theorem i35_j2_eq (m : Nat) (M1 : Nat) (rec1 : Int → Int → Int → List Dt → Option (List Dt)) (h1 : ∀ (x0 x1 x2 : Int) (x3 : List Dt), l35 jn m [0, 1, 0, 1, 1, 0, 0] [] M1 (s35_1 x0 x1 x2 x3) = rec1 x0 x1 x2 x3) (x0 x1 x2 : Int) (x3 : List Dt) : e35 jn m [0, 1, 0, 1, 1, 0, 0, 0, 1] [M1] (s35_2 x0 x1 x2 x3) = i35_j2 m (i35 m) rec1 x0 x1 x2 x3 := by
  have h : ∀ J, e35 J m [0, 1, 0, 1, 1, 0, 0, 0, 1] [M1] (s35_2 x0 x1 x2 x3) =
    ((inL x3 (IntKind.wrap .i64 (shrI IntKind.u64 (IntKind.wrap IntKind.u64 (IntKind.wrap .i64 (x1 + x2))) 1))).bind fun v0 =>
   ((x3[(Int.toNat (IntKind.wrap .i64 (shrI IntKind.u64 (IntKind.wrap IntKind.u64 (IntKind.wrap .i64 (x1 + x2))) 1)))]?).bind fun v1 =>
   ((inL x3 x0).bind fun v2 =>
   ((x3[(Int.toNat x0)]?).bind fun v3 =>
   ((value_Compare m v1 v3).bind fun r4 =>
   (bif (decide (r4 < 0)) then
   (J 1 3 M1 (s35_1 x0 (IntKind.wrap .i64 ((IntKind.wrap .i64 (shrI IntKind.u64 (IntKind.wrap IntKind.u64 (IntKind.wrap .i64 (x1 + x2))) 1)) + 1)) x2 x3) (l35 J m [0, 1, 0, 1, 1, 0, 0] [] M1 (s35_1 x0 (IntKind.wrap .i64 ((IntKind.wrap .i64 (shrI IntKind.u64 (IntKind.wrap IntKind.u64 (IntKind.wrap .i64 (x1 + x2))) 1)) + 1)) x2 x3)))
   else
   (J 1 3 M1 (s35_1 x0 x1 (IntKind.wrap .i64 (shrI IntKind.u64 (IntKind.wrap IntKind.u64 (IntKind.wrap .i64 (x1 + x2))) 1)) x3) (l35 J m [0, 1, 0, 1, 1, 0, 0] [] M1 (s35_1 x0 x1 (IntKind.wrap .i64 (shrI IntKind.u64 (IntKind.wrap IntKind.u64 (IntKind.wrap .i64 (x1 + x2))) 1)) x3))))))))) := fun J => by kernel_rfl
  exact (h jn).trans (by
    simp only [jn_eq, h1]
    rfl)
theorem i35_j7_eq (m : Nat) (M5 : Nat) (rec5 : Int → Int → List Dt → Option (List Dt)) (h5 : ∀ (x0 x1 : Int) (x2 : List Dt), l35 jn m [0, 1, 0, 1, 1, 1, 0, 1, 0] [] M5 (s35_5 x0 x1 x2) = rec5 x0 x1 x2) (x0 x1 : Int) (x2 : List Dt) : e35 jn m [0, 1, 0, 1, 1, 1, 0, 1, 0, 0, 1, 1] [M5] (s35_7 x0 x1 x2) = i35_j7 m (i35 m) rec5 x0 x1 x2 := by
  have h : ∀ J, e35 J m [0, 1, 0, 1, 1, 1, 0, 1, 0, 0, 1, 1] [M5] (s35_7 x0 x1 x2) =
    (J 1 9 M5 (s35_5 x0 (IntKind.wrap .i64 (x1 + 1)) x2) (l35 J m [0, 1, 0, 1, 1, 1, 0, 1, 0] [] M5 (s35_5 x0 (IntKind.wrap .i64 (x1 + 1)) x2))) := fun J => by kernel_rfl
  exact (h jn).trans (by
    simp only [jn_eq, h5]
    rfl)
theorem i35_j6_eq (m : Nat) (M5 : Nat) (rec5 : Int → Int → List Dt → Option (List Dt)) (h5 : ∀ (x0 x1 : Int) (x2 : List Dt), l35 jn m [0, 1, 0, 1, 1, 1, 0, 1, 0] [] M5 (s35_5 x0 x1 x2) = rec5 x0 x1 x2) (x0 x1 : Int) (x2 : List Dt) : e35 jn m [0, 1, 0, 1, 1, 1, 0, 1, 0, 0, 1] [M5] (s35_6 x0 x1 x2) = i35_j6 m (i35 m) rec5 x0 x1 x2 := by
  have h : ∀ J, e35 J m [0, 1, 0, 1, 1, 1, 0, 1, 0, 0, 1] [M5] (s35_6 x0 x1 x2) =
    ((inL x2 (IntKind.wrap .i64 (x1 + 1))).bind fun v5 =>
   ((x2[(Int.toNat (IntKind.wrap .i64 (x1 + 1)))]?).bind fun v6 =>
   ((inL x2 x1).bind fun v7 =>
   ((x2[(Int.toNat x1)]?).bind fun v8 =>
   ((inL x2 x1).bind fun v9 =>
   ((x2[(Int.toNat x1)]?).bind fun v10 =>
   ((inL (List.set x2 (Int.toNat x1) v6) (IntKind.wrap .i64 (x1 + 1))).bind fun v11 =>
   (((List.set x2 (Int.toNat x1) v6)[(Int.toNat (IntKind.wrap .i64 (x1 + 1)))]?).bind fun v12 =>
   (J 0 10 0 (s35_7 x0 x1 (List.set (List.set x2 (Int.toNat x1) v6) (Int.toNat (IntKind.wrap .i64 (x1 + 1))) v8)) (e35 J m [0, 1, 0, 1, 1, 1, 0, 1, 0, 0, 1, 1] [M5] (s35_7 x0 x1 (List.set (List.set x2 (Int.toNat x1) v6) (Int.toNat (IntKind.wrap .i64 (x1 + 1))) v8)))))))))))) := fun J => by kernel_rfl
  exact (h jn).trans (by
    simp only [jn_eq, i35_j7_eq m M5 rec5 h5]
    rfl)
theorem i35_l5_eq (m : Nat) : ∀ (M5 : Nat) (x0 x1 : Int) (x2 : List Dt), l35 jn m [0, 1, 0, 1, 1, 1, 0, 1, 0] [] M5 (s35_5 x0 x1 x2) = i35_l5 m (i35 m) M5 x0 x1 x2
  | 0, _, _, _ => rfl
  | M5 + 1, x0, x1, x2 => by
    have h : ∀ J, l35 J m [0, 1, 0, 1, 1, 1, 0, 1, 0] [] (M5 + 1) (s35_5 x0 x1 x2) =
    (bif (decide (x1 < (IntKind.wrap .i64 (x0 - 1)))) then
   (J 0 11 0 (s35_6 x0 x1 x2) (e35 J m [0, 1, 0, 1, 1, 1, 0, 1, 0, 0, 1] [M5] (s35_6 x0 x1 x2)))
    else
   some x2) := fun J => by kernel_rfl
    refine (h jn).trans ?_
    simp only [jn_eq, i35_j6_eq m M5 (i35_l5 m (i35 m) M5) (fun x0 x1 x2 => i35_l5_eq m M5 x0 x1 x2)]
    rfl
theorem i35_j4_eq (m : Nat) (x0 x1 : Int) (x2 : List Dt) : e35 jn m [0, 1, 0, 1, 1, 1, 0, 1] [] (s35_4 x0 x1 x2) = i35_j4 m (i35 m) x0 x1 x2 := by
  have h : ∀ J, e35 J m [0, 1, 0, 1, 1, 1, 0, 1] [] (s35_4 x0 x1 x2) =
    (J 1 9 (Nat.succ m) (s35_5 x0 x1 x2) (l35 J m [0, 1, 0, 1, 1, 1, 0, 1, 0] [] (Nat.succ m) (s35_5 x0 x1 x2))) := fun J => by kernel_rfl
  exact (h jn).trans (by
    simp only [jn_eq, i35_l5_eq m]
    rfl)
theorem i35_j3_eq (m : Nat) (x0 x1 : Int) (x2 : List Dt) : e35 jn m [0, 1, 0, 1, 1, 1] [] (s35_3 x0 x1 x2) = i35_j3 m (i35 m) x0 x1 x2 := by
  have h : ∀ J, e35 J m [0, 1, 0, 1, 1, 1] [] (s35_3 x0 x1 x2) =
    (J 0 9 0 (s35_4 x1 x0 x2) (e35 J m [0, 1, 0, 1, 1, 1, 0, 1] [] (s35_4 x1 x0 x2))) := fun J => by kernel_rfl
  exact (h jn).trans (by
    simp only [jn_eq, i35_j4_eq m]
    rfl)
theorem i35_l1_eq (m : Nat) : ∀ (M1 : Nat) (x0 x1 x2 : Int) (x3 : List Dt), l35 jn m [0, 1, 0, 1, 1, 0, 0] [] M1 (s35_1 x0 x1 x2 x3) = i35_l1 m (i35 m) M1 x0 x1 x2 x3
  | 0, _, _, _, _ => rfl
  | M1 + 1, x0, x1, x2, x3 => by
    have h : ∀ J, l35 J m [0, 1, 0, 1, 1, 0, 0] [] (M1 + 1) (s35_1 x0 x1 x2 x3) =
    (bif (decide (x1 < x2)) then
   (J 0 4 0 (s35_2 x0 x1 x2 x3) (e35 J m [0, 1, 0, 1, 1, 0, 0, 0, 1] [M1] (s35_2 x0 x1 x2 x3)))
    else
   (J 0 8 0 (s35_3 x0 x1 x3) (e35 J m [0, 1, 0, 1, 1, 1] [] (s35_3 x0 x1 x3)))) := fun J => by kernel_rfl
    refine (h jn).trans ?_
    simp only [jn_eq, i35_j2_eq m M1 (i35_l1 m (i35 m) M1) (fun x0 x1 x2 x3 => i35_l1_eq m M1 x0 x1 x2 x3), i35_j3_eq m]
    rfl
theorem i35_j0_eq (m : Nat) (x0 x1 x2 : Int) (x3 : List Dt) : e35 jn m [0, 1, 0, 1, 1] [] (s35_0 x0 x1 x2 x3) = i35_j0 m (i35 m) x0 x1 x2 x3 := by
  have h : ∀ J, e35 J m [0, 1, 0, 1, 1] [] (s35_0 x0 x1 x2 x3) =
    (J 1 3 (Nat.succ m) (s35_1 x0 x1 x2 x3) (l35 J m [0, 1, 0, 1, 1, 0, 0] [] (Nat.succ m) (s35_1 x0 x1 x2 x3))) := fun J => by kernel_rfl
  exact (h jn).trans (by
    simp only [jn_eq, i35_l1_eq m]
    rfl)
theorem i35_j11_eq (m : Nat) (M10 : Nat) (rec10 : Int → Int → Int → List Dt → Option (List Dt)) (h10 : ∀ (x0 x1 x2 : Int) (x3 : List Dt), l35 jn m [1, 0, 1, 0, 1, 1, 0, 0] [] M10 (s35_10 x0 x1 x2 x3) = rec10 x0 x1 x2 x3) (x0 x1 x2 : Int) (x3 : List Dt) : e35 jn m [1, 0, 1, 0, 1, 1, 0, 0, 0, 1] [M10] (s35_11 x0 x1 x2 x3) = i35_j11 m (i35 m) rec10 x0 x1 x2 x3 := by
  have h : ∀ J, e35 J m [1, 0, 1, 0, 1, 1, 0, 0, 0, 1] [M10] (s35_11 x0 x1 x2 x3) =
    ((inL x3 x0).bind fun v13 =>
   ((x3[(Int.toNat x0)]?).bind fun v14 =>
   ((inL x3 (IntKind.wrap .i64 (shrI IntKind.u64 (IntKind.wrap IntKind.u64 (IntKind.wrap .i64 (x1 + x2))) 1))).bind fun v15 =>
   ((x3[(Int.toNat (IntKind.wrap .i64 (shrI IntKind.u64 (IntKind.wrap IntKind.u64 (IntKind.wrap .i64 (x1 + x2))) 1)))]?).bind fun v16 =>
   ((value_Compare m v14 v16).bind fun r17 =>
   (bif (Bool.not (decide (r17 < 0))) then
   (J 1 15 M10 (s35_10 x0 (IntKind.wrap .i64 ((IntKind.wrap .i64 (shrI IntKind.u64 (IntKind.wrap IntKind.u64 (IntKind.wrap .i64 (x1 + x2))) 1)) + 1)) x2 x3) (l35 J m [1, 0, 1, 0, 1, 1, 0, 0] [] M10 (s35_10 x0 (IntKind.wrap .i64 ((IntKind.wrap .i64 (shrI IntKind.u64 (IntKind.wrap IntKind.u64 (IntKind.wrap .i64 (x1 + x2))) 1)) + 1)) x2 x3)))
   else
   (J 1 15 M10 (s35_10 x0 x1 (IntKind.wrap .i64 (shrI IntKind.u64 (IntKind.wrap IntKind.u64 (IntKind.wrap .i64 (x1 + x2))) 1)) x3) (l35 J m [1, 0, 1, 0, 1, 1, 0, 0] [] M10 (s35_10 x0 x1 (IntKind.wrap .i64 (shrI IntKind.u64 (IntKind.wrap IntKind.u64 (IntKind.wrap .i64 (x1 + x2))) 1)) x3))))))))) := fun J => by kernel_rfl
  exact (h jn).trans (by
    simp only [jn_eq, h10]
    rfl)
theorem i35_j16_eq (m : Nat) (M14 : Nat) (rec14 : Int → Int → List Dt → Option (List Dt)) (h14 : ∀ (x0 x1 : Int) (x2 : List Dt), l35 jn m [1, 0, 1, 0, 1, 1, 1, 0, 1, 0] [] M14 (s35_14 x0 x1 x2) = rec14 x0 x1 x2) (x0 x1 : Int) (x2 : List Dt) : e35 jn m [1, 0, 1, 0, 1, 1, 1, 0, 1, 0, 0, 1, 1] [M14] (s35_16 x0 x1 x2) = i35_j16 m (i35 m) rec14 x0 x1 x2 := by
  have h : ∀ J, e35 J m [1, 0, 1, 0, 1, 1, 1, 0, 1, 0, 0, 1, 1] [M14] (s35_16 x0 x1 x2) =
    (J 1 21 M14 (s35_14 x0 (IntKind.wrap .i64 (x1 - 1)) x2) (l35 J m [1, 0, 1, 0, 1, 1, 1, 0, 1, 0] [] M14 (s35_14 x0 (IntKind.wrap .i64 (x1 - 1)) x2))) := fun J => by kernel_rfl
  exact (h jn).trans (by
    simp only [jn_eq, h14]
    rfl)
theorem i35_j15_eq (m : Nat) (M14 : Nat) (rec14 : Int → Int → List Dt → Option (List Dt)) (h14 : ∀ (x0 x1 : Int) (x2 : List Dt), l35 jn m [1, 0, 1, 0, 1, 1, 1, 0, 1, 0] [] M14 (s35_14 x0 x1 x2) = rec14 x0 x1 x2) (x0 x1 : Int) (x2 : List Dt) : e35 jn m [1, 0, 1, 0, 1, 1, 1, 0, 1, 0, 0, 1] [M14] (s35_15 x0 x1 x2) = i35_j15 m (i35 m) rec14 x0 x1 x2 := by
  have h : ∀ J, e35 J m [1, 0, 1, 0, 1, 1, 1, 0, 1, 0, 0, 1] [M14] (s35_15 x0 x1 x2) =
    ((inL x2 (IntKind.wrap .i64 (x1 - 1))).bind fun v18 =>
   ((x2[(Int.toNat (IntKind.wrap .i64 (x1 - 1)))]?).bind fun v19 =>
   ((inL x2 x1).bind fun v20 =>
   ((x2[(Int.toNat x1)]?).bind fun v21 =>
   ((inL x2 x1).bind fun v22 =>
   ((x2[(Int.toNat x1)]?).bind fun v23 =>
   ((inL (List.set x2 (Int.toNat x1) v19) (IntKind.wrap .i64 (x1 - 1))).bind fun v24 =>
   (((List.set x2 (Int.toNat x1) v19)[(Int.toNat (IntKind.wrap .i64 (x1 - 1)))]?).bind fun v25 =>
   (J 0 22 0 (s35_16 x0 x1 (List.set (List.set x2 (Int.toNat x1) v19) (Int.toNat (IntKind.wrap .i64 (x1 - 1))) v21)) (e35 J m [1, 0, 1, 0, 1, 1, 1, 0, 1, 0, 0, 1, 1] [M14] (s35_16 x0 x1 (List.set (List.set x2 (Int.toNat x1) v19) (Int.toNat (IntKind.wrap .i64 (x1 - 1))) v21)))))))))))) := fun J => by kernel_rfl
  exact (h jn).trans (by
    simp only [jn_eq, i35_j16_eq m M14 rec14 h14]
    rfl)
theorem i35_l14_eq (m : Nat) : ∀ (M14 : Nat) (x0 x1 : Int) (x2 : List Dt), l35 jn m [1, 0, 1, 0, 1, 1, 1, 0, 1, 0] [] M14 (s35_14 x0 x1 x2) = i35_l14 m (i35 m) M14 x0 x1 x2
  | 0, _, _, _ => rfl
  | M14 + 1, x0, x1, x2 => by
    have h : ∀ J, l35 J m [1, 0, 1, 0, 1, 1, 1, 0, 1, 0] [] (M14 + 1) (s35_14 x0 x1 x2) =
    (bif (decide (x0 < x1)) then
   (J 0 23 0 (s35_15 x0 x1 x2) (e35 J m [1, 0, 1, 0, 1, 1, 1, 0, 1, 0, 0, 1] [M14] (s35_15 x0 x1 x2)))
    else
   some x2) := fun J => by kernel_rfl
    refine (h jn).trans ?_
    simp only [jn_eq, i35_j15_eq m M14 (i35_l14 m (i35 m) M14) (fun x0 x1 x2 => i35_l14_eq m M14 x0 x1 x2)]
    rfl
theorem i35_j13_eq (m : Nat) (x0 x1 : Int) (x2 : List Dt) : e35 jn m [1, 0, 1, 0, 1, 1, 1, 0, 1] [] (s35_13 x0 x1 x2) = i35_j13 m (i35 m) x0 x1 x2 := by
  have h : ∀ J, e35 J m [1, 0, 1, 0, 1, 1, 1, 0, 1] [] (s35_13 x0 x1 x2) =
    (J 1 21 (Nat.succ m) (s35_14 x0 x1 x2) (l35 J m [1, 0, 1, 0, 1, 1, 1, 0, 1, 0] [] (Nat.succ m) (s35_14 x0 x1 x2))) := fun J => by kernel_rfl
  exact (h jn).trans (by
    simp only [jn_eq, i35_l14_eq m]
    rfl)
theorem i35_j12_eq (m : Nat) (x0 x1 : Int) (x2 : List Dt) : e35 jn m [1, 0, 1, 0, 1, 1, 1] [] (s35_12 x0 x1 x2) = i35_j12 m (i35 m) x0 x1 x2 := by
  have h : ∀ J, e35 J m [1, 0, 1, 0, 1, 1, 1] [] (s35_12 x0 x1 x2) =
    (J 0 21 0 (s35_13 x1 x0 x2) (e35 J m [1, 0, 1, 0, 1, 1, 1, 0, 1] [] (s35_13 x1 x0 x2))) := fun J => by kernel_rfl
  exact (h jn).trans (by
    simp only [jn_eq, i35_j13_eq m]
    rfl)
theorem i35_l10_eq (m : Nat) : ∀ (M10 : Nat) (x0 x1 x2 : Int) (x3 : List Dt), l35 jn m [1, 0, 1, 0, 1, 1, 0, 0] [] M10 (s35_10 x0 x1 x2 x3) = i35_l10 m (i35 m) M10 x0 x1 x2 x3
  | 0, _, _, _, _ => rfl
  | M10 + 1, x0, x1, x2, x3 => by
    have h : ∀ J, l35 J m [1, 0, 1, 0, 1, 1, 0, 0] [] (M10 + 1) (s35_10 x0 x1 x2 x3) =
    (bif (decide (x1 < x2)) then
   (J 0 16 0 (s35_11 x0 x1 x2 x3) (e35 J m [1, 0, 1, 0, 1, 1, 0, 0, 0, 1] [M10] (s35_11 x0 x1 x2 x3)))
    else
   (J 0 20 0 (s35_12 x0 x1 x3) (e35 J m [1, 0, 1, 0, 1, 1, 1] [] (s35_12 x0 x1 x3)))) := fun J => by kernel_rfl
    refine (h jn).trans ?_
    simp only [jn_eq, i35_j11_eq m M10 (i35_l10 m (i35 m) M10) (fun x0 x1 x2 x3 => i35_l10_eq m M10 x0 x1 x2 x3), i35_j12_eq m]
    rfl
theorem i35_j9_eq (m : Nat) (x0 x1 x2 : Int) (x3 : List Dt) : e35 jn m [1, 0, 1, 0, 1, 1] [] (s35_9 x0 x1 x2 x3) = i35_j9 m (i35 m) x0 x1 x2 x3 := by
  have h : ∀ J, e35 J m [1, 0, 1, 0, 1, 1] [] (s35_9 x0 x1 x2 x3) =
    (J 1 15 (Nat.succ m) (s35_10 x0 x1 x2 x3) (l35 J m [1, 0, 1, 0, 1, 1, 0, 0] [] (Nat.succ m) (s35_10 x0 x1 x2 x3))) := fun J => by kernel_rfl
  exact (h jn).trans (by
    simp only [jn_eq, i35_l10_eq m]
    rfl)
theorem i35_j21_eq (m : Nat) (M20 : Nat) (rec20 : Int → Int → Int → Int → Int → Int → Int → Int → List Dt → Option (List Dt)) (h20 : ∀ (x0 x1 x2 x3 x4 x5 x6 x7 : Int) (x8 : List Dt), l35 jn m [1, 1, 1, 1, 1, 1, 1, 0, 0] [] M20 (s35_20 x0 x1 x2 x3 x4 x5 x6 x7 x8) = rec20 x0 x1 x2 x3 x4 x5 x6 x7 x8) (x0 x1 x2 x3 x4 x5 x6 x7 : Int) (x8 : List Dt) : e35 jn m [1, 1, 1, 1, 1, 1, 1, 0, 0, 0, 1] [M20] (s35_21 x0 x1 x2 x3 x4 x5 x6 x7 x8) = i35_j21 m (i35 m) rec20 x0 x1 x2 x3 x4 x5 x6 x7 x8 := by
  have h : ∀ J, e35 J m [1, 1, 1, 1, 1, 1, 1, 0, 0, 0, 1] [M20] (s35_21 x0 x1 x2 x3 x4 x5 x6 x7 x8) =
    ((inL x8 (IntKind.wrap .i64 (x7 - (IntKind.wrap .i64 (shrI IntKind.u64 (IntKind.wrap IntKind.u64 (IntKind.wrap .i64 (x5 + x6))) 1))))).bind fun v26 =>
   ((x8[(Int.toNat (IntKind.wrap .i64 (x7 - (IntKind.wrap .i64 (shrI IntKind.u64 (IntKind.wrap IntKind.u64 (IntKind.wrap .i64 (x5 + x6))) 1)))))]?).bind fun v27 =>
   ((inL x8 (IntKind.wrap .i64 (shrI IntKind.u64 (IntKind.wrap IntKind.u64 (IntKind.wrap .i64 (x5 + x6))) 1))).bind fun v28 =>
   ((x8[(Int.toNat (IntKind.wrap .i64 (shrI IntKind.u64 (IntKind.wrap IntKind.u64 (IntKind.wrap .i64 (x5 + x6))) 1)))]?).bind fun v29 =>
   ((value_Compare m v27 v29).bind fun r30 =>
   (bif (Bool.not (decide (r30 < 0))) then
   (J 1 33 M20 (s35_20 x0 x1 x2 x3 x4 (IntKind.wrap .i64 ((IntKind.wrap .i64 (shrI IntKind.u64 (IntKind.wrap IntKind.u64 (IntKind.wrap .i64 (x5 + x6))) 1)) + 1)) x6 x7 x8) (l35 J m [1, 1, 1, 1, 1, 1, 1, 0, 0] [] M20 (s35_20 x0 x1 x2 x3 x4 (IntKind.wrap .i64 ((IntKind.wrap .i64 (shrI IntKind.u64 (IntKind.wrap IntKind.u64 (IntKind.wrap .i64 (x5 + x6))) 1)) + 1)) x6 x7 x8)))
   else
   (J 1 33 M20 (s35_20 x0 x1 x2 x3 x4 x5 (IntKind.wrap .i64 (shrI IntKind.u64 (IntKind.wrap IntKind.u64 (IntKind.wrap .i64 (x5 + x6))) 1)) x7 x8) (l35 J m [1, 1, 1, 1, 1, 1, 1, 0, 0] [] M20 (s35_20 x0 x1 x2 x3 x4 x5 (IntKind.wrap .i64 (shrI IntKind.u64 (IntKind.wrap IntKind.u64 (IntKind.wrap .i64 (x5 + x6))) 1)) x7 x8))))))))) := fun J => by kernel_rfl
  exact (h jn).trans (by
    simp only [jn_eq, h20]
    rfl)
theorem i35_j27_eq (m : Nat) (x0 x1 x2 : Int) (x3 : Bool) (x4 : List Dt) : e35 jn m [1, 1, 1, 1, 1, 1, 1, 1, 1, 1, 1, 1] [] (s35_27 x0 x1 x2 x3 x4) = i35_j27 m (i35 m) x0 x1 x2 x3 x4 := by
  have h : ∀ J, e35 J m [1, 1, 1, 1, 1, 1, 1, 1, 1, 1, 1, 1] [] (s35_27 x0 x1 x2 x3 x4) =
    (bif x3 then
   ((i35 m x1 x2 x0 x4).bind fun r33 =>
   some r33)
    else
   some x4) := fun J => by kernel_rfl
  exact (h jn).trans (rfl)
theorem i35_j26_eq (m : Nat) (x0 x1 x2 : Int) (x3 : List Dt) : e35 jn m [1, 1, 1, 1, 1, 1, 1, 1, 1, 1, 1] [] (s35_26 x0 x1 x2 x3) = i35_j26 m (i35 m) x0 x1 x2 x3 := by
  have h : ∀ J, e35 J m [1, 1, 1, 1, 1, 1, 1, 1, 1, 1, 1] [] (s35_26 x0 x1 x2 x3) =
    (bif (decide (x1 < x2)) then
   (J 0 44 0 (s35_27 x0 x1 x2 (decide (x2 < x0)) x3) (e35 J m [1, 1, 1, 1, 1, 1, 1, 1, 1, 1, 1, 1] [] (s35_27 x0 x1 x2 (decide (x2 < x0)) x3)))
    else
   (J 0 44 0 (s35_27 x0 x1 x2 false x3) (e35 J m [1, 1, 1, 1, 1, 1, 1, 1, 1, 1, 1, 1] [] (s35_27 x0 x1 x2 false x3)))) := fun J => by kernel_rfl
  exact (h jn).trans (by
    simp only [jn_eq, i35_j27_eq m]
    rfl)
theorem i35_j25_eq (m : Nat) (x0 x1 x2 x3 x4 : Int) (x5 : Bool) (x6 : List Dt) : e35 jn m [1, 1, 1, 1, 1, 1, 1, 1, 1, 1, 0, 1] [] (s35_25 x0 x1 x2 x3 x4 x5 x6) = i35_j25 m (i35 m) x0 x1 x2 x3 x4 x5 x6 := by
  have h : ∀ J, e35 J m [1, 1, 1, 1, 1, 1, 1, 1, 1, 1, 0, 1] [] (s35_25 x0 x1 x2 x3 x4 x5 x6) =
    (bif x5 then
   ((i35 m x0 x3 x2 x6).bind fun r32 =>
   (J 0 43 0 (s35_26 x1 x2 x4 r32) (e35 J m [1, 1, 1, 1, 1, 1, 1, 1, 1, 1, 1] [] (s35_26 x1 x2 x4 r32))))
    else
   (J 0 43 0 (s35_26 x1 x2 x4 x6) (e35 J m [1, 1, 1, 1, 1, 1, 1, 1, 1, 1, 1] [] (s35_26 x1 x2 x4 x6)))) := fun J => by kernel_rfl
  exact (h jn).trans (by
    simp only [jn_eq, i35_j26_eq m]
    rfl)
theorem i35_j24_eq (m : Nat) (x0 x1 x2 x3 x4 : Int) (x5 : List Dt) : e35 jn m [1, 1, 1, 1, 1, 1, 1, 1, 1, 1] [] (s35_24 x0 x1 x2 x3 x4 x5) = i35_j24 m (i35 m) x0 x1 x2 x3 x4 x5 := by
  have h : ∀ J, e35 J m [1, 1, 1, 1, 1, 1, 1, 1, 1, 1] [] (s35_24 x0 x1 x2 x3 x4 x5) =
    (bif (decide (x0 < x3)) then
   (J 0 42 0 (s35_25 x0 x1 x2 x3 x4 (decide (x3 < x2)) x5) (e35 J m [1, 1, 1, 1, 1, 1, 1, 1, 1, 1, 0, 1] [] (s35_25 x0 x1 x2 x3 x4 (decide (x3 < x2)) x5)))
    else
   (J 0 42 0 (s35_25 x0 x1 x2 x3 x4 false x5) (e35 J m [1, 1, 1, 1, 1, 1, 1, 1, 1, 1, 0, 1] [] (s35_25 x0 x1 x2 x3 x4 false x5)))) := fun J => by kernel_rfl
  exact (h jn).trans (by
    simp only [jn_eq, i35_j25_eq m]
    rfl)
theorem i35_j23_eq (m : Nat) (x0 x1 x2 x3 x4 x5 : Int) (x6 : Bool) (x7 : List Dt) : e35 jn m [1, 1, 1, 1, 1, 1, 1, 1, 1, 0, 1] [] (s35_23 x0 x1 x2 x3 x4 x5 x6 x7) = i35_j23 m (i35 m) x0 x1 x2 x3 x4 x5 x6 x7 := by
  have h : ∀ J, e35 J m [1, 1, 1, 1, 1, 1, 1, 1, 1, 0, 1] [] (s35_23 x0 x1 x2 x3 x4 x5 x6 x7) =
    (bif x6 then
   ((i36 m x4 x1 x5 x7).bind fun r31 =>
   (J 0 41 0 (s35_24 x0 x2 x3 x4 x5 r31) (e35 J m [1, 1, 1, 1, 1, 1, 1, 1, 1, 1] [] (s35_24 x0 x2 x3 x4 x5 r31))))
    else
   (J 0 41 0 (s35_24 x0 x2 x3 x4 x5 x7) (e35 J m [1, 1, 1, 1, 1, 1, 1, 1, 1, 1] [] (s35_24 x0 x2 x3 x4 x5 x7)))) := fun J => by kernel_rfl
  exact (h jn).trans (by
    simp only [jn_eq, i35_j24_eq m]
    rfl)
theorem i35_j22_eq (m : Nat) (x0 x1 x2 x3 x4 x5 : Int) (x6 : List Dt) : e35 jn m [1, 1, 1, 1, 1, 1, 1, 1] [] (s35_22 x0 x1 x2 x3 x4 x5 x6) = i35_j22 m (i35 m) x0 x1 x2 x3 x4 x5 x6 := by
  have h : ∀ J, e35 J m [1, 1, 1, 1, 1, 1, 1, 1] [] (s35_22 x0 x1 x2 x3 x4 x5 x6) =
    (bif (decide (x5 < x1)) then
   (J 0 40 0 (s35_23 x0 x1 x2 x3 x5 (IntKind.wrap .i64 (x4 - x5)) (decide (x1 < (IntKind.wrap .i64 (x4 - x5)))) x6) (e35 J m [1, 1, 1, 1, 1, 1, 1, 1, 1, 0, 1] [] (s35_23 x0 x1 x2 x3 x5 (IntKind.wrap .i64 (x4 - x5)) (decide (x1 < (IntKind.wrap .i64 (x4 - x5)))) x6)))
    else
   (J 0 40 0 (s35_23 x0 x1 x2 x3 x5 (IntKind.wrap .i64 (x4 - x5)) false x6) (e35 J m [1, 1, 1, 1, 1, 1, 1, 1, 1, 0, 1] [] (s35_23 x0 x1 x2 x3 x5 (IntKind.wrap .i64 (x4 - x5)) false x6)))) := fun J => by kernel_rfl
  exact (h jn).trans (by
    simp only [jn_eq, i35_j23_eq m]
    rfl)
theorem i35_l20_eq (m : Nat) : ∀ (M20 : Nat) (x0 x1 x2 x3 x4 x5 x6 x7 : Int) (x8 : List Dt), l35 jn m [1, 1, 1, 1, 1, 1, 1, 0, 0] [] M20 (s35_20 x0 x1 x2 x3 x4 x5 x6 x7 x8) = i35_l20 m (i35 m) M20 x0 x1 x2 x3 x4 x5 x6 x7 x8
  | 0, _, _, _, _, _, _, _, _, _ => rfl
  | M20 + 1, x0, x1, x2, x3, x4, x5, x6, x7, x8 => by
    have h : ∀ J, l35 J m [1, 1, 1, 1, 1, 1, 1, 0, 0] [] (M20 + 1) (s35_20 x0 x1 x2 x3 x4 x5 x6 x7 x8) =
    (bif (decide (x5 < x6)) then
   (J 0 34 0 (s35_21 x0 x1 x2 x3 x4 x5 x6 x7 x8) (e35 J m [1, 1, 1, 1, 1, 1, 1, 0, 0, 0, 1] [M20] (s35_21 x0 x1 x2 x3 x4 x5 x6 x7 x8)))
    else
   (J 0 38 0 (s35_22 x0 x1 x2 x3 x4 x5 x8) (e35 J m [1, 1, 1, 1, 1, 1, 1, 1] [] (s35_22 x0 x1 x2 x3 x4 x5 x8)))) := fun J => by kernel_rfl
    refine (h jn).trans ?_
    simp only [jn_eq, i35_j21_eq m M20 (i35_l20 m (i35 m) M20) (fun x0 x1 x2 x3 x4 x5 x6 x7 x8 => i35_l20_eq m M20 x0 x1 x2 x3 x4 x5 x6 x7 x8), i35_j22_eq m]
    rfl
theorem i35_j19_eq (m : Nat) (x0 x1 x2 x3 x4 x5 x6 x7 : Int) (x8 : List Dt) : e35 jn m [1, 1, 1, 1, 1, 1, 1] [] (s35_19 x0 x1 x2 x3 x4 x5 x6 x7 x8) = i35_j19 m (i35 m) x0 x1 x2 x3 x4 x5 x6 x7 x8 := by
  have h : ∀ J, e35 J m [1, 1, 1, 1, 1, 1, 1] [] (s35_19 x0 x1 x2 x3 x4 x5 x6 x7 x8) =
    (J 1 33 (Nat.succ m) (s35_20 x0 x1 x2 x3 x4 x5 x6 x7 x8) (l35 J m [1, 1, 1, 1, 1, 1, 1, 0, 0] [] (Nat.succ m) (s35_20 x0 x1 x2 x3 x4 x5 x6 x7 x8))) := fun J => by kernel_rfl
  exact (h jn).trans (by
    simp only [jn_eq, i35_l20_eq m]
    rfl)
theorem i35_j18_eq (m : Nat) (x0 x1 x2 x3 x4 x5 x6 : Int) (x7 : List Dt) : e35 jn m [1, 1, 1, 1, 1, 1] [] (s35_18 x0 x1 x2 x3 x4 x5 x6 x7) = i35_j18 m (i35 m) x0 x1 x2 x3 x4 x5 x6 x7 := by
  have h : ∀ J, e35 J m [1, 1, 1, 1, 1, 1] [] (s35_18 x0 x1 x2 x3 x4 x5 x6 x7) =
    (J 0 33 0 (s35_19 x0 x1 x2 x3 x4 x5 x6 (IntKind.wrap .i64 (x4 - 1)) x7) (e35 J m [1, 1, 1, 1, 1, 1, 1] [] (s35_19 x0 x1 x2 x3 x4 x5 x6 (IntKind.wrap .i64 (x4 - 1)) x7))) := fun J => by kernel_rfl
  exact (h jn).trans (by
    simp only [jn_eq, i35_j19_eq m]
    rfl)
theorem i35_j17_eq (m : Nat) (x0 x1 x2 : Int) (x3 : List Dt) : e35 jn m [1, 1] [] (s35_17 x0 x1 x2 x3) = i35_j17 m (i35 m) x0 x1 x2 x3 := by
  have h : ∀ J, e35 J m [1, 1] [] (s35_17 x0 x1 x2 x3) =
    (bif (decide ((IntKind.wrap .i64 (shrI IntKind.u64 (IntKind.wrap IntKind.u64 (IntKind.wrap .i64 (x0 + x2))) 1)) < x1)) then
   (J 0 32 0 (s35_18 x0 x1 x2 (IntKind.wrap .i64 (shrI IntKind.u64 (IntKind.wrap IntKind.u64 (IntKind.wrap .i64 (x0 + x2))) 1)) (IntKind.wrap .i64 ((IntKind.wrap .i64 (shrI IntKind.u64 (IntKind.wrap IntKind.u64 (IntKind.wrap .i64 (x0 + x2))) 1)) + x1)) (IntKind.wrap .i64 ((IntKind.wrap .i64 ((IntKind.wrap .i64 (shrI IntKind.u64 (IntKind.wrap IntKind.u64 (IntKind.wrap .i64 (x0 + x2))) 1)) + x1)) - x2)) (IntKind.wrap .i64 (shrI IntKind.u64 (IntKind.wrap IntKind.u64 (IntKind.wrap .i64 (x0 + x2))) 1)) x3) (e35 J m [1, 1, 1, 1, 1, 1] [] (s35_18 x0 x1 x2 (IntKind.wrap .i64 (shrI IntKind.u64 (IntKind.wrap IntKind.u64 (IntKind.wrap .i64 (x0 + x2))) 1)) (IntKind.wrap .i64 ((IntKind.wrap .i64 (shrI IntKind.u64 (IntKind.wrap IntKind.u64 (IntKind.wrap .i64 (x0 + x2))) 1)) + x1)) (IntKind.wrap .i64 ((IntKind.wrap .i64 ((IntKind.wrap .i64 (shrI IntKind.u64 (IntKind.wrap IntKind.u64 (IntKind.wrap .i64 (x0 + x2))) 1)) + x1)) - x2)) (IntKind.wrap .i64 (shrI IntKind.u64 (IntKind.wrap IntKind.u64 (IntKind.wrap .i64 (x0 + x2))) 1)) x3)))
    else
   (J 0 32 0 (s35_18 x0 x1 x2 (IntKind.wrap .i64 (shrI IntKind.u64 (IntKind.wrap IntKind.u64 (IntKind.wrap .i64 (x0 + x2))) 1)) (IntKind.wrap .i64 ((IntKind.wrap .i64 (shrI IntKind.u64 (IntKind.wrap IntKind.u64 (IntKind.wrap .i64 (x0 + x2))) 1)) + x1)) x0 x1 x3) (e35 J m [1, 1, 1, 1, 1, 1] [] (s35_18 x0 x1 x2 (IntKind.wrap .i64 (shrI IntKind.u64 (IntKind.wrap IntKind.u64 (IntKind.wrap .i64 (x0 + x2))) 1)) (IntKind.wrap .i64 ((IntKind.wrap .i64 (shrI IntKind.u64 (IntKind.wrap IntKind.u64 (IntKind.wrap .i64 (x0 + x2))) 1)) + x1)) x0 x1 x3)))) := fun J => by kernel_rfl
  exact (h jn).trans (by
    simp only [jn_eq, i35_j18_eq m]
    rfl)
theorem i35_j8_eq (m : Nat) (x0 x1 x2 : Int) (x3 : List Dt) : e35 jn m [1] [] (s35_8 x0 x1 x2 x3) = i35_j8 m (i35 m) x0 x1 x2 x3 := by
  have h : ∀ J, e35 J m [1] [] (s35_8 x0 x1 x2 x3) =
    (bif ((IntKind.wrap .i64 (x2 - x1)) == 1) then
   (J 0 15 0 (s35_9 x1 x0 x1 x3) (e35 J m [1, 0, 1, 0, 1, 1] [] (s35_9 x1 x0 x1 x3)))
    else
   (J 0 24 0 (s35_17 x0 x1 x2 x3) (e35 J m [1, 1] [] (s35_17 x0 x1 x2 x3)))) := fun J => by kernel_rfl
  exact (h jn).trans (by
    simp only [jn_eq, i35_j9_eq m, i35_j17_eq m]
    rfl)
theorem i35_eq (m : Nat) (a0 a1 a2 : Int) (a3 : List Dt) : e35 jn m [] [] ⟨[(.row 0), (.dat 3 (.int a0)), (.dat 3 (.int a1)), (.dat 3 (.int a2)), (.fn 43 [])], [(.row 22 a3)], 1⟩ = i35 (m + 1) a0 a1 a2 a3 := by
  have h : ∀ J, e35 J m [] [] ⟨[(.row 0), (.dat 3 (.int a0)), (.dat 3 (.int a1)), (.dat 3 (.int a2)), (.fn 43 [])], [(.row 22 a3)], 1⟩ =
    (bif ((IntKind.wrap .i64 (a1 - a0)) == 1) then
   (J 0 3 0 (s35_0 a0 a1 a2 a3) (e35 J m [0, 1, 0, 1, 1] [] (s35_0 a0 a1 a2 a3)))
    else
   (J 0 12 0 (s35_8 a0 a1 a2 a3) (e35 J m [1] [] (s35_8 a0 a1 a2 a3)))) := fun J => by kernel_rfl
  refine (h jn).trans ?_
  simp only [jn_eq, i35_j0_eq m, i35_j8_eq m]
  rfl
noncomputable def d33 (q : Res) : Option (List Dt) := match q with
  | (.tup [], [.row T0 x0]) => bif Nat.beq T0 22 then some x0 else none
  | _ => none
theorem d33_sim {b : Res} {r : List Dt} (h : d33 b = some r) : Sim Tryd.prog b ((.tup []), [(.row 22 r)]) := by
  unfold d33 at h
  split at h
  · obtain ⟨hc, h2⟩ := bif_some h
    cases h2
    have e0 := beq_eq hc
    subst e0
    exact Sim.of (.tup .nil) (.cons .same .nil)
  · cases h
noncomputable def e33 (J : Nat → Nat → Nat → St → Option (List Dt) → Option (List Dt)) (m : Nat) (p ms : List Nat) (σ : St) := evAt Tryd.prog env (ct m) J (m + 1) 83 63 Tryd.f83 d33 p ms σ
noncomputable def l33 (J : Nat → Nat → Nat → St → Option (List Dt) → Option (List Dt)) (m : Nat) (p ms : List Nat) (M : Nat) (σ : St) := loopAt Tryd.prog env (ct m) J (m + 1) 83 63 Tryd.f83 d33 p ms M σ
noncomputable def s33_2 (x0 x1 x2 x3 : Int) (x4 : List Dt) : St := ⟨tsOf [(0, (.row 0)), (1, (.dat 3 (.int x0))), (2, (.fn 43 [])), (6, (.dat 3 (.int x1))), (7, (.dat 3 (.int x2))), (8, (.dat 3 (.int x3)))], [(.row 22 x4)], 1⟩
noncomputable def s33_9 (x0 x1 x2 x3 : Int) (x4 : List Dt) : St := ⟨tsOf [(0, (.row 0)), (1, (.dat 3 (.int x0))), (2, (.fn 43 [])), (6, (.dat 3 (.int x1))), (7, (.dat 3 (.int x2))), (8, (.dat 3 (.int x3)))], [(.row 22 x4)], 1⟩
noncomputable def s33_11 (x0 x1 : Int) (x2 : List Dt) : St := ⟨tsOf [(0, (.row 0)), (1, (.dat 3 (.int x0))), (2, (.fn 43 [])), (6, (.dat 3 (.int x1)))], [(.row 22 x2)], 1⟩
noncomputable def s33_10 (x0 x1 x2 : Int) (x3 : List Dt) : St := ⟨tsOf [(0, (.row 0)), (1, (.dat 3 (.int x0))), (2, (.fn 43 [])), (6, (.dat 3 (.int x1))), (7, (.dat 3 (.int x2)))], [(.row 22 x3)], 1⟩
noncomputable def s33_8 (x0 x1 x2 x3 : Int) (x4 : List Dt) : St := ⟨tsOf [(0, (.row 0)), (1, (.dat 3 (.int x0))), (2, (.fn 43 [])), (6, (.dat 3 (.int x1))), (7, (.dat 3 (.int x2))), (8, (.dat 3 (.int x3)))], [(.row 22 x4)], 1⟩
noncomputable def s33_7 (x0 x1 x2 x3 : Int) (x4 : List Dt) : St := ⟨tsOf [(0, (.row 0)), (1, (.dat 3 (.int x0))), (2, (.fn 43 [])), (6, (.dat 3 (.int x1))), (7, (.dat 3 (.int x2))), (8, (.dat 3 (.int x3)))], [(.row 22 x4)], 1⟩
noncomputable def s33_6 (x0 x1 : Int) (x2 : List Dt) : St := ⟨tsOf [(0, (.row 0)), (1, (.dat 3 (.int x0))), (2, (.fn 43 [])), (6, (.dat 3 (.int x1)))], [(.row 22 x2)], 1⟩
noncomputable def s33_5 (x0 x1 : Int) (x2 : List Dt) : St := ⟨tsOf [(0, (.row 0)), (1, (.dat 3 (.int x0))), (2, (.fn 43 [])), (6, (.dat 3 (.int x1)))], [(.row 22 x2)], 1⟩
noncomputable def s33_4 (x0 x1 : Int) (x2 : List Dt) : St := ⟨tsOf [(0, (.row 0)), (1, (.dat 3 (.int x0))), (2, (.fn 43 [])), (6, (.dat 3 (.int x1)))], [(.row 22 x2)], 1⟩
noncomputable def s33_3 (x0 x1 x2 : Int) (x3 : List Dt) : St := ⟨tsOf [(0, (.row 0)), (1, (.dat 3 (.int x0))), (2, (.fn 43 [])), (6, (.dat 3 (.int x1))), (7, (.dat 3 (.int x2)))], [(.row 22 x3)], 1⟩
noncomputable def s33_1 (x0 x1 x2 x3 : Int) (x4 : List Dt) : St := ⟨tsOf [(0, (.row 0)), (1, (.dat 3 (.int x0))), (2, (.fn 43 [])), (6, (.dat 3 (.int x1))), (7, (.dat 3 (.int x2))), (8, (.dat 3 (.int x3)))], [(.row 22 x4)], 1⟩
noncomputable def s33_0 (x0 x1 x2 x3 : Int) (x4 : List Dt) : St := ⟨tsOf [(0, (.row 0)), (1, (.dat 3 (.int x0))), (2, (.fn 43 [])), (6, (.dat 3 (.int x1))), (7, (.dat 3 (.int x2))), (8, (.dat 3 (.int x3)))], [(.row 22 x4)], 1⟩
theorem i33_j2_eq (m : Nat) (M1 : Nat) (rec1 : Int → Int → Int → Int → List Dt → Option (List Dt)) (h1 : ∀ (x0 x1 x2 x3 : Int) (x4 : List Dt), l33 jn m [1, 1, 0, 0] [] M1 (s33_1 x0 x1 x2 x3 x4) = rec1 x0 x1 x2 x3 x4) (x0 x1 x2 x3 : Int) (x4 : List Dt) : e33 jn m [1, 1, 0, 0, 0, 1] [M1] (s33_2 x0 x1 x2 x3 x4) = i33_j2 m rec1 x0 x1 x2 x3 x4 := by
  have h : ∀ J, e33 J m [1, 1, 0, 0, 0, 1] [M1] (s33_2 x0 x1 x2 x3 x4) =
    ((i34 m x2 x3 x4).bind fun r0 =>
   (J 1 2 M1 (s33_1 x0 x1 x3 (IntKind.wrap .i64 (x3 + x1)) r0) (l33 J m [1, 1, 0, 0] [] M1 (s33_1 x0 x1 x3 (IntKind.wrap .i64 (x3 + x1)) r0)))) := fun J => by kernel_rfl
  exact (h jn).trans (by
    simp only [jn_eq, h1]
    rfl)
theorem i33_j9_eq (m : Nat) (M5 : Nat) (rec5 : Int → Int → List Dt → Option (List Dt)) (h5 : ∀ (x0 x1 : Int) (x2 : List Dt), l33 jn m [1, 1, 1, 1, 0] [] M5 (s33_5 x0 x1 x2) = rec5 x0 x1 x2) (M8 : Nat) (rec8 : Int → Int → Int → Int → List Dt → Option (List Dt)) (h8 : ∀ (x0 x1 x2 x3 : Int) (x4 : List Dt), l33 jn m [1, 1, 1, 1, 0, 0, 1, 0, 1, 0, 0] [M5] M8 (s33_8 x0 x1 x2 x3 x4) = rec8 x0 x1 x2 x3 x4) (x0 x1 x2 x3 : Int) (x4 : List Dt) : e33 jn m [1, 1, 1, 1, 0, 0, 1, 0, 1, 0, 0, 0, 1] [M5, M8] (s33_9 x0 x1 x2 x3 x4) = i33_j9 m rec5 rec8 x0 x1 x2 x3 x4 := by
  have h : ∀ J, e33 J m [1, 1, 1, 1, 0, 0, 1, 0, 1, 0, 0, 0, 1] [M5, M8] (s33_9 x0 x1 x2 x3 x4) =
    ((i35 m x2 (IntKind.wrap .i64 (x2 + x1)) x3 x4).bind fun r2 =>
   (J 1 9 M8 (s33_8 x0 x1 x3 (IntKind.wrap .i64 (x3 + (IntKind.wrap .i64 (2 * x1)))) r2) (l33 J m [1, 1, 1, 1, 0, 0, 1, 0, 1, 0, 0] [M5] M8 (s33_8 x0 x1 x3 (IntKind.wrap .i64 (x3 + (IntKind.wrap .i64 (2 * x1)))) r2)))) := fun J => by kernel_rfl
  exact (h jn).trans (by
    simp only [jn_eq, h8]
    rfl)
theorem i33_j11_eq (m : Nat) (M5 : Nat) (rec5 : Int → Int → List Dt → Option (List Dt)) (h5 : ∀ (x0 x1 : Int) (x2 : List Dt), l33 jn m [1, 1, 1, 1, 0] [] M5 (s33_5 x0 x1 x2) = rec5 x0 x1 x2) (x0 x1 : Int) (x2 : List Dt) : e33 jn m [1, 1, 1, 1, 0, 0, 1, 0, 1, 1, 1] [M5] (s33_11 x0 x1 x2) = i33_j11 m rec5 x0 x1 x2 := by
  have h : ∀ J, e33 J m [1, 1, 1, 1, 0, 0, 1, 0, 1, 1, 1] [M5] (s33_11 x0 x1 x2) =
    (J 1 7 M5 (s33_5 x0 (IntKind.wrap .i64 (x1 * 2)) x2) (l33 J m [1, 1, 1, 1, 0] [] M5 (s33_5 x0 (IntKind.wrap .i64 (x1 * 2)) x2))) := fun J => by kernel_rfl
  exact (h jn).trans (by
    simp only [jn_eq, h5]
    rfl)
theorem i33_j10_eq (m : Nat) (M5 : Nat) (rec5 : Int → Int → List Dt → Option (List Dt)) (h5 : ∀ (x0 x1 : Int) (x2 : List Dt), l33 jn m [1, 1, 1, 1, 0] [] M5 (s33_5 x0 x1 x2) = rec5 x0 x1 x2) (x0 x1 x2 : Int) (x3 : List Dt) : e33 jn m [1, 1, 1, 1, 0, 0, 1, 0, 1, 1] [M5] (s33_10 x0 x1 x2 x3) = i33_j10 m rec5 x0 x1 x2 x3 := by
  have h : ∀ J, e33 J m [1, 1, 1, 1, 0, 0, 1, 0, 1, 1] [M5] (s33_10 x0 x1 x2 x3) =
    (bif (decide ((IntKind.wrap .i64 (x2 + x1)) < x0)) then
   ((i35 m x2 (IntKind.wrap .i64 (x2 + x1)) x0 x3).bind fun r3 =>
   (J 0 16 0 (s33_11 x0 x1 r3) (e33 J m [1, 1, 1, 1, 0, 0, 1, 0, 1, 1, 1] [M5] (s33_11 x0 x1 r3))))
    else
   (J 0 16 0 (s33_11 x0 x1 x3) (e33 J m [1, 1, 1, 1, 0, 0, 1, 0, 1, 1, 1] [M5] (s33_11 x0 x1 x3)))) := fun J => by kernel_rfl
  exact (h jn).trans (by
    simp only [jn_eq, i33_j11_eq m M5 rec5 h5]
    rfl)
theorem i33_l8_eq (m : Nat) (M5 : Nat) (rec5 : Int → Int → List Dt → Option (List Dt)) (h5 : ∀ (x0 x1 : Int) (x2 : List Dt), l33 jn m [1, 1, 1, 1, 0] [] M5 (s33_5 x0 x1 x2) = rec5 x0 x1 x2) : ∀ (M8 : Nat) (x0 x1 x2 x3 : Int) (x4 : List Dt), l33 jn m [1, 1, 1, 1, 0, 0, 1, 0, 1, 0, 0] [M5] M8 (s33_8 x0 x1 x2 x3 x4) = i33_l8 m rec5 M8 x0 x1 x2 x3 x4
  | 0, _, _, _, _, _ => rfl
  | M8 + 1, x0, x1, x2, x3, x4 => by
    have h : ∀ J, l33 J m [1, 1, 1, 1, 0, 0, 1, 0, 1, 0, 0] [M5] (M8 + 1) (s33_8 x0 x1 x2 x3 x4) =
    (bif (decide (x3 ≤ x0)) then
   (J 0 10 0 (s33_9 x0 x1 x2 x3 x4) (e33 J m [1, 1, 1, 1, 0, 0, 1, 0, 1, 0, 0, 0, 1] [M5, M8] (s33_9 x0 x1 x2 x3 x4)))
    else
   (J 0 13 0 (s33_10 x0 x1 x2 x4) (e33 J m [1, 1, 1, 1, 0, 0, 1, 0, 1, 1] [M5] (s33_10 x0 x1 x2 x4)))) := fun J => by kernel_rfl
    refine (h jn).trans ?_
    simp only [jn_eq, i33_j9_eq m M5 rec5 h5 M8 (i33_l8 m rec5 M8) (fun x0 x1 x2 x3 x4 => i33_l8_eq m M5 rec5 h5 M8 x0 x1 x2 x3 x4), i33_j10_eq m M5 rec5 h5]
    rfl
theorem i33_j7_eq (m : Nat) (M5 : Nat) (rec5 : Int → Int → List Dt → Option (List Dt)) (h5 : ∀ (x0 x1 : Int) (x2 : List Dt), l33 jn m [1, 1, 1, 1, 0] [] M5 (s33_5 x0 x1 x2) = rec5 x0 x1 x2) (x0 x1 x2 x3 : Int) (x4 : List Dt) : e33 jn m [1, 1, 1, 1, 0, 0, 1, 0, 1] [M5] (s33_7 x0 x1 x2 x3 x4) = i33_j7 m rec5 x0 x1 x2 x3 x4 := by
  have h : ∀ J, e33 J m [1, 1, 1, 1, 0, 0, 1, 0, 1] [M5] (s33_7 x0 x1 x2 x3 x4) =
    (J 1 9 (Nat.succ m) (s33_8 x0 x1 x2 x3 x4) (l33 J m [1, 1, 1, 1, 0, 0, 1, 0, 1, 0, 0] [M5] (Nat.succ m) (s33_8 x0 x1 x2 x3 x4))) := fun J => by kernel_rfl
  exact (h jn).trans (by
    simp only [jn_eq, i33_l8_eq m M5 rec5 h5]
    rfl)
theorem i33_j6_eq (m : Nat) (M5 : Nat) (rec5 : Int → Int → List Dt → Option (List Dt)) (h5 : ∀ (x0 x1 : Int) (x2 : List Dt), l33 jn m [1, 1, 1, 1, 0] [] M5 (s33_5 x0 x1 x2) = rec5 x0 x1 x2) (x0 x1 : Int) (x2 : List Dt) : e33 jn m [1, 1, 1, 1, 0, 0, 1] [M5] (s33_6 x0 x1 x2) = i33_j6 m rec5 x0 x1 x2 := by
  have h : ∀ J, e33 J m [1, 1, 1, 1, 0, 0, 1] [M5] (s33_6 x0 x1 x2) =
    (J 0 9 0 (s33_7 x0 x1 0 (IntKind.wrap .i64 (2 * x1)) x2) (e33 J m [1, 1, 1, 1, 0, 0, 1, 0, 1] [M5] (s33_7 x0 x1 0 (IntKind.wrap .i64 (2 * x1)) x2))) := fun J => by kernel_rfl
  exact (h jn).trans (by
    simp only [jn_eq, i33_j7_eq m M5 rec5 h5]
    rfl)
theorem i33_l5_eq (m : Nat) : ∀ (M5 : Nat) (x0 x1 : Int) (x2 : List Dt), l33 jn m [1, 1, 1, 1, 0] [] M5 (s33_5 x0 x1 x2) = i33_l5 m M5 x0 x1 x2
  | 0, _, _, _ => rfl
  | M5 + 1, x0, x1, x2 => by
    have h : ∀ J, l33 J m [1, 1, 1, 1, 0] [] (M5 + 1) (s33_5 x0 x1 x2) =
    (bif (decide (x1 < x0)) then
   (J 0 8 0 (s33_6 x0 x1 x2) (e33 J m [1, 1, 1, 1, 0, 0, 1] [M5] (s33_6 x0 x1 x2)))
    else
   some x2) := fun J => by kernel_rfl
    refine (h jn).trans ?_
    simp only [jn_eq, i33_j6_eq m M5 (i33_l5 m M5) (fun x0 x1 x2 => i33_l5_eq m M5 x0 x1 x2)]
    rfl
theorem i33_j4_eq (m : Nat) (x0 x1 : Int) (x2 : List Dt) : e33 jn m [1, 1, 1, 1] [] (s33_4 x0 x1 x2) = i33_j4 m x0 x1 x2 := by
  have h : ∀ J, e33 J m [1, 1, 1, 1] [] (s33_4 x0 x1 x2) =
    (J 1 7 (Nat.succ m) (s33_5 x0 x1 x2) (l33 J m [1, 1, 1, 1, 0] [] (Nat.succ m) (s33_5 x0 x1 x2))) := fun J => by kernel_rfl
  exact (h jn).trans (by
    simp only [jn_eq, i33_l5_eq m]
    rfl)
theorem i33_j3_eq (m : Nat) (x0 x1 x2 : Int) (x3 : List Dt) : e33 jn m [1, 1, 1] [] (s33_3 x0 x1 x2 x3) = i33_j3 m x0 x1 x2 x3 := by
  have h : ∀ J, e33 J m [1, 1, 1] [] (s33_3 x0 x1 x2 x3) =
    ((i34 m x2 x0 x3).bind fun r1 =>
   (J 0 7 0 (s33_4 x0 x1 r1) (e33 J m [1, 1, 1, 1] [] (s33_4 x0 x1 r1)))) := fun J => by kernel_rfl
  exact (h jn).trans (by
    simp only [jn_eq, i33_j4_eq m]
    rfl)
theorem i33_l1_eq (m : Nat) : ∀ (M1 : Nat) (x0 x1 x2 x3 : Int) (x4 : List Dt), l33 jn m [1, 1, 0, 0] [] M1 (s33_1 x0 x1 x2 x3 x4) = i33_l1 m M1 x0 x1 x2 x3 x4
  | 0, _, _, _, _, _ => rfl
  | M1 + 1, x0, x1, x2, x3, x4 => by
    have h : ∀ J, l33 J m [1, 1, 0, 0] [] (M1 + 1) (s33_1 x0 x1 x2 x3 x4) =
    (bif (decide (x3 ≤ x0)) then
   (J 0 3 0 (s33_2 x0 x1 x2 x3 x4) (e33 J m [1, 1, 0, 0, 0, 1] [M1] (s33_2 x0 x1 x2 x3 x4)))
    else
   (J 0 6 0 (s33_3 x0 x1 x2 x4) (e33 J m [1, 1, 1] [] (s33_3 x0 x1 x2 x4)))) := fun J => by kernel_rfl
    refine (h jn).trans ?_
    simp only [jn_eq, i33_j2_eq m M1 (i33_l1 m M1) (fun x0 x1 x2 x3 x4 => i33_l1_eq m M1 x0 x1 x2 x3 x4), i33_j3_eq m]
    rfl
theorem i33_j0_eq (m : Nat) (x0 x1 x2 x3 : Int) (x4 : List Dt) : e33 jn m [1, 1] [] (s33_0 x0 x1 x2 x3 x4) = i33_j0 m x0 x1 x2 x3 x4 := by
  have h : ∀ J, e33 J m [1, 1] [] (s33_0 x0 x1 x2 x3 x4) =
    (J 1 2 (Nat.succ m) (s33_1 x0 x1 x2 x3 x4) (l33 J m [1, 1, 0, 0] [] (Nat.succ m) (s33_1 x0 x1 x2 x3 x4))) := fun J => by kernel_rfl
  exact (h jn).trans (by
    simp only [jn_eq, i33_l1_eq m]
    rfl)
theorem i33_eq (m : Nat) (a0 : Int) (a1 : List Dt) : e33 jn m [] [] ⟨[(.row 0), (.dat 3 (.int a0)), (.fn 43 [])], [(.row 22 a1)], 1⟩ = i33 (m + 1) a0 a1 := by
  have h : ∀ J, e33 J m [] [] ⟨[(.row 0), (.dat 3 (.int a0)), (.fn 43 [])], [(.row 22 a1)], 1⟩ =
    (J 0 2 0 (s33_0 a0 20 0 20 a1) (e33 J m [1, 1] [] (s33_0 a0 20 0 20 a1))) := fun J => by kernel_rfl
  refine (h jn).trans ?_
  simp only [jn_eq, i33_j0_eq m]
  rfl
noncomputable def d32 (q : Res) : Option (List Dt) := match q with
  | (.tup [], [.row T0 x0]) => bif Nat.beq T0 22 then some x0 else none
  | _ => none
theorem d32_sim {b : Res} {r : List Dt} (h : d32 b = some r) : Sim Tryd.prog b ((.tup []), [(.row 22 r)]) := by
  unfold d32 at h
  split at h
  · obtain ⟨hc, h2⟩ := bif_some h
    cases h2
    have e0 := beq_eq hc
    subst e0
    exact Sim.of (.tup .nil) (.cons .same .nil)
  · cases h
noncomputable def e32 (J : Nat → Nat → Nat → St → Option (List Dt) → Option (List Dt)) (m : Nat) (p ms : List Nat) (σ : St) := evAt Tryd.prog env (ct m) J (m + 1) 70 9 Tryd.f70 d32 p ms σ
noncomputable def l32 (J : Nat → Nat → Nat → St → Option (List Dt) → Option (List Dt)) (m : Nat) (p ms : List Nat) (M : Nat) (σ : St) := loopAt Tryd.prog env (ct m) J (m + 1) 70 9 Tryd.f70 d32 p ms M σ
theorem i32_eq (m : Nat) (a0 : List Dt) : e32 jn m [] [] ⟨[(.row 0), (.fn 43 [])], [(.row 22 a0)], 1⟩ = i32 (m + 1) a0 := by
  have h : ∀ J, e32 J m [] [] ⟨[(.row 0), (.fn 43 [])], [(.row 22 a0)], 1⟩ =
    ((i33 m (List.length a0 : Int) a0).bind fun r0 =>
   some r0) := fun J => by kernel_rfl
  refine (h jn).trans ?_
  
  rfl
noncomputable def d23 (q : Res) : Option Bool := match q with
  | (.dat T0 x0, []) => bif Nat.beq T0 4 then some x0.toBool else none
  | _ => none
theorem d23_sim {b : Res} {r : Bool} (h : d23 b = some r) : Sim Tryd.prog b ((.dat 4 (.bool r)), []) := by
  unfold d23 at h
  split at h
  · obtain ⟨hc, h2⟩ := bif_some h
    cases h2
    have e0 := beq_eq hc
    subst e0
    exact Sim.of (.of (.dat (.bool Tryd.underlying4)) rfl rfl) .nil
  · cases h
noncomputable def e23 (J : Nat → Nat → Nat → St → Option Bool → Option Bool) (m : Nat) (p ms : List Nat) (σ : St) := evAt Tryd.prog env (ct m) J (m + 1) 48 25 Tryd.f48 d23 p ms σ
noncomputable def l23 (J : Nat → Nat → Nat → St → Option Bool → Option Bool) (m : Nat) (p ms : List Nat) (M : Nat) (σ : St) := loopAt Tryd.prog env (ct m) J (m + 1) 48 25 Tryd.f48 d23 p ms M σ
noncomputable def s23_3 (x0 : Int) (x1 : List Dt) : St := ⟨tsOf [(3, (.row 0)), (4, (.dat 3 (.int x0)))], [(.row 22 x1)], 0⟩
noncomputable def s23_2 (x0 : Int) (x1 : List Dt) : St := ⟨tsOf [(3, (.row 0)), (4, (.dat 3 (.int x0)))], [(.row 22 x1)], 0⟩
noncomputable def s23_4 : St := ⟨tsOf [], [], 0⟩
noncomputable def s23_1 (x0 : Int) (x1 : List Dt) : St := ⟨tsOf [(3, (.row 0)), (4, (.dat 3 (.int x0)))], [(.row 22 x1)], 0⟩
noncomputable def s23_0 (x0 : Int) (x1 : List Dt) : St := ⟨tsOf [(3, (.row 0)), (4, (.dat 3 (.int x0)))], [(.row 22 x1)], 0⟩
theorem schema_repeats_j3_eq (m : Nat) (M1 : Nat) (rec1 : Int → List Dt → Option Bool) (h1 : ∀ (x0 : Int) (x1 : List Dt), l23 jn m [1, 1, 1, 0, 1, 0] [] M1 (s23_1 x0 x1) = rec1 x0 x1) (x0 : Int) (x1 : List Dt) : e23 jn m [1, 1, 1, 0, 1, 0, 0, 1, 1] [M1] (s23_3 x0 x1) = schema_repeats_j3 m rec1 x0 x1 := by
  have h : ∀ J, e23 J m [1, 1, 1, 0, 1, 0, 0, 1, 1] [M1] (s23_3 x0 x1) =
    (J 1 4 M1 (s23_1 (IntKind.wrap .i64 (x0 + 1)) x1) (l23 J m [1, 1, 1, 0, 1, 0] [] M1 (s23_1 (IntKind.wrap .i64 (x0 + 1)) x1))) := fun J => by kernel_rfl
  exact (h jn).trans (by
    simp only [jn_eq, h1]
    rfl)
theorem schema_repeats_j2_eq (m : Nat) (M1 : Nat) (rec1 : Int → List Dt → Option Bool) (h1 : ∀ (x0 : Int) (x1 : List Dt), l23 jn m [1, 1, 1, 0, 1, 0] [] M1 (s23_1 x0 x1) = rec1 x0 x1) (x0 : Int) (x1 : List Dt) : e23 jn m [1, 1, 1, 0, 1, 0, 0, 1] [M1] (s23_2 x0 x1) = schema_repeats_j2 m rec1 x0 x1 := by
  have h : ∀ J, e23 J m [1, 1, 1, 0, 1, 0, 0, 1] [M1] (s23_2 x0 x1) =
    ((inL x1 (IntKind.wrap .i64 (x0 - 1))).bind fun v2 =>
   ((x1[(Int.toNat (IntKind.wrap .i64 (x0 - 1)))]?).bind fun v3 =>
   ((inL x1 x0).bind fun v4 =>
   ((x1[(Int.toNat x0)]?).bind fun v5 =>
   ((value_Equal m v3 v5).bind fun r6 =>
   (bif r6 then
   some true
   else
   (J 0 5 0 (s23_3 x0 x1) (e23 J m [1, 1, 1, 0, 1, 0, 0, 1, 1] [M1] (s23_3 x0 x1))))))))) := fun J => by kernel_rfl
  exact (h jn).trans (by
    simp only [jn_eq, schema_repeats_j3_eq m M1 rec1 h1]
    rfl)
theorem schema_repeats_j4_eq (m : Nat) : e23 jn m [1, 1, 1, 1] [] s23_4 = schema_repeats_j4 m := by
  have h : ∀ J, e23 J m [1, 1, 1, 1] [] s23_4 =
    some false := fun J => by kernel_rfl
  exact (h jn).trans (rfl)
theorem schema_repeats_l1_eq (m : Nat) : ∀ (M1 : Nat) (x0 : Int) (x1 : List Dt), l23 jn m [1, 1, 1, 0, 1, 0] [] M1 (s23_1 x0 x1) = schema_repeats_l1 m M1 x0 x1
  | 0, _, _ => rfl
  | M1 + 1, x0, x1 => by
    have h : ∀ J, l23 J m [1, 1, 1, 0, 1, 0] [] (M1 + 1) (s23_1 x0 x1) =
    (bif (decide (x0 < (List.length x1 : Int))) then
   (J 0 6 0 (s23_2 x0 x1) (e23 J m [1, 1, 1, 0, 1, 0, 0, 1] [M1] (s23_2 x0 x1)))
    else
   (J 0 8 0 s23_4 (e23 J m [1, 1, 1, 1] [] s23_4))) := fun J => by kernel_rfl
    refine (h jn).trans ?_
    simp only [jn_eq, schema_repeats_j2_eq m M1 (schema_repeats_l1 m M1) (fun x0 x1 => schema_repeats_l1_eq m M1 x0 x1), schema_repeats_j4_eq m]
    rfl
theorem schema_repeats_j0_eq (m : Nat) (x0 : Int) (x1 : List Dt) : e23 jn m [1, 1, 1, 0, 1] [] (s23_0 x0 x1) = schema_repeats_j0 m x0 x1 := by
  have h : ∀ J, e23 J m [1, 1, 1, 0, 1] [] (s23_0 x0 x1) =
    (J 1 4 (Nat.succ m) (s23_1 x0 x1) (l23 J m [1, 1, 1, 0, 1, 0] [] (Nat.succ m) (s23_1 x0 x1))) := fun J => by kernel_rfl
  exact (h jn).trans (by
    simp only [jn_eq, schema_repeats_l1_eq m]
    rfl)
theorem schema_repeats_eq (m : Nat) (a0 : List Dt) : e23 jn m [] [] ⟨[(.dat 22 (.lst a0))], [], 0⟩ = schema_repeats (m + 1) a0 := by
  have h : ∀ J, e23 J m [] [] ⟨[(.dat 22 (.lst a0))], [], 0⟩ =
    ((slices_Clone a0).bind fun r0 =>
   ((i32 m r0).bind fun r1 =>
   (J 0 4 0 (s23_0 1 r1) (e23 J m [1, 1, 1, 0, 1] [] (s23_0 1 r1))))) := fun J => by kernel_rfl
  refine (h jn).trans ?_
  simp only [jn_eq, schema_repeats_j0_eq m]
  rfl
noncomputable def d22 (q : Res) : Option (List Dt) := match q with
  | (.row n0, [.gone, .row T1 x1]) => bif (Nat.beq n0 1 && Nat.beq T1 38) then some x1 else none
  | _ => none
theorem d22_sim {b : Res} {r : List Dt} (h : d22 b = some r) : Sim Tryd.prog b ((.row 1), [.gone, (.row 38 r)]) := by
  unfold d22 at h
  split at h
  · obtain ⟨hc, h2⟩ := bif_some h
    cases h2
    have e0 := beq_eq (and_l hc)
    have e1 := beq_eq (and_r hc)
    subst e0 e1
    exact Sim.of (.of .same rfl rfl) (.cons .same (.cons .same .nil))
  · cases h
noncomputable def e22 (J : Nat → Nat → Nat → St → Option (List Dt) → Option (List Dt)) (m : Nat) (p ms : List Nat) (σ : St) := evAt Tryd.prog env (ct m) J (m + 1) 25 211 Tryd.f25 d22 p ms σ
noncomputable def l22 (J : Nat → Nat → Nat → St → Option (List Dt) → Option (List Dt)) (m : Nat) (p ms : List Nat) (M : Nat) (σ : St) := loopAt Tryd.prog env (ct m) J (m + 1) 25 211 Tryd.f25 d22 p ms M σ
noncomputable def s22_7 (x0 : List Dt) (x1 x2 : Int) (x3 : List Dt) (x4 x5 : Dt) (x6 : List Dt) : St := ⟨tsOf [(4, (.ptr 1 [] 0)), (5, (.ptr 3 [] 0)), (6, (.ptr 4 [] 0)), (7, (.ptr 5 [] 0)), (9, (.fn 37 [(.ptr 1 [] 0), (.ptr 5 [] 0)])), (102, (.dat 26 (.lst x0))), (103, (.dat 3 (.int x1))), (104, (.dat 3 (.int x2)))], [.gone, (.box 38 (.row 2)), (.row 38 x3), (.box 30 (.dat 30 x4)), (.box 25 (.dat 25 x5)), (.box 26 (.dat 26 (.lst x6)))], 1⟩
noncomputable def s22_6 (x0 : List Dt) (x1 x2 : Int) (x3 : List Dt) (x4 x5 : Dt) (x6 : List Dt) : St := ⟨tsOf [(4, (.ptr 1 [] 0)), (5, (.ptr 3 [] 0)), (6, (.ptr 4 [] 0)), (7, (.ptr 5 [] 0)), (9, (.fn 37 [(.ptr 1 [] 0), (.ptr 5 [] 0)])), (102, (.dat 26 (.lst x0))), (103, (.dat 3 (.int x1))), (104, (.dat 3 (.int x2)))], [.gone, (.box 38 (.row 2)), (.row 38 x3), (.box 30 (.dat 30 x4)), (.box 25 (.dat 25 x5)), (.box 26 (.dat 26 (.lst x6)))], 1⟩
noncomputable def s22_12 (x0 : List Dt) (x1 x2 : Int) (x3 : List Dt) (x4 x5 : Dt) (x6 : List Dt) : St := ⟨tsOf [(4, (.ptr 1 [] 0)), (5, (.ptr 3 [] 0)), (6, (.ptr 4 [] 0)), (7, (.ptr 5 [] 0)), (9, (.fn 37 [(.ptr 1 [] 0), (.ptr 5 [] 0)])), (122, (.dat 23 (.lst x0))), (123, (.dat 3 (.int x1))), (124, (.dat 3 (.int x2)))], [.gone, (.box 38 (.row 2)), (.row 38 x3), (.box 30 (.dat 30 x4)), (.box 25 (.dat 25 x5)), (.box 26 (.dat 26 (.lst x6)))], 1⟩
noncomputable def s22_11 (x0 : List Dt) (x1 x2 : Int) (x3 : List Dt) (x4 x5 : Dt) (x6 : List Dt) : St := ⟨tsOf [(4, (.ptr 1 [] 0)), (5, (.ptr 3 [] 0)), (6, (.ptr 4 [] 0)), (7, (.ptr 5 [] 0)), (9, (.fn 37 [(.ptr 1 [] 0), (.ptr 5 [] 0)])), (122, (.dat 23 (.lst x0))), (123, (.dat 3 (.int x1))), (124, (.dat 3 (.int x2)))], [.gone, (.box 38 (.row 2)), (.row 38 x3), (.box 30 (.dat 30 x4)), (.box 25 (.dat 25 x5)), (.box 26 (.dat 26 (.lst x6)))], 1⟩
noncomputable def s22_17 (x0 : List Dt) (x1 x2 : Int) (x3 : List Dt) (x4 x5 : Dt) (x6 : List Dt) : St := ⟨tsOf [(4, (.ptr 1 [] 0)), (5, (.ptr 3 [] 0)), (6, (.ptr 4 [] 0)), (7, (.ptr 5 [] 0)), (9, (.fn 37 [(.ptr 1 [] 0), (.ptr 5 [] 0)])), (145, (.dat 27 (.lst x0))), (146, (.dat 3 (.int x1))), (147, (.dat 3 (.int x2)))], [.gone, (.box 38 (.row 2)), (.row 38 x3), (.box 30 (.dat 30 x4)), (.box 25 (.dat 25 x5)), (.box 26 (.dat 26 (.lst x6)))], 1⟩
noncomputable def s22_16 (x0 : List Dt) (x1 x2 : Int) (x3 : List Dt) (x4 x5 : Dt) (x6 : List Dt) : St := ⟨tsOf [(4, (.ptr 1 [] 0)), (5, (.ptr 3 [] 0)), (6, (.ptr 4 [] 0)), (7, (.ptr 5 [] 0)), (9, (.fn 37 [(.ptr 1 [] 0), (.ptr 5 [] 0)])), (145, (.dat 27 (.lst x0))), (146, (.dat 3 (.int x1))), (147, (.dat 3 (.int x2)))], [.gone, (.box 38 (.row 2)), (.row 38 x3), (.box 30 (.dat 30 x4)), (.box 25 (.dat 25 x5)), (.box 26 (.dat 26 (.lst x6)))], 1⟩
noncomputable def s22_26 (x0 : List Dt) (x1 x2 : Int) (x3 : List Dt) (x4 x5 : Int) (x6 : List Dt) (x7 : Dt) (x8 : List Dt) (x9 : Dt) : St := ⟨tsOf [(4, (.ptr 1 [] 0)), (6, (.ptr 3 [] 0)), (7, (.ptr 4 [] 0)), (25, (.ptr 5 [] 0)), (184, (.dat 28 (.lst x0))), (185, (.dat 3 (.int x1))), (186, (.dat 3 (.int x2))), (191, (.dat 22 (.lst x3))), (192, (.dat 3 (.int x4))), (193, (.dat 3 (.int x5)))], [.gone, (.box 38 (.row 2)), (.row 38 x6), (.box 25 (.dat 25 x7)), (.box 26 (.dat 26 (.lst x8))), (.box 30 (.dat 30 x9))], 1⟩
noncomputable def s22_25 (x0 : List Dt) (x1 x2 : Int) (x3 : List Dt) (x4 x5 : Int) (x6 : List Dt) (x7 : Dt) (x8 : List Dt) (x9 : Dt) : St := ⟨tsOf [(4, (.ptr 1 [] 0)), (6, (.ptr 3 [] 0)), (7, (.ptr 4 [] 0)), (25, (.ptr 5 [] 0)), (184, (.dat 28 (.lst x0))), (185, (.dat 3 (.int x1))), (186, (.dat 3 (.int x2))), (191, (.dat 22 (.lst x3))), (192, (.dat 3 (.int x4))), (193, (.dat 3 (.int x5)))], [.gone, (.box 38 (.row 2)), (.row 38 x6), (.box 25 (.dat 25 x7)), (.box 26 (.dat 26 (.lst x8))), (.box 30 (.dat 30 x9))], 1⟩
noncomputable def s22_27 (x0 : List Dt) (x1 x2 : Int) (x3 : List Dt) (x4 : Dt) (x5 : List Dt) : St := ⟨tsOf [(4, (.ptr 1 [] 0)), (6, (.ptr 3 [] 0)), (7, (.ptr 4 [] 0)), (184, (.dat 28 (.lst x0))), (185, (.dat 3 (.int x1))), (186, (.dat 3 (.int x2)))], [.gone, (.box 38 (.row 2)), (.row 38 x3), (.box 25 (.dat 25 x4)), (.box 26 (.dat 26 (.lst x5)))], 1⟩
noncomputable def s22_24 (x0 : List Dt) (x1 x2 : Int) (x3 : List Dt) (x4 x5 : Int) (x6 : List Dt) (x7 : Dt) (x8 : List Dt) (x9 : Dt) : St := ⟨tsOf [(4, (.ptr 1 [] 0)), (6, (.ptr 3 [] 0)), (7, (.ptr 4 [] 0)), (25, (.ptr 5 [] 0)), (184, (.dat 28 (.lst x0))), (185, (.dat 3 (.int x1))), (186, (.dat 3 (.int x2))), (191, (.dat 22 (.lst x3))), (192, (.dat 3 (.int x4))), (193, (.dat 3 (.int x5)))], [.gone, (.box 38 (.row 2)), (.row 38 x6), (.box 25 (.dat 25 x7)), (.box 26 (.dat 26 (.lst x8))), (.box 30 (.dat 30 x9))], 1⟩
noncomputable def s22_23 (x0 : List Dt) (x1 x2 : Int) (x3 : List Dt) (x4 x5 : Int) (x6 : List Dt) (x7 : Dt) (x8 : List Dt) (x9 : Dt) : St := ⟨tsOf [(4, (.ptr 1 [] 0)), (6, (.ptr 3 [] 0)), (7, (.ptr 4 [] 0)), (25, (.ptr 5 [] 0)), (184, (.dat 28 (.lst x0))), (185, (.dat 3 (.int x1))), (186, (.dat 3 (.int x2))), (191, (.dat 22 (.lst x3))), (192, (.dat 3 (.int x4))), (193, (.dat 3 (.int x5)))], [.gone, (.box 38 (.row 2)), (.row 38 x6), (.box 25 (.dat 25 x7)), (.box 26 (.dat 26 (.lst x8))), (.box 30 (.dat 30 x9))], 1⟩
noncomputable def s22_22 (x0 : List Dt) (x1 x2 : Int) (x3 : List Dt) (x4 : Dt) (x5 : List Dt) : St := ⟨tsOf [(4, (.ptr 1 [] 0)), (6, (.ptr 3 [] 0)), (7, (.ptr 4 [] 0)), (184, (.dat 28 (.lst x0))), (185, (.dat 3 (.int x1))), (186, (.dat 3 (.int x2)))], [.gone, (.box 38 (.row 2)), (.row 38 x3), (.box 25 (.dat 25 x4)), (.box 26 (.dat 26 (.lst x5)))], 1⟩
noncomputable def s22_28 (x0 : List Dt) : St := ⟨tsOf [(4, (.ptr 1 [] 0))], [.gone, (.box 38 (.row 2)), (.row 38 x0)], 1⟩
noncomputable def s22_21 (x0 : List Dt) (x1 x2 : Int) (x3 : List Dt) (x4 : Dt) (x5 : List Dt) : St := ⟨tsOf [(4, (.ptr 1 [] 0)), (6, (.ptr 3 [] 0)), (7, (.ptr 4 [] 0)), (184, (.dat 28 (.lst x0))), (185, (.dat 3 (.int x1))), (186, (.dat 3 (.int x2)))], [.gone, (.box 38 (.row 2)), (.row 38 x3), (.box 25 (.dat 25 x4)), (.box 26 (.dat 26 (.lst x5)))], 1⟩
noncomputable def s22_20 (x0 : List Dt) (x1 x2 : Int) (x3 : List Dt) (x4 : Dt) (x5 : List Dt) : St := ⟨tsOf [(4, (.ptr 1 [] 0)), (6, (.ptr 3 [] 0)), (7, (.ptr 4 [] 0)), (184, (.dat 28 (.lst x0))), (185, (.dat 3 (.int x1))), (186, (.dat 3 (.int x2)))], [.gone, (.box 38 (.row 2)), (.row 38 x3), (.box 25 (.dat 25 x4)), (.box 26 (.dat 26 (.lst x5)))], 1⟩
noncomputable def s22_19 (x0 : List Dt) (x1 x2 : Dt) (x3 : List Dt) : St := ⟨tsOf [(4, (.ptr 1 [] 0)), (5, (.ptr 3 [] 0)), (6, (.ptr 4 [] 0)), (7, (.ptr 5 [] 0))], [.gone, (.box 38 (.row 2)), (.row 38 x0), (.box 30 (.dat 30 x1)), (.box 25 (.dat 25 x2)), (.box 26 (.dat 26 (.lst x3)))], 1⟩
noncomputable def s22_18 (x0 : List Dt) (x1 x2 : Dt) (x3 : List Dt) : St := ⟨tsOf [(4, (.ptr 1 [] 0)), (5, (.ptr 3 [] 0)), (6, (.ptr 4 [] 0)), (7, (.ptr 5 [] 0)), (9, (.fn 37 [(.ptr 1 [] 0), (.ptr 5 [] 0)]))], [.gone, (.box 38 (.row 2)), (.row 38 x0), (.box 30 (.dat 30 x1)), (.box 25 (.dat 25 x2)), (.box 26 (.dat 26 (.lst x3)))], 1⟩
noncomputable def s22_15 (x0 : List Dt) (x1 x2 : Int) (x3 : List Dt) (x4 x5 : Dt) (x6 : List Dt) : St := ⟨tsOf [(4, (.ptr 1 [] 0)), (5, (.ptr 3 [] 0)), (6, (.ptr 4 [] 0)), (7, (.ptr 5 [] 0)), (9, (.fn 37 [(.ptr 1 [] 0), (.ptr 5 [] 0)])), (145, (.dat 27 (.lst x0))), (146, (.dat 3 (.int x1))), (147, (.dat 3 (.int x2)))], [.gone, (.box 38 (.row 2)), (.row 38 x3), (.box 30 (.dat 30 x4)), (.box 25 (.dat 25 x5)), (.box 26 (.dat 26 (.lst x6)))], 1⟩
noncomputable def s22_14 (x0 : List Dt) (x1 x2 : Int) (x3 : List Dt) (x4 x5 : Dt) (x6 : List Dt) : St := ⟨tsOf [(4, (.ptr 1 [] 0)), (5, (.ptr 3 [] 0)), (6, (.ptr 4 [] 0)), (7, (.ptr 5 [] 0)), (9, (.fn 37 [(.ptr 1 [] 0), (.ptr 5 [] 0)])), (145, (.dat 27 (.lst x0))), (146, (.dat 3 (.int x1))), (147, (.dat 3 (.int x2)))], [.gone, (.box 38 (.row 2)), (.row 38 x3), (.box 30 (.dat 30 x4)), (.box 25 (.dat 25 x5)), (.box 26 (.dat 26 (.lst x6)))], 1⟩
noncomputable def s22_13 (x0 : List Dt) (x1 x2 : Dt) (x3 : List Dt) : St := ⟨tsOf [(4, (.ptr 1 [] 0)), (5, (.ptr 3 [] 0)), (6, (.ptr 4 [] 0)), (7, (.ptr 5 [] 0)), (9, (.fn 37 [(.ptr 1 [] 0), (.ptr 5 [] 0)]))], [.gone, (.box 38 (.row 2)), (.row 38 x0), (.box 30 (.dat 30 x1)), (.box 25 (.dat 25 x2)), (.box 26 (.dat 26 (.lst x3)))], 1⟩
noncomputable def s22_10 (x0 : List Dt) (x1 x2 : Int) (x3 : List Dt) (x4 x5 : Dt) (x6 : List Dt) : St := ⟨tsOf [(4, (.ptr 1 [] 0)), (5, (.ptr 3 [] 0)), (6, (.ptr 4 [] 0)), (7, (.ptr 5 [] 0)), (9, (.fn 37 [(.ptr 1 [] 0), (.ptr 5 [] 0)])), (122, (.dat 23 (.lst x0))), (123, (.dat 3 (.int x1))), (124, (.dat 3 (.int x2)))], [.gone, (.box 38 (.row 2)), (.row 38 x3), (.box 30 (.dat 30 x4)), (.box 25 (.dat 25 x5)), (.box 26 (.dat 26 (.lst x6)))], 1⟩
noncomputable def s22_9 (x0 : List Dt) (x1 x2 : Int) (x3 : List Dt) (x4 x5 : Dt) (x6 : List Dt) : St := ⟨tsOf [(4, (.ptr 1 [] 0)), (5, (.ptr 3 [] 0)), (6, (.ptr 4 [] 0)), (7, (.ptr 5 [] 0)), (9, (.fn 37 [(.ptr 1 [] 0), (.ptr 5 [] 0)])), (122, (.dat 23 (.lst x0))), (123, (.dat 3 (.int x1))), (124, (.dat 3 (.int x2)))], [.gone, (.box 38 (.row 2)), (.row 38 x3), (.box 30 (.dat 30 x4)), (.box 25 (.dat 25 x5)), (.box 26 (.dat 26 (.lst x6)))], 1⟩
noncomputable def s22_8 (x0 : List Dt) (x1 x2 : Dt) (x3 : List Dt) : St := ⟨tsOf [(4, (.ptr 1 [] 0)), (5, (.ptr 3 [] 0)), (6, (.ptr 4 [] 0)), (7, (.ptr 5 [] 0)), (9, (.fn 37 [(.ptr 1 [] 0), (.ptr 5 [] 0)]))], [.gone, (.box 38 (.row 2)), (.row 38 x0), (.box 30 (.dat 30 x1)), (.box 25 (.dat 25 x2)), (.box 26 (.dat 26 (.lst x3)))], 1⟩
noncomputable def s22_5 (x0 : List Dt) (x1 x2 : Int) (x3 : List Dt) (x4 x5 : Dt) (x6 : List Dt) : St := ⟨tsOf [(4, (.ptr 1 [] 0)), (5, (.ptr 3 [] 0)), (6, (.ptr 4 [] 0)), (7, (.ptr 5 [] 0)), (9, (.fn 37 [(.ptr 1 [] 0), (.ptr 5 [] 0)])), (102, (.dat 26 (.lst x0))), (103, (.dat 3 (.int x1))), (104, (.dat 3 (.int x2)))], [.gone, (.box 38 (.row 2)), (.row 38 x3), (.box 30 (.dat 30 x4)), (.box 25 (.dat 25 x5)), (.box 26 (.dat 26 (.lst x6)))], 1⟩
noncomputable def s22_4 (x0 : List Dt) (x1 x2 : Int) (x3 : List Dt) (x4 x5 : Dt) (x6 : List Dt) : St := ⟨tsOf [(4, (.ptr 1 [] 0)), (5, (.ptr 3 [] 0)), (6, (.ptr 4 [] 0)), (7, (.ptr 5 [] 0)), (9, (.fn 37 [(.ptr 1 [] 0), (.ptr 5 [] 0)])), (102, (.dat 26 (.lst x0))), (103, (.dat 3 (.int x1))), (104, (.dat 3 (.int x2)))], [.gone, (.box 38 (.row 2)), (.row 38 x3), (.box 30 (.dat 30 x4)), (.box 25 (.dat 25 x5)), (.box 26 (.dat 26 (.lst x6)))], 1⟩
noncomputable def s22_3 (x0 : List Dt) (x1 x2 : Dt) (x3 : List Dt) : St := ⟨tsOf [(4, (.ptr 1 [] 0)), (5, (.ptr 3 [] 0)), (6, (.ptr 4 [] 0)), (7, (.ptr 5 [] 0)), (9, (.fn 37 [(.ptr 1 [] 0), (.ptr 5 [] 0)]))], [.gone, (.box 38 (.row 2)), (.row 38 x0), (.box 30 (.dat 30 x1)), (.box 25 (.dat 25 x2)), (.box 26 (.dat 26 (.lst x3)))], 1⟩
noncomputable def s22_2 (x0 : List Dt) (x1 x2 : Dt) (x3 : List Dt) : St := ⟨tsOf [(4, (.ptr 1 [] 0)), (5, (.ptr 3 [] 0)), (6, (.ptr 4 [] 0)), (7, (.ptr 5 [] 0)), (9, (.fn 37 [(.ptr 1 [] 0), (.ptr 5 [] 0)]))], [.gone, (.box 38 (.row 2)), (.row 38 x0), (.box 30 (.dat 30 x1)), (.box 25 (.dat 25 x2)), (.box 26 (.dat 26 (.lst x3)))], 1⟩
noncomputable def s22_1 (x0 : List Dt) (x1 x2 : Dt) (x3 : List Dt) : St := ⟨tsOf [(4, (.ptr 1 [] 0)), (5, (.ptr 3 [] 0)), (6, (.ptr 4 [] 0)), (7, (.ptr 5 [] 0)), (9, (.fn 37 [(.ptr 1 [] 0), (.ptr 5 [] 0)]))], [.gone, (.box 38 (.row 2)), (.row 38 x0), (.box 30 (.dat 30 x1)), (.box 25 (.dat 25 x2)), (.box 26 (.dat 26 (.lst x3)))], 1⟩
noncomputable def s22_0 (x0 : List Dt) (x1 x2 : Dt) (x3 : List Dt) : St := ⟨tsOf [(4, (.ptr 1 [] 0)), (5, (.ptr 3 [] 0)), (6, (.ptr 4 [] 0)), (7, (.ptr 5 [] 0)), (9, (.fn 37 [(.ptr 1 [] 0), (.ptr 5 [] 0)]))], [.gone, (.box 38 (.row 2)), (.row 38 x0), (.box 30 (.dat 30 x1)), (.box 25 (.dat 25 x2)), (.box 26 (.dat 26 (.lst x3)))], 1⟩
theorem i22_j7_eq (m : Nat) (M5 : Nat) (rec5 : List Dt → Int → Int → List Dt → Dt → Dt → List Dt → Option (List Dt)) (h5 : ∀ (x0 : List Dt) (x1 x2 : Int) (x3 : List Dt) (x4 x5 : Dt) (x6 : List Dt), l22 jn m [1, 1, 1, 1, 1, 1, 1, 1, 1, 0, 1, 0, 0, 1, 0] [] M5 (s22_5 x0 x1 x2 x3 x4 x5 x6) = rec5 x0 x1 x2 x3 x4 x5 x6) (x0 : List Dt) (x1 x2 : Int) (x3 : List Dt) (x4 x5 : Dt) (x6 : List Dt) : e22 jn m [1, 1, 1, 1, 1, 1, 1, 1, 1, 0, 1, 0, 0, 1, 0, 0, 1, 1, 1] [M5] (s22_7 x0 x1 x2 x3 x4 x5 x6) = i22_j7 m (i22 m) rec5 x0 x1 x2 x3 x4 x5 x6 := by
  have h : ∀ J, e22 J m [1, 1, 1, 1, 1, 1, 1, 1, 1, 0, 1, 0, 0, 1, 0, 0, 1, 1, 1] [M5] (s22_7 x0 x1 x2 x3 x4 x5 x6) =
    (J 1 11 M5 (s22_5 x0 x1 (IntKind.wrap .i64 (x2 + 1)) x3 x4 x5 x6) (l22 J m [1, 1, 1, 1, 1, 1, 1, 1, 1, 0, 1, 0, 0, 1, 0] [] M5 (s22_5 x0 x1 (IntKind.wrap .i64 (x2 + 1)) x3 x4 x5 x6))) := fun J => by kernel_rfl
  exact (h jn).trans (by
    simp only [jn_eq, h5]
    rfl)
theorem i22_j6_eq (m : Nat) (M5 : Nat) (rec5 : List Dt → Int → Int → List Dt → Dt → Dt → List Dt → Option (List Dt)) (h5 : ∀ (x0 : List Dt) (x1 x2 : Int) (x3 : List Dt) (x4 x5 : Dt) (x6 : List Dt), l22 jn m [1, 1, 1, 1, 1, 1, 1, 1, 1, 0, 1, 0, 0, 1, 0] [] M5 (s22_5 x0 x1 x2 x3 x4 x5 x6) = rec5 x0 x1 x2 x3 x4 x5 x6) (x0 : List Dt) (x1 x2 : Int) (x3 : List Dt) (x4 x5 : Dt) (x6 : List Dt) : e22 jn m [1, 1, 1, 1, 1, 1, 1, 1, 1, 0, 1, 0, 0, 1, 0, 0, 1, 1] [M5] (s22_6 x0 x1 x2 x3 x4 x5 x6) = i22_j6 m (i22 m) rec5 x0 x1 x2 x3 x4 x5 x6 := by
  have h : ∀ J, e22 J m [1, 1, 1, 1, 1, 1, 1, 1, 1, 0, 1, 0, 0, 1, 0, 0, 1, 1] [M5] (s22_6 x0 x1 x2 x3 x4 x5 x6) =
    ((idx x0 x2).bind fun v10 =>
   ((schema_field m x5 (Dt.toStr v10)).bind fun r11 =>
   ((i15 m (Bool.not r11.2) 6 [(Dt.str (Dt.toStr v10))] x3 x6).bind fun r12 =>
   (J 0 15 0 (s22_7 x0 x1 x2 r12.2 x4 x5 r12.1) (e22 J m [1, 1, 1, 1, 1, 1, 1, 1, 1, 0, 1, 0, 0, 1, 0, 0, 1, 1, 1] [M5] (s22_7 x0 x1 x2 r12.2 x4 x5 r12.1)))))) := fun J => by kernel_rfl
  exact (h jn).trans (by
    simp only [jn_eq, i22_j7_eq m M5 rec5 h5]
    rfl)
theorem i22_j12_eq (m : Nat) (M10 : Nat) (rec10 : List Dt → Int → Int → List Dt → Dt → Dt → List Dt → Option (List Dt)) (h10 : ∀ (x0 : List Dt) (x1 x2 : Int) (x3 : List Dt) (x4 x5 : Dt) (x6 : List Dt), l22 jn m [1, 1, 1, 1, 1, 1, 1, 1, 1, 0, 1, 0, 1, 0, 1, 0] [] M10 (s22_10 x0 x1 x2 x3 x4 x5 x6) = rec10 x0 x1 x2 x3 x4 x5 x6) (x0 : List Dt) (x1 x2 : Int) (x3 : List Dt) (x4 x5 : Dt) (x6 : List Dt) : e22 jn m [1, 1, 1, 1, 1, 1, 1, 1, 1, 0, 1, 0, 1, 0, 1, 0, 0, 1, 1, 1] [M10] (s22_12 x0 x1 x2 x3 x4 x5 x6) = i22_j12 m (i22 m) rec10 x0 x1 x2 x3 x4 x5 x6 := by
  have h : ∀ J, e22 J m [1, 1, 1, 1, 1, 1, 1, 1, 1, 0, 1, 0, 1, 0, 1, 0, 0, 1, 1, 1] [M10] (s22_12 x0 x1 x2 x3 x4 x5 x6) =
    (J 1 17 M10 (s22_10 x0 x1 (IntKind.wrap .i64 (x2 + 1)) x3 x4 x5 x6) (l22 J m [1, 1, 1, 1, 1, 1, 1, 1, 1, 0, 1, 0, 1, 0, 1, 0] [] M10 (s22_10 x0 x1 (IntKind.wrap .i64 (x2 + 1)) x3 x4 x5 x6))) := fun J => by kernel_rfl
  exact (h jn).trans (by
    simp only [jn_eq, h10]
    rfl)
theorem i22_j11_eq (m : Nat) (M10 : Nat) (rec10 : List Dt → Int → Int → List Dt → Dt → Dt → List Dt → Option (List Dt)) (h10 : ∀ (x0 : List Dt) (x1 x2 : Int) (x3 : List Dt) (x4 x5 : Dt) (x6 : List Dt), l22 jn m [1, 1, 1, 1, 1, 1, 1, 1, 1, 0, 1, 0, 1, 0, 1, 0] [] M10 (s22_10 x0 x1 x2 x3 x4 x5 x6) = rec10 x0 x1 x2 x3 x4 x5 x6) (x0 : List Dt) (x1 x2 : Int) (x3 : List Dt) (x4 x5 : Dt) (x6 : List Dt) : e22 jn m [1, 1, 1, 1, 1, 1, 1, 1, 1, 0, 1, 0, 1, 0, 1, 0, 0, 1, 1] [M10] (s22_11 x0 x1 x2 x3 x4 x5 x6) = i22_j11 m (i22 m) rec10 x0 x1 x2 x3 x4 x5 x6 := by
  have h : ∀ J, e22 J m [1, 1, 1, 1, 1, 1, 1, 1, 1, 0, 1, 0, 1, 0, 1, 0, 0, 1, 1] [M10] (s22_11 x0 x1 x2 x3 x4 x5 x6) =
    ((idx x0 x2).bind fun v13 =>
   (bif (Dt.B x4 10) then
   ((i19 m (Dt.L x4 9) v13).bind fun r14 =>
   ((i15 m (Bool.not r14) 7 [(Dt.str (Dt.S v13 0))] x3 x6).bind fun r15 =>
   (J 0 21 0 (s22_12 x0 x1 x2 r15.2 x4 x5 r15.1) (e22 J m [1, 1, 1, 1, 1, 1, 1, 1, 1, 0, 1, 0, 1, 0, 1, 0, 0, 1, 1, 1] [M10] (s22_12 x0 x1 x2 r15.2 x4 x5 r15.1)))))
   else
   ((i15 m false 7 [(Dt.str (Dt.S v13 0))] x3 x6).bind fun r16 =>
   (J 0 21 0 (s22_12 x0 x1 x2 r16.2 x4 x5 r16.1) (e22 J m [1, 1, 1, 1, 1, 1, 1, 1, 1, 0, 1, 0, 1, 0, 1, 0, 0, 1, 1, 1] [M10] (s22_12 x0 x1 x2 r16.2 x4 x5 r16.1)))))) := fun J => by kernel_rfl
  exact (h jn).trans (by
    simp only [jn_eq, i22_j12_eq m M10 rec10 h10]
    rfl)
theorem i22_j17_eq (m : Nat) (M15 : Nat) (rec15 : List Dt → Int → Int → List Dt → Dt → Dt → List Dt → Option (List Dt)) (h15 : ∀ (x0 : List Dt) (x1 x2 : Int) (x3 : List Dt) (x4 x5 : Dt) (x6 : List Dt), l22 jn m [1, 1, 1, 1, 1, 1, 1, 1, 1, 0, 1, 0, 1, 1, 1, 0] [] M15 (s22_15 x0 x1 x2 x3 x4 x5 x6) = rec15 x0 x1 x2 x3 x4 x5 x6) (x0 : List Dt) (x1 x2 : Int) (x3 : List Dt) (x4 x5 : Dt) (x6 : List Dt) : e22 jn m [1, 1, 1, 1, 1, 1, 1, 1, 1, 0, 1, 0, 1, 1, 1, 0, 0, 1, 1, 1] [M15] (s22_17 x0 x1 x2 x3 x4 x5 x6) = i22_j17 m (i22 m) rec15 x0 x1 x2 x3 x4 x5 x6 := by
  have h : ∀ J, e22 J m [1, 1, 1, 1, 1, 1, 1, 1, 1, 0, 1, 0, 1, 1, 1, 0, 0, 1, 1, 1] [M15] (s22_17 x0 x1 x2 x3 x4 x5 x6) =
    (J 1 23 M15 (s22_15 x0 x1 (IntKind.wrap .i64 (x2 + 1)) x3 x4 x5 x6) (l22 J m [1, 1, 1, 1, 1, 1, 1, 1, 1, 0, 1, 0, 1, 1, 1, 0] [] M15 (s22_15 x0 x1 (IntKind.wrap .i64 (x2 + 1)) x3 x4 x5 x6))) := fun J => by kernel_rfl
  exact (h jn).trans (by
    simp only [jn_eq, h15]
    rfl)
theorem i22_j16_eq (m : Nat) (M15 : Nat) (rec15 : List Dt → Int → Int → List Dt → Dt → Dt → List Dt → Option (List Dt)) (h15 : ∀ (x0 : List Dt) (x1 x2 : Int) (x3 : List Dt) (x4 x5 : Dt) (x6 : List Dt), l22 jn m [1, 1, 1, 1, 1, 1, 1, 1, 1, 0, 1, 0, 1, 1, 1, 0] [] M15 (s22_15 x0 x1 x2 x3 x4 x5 x6) = rec15 x0 x1 x2 x3 x4 x5 x6) (x0 : List Dt) (x1 x2 : Int) (x3 : List Dt) (x4 x5 : Dt) (x6 : List Dt) : e22 jn m [1, 1, 1, 1, 1, 1, 1, 1, 1, 0, 1, 0, 1, 1, 1, 0, 0, 1, 1] [M15] (s22_16 x0 x1 x2 x3 x4 x5 x6) = i22_j16 m (i22 m) rec15 x0 x1 x2 x3 x4 x5 x6 := by
  have h : ∀ J, e22 J m [1, 1, 1, 1, 1, 1, 1, 1, 1, 0, 1, 0, 1, 1, 1, 0, 0, 1, 1] [M15] (s22_16 x0 x1 x2 x3 x4 x5 x6) =
    ((idx x0 x2).bind fun v17 =>
   ((schema_field m x5 (Dt.S v17 0)).bind fun r18 =>
   (bif r18.2 then
   ((slices_Concat m [(Dt.lst x6), (Dt.lst [(Dt.str (Dt.S v17 0))])]).bind fun r19 =>
   ((i22 m (Dt.fld v17 1) r18.1 r19 x3).bind fun r20 =>
   (J 0 28 0 (s22_17 x0 x1 x2 r20 x4 x5 x6) (e22 J m [1, 1, 1, 1, 1, 1, 1, 1, 1, 0, 1, 0, 1, 1, 1, 0, 0, 1, 1, 1] [M15] (s22_17 x0 x1 x2 r20 x4 x5 x6)))))
   else
   (J 0 28 0 (s22_17 x0 x1 x2 x3 x4 x5 x6) (e22 J m [1, 1, 1, 1, 1, 1, 1, 1, 1, 0, 1, 0, 1, 1, 1, 0, 0, 1, 1, 1] [M15] (s22_17 x0 x1 x2 x3 x4 x5 x6)))))) := fun J => by kernel_rfl
  exact (h jn).trans (by
    simp only [jn_eq, i22_j17_eq m M15 rec15 h15]
    rfl)
theorem i22_j26_eq (m : Nat) (M21 : Nat) (rec21 : List Dt → Int → Int → List Dt → Dt → List Dt → Option (List Dt)) (h21 : ∀ (x0 : List Dt) (x1 x2 : Int) (x3 : List Dt) (x4 : Dt) (x5 : List Dt), l22 jn m [1, 1, 1, 1, 1, 1, 1, 1, 1, 1, 0, 1, 0, 1, 1, 0] [] M21 (s22_21 x0 x1 x2 x3 x4 x5) = rec21 x0 x1 x2 x3 x4 x5) (M24 : Nat) (rec24 : List Dt → Int → Int → List Dt → Int → Int → List Dt → Dt → List Dt → Dt → Option (List Dt)) (h24 : ∀ (x0 : List Dt) (x1 x2 : Int) (x3 : List Dt) (x4 x5 : Int) (x6 : List Dt) (x7 : Dt) (x8 : List Dt) (x9 : Dt), l22 jn m [1, 1, 1, 1, 1, 1, 1, 1, 1, 1, 0, 1, 0, 1, 1, 0, 0, 1, 1, 0, 0, 1, 1, 0] [M21] M24 (s22_24 x0 x1 x2 x3 x4 x5 x6 x7 x8 x9) = rec24 x0 x1 x2 x3 x4 x5 x6 x7 x8 x9) (x0 : List Dt) (x1 x2 : Int) (x3 : List Dt) (x4 x5 : Int) (x6 : List Dt) (x7 : Dt) (x8 : List Dt) (x9 : Dt) : e22 jn m [1, 1, 1, 1, 1, 1, 1, 1, 1, 1, 0, 1, 0, 1, 1, 0, 0, 1, 1, 0, 0, 1, 1, 0, 0, 1, 1, 1] [M21, M24] (s22_26 x0 x1 x2 x3 x4 x5 x6 x7 x8 x9) = i22_j26 m (i22 m) rec21 rec24 x0 x1 x2 x3 x4 x5 x6 x7 x8 x9 := by
  have h : ∀ J, e22 J m [1, 1, 1, 1, 1, 1, 1, 1, 1, 1, 0, 1, 0, 1, 1, 0, 0, 1, 1, 0, 0, 1, 1, 0, 0, 1, 1, 1] [M21, M24] (s22_26 x0 x1 x2 x3 x4 x5 x6 x7 x8 x9) =
    (J 1 35 M24 (s22_24 x0 x1 x2 x3 x4 (IntKind.wrap .i64 (x5 + 1)) x6 x7 x8 x9) (l22 J m [1, 1, 1, 1, 1, 1, 1, 1, 1, 1, 0, 1, 0, 1, 1, 0, 0, 1, 1, 0, 0, 1, 1, 0] [M21] M24 (s22_24 x0 x1 x2 x3 x4 (IntKind.wrap .i64 (x5 + 1)) x6 x7 x8 x9))) := fun J => by kernel_rfl
  exact (h jn).trans (by
    simp only [jn_eq, h24]
    rfl)
theorem i22_j25_eq (m : Nat) (M21 : Nat) (rec21 : List Dt → Int → Int → List Dt → Dt → List Dt → Option (List Dt)) (h21 : ∀ (x0 : List Dt) (x1 x2 : Int) (x3 : List Dt) (x4 : Dt) (x5 : List Dt), l22 jn m [1, 1, 1, 1, 1, 1, 1, 1, 1, 1, 0, 1, 0, 1, 1, 0] [] M21 (s22_21 x0 x1 x2 x3 x4 x5) = rec21 x0 x1 x2 x3 x4 x5) (M24 : Nat) (rec24 : List Dt → Int → Int → List Dt → Int → Int → List Dt → Dt → List Dt → Dt → Option (List Dt)) (h24 : ∀ (x0 : List Dt) (x1 x2 : Int) (x3 : List Dt) (x4 x5 : Int) (x6 : List Dt) (x7 : Dt) (x8 : List Dt) (x9 : Dt), l22 jn m [1, 1, 1, 1, 1, 1, 1, 1, 1, 1, 0, 1, 0, 1, 1, 0, 0, 1, 1, 0, 0, 1, 1, 0] [M21] M24 (s22_24 x0 x1 x2 x3 x4 x5 x6 x7 x8 x9) = rec24 x0 x1 x2 x3 x4 x5 x6 x7 x8 x9) (x0 : List Dt) (x1 x2 : Int) (x3 : List Dt) (x4 x5 : Int) (x6 : List Dt) (x7 : Dt) (x8 : List Dt) (x9 : Dt) : e22 jn m [1, 1, 1, 1, 1, 1, 1, 1, 1, 1, 0, 1, 0, 1, 1, 0, 0, 1, 1, 0, 0, 1, 1, 0, 0, 1, 1] [M21, M24] (s22_25 x0 x1 x2 x3 x4 x5 x6 x7 x8 x9) = i22_j25 m (i22 m) rec21 rec24 x0 x1 x2 x3 x4 x5 x6 x7 x8 x9 := by
  have h : ∀ J, e22 J m [1, 1, 1, 1, 1, 1, 1, 1, 1, 1, 0, 1, 0, 1, 1, 0, 0, 1, 1, 0, 0, 1, 1, 0, 0, 1, 1] [M21, M24] (s22_25 x0 x1 x2 x3 x4 x5 x6 x7 x8 x9) =
    ((idx x3 x5).bind fun v24 =>
   ((strconv_Itoa x5).bind fun r25 =>
   ((slices_Concat m [(Dt.lst x8), (Dt.lst [(Dt.str r25)])]).bind fun r26 =>
   ((i22 m x9 v24 r26 x6).bind fun r27 =>
   (J 0 38 0 (s22_26 x0 x1 x2 x3 x4 x5 r27 x7 x8 x9) (e22 J m [1, 1, 1, 1, 1, 1, 1, 1, 1, 1, 0, 1, 0, 1, 1, 0, 0, 1, 1, 0, 0, 1, 1, 0, 0, 1, 1, 1] [M21, M24] (s22_26 x0 x1 x2 x3 x4 x5 r27 x7 x8 x9))))))) := fun J => by kernel_rfl
  exact (h jn).trans (by
    simp only [jn_eq, i22_j26_eq m M21 rec21 h21 M24 rec24 h24]
    rfl)
theorem i22_j27_eq (m : Nat) (M21 : Nat) (rec21 : List Dt → Int → Int → List Dt → Dt → List Dt → Option (List Dt)) (h21 : ∀ (x0 : List Dt) (x1 x2 : Int) (x3 : List Dt) (x4 : Dt) (x5 : List Dt), l22 jn m [1, 1, 1, 1, 1, 1, 1, 1, 1, 1, 0, 1, 0, 1, 1, 0] [] M21 (s22_21 x0 x1 x2 x3 x4 x5) = rec21 x0 x1 x2 x3 x4 x5) (x0 : List Dt) (x1 x2 : Int) (x3 : List Dt) (x4 : Dt) (x5 : List Dt) : e22 jn m [1, 1, 1, 1, 1, 1, 1, 1, 1, 1, 0, 1, 0, 1, 1, 0, 0, 1, 1, 1] [M21] (s22_27 x0 x1 x2 x3 x4 x5) = i22_j27 m (i22 m) rec21 x0 x1 x2 x3 x4 x5 := by
  have h : ∀ J, e22 J m [1, 1, 1, 1, 1, 1, 1, 1, 1, 1, 0, 1, 0, 1, 1, 0, 0, 1, 1, 1] [M21] (s22_27 x0 x1 x2 x3 x4 x5) =
    (J 1 32 M21 (s22_21 x0 x1 (IntKind.wrap .i64 (x2 + 1)) x3 x4 x5) (l22 J m [1, 1, 1, 1, 1, 1, 1, 1, 1, 1, 0, 1, 0, 1, 1, 0] [] M21 (s22_21 x0 x1 (IntKind.wrap .i64 (x2 + 1)) x3 x4 x5))) := fun J => by kernel_rfl
  exact (h jn).trans (by
    simp only [jn_eq, h21]
    rfl)
theorem i22_l24_eq (m : Nat) (M21 : Nat) (rec21 : List Dt → Int → Int → List Dt → Dt → List Dt → Option (List Dt)) (h21 : ∀ (x0 : List Dt) (x1 x2 : Int) (x3 : List Dt) (x4 : Dt) (x5 : List Dt), l22 jn m [1, 1, 1, 1, 1, 1, 1, 1, 1, 1, 0, 1, 0, 1, 1, 0] [] M21 (s22_21 x0 x1 x2 x3 x4 x5) = rec21 x0 x1 x2 x3 x4 x5) : ∀ (M24 : Nat) (x0 : List Dt) (x1 x2 : Int) (x3 : List Dt) (x4 x5 : Int) (x6 : List Dt) (x7 : Dt) (x8 : List Dt) (x9 : Dt), l22 jn m [1, 1, 1, 1, 1, 1, 1, 1, 1, 1, 0, 1, 0, 1, 1, 0, 0, 1, 1, 0, 0, 1, 1, 0] [M21] M24 (s22_24 x0 x1 x2 x3 x4 x5 x6 x7 x8 x9) = i22_l24 m (i22 m) rec21 M24 x0 x1 x2 x3 x4 x5 x6 x7 x8 x9
  | 0, _, _, _, _, _, _, _, _, _, _ => rfl
  | M24 + 1, x0, x1, x2, x3, x4, x5, x6, x7, x8, x9 => by
    have h : ∀ J, l22 J m [1, 1, 1, 1, 1, 1, 1, 1, 1, 1, 0, 1, 0, 1, 1, 0, 0, 1, 1, 0, 0, 1, 1, 0] [M21] (M24 + 1) (s22_24 x0 x1 x2 x3 x4 x5 x6 x7 x8 x9) =
    (bif (decide (x5 < x4)) then
   (J 0 36 0 (s22_25 x0 x1 x2 x3 x4 x5 x6 x7 x8 x9) (e22 J m [1, 1, 1, 1, 1, 1, 1, 1, 1, 1, 0, 1, 0, 1, 1, 0, 0, 1, 1, 0, 0, 1, 1, 0, 0, 1, 1] [M21, M24] (s22_25 x0 x1 x2 x3 x4 x5 x6 x7 x8 x9)))
    else
   (J 0 39 0 (s22_27 x0 x1 x2 x6 x7 x8) (e22 J m [1, 1, 1, 1, 1, 1, 1, 1, 1, 1, 0, 1, 0, 1, 1, 0, 0, 1, 1, 1] [M21] (s22_27 x0 x1 x2 x6 x7 x8)))) := fun J => by kernel_rfl
    refine (h jn).trans ?_
    simp only [jn_eq, i22_j25_eq m M21 rec21 h21 M24 (i22_l24 m (i22 m) rec21 M24) (fun x0 x1 x2 x3 x4 x5 x6 x7 x8 x9 => i22_l24_eq m M21 rec21 h21 M24 x0 x1 x2 x3 x4 x5 x6 x7 x8 x9), i22_j27_eq m M21 rec21 h21]
    rfl
theorem i22_j23_eq (m : Nat) (M21 : Nat) (rec21 : List Dt → Int → Int → List Dt → Dt → List Dt → Option (List Dt)) (h21 : ∀ (x0 : List Dt) (x1 x2 : Int) (x3 : List Dt) (x4 : Dt) (x5 : List Dt), l22 jn m [1, 1, 1, 1, 1, 1, 1, 1, 1, 1, 0, 1, 0, 1, 1, 0] [] M21 (s22_21 x0 x1 x2 x3 x4 x5) = rec21 x0 x1 x2 x3 x4 x5) (x0 : List Dt) (x1 x2 : Int) (x3 : List Dt) (x4 x5 : Int) (x6 : List Dt) (x7 : Dt) (x8 : List Dt) (x9 : Dt) : e22 jn m [1, 1, 1, 1, 1, 1, 1, 1, 1, 1, 0, 1, 0, 1, 1, 0, 0, 1, 1, 0, 0, 1, 1] [M21] (s22_23 x0 x1 x2 x3 x4 x5 x6 x7 x8 x9) = i22_j23 m (i22 m) rec21 x0 x1 x2 x3 x4 x5 x6 x7 x8 x9 := by
  have h : ∀ J, e22 J m [1, 1, 1, 1, 1, 1, 1, 1, 1, 1, 0, 1, 0, 1, 1, 0, 0, 1, 1, 0, 0, 1, 1] [M21] (s22_23 x0 x1 x2 x3 x4 x5 x6 x7 x8 x9) =
    (J 1 35 (Nat.succ m) (s22_24 x0 x1 x2 x3 x4 x5 x6 x7 x8 x9) (l22 J m [1, 1, 1, 1, 1, 1, 1, 1, 1, 1, 0, 1, 0, 1, 1, 0, 0, 1, 1, 0, 0, 1, 1, 0] [M21] (Nat.succ m) (s22_24 x0 x1 x2 x3 x4 x5 x6 x7 x8 x9))) := fun J => by kernel_rfl
  exact (h jn).trans (by
    simp only [jn_eq, i22_l24_eq m M21 rec21 h21]
    rfl)
theorem i22_j22_eq (m : Nat) (M21 : Nat) (rec21 : List Dt → Int → Int → List Dt → Dt → List Dt → Option (List Dt)) (h21 : ∀ (x0 : List Dt) (x1 x2 : Int) (x3 : List Dt) (x4 : Dt) (x5 : List Dt), l22 jn m [1, 1, 1, 1, 1, 1, 1, 1, 1, 1, 0, 1, 0, 1, 1, 0] [] M21 (s22_21 x0 x1 x2 x3 x4 x5) = rec21 x0 x1 x2 x3 x4 x5) (x0 : List Dt) (x1 x2 : Int) (x3 : List Dt) (x4 : Dt) (x5 : List Dt) : e22 jn m [1, 1, 1, 1, 1, 1, 1, 1, 1, 1, 0, 1, 0, 1, 1, 0, 0, 1, 1] [M21] (s22_22 x0 x1 x2 x3 x4 x5) = i22_j22 m (i22 m) rec21 x0 x1 x2 x3 x4 x5 := by
  have h : ∀ J, e22 J m [1, 1, 1, 1, 1, 1, 1, 1, 1, 1, 0, 1, 0, 1, 1, 0, 0, 1, 1] [M21] (s22_22 x0 x1 x2 x3 x4 x5) =
    ((idx x0 x2).bind fun v23 =>
   (J 0 35 0 (s22_23 x0 x1 x2 (Dt.L x4 3) (List.length (Dt.L x4 3) : Int) 0 x3 x4 x5 v23) (e22 J m [1, 1, 1, 1, 1, 1, 1, 1, 1, 1, 0, 1, 0, 1, 1, 0, 0, 1, 1, 0, 0, 1, 1] [M21] (s22_23 x0 x1 x2 (Dt.L x4 3) (List.length (Dt.L x4 3) : Int) 0 x3 x4 x5 v23)))) := fun J => by kernel_rfl
  exact (h jn).trans (by
    simp only [jn_eq, i22_j23_eq m M21 rec21 h21]
    rfl)
theorem i22_j28_eq (m : Nat) (x0 : List Dt) : e22 jn m [1, 1, 1, 1, 1, 1, 1, 1, 1, 1, 1] [] (s22_28 x0) = i22_j28 m (i22 m) x0 := by
  have h : ∀ J, e22 J m [1, 1, 1, 1, 1, 1, 1, 1, 1, 1, 1] [] (s22_28 x0) =
    some x0 := fun J => by kernel_rfl
  exact (h jn).trans (rfl)
theorem i22_l21_eq (m : Nat) : ∀ (M21 : Nat) (x0 : List Dt) (x1 x2 : Int) (x3 : List Dt) (x4 : Dt) (x5 : List Dt), l22 jn m [1, 1, 1, 1, 1, 1, 1, 1, 1, 1, 0, 1, 0, 1, 1, 0] [] M21 (s22_21 x0 x1 x2 x3 x4 x5) = i22_l21 m (i22 m) M21 x0 x1 x2 x3 x4 x5
  | 0, _, _, _, _, _, _ => rfl
  | M21 + 1, x0, x1, x2, x3, x4, x5 => by
    have h : ∀ J, l22 J m [1, 1, 1, 1, 1, 1, 1, 1, 1, 1, 0, 1, 0, 1, 1, 0] [] (M21 + 1) (s22_21 x0 x1 x2 x3 x4 x5) =
    (bif (decide (x2 < x1)) then
   (J 0 33 0 (s22_22 x0 x1 x2 x3 x4 x5) (e22 J m [1, 1, 1, 1, 1, 1, 1, 1, 1, 1, 0, 1, 0, 1, 1, 0, 0, 1, 1] [M21] (s22_22 x0 x1 x2 x3 x4 x5)))
    else
   (J 0 40 0 (s22_28 x3) (e22 J m [1, 1, 1, 1, 1, 1, 1, 1, 1, 1, 1] [] (s22_28 x3)))) := fun J => by kernel_rfl
    refine (h jn).trans ?_
    simp only [jn_eq, i22_j22_eq m M21 (i22_l21 m (i22 m) M21) (fun x0 x1 x2 x3 x4 x5 => i22_l21_eq m M21 x0 x1 x2 x3 x4 x5), i22_j28_eq m]
    rfl
theorem i22_j20_eq (m : Nat) (x0 : List Dt) (x1 x2 : Int) (x3 : List Dt) (x4 : Dt) (x5 : List Dt) : e22 jn m [1, 1, 1, 1, 1, 1, 1, 1, 1, 1, 0, 1, 0, 1, 1] [] (s22_20 x0 x1 x2 x3 x4 x5) = i22_j20 m (i22 m) x0 x1 x2 x3 x4 x5 := by
  have h : ∀ J, e22 J m [1, 1, 1, 1, 1, 1, 1, 1, 1, 1, 0, 1, 0, 1, 1] [] (s22_20 x0 x1 x2 x3 x4 x5) =
    (J 1 32 (Nat.succ m) (s22_21 x0 x1 x2 x3 x4 x5) (l22 J m [1, 1, 1, 1, 1, 1, 1, 1, 1, 1, 0, 1, 0, 1, 1, 0] [] (Nat.succ m) (s22_21 x0 x1 x2 x3 x4 x5))) := fun J => by kernel_rfl
  exact (h jn).trans (by
    simp only [jn_eq, i22_l21_eq m]
    rfl)
theorem i22_j19_eq (m : Nat) (x0 : List Dt) (x1 x2 : Dt) (x3 : List Dt) : e22 jn m [1, 1, 1, 1, 1, 1, 1, 1, 1, 1, 0, 1, 0, 1] [] (s22_19 x0 x1 x2 x3) = i22_j19 m (i22 m) x0 x1 x2 x3 := by
  have h : ∀ J, e22 J m [1, 1, 1, 1, 1, 1, 1, 1, 1, 1, 0, 1, 0, 1] [] (s22_19 x0 x1 x2 x3) =
    (J 0 32 0 (s22_20 (Dt.L x1 11) (List.length (Dt.L x1 11) : Int) 0 x0 x2 x3) (e22 J m [1, 1, 1, 1, 1, 1, 1, 1, 1, 1, 0, 1, 0, 1, 1] [] (s22_20 (Dt.L x1 11) (List.length (Dt.L x1 11) : Int) 0 x0 x2 x3))) := fun J => by kernel_rfl
  exact (h jn).trans (by
    simp only [jn_eq, i22_j20_eq m]
    rfl)
theorem i22_j18_eq (m : Nat) (x0 : List Dt) (x1 x2 : Dt) (x3 : List Dt) : e22 jn m [1, 1, 1, 1, 1, 1, 1, 1, 1, 1] [] (s22_18 x0 x1 x2 x3) = i22_j18 m (i22 m) x0 x1 x2 x3 := by
  have h : ∀ J, e22 J m [1, 1, 1, 1, 1, 1, 1, 1, 1, 1] [] (s22_18 x0 x1 x2 x3) =
    (bif ((Dt.I x2 0) == 6) then
   (bif (Dt.B x1 12) then
   ((schema_repeats m (Dt.L x2 3)).bind fun r21 =>
   ((i15 m r21 8 [] x0 x3).bind fun r22 =>
   (J 0 31 0 (s22_19 r22.2 x1 x2 r22.1) (e22 J m [1, 1, 1, 1, 1, 1, 1, 1, 1, 1, 0, 1, 0, 1] [] (s22_19 r22.2 x1 x2 r22.1)))))
   else
   ((i15 m false 8 [] x0 x3).bind fun r28 =>
   (J 0 31 0 (s22_19 r28.2 x1 x2 r28.1) (e22 J m [1, 1, 1, 1, 1, 1, 1, 1, 1, 1, 0, 1, 0, 1] [] (s22_19 r28.2 x1 x2 r28.1)))))
    else
   (J 0 40 0 (s22_28 x0) (e22 J m [1, 1, 1, 1, 1, 1, 1, 1, 1, 1, 1] [] (s22_28 x0)))) := fun J => by kernel_rfl
  exact (h jn).trans (by
    simp only [jn_eq, i22_j19_eq m, i22_j28_eq m]
    rfl)
theorem i22_l15_eq (m : Nat) : ∀ (M15 : Nat) (x0 : List Dt) (x1 x2 : Int) (x3 : List Dt) (x4 x5 : Dt) (x6 : List Dt), l22 jn m [1, 1, 1, 1, 1, 1, 1, 1, 1, 0, 1, 0, 1, 1, 1, 0] [] M15 (s22_15 x0 x1 x2 x3 x4 x5 x6) = i22_l15 m (i22 m) M15 x0 x1 x2 x3 x4 x5 x6
  | 0, _, _, _, _, _, _, _ => rfl
  | M15 + 1, x0, x1, x2, x3, x4, x5, x6 => by
    have h : ∀ J, l22 J m [1, 1, 1, 1, 1, 1, 1, 1, 1, 0, 1, 0, 1, 1, 1, 0] [] (M15 + 1) (s22_15 x0 x1 x2 x3 x4 x5 x6) =
    (bif (decide (x2 < x1)) then
   (J 0 24 0 (s22_16 x0 x1 x2 x3 x4 x5 x6) (e22 J m [1, 1, 1, 1, 1, 1, 1, 1, 1, 0, 1, 0, 1, 1, 1, 0, 0, 1, 1] [M15] (s22_16 x0 x1 x2 x3 x4 x5 x6)))
    else
   (J 0 29 0 (s22_18 x3 x4 x5 x6) (e22 J m [1, 1, 1, 1, 1, 1, 1, 1, 1, 1] [] (s22_18 x3 x4 x5 x6)))) := fun J => by kernel_rfl
    refine (h jn).trans ?_
    simp only [jn_eq, i22_j16_eq m M15 (i22_l15 m (i22 m) M15) (fun x0 x1 x2 x3 x4 x5 x6 => i22_l15_eq m M15 x0 x1 x2 x3 x4 x5 x6), i22_j18_eq m]
    rfl
theorem i22_j14_eq (m : Nat) (x0 : List Dt) (x1 x2 : Int) (x3 : List Dt) (x4 x5 : Dt) (x6 : List Dt) : e22 jn m [1, 1, 1, 1, 1, 1, 1, 1, 1, 0, 1, 0, 1, 1, 1] [] (s22_14 x0 x1 x2 x3 x4 x5 x6) = i22_j14 m (i22 m) x0 x1 x2 x3 x4 x5 x6 := by
  have h : ∀ J, e22 J m [1, 1, 1, 1, 1, 1, 1, 1, 1, 0, 1, 0, 1, 1, 1] [] (s22_14 x0 x1 x2 x3 x4 x5 x6) =
    (J 1 23 (Nat.succ m) (s22_15 x0 x1 x2 x3 x4 x5 x6) (l22 J m [1, 1, 1, 1, 1, 1, 1, 1, 1, 0, 1, 0, 1, 1, 1, 0] [] (Nat.succ m) (s22_15 x0 x1 x2 x3 x4 x5 x6))) := fun J => by kernel_rfl
  exact (h jn).trans (by
    simp only [jn_eq, i22_l15_eq m]
    rfl)
theorem i22_j13_eq (m : Nat) (x0 : List Dt) (x1 x2 : Dt) (x3 : List Dt) : e22 jn m [1, 1, 1, 1, 1, 1, 1, 1, 1, 0, 1, 0, 1, 1] [] (s22_13 x0 x1 x2 x3) = i22_j13 m (i22 m) x0 x1 x2 x3 := by
  have h : ∀ J, e22 J m [1, 1, 1, 1, 1, 1, 1, 1, 1, 0, 1, 0, 1, 1] [] (s22_13 x0 x1 x2 x3) =
    (J 0 23 0 (s22_14 (Dt.L x1 9) (List.length (Dt.L x1 9) : Int) 0 x0 x1 x2 x3) (e22 J m [1, 1, 1, 1, 1, 1, 1, 1, 1, 0, 1, 0, 1, 1, 1] [] (s22_14 (Dt.L x1 9) (List.length (Dt.L x1 9) : Int) 0 x0 x1 x2 x3))) := fun J => by kernel_rfl
  exact (h jn).trans (by
    simp only [jn_eq, i22_j14_eq m]
    rfl)
theorem i22_l10_eq (m : Nat) : ∀ (M10 : Nat) (x0 : List Dt) (x1 x2 : Int) (x3 : List Dt) (x4 x5 : Dt) (x6 : List Dt), l22 jn m [1, 1, 1, 1, 1, 1, 1, 1, 1, 0, 1, 0, 1, 0, 1, 0] [] M10 (s22_10 x0 x1 x2 x3 x4 x5 x6) = i22_l10 m (i22 m) M10 x0 x1 x2 x3 x4 x5 x6
  | 0, _, _, _, _, _, _, _ => rfl
  | M10 + 1, x0, x1, x2, x3, x4, x5, x6 => by
    have h : ∀ J, l22 J m [1, 1, 1, 1, 1, 1, 1, 1, 1, 0, 1, 0, 1, 0, 1, 0] [] (M10 + 1) (s22_10 x0 x1 x2 x3 x4 x5 x6) =
    (bif (decide (x2 < x1)) then
   (J 0 18 0 (s22_11 x0 x1 x2 x3 x4 x5 x6) (e22 J m [1, 1, 1, 1, 1, 1, 1, 1, 1, 0, 1, 0, 1, 0, 1, 0, 0, 1, 1] [M10] (s22_11 x0 x1 x2 x3 x4 x5 x6)))
    else
   (J 0 22 0 (s22_13 x3 x4 x5 x6) (e22 J m [1, 1, 1, 1, 1, 1, 1, 1, 1, 0, 1, 0, 1, 1] [] (s22_13 x3 x4 x5 x6)))) := fun J => by kernel_rfl
    refine (h jn).trans ?_
    simp only [jn_eq, i22_j11_eq m M10 (i22_l10 m (i22 m) M10) (fun x0 x1 x2 x3 x4 x5 x6 => i22_l10_eq m M10 x0 x1 x2 x3 x4 x5 x6), i22_j13_eq m]
    rfl
theorem i22_j9_eq (m : Nat) (x0 : List Dt) (x1 x2 : Int) (x3 : List Dt) (x4 x5 : Dt) (x6 : List Dt) : e22 jn m [1, 1, 1, 1, 1, 1, 1, 1, 1, 0, 1, 0, 1, 0, 1] [] (s22_9 x0 x1 x2 x3 x4 x5 x6) = i22_j9 m (i22 m) x0 x1 x2 x3 x4 x5 x6 := by
  have h : ∀ J, e22 J m [1, 1, 1, 1, 1, 1, 1, 1, 1, 0, 1, 0, 1, 0, 1] [] (s22_9 x0 x1 x2 x3 x4 x5 x6) =
    (J 1 17 (Nat.succ m) (s22_10 x0 x1 x2 x3 x4 x5 x6) (l22 J m [1, 1, 1, 1, 1, 1, 1, 1, 1, 0, 1, 0, 1, 0, 1, 0] [] (Nat.succ m) (s22_10 x0 x1 x2 x3 x4 x5 x6))) := fun J => by kernel_rfl
  exact (h jn).trans (by
    simp only [jn_eq, i22_l10_eq m]
    rfl)
theorem i22_j8_eq (m : Nat) (x0 : List Dt) (x1 x2 : Dt) (x3 : List Dt) : e22 jn m [1, 1, 1, 1, 1, 1, 1, 1, 1, 0, 1, 0, 1] [] (s22_8 x0 x1 x2 x3) = i22_j8 m (i22 m) x0 x1 x2 x3 := by
  have h : ∀ J, e22 J m [1, 1, 1, 1, 1, 1, 1, 1, 1, 0, 1, 0, 1] [] (s22_8 x0 x1 x2 x3) =
    (J 0 17 0 (s22_9 (Dt.L x2 4) (List.length (Dt.L x2 4) : Int) 0 x0 x1 x2 x3) (e22 J m [1, 1, 1, 1, 1, 1, 1, 1, 1, 0, 1, 0, 1, 0, 1] [] (s22_9 (Dt.L x2 4) (List.length (Dt.L x2 4) : Int) 0 x0 x1 x2 x3))) := fun J => by kernel_rfl
  exact (h jn).trans (by
    simp only [jn_eq, i22_j9_eq m]
    rfl)
theorem i22_l5_eq (m : Nat) : ∀ (M5 : Nat) (x0 : List Dt) (x1 x2 : Int) (x3 : List Dt) (x4 x5 : Dt) (x6 : List Dt), l22 jn m [1, 1, 1, 1, 1, 1, 1, 1, 1, 0, 1, 0, 0, 1, 0] [] M5 (s22_5 x0 x1 x2 x3 x4 x5 x6) = i22_l5 m (i22 m) M5 x0 x1 x2 x3 x4 x5 x6
  | 0, _, _, _, _, _, _, _ => rfl
  | M5 + 1, x0, x1, x2, x3, x4, x5, x6 => by
    have h : ∀ J, l22 J m [1, 1, 1, 1, 1, 1, 1, 1, 1, 0, 1, 0, 0, 1, 0] [] (M5 + 1) (s22_5 x0 x1 x2 x3 x4 x5 x6) =
    (bif (decide (x2 < x1)) then
   (J 0 12 0 (s22_6 x0 x1 x2 x3 x4 x5 x6) (e22 J m [1, 1, 1, 1, 1, 1, 1, 1, 1, 0, 1, 0, 0, 1, 0, 0, 1, 1] [M5] (s22_6 x0 x1 x2 x3 x4 x5 x6)))
    else
   (J 0 16 0 (s22_8 x3 x4 x5 x6) (e22 J m [1, 1, 1, 1, 1, 1, 1, 1, 1, 0, 1, 0, 1] [] (s22_8 x3 x4 x5 x6)))) := fun J => by kernel_rfl
    refine (h jn).trans ?_
    simp only [jn_eq, i22_j6_eq m M5 (i22_l5 m (i22 m) M5) (fun x0 x1 x2 x3 x4 x5 x6 => i22_l5_eq m M5 x0 x1 x2 x3 x4 x5 x6), i22_j8_eq m]
    rfl
theorem i22_j4_eq (m : Nat) (x0 : List Dt) (x1 x2 : Int) (x3 : List Dt) (x4 x5 : Dt) (x6 : List Dt) : e22 jn m [1, 1, 1, 1, 1, 1, 1, 1, 1, 0, 1, 0, 0, 1] [] (s22_4 x0 x1 x2 x3 x4 x5 x6) = i22_j4 m (i22 m) x0 x1 x2 x3 x4 x5 x6 := by
  have h : ∀ J, e22 J m [1, 1, 1, 1, 1, 1, 1, 1, 1, 0, 1, 0, 0, 1] [] (s22_4 x0 x1 x2 x3 x4 x5 x6) =
    (J 1 11 (Nat.succ m) (s22_5 x0 x1 x2 x3 x4 x5 x6) (l22 J m [1, 1, 1, 1, 1, 1, 1, 1, 1, 0, 1, 0, 0, 1, 0] [] (Nat.succ m) (s22_5 x0 x1 x2 x3 x4 x5 x6))) := fun J => by kernel_rfl
  exact (h jn).trans (by
    simp only [jn_eq, i22_l5_eq m]
    rfl)
theorem i22_j3_eq (m : Nat) (x0 : List Dt) (x1 x2 : Dt) (x3 : List Dt) : e22 jn m [1, 1, 1, 1, 1, 1, 1, 1, 1] [] (s22_3 x0 x1 x2 x3) = i22_j3 m (i22 m) x0 x1 x2 x3 := by
  have h : ∀ J, e22 J m [1, 1, 1, 1, 1, 1, 1, 1, 1] [] (s22_3 x0 x1 x2 x3) =
    (bif ((Dt.I x2 0) == 5) then
   (J 0 11 0 (s22_4 (Dt.L x1 8) (List.length (Dt.L x1 8) : Int) 0 x0 x1 x2 x3) (e22 J m [1, 1, 1, 1, 1, 1, 1, 1, 1, 0, 1, 0, 0, 1] [] (s22_4 (Dt.L x1 8) (List.length (Dt.L x1 8) : Int) 0 x0 x1 x2 x3)))
    else
   (J 0 29 0 (s22_18 x0 x1 x2 x3) (e22 J m [1, 1, 1, 1, 1, 1, 1, 1, 1, 1] [] (s22_18 x0 x1 x2 x3)))) := fun J => by kernel_rfl
  exact (h jn).trans (by
    simp only [jn_eq, i22_j4_eq m, i22_j18_eq m]
    rfl)
theorem i22_j2_eq (m : Nat) (x0 : List Dt) (x1 x2 : Dt) (x3 : List Dt) : e22 jn m [1, 1, 1, 1, 1, 1, 1] [] (s22_2 x0 x1 x2 x3) = i22_j2 m (i22 m) x0 x1 x2 x3 := by
  have h : ∀ J, e22 J m [1, 1, 1, 1, 1, 1, 1] [] (s22_2 x0 x1 x2 x3) =
    ((schema_length m x2).bind fun r8 =>
   (bif r8.2 then
   (bif (decide (r8.1 < (Dt.I x1 6))) then
   ((i15 m true 5 [] x0 x3).bind fun r9 =>
   (J 0 9 0 (s22_3 r9.2 x1 x2 r9.1) (e22 J m [1, 1, 1, 1, 1, 1, 1, 1, 1] [] (s22_3 r9.2 x1 x2 r9.1))))
   else
   (bif (decide (0 ≤ (Dt.I x1 7))) then
   ((i15 m (decide ((Dt.I x1 7) < r8.1)) 5 [] x0 x3).bind fun r29 =>
   (J 0 9 0 (s22_3 r29.2 x1 x2 r29.1) (e22 J m [1, 1, 1, 1, 1, 1, 1, 1, 1] [] (s22_3 r29.2 x1 x2 r29.1))))
   else
   ((i15 m false 5 [] x0 x3).bind fun r30 =>
   (J 0 9 0 (s22_3 r30.2 x1 x2 r30.1) (e22 J m [1, 1, 1, 1, 1, 1, 1, 1, 1] [] (s22_3 r30.2 x1 x2 r30.1))))))
   else
   ((i15 m false 5 [] x0 x3).bind fun r31 =>
   (J 0 9 0 (s22_3 r31.2 x1 x2 r31.1) (e22 J m [1, 1, 1, 1, 1, 1, 1, 1, 1] [] (s22_3 r31.2 x1 x2 r31.1)))))) := fun J => by kernel_rfl
  exact (h jn).trans (by
    simp only [jn_eq, i22_j3_eq m]
    rfl)
theorem i22_j1_eq (m : Nat) (x0 : List Dt) (x1 x2 : Dt) (x3 : List Dt) : e22 jn m [1, 1, 1, 1, 1, 1] [] (s22_1 x0 x1 x2 x3) = i22_j1 m (i22 m) x0 x1 x2 x3 := by
  have h : ∀ J, e22 J m [1, 1, 1, 1, 1, 1] [] (s22_1 x0 x1 x2 x3) =
    (bif (Dt.B x1 3) then
   ((value_Compare m x2 (Dt.fld x1 4)).bind fun r6 =>
   ((i15 m (decide (0 < r6)) 4 [] x0 x3).bind fun r7 =>
   (J 0 7 0 (s22_2 r7.2 x1 x2 r7.1) (e22 J m [1, 1, 1, 1, 1, 1, 1] [] (s22_2 r7.2 x1 x2 r7.1)))))
    else
   ((i15 m false 4 [] x0 x3).bind fun r32 =>
   (J 0 7 0 (s22_2 r32.2 x1 x2 r32.1) (e22 J m [1, 1, 1, 1, 1, 1, 1] [] (s22_2 r32.2 x1 x2 r32.1))))) := fun J => by kernel_rfl
  exact (h jn).trans (by
    simp only [jn_eq, i22_j2_eq m]
    rfl)
theorem i22_j0_eq (m : Nat) (x0 : List Dt) (x1 x2 : Dt) (x3 : List Dt) : e22 jn m [1, 1, 1, 1, 1] [] (s22_0 x0 x1 x2 x3) = i22_j0 m (i22 m) x0 x1 x2 x3 := by
  have h : ∀ J, e22 J m [1, 1, 1, 1, 1] [] (s22_0 x0 x1 x2 x3) =
    (bif (Dt.B x1 1) then
   ((value_Compare m x2 (Dt.fld x1 2)).bind fun r4 =>
   ((i15 m (decide (r4 < 0)) 3 [] x0 x3).bind fun r5 =>
   (J 0 6 0 (s22_1 r5.2 x1 x2 r5.1) (e22 J m [1, 1, 1, 1, 1, 1] [] (s22_1 r5.2 x1 x2 r5.1)))))
    else
   ((i15 m false 3 [] x0 x3).bind fun r33 =>
   (J 0 6 0 (s22_1 r33.2 x1 x2 r33.1) (e22 J m [1, 1, 1, 1, 1, 1] [] (s22_1 r33.2 x1 x2 r33.1))))) := fun J => by kernel_rfl
  exact (h jn).trans (by
    simp only [jn_eq, i22_j1_eq m]
    rfl)
theorem i22_eq (m : Nat) (a0 a1 : Dt) (a2 a3 : List Dt) : e22 jn m [] [] ⟨[(.row 0), (.dat 30 a0), (.dat 25 a1), (.dat 26 (.lst a2))], [(.row 38 a3)], 1⟩ = i22 (m + 1) a0 a1 a2 a3 := by
  have h : ∀ J, e22 J m [] [] ⟨[(.row 0), (.dat 30 a0), (.dat 25 a1), (.dat 26 (.lst a2))], [(.row 38 a3)], 1⟩ =
    ((schema_hasKind m (Dt.I a0 0) (Dt.I a1 0)).bind fun r0 =>
   ((i15 m (Bool.not r0) 1 [] a3 a2).bind fun r1 =>
   (bif (decide (0 < (List.length (Dt.L a0 5) : Int))) then
   ((i11 m (Dt.L a0 5) a1).bind fun r2 =>
   ((i15 m (Bool.not r2) 2 [] r1.2 r1.1).bind fun r3 =>
   (J 0 5 0 (s22_0 r3.2 a0 a1 r3.1) (e22 J m [1, 1, 1, 1, 1] [] (s22_0 r3.2 a0 a1 r3.1)))))
   else
   ((i15 m false 2 [] r1.2 r1.1).bind fun r34 =>
   (J 0 5 0 (s22_0 r34.2 a0 a1 r34.1) (e22 J m [1, 1, 1, 1, 1] [] (s22_0 r34.2 a0 a1 r34.1))))))) := fun J => by kernel_rfl
  refine (h jn).trans ?_
  simp only [jn_eq, i22_j0_eq m]
  rfl
end Go.Proofs.YtfneddmmeadacaaDoor
