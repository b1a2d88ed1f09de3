/- Generated: each function's run in the abstract machine is its shallow function. -/
import Derived.Test.YtfneddmmeadacaaDoorCt
import Derived.Test.YtfneddmmeadacaaDoorAmEnv
import Derived.KernelRfl
set_option linter.unusedVariables false
set_option linter.unusedSimpArgs false
namespace Go.Proofs.YtfneddmmeadacaaDoor
open Go.Am
set_option maxRecDepth 100000
noncomputable def d1 (q : Res) : Option Int := match q with
  | (.dat T0 x0, []) => bif Nat.beq T0 3 then some x0.toInt else none
  | _ => none
theorem d1_sim {b : Res} {r : Int} (h : d1 b = some r) : Sim Tryd.prog b ((.dat 3 (.int r)), []) := by
  unfold d1 at h
  split at h
  · obtain ⟨hc, h2⟩ := bif_some h
    cases h2
    have e0 := beq_eq hc
    subst e0
    exact Sim.of (.of (.dat (.int Tryd.underlying3)) rfl rfl) .nil
  · cases h
noncomputable def e1 (J : Nat → Nat → Nat → St → Option Int → Option Int) (m : Nat) (p ms : List Nat) (σ : St) := evAt Tryd.prog env (ct m) J (m + 1) 7 56 Tryd.f7 d1 p ms σ
noncomputable def l1 (J : Nat → Nat → Nat → St → Option Int → Option Int) (m : Nat) (p ms : List Nat) (M : Nat) (σ : St) := loopAt Tryd.prog env (ct m) J (m + 1) 7 56 Tryd.f7 d1 p ms M σ
noncomputable def s1_3 (x0 x1 x2 : Int) (x3 : Dt) : St := ⟨tsOf [(1, (.dat 3 (.int x0))), (2, (.ptr 0 [] 0)), (5, (.dat 3 (.int x1))), (6, (.dat 3 (.int x2)))], [(.box 30 (.dat 30 x3))], 0⟩
noncomputable def s1_2 (x0 x1 x2 : Int) (x3 : Dt) : St := ⟨tsOf [(1, (.dat 3 (.int x0))), (2, (.ptr 0 [] 0)), (5, (.dat 3 (.int x1))), (6, (.dat 3 (.int x2)))], [(.box 30 (.dat 30 x3))], 0⟩
noncomputable def s1_8 (x0 x1 x2 : Int) (x3 : Dt) : St := ⟨tsOf [(1, (.dat 3 (.int x0))), (2, (.ptr 0 [] 0)), (5, (.dat 3 (.int x1))), (7, (.dat 3 (.int x2)))], [(.box 30 (.dat 30 x3))], 0⟩
noncomputable def s1_7 (x0 x1 x2 : Int) (x3 : Dt) : St := ⟨tsOf [(1, (.dat 3 (.int x0))), (2, (.ptr 0 [] 0)), (5, (.dat 3 (.int x1))), (7, (.dat 3 (.int x2)))], [(.box 30 (.dat 30 x3))], 0⟩
noncomputable def s1_9 (x0 : Int) : St := ⟨tsOf [(5, (.dat 3 (.int x0)))], [], 0⟩
noncomputable def s1_6 (x0 x1 x2 : Int) (x3 : Dt) : St := ⟨tsOf [(1, (.dat 3 (.int x0))), (2, (.ptr 0 [] 0)), (5, (.dat 3 (.int x1))), (7, (.dat 3 (.int x2)))], [(.box 30 (.dat 30 x3))], 0⟩
noncomputable def s1_5 (x0 x1 x2 : Int) (x3 : Dt) : St := ⟨tsOf [(1, (.dat 3 (.int x0))), (2, (.ptr 0 [] 0)), (5, (.dat 3 (.int x1))), (7, (.dat 3 (.int x2)))], [(.box 30 (.dat 30 x3))], 0⟩
noncomputable def s1_4 (x0 x1 : Int) (x2 : Dt) : St := ⟨tsOf [(1, (.dat 3 (.int x0))), (2, (.ptr 0 [] 0)), (5, (.dat 3 (.int x1)))], [(.box 30 (.dat 30 x2))], 0⟩
noncomputable def s1_1 (x0 x1 x2 : Int) (x3 : Dt) : St := ⟨tsOf [(1, (.dat 3 (.int x0))), (2, (.ptr 0 [] 0)), (5, (.dat 3 (.int x1))), (6, (.dat 3 (.int x2)))], [(.box 30 (.dat 30 x3))], 0⟩
noncomputable def s1_0 (x0 x1 x2 : Int) (x3 : Dt) : St := ⟨tsOf [(1, (.dat 3 (.int x0))), (2, (.ptr 0 [] 0)), (5, (.dat 3 (.int x1))), (6, (.dat 3 (.int x2)))], [(.box 30 (.dat 30 x3))], 0⟩
theorem ref14_Count_j3_eq (m : Nat) (M1 : Nat) (rec1 : Int → Int → Int → Dt → Option Int) (h1 : ∀ (x0 x1 x2 : Int) (x3 : Dt), l1 jn m [1, 1, 0, 1, 0] [] M1 (s1_1 x0 x1 x2 x3) = rec1 x0 x1 x2 x3) (x0 x1 x2 : Int) (x3 : Dt) : e1 jn m [1, 1, 0, 1, 0, 0, 1, 1] [M1] (s1_3 x0 x1 x2 x3) = ref14_Count_j3 m (ref14_Count m) rec1 x0 x1 x2 x3 := by
  have h : ∀ J, e1 J m [1, 1, 0, 1, 0, 0, 1, 1] [M1] (s1_3 x0 x1 x2 x3) =
    (J 1 3 M1 (s1_1 x0 x1 (IntKind.wrap .i64 (x2 + 1)) x3) (l1 J m [1, 1, 0, 1, 0] [] M1 (s1_1 x0 x1 (IntKind.wrap .i64 (x2 + 1)) x3))) := fun J => by kernel_rfl
  exact (h jn).trans (by
    simp only [jn_eq, h1]
    rfl)
theorem ref14_Count_j2_eq (m : Nat) (M1 : Nat) (rec1 : Int → Int → Int → Dt → Option Int) (h1 : ∀ (x0 x1 x2 : Int) (x3 : Dt), l1 jn m [1, 1, 0, 1, 0] [] M1 (s1_1 x0 x1 x2 x3) = rec1 x0 x1 x2 x3) (x0 x1 x2 : Int) (x3 : Dt) : e1 jn m [1, 1, 0, 1, 0, 0, 1] [M1] (s1_2 x0 x1 x2 x3) = ref14_Count_j2 m (ref14_Count m) rec1 x0 x1 x2 x3 := by
  have h : ∀ J, e1 J m [1, 1, 0, 1, 0, 0, 1] [M1] (s1_2 x0 x1 x2 x3) =
    ((idx (Dt.L x3 9) x2).bind fun v0 =>
   ((ref14_Count m (Dt.fld v0 1) (IntKind.wrap .i64 (x0 - x1))).bind fun r1 =>
   (J 0 4 0 (s1_3 x0 (IntKind.wrap .i64 (x1 + r1)) x2 x3) (e1 J m [1, 1, 0, 1, 0, 0, 1, 1] [M1] (s1_3 x0 (IntKind.wrap .i64 (x1 + r1)) x2 x3))))) := fun J => by kernel_rfl
  exact (h jn).trans (by
    simp only [jn_eq, ref14_Count_j3_eq m M1 rec1 h1]
    rfl)
theorem ref14_Count_j8_eq (m : Nat) (M6 : Nat) (rec6 : Int → Int → Int → Dt → Option Int) (h6 : ∀ (x0 x1 x2 : Int) (x3 : Dt), l1 jn m [1, 1, 1, 0, 1, 0] [] M6 (s1_6 x0 x1 x2 x3) = rec6 x0 x1 x2 x3) (x0 x1 x2 : Int) (x3 : Dt) : e1 jn m [1, 1, 1, 0, 1, 0, 0, 1, 1] [M6] (s1_8 x0 x1 x2 x3) = ref14_Count_j8 m (ref14_Count m) rec6 x0 x1 x2 x3 := by
  have h : ∀ J, e1 J m [1, 1, 1, 0, 1, 0, 0, 1, 1] [M6] (s1_8 x0 x1 x2 x3) =
    (J 1 7 M6 (s1_6 x0 x1 (IntKind.wrap .i64 (x2 + 1)) x3) (l1 J m [1, 1, 1, 0, 1, 0] [] M6 (s1_6 x0 x1 (IntKind.wrap .i64 (x2 + 1)) x3))) := fun J => by kernel_rfl
  exact (h jn).trans (by
    simp only [jn_eq, h6]
    rfl)
theorem ref14_Count_j7_eq (m : Nat) (M6 : Nat) (rec6 : Int → Int → Int → Dt → Option Int) (h6 : ∀ (x0 x1 x2 : Int) (x3 : Dt), l1 jn m [1, 1, 1, 0, 1, 0] [] M6 (s1_6 x0 x1 x2 x3) = rec6 x0 x1 x2 x3) (x0 x1 x2 : Int) (x3 : Dt) : e1 jn m [1, 1, 1, 0, 1, 0, 0, 1] [M6] (s1_7 x0 x1 x2 x3) = ref14_Count_j7 m (ref14_Count m) rec6 x0 x1 x2 x3 := by
  have h : ∀ J, e1 J m [1, 1, 1, 0, 1, 0, 0, 1] [M6] (s1_7 x0 x1 x2 x3) =
    ((idx (Dt.L x3 11) x2).bind fun v2 =>
   ((ref14_Count m v2 (IntKind.wrap .i64 (x0 - x1))).bind fun r3 =>
   (J 0 8 0 (s1_8 x0 (IntKind.wrap .i64 (x1 + r3)) x2 x3) (e1 J m [1, 1, 1, 0, 1, 0, 0, 1, 1] [M6] (s1_8 x0 (IntKind.wrap .i64 (x1 + r3)) x2 x3))))) := fun J => by kernel_rfl
  exact (h jn).trans (by
    simp only [jn_eq, ref14_Count_j8_eq m M6 rec6 h6]
    rfl)
theorem ref14_Count_j9_eq (m : Nat) (x0 : Int) : e1 jn m [1, 1, 1, 1] [] (s1_9 x0) = ref14_Count_j9 m (ref14_Count m) x0 := by
  have h : ∀ J, e1 J m [1, 1, 1, 1] [] (s1_9 x0) =
    some x0 := fun J => by kernel_rfl
  exact (h jn).trans (rfl)
theorem ref14_Count_l6_eq (m : Nat) : ∀ (M6 : Nat) (x0 x1 x2 : Int) (x3 : Dt), l1 jn m [1, 1, 1, 0, 1, 0] [] M6 (s1_6 x0 x1 x2 x3) = ref14_Count_l6 m (ref14_Count m) M6 x0 x1 x2 x3
  | 0, _, _, _, _ => rfl
  | M6 + 1, x0, x1, x2, x3 => by
    have h : ∀ J, l1 J m [1, 1, 1, 0, 1, 0] [] (M6 + 1) (s1_6 x0 x1 x2 x3) =
    (bif (decide (x2 < (List.length (Dt.L x3 11) : Int))) then
   (bif (decide (x1 < x0)) then
   (J 0 9 0 (s1_7 x0 x1 x2 x3) (e1 J m [1, 1, 1, 0, 1, 0, 0, 1] [M6] (s1_7 x0 x1 x2 x3)))
   else
   (J 0 10 0 (s1_9 x1) (e1 J m [1, 1, 1, 1] [] (s1_9 x1))))
    else
   (J 0 10 0 (s1_9 x1) (e1 J m [1, 1, 1, 1] [] (s1_9 x1)))) := fun J => by kernel_rfl
    refine (h jn).trans ?_
    simp only [jn_eq, ref14_Count_j7_eq m M6 (ref14_Count_l6 m (ref14_Count m) M6) (fun x0 x1 x2 x3 => ref14_Count_l6_eq m M6 x0 x1 x2 x3), ref14_Count_j9_eq m]
    rfl
theorem ref14_Count_j5_eq (m : Nat) (x0 x1 x2 : Int) (x3 : Dt) : e1 jn m [1, 1, 1, 0, 1] [] (s1_5 x0 x1 x2 x3) = ref14_Count_j5 m (ref14_Count m) x0 x1 x2 x3 := by
  have h : ∀ J, e1 J m [1, 1, 1, 0, 1] [] (s1_5 x0 x1 x2 x3) =
    (J 1 7 (Nat.succ m) (s1_6 x0 x1 x2 x3) (l1 J m [1, 1, 1, 0, 1, 0] [] (Nat.succ m) (s1_6 x0 x1 x2 x3))) := fun J => by kernel_rfl
  exact (h jn).trans (by
    simp only [jn_eq, ref14_Count_l6_eq m]
    rfl)
theorem ref14_Count_j4_eq (m : Nat) (x0 x1 : Int) (x2 : Dt) : e1 jn m [1, 1, 1] [] (s1_4 x0 x1 x2) = ref14_Count_j4 m (ref14_Count m) x0 x1 x2 := by
  have h : ∀ J, e1 J m [1, 1, 1] [] (s1_4 x0 x1 x2) =
    (J 0 7 0 (s1_5 x0 x1 0 x2) (e1 J m [1, 1, 1, 0, 1] [] (s1_5 x0 x1 0 x2))) := fun J => by kernel_rfl
  exact (h jn).trans (by
    simp only [jn_eq, ref14_Count_j5_eq m]
    rfl)
theorem ref14_Count_l1_eq (m : Nat) : ∀ (M1 : Nat) (x0 x1 x2 : Int) (x3 : Dt), l1 jn m [1, 1, 0, 1, 0] [] M1 (s1_1 x0 x1 x2 x3) = ref14_Count_l1 m (ref14_Count m) M1 x0 x1 x2 x3
  | 0, _, _, _, _ => rfl
  | M1 + 1, x0, x1, x2, x3 => by
    have h : ∀ J, l1 J m [1, 1, 0, 1, 0] [] (M1 + 1) (s1_1 x0 x1 x2 x3) =
    (bif (decide (x2 < (List.length (Dt.L x3 9) : Int))) then
   (bif (decide (x1 < x0)) then
   (J 0 5 0 (s1_2 x0 x1 x2 x3) (e1 J m [1, 1, 0, 1, 0, 0, 1] [M1] (s1_2 x0 x1 x2 x3)))
   else
   (J 0 6 0 (s1_4 x0 x1 x3) (e1 J m [1, 1, 1] [] (s1_4 x0 x1 x3))))
    else
   (J 0 6 0 (s1_4 x0 x1 x3) (e1 J m [1, 1, 1] [] (s1_4 x0 x1 x3)))) := fun J => by kernel_rfl
    refine (h jn).trans ?_
    simp only [jn_eq, ref14_Count_j2_eq m M1 (ref14_Count_l1 m (ref14_Count m) M1) (fun x0 x1 x2 x3 => ref14_Count_l1_eq m M1 x0 x1 x2 x3), ref14_Count_j4_eq m]
    rfl
theorem ref14_Count_j0_eq (m : Nat) (x0 x1 x2 : Int) (x3 : Dt) : e1 jn m [1, 1, 0, 1] [] (s1_0 x0 x1 x2 x3) = ref14_Count_j0 m (ref14_Count m) x0 x1 x2 x3 := by
  have h : ∀ J, e1 J m [1, 1, 0, 1] [] (s1_0 x0 x1 x2 x3) =
    (J 1 3 (Nat.succ m) (s1_1 x0 x1 x2 x3) (l1 J m [1, 1, 0, 1, 0] [] (Nat.succ m) (s1_1 x0 x1 x2 x3))) := fun J => by kernel_rfl
  exact (h jn).trans (by
    simp only [jn_eq, ref14_Count_l1_eq m]
    rfl)
theorem ref14_Count_eq (m : Nat) (a0 : Dt) (a1 : Int) : e1 jn m [] [] ⟨[(.dat 30 a0), (.dat 3 (.int a1))], [], 0⟩ = ref14_Count (m + 1) a0 a1 := by
  have h : ∀ J, e1 J m [] [] ⟨[(.dat 30 a0), (.dat 3 (.int a1))], [], 0⟩ =
    (J 0 3 0 (s1_0 a1 1 0 a0) (e1 J m [1, 1, 0, 1] [] (s1_0 a1 1 0 a0))) := fun J => by kernel_rfl
  refine (h jn).trans ?_
  simp only [jn_eq, ref14_Count_j0_eq m]
  rfl
noncomputable def d8 (q : Res) : Option Bool := match q with
  | (.dat T0 x0, []) => bif Nat.beq T0 4 then some x0.toBool else none
  | _ => none
theorem d8_sim {b : Res} {r : Bool} (h : d8 b = some r) : Sim Tryd.prog b ((.dat 4 (.bool r)), []) := by
  unfold d8 at h
  split at h
  · obtain ⟨hc, h2⟩ := bif_some h
    cases h2
    have e0 := beq_eq hc
    subst e0
    exact Sim.of (.of (.dat (.bool Tryd.underlying4)) rfl rfl) .nil
  · cases h
noncomputable def e8 (J : Nat → Nat → Nat → St → Option Bool → Option Bool) (m : Nat) (p ms : List Nat) (σ : St) := evAt Tryd.prog env (ct m) J (m + 1) 56 39 Tryd.f56 d8 p ms σ
noncomputable def l8 (J : Nat → Nat → Nat → St → Option Bool → Option Bool) (m : Nat) (p ms : List Nat) (M : Nat) (σ : St) := loopAt Tryd.prog env (ct m) J (m + 1) 56 39 Tryd.f56 d8 p ms M σ
noncomputable def s8_6 (x0 : ByteArray) (x1 x2 : Int) : St := ⟨tsOf [(0, (.dat 9 (.str x0))), (18, (.dat 3 (.int x1))), (19, (.dat 3 (.int x2)))], [], 0⟩
noncomputable def s8_5 (x0 : ByteArray) (x1 x2 : Int) (x3 : Bool) : St := ⟨tsOf [(0, (.dat 9 (.str x0))), (18, (.dat 3 (.int x1))), (19, (.dat 3 (.int x2))), (37, (.dat 4 (.bool x3)))], [], 0⟩
noncomputable def s8_4 (x0 : ByteArray) (x1 x2 : Int) : St := ⟨tsOf [(0, (.dat 9 (.str x0))), (18, (.dat 3 (.int x1))), (19, (.dat 3 (.int x2)))], [], 0⟩
noncomputable def s8_7 : St := ⟨tsOf [], [], 0⟩
noncomputable def s8_3 (x0 : ByteArray) (x1 x2 : Int) : St := ⟨tsOf [(0, (.dat 9 (.str x0))), (18, (.dat 3 (.int x1))), (19, (.dat 3 (.int x2)))], [], 0⟩
noncomputable def s8_2 (x0 : ByteArray) (x1 x2 : Int) : St := ⟨tsOf [(0, (.dat 9 (.str x0))), (18, (.dat 3 (.int x1))), (19, (.dat 3 (.int x2)))], [], 0⟩
noncomputable def s8_1 (x0 : ByteArray) : St := ⟨tsOf [(0, (.dat 9 (.str x0)))], [], 0⟩
noncomputable def s8_0 (x0 : ByteArray) (x1 : Bool) : St := ⟨tsOf [(0, (.dat 9 (.str x0))), (16, (.dat 4 (.bool x1)))], [], 0⟩
theorem schema_isName_j6_eq (m : Nat) (M3 : Nat) (rec3 : ByteArray → Int → Int → Option Bool) (h3 : ∀ (x0 : ByteArray) (x1 x2 : Int), l8 jn m [1, 1, 0, 1, 0] [] M3 (s8_3 x0 x1 x2) = rec3 x0 x1 x2) (x0 : ByteArray) (x1 x2 : Int) : e8 jn m [1, 1, 0, 1, 0, 0, 1, 1, 1] [M3] (s8_6 x0 x1 x2) = schema_isName_j6 m rec3 x0 x1 x2 := by
  have h : ∀ J, e8 J m [1, 1, 0, 1, 0, 0, 1, 1, 1] [M3] (s8_6 x0 x1 x2) =
    (J 1 4 M3 (s8_3 x0 x1 (IntKind.wrap .i64 (x2 + 1))) (l8 J m [1, 1, 0, 1, 0] [] M3 (s8_3 x0 x1 (IntKind.wrap .i64 (x2 + 1))))) := fun J => by kernel_rfl
  exact (h jn).trans (by
    simp only [jn_eq, h3]
    rfl)
theorem schema_isName_j5_eq (m : Nat) (M3 : Nat) (rec3 : ByteArray → Int → Int → Option Bool) (h3 : ∀ (x0 : ByteArray) (x1 x2 : Int), l8 jn m [1, 1, 0, 1, 0] [] M3 (s8_3 x0 x1 x2) = rec3 x0 x1 x2) (x0 : ByteArray) (x1 x2 : Int) (x3 : Bool) : e8 jn m [1, 1, 0, 1, 0, 0, 1, 1, 0, 0, 1, 1] [M3] (s8_5 x0 x1 x2 x3) = schema_isName_j5 m rec3 x0 x1 x2 x3 := by
  have h : ∀ J, e8 J m [1, 1, 0, 1, 0, 0, 1, 1, 0, 0, 1, 1] [M3] (s8_5 x0 x1 x2 x3) =
    (bif x3 then
   some false
    else
   (J 0 8 0 (s8_6 x0 x1 x2) (e8 J m [1, 1, 0, 1, 0, 0, 1, 1, 1] [M3] (s8_6 x0 x1 x2)))) := fun J => by kernel_rfl
  exact (h jn).trans (by
    simp only [jn_eq, schema_isName_j6_eq m M3 rec3 h3]
    rfl)
theorem schema_isName_j4_eq (m : Nat) (M3 : Nat) (rec3 : ByteArray → Int → Int → Option Bool) (h3 : ∀ (x0 : ByteArray) (x1 x2 : Int), l8 jn m [1, 1, 0, 1, 0] [] M3 (s8_3 x0 x1 x2) = rec3 x0 x1 x2) (x0 : ByteArray) (x1 x2 : Int) : e8 jn m [1, 1, 0, 1, 0, 0, 1, 1] [M3] (s8_4 x0 x1 x2) = schema_isName_j4 m rec3 x0 x1 x2 := by
  have h : ∀ J, e8 J m [1, 1, 0, 1, 0, 0, 1, 1] [M3] (s8_4 x0 x1 x2) =
    ((idxS x0 x2).bind fun v0 =>
   (bif (decide (v0 < 33)) then
   (J 0 7 0 (s8_5 x0 x1 x2 true) (e8 J m [1, 1, 0, 1, 0, 0, 1, 1, 0, 0, 1, 1] [M3] (s8_5 x0 x1 x2 true)))
   else
   ((idxS x0 x2).bind fun v1 =>
   (bif (decide (126 < v1)) then
   (J 0 7 0 (s8_5 x0 x1 x2 true) (e8 J m [1, 1, 0, 1, 0, 0, 1, 1, 0, 0, 1, 1] [M3] (s8_5 x0 x1 x2 true)))
   else
   ((idxS x0 x2).bind fun v2 =>
   (J 0 7 0 (s8_5 x0 x1 x2 (v2 == 46)) (e8 J m [1, 1, 0, 1, 0, 0, 1, 1, 0, 0, 1, 1] [M3] (s8_5 x0 x1 x2 (v2 == 46))))))))) := fun J => by kernel_rfl
  exact (h jn).trans (by
    simp only [jn_eq, schema_isName_j5_eq m M3 rec3 h3]
    rfl)
theorem schema_isName_j7_eq (m : Nat) : e8 jn m [1, 1, 1] [] s8_7 = schema_isName_j7 m := by
  have h : ∀ J, e8 J m [1, 1, 1] [] s8_7 =
    some true := fun J => by kernel_rfl
  exact (h jn).trans (rfl)
theorem schema_isName_l3_eq (m : Nat) : ∀ (M3 : Nat) (x0 : ByteArray) (x1 x2 : Int), l8 jn m [1, 1, 0, 1, 0] [] M3 (s8_3 x0 x1 x2) = schema_isName_l3 m M3 x0 x1 x2
  | 0, _, _, _ => rfl
  | M3 + 1, x0, x1, x2 => by
    have h : ∀ J, l8 J m [1, 1, 0, 1, 0] [] (M3 + 1) (s8_3 x0 x1 x2) =
    (bif (decide (x2 < x1)) then
   (J 0 5 0 (s8_4 x0 x1 x2) (e8 J m [1, 1, 0, 1, 0, 0, 1, 1] [M3] (s8_4 x0 x1 x2)))
    else
   (J 0 9 0 s8_7 (e8 J m [1, 1, 1] [] s8_7))) := fun J => by kernel_rfl
    refine (h jn).trans ?_
    simp only [jn_eq, schema_isName_j4_eq m M3 (schema_isName_l3 m M3) (fun x0 x1 x2 => schema_isName_l3_eq m M3 x0 x1 x2), schema_isName_j7_eq m]
    rfl
theorem schema_isName_j2_eq (m : Nat) (x0 : ByteArray) (x1 x2 : Int) : e8 jn m [1, 1, 0, 1] [] (s8_2 x0 x1 x2) = schema_isName_j2 m x0 x1 x2 := by
  have h : ∀ J, e8 J m [1, 1, 0, 1] [] (s8_2 x0 x1 x2) =
    (J 1 4 (Nat.succ m) (s8_3 x0 x1 x2) (l8 J m [1, 1, 0, 1, 0] [] (Nat.succ m) (s8_3 x0 x1 x2))) := fun J => by kernel_rfl
  exact (h jn).trans (by
    simp only [jn_eq, schema_isName_l3_eq m]
    rfl)
theorem schema_isName_j1_eq (m : Nat) (x0 : ByteArray) : e8 jn m [1, 1] [] (s8_1 x0) = schema_isName_j1 m x0 := by
  have h : ∀ J, e8 J m [1, 1] [] (s8_1 x0) =
    (J 0 4 0 (s8_2 x0 (ByteArray.size x0 : Int) 0) (e8 J m [1, 1, 0, 1] [] (s8_2 x0 (ByteArray.size x0 : Int) 0))) := fun J => by kernel_rfl
  exact (h jn).trans (by
    simp only [jn_eq, schema_isName_j2_eq m]
    rfl)
theorem schema_isName_j0_eq (m : Nat) (x0 : ByteArray) (x1 : Bool) : e8 jn m [1, 0, 1] [] (s8_0 x0 x1) = schema_isName_j0 m x0 x1 := by
  have h : ∀ J, e8 J m [1, 0, 1] [] (s8_0 x0 x1) =
    (bif x1 then
   some false
    else
   (J 0 3 0 (s8_1 x0) (e8 J m [1, 1] [] (s8_1 x0)))) := fun J => by kernel_rfl
  exact (h jn).trans (by
    simp only [jn_eq, schema_isName_j1_eq m]
    rfl)
theorem schema_isName_eq (m : Nat) (a0 : ByteArray) : e8 jn m [] [] ⟨[(.dat 9 (.str a0))], [], 0⟩ = schema_isName (m + 1) a0 := by
  have h : ∀ J, e8 J m [] [] ⟨[(.dat 9 (.str a0))], [], 0⟩ =
    (bif (decide ((ByteArray.size a0 : Int) < 1)) then
   (J 0 2 0 (s8_0 a0 true) (e8 J m [1, 0, 1] [] (s8_0 a0 true)))
    else
   (bif (decide (32 < (ByteArray.size a0 : Int))) then
   (J 0 2 0 (s8_0 a0 true) (e8 J m [1, 0, 1] [] (s8_0 a0 true)))
   else
   ((idxS a0 0).bind fun v3 =>
   (J 0 2 0 (s8_0 a0 (v3 == 36)) (e8 J m [1, 0, 1] [] (s8_0 a0 (v3 == 36))))))) := fun J => by kernel_rfl
  refine (h jn).trans ?_
  simp only [jn_eq, schema_isName_j0_eq m]
  rfl
noncomputable def d18 (q : Res) : Option Int := match q with
  | (.dat T0 x0, []) => bif Nat.beq T0 3 then some x0.toInt else none
  | _ => none
theorem d18_sim {b : Res} {r : Int} (h : d18 b = some r) : Sim Tryd.prog b ((.dat 3 (.int r)), []) := by
  unfold d18 at h
  split at h
  · obtain ⟨hc, h2⟩ := bif_some h
    cases h2
    have e0 := beq_eq hc
    subst e0
    exact Sim.of (.of (.dat (.int Tryd.underlying3)) rfl rfl) .nil
  · cases h
noncomputable def e18 (J : Nat → Nat → Nat → St → Option Int → Option Int) (m : Nat) (p ms : List Nat) (σ : St) := evAt Tryd.prog env (ct m) J (m + 1) 72 14 Tryd.f72 d18 p ms σ
noncomputable def l18 (J : Nat → Nat → Nat → St → Option Int → Option Int) (m : Nat) (p ms : List Nat) (M : Nat) (σ : St) := loopAt Tryd.prog env (ct m) J (m + 1) 72 14 Tryd.f72 d18 p ms M σ
noncomputable def s18_0 (x0 : Dt) (x1 x2 : Int) : St := ⟨tsOf [(2, (.ptr 0 [] 0)), (3, (.ptr 1 [] 0)), (5, (.ptr 2 [] 0))], [(.box 25 (.dat 25 x0)), (.box 3 (.dat 3 (.int x1))), (.box 3 (.dat 3 (.int x2)))], 0⟩
theorem value_nodes_j0_eq (m : Nat) (x0 : Dt) (x1 x2 : Int) : e18 jn m [1, 1, 1] [] (s18_0 x0 x1 x2) = value_nodes_j0 m (i27 m) x0 x1 x2 := by
  have h : ∀ J, e18 J m [1, 1, 1] [] (s18_0 x0 x1 x2) =
    ((i27 m x0 x2 x1).bind fun r0 =>
   some r0.1) := fun J => by kernel_rfl
  exact (h jn).trans (rfl)
theorem value_nodes_eq (m : Nat) (a0 : Dt) (a1 : Int) : e18 jn m [] [] ⟨[(.dat 25 a0), (.dat 3 (.int a1))], [], 0⟩ = value_nodes (m + 1) a0 a1 := by
  have h : ∀ J, e18 J m [] [] ⟨[(.dat 25 a0), (.dat 3 (.int a1))], [], 0⟩ =
    (bif (1 == a1) then
   some 1
    else
   (J 0 4 0 (s18_0 a0 a1 1) (e18 J m [1, 1, 1] [] (s18_0 a0 a1 1)))) := fun J => by kernel_rfl
  refine (h jn).trans ?_
  simp only [jn_eq, value_nodes_j0_eq m]
  rfl
noncomputable def d27 (q : Res) : Option (Int × Int) := match q with
  | (.tup [], [.box T0 (.dat T1 x1), .box T2 (.dat T3 x3)]) => bif (Nat.beq T0 3 && (Nat.beq T1 3 && (Nat.beq T2 3 && Nat.beq T3 3))) then some (x1.toInt, x3.toInt) else none
  | _ => none
theorem d27_sim {b : Res} {r : Int × Int} (h : d27 b = some r) : Sim Tryd.prog b ((.tup []), [(.box 3 (.dat 3 (.int r.1))), (.box 3 (.dat 3 (.int r.2)))]) := by
  unfold d27 at h
  split at h
  · obtain ⟨hc, h2⟩ := bif_some h
    cases h2
    have e0 := beq_eq (and_l hc)
    have e1 := beq_eq (and_l (and_r hc))
    have e2 := beq_eq (and_l (and_r (and_r hc)))
    have e3 := beq_eq (and_r (and_r (and_r hc)))
    subst e0 e1 e2 e3
    exact Sim.of (.tup .nil) (.cons (.box (.dat (.int Tryd.underlying3))) (.cons (.box (.dat (.int Tryd.underlying3))) .nil))
  · cases h
noncomputable def e27 (J : Nat → Nat → Nat → St → Option (Int × Int) → Option (Int × Int)) (m : Nat) (p ms : List Nat) (σ : St) := evAt Tryd.prog env (ct m) J (m + 1) 85 39 Tryd.f85 d27 p ms σ
noncomputable def l27 (J : Nat → Nat → Nat → St → Option (Int × Int) → Option (Int × Int)) (m : Nat) (p ms : List Nat) (M : Nat) (σ : St) := loopAt Tryd.prog env (ct m) J (m + 1) 85 39 Tryd.f85 d27 p ms M σ
noncomputable def s27_3 (x0 : List Dt) (x1 x2 x3 x4 : Int) : St := ⟨tsOf [(1, (.fn 86 [(.ptr 0 [] 0), (.ptr 1 [] 0)])), (13, (.dat 22 (.lst x0))), (14, (.dat 3 (.int x1))), (15, (.dat 3 (.int x2)))], [(.box 3 (.dat 3 (.int x3))), (.box 3 (.dat 3 (.int x4)))], 2⟩
noncomputable def s27_2 (x0 : List Dt) (x1 x2 x3 x4 : Int) : St := ⟨tsOf [(1, (.fn 86 [(.ptr 0 [] 0), (.ptr 1 [] 0)])), (13, (.dat 22 (.lst x0))), (14, (.dat 3 (.int x1))), (15, (.dat 3 (.int x2)))], [(.box 3 (.dat 3 (.int x3))), (.box 3 (.dat 3 (.int x4)))], 2⟩
noncomputable def s27_1 (x0 : List Dt) (x1 x2 x3 x4 : Int) : St := ⟨tsOf [(1, (.fn 86 [(.ptr 0 [] 0), (.ptr 1 [] 0)])), (13, (.dat 22 (.lst x0))), (14, (.dat 3 (.int x1))), (15, (.dat 3 (.int x2)))], [(.box 3 (.dat 3 (.int x3))), (.box 3 (.dat 3 (.int x4)))], 2⟩
noncomputable def s27_0 (x0 : List Dt) (x1 x2 x3 x4 : Int) : St := ⟨tsOf [(1, (.fn 86 [(.ptr 0 [] 0), (.ptr 1 [] 0)])), (13, (.dat 22 (.lst x0))), (14, (.dat 3 (.int x1))), (15, (.dat 3 (.int x2)))], [(.box 3 (.dat 3 (.int x3))), (.box 3 (.dat 3 (.int x4)))], 2⟩
noncomputable def s27_7 (x0 : List Dt) (x1 x2 x3 x4 : Int) : St := ⟨tsOf [(1, (.fn 86 [(.ptr 0 [] 0), (.ptr 1 [] 0)])), (27, (.dat 23 (.lst x0))), (28, (.dat 3 (.int x1))), (29, (.dat 3 (.int x2)))], [(.box 3 (.dat 3 (.int x3))), (.box 3 (.dat 3 (.int x4)))], 2⟩
noncomputable def s27_6 (x0 : List Dt) (x1 x2 x3 x4 : Int) : St := ⟨tsOf [(1, (.fn 86 [(.ptr 0 [] 0), (.ptr 1 [] 0)])), (27, (.dat 23 (.lst x0))), (28, (.dat 3 (.int x1))), (29, (.dat 3 (.int x2)))], [(.box 3 (.dat 3 (.int x3))), (.box 3 (.dat 3 (.int x4)))], 2⟩
noncomputable def s27_5 (x0 : List Dt) (x1 x2 x3 x4 : Int) : St := ⟨tsOf [(1, (.fn 86 [(.ptr 0 [] 0), (.ptr 1 [] 0)])), (27, (.dat 23 (.lst x0))), (28, (.dat 3 (.int x1))), (29, (.dat 3 (.int x2)))], [(.box 3 (.dat 3 (.int x3))), (.box 3 (.dat 3 (.int x4)))], 2⟩
noncomputable def s27_4 (x0 : List Dt) (x1 x2 x3 x4 : Int) : St := ⟨tsOf [(1, (.fn 86 [(.ptr 0 [] 0), (.ptr 1 [] 0)])), (27, (.dat 23 (.lst x0))), (28, (.dat 3 (.int x1))), (29, (.dat 3 (.int x2)))], [(.box 3 (.dat 3 (.int x3))), (.box 3 (.dat 3 (.int x4)))], 2⟩
theorem i27_j3_eq (m : Nat) (M1 : Nat) (rec1 : List Dt → Int → Int → Int → Int → Option (Int × Int)) (h1 : ∀ (x0 : List Dt) (x1 x2 x3 x4 : Int), l27 jn m [1, 1, 0, 1, 0, 1, 0] [] M1 (s27_1 x0 x1 x2 x3 x4) = rec1 x0 x1 x2 x3 x4) (x0 : List Dt) (x1 x2 x3 x4 : Int) : e27 jn m [1, 1, 0, 1, 0, 1, 0, 0, 1, 1, 1] [M1] (s27_3 x0 x1 x2 x3 x4) = i27_j3 m (i28 m) rec1 x0 x1 x2 x3 x4 := by
  have h : ∀ J, e27 J m [1, 1, 0, 1, 0, 1, 0, 0, 1, 1, 1] [M1] (s27_3 x0 x1 x2 x3 x4) =
    (J 1 4 M1 (s27_1 x0 x1 (IntKind.wrap .i64 (x2 + 1)) x3 x4) (l27 J m [1, 1, 0, 1, 0, 1, 0] [] M1 (s27_1 x0 x1 (IntKind.wrap .i64 (x2 + 1)) x3 x4))) := fun J => by kernel_rfl
  exact (h jn).trans (by
    simp only [jn_eq, h1]
    rfl)
theorem i27_j2_eq (m : Nat) (M1 : Nat) (rec1 : List Dt → Int → Int → Int → Int → Option (Int × Int)) (h1 : ∀ (x0 : List Dt) (x1 x2 x3 x4 : Int), l27 jn m [1, 1, 0, 1, 0, 1, 0] [] M1 (s27_1 x0 x1 x2 x3 x4) = rec1 x0 x1 x2 x3 x4) (x0 : List Dt) (x1 x2 x3 x4 : Int) : e27 jn m [1, 1, 0, 1, 0, 1, 0, 0, 1, 1] [M1] (s27_2 x0 x1 x2 x3 x4) = i27_j2 m (i28 m) rec1 x0 x1 x2 x3 x4 := by
  have h : ∀ J, e27 J m [1, 1, 0, 1, 0, 1, 0, 0, 1, 1] [M1] (s27_2 x0 x1 x2 x3 x4) =
    ((idx x0 x2).bind fun v0 =>
   ((i28 m v0 x3 x4).bind fun r1 =>
   (bif (Bool.not r1.1) then
   some (r1.2.1, r1.2.2)
   else
   (J 0 7 0 (s27_3 x0 x1 x2 r1.2.1 r1.2.2) (e27 J m [1, 1, 0, 1, 0, 1, 0, 0, 1, 1, 1] [M1] (s27_3 x0 x1 x2 r1.2.1 r1.2.2)))))) := fun J => by kernel_rfl
  exact (h jn).trans (by
    simp only [jn_eq, i27_j3_eq m M1 rec1 h1]
    rfl)
theorem i27_l1_eq (m : Nat) : ∀ (M1 : Nat) (x0 : List Dt) (x1 x2 x3 x4 : Int), l27 jn m [1, 1, 0, 1, 0, 1, 0] [] M1 (s27_1 x0 x1 x2 x3 x4) = i27_l1 m (i28 m) M1 x0 x1 x2 x3 x4
  | 0, _, _, _, _, _ => rfl
  | M1 + 1, x0, x1, x2, x3, x4 => by
    have h : ∀ J, l27 J m [1, 1, 0, 1, 0, 1, 0] [] (M1 + 1) (s27_1 x0 x1 x2 x3 x4) =
    (bif (decide (x2 < x1)) then
   (J 0 5 0 (s27_2 x0 x1 x2 x3 x4) (e27 J m [1, 1, 0, 1, 0, 1, 0, 0, 1, 1] [M1] (s27_2 x0 x1 x2 x3 x4)))
    else
   some (x3, x4)) := fun J => by kernel_rfl
    refine (h jn).trans ?_
    simp only [jn_eq, i27_j2_eq m M1 (i27_l1 m (i28 m) M1) (fun x0 x1 x2 x3 x4 => i27_l1_eq m M1 x0 x1 x2 x3 x4)]
    rfl
theorem i27_j0_eq (m : Nat) (x0 : List Dt) (x1 x2 x3 x4 : Int) : e27 jn m [1, 1, 0, 1, 0, 1] [] (s27_0 x0 x1 x2 x3 x4) = i27_j0 m (i28 m) x0 x1 x2 x3 x4 := by
  have h : ∀ J, e27 J m [1, 1, 0, 1, 0, 1] [] (s27_0 x0 x1 x2 x3 x4) =
    (J 1 4 (Nat.succ m) (s27_1 x0 x1 x2 x3 x4) (l27 J m [1, 1, 0, 1, 0, 1, 0] [] (Nat.succ m) (s27_1 x0 x1 x2 x3 x4))) := fun J => by kernel_rfl
  exact (h jn).trans (by
    simp only [jn_eq, i27_l1_eq m]
    rfl)
theorem i27_j7_eq (m : Nat) (M5 : Nat) (rec5 : List Dt → Int → Int → Int → Int → Option (Int × Int)) (h5 : ∀ (x0 : List Dt) (x1 x2 x3 x4 : Int), l27 jn m [1, 1, 0, 1, 1, 1, 0, 1, 0] [] M5 (s27_5 x0 x1 x2 x3 x4) = rec5 x0 x1 x2 x3 x4) (x0 : List Dt) (x1 x2 x3 x4 : Int) : e27 jn m [1, 1, 0, 1, 1, 1, 0, 1, 0, 0, 1, 1, 1] [M5] (s27_7 x0 x1 x2 x3 x4) = i27_j7 m (i28 m) rec5 x0 x1 x2 x3 x4 := by
  have h : ∀ J, e27 J m [1, 1, 0, 1, 1, 1, 0, 1, 0, 0, 1, 1, 1] [M5] (s27_7 x0 x1 x2 x3 x4) =
    (J 1 10 M5 (s27_5 x0 x1 (IntKind.wrap .i64 (x2 + 1)) x3 x4) (l27 J m [1, 1, 0, 1, 1, 1, 0, 1, 0] [] M5 (s27_5 x0 x1 (IntKind.wrap .i64 (x2 + 1)) x3 x4))) := fun J => by kernel_rfl
  exact (h jn).trans (by
    simp only [jn_eq, h5]
    rfl)
theorem i27_j6_eq (m : Nat) (M5 : Nat) (rec5 : List Dt → Int → Int → Int → Int → Option (Int × Int)) (h5 : ∀ (x0 : List Dt) (x1 x2 x3 x4 : Int), l27 jn m [1, 1, 0, 1, 1, 1, 0, 1, 0] [] M5 (s27_5 x0 x1 x2 x3 x4) = rec5 x0 x1 x2 x3 x4) (x0 : List Dt) (x1 x2 x3 x4 : Int) : e27 jn m [1, 1, 0, 1, 1, 1, 0, 1, 0, 0, 1, 1] [M5] (s27_6 x0 x1 x2 x3 x4) = i27_j6 m (i28 m) rec5 x0 x1 x2 x3 x4 := by
  have h : ∀ J, e27 J m [1, 1, 0, 1, 1, 1, 0, 1, 0, 0, 1, 1] [M5] (s27_6 x0 x1 x2 x3 x4) =
    ((idx x0 x2).bind fun v2 =>
   ((i28 m (Dt.fld v2 1) x3 x4).bind fun r3 =>
   (bif (Bool.not r3.1) then
   some (r3.2.1, r3.2.2)
   else
   (J 0 13 0 (s27_7 x0 x1 x2 r3.2.1 r3.2.2) (e27 J m [1, 1, 0, 1, 1, 1, 0, 1, 0, 0, 1, 1, 1] [M5] (s27_7 x0 x1 x2 r3.2.1 r3.2.2)))))) := fun J => by kernel_rfl
  exact (h jn).trans (by
    simp only [jn_eq, i27_j7_eq m M5 rec5 h5]
    rfl)
theorem i27_l5_eq (m : Nat) : ∀ (M5 : Nat) (x0 : List Dt) (x1 x2 x3 x4 : Int), l27 jn m [1, 1, 0, 1, 1, 1, 0, 1, 0] [] M5 (s27_5 x0 x1 x2 x3 x4) = i27_l5 m (i28 m) M5 x0 x1 x2 x3 x4
  | 0, _, _, _, _, _ => rfl
  | M5 + 1, x0, x1, x2, x3, x4 => by
    have h : ∀ J, l27 J m [1, 1, 0, 1, 1, 1, 0, 1, 0] [] (M5 + 1) (s27_5 x0 x1 x2 x3 x4) =
    (bif (decide (x2 < x1)) then
   (J 0 11 0 (s27_6 x0 x1 x2 x3 x4) (e27 J m [1, 1, 0, 1, 1, 1, 0, 1, 0, 0, 1, 1] [M5] (s27_6 x0 x1 x2 x3 x4)))
    else
   some (x3, x4)) := fun J => by kernel_rfl
    refine (h jn).trans ?_
    simp only [jn_eq, i27_j6_eq m M5 (i27_l5 m (i28 m) M5) (fun x0 x1 x2 x3 x4 => i27_l5_eq m M5 x0 x1 x2 x3 x4)]
    rfl
theorem i27_j4_eq (m : Nat) (x0 : List Dt) (x1 x2 x3 x4 : Int) : e27 jn m [1, 1, 0, 1, 1, 1, 0, 1] [] (s27_4 x0 x1 x2 x3 x4) = i27_j4 m (i28 m) x0 x1 x2 x3 x4 := by
  have h : ∀ J, e27 J m [1, 1, 0, 1, 1, 1, 0, 1] [] (s27_4 x0 x1 x2 x3 x4) =
    (J 1 10 (Nat.succ m) (s27_5 x0 x1 x2 x3 x4) (l27 J m [1, 1, 0, 1, 1, 1, 0, 1, 0] [] (Nat.succ m) (s27_5 x0 x1 x2 x3 x4))) := fun J => by kernel_rfl
  exact (h jn).trans (by
    simp only [jn_eq, i27_l5_eq m]
    rfl)
theorem i27_eq (m : Nat) (a0 : Dt) (a1 a2 : Int) : e27 jn m [] [] ⟨[(.dat 25 a0), (.fn 86 [(.ptr 0 [] 0), (.ptr 1 [] 0)])], [(.box 3 (.dat 3 (.int a1))), (.box 3 (.dat 3 (.int a2)))], 2⟩ = i27 (m + 1) a0 a1 a2 := by
  have h : ∀ J, e27 J m [] [] ⟨[(.dat 25 a0), (.fn 86 [(.ptr 0 [] 0), (.ptr 1 [] 0)])], [(.box 3 (.dat 3 (.int a1))), (.box 3 (.dat 3 (.int a2)))], 2⟩ =
    (bif ((Dt.I a0 0) == 6) then
   (J 0 4 0 (s27_0 (Dt.L a0 3) (List.length (Dt.L a0 3) : Int) 0 a1 a2) (e27 J m [1, 1, 0, 1, 0, 1] [] (s27_0 (Dt.L a0 3) (List.length (Dt.L a0 3) : Int) 0 a1 a2)))
    else
   (bif ((Dt.I a0 0) == 5) then
   (J 0 10 0 (s27_4 (Dt.L a0 4) (List.length (Dt.L a0 4) : Int) 0 a1 a2) (e27 J m [1, 1, 0, 1, 1, 1, 0, 1] [] (s27_4 (Dt.L a0 4) (List.length (Dt.L a0 4) : Int) 0 a1 a2)))
   else
   some (a1, a2))) := fun J => by kernel_rfl
  refine (h jn).trans ?_
  simp only [jn_eq, i27_j0_eq m, i27_j4_eq m]
  rfl
noncomputable def d28 (q : Res) : Option (Bool × Int × Int) := match q with
  | (.dat T0 x0, [.box T1 (.dat T2 x2), .box T3 (.dat T4 x4)]) => bif (Nat.beq T0 4 && (Nat.beq T1 3 && (Nat.beq T2 3 && (Nat.beq T3 3 && Nat.beq T4 3)))) then some (x0.toBool, x2.toInt, x4.toInt) else none
  | _ => none
theorem d28_sim {b : Res} {r : Bool × Int × Int} (h : d28 b = some r) : Sim Tryd.prog b ((.dat 4 (.bool r.1)), [(.box 3 (.dat 3 (.int r.2.1))), (.box 3 (.dat 3 (.int r.2.2)))]) := by
  unfold d28 at h
  split at h
  · obtain ⟨hc, h2⟩ := bif_some h
    cases h2
    have e0 := beq_eq (and_l hc)
    have e1 := beq_eq (and_l (and_r hc))
    have e2 := beq_eq (and_l (and_r (and_r hc)))
    have e3 := beq_eq (and_l (and_r (and_r (and_r hc))))
    have e4 := beq_eq (and_r (and_r (and_r (and_r hc))))
    subst e0 e1 e2 e3 e4
    exact Sim.of (.of (.dat (.bool Tryd.underlying4)) rfl rfl) (.cons (.box (.dat (.int Tryd.underlying3))) (.cons (.box (.dat (.int Tryd.underlying3))) .nil))
  · cases h
noncomputable def e28 (J : Nat → Nat → Nat → St → Option (Bool × Int × Int) → Option (Bool × Int × Int)) (m : Nat) (p ms : List Nat) (σ : St) := evAt Tryd.prog env (ct m) J (m + 1) 86 15 Tryd.f86 d28 p ms σ
noncomputable def l28 (J : Nat → Nat → Nat → St → Option (Bool × Int × Int) → Option (Bool × Int × Int)) (m : Nat) (p ms : List Nat) (M : Nat) (σ : St) := loopAt Tryd.prog env (ct m) J (m + 1) 86 15 Tryd.f86 d28 p ms M σ
theorem i28_eq (m : Nat) (a0 : Dt) (a1 a2 : Int) : e28 jn m [] [] ⟨[(.dat 25 a0), (.ptr 0 [] 0), (.ptr 1 [] 0)], [(.box 3 (.dat 3 (.int a1))), (.box 3 (.dat 3 (.int a2)))], 2⟩ = i28 (m + 1) a0 a1 a2 := by
  have h : ∀ J, e28 J m [] [] ⟨[(.dat 25 a0), (.ptr 0 [] 0), (.ptr 1 [] 0)], [(.box 3 (.dat 3 (.int a1))), (.box 3 (.dat 3 (.int a2)))], 2⟩ =
    ((value_nodes m a0 (IntKind.wrap .i64 (a2 - a1))).bind fun r0 =>
   some ((decide ((IntKind.wrap .i64 (a1 + r0)) < a2)), (IntKind.wrap .i64 (a1 + r0)), a2)) := fun J => by kernel_rfl
  refine (h jn).trans ?_
  
  rfl
noncomputable def d12 (q : Res) : Option Int := match q with
  | (.dat T0 x0, []) => bif Nat.beq T0 3 then some x0.toInt else none
  | _ => none
theorem d12_sim {b : Res} {r : Int} (h : d12 b = some r) : Sim Tryd.prog b ((.dat 3 (.int r)), []) := by
  unfold d12 at h
  split at h
  · obtain ⟨hc, h2⟩ := bif_some h
    cases h2
    have e0 := beq_eq hc
    subst e0
    exact Sim.of (.of (.dat (.int Tryd.underlying3)) rfl rfl) .nil
  · cases h
noncomputable def e12 (J : Nat → Nat → Nat → St → Option Int → Option Int) (m : Nat) (p ms : List Nat) (σ : St) := evAt Tryd.prog env (ct m) J (m + 1) 51 5 Tryd.f51 d12 p ms σ
noncomputable def l12 (J : Nat → Nat → Nat → St → Option Int → Option Int) (m : Nat) (p ms : List Nat) (M : Nat) (σ : St) := loopAt Tryd.prog env (ct m) J (m + 1) 51 5 Tryd.f51 d12 p ms M σ
theorem value_Nodes_eq (m : Nat) (a0 : Dt) : e12 jn m [] [] ⟨[(.dat 25 a0)], [], 0⟩ = value_Nodes (m + 1) a0 := by
  have h : ∀ J, e12 J m [] [] ⟨[(.dat 25 a0)], [], 0⟩ =
    ((value_nodes m a0 1025).bind fun r0 =>
   some r0) := fun J => by kernel_rfl
  refine (h jn).trans ?_
  
  rfl
noncomputable def d19 (q : Res) : Option Int := match q with
  | (.dat T0 x0, []) => bif Nat.beq T0 3 then some x0.toInt else none
  | _ => none
theorem d19_sim {b : Res} {r : Int} (h : d19 b = some r) : Sim Tryd.prog b ((.dat 3 (.int r)), []) := by
  unfold d19 at h
  split at h
  · obtain ⟨hc, h2⟩ := bif_some h
    cases h2
    have e0 := beq_eq hc
    subst e0
    exact Sim.of (.of (.dat (.int Tryd.underlying3)) rfl rfl) .nil
  · cases h
noncomputable def e19 (J : Nat → Nat → Nat → St → Option Int → Option Int) (m : Nat) (p ms : List Nat) (σ : St) := evAt Tryd.prog env (ct m) J (m + 1) 73 13 Tryd.f73 d19 p ms σ
noncomputable def l19 (J : Nat → Nat → Nat → St → Option Int → Option Int) (m : Nat) (p ms : List Nat) (M : Nat) (σ : St) := loopAt Tryd.prog env (ct m) J (m + 1) 73 13 Tryd.f73 d19 p ms M σ
noncomputable def s19_0 (x0 : Dt) (x1 : Int) : St := ⟨tsOf [(2, (.ptr 0 [] 0)), (3, (.ptr 1 [] 0))], [(.box 25 (.dat 25 x0)), (.box 3 (.dat 3 (.int x1)))], 0⟩
theorem value_depth_j0_eq (m : Nat) (x0 : Dt) (x1 : Int) : e19 jn m [1, 1] [] (s19_0 x0 x1) = value_depth_j0 m (i29 m) x0 x1 := by
  have h : ∀ J, e19 J m [1, 1] [] (s19_0 x0 x1) =
    ((i29 m x0 0 x1).bind fun r0 =>
   some (IntKind.wrap .i64 (1 + r0.1))) := fun J => by kernel_rfl
  exact (h jn).trans (rfl)
theorem value_depth_eq (m : Nat) (a0 : Dt) (a1 : Int) : e19 jn m [] [] ⟨[(.dat 25 a0), (.dat 3 (.int a1))], [], 0⟩ = value_depth (m + 1) a0 a1 := by
  have h : ∀ J, e19 J m [] [] ⟨[(.dat 25 a0), (.dat 3 (.int a1))], [], 0⟩ =
    (bif (a1 == 1) then
   some 1
    else
   (J 0 3 0 (s19_0 a0 a1) (e19 J m [1, 1] [] (s19_0 a0 a1)))) := fun J => by kernel_rfl
  refine (h jn).trans ?_
  simp only [jn_eq, value_depth_j0_eq m]
  rfl
noncomputable def d29 (q : Res) : Option (Int × Int) := match q with
  | (.tup [], [.box T0 (.dat T1 x1), .box T2 (.dat T3 x3)]) => bif (Nat.beq T0 3 && (Nat.beq T1 3 && (Nat.beq T2 3 && Nat.beq T3 3))) then some (x1.toInt, x3.toInt) else none
  | _ => none
theorem d29_sim {b : Res} {r : Int × Int} (h : d29 b = some r) : Sim Tryd.prog b ((.tup []), [(.box 3 (.dat 3 (.int r.1))), (.box 3 (.dat 3 (.int r.2)))]) := by
  unfold d29 at h
  split at h
  · obtain ⟨hc, h2⟩ := bif_some h
    cases h2
    have e0 := beq_eq (and_l hc)
    have e1 := beq_eq (and_l (and_r hc))
    have e2 := beq_eq (and_l (and_r (and_r hc)))
    have e3 := beq_eq (and_r (and_r (and_r hc)))
    subst e0 e1 e2 e3
    exact Sim.of (.tup .nil) (.cons (.box (.dat (.int Tryd.underlying3))) (.cons (.box (.dat (.int Tryd.underlying3))) .nil))
  · cases h
noncomputable def e29 (J : Nat → Nat → Nat → St → Option (Int × Int) → Option (Int × Int)) (m : Nat) (p ms : List Nat) (σ : St) := evAt Tryd.prog env (ct m) J (m + 1) 85 39 Tryd.f85 d29 p ms σ
noncomputable def l29 (J : Nat → Nat → Nat → St → Option (Int × Int) → Option (Int × Int)) (m : Nat) (p ms : List Nat) (M : Nat) (σ : St) := loopAt Tryd.prog env (ct m) J (m + 1) 85 39 Tryd.f85 d29 p ms M σ
noncomputable def s29_3 (x0 : List Dt) (x1 x2 x3 x4 : Int) : St := ⟨tsOf [(1, (.fn 87 [(.ptr 0 [] 0), (.ptr 1 [] 0)])), (13, (.dat 22 (.lst x0))), (14, (.dat 3 (.int x1))), (15, (.dat 3 (.int x2)))], [(.box 3 (.dat 3 (.int x3))), (.box 3 (.dat 3 (.int x4)))], 2⟩
noncomputable def s29_2 (x0 : List Dt) (x1 x2 x3 x4 : Int) : St := ⟨tsOf [(1, (.fn 87 [(.ptr 0 [] 0), (.ptr 1 [] 0)])), (13, (.dat 22 (.lst x0))), (14, (.dat 3 (.int x1))), (15, (.dat 3 (.int x2)))], [(.box 3 (.dat 3 (.int x3))), (.box 3 (.dat 3 (.int x4)))], 2⟩
noncomputable def s29_1 (x0 : List Dt) (x1 x2 x3 x4 : Int) : St := ⟨tsOf [(1, (.fn 87 [(.ptr 0 [] 0), (.ptr 1 [] 0)])), (13, (.dat 22 (.lst x0))), (14, (.dat 3 (.int x1))), (15, (.dat 3 (.int x2)))], [(.box 3 (.dat 3 (.int x3))), (.box 3 (.dat 3 (.int x4)))], 2⟩
noncomputable def s29_0 (x0 : List Dt) (x1 x2 x3 x4 : Int) : St := ⟨tsOf [(1, (.fn 87 [(.ptr 0 [] 0), (.ptr 1 [] 0)])), (13, (.dat 22 (.lst x0))), (14, (.dat 3 (.int x1))), (15, (.dat 3 (.int x2)))], [(.box 3 (.dat 3 (.int x3))), (.box 3 (.dat 3 (.int x4)))], 2⟩
noncomputable def s29_7 (x0 : List Dt) (x1 x2 x3 x4 : Int) : St := ⟨tsOf [(1, (.fn 87 [(.ptr 0 [] 0), (.ptr 1 [] 0)])), (27, (.dat 23 (.lst x0))), (28, (.dat 3 (.int x1))), (29, (.dat 3 (.int x2)))], [(.box 3 (.dat 3 (.int x3))), (.box 3 (.dat 3 (.int x4)))], 2⟩
noncomputable def s29_6 (x0 : List Dt) (x1 x2 x3 x4 : Int) : St := ⟨tsOf [(1, (.fn 87 [(.ptr 0 [] 0), (.ptr 1 [] 0)])), (27, (.dat 23 (.lst x0))), (28, (.dat 3 (.int x1))), (29, (.dat 3 (.int x2)))], [(.box 3 (.dat 3 (.int x3))), (.box 3 (.dat 3 (.int x4)))], 2⟩
noncomputable def s29_5 (x0 : List Dt) (x1 x2 x3 x4 : Int) : St := ⟨tsOf [(1, (.fn 87 [(.ptr 0 [] 0), (.ptr 1 [] 0)])), (27, (.dat 23 (.lst x0))), (28, (.dat 3 (.int x1))), (29, (.dat 3 (.int x2)))], [(.box 3 (.dat 3 (.int x3))), (.box 3 (.dat 3 (.int x4)))], 2⟩
noncomputable def s29_4 (x0 : List Dt) (x1 x2 x3 x4 : Int) : St := ⟨tsOf [(1, (.fn 87 [(.ptr 0 [] 0), (.ptr 1 [] 0)])), (27, (.dat 23 (.lst x0))), (28, (.dat 3 (.int x1))), (29, (.dat 3 (.int x2)))], [(.box 3 (.dat 3 (.int x3))), (.box 3 (.dat 3 (.int x4)))], 2⟩
theorem i29_j3_eq (m : Nat) (M1 : Nat) (rec1 : List Dt → Int → Int → Int → Int → Option (Int × Int)) (h1 : ∀ (x0 : List Dt) (x1 x2 x3 x4 : Int), l29 jn m [1, 1, 0, 1, 0, 1, 0] [] M1 (s29_1 x0 x1 x2 x3 x4) = rec1 x0 x1 x2 x3 x4) (x0 : List Dt) (x1 x2 x3 x4 : Int) : e29 jn m [1, 1, 0, 1, 0, 1, 0, 0, 1, 1, 1] [M1] (s29_3 x0 x1 x2 x3 x4) = i29_j3 m (i30 m) rec1 x0 x1 x2 x3 x4 := by
  have h : ∀ J, e29 J m [1, 1, 0, 1, 0, 1, 0, 0, 1, 1, 1] [M1] (s29_3 x0 x1 x2 x3 x4) =
    (J 1 4 M1 (s29_1 x0 x1 (IntKind.wrap .i64 (x2 + 1)) x3 x4) (l29 J m [1, 1, 0, 1, 0, 1, 0] [] M1 (s29_1 x0 x1 (IntKind.wrap .i64 (x2 + 1)) x3 x4))) := fun J => by kernel_rfl
  exact (h jn).trans (by
    simp only [jn_eq, h1]
    rfl)
theorem i29_j2_eq (m : Nat) (M1 : Nat) (rec1 : List Dt → Int → Int → Int → Int → Option (Int × Int)) (h1 : ∀ (x0 : List Dt) (x1 x2 x3 x4 : Int), l29 jn m [1, 1, 0, 1, 0, 1, 0] [] M1 (s29_1 x0 x1 x2 x3 x4) = rec1 x0 x1 x2 x3 x4) (x0 : List Dt) (x1 x2 x3 x4 : Int) : e29 jn m [1, 1, 0, 1, 0, 1, 0, 0, 1, 1] [M1] (s29_2 x0 x1 x2 x3 x4) = i29_j2 m (i30 m) rec1 x0 x1 x2 x3 x4 := by
  have h : ∀ J, e29 J m [1, 1, 0, 1, 0, 1, 0, 0, 1, 1] [M1] (s29_2 x0 x1 x2 x3 x4) =
    ((idx x0 x2).bind fun v0 =>
   ((i30 m v0 x3 x4).bind fun r1 =>
   (bif (Bool.not r1.1) then
   some (r1.2.1, r1.2.2)
   else
   (J 0 7 0 (s29_3 x0 x1 x2 r1.2.1 r1.2.2) (e29 J m [1, 1, 0, 1, 0, 1, 0, 0, 1, 1, 1] [M1] (s29_3 x0 x1 x2 r1.2.1 r1.2.2)))))) := fun J => by kernel_rfl
  exact (h jn).trans (by
    simp only [jn_eq, i29_j3_eq m M1 rec1 h1]
    rfl)
theorem i29_l1_eq (m : Nat) : ∀ (M1 : Nat) (x0 : List Dt) (x1 x2 x3 x4 : Int), l29 jn m [1, 1, 0, 1, 0, 1, 0] [] M1 (s29_1 x0 x1 x2 x3 x4) = i29_l1 m (i30 m) M1 x0 x1 x2 x3 x4
  | 0, _, _, _, _, _ => rfl
  | M1 + 1, x0, x1, x2, x3, x4 => by
    have h : ∀ J, l29 J m [1, 1, 0, 1, 0, 1, 0] [] (M1 + 1) (s29_1 x0 x1 x2 x3 x4) =
    (bif (decide (x2 < x1)) then
   (J 0 5 0 (s29_2 x0 x1 x2 x3 x4) (e29 J m [1, 1, 0, 1, 0, 1, 0, 0, 1, 1] [M1] (s29_2 x0 x1 x2 x3 x4)))
    else
   some (x3, x4)) := fun J => by kernel_rfl
    refine (h jn).trans ?_
    simp only [jn_eq, i29_j2_eq m M1 (i29_l1 m (i30 m) M1) (fun x0 x1 x2 x3 x4 => i29_l1_eq m M1 x0 x1 x2 x3 x4)]
    rfl
theorem i29_j0_eq (m : Nat) (x0 : List Dt) (x1 x2 x3 x4 : Int) : e29 jn m [1, 1, 0, 1, 0, 1] [] (s29_0 x0 x1 x2 x3 x4) = i29_j0 m (i30 m) x0 x1 x2 x3 x4 := by
  have h : ∀ J, e29 J m [1, 1, 0, 1, 0, 1] [] (s29_0 x0 x1 x2 x3 x4) =
    (J 1 4 (Nat.succ m) (s29_1 x0 x1 x2 x3 x4) (l29 J m [1, 1, 0, 1, 0, 1, 0] [] (Nat.succ m) (s29_1 x0 x1 x2 x3 x4))) := fun J => by kernel_rfl
  exact (h jn).trans (by
    simp only [jn_eq, i29_l1_eq m]
    rfl)
theorem i29_j7_eq (m : Nat) (M5 : Nat) (rec5 : List Dt → Int → Int → Int → Int → Option (Int × Int)) (h5 : ∀ (x0 : List Dt) (x1 x2 x3 x4 : Int), l29 jn m [1, 1, 0, 1, 1, 1, 0, 1, 0] [] M5 (s29_5 x0 x1 x2 x3 x4) = rec5 x0 x1 x2 x3 x4) (x0 : List Dt) (x1 x2 x3 x4 : Int) : e29 jn m [1, 1, 0, 1, 1, 1, 0, 1, 0, 0, 1, 1, 1] [M5] (s29_7 x0 x1 x2 x3 x4) = i29_j7 m (i30 m) rec5 x0 x1 x2 x3 x4 := by
  have h : ∀ J, e29 J m [1, 1, 0, 1, 1, 1, 0, 1, 0, 0, 1, 1, 1] [M5] (s29_7 x0 x1 x2 x3 x4) =
    (J 1 10 M5 (s29_5 x0 x1 (IntKind.wrap .i64 (x2 + 1)) x3 x4) (l29 J m [1, 1, 0, 1, 1, 1, 0, 1, 0] [] M5 (s29_5 x0 x1 (IntKind.wrap .i64 (x2 + 1)) x3 x4))) := fun J => by kernel_rfl
  exact (h jn).trans (by
    simp only [jn_eq, h5]
    rfl)
theorem i29_j6_eq (m : Nat) (M5 : Nat) (rec5 : List Dt → Int → Int → Int → Int → Option (Int × Int)) (h5 : ∀ (x0 : List Dt) (x1 x2 x3 x4 : Int), l29 jn m [1, 1, 0, 1, 1, 1, 0, 1, 0] [] M5 (s29_5 x0 x1 x2 x3 x4) = rec5 x0 x1 x2 x3 x4) (x0 : List Dt) (x1 x2 x3 x4 : Int) : e29 jn m [1, 1, 0, 1, 1, 1, 0, 1, 0, 0, 1, 1] [M5] (s29_6 x0 x1 x2 x3 x4) = i29_j6 m (i30 m) rec5 x0 x1 x2 x3 x4 := by
  have h : ∀ J, e29 J m [1, 1, 0, 1, 1, 1, 0, 1, 0, 0, 1, 1] [M5] (s29_6 x0 x1 x2 x3 x4) =
    ((idx x0 x2).bind fun v2 =>
   ((i30 m (Dt.fld v2 1) x3 x4).bind fun r3 =>
   (bif (Bool.not r3.1) then
   some (r3.2.1, r3.2.2)
   else
   (J 0 13 0 (s29_7 x0 x1 x2 r3.2.1 r3.2.2) (e29 J m [1, 1, 0, 1, 1, 1, 0, 1, 0, 0, 1, 1, 1] [M5] (s29_7 x0 x1 x2 r3.2.1 r3.2.2)))))) := fun J => by kernel_rfl
  exact (h jn).trans (by
    simp only [jn_eq, i29_j7_eq m M5 rec5 h5]
    rfl)
theorem i29_l5_eq (m : Nat) : ∀ (M5 : Nat) (x0 : List Dt) (x1 x2 x3 x4 : Int), l29 jn m [1, 1, 0, 1, 1, 1, 0, 1, 0] [] M5 (s29_5 x0 x1 x2 x3 x4) = i29_l5 m (i30 m) M5 x0 x1 x2 x3 x4
  | 0, _, _, _, _, _ => rfl
  | M5 + 1, x0, x1, x2, x3, x4 => by
    have h : ∀ J, l29 J m [1, 1, 0, 1, 1, 1, 0, 1, 0] [] (M5 + 1) (s29_5 x0 x1 x2 x3 x4) =
    (bif (decide (x2 < x1)) then
   (J 0 11 0 (s29_6 x0 x1 x2 x3 x4) (e29 J m [1, 1, 0, 1, 1, 1, 0, 1, 0, 0, 1, 1] [M5] (s29_6 x0 x1 x2 x3 x4)))
    else
   some (x3, x4)) := fun J => by kernel_rfl
    refine (h jn).trans ?_
    simp only [jn_eq, i29_j6_eq m M5 (i29_l5 m (i30 m) M5) (fun x0 x1 x2 x3 x4 => i29_l5_eq m M5 x0 x1 x2 x3 x4)]
    rfl
theorem i29_j4_eq (m : Nat) (x0 : List Dt) (x1 x2 x3 x4 : Int) : e29 jn m [1, 1, 0, 1, 1, 1, 0, 1] [] (s29_4 x0 x1 x2 x3 x4) = i29_j4 m (i30 m) x0 x1 x2 x3 x4 := by
  have h : ∀ J, e29 J m [1, 1, 0, 1, 1, 1, 0, 1] [] (s29_4 x0 x1 x2 x3 x4) =
    (J 1 10 (Nat.succ m) (s29_5 x0 x1 x2 x3 x4) (l29 J m [1, 1, 0, 1, 1, 1, 0, 1, 0] [] (Nat.succ m) (s29_5 x0 x1 x2 x3 x4))) := fun J => by kernel_rfl
  exact (h jn).trans (by
    simp only [jn_eq, i29_l5_eq m]
    rfl)
theorem i29_eq (m : Nat) (a0 : Dt) (a1 a2 : Int) : e29 jn m [] [] ⟨[(.dat 25 a0), (.fn 87 [(.ptr 0 [] 0), (.ptr 1 [] 0)])], [(.box 3 (.dat 3 (.int a1))), (.box 3 (.dat 3 (.int a2)))], 2⟩ = i29 (m + 1) a0 a1 a2 := by
  have h : ∀ J, e29 J m [] [] ⟨[(.dat 25 a0), (.fn 87 [(.ptr 0 [] 0), (.ptr 1 [] 0)])], [(.box 3 (.dat 3 (.int a1))), (.box 3 (.dat 3 (.int a2)))], 2⟩ =
    (bif ((Dt.I a0 0) == 6) then
   (J 0 4 0 (s29_0 (Dt.L a0 3) (List.length (Dt.L a0 3) : Int) 0 a1 a2) (e29 J m [1, 1, 0, 1, 0, 1] [] (s29_0 (Dt.L a0 3) (List.length (Dt.L a0 3) : Int) 0 a1 a2)))
    else
   (bif ((Dt.I a0 0) == 5) then
   (J 0 10 0 (s29_4 (Dt.L a0 4) (List.length (Dt.L a0 4) : Int) 0 a1 a2) (e29 J m [1, 1, 0, 1, 1, 1, 0, 1] [] (s29_4 (Dt.L a0 4) (List.length (Dt.L a0 4) : Int) 0 a1 a2)))
   else
   some (a1, a2))) := fun J => by kernel_rfl
  refine (h jn).trans ?_
  simp only [jn_eq, i29_j0_eq m, i29_j4_eq m]
  rfl
noncomputable def d30 (q : Res) : Option (Bool × Int × Int) := match q with
  | (.dat T0 x0, [.box T1 (.dat T2 x2), .box T3 (.dat T4 x4)]) => bif (Nat.beq T0 4 && (Nat.beq T1 3 && (Nat.beq T2 3 && (Nat.beq T3 3 && Nat.beq T4 3)))) then some (x0.toBool, x2.toInt, x4.toInt) else none
  | _ => none
theorem d30_sim {b : Res} {r : Bool × Int × Int} (h : d30 b = some r) : Sim Tryd.prog b ((.dat 4 (.bool r.1)), [(.box 3 (.dat 3 (.int r.2.1))), (.box 3 (.dat 3 (.int r.2.2)))]) := by
  unfold d30 at h
  split at h
  · obtain ⟨hc, h2⟩ := bif_some h
    cases h2
    have e0 := beq_eq (and_l hc)
    have e1 := beq_eq (and_l (and_r hc))
    have e2 := beq_eq (and_l (and_r (and_r hc)))
    have e3 := beq_eq (and_l (and_r (and_r (and_r hc))))
    have e4 := beq_eq (and_r (and_r (and_r (and_r hc))))
    subst e0 e1 e2 e3 e4
    exact Sim.of (.of (.dat (.bool Tryd.underlying4)) rfl rfl) (.cons (.box (.dat (.int Tryd.underlying3))) (.cons (.box (.dat (.int Tryd.underlying3))) .nil))
  · cases h
noncomputable def e30 (J : Nat → Nat → Nat → St → Option (Bool × Int × Int) → Option (Bool × Int × Int)) (m : Nat) (p ms : List Nat) (σ : St) := evAt Tryd.prog env (ct m) J (m + 1) 87 15 Tryd.f87 d30 p ms σ
noncomputable def l30 (J : Nat → Nat → Nat → St → Option (Bool × Int × Int) → Option (Bool × Int × Int)) (m : Nat) (p ms : List Nat) (M : Nat) (σ : St) := loopAt Tryd.prog env (ct m) J (m + 1) 87 15 Tryd.f87 d30 p ms M σ
theorem i30_eq (m : Nat) (a0 : Dt) (a1 a2 : Int) : e30 jn m [] [] ⟨[(.dat 25 a0), (.ptr 0 [] 0), (.ptr 1 [] 0)], [(.box 3 (.dat 3 (.int a1))), (.box 3 (.dat 3 (.int a2)))], 2⟩ = i30 (m + 1) a0 a1 a2 := by
  have h : ∀ J, e30 J m [] [] ⟨[(.dat 25 a0), (.ptr 0 [] 0), (.ptr 1 [] 0)], [(.box 3 (.dat 3 (.int a1))), (.box 3 (.dat 3 (.int a2)))], 2⟩ =
    ((value_depth m a0 (IntKind.wrap .i64 (a2 - 1))).bind fun r0 =>
   some ((decide ((bif (decide (a1 < r0)) then r0 else a1) < (IntKind.wrap .i64 (a2 - 1)))), (bif (decide (a1 < r0)) then r0 else a1), a2)) := fun J => by kernel_rfl
  refine (h jn).trans ?_
  
  rfl
noncomputable def d13 (q : Res) : Option Int := match q with
  | (.dat T0 x0, []) => bif Nat.beq T0 3 then some x0.toInt else none
  | _ => none
theorem d13_sim {b : Res} {r : Int} (h : d13 b = some r) : Sim Tryd.prog b ((.dat 3 (.int r)), []) := by
  unfold d13 at h
  split at h
  · obtain ⟨hc, h2⟩ := bif_some h
    cases h2
    have e0 := beq_eq hc
    subst e0
    exact Sim.of (.of (.dat (.int Tryd.underlying3)) rfl rfl) .nil
  · cases h
noncomputable def e13 (J : Nat → Nat → Nat → St → Option Int → Option Int) (m : Nat) (p ms : List Nat) (σ : St) := evAt Tryd.prog env (ct m) J (m + 1) 52 5 Tryd.f52 d13 p ms σ
noncomputable def l13 (J : Nat → Nat → Nat → St → Option Int → Option Int) (m : Nat) (p ms : List Nat) (M : Nat) (σ : St) := loopAt Tryd.prog env (ct m) J (m + 1) 52 5 Tryd.f52 d13 p ms M σ
theorem value_Depth_eq (m : Nat) (a0 : Dt) : e13 jn m [] [] ⟨[(.dat 25 a0)], [], 0⟩ = value_Depth (m + 1) a0 := by
  have h : ∀ J, e13 J m [] [] ⟨[(.dat 25 a0)], [], 0⟩ =
    ((value_depth m a0 17).bind fun r0 =>
   some r0) := fun J => by kernel_rfl
  refine (h jn).trans ?_
  
  rfl
noncomputable def d22 (q : Res) : Option Bool := match q with
  | (.dat T0 x0, []) => bif Nat.beq T0 4 then some x0.toBool else none
  | _ => none
theorem d22_sim {b : Res} {r : Bool} (h : d22 b = some r) : Sim Tryd.prog b ((.dat 4 (.bool r)), []) := by
  unfold d22 at h
  split at h
  · obtain ⟨hc, h2⟩ := bif_some h
    cases h2
    have e0 := beq_eq hc
    subst e0
    exact Sim.of (.of (.dat (.bool Tryd.underlying4)) rfl rfl) .nil
  · cases h
noncomputable def e22 (J : Nat → Nat → Nat → St → Option Bool → Option Bool) (m : Nat) (p ms : List Nat) (σ : St) := evAt Tryd.prog env (ct m) J (m + 1) 62 39 Tryd.f62 d22 p ms σ
noncomputable def l22 (J : Nat → Nat → Nat → St → Option Bool → Option Bool) (m : Nat) (p ms : List Nat) (M : Nat) (σ : St) := loopAt Tryd.prog env (ct m) J (m + 1) 62 39 Tryd.f62 d22 p ms M σ
noncomputable def s22_6 (x0 : ByteArray) (x1 : Int) : St := ⟨tsOf [(0, (.dat 9 (.str x0))), (3, (.dat 3 (.int x1)))], [], 0⟩
noncomputable def s22_5 (x0 : ByteArray) (x1 : Int) (x2 : Bool) : St := ⟨tsOf [(0, (.dat 9 (.str x0))), (3, (.dat 3 (.int x1))), (38, (.dat 4 (.bool x2)))], [], 0⟩
noncomputable def s22_4 (x0 : ByteArray) (x1 : Int) : St := ⟨tsOf [(0, (.dat 9 (.str x0))), (3, (.dat 3 (.int x1)))], [], 0⟩
noncomputable def s22_7 : St := ⟨tsOf [], [], 0⟩
noncomputable def s22_3 (x0 : ByteArray) (x1 : Int) : St := ⟨tsOf [(0, (.dat 9 (.str x0))), (3, (.dat 3 (.int x1)))], [], 0⟩
noncomputable def s22_2 (x0 : ByteArray) (x1 : Int) : St := ⟨tsOf [(0, (.dat 9 (.str x0))), (3, (.dat 3 (.int x1)))], [], 0⟩
noncomputable def s22_1 (x0 : ByteArray) : St := ⟨tsOf [(0, (.dat 9 (.str x0)))], [], 0⟩
noncomputable def s22_0 (x0 : ByteArray) (x1 : Bool) : St := ⟨tsOf [(0, (.dat 9 (.str x0))), (16, (.dat 4 (.bool x1)))], [], 0⟩
theorem ref01_Name_j6_eq (m : Nat) (M3 : Nat) (rec3 : ByteArray → Int → Option Bool) (h3 : ∀ (x0 : ByteArray) (x1 : Int), l22 jn m [1, 1, 0, 1, 0] [] M3 (s22_3 x0 x1) = rec3 x0 x1) (x0 : ByteArray) (x1 : Int) : e22 jn m [1, 1, 0, 1, 0, 0, 1, 1] [M3] (s22_6 x0 x1) = ref01_Name_j6 m rec3 x0 x1 := by
  have h : ∀ J, e22 J m [1, 1, 0, 1, 0, 0, 1, 1] [M3] (s22_6 x0 x1) =
    (J 1 4 M3 (s22_3 x0 (IntKind.wrap .i64 (x1 + 1))) (l22 J m [1, 1, 0, 1, 0] [] M3 (s22_3 x0 (IntKind.wrap .i64 (x1 + 1))))) := fun J => by kernel_rfl
  exact (h jn).trans (by
    simp only [jn_eq, h3]
    rfl)
theorem ref01_Name_j5_eq (m : Nat) (M3 : Nat) (rec3 : ByteArray → Int → Option Bool) (h3 : ∀ (x0 : ByteArray) (x1 : Int), l22 jn m [1, 1, 0, 1, 0] [] M3 (s22_3 x0 x1) = rec3 x0 x1) (x0 : ByteArray) (x1 : Int) (x2 : Bool) : e22 jn m [1, 1, 0, 1, 0, 0, 1, 0, 0, 1] [M3] (s22_5 x0 x1 x2) = ref01_Name_j5 m rec3 x0 x1 x2 := by
  have h : ∀ J, e22 J m [1, 1, 0, 1, 0, 0, 1, 0, 0, 1] [M3] (s22_5 x0 x1 x2) =
    (bif x2 then
   some false
    else
   (J 0 5 0 (s22_6 x0 x1) (e22 J m [1, 1, 0, 1, 0, 0, 1, 1] [M3] (s22_6 x0 x1)))) := fun J => by kernel_rfl
  exact (h jn).trans (by
    simp only [jn_eq, ref01_Name_j6_eq m M3 rec3 h3]
    rfl)
theorem ref01_Name_j4_eq (m : Nat) (M3 : Nat) (rec3 : ByteArray → Int → Option Bool) (h3 : ∀ (x0 : ByteArray) (x1 : Int), l22 jn m [1, 1, 0, 1, 0] [] M3 (s22_3 x0 x1) = rec3 x0 x1) (x0 : ByteArray) (x1 : Int) : e22 jn m [1, 1, 0, 1, 0, 0, 1] [M3] (s22_4 x0 x1) = ref01_Name_j4 m rec3 x0 x1 := by
  have h : ∀ J, e22 J m [1, 1, 0, 1, 0, 0, 1] [M3] (s22_4 x0 x1) =
    ((idxS x0 x1).bind fun v0 =>
   (bif (decide (v0 < 33)) then
   (J 0 7 0 (s22_5 x0 x1 true) (e22 J m [1, 1, 0, 1, 0, 0, 1, 0, 0, 1] [M3] (s22_5 x0 x1 true)))
   else
   ((idxS x0 x1).bind fun v1 =>
   (bif (decide (126 < v1)) then
   (J 0 7 0 (s22_5 x0 x1 true) (e22 J m [1, 1, 0, 1, 0, 0, 1, 0, 0, 1] [M3] (s22_5 x0 x1 true)))
   else
   ((idxS x0 x1).bind fun v2 =>
   (J 0 7 0 (s22_5 x0 x1 (v2 == 46)) (e22 J m [1, 1, 0, 1, 0, 0, 1, 0, 0, 1] [M3] (s22_5 x0 x1 (v2 == 46))))))))) := fun J => by kernel_rfl
  exact (h jn).trans (by
    simp only [jn_eq, ref01_Name_j5_eq m M3 rec3 h3]
    rfl)
theorem ref01_Name_j7_eq (m : Nat) : e22 jn m [1, 1, 1] [] s22_7 = ref01_Name_j7 m := by
  have h : ∀ J, e22 J m [1, 1, 1] [] s22_7 =
    some true := fun J => by kernel_rfl
  exact (h jn).trans (rfl)
theorem ref01_Name_l3_eq (m : Nat) : ∀ (M3 : Nat) (x0 : ByteArray) (x1 : Int), l22 jn m [1, 1, 0, 1, 0] [] M3 (s22_3 x0 x1) = ref01_Name_l3 m M3 x0 x1
  | 0, _, _ => rfl
  | M3 + 1, x0, x1 => by
    have h : ∀ J, l22 J m [1, 1, 0, 1, 0] [] (M3 + 1) (s22_3 x0 x1) =
    (bif (decide (x1 < (ByteArray.size x0 : Int))) then
   (J 0 6 0 (s22_4 x0 x1) (e22 J m [1, 1, 0, 1, 0, 0, 1] [M3] (s22_4 x0 x1)))
    else
   (J 0 8 0 s22_7 (e22 J m [1, 1, 1] [] s22_7))) := fun J => by kernel_rfl
    refine (h jn).trans ?_
    simp only [jn_eq, ref01_Name_j4_eq m M3 (ref01_Name_l3 m M3) (fun x0 x1 => ref01_Name_l3_eq m M3 x0 x1), ref01_Name_j7_eq m]
    rfl
theorem ref01_Name_j2_eq (m : Nat) (x0 : ByteArray) (x1 : Int) : e22 jn m [1, 1, 0, 1] [] (s22_2 x0 x1) = ref01_Name_j2 m x0 x1 := by
  have h : ∀ J, e22 J m [1, 1, 0, 1] [] (s22_2 x0 x1) =
    (J 1 4 (Nat.succ m) (s22_3 x0 x1) (l22 J m [1, 1, 0, 1, 0] [] (Nat.succ m) (s22_3 x0 x1))) := fun J => by kernel_rfl
  exact (h jn).trans (by
    simp only [jn_eq, ref01_Name_l3_eq m]
    rfl)
theorem ref01_Name_j1_eq (m : Nat) (x0 : ByteArray) : e22 jn m [1, 1] [] (s22_1 x0) = ref01_Name_j1 m x0 := by
  have h : ∀ J, e22 J m [1, 1] [] (s22_1 x0) =
    (J 0 4 0 (s22_2 x0 0) (e22 J m [1, 1, 0, 1] [] (s22_2 x0 0))) := fun J => by kernel_rfl
  exact (h jn).trans (by
    simp only [jn_eq, ref01_Name_j2_eq m]
    rfl)
theorem ref01_Name_j0_eq (m : Nat) (x0 : ByteArray) (x1 : Bool) : e22 jn m [1, 0, 1] [] (s22_0 x0 x1) = ref01_Name_j0 m x0 x1 := by
  have h : ∀ J, e22 J m [1, 0, 1] [] (s22_0 x0 x1) =
    (bif x1 then
   some false
    else
   (J 0 3 0 (s22_1 x0) (e22 J m [1, 1] [] (s22_1 x0)))) := fun J => by kernel_rfl
  exact (h jn).trans (by
    simp only [jn_eq, ref01_Name_j1_eq m]
    rfl)
theorem ref01_Name_eq (m : Nat) (a0 : ByteArray) : e22 jn m [] [] ⟨[(.dat 9 (.str a0))], [], 0⟩ = ref01_Name (m + 1) a0 := by
  have h : ∀ J, e22 J m [] [] ⟨[(.dat 9 (.str a0))], [], 0⟩ =
    (bif (decide ((ByteArray.size a0 : Int) < 1)) then
   (J 0 2 0 (s22_0 a0 true) (e22 J m [1, 0, 1] [] (s22_0 a0 true)))
    else
   (bif (decide (32 < (ByteArray.size a0 : Int))) then
   (J 0 2 0 (s22_0 a0 true) (e22 J m [1, 0, 1] [] (s22_0 a0 true)))
   else
   ((idxS a0 0).bind fun v3 =>
   (J 0 2 0 (s22_0 a0 (v3 == 36)) (e22 J m [1, 0, 1] [] (s22_0 a0 (v3 == 36))))))) := fun J => by kernel_rfl
  refine (h jn).trans ?_
  simp only [jn_eq, ref01_Name_j0_eq m]
  rfl
noncomputable def d15 (q : Res) : Option Bool := match q with
  | (.dat T0 x0, []) => bif Nat.beq T0 4 then some x0.toBool else none
  | _ => none
theorem d15_sim {b : Res} {r : Bool} (h : d15 b = some r) : Sim Tryd.prog b ((.dat 4 (.bool r)), []) := by
  unfold d15 at h
  split at h
  · obtain ⟨hc, h2⟩ := bif_some h
    cases h2
    have e0 := beq_eq hc
    subst e0
    exact Sim.of (.of (.dat (.bool Tryd.underlying4)) rfl rfl) .nil
  · cases h
noncomputable def e15 (J : Nat → Nat → Nat → St → Option Bool → Option Bool) (m : Nat) (p ms : List Nat) (σ : St) := evAt Tryd.prog env (ct m) J (m + 1) 58 31 Tryd.f58 d15 p ms σ
noncomputable def l15 (J : Nat → Nat → Nat → St → Option Bool → Option Bool) (m : Nat) (p ms : List Nat) (M : Nat) (σ : St) := loopAt Tryd.prog env (ct m) J (m + 1) 58 31 Tryd.f58 d15 p ms M σ
noncomputable def s15_7 (x0 : List Dt) (x1 x2 : Int) : St := ⟨tsOf [(0, (.dat 26 (.lst x0))), (3, (.dat 3 (.int x1))), (4, (.dat 3 (.int x2)))], [], 0⟩
noncomputable def s15_6 (x0 : List Dt) (x1 x2 : Int) : St := ⟨tsOf [(0, (.dat 26 (.lst x0))), (3, (.dat 3 (.int x1))), (4, (.dat 3 (.int x2)))], [], 0⟩
noncomputable def s15_8 (x0 : List Dt) (x1 : Int) : St := ⟨tsOf [(0, (.dat 26 (.lst x0))), (3, (.dat 3 (.int x1)))], [], 0⟩
noncomputable def s15_5 (x0 : List Dt) (x1 x2 : Int) : St := ⟨tsOf [(0, (.dat 26 (.lst x0))), (3, (.dat 3 (.int x1))), (4, (.dat 3 (.int x2)))], [], 0⟩
noncomputable def s15_4 (x0 : List Dt) (x1 x2 : Int) : St := ⟨tsOf [(0, (.dat 26 (.lst x0))), (3, (.dat 3 (.int x1))), (4, (.dat 3 (.int x2)))], [], 0⟩
noncomputable def s15_3 (x0 : List Dt) (x1 : Int) : St := ⟨tsOf [(0, (.dat 26 (.lst x0))), (3, (.dat 3 (.int x1)))], [], 0⟩
noncomputable def s15_2 (x0 : List Dt) (x1 : Int) : St := ⟨tsOf [(0, (.dat 26 (.lst x0))), (3, (.dat 3 (.int x1)))], [], 0⟩
noncomputable def s15_9 : St := ⟨tsOf [], [], 0⟩
noncomputable def s15_1 (x0 : List Dt) (x1 : Int) : St := ⟨tsOf [(0, (.dat 26 (.lst x0))), (3, (.dat 3 (.int x1)))], [], 0⟩
noncomputable def s15_0 (x0 : List Dt) (x1 : Int) : St := ⟨tsOf [(0, (.dat 26 (.lst x0))), (3, (.dat 3 (.int x1)))], [], 0⟩
theorem ref14_different_j7_eq (m : Nat) (M1 : Nat) (rec1 : List Dt → Int → Option Bool) (h1 : ∀ (x0 : List Dt) (x1 : Int), l15 jn m [1, 0, 1, 0] [] M1 (s15_1 x0 x1) = rec1 x0 x1) (M5 : Nat) (rec5 : List Dt → Int → Int → Option Bool) (h5 : ∀ (x0 : List Dt) (x1 x2 : Int), l15 jn m [1, 0, 1, 0, 0, 1, 0, 0, 1, 1, 0] [M1] M5 (s15_5 x0 x1 x2) = rec5 x0 x1 x2) (x0 : List Dt) (x1 x2 : Int) : e15 jn m [1, 0, 1, 0, 0, 1, 0, 0, 1, 1, 0, 0, 1, 1] [M1, M5] (s15_7 x0 x1 x2) = ref14_different_j7 m rec1 rec5 x0 x1 x2 := by
  have h : ∀ J, e15 J m [1, 0, 1, 0, 0, 1, 0, 0, 1, 1, 0, 0, 1, 1] [M1, M5] (s15_7 x0 x1 x2) =
    (J 1 7 M5 (s15_5 x0 x1 (IntKind.wrap .i64 (x2 + 1))) (l15 J m [1, 0, 1, 0, 0, 1, 0, 0, 1, 1, 0] [M1] M5 (s15_5 x0 x1 (IntKind.wrap .i64 (x2 + 1))))) := fun J => by kernel_rfl
  exact (h jn).trans (by
    simp only [jn_eq, h5]
    rfl)
theorem ref14_different_j6_eq (m : Nat) (M1 : Nat) (rec1 : List Dt → Int → Option Bool) (h1 : ∀ (x0 : List Dt) (x1 : Int), l15 jn m [1, 0, 1, 0] [] M1 (s15_1 x0 x1) = rec1 x0 x1) (M5 : Nat) (rec5 : List Dt → Int → Int → Option Bool) (h5 : ∀ (x0 : List Dt) (x1 x2 : Int), l15 jn m [1, 0, 1, 0, 0, 1, 0, 0, 1, 1, 0] [M1] M5 (s15_5 x0 x1 x2) = rec5 x0 x1 x2) (x0 : List Dt) (x1 x2 : Int) : e15 jn m [1, 0, 1, 0, 0, 1, 0, 0, 1, 1, 0, 0, 1] [M1, M5] (s15_6 x0 x1 x2) = ref14_different_j6 m rec1 rec5 x0 x1 x2 := by
  have h : ∀ J, e15 J m [1, 0, 1, 0, 0, 1, 0, 0, 1, 1, 0, 0, 1] [M1, M5] (s15_6 x0 x1 x2) =
    ((idx x0 x2).bind fun v2 =>
   ((idx x0 x1).bind fun v3 =>
   (bif ((ByteArray.toList (Dt.toStr v2)) == (ByteArray.toList (Dt.toStr v3))) then
   some false
   else
   (J 0 8 0 (s15_7 x0 x1 x2) (e15 J m [1, 0, 1, 0, 0, 1, 0, 0, 1, 1, 0, 0, 1, 1] [M1, M5] (s15_7 x0 x1 x2)))))) := fun J => by kernel_rfl
  exact (h jn).trans (by
    simp only [jn_eq, ref14_different_j7_eq m M1 rec1 h1 M5 rec5 h5]
    rfl)
theorem ref14_different_j8_eq (m : Nat) (M1 : Nat) (rec1 : List Dt → Int → Option Bool) (h1 : ∀ (x0 : List Dt) (x1 : Int), l15 jn m [1, 0, 1, 0] [] M1 (s15_1 x0 x1) = rec1 x0 x1) (x0 : List Dt) (x1 : Int) : e15 jn m [1, 0, 1, 0, 0, 1, 1] [M1] (s15_8 x0 x1) = ref14_different_j8 m rec1 x0 x1 := by
  have h : ∀ J, e15 J m [1, 0, 1, 0, 0, 1, 1] [M1] (s15_8 x0 x1) =
    (J 1 2 M1 (s15_1 x0 (IntKind.wrap .i64 (x1 + 1))) (l15 J m [1, 0, 1, 0] [] M1 (s15_1 x0 (IntKind.wrap .i64 (x1 + 1))))) := fun J => by kernel_rfl
  exact (h jn).trans (by
    simp only [jn_eq, h1]
    rfl)
theorem ref14_different_l5_eq (m : Nat) (M1 : Nat) (rec1 : List Dt → Int → Option Bool) (h1 : ∀ (x0 : List Dt) (x1 : Int), l15 jn m [1, 0, 1, 0] [] M1 (s15_1 x0 x1) = rec1 x0 x1) : ∀ (M5 : Nat) (x0 : List Dt) (x1 x2 : Int), l15 jn m [1, 0, 1, 0, 0, 1, 0, 0, 1, 1, 0] [M1] M5 (s15_5 x0 x1 x2) = ref14_different_l5 m rec1 M5 x0 x1 x2
  | 0, _, _, _ => rfl
  | M5 + 1, x0, x1, x2 => by
    have h : ∀ J, l15 J m [1, 0, 1, 0, 0, 1, 0, 0, 1, 1, 0] [M1] (M5 + 1) (s15_5 x0 x1 x2) =
    (bif (decide (x2 < x1)) then
   (J 0 9 0 (s15_6 x0 x1 x2) (e15 J m [1, 0, 1, 0, 0, 1, 0, 0, 1, 1, 0, 0, 1] [M1, M5] (s15_6 x0 x1 x2)))
    else
   (J 0 3 0 (s15_8 x0 x1) (e15 J m [1, 0, 1, 0, 0, 1, 1] [M1] (s15_8 x0 x1)))) := fun J => by kernel_rfl
    refine (h jn).trans ?_
    simp only [jn_eq, ref14_different_j6_eq m M1 rec1 h1 M5 (ref14_different_l5 m rec1 M5) (fun x0 x1 x2 => ref14_different_l5_eq m M1 rec1 h1 M5 x0 x1 x2), ref14_different_j8_eq m M1 rec1 h1]
    rfl
theorem ref14_different_j4_eq (m : Nat) (M1 : Nat) (rec1 : List Dt → Int → Option Bool) (h1 : ∀ (x0 : List Dt) (x1 : Int), l15 jn m [1, 0, 1, 0] [] M1 (s15_1 x0 x1) = rec1 x0 x1) (x0 : List Dt) (x1 x2 : Int) : e15 jn m [1, 0, 1, 0, 0, 1, 0, 0, 1, 1] [M1] (s15_4 x0 x1 x2) = ref14_different_j4 m rec1 x0 x1 x2 := by
  have h : ∀ J, e15 J m [1, 0, 1, 0, 0, 1, 0, 0, 1, 1] [M1] (s15_4 x0 x1 x2) =
    (J 1 7 (Nat.succ m) (s15_5 x0 x1 x2) (l15 J m [1, 0, 1, 0, 0, 1, 0, 0, 1, 1, 0] [M1] (Nat.succ m) (s15_5 x0 x1 x2))) := fun J => by kernel_rfl
  exact (h jn).trans (by
    simp only [jn_eq, ref14_different_l5_eq m M1 rec1 h1]
    rfl)
theorem ref14_different_j3_eq (m : Nat) (M1 : Nat) (rec1 : List Dt → Int → Option Bool) (h1 : ∀ (x0 : List Dt) (x1 : Int), l15 jn m [1, 0, 1, 0] [] M1 (s15_1 x0 x1) = rec1 x0 x1) (x0 : List Dt) (x1 : Int) : e15 jn m [1, 0, 1, 0, 0, 1, 0, 0, 1] [M1] (s15_3 x0 x1) = ref14_different_j3 m rec1 x0 x1 := by
  have h : ∀ J, e15 J m [1, 0, 1, 0, 0, 1, 0, 0, 1] [M1] (s15_3 x0 x1) =
    (J 0 7 0 (s15_4 x0 x1 0) (e15 J m [1, 0, 1, 0, 0, 1, 0, 0, 1, 1] [M1] (s15_4 x0 x1 0))) := fun J => by kernel_rfl
  exact (h jn).trans (by
    simp only [jn_eq, ref14_different_j4_eq m M1 rec1 h1]
    rfl)
theorem ref14_different_j2_eq (m : Nat) (M1 : Nat) (rec1 : List Dt → Int → Option Bool) (h1 : ∀ (x0 : List Dt) (x1 : Int), l15 jn m [1, 0, 1, 0] [] M1 (s15_1 x0 x1) = rec1 x0 x1) (x0 : List Dt) (x1 : Int) : e15 jn m [1, 0, 1, 0, 0, 1] [M1] (s15_2 x0 x1) = ref14_different_j2 m rec1 x0 x1 := by
  have h : ∀ J, e15 J m [1, 0, 1, 0, 0, 1] [M1] (s15_2 x0 x1) =
    ((idx x0 x1).bind fun v0 =>
   ((ref01_Name m (Dt.toStr v0)).bind fun r1 =>
   (bif (Bool.not r1) then
   some false
   else
   (J 0 6 0 (s15_3 x0 x1) (e15 J m [1, 0, 1, 0, 0, 1, 0, 0, 1] [M1] (s15_3 x0 x1)))))) := fun J => by kernel_rfl
  exact (h jn).trans (by
    simp only [jn_eq, ref14_different_j3_eq m M1 rec1 h1]
    rfl)
theorem ref14_different_j9_eq (m : Nat) : e15 jn m [1, 1] [] s15_9 = ref14_different_j9 m := by
  have h : ∀ J, e15 J m [1, 1] [] s15_9 =
    some true := fun J => by kernel_rfl
  exact (h jn).trans (rfl)
theorem ref14_different_l1_eq (m : Nat) : ∀ (M1 : Nat) (x0 : List Dt) (x1 : Int), l15 jn m [1, 0, 1, 0] [] M1 (s15_1 x0 x1) = ref14_different_l1 m M1 x0 x1
  | 0, _, _ => rfl
  | M1 + 1, x0, x1 => by
    have h : ∀ J, l15 J m [1, 0, 1, 0] [] (M1 + 1) (s15_1 x0 x1) =
    (bif (decide (x1 < (List.length x0 : Int))) then
   (J 0 4 0 (s15_2 x0 x1) (e15 J m [1, 0, 1, 0, 0, 1] [M1] (s15_2 x0 x1)))
    else
   (J 0 11 0 s15_9 (e15 J m [1, 1] [] s15_9))) := fun J => by kernel_rfl
    refine (h jn).trans ?_
    simp only [jn_eq, ref14_different_j2_eq m M1 (ref14_different_l1 m M1) (fun x0 x1 => ref14_different_l1_eq m M1 x0 x1), ref14_different_j9_eq m]
    rfl
theorem ref14_different_j0_eq (m : Nat) (x0 : List Dt) (x1 : Int) : e15 jn m [1, 0, 1] [] (s15_0 x0 x1) = ref14_different_j0 m x0 x1 := by
  have h : ∀ J, e15 J m [1, 0, 1] [] (s15_0 x0 x1) =
    (J 1 2 (Nat.succ m) (s15_1 x0 x1) (l15 J m [1, 0, 1, 0] [] (Nat.succ m) (s15_1 x0 x1))) := fun J => by kernel_rfl
  exact (h jn).trans (by
    simp only [jn_eq, ref14_different_l1_eq m]
    rfl)
theorem ref14_different_eq (m : Nat) (a0 : List Dt) : e15 jn m [] [] ⟨[(.dat 26 (.lst a0))], [], 0⟩ = ref14_different (m + 1) a0 := by
  have h : ∀ J, e15 J m [] [] ⟨[(.dat 26 (.lst a0))], [], 0⟩ =
    (J 0 2 0 (s15_0 a0 0) (e15 J m [1, 0, 1] [] (s15_0 a0 0))) := fun J => by kernel_rfl
  refine (h jn).trans ?_
  simp only [jn_eq, ref14_different_j0_eq m]
  rfl
noncomputable def d23 (q : Res) : Option Bool := match q with
  | (.dat T0 x0, []) => bif Nat.beq T0 4 then some x0.toBool else none
  | _ => none
theorem d23_sim {b : Res} {r : Bool} (h : d23 b = some r) : Sim Tryd.prog b ((.dat 4 (.bool r)), []) := by
  unfold d23 at h
  split at h
  · obtain ⟨hc, h2⟩ := bif_some h
    cases h2
    have e0 := beq_eq hc
    subst e0
    exact Sim.of (.of (.dat (.bool Tryd.underlying4)) rfl rfl) .nil
  · cases h
noncomputable def e23 (J : Nat → Nat → Nat → St → Option Bool → Option Bool) (m : Nat) (p ms : List Nat) (σ : St) := evAt Tryd.prog env (ct m) J (m + 1) 80 99 Tryd.f80 d23 p ms σ
noncomputable def l23 (J : Nat → Nat → Nat → St → Option Bool → Option Bool) (m : Nat) (p ms : List Nat) (M : Nat) (σ : St) := loopAt Tryd.prog env (ct m) J (m + 1) 80 99 Tryd.f80 d23 p ms M σ
noncomputable def s23_5 (x0 : Int) (x1 x2 : Dt) : St := ⟨tsOf [(2, (.ptr 0 [] 0)), (3, (.ptr 1 [] 0)), (5, (.dat 3 (.int x0)))], [(.box 25 (.dat 25 x1)), (.box 25 (.dat 25 x2))], 0⟩
noncomputable def s23_4 (x0 : Int) (x1 x2 : Dt) : St := ⟨tsOf [(2, (.ptr 0 [] 0)), (3, (.ptr 1 [] 0)), (5, (.dat 3 (.int x0)))], [(.box 25 (.dat 25 x1)), (.box 25 (.dat 25 x2))], 0⟩
noncomputable def s23_11 (x0 : Int) (x1 x2 : Dt) : St := ⟨tsOf [(2, (.ptr 0 [] 0)), (3, (.ptr 1 [] 0)), (6, (.dat 3 (.int x0)))], [(.box 25 (.dat 25 x1)), (.box 25 (.dat 25 x2))], 0⟩
noncomputable def s23_10 (x0 : Int) (x1 : Bool) (x2 x3 : Dt) : St := ⟨tsOf [(2, (.ptr 0 [] 0)), (3, (.ptr 1 [] 0)), (6, (.dat 3 (.int x0))), (98, (.dat 4 (.bool x1)))], [(.box 25 (.dat 25 x2)), (.box 25 (.dat 25 x3))], 0⟩
noncomputable def s23_9 (x0 : Int) (x1 x2 : Dt) : St := ⟨tsOf [(2, (.ptr 0 [] 0)), (3, (.ptr 1 [] 0)), (6, (.dat 3 (.int x0)))], [(.box 25 (.dat 25 x1)), (.box 25 (.dat 25 x2))], 0⟩
noncomputable def s23_12 : St := ⟨tsOf [], [], 0⟩
noncomputable def s23_8 (x0 : Int) (x1 x2 : Dt) : St := ⟨tsOf [(2, (.ptr 0 [] 0)), (3, (.ptr 1 [] 0)), (6, (.dat 3 (.int x0)))], [(.box 25 (.dat 25 x1)), (.box 25 (.dat 25 x2))], 0⟩
noncomputable def s23_7 (x0 : Int) (x1 x2 : Dt) : St := ⟨tsOf [(2, (.ptr 0 [] 0)), (3, (.ptr 1 [] 0)), (6, (.dat 3 (.int x0)))], [(.box 25 (.dat 25 x1)), (.box 25 (.dat 25 x2))], 0⟩
noncomputable def s23_6 (x0 x1 : Dt) : St := ⟨tsOf [(2, (.ptr 0 [] 0)), (3, (.ptr 1 [] 0))], [(.box 25 (.dat 25 x0)), (.box 25 (.dat 25 x1))], 0⟩
noncomputable def s23_3 (x0 : Int) (x1 x2 : Dt) : St := ⟨tsOf [(2, (.ptr 0 [] 0)), (3, (.ptr 1 [] 0)), (5, (.dat 3 (.int x0)))], [(.box 25 (.dat 25 x1)), (.box 25 (.dat 25 x2))], 0⟩
noncomputable def s23_2 (x0 : Int) (x1 x2 : Dt) : St := ⟨tsOf [(2, (.ptr 0 [] 0)), (3, (.ptr 1 [] 0)), (5, (.dat 3 (.int x0)))], [(.box 25 (.dat 25 x1)), (.box 25 (.dat 25 x2))], 0⟩
noncomputable def s23_1 (x0 x1 : Dt) : St := ⟨tsOf [(2, (.ptr 0 [] 0)), (3, (.ptr 1 [] 0))], [(.box 25 (.dat 25 x0)), (.box 25 (.dat 25 x1))], 0⟩
noncomputable def s23_0 (x0 : Bool) (x1 x2 : Dt) : St := ⟨tsOf [(2, (.ptr 0 [] 0)), (3, (.ptr 1 [] 0)), (43, (.dat 4 (.bool x0)))], [(.box 25 (.dat 25 x1)), (.box 25 (.dat 25 x2))], 0⟩
theorem ref01_Same_j5_eq (m : Nat) (M3 : Nat) (rec3 : Int → Dt → Dt → Option Bool) (h3 : ∀ (x0 : Int) (x1 x2 : Dt), l23 jn m [1, 1, 0, 1, 0] [] M3 (s23_3 x0 x1 x2) = rec3 x0 x1 x2) (x0 : Int) (x1 x2 : Dt) : e23 jn m [1, 1, 0, 1, 0, 0, 1, 1] [M3] (s23_5 x0 x1 x2) = ref01_Same_j5 m (ref01_Same m) rec3 x0 x1 x2 := by
  have h : ∀ J, e23 J m [1, 1, 0, 1, 0, 0, 1, 1] [M3] (s23_5 x0 x1 x2) =
    (J 1 4 M3 (s23_3 (IntKind.wrap .i64 (x0 + 1)) x1 x2) (l23 J m [1, 1, 0, 1, 0] [] M3 (s23_3 (IntKind.wrap .i64 (x0 + 1)) x1 x2))) := fun J => by kernel_rfl
  exact (h jn).trans (by
    simp only [jn_eq, h3]
    rfl)
theorem ref01_Same_j4_eq (m : Nat) (M3 : Nat) (rec3 : Int → Dt → Dt → Option Bool) (h3 : ∀ (x0 : Int) (x1 x2 : Dt), l23 jn m [1, 1, 0, 1, 0] [] M3 (s23_3 x0 x1 x2) = rec3 x0 x1 x2) (x0 : Int) (x1 x2 : Dt) : e23 jn m [1, 1, 0, 1, 0, 0, 1] [M3] (s23_4 x0 x1 x2) = ref01_Same_j4 m (ref01_Same m) rec3 x0 x1 x2 := by
  have h : ∀ J, e23 J m [1, 1, 0, 1, 0, 0, 1] [M3] (s23_4 x0 x1 x2) =
    ((idx (Dt.L x1 3) x0).bind fun v0 =>
   ((idx (Dt.L x2 3) x0).bind fun v1 =>
   ((ref01_Same m v0 v1).bind fun r2 =>
   (bif (Bool.not r2) then
   some false
   else
   (J 0 5 0 (s23_5 x0 x1 x2) (e23 J m [1, 1, 0, 1, 0, 0, 1, 1] [M3] (s23_5 x0 x1 x2))))))) := fun J => by kernel_rfl
  exact (h jn).trans (by
    simp only [jn_eq, ref01_Same_j5_eq m M3 rec3 h3]
    rfl)
theorem ref01_Same_j11_eq (m : Nat) (M8 : Nat) (rec8 : Int → Dt → Dt → Option Bool) (h8 : ∀ (x0 : Int) (x1 x2 : Dt), l23 jn m [1, 1, 1, 0, 1, 0] [] M8 (s23_8 x0 x1 x2) = rec8 x0 x1 x2) (x0 : Int) (x1 x2 : Dt) : e23 jn m [1, 1, 1, 0, 1, 0, 0, 1, 1] [M8] (s23_11 x0 x1 x2) = ref01_Same_j11 m (ref01_Same m) rec8 x0 x1 x2 := by
  have h : ∀ J, e23 J m [1, 1, 1, 0, 1, 0, 0, 1, 1] [M8] (s23_11 x0 x1 x2) =
    (J 1 9 M8 (s23_8 (IntKind.wrap .i64 (x0 + 1)) x1 x2) (l23 J m [1, 1, 1, 0, 1, 0] [] M8 (s23_8 (IntKind.wrap .i64 (x0 + 1)) x1 x2))) := fun J => by kernel_rfl
  exact (h jn).trans (by
    simp only [jn_eq, h8]
    rfl)
theorem ref01_Same_j10_eq (m : Nat) (M8 : Nat) (rec8 : Int → Dt → Dt → Option Bool) (h8 : ∀ (x0 : Int) (x1 x2 : Dt), l23 jn m [1, 1, 1, 0, 1, 0] [] M8 (s23_8 x0 x1 x2) = rec8 x0 x1 x2) (x0 : Int) (x1 : Bool) (x2 x3 : Dt) : e23 jn m [1, 1, 1, 0, 1, 0, 0, 1, 0, 0, 1] [M8] (s23_10 x0 x1 x2 x3) = ref01_Same_j10 m (ref01_Same m) rec8 x0 x1 x2 x3 := by
  have h : ∀ J, e23 J m [1, 1, 1, 0, 1, 0, 0, 1, 0, 0, 1] [M8] (s23_10 x0 x1 x2 x3) =
    (bif x1 then
   some false
    else
   (J 0 10 0 (s23_11 x0 x2 x3) (e23 J m [1, 1, 1, 0, 1, 0, 0, 1, 1] [M8] (s23_11 x0 x2 x3)))) := fun J => by kernel_rfl
  exact (h jn).trans (by
    simp only [jn_eq, ref01_Same_j11_eq m M8 rec8 h8]
    rfl)
theorem ref01_Same_j9_eq (m : Nat) (M8 : Nat) (rec8 : Int → Dt → Dt → Option Bool) (h8 : ∀ (x0 : Int) (x1 x2 : Dt), l23 jn m [1, 1, 1, 0, 1, 0] [] M8 (s23_8 x0 x1 x2) = rec8 x0 x1 x2) (x0 : Int) (x1 x2 : Dt) : e23 jn m [1, 1, 1, 0, 1, 0, 0, 1] [M8] (s23_9 x0 x1 x2) = ref01_Same_j9 m (ref01_Same m) rec8 x0 x1 x2 := by
  have h : ∀ J, e23 J m [1, 1, 1, 0, 1, 0, 0, 1] [M8] (s23_9 x0 x1 x2) =
    ((idx (Dt.L x1 4) x0).bind fun v3 =>
   ((idx (Dt.L x2 4) x0).bind fun v4 =>
   (bif (Bool.not ((ByteArray.toList (Dt.S v3 0)) == (ByteArray.toList (Dt.S v4 0)))) then
   (J 0 12 0 (s23_10 x0 true x1 x2) (e23 J m [1, 1, 1, 0, 1, 0, 0, 1, 0, 0, 1] [M8] (s23_10 x0 true x1 x2)))
   else
   ((idx (Dt.L x1 4) x0).bind fun v5 =>
   ((idx (Dt.L x2 4) x0).bind fun v6 =>
   ((ref01_Same m (Dt.fld v5 1) (Dt.fld v6 1)).bind fun r7 =>
   (J 0 12 0 (s23_10 x0 (Bool.not r7) x1 x2) (e23 J m [1, 1, 1, 0, 1, 0, 0, 1, 0, 0, 1] [M8] (s23_10 x0 (Bool.not r7) x1 x2))))))))) := fun J => by kernel_rfl
  exact (h jn).trans (by
    simp only [jn_eq, ref01_Same_j10_eq m M8 rec8 h8]
    rfl)
theorem ref01_Same_j12_eq (m : Nat) : e23 jn m [1, 1, 1, 1] [] s23_12 = ref01_Same_j12 m (ref01_Same m) := by
  have h : ∀ J, e23 J m [1, 1, 1, 1] [] s23_12 =
    some true := fun J => by kernel_rfl
  exact (h jn).trans (rfl)
theorem ref01_Same_l8_eq (m : Nat) : ∀ (M8 : Nat) (x0 : Int) (x1 x2 : Dt), l23 jn m [1, 1, 1, 0, 1, 0] [] M8 (s23_8 x0 x1 x2) = ref01_Same_l8 m (ref01_Same m) M8 x0 x1 x2
  | 0, _, _, _ => rfl
  | M8 + 1, x0, x1, x2 => by
    have h : ∀ J, l23 J m [1, 1, 1, 0, 1, 0] [] (M8 + 1) (s23_8 x0 x1 x2) =
    (bif (decide (x0 < (List.length (Dt.L x1 4) : Int))) then
   (J 0 11 0 (s23_9 x0 x1 x2) (e23 J m [1, 1, 1, 0, 1, 0, 0, 1] [M8] (s23_9 x0 x1 x2)))
    else
   (J 0 13 0 s23_12 (e23 J m [1, 1, 1, 1] [] s23_12))) := fun J => by kernel_rfl
    refine (h jn).trans ?_
    simp only [jn_eq, ref01_Same_j9_eq m M8 (ref01_Same_l8 m (ref01_Same m) M8) (fun x0 x1 x2 => ref01_Same_l8_eq m M8 x0 x1 x2), ref01_Same_j12_eq m]
    rfl
theorem ref01_Same_j7_eq (m : Nat) (x0 : Int) (x1 x2 : Dt) : e23 jn m [1, 1, 1, 0, 1] [] (s23_7 x0 x1 x2) = ref01_Same_j7 m (ref01_Same m) x0 x1 x2 := by
  have h : ∀ J, e23 J m [1, 1, 1, 0, 1] [] (s23_7 x0 x1 x2) =
    (J 1 9 (Nat.succ m) (s23_8 x0 x1 x2) (l23 J m [1, 1, 1, 0, 1, 0] [] (Nat.succ m) (s23_8 x0 x1 x2))) := fun J => by kernel_rfl
  exact (h jn).trans (by
    simp only [jn_eq, ref01_Same_l8_eq m]
    rfl)
theorem ref01_Same_j6_eq (m : Nat) (x0 x1 : Dt) : e23 jn m [1, 1, 1] [] (s23_6 x0 x1) = ref01_Same_j6 m (ref01_Same m) x0 x1 := by
  have h : ∀ J, e23 J m [1, 1, 1] [] (s23_6 x0 x1) =
    (J 0 9 0 (s23_7 0 x0 x1) (e23 J m [1, 1, 1, 0, 1] [] (s23_7 0 x0 x1))) := fun J => by kernel_rfl
  exact (h jn).trans (by
    simp only [jn_eq, ref01_Same_j7_eq m]
    rfl)
theorem ref01_Same_l3_eq (m : Nat) : ∀ (M3 : Nat) (x0 : Int) (x1 x2 : Dt), l23 jn m [1, 1, 0, 1, 0] [] M3 (s23_3 x0 x1 x2) = ref01_Same_l3 m (ref01_Same m) M3 x0 x1 x2
  | 0, _, _, _ => rfl
  | M3 + 1, x0, x1, x2 => by
    have h : ∀ J, l23 J m [1, 1, 0, 1, 0] [] (M3 + 1) (s23_3 x0 x1 x2) =
    (bif (decide (x0 < (List.length (Dt.L x1 3) : Int))) then
   (J 0 6 0 (s23_4 x0 x1 x2) (e23 J m [1, 1, 0, 1, 0, 0, 1] [M3] (s23_4 x0 x1 x2)))
    else
   (J 0 8 0 (s23_6 x1 x2) (e23 J m [1, 1, 1] [] (s23_6 x1 x2)))) := fun J => by kernel_rfl
    refine (h jn).trans ?_
    simp only [jn_eq, ref01_Same_j4_eq m M3 (ref01_Same_l3 m (ref01_Same m) M3) (fun x0 x1 x2 => ref01_Same_l3_eq m M3 x0 x1 x2), ref01_Same_j6_eq m]
    rfl
theorem ref01_Same_j2_eq (m : Nat) (x0 : Int) (x1 x2 : Dt) : e23 jn m [1, 1, 0, 1] [] (s23_2 x0 x1 x2) = ref01_Same_j2 m (ref01_Same m) x0 x1 x2 := by
  have h : ∀ J, e23 J m [1, 1, 0, 1] [] (s23_2 x0 x1 x2) =
    (J 1 4 (Nat.succ m) (s23_3 x0 x1 x2) (l23 J m [1, 1, 0, 1, 0] [] (Nat.succ m) (s23_3 x0 x1 x2))) := fun J => by kernel_rfl
  exact (h jn).trans (by
    simp only [jn_eq, ref01_Same_l3_eq m]
    rfl)
theorem ref01_Same_j1_eq (m : Nat) (x0 x1 : Dt) : e23 jn m [1, 1] [] (s23_1 x0 x1) = ref01_Same_j1 m (ref01_Same m) x0 x1 := by
  have h : ∀ J, e23 J m [1, 1] [] (s23_1 x0 x1) =
    (J 0 4 0 (s23_2 0 x0 x1) (e23 J m [1, 1, 0, 1] [] (s23_2 0 x0 x1))) := fun J => by kernel_rfl
  exact (h jn).trans (by
    simp only [jn_eq, ref01_Same_j2_eq m]
    rfl)
theorem ref01_Same_j0_eq (m : Nat) (x0 : Bool) (x1 x2 : Dt) : e23 jn m [1, 0, 1] [] (s23_0 x0 x1 x2) = ref01_Same_j0 m (ref01_Same m) x0 x1 x2 := by
  have h : ∀ J, e23 J m [1, 0, 1] [] (s23_0 x0 x1 x2) =
    (bif x0 then
   some false
    else
   (J 0 3 0 (s23_1 x1 x2) (e23 J m [1, 1] [] (s23_1 x1 x2)))) := fun J => by kernel_rfl
  exact (h jn).trans (by
    simp only [jn_eq, ref01_Same_j1_eq m]
    rfl)
theorem ref01_Same_eq (m : Nat) (a0 a1 : Dt) : e23 jn m [] [] ⟨[(.dat 25 a0), (.dat 25 a1)], [], 0⟩ = ref01_Same (m + 1) a0 a1 := by
  have h : ∀ J, e23 J m [] [] ⟨[(.dat 25 a0), (.dat 25 a1)], [], 0⟩ =
    (bif ((Dt.I a0 0) != (Dt.I a1 0)) then
   (J 0 2 0 (s23_0 true a0 a1) (e23 J m [1, 0, 1] [] (s23_0 true a0 a1)))
    else
   (bif ((Dt.I a0 1) != (Dt.I a1 1)) then
   (J 0 2 0 (s23_0 true a0 a1) (e23 J m [1, 0, 1] [] (s23_0 true a0 a1)))
   else
   (bif (Bool.not ((ByteArray.toList (Dt.S a0 2)) == (ByteArray.toList (Dt.S a1 2)))) then
   (J 0 2 0 (s23_0 true a0 a1) (e23 J m [1, 0, 1] [] (s23_0 true a0 a1)))
   else
   (bif ((List.length (Dt.L a0 3) : Int) != (List.length (Dt.L a1 3) : Int)) then
   (J 0 2 0 (s23_0 true a0 a1) (e23 J m [1, 0, 1] [] (s23_0 true a0 a1)))
   else
   (J 0 2 0 (s23_0 ((List.length (Dt.L a0 4) : Int) != (List.length (Dt.L a1 4) : Int)) a0 a1) (e23 J m [1, 0, 1] [] (s23_0 ((List.length (Dt.L a0 4) : Int) != (List.length (Dt.L a1 4) : Int)) a0 a1))))))) := fun J => by kernel_rfl
  refine (h jn).trans ?_
  simp only [jn_eq, ref01_Same_j0_eq m]
  rfl
noncomputable def d31 (q : Res) : Option Bool := match q with
  | (.dat T0 x0, []) => bif Nat.beq T0 4 then some x0.toBool else none
  | _ => none
theorem d31_sim {b : Res} {r : Bool} (h : d31 b = some r) : Sim Tryd.prog b ((.dat 4 (.bool r)), []) := by
  unfold d31 at h
  split at h
  · obtain ⟨hc, h2⟩ := bif_some h
    cases h2
    have e0 := beq_eq hc
    subst e0
    exact Sim.of (.of (.dat (.bool Tryd.underlying4)) rfl rfl) .nil
  · cases h
noncomputable def e31 (J : Nat → Nat → Nat → St → Option Bool → Option Bool) (m : Nat) (p ms : List Nat) (σ : St) := evAt Tryd.prog env (ct m) J (m + 1) 99 39 Tryd.f99 d31 p ms σ
noncomputable def l31 (J : Nat → Nat → Nat → St → Option Bool → Option Bool) (m : Nat) (p ms : List Nat) (M : Nat) (σ : St) := loopAt Tryd.prog env (ct m) J (m + 1) 99 39 Tryd.f99 d31 p ms M σ
noncomputable def s31_6 (x0 : ByteArray) (x1 x2 : Int) : St := ⟨tsOf [(0, (.dat 9 (.str x0))), (18, (.dat 3 (.int x1))), (19, (.dat 3 (.int x2)))], [], 0⟩
noncomputable def s31_5 (x0 : ByteArray) (x1 x2 : Int) (x3 : Bool) : St := ⟨tsOf [(0, (.dat 9 (.str x0))), (18, (.dat 3 (.int x1))), (19, (.dat 3 (.int x2))), (37, (.dat 4 (.bool x3)))], [], 0⟩
noncomputable def s31_4 (x0 : ByteArray) (x1 x2 : Int) : St := ⟨tsOf [(0, (.dat 9 (.str x0))), (18, (.dat 3 (.int x1))), (19, (.dat 3 (.int x2)))], [], 0⟩
noncomputable def s31_7 : St := ⟨tsOf [], [], 0⟩
noncomputable def s31_3 (x0 : ByteArray) (x1 x2 : Int) : St := ⟨tsOf [(0, (.dat 9 (.str x0))), (18, (.dat 3 (.int x1))), (19, (.dat 3 (.int x2)))], [], 0⟩
noncomputable def s31_2 (x0 : ByteArray) (x1 x2 : Int) : St := ⟨tsOf [(0, (.dat 9 (.str x0))), (18, (.dat 3 (.int x1))), (19, (.dat 3 (.int x2)))], [], 0⟩
noncomputable def s31_1 (x0 : ByteArray) : St := ⟨tsOf [(0, (.dat 9 (.str x0)))], [], 0⟩
noncomputable def s31_0 (x0 : ByteArray) (x1 : Bool) : St := ⟨tsOf [(0, (.dat 9 (.str x0))), (16, (.dat 4 (.bool x1)))], [], 0⟩
theorem value_isName_j6_eq (m : Nat) (M3 : Nat) (rec3 : ByteArray → Int → Int → Option Bool) (h3 : ∀ (x0 : ByteArray) (x1 x2 : Int), l31 jn m [1, 1, 0, 1, 0] [] M3 (s31_3 x0 x1 x2) = rec3 x0 x1 x2) (x0 : ByteArray) (x1 x2 : Int) : e31 jn m [1, 1, 0, 1, 0, 0, 1, 1, 1] [M3] (s31_6 x0 x1 x2) = value_isName_j6 m rec3 x0 x1 x2 := by
  have h : ∀ J, e31 J m [1, 1, 0, 1, 0, 0, 1, 1, 1] [M3] (s31_6 x0 x1 x2) =
    (J 1 4 M3 (s31_3 x0 x1 (IntKind.wrap .i64 (x2 + 1))) (l31 J m [1, 1, 0, 1, 0] [] M3 (s31_3 x0 x1 (IntKind.wrap .i64 (x2 + 1))))) := fun J => by kernel_rfl
  exact (h jn).trans (by
    simp only [jn_eq, h3]
    rfl)
theorem value_isName_j5_eq (m : Nat) (M3 : Nat) (rec3 : ByteArray → Int → Int → Option Bool) (h3 : ∀ (x0 : ByteArray) (x1 x2 : Int), l31 jn m [1, 1, 0, 1, 0] [] M3 (s31_3 x0 x1 x2) = rec3 x0 x1 x2) (x0 : ByteArray) (x1 x2 : Int) (x3 : Bool) : e31 jn m [1, 1, 0, 1, 0, 0, 1, 1, 0, 0, 1, 1] [M3] (s31_5 x0 x1 x2 x3) = value_isName_j5 m rec3 x0 x1 x2 x3 := by
  have h : ∀ J, e31 J m [1, 1, 0, 1, 0, 0, 1, 1, 0, 0, 1, 1] [M3] (s31_5 x0 x1 x2 x3) =
    (bif x3 then
   some false
    else
   (J 0 8 0 (s31_6 x0 x1 x2) (e31 J m [1, 1, 0, 1, 0, 0, 1, 1, 1] [M3] (s31_6 x0 x1 x2)))) := fun J => by kernel_rfl
  exact (h jn).trans (by
    simp only [jn_eq, value_isName_j6_eq m M3 rec3 h3]
    rfl)
theorem value_isName_j4_eq (m : Nat) (M3 : Nat) (rec3 : ByteArray → Int → Int → Option Bool) (h3 : ∀ (x0 : ByteArray) (x1 x2 : Int), l31 jn m [1, 1, 0, 1, 0] [] M3 (s31_3 x0 x1 x2) = rec3 x0 x1 x2) (x0 : ByteArray) (x1 x2 : Int) : e31 jn m [1, 1, 0, 1, 0, 0, 1, 1] [M3] (s31_4 x0 x1 x2) = value_isName_j4 m rec3 x0 x1 x2 := by
  have h : ∀ J, e31 J m [1, 1, 0, 1, 0, 0, 1, 1] [M3] (s31_4 x0 x1 x2) =
    ((idxS x0 x2).bind fun v0 =>
   (bif (decide (v0 < 33)) then
   (J 0 7 0 (s31_5 x0 x1 x2 true) (e31 J m [1, 1, 0, 1, 0, 0, 1, 1, 0, 0, 1, 1] [M3] (s31_5 x0 x1 x2 true)))
   else
   ((idxS x0 x2).bind fun v1 =>
   (bif (decide (126 < v1)) then
   (J 0 7 0 (s31_5 x0 x1 x2 true) (e31 J m [1, 1, 0, 1, 0, 0, 1, 1, 0, 0, 1, 1] [M3] (s31_5 x0 x1 x2 true)))
   else
   ((idxS x0 x2).bind fun v2 =>
   (J 0 7 0 (s31_5 x0 x1 x2 (v2 == 46)) (e31 J m [1, 1, 0, 1, 0, 0, 1, 1, 0, 0, 1, 1] [M3] (s31_5 x0 x1 x2 (v2 == 46))))))))) := fun J => by kernel_rfl
  exact (h jn).trans (by
    simp only [jn_eq, value_isName_j5_eq m M3 rec3 h3]
    rfl)
theorem value_isName_j7_eq (m : Nat) : e31 jn m [1, 1, 1] [] s31_7 = value_isName_j7 m := by
  have h : ∀ J, e31 J m [1, 1, 1] [] s31_7 =
    some true := fun J => by kernel_rfl
  exact (h jn).trans (rfl)
theorem value_isName_l3_eq (m : Nat) : ∀ (M3 : Nat) (x0 : ByteArray) (x1 x2 : Int), l31 jn m [1, 1, 0, 1, 0] [] M3 (s31_3 x0 x1 x2) = value_isName_l3 m M3 x0 x1 x2
  | 0, _, _, _ => rfl
  | M3 + 1, x0, x1, x2 => by
    have h : ∀ J, l31 J m [1, 1, 0, 1, 0] [] (M3 + 1) (s31_3 x0 x1 x2) =
    (bif (decide (x2 < x1)) then
   (J 0 5 0 (s31_4 x0 x1 x2) (e31 J m [1, 1, 0, 1, 0, 0, 1, 1] [M3] (s31_4 x0 x1 x2)))
    else
   (J 0 9 0 s31_7 (e31 J m [1, 1, 1] [] s31_7))) := fun J => by kernel_rfl
    refine (h jn).trans ?_
    simp only [jn_eq, value_isName_j4_eq m M3 (value_isName_l3 m M3) (fun x0 x1 x2 => value_isName_l3_eq m M3 x0 x1 x2), value_isName_j7_eq m]
    rfl
theorem value_isName_j2_eq (m : Nat) (x0 : ByteArray) (x1 x2 : Int) : e31 jn m [1, 1, 0, 1] [] (s31_2 x0 x1 x2) = value_isName_j2 m x0 x1 x2 := by
  have h : ∀ J, e31 J m [1, 1, 0, 1] [] (s31_2 x0 x1 x2) =
    (J 1 4 (Nat.succ m) (s31_3 x0 x1 x2) (l31 J m [1, 1, 0, 1, 0] [] (Nat.succ m) (s31_3 x0 x1 x2))) := fun J => by kernel_rfl
  exact (h jn).trans (by
    simp only [jn_eq, value_isName_l3_eq m]
    rfl)
theorem value_isName_j1_eq (m : Nat) (x0 : ByteArray) : e31 jn m [1, 1] [] (s31_1 x0) = value_isName_j1 m x0 := by
  have h : ∀ J, e31 J m [1, 1] [] (s31_1 x0) =
    (J 0 4 0 (s31_2 x0 (ByteArray.size x0 : Int) 0) (e31 J m [1, 1, 0, 1] [] (s31_2 x0 (ByteArray.size x0 : Int) 0))) := fun J => by kernel_rfl
  exact (h jn).trans (by
    simp only [jn_eq, value_isName_j2_eq m]
    rfl)
theorem value_isName_j0_eq (m : Nat) (x0 : ByteArray) (x1 : Bool) : e31 jn m [1, 0, 1] [] (s31_0 x0 x1) = value_isName_j0 m x0 x1 := by
  have h : ∀ J, e31 J m [1, 0, 1] [] (s31_0 x0 x1) =
    (bif x1 then
   some false
    else
   (J 0 3 0 (s31_1 x0) (e31 J m [1, 1] [] (s31_1 x0)))) := fun J => by kernel_rfl
  exact (h jn).trans (by
    simp only [jn_eq, value_isName_j1_eq m]
    rfl)
theorem value_isName_eq (m : Nat) (a0 : ByteArray) : e31 jn m [] [] ⟨[(.dat 9 (.str a0))], [], 0⟩ = value_isName (m + 1) a0 := by
  have h : ∀ J, e31 J m [] [] ⟨[(.dat 9 (.str a0))], [], 0⟩ =
    (bif (decide ((ByteArray.size a0 : Int) < 1)) then
   (J 0 2 0 (s31_0 a0 true) (e31 J m [1, 0, 1] [] (s31_0 a0 true)))
    else
   (bif (decide (32 < (ByteArray.size a0 : Int))) then
   (J 0 2 0 (s31_0 a0 true) (e31 J m [1, 0, 1] [] (s31_0 a0 true)))
   else
   ((idxS a0 0).bind fun v3 =>
   (J 0 2 0 (s31_0 a0 (v3 == 36)) (e31 J m [1, 0, 1] [] (s31_0 a0 (v3 == 36))))))) := fun J => by kernel_rfl
  refine (h jn).trans ?_
  simp only [jn_eq, value_isName_j0_eq m]
  rfl
noncomputable def d14 (q : Res) : Option Bool := match q with
  | (.dat T0 x0, []) => bif Nat.beq T0 4 then some x0.toBool else none
  | _ => none
theorem d14_sim {b : Res} {r : Bool} (h : d14 b = some r) : Sim Tryd.prog b ((.dat 4 (.bool r)), []) := by
  unfold d14 at h
  split at h
  · obtain ⟨hc, h2⟩ := bif_some h
    cases h2
    have e0 := beq_eq hc
    subst e0
    exact Sim.of (.of (.dat (.bool Tryd.underlying4)) rfl rfl) .nil
  · cases h
noncomputable def e14 (J : Nat → Nat → Nat → St → Option Bool → Option Bool) (m : Nat) (p ms : List Nat) (σ : St) := evAt Tryd.prog env (ct m) J (m + 1) 75 132 Tryd.f75 d14 p ms σ
noncomputable def l14 (J : Nat → Nat → Nat → St → Option Bool → Option Bool) (m : Nat) (p ms : List Nat) (M : Nat) (σ : St) := loopAt Tryd.prog env (ct m) J (m + 1) 75 132 Tryd.f75 d14 p ms M σ
noncomputable def s14_10 (x0 : List Dt) (x1 x2 : Int) : St := ⟨tsOf [(117, (.dat 22 (.lst x0))), (118, (.dat 3 (.int x1))), (119, (.dat 3 (.int x2)))], [], 0⟩
noncomputable def s14_9 (x0 : List Dt) (x1 x2 : Int) : St := ⟨tsOf [(117, (.dat 22 (.lst x0))), (118, (.dat 3 (.int x1))), (119, (.dat 3 (.int x2)))], [], 0⟩
noncomputable def s14_11 : St := ⟨tsOf [], [], 0⟩
noncomputable def s14_8 (x0 : List Dt) (x1 x2 : Int) : St := ⟨tsOf [(117, (.dat 22 (.lst x0))), (118, (.dat 3 (.int x1))), (119, (.dat 3 (.int x2)))], [], 0⟩
noncomputable def s14_7 (x0 : List Dt) (x1 x2 : Int) : St := ⟨tsOf [(117, (.dat 22 (.lst x0))), (118, (.dat 3 (.int x1))), (119, (.dat 3 (.int x2)))], [], 0⟩
noncomputable def s14_12 : St := ⟨tsOf [], [], 0⟩
noncomputable def s14_6 (x0 : Int) (x1 : Bool) (x2 : Dt) : St := ⟨tsOf [(1, (.ptr 0 [] 0)), (70, (.dat 3 (.int x0))), (71, (.dat 4 (.bool x1)))], [(.box 25 (.dat 25 x2))], 0⟩
noncomputable def s14_5 (x0 : Dt) : St := ⟨tsOf [(1, (.ptr 0 [] 0))], [(.box 25 (.dat 25 x0))], 0⟩
noncomputable def s14_4 (x0 : Bool) (x1 : Dt) : St := ⟨tsOf [(1, (.ptr 0 [] 0)), (68, (.dat 4 (.bool x0)))], [(.box 25 (.dat 25 x1))], 0⟩
noncomputable def s14_3 (x0 : Dt) : St := ⟨tsOf [(1, (.ptr 0 [] 0))], [(.box 25 (.dat 25 x0))], 0⟩
noncomputable def s14_2 (x0 : Bool) (x1 : Dt) : St := ⟨tsOf [(1, (.ptr 0 [] 0)), (48, (.dat 4 (.bool x0)))], [(.box 25 (.dat 25 x1))], 0⟩
noncomputable def s14_1 (x0 x1 : Bool) (x2 : Dt) : St := ⟨tsOf [(1, (.ptr 0 [] 0)), (3, (.dat 4 (.bool x0))), (4, (.dat 4 (.bool x1)))], [(.box 25 (.dat 25 x2))], 0⟩
noncomputable def s14_0 (x0 : Bool) (x1 : Dt) : St := ⟨tsOf [(1, (.ptr 0 [] 0)), (3, (.dat 4 (.bool x0)))], [(.box 25 (.dat 25 x1))], 0⟩
theorem value_sound_j10_eq (m : Nat) (M8 : Nat) (rec8 : List Dt → Int → Int → Option Bool) (h8 : ∀ (x0 : List Dt) (x1 x2 : Int), l14 jn m [1, 1, 1, 1, 1, 0, 1, 0, 1, 1, 1, 1, 1, 1, 1, 1, 1, 1, 1, 1, 1, 0, 0, 1, 0] [] M8 (s14_8 x0 x1 x2) = rec8 x0 x1 x2) (x0 : List Dt) (x1 x2 : Int) : e14 jn m [1, 1, 1, 1, 1, 0, 1, 0, 1, 1, 1, 1, 1, 1, 1, 1, 1, 1, 1, 1, 1, 0, 0, 1, 0, 0, 1, 1, 1] [M8] (s14_10 x0 x1 x2) = value_sound_j10 m (value_sound m) (value_soundFields m) rec8 x0 x1 x2 := by
  have h : ∀ J, e14 J m [1, 1, 1, 1, 1, 0, 1, 0, 1, 1, 1, 1, 1, 1, 1, 1, 1, 1, 1, 1, 1, 0, 0, 1, 0, 0, 1, 1, 1] [M8] (s14_10 x0 x1 x2) =
    (J 1 25 M8 (s14_8 x0 x1 (IntKind.wrap .i64 (x2 + 1))) (l14 J m [1, 1, 1, 1, 1, 0, 1, 0, 1, 1, 1, 1, 1, 1, 1, 1, 1, 1, 1, 1, 1, 0, 0, 1, 0] [] M8 (s14_8 x0 x1 (IntKind.wrap .i64 (x2 + 1))))) := fun J => by kernel_rfl
  exact (h jn).trans (by
    simp only [jn_eq, h8]
    rfl)
theorem value_sound_j9_eq (m : Nat) (M8 : Nat) (rec8 : List Dt → Int → Int → Option Bool) (h8 : ∀ (x0 : List Dt) (x1 x2 : Int), l14 jn m [1, 1, 1, 1, 1, 0, 1, 0, 1, 1, 1, 1, 1, 1, 1, 1, 1, 1, 1, 1, 1, 0, 0, 1, 0] [] M8 (s14_8 x0 x1 x2) = rec8 x0 x1 x2) (x0 : List Dt) (x1 x2 : Int) : e14 jn m [1, 1, 1, 1, 1, 0, 1, 0, 1, 1, 1, 1, 1, 1, 1, 1, 1, 1, 1, 1, 1, 0, 0, 1, 0, 0, 1, 1] [M8] (s14_9 x0 x1 x2) = value_sound_j9 m (value_sound m) (value_soundFields m) rec8 x0 x1 x2 := by
  have h : ∀ J, e14 J m [1, 1, 1, 1, 1, 0, 1, 0, 1, 1, 1, 1, 1, 1, 1, 1, 1, 1, 1, 1, 1, 0, 0, 1, 0, 0, 1, 1] [M8] (s14_9 x0 x1 x2) =
    ((idx x0 x2).bind fun v1 =>
   ((value_sound m v1).bind fun r2 =>
   (bif (Bool.not r2) then
   some false
   else
   (J 0 29 0 (s14_10 x0 x1 x2) (e14 J m [1, 1, 1, 1, 1, 0, 1, 0, 1, 1, 1, 1, 1, 1, 1, 1, 1, 1, 1, 1, 1, 0, 0, 1, 0, 0, 1, 1, 1] [M8] (s14_10 x0 x1 x2)))))) := fun J => by kernel_rfl
  exact (h jn).trans (by
    simp only [jn_eq, value_sound_j10_eq m M8 rec8 h8]
    rfl)
theorem value_sound_j11_eq (m : Nat) : e14 jn m [1, 1, 1, 1, 1, 0, 1, 0, 1, 1, 1, 1, 1, 1, 1, 1, 1, 1, 1, 1, 1, 0, 1] [] s14_11 = value_sound_j11 m (value_sound m) (value_soundFields m) := by
  have h : ∀ J, e14 J m [1, 1, 1, 1, 1, 0, 1, 0, 1, 1, 1, 1, 1, 1, 1, 1, 1, 1, 1, 1, 1, 0, 1] [] s14_11 =
    some true := fun J => by kernel_rfl
  exact (h jn).trans (rfl)
theorem value_sound_l8_eq (m : Nat) : ∀ (M8 : Nat) (x0 : List Dt) (x1 x2 : Int), l14 jn m [1, 1, 1, 1, 1, 0, 1, 0, 1, 1, 1, 1, 1, 1, 1, 1, 1, 1, 1, 1, 1, 0, 0, 1, 0] [] M8 (s14_8 x0 x1 x2) = value_sound_l8 m (value_sound m) (value_soundFields m) M8 x0 x1 x2
  | 0, _, _, _ => rfl
  | M8 + 1, x0, x1, x2 => by
    have h : ∀ J, l14 J m [1, 1, 1, 1, 1, 0, 1, 0, 1, 1, 1, 1, 1, 1, 1, 1, 1, 1, 1, 1, 1, 0, 0, 1, 0] [] (M8 + 1) (s14_8 x0 x1 x2) =
    (bif (decide (x2 < x1)) then
   (J 0 26 0 (s14_9 x0 x1 x2) (e14 J m [1, 1, 1, 1, 1, 0, 1, 0, 1, 1, 1, 1, 1, 1, 1, 1, 1, 1, 1, 1, 1, 0, 0, 1, 0, 0, 1, 1] [M8] (s14_9 x0 x1 x2)))
    else
   (J 0 30 0 s14_11 (e14 J m [1, 1, 1, 1, 1, 0, 1, 0, 1, 1, 1, 1, 1, 1, 1, 1, 1, 1, 1, 1, 1, 0, 1] [] s14_11))) := fun J => by kernel_rfl
    refine (h jn).trans ?_
    simp only [jn_eq, value_sound_j9_eq m M8 (value_sound_l8 m (value_sound m) (value_soundFields m) M8) (fun x0 x1 x2 => value_sound_l8_eq m M8 x0 x1 x2), value_sound_j11_eq m]
    rfl
theorem value_sound_j7_eq (m : Nat) (x0 : List Dt) (x1 x2 : Int) : e14 jn m [1, 1, 1, 1, 1, 0, 1, 0, 1, 1, 1, 1, 1, 1, 1, 1, 1, 1, 1, 1, 1, 0, 0, 1] [] (s14_7 x0 x1 x2) = value_sound_j7 m (value_sound m) (value_soundFields m) x0 x1 x2 := by
  have h : ∀ J, e14 J m [1, 1, 1, 1, 1, 0, 1, 0, 1, 1, 1, 1, 1, 1, 1, 1, 1, 1, 1, 1, 1, 0, 0, 1] [] (s14_7 x0 x1 x2) =
    (J 1 25 (Nat.succ m) (s14_8 x0 x1 x2) (l14 J m [1, 1, 1, 1, 1, 0, 1, 0, 1, 1, 1, 1, 1, 1, 1, 1, 1, 1, 1, 1, 1, 0, 0, 1, 0] [] (Nat.succ m) (s14_8 x0 x1 x2))) := fun J => by kernel_rfl
  exact (h jn).trans (by
    simp only [jn_eq, value_sound_l8_eq m]
    rfl)
theorem value_sound_j12_eq (m : Nat) : e14 jn m [1, 1, 1, 1, 1, 1] [] s14_12 = value_sound_j12 m (value_sound m) (value_soundFields m) := by
  have h : ∀ J, e14 J m [1, 1, 1, 1, 1, 1] [] s14_12 =
    some false := fun J => by kernel_rfl
  exact (h jn).trans (rfl)
theorem value_sound_j6_eq (m : Nat) (x0 : Int) (x1 : Bool) (x2 : Dt) : e14 jn m [1, 1, 1, 1, 1, 0, 1, 0, 1] [] (s14_6 x0 x1 x2) = value_sound_j6 m (value_sound m) (value_soundFields m) x0 x1 x2 := by
  have h : ∀ J, e14 J m [1, 1, 1, 1, 1, 0, 1, 0, 1] [] (s14_6 x0 x1 x2) =
    (bif x1 then
   some true
    else
   (bif (x0 == 9) then
   (bif ((Dt.I x2 1) == 0) then
   some true
   else
   some ((Dt.I x2 1) == 1))
   else
   (bif (x0 == 10) then
   some (decide (0 ≤ (Dt.I x2 1)))
   else
   (bif (x0 == 4) then
   (bif (decide ((ByteArray.size (Dt.S x2 2) : Int) ≤ 4096)) then
   ((utf8_ValidString (Dt.S x2 2)).bind fun r0 =>
   some r0)
   else
   some false)
   else
   (bif (x0 == 7) then
   some (decide ((ByteArray.size (Dt.S x2 2) : Int) ≤ 4096))
   else
   (bif (x0 == 8) then
   some ((ByteArray.size (Dt.S x2 2) : Int) == 12)
   else
   (bif (x0 == 6) then
   (J 0 25 0 (s14_7 (Dt.L x2 3) (List.length (Dt.L x2 3) : Int) 0) (e14 J m [1, 1, 1, 1, 1, 0, 1, 0, 1, 1, 1, 1, 1, 1, 1, 1, 1, 1, 1, 1, 1, 0, 0, 1] [] (s14_7 (Dt.L x2 3) (List.length (Dt.L x2 3) : Int) 0)))
   else
   (bif (x0 == 5) then
   ((value_soundFields m (Dt.L x2 4)).bind fun r3 =>
   some r3)
   else
   (J 0 33 0 s14_12 (e14 J m [1, 1, 1, 1, 1, 1] [] s14_12)))))))))) := fun J => by kernel_rfl
  exact (h jn).trans (by
    simp only [jn_eq, value_sound_j7_eq m, value_sound_j12_eq m]
    rfl)
theorem value_sound_j5_eq (m : Nat) (x0 : Dt) : e14 jn m [1, 1, 1, 1, 1] [] (s14_5 x0) = value_sound_j5 m (value_sound m) (value_soundFields m) x0 := by
  have h : ∀ J, e14 J m [1, 1, 1, 1, 1] [] (s14_5 x0) =
    (bif ((Dt.I x0 0) == 1) then
   (J 0 12 0 (s14_6 (Dt.I x0 0) ((Dt.I x0 0) == 1) x0) (e14 J m [1, 1, 1, 1, 1, 0, 1, 0, 1] [] (s14_6 (Dt.I x0 0) ((Dt.I x0 0) == 1) x0)))
    else
   (bif ((Dt.I x0 0) == 2) then
   (J 0 12 0 (s14_6 (Dt.I x0 0) ((Dt.I x0 0) == 2) x0) (e14 J m [1, 1, 1, 1, 1, 0, 1, 0, 1] [] (s14_6 (Dt.I x0 0) ((Dt.I x0 0) == 2) x0)))
   else
   (bif ((Dt.I x0 0) == 11) then
   (J 0 12 0 (s14_6 (Dt.I x0 0) ((Dt.I x0 0) == 11) x0) (e14 J m [1, 1, 1, 1, 1, 0, 1, 0, 1] [] (s14_6 (Dt.I x0 0) ((Dt.I x0 0) == 11) x0)))
   else
   (J 0 12 0 (s14_6 (Dt.I x0 0) ((Dt.I x0 0) == 3) x0) (e14 J m [1, 1, 1, 1, 1, 0, 1, 0, 1] [] (s14_6 (Dt.I x0 0) ((Dt.I x0 0) == 3) x0)))))) := fun J => by kernel_rfl
  exact (h jn).trans (by
    simp only [jn_eq, value_sound_j6_eq m]
    rfl)
theorem value_sound_j4_eq (m : Nat) (x0 : Bool) (x1 : Dt) : e14 jn m [1, 1, 1, 1, 0, 1] [] (s14_4 x0 x1) = value_sound_j4 m (value_sound m) (value_soundFields m) x0 x1 := by
  have h : ∀ J, e14 J m [1, 1, 1, 1, 0, 1] [] (s14_4 x0 x1) =
    (bif x0 then
   some false
    else
   (J 0 7 0 (s14_5 x1) (e14 J m [1, 1, 1, 1, 1] [] (s14_5 x1)))) := fun J => by kernel_rfl
  exact (h jn).trans (by
    simp only [jn_eq, value_sound_j5_eq m]
    rfl)
theorem value_sound_j3_eq (m : Nat) (x0 : Dt) : e14 jn m [1, 1, 1, 1] [] (s14_3 x0) = value_sound_j3 m (value_sound m) (value_soundFields m) x0 := by
  have h : ∀ J, e14 J m [1, 1, 1, 1] [] (s14_3 x0) =
    (bif ((Dt.I x0 0) != 6) then
   (bif (decide (0 < (List.length (Dt.L x0 3) : Int))) then
   (J 0 6 0 (s14_4 true x0) (e14 J m [1, 1, 1, 1, 0, 1] [] (s14_4 true x0)))
   else
   (bif ((Dt.I x0 0) != 5) then
   (J 0 6 0 (s14_4 (decide (0 < (List.length (Dt.L x0 4) : Int))) x0) (e14 J m [1, 1, 1, 1, 0, 1] [] (s14_4 (decide (0 < (List.length (Dt.L x0 4) : Int))) x0)))
   else
   (J 0 6 0 (s14_4 false x0) (e14 J m [1, 1, 1, 1, 0, 1] [] (s14_4 false x0)))))
    else
   (bif ((Dt.I x0 0) != 5) then
   (J 0 6 0 (s14_4 (decide (0 < (List.length (Dt.L x0 4) : Int))) x0) (e14 J m [1, 1, 1, 1, 0, 1] [] (s14_4 (decide (0 < (List.length (Dt.L x0 4) : Int))) x0)))
   else
   (J 0 6 0 (s14_4 false x0) (e14 J m [1, 1, 1, 1, 0, 1] [] (s14_4 false x0))))) := fun J => by kernel_rfl
  exact (h jn).trans (by
    simp only [jn_eq, value_sound_j4_eq m]
    rfl)
theorem value_sound_j2_eq (m : Nat) (x0 : Bool) (x1 : Dt) : e14 jn m [1, 1, 1, 0, 1] [] (s14_2 x0 x1) = value_sound_j2 m (value_sound m) (value_soundFields m) x0 x1 := by
  have h : ∀ J, e14 J m [1, 1, 1, 0, 1] [] (s14_2 x0 x1) =
    (bif x0 then
   some false
    else
   (J 0 5 0 (s14_3 x1) (e14 J m [1, 1, 1, 1] [] (s14_3 x1)))) := fun J => by kernel_rfl
  exact (h jn).trans (by
    simp only [jn_eq, value_sound_j3_eq m]
    rfl)
theorem value_sound_j1_eq (m : Nat) (x0 x1 : Bool) (x2 : Dt) : e14 jn m [1, 1, 1] [] (s14_1 x0 x1 x2) = value_sound_j1 m (value_sound m) (value_soundFields m) x0 x1 x2 := by
  have h : ∀ J, e14 J m [1, 1, 1] [] (s14_1 x0 x1 x2) =
    (bif (Bool.not x0) then
   (bif ((Dt.I x2 1) != 0) then
   (J 0 4 0 (s14_2 true x2) (e14 J m [1, 1, 1, 0, 1] [] (s14_2 true x2)))
   else
   (bif (Bool.not x1) then
   (J 0 4 0 (s14_2 (Bool.not ((ByteArray.toList (Dt.S x2 2)) == [])) x2) (e14 J m [1, 1, 1, 0, 1] [] (s14_2 (Bool.not ((ByteArray.toList (Dt.S x2 2)) == [])) x2)))
   else
   (J 0 4 0 (s14_2 false x2) (e14 J m [1, 1, 1, 0, 1] [] (s14_2 false x2)))))
    else
   (bif (Bool.not x1) then
   (J 0 4 0 (s14_2 (Bool.not ((ByteArray.toList (Dt.S x2 2)) == [])) x2) (e14 J m [1, 1, 1, 0, 1] [] (s14_2 (Bool.not ((ByteArray.toList (Dt.S x2 2)) == [])) x2)))
   else
   (J 0 4 0 (s14_2 false x2) (e14 J m [1, 1, 1, 0, 1] [] (s14_2 false x2))))) := fun J => by kernel_rfl
  exact (h jn).trans (by
    simp only [jn_eq, value_sound_j2_eq m]
    rfl)
theorem value_sound_j0_eq (m : Nat) (x0 : Bool) (x1 : Dt) : e14 jn m [1, 1] [] (s14_0 x0 x1) = value_sound_j0 m (value_sound m) (value_soundFields m) x0 x1 := by
  have h : ∀ J, e14 J m [1, 1] [] (s14_0 x0 x1) =
    (bif ((Dt.I x1 0) == 4) then
   (J 0 3 0 (s14_1 x0 true x1) (e14 J m [1, 1, 1] [] (s14_1 x0 true x1)))
    else
   (bif ((Dt.I x1 0) == 7) then
   (J 0 3 0 (s14_1 x0 true x1) (e14 J m [1, 1, 1] [] (s14_1 x0 true x1)))
   else
   (J 0 3 0 (s14_1 x0 ((Dt.I x1 0) == 8) x1) (e14 J m [1, 1, 1] [] (s14_1 x0 ((Dt.I x1 0) == 8) x1))))) := fun J => by kernel_rfl
  exact (h jn).trans (by
    simp only [jn_eq, value_sound_j1_eq m]
    rfl)
theorem value_sound_eq (m : Nat) (a0 : Dt) : e14 jn m [] [] ⟨[(.dat 25 a0)], [], 0⟩ = value_sound (m + 1) a0 := by
  have h : ∀ J, e14 J m [] [] ⟨[(.dat 25 a0)], [], 0⟩ =
    (bif ((Dt.I a0 0) == 3) then
   (J 0 2 0 (s14_0 true a0) (e14 J m [1, 1] [] (s14_0 true a0)))
    else
   (bif ((Dt.I a0 0) == 9) then
   (J 0 2 0 (s14_0 true a0) (e14 J m [1, 1] [] (s14_0 true a0)))
   else
   (J 0 2 0 (s14_0 ((Dt.I a0 0) == 10) a0) (e14 J m [1, 1] [] (s14_0 ((Dt.I a0 0) == 10) a0))))) := fun J => by kernel_rfl
  refine (h jn).trans ?_
  simp only [jn_eq, value_sound_j0_eq m]
  rfl
noncomputable def d21 (q : Res) : Option Bool := match q with
  | (.dat T0 x0, []) => bif Nat.beq T0 4 then some x0.toBool else none
  | _ => none
theorem d21_sim {b : Res} {r : Bool} (h : d21 b = some r) : Sim Tryd.prog b ((.dat 4 (.bool r)), []) := by
  unfold d21 at h
  split at h
  · obtain ⟨hc, h2⟩ := bif_some h
    cases h2
    have e0 := beq_eq hc
    subst e0
    exact Sim.of (.of (.dat (.bool Tryd.underlying4)) rfl rfl) .nil
  · cases h
noncomputable def e21 (J : Nat → Nat → Nat → St → Option Bool → Option Bool) (m : Nat) (p ms : List Nat) (σ : St) := evAt Tryd.prog env (ct m) J (m + 1) 89 33 Tryd.f89 d21 p ms σ
noncomputable def l21 (J : Nat → Nat → Nat → St → Option Bool → Option Bool) (m : Nat) (p ms : List Nat) (M : Nat) (σ : St) := loopAt Tryd.prog env (ct m) J (m + 1) 89 33 Tryd.f89 d21 p ms M σ
noncomputable def s21_5 (x0 : List Dt) (x1 x2 : Int) (x3 : List Dt) : St := ⟨tsOf [(3, (.row 0)), (7, (.dat 23 (.lst x0))), (8, (.dat 3 (.int x1))), (9, (.dat 3 (.int x2)))], [(.map 89 x3)], 0⟩
noncomputable def s21_4 (x0 : List Dt) (x1 x2 : Int) (x3 : List Dt) (x4 : Dt) : St := ⟨tsOf [(3, (.row 0)), (5, (.ptr 1 [] 0)), (7, (.dat 23 (.lst x0))), (8, (.dat 3 (.int x1))), (9, (.dat 3 (.int x2)))], [(.map 89 x3), (.box 56 (.dat 56 x4))], 0⟩
noncomputable def s21_3 (x0 : List Dt) (x1 x2 : Int) (x3 : Bool) (x4 : List Dt) (x5 : Dt) : St := ⟨tsOf [(3, (.row 0)), (5, (.ptr 1 [] 0)), (7, (.dat 23 (.lst x0))), (8, (.dat 3 (.int x1))), (9, (.dat 3 (.int x2))), (28, (.dat 4 (.bool x3)))], [(.map 89 x4), (.box 56 (.dat 56 x5))], 0⟩
noncomputable def s21_2 (x0 : List Dt) (x1 x2 : Int) (x3 : List Dt) : St := ⟨tsOf [(3, (.row 0)), (7, (.dat 23 (.lst x0))), (8, (.dat 3 (.int x1))), (9, (.dat 3 (.int x2)))], [(.map 89 x3)], 0⟩
noncomputable def s21_6 : St := ⟨tsOf [], [], 0⟩
noncomputable def s21_1 (x0 : List Dt) (x1 x2 : Int) (x3 : List Dt) : St := ⟨tsOf [(3, (.row 0)), (7, (.dat 23 (.lst x0))), (8, (.dat 3 (.int x1))), (9, (.dat 3 (.int x2)))], [(.map 89 x3)], 0⟩
noncomputable def s21_0 (x0 : List Dt) (x1 x2 : Int) (x3 : List Dt) : St := ⟨tsOf [(3, (.row 0)), (7, (.dat 23 (.lst x0))), (8, (.dat 3 (.int x1))), (9, (.dat 3 (.int x2)))], [(.map 89 x3)], 0⟩
theorem value_soundFields_j5_eq (m : Nat) (M1 : Nat) (rec1 : List Dt → Int → Int → List Dt → Option Bool) (h1 : ∀ (x0 : List Dt) (x1 x2 : Int) (x3 : List Dt), l21 jn m [1, 1, 0, 1, 0] [] M1 (s21_1 x0 x1 x2 x3) = rec1 x0 x1 x2 x3) (x0 : List Dt) (x1 x2 : Int) (x3 : List Dt) : e21 jn m [1, 1, 0, 1, 0, 0, 1, 1, 1] [M1] (s21_5 x0 x1 x2 x3) = value_soundFields_j5 m (value_sound m) rec1 x0 x1 x2 x3 := by
  have h : ∀ J, e21 J m [1, 1, 0, 1, 0, 0, 1, 1, 1] [M1] (s21_5 x0 x1 x2 x3) =
    (J 1 3 M1 (s21_1 x0 x1 (IntKind.wrap .i64 (x2 + 1)) x3) (l21 J m [1, 1, 0, 1, 0] [] M1 (s21_1 x0 x1 (IntKind.wrap .i64 (x2 + 1)) x3))) := fun J => by kernel_rfl
  exact (h jn).trans (by
    simp only [jn_eq, h1]
    rfl)
theorem value_soundFields_j4_eq (m : Nat) (M1 : Nat) (rec1 : List Dt → Int → Int → List Dt → Option Bool) (h1 : ∀ (x0 : List Dt) (x1 x2 : Int) (x3 : List Dt), l21 jn m [1, 1, 0, 1, 0] [] M1 (s21_1 x0 x1 x2 x3) = rec1 x0 x1 x2 x3) (x0 : List Dt) (x1 x2 : Int) (x3 : List Dt) (x4 : Dt) : e21 jn m [1, 1, 0, 1, 0, 0, 1, 1, 0, 0, 1, 1] [M1] (s21_4 x0 x1 x2 x3 x4) = value_soundFields_j4 m (value_sound m) rec1 x0 x1 x2 x3 x4 := by
  have h : ∀ J, e21 J m [1, 1, 0, 1, 0, 0, 1, 1, 0, 0, 1, 1] [M1] (s21_4 x0 x1 x2 x3 x4) =
    (J 0 8 0 (s21_5 x0 x1 x2 (mput x3 (Dt.S x4 0) (Dt.bool true))) (e21 J m [1, 1, 0, 1, 0, 0, 1, 1, 1] [M1] (s21_5 x0 x1 x2 (mput x3 (Dt.S x4 0) (Dt.bool true))))) := fun J => by kernel_rfl
  exact (h jn).trans (by
    simp only [jn_eq, value_soundFields_j5_eq m M1 rec1 h1]
    rfl)
theorem value_soundFields_j3_eq (m : Nat) (M1 : Nat) (rec1 : List Dt → Int → Int → List Dt → Option Bool) (h1 : ∀ (x0 : List Dt) (x1 x2 : Int) (x3 : List Dt), l21 jn m [1, 1, 0, 1, 0] [] M1 (s21_1 x0 x1 x2 x3) = rec1 x0 x1 x2 x3) (x0 : List Dt) (x1 x2 : Int) (x3 : Bool) (x4 : List Dt) (x5 : Dt) : e21 jn m [1, 1, 0, 1, 0, 0, 1, 1, 0, 0, 1, 0, 1] [M1] (s21_3 x0 x1 x2 x3 x4 x5) = value_soundFields_j3 m (value_sound m) rec1 x0 x1 x2 x3 x4 x5 := by
  have h : ∀ J, e21 J m [1, 1, 0, 1, 0, 0, 1, 1, 0, 0, 1, 0, 1] [M1] (s21_3 x0 x1 x2 x3 x4 x5) =
    (bif x3 then
   some false
    else
   (J 0 7 0 (s21_4 x0 x1 x2 x4 x5) (e21 J m [1, 1, 0, 1, 0, 0, 1, 1, 0, 0, 1, 1] [M1] (s21_4 x0 x1 x2 x4 x5)))) := fun J => by kernel_rfl
  exact (h jn).trans (by
    simp only [jn_eq, value_soundFields_j4_eq m M1 rec1 h1]
    rfl)
theorem value_soundFields_j2_eq (m : Nat) (M1 : Nat) (rec1 : List Dt → Int → Int → List Dt → Option Bool) (h1 : ∀ (x0 : List Dt) (x1 x2 : Int) (x3 : List Dt), l21 jn m [1, 1, 0, 1, 0] [] M1 (s21_1 x0 x1 x2 x3) = rec1 x0 x1 x2 x3) (x0 : List Dt) (x1 x2 : Int) (x3 : List Dt) : e21 jn m [1, 1, 0, 1, 0, 0, 1, 1] [M1] (s21_2 x0 x1 x2 x3) = value_soundFields_j2 m (value_sound m) rec1 x0 x1 x2 x3 := by
  have h : ∀ J, e21 J m [1, 1, 0, 1, 0, 0, 1, 1] [M1] (s21_2 x0 x1 x2 x3) =
    ((idx x0 x2).bind fun v0 =>
   ((value_isName m (Dt.S v0 0)).bind fun r1 =>
   (bif (Bool.not r1) then
   (J 0 6 0 (s21_3 x0 x1 x2 true x3 v0) (e21 J m [1, 1, 0, 1, 0, 0, 1, 1, 0, 0, 1, 0, 1] [M1] (s21_3 x0 x1 x2 true x3 v0)))
   else
   (bif (Dt.toBool (mgetD x3 (Dt.S v0 0) (Dt.bool false))) then
   (J 0 6 0 (s21_3 x0 x1 x2 true x3 v0) (e21 J m [1, 1, 0, 1, 0, 0, 1, 1, 0, 0, 1, 0, 1] [M1] (s21_3 x0 x1 x2 true x3 v0)))
   else
   ((value_sound m (Dt.fld v0 1)).bind fun r2 =>
   (J 0 6 0 (s21_3 x0 x1 x2 (Bool.not r2) x3 v0) (e21 J m [1, 1, 0, 1, 0, 0, 1, 1, 0, 0, 1, 0, 1] [M1] (s21_3 x0 x1 x2 (Bool.not r2) x3 v0)))))))) := fun J => by kernel_rfl
  exact (h jn).trans (by
    simp only [jn_eq, value_soundFields_j3_eq m M1 rec1 h1]
    rfl)
theorem value_soundFields_j6_eq (m : Nat) : e21 jn m [1, 1, 1] [] s21_6 = value_soundFields_j6 m (value_sound m) := by
  have h : ∀ J, e21 J m [1, 1, 1] [] s21_6 =
    some true := fun J => by kernel_rfl
  exact (h jn).trans (rfl)
theorem value_soundFields_l1_eq (m : Nat) : ∀ (M1 : Nat) (x0 : List Dt) (x1 x2 : Int) (x3 : List Dt), l21 jn m [1, 1, 0, 1, 0] [] M1 (s21_1 x0 x1 x2 x3) = value_soundFields_l1 m (value_sound m) M1 x0 x1 x2 x3
  | 0, _, _, _, _ => rfl
  | M1 + 1, x0, x1, x2, x3 => by
    have h : ∀ J, l21 J m [1, 1, 0, 1, 0] [] (M1 + 1) (s21_1 x0 x1 x2 x3) =
    (bif (decide (x2 < x1)) then
   (J 0 4 0 (s21_2 x0 x1 x2 x3) (e21 J m [1, 1, 0, 1, 0, 0, 1, 1] [M1] (s21_2 x0 x1 x2 x3)))
    else
   (J 0 9 0 s21_6 (e21 J m [1, 1, 1] [] s21_6))) := fun J => by kernel_rfl
    refine (h jn).trans ?_
    simp only [jn_eq, value_soundFields_j2_eq m M1 (value_soundFields_l1 m (value_sound m) M1) (fun x0 x1 x2 x3 => value_soundFields_l1_eq m M1 x0 x1 x2 x3), value_soundFields_j6_eq m]
    rfl
theorem value_soundFields_j0_eq (m : Nat) (x0 : List Dt) (x1 x2 : Int) (x3 : List Dt) : e21 jn m [1, 1, 0, 1] [] (s21_0 x0 x1 x2 x3) = value_soundFields_j0 m (value_sound m) x0 x1 x2 x3 := by
  have h : ∀ J, e21 J m [1, 1, 0, 1] [] (s21_0 x0 x1 x2 x3) =
    (J 1 3 (Nat.succ m) (s21_1 x0 x1 x2 x3) (l21 J m [1, 1, 0, 1, 0] [] (Nat.succ m) (s21_1 x0 x1 x2 x3))) := fun J => by kernel_rfl
  exact (h jn).trans (by
    simp only [jn_eq, value_soundFields_l1_eq m]
    rfl)
theorem value_soundFields_eq (m : Nat) (a0 : List Dt) : e21 jn m [] [] ⟨[(.dat 23 (.lst a0))], [], 0⟩ = value_soundFields (m + 1) a0 := by
  have h : ∀ J, e21 J m [] [] ⟨[(.dat 23 (.lst a0))], [], 0⟩ =
    (J 0 3 0 (s21_0 a0 (List.length a0 : Int) 0 []) (e21 J m [1, 1, 0, 1] [] (s21_0 a0 (List.length a0 : Int) 0 []))) := fun J => by kernel_rfl
  refine (h jn).trans ?_
  simp only [jn_eq, value_soundFields_j0_eq m]
  rfl
noncomputable def d10 (q : Res) : Option Bool := match q with
  | (.dat T0 x0, []) => bif Nat.beq T0 4 then some x0.toBool else none
  | _ => none
theorem d10_sim {b : Res} {r : Bool} (h : d10 b = some r) : Sim Tryd.prog b ((.dat 4 (.bool r)), []) := by
  unfold d10 at h
  split at h
  · obtain ⟨hc, h2⟩ := bif_some h
    cases h2
    have e0 := beq_eq hc
    subst e0
    exact Sim.of (.of (.dat (.bool Tryd.underlying4)) rfl rfl) .nil
  · cases h
noncomputable def e10 (J : Nat → Nat → Nat → St → Option Bool → Option Bool) (m : Nat) (p ms : List Nat) (σ : St) := evAt Tryd.prog env (ct m) J (m + 1) 54 15 Tryd.f54 d10 p ms σ
noncomputable def l10 (J : Nat → Nat → Nat → St → Option Bool → Option Bool) (m : Nat) (p ms : List Nat) (M : Nat) (σ : St) := loopAt Tryd.prog env (ct m) J (m + 1) 54 15 Tryd.f54 d10 p ms M σ
theorem value_Valid_eq (m : Nat) (a0 : Dt) : e10 jn m [] [] ⟨[(.dat 25 a0)], [], 0⟩ = value_Valid (m + 1) a0 := by
  have h : ∀ J, e10 J m [] [] ⟨[(.dat 25 a0)], [], 0⟩ =
    ((value_Nodes m a0).bind fun r0 =>
   (bif (decide (r0 ≤ 1024)) then
   ((value_Depth m a0).bind fun r1 =>
   (bif (decide (r1 ≤ 16)) then
   ((value_sound m a0).bind fun r2 =>
   some r2)
   else
   some false))
   else
   some false)) := fun J => by kernel_rfl
  refine (h jn).trans ?_
  
  rfl
noncomputable def d9 (q : Res) : Option Bool := match q with
  | (.dat T0 x0, []) => bif Nat.beq T0 4 then some x0.toBool else none
  | _ => none
theorem d9_sim {b : Res} {r : Bool} (h : d9 b = some r) : Sim Tryd.prog b ((.dat 4 (.bool r)), []) := by
  unfold d9 at h
  split at h
  · obtain ⟨hc, h2⟩ := bif_some h
    cases h2
    have e0 := beq_eq hc
    subst e0
    exact Sim.of (.of (.dat (.bool Tryd.underlying4)) rfl rfl) .nil
  · cases h
noncomputable def e9 (J : Nat → Nat → Nat → St → Option Bool → Option Bool) (m : Nat) (p ms : List Nat) (σ : St) := evAt Tryd.prog env (ct m) J (m + 1) 57 33 Tryd.f57 d9 p ms σ
noncomputable def l9 (J : Nat → Nat → Nat → St → Option Bool → Option Bool) (m : Nat) (p ms : List Nat) (M : Nat) (σ : St) := loopAt Tryd.prog env (ct m) J (m + 1) 57 33 Tryd.f57 d9 p ms M σ
noncomputable def s9_0 (x0 : Dt) : St := ⟨tsOf [(3, (.ptr 0 [] 0))], [(.box 25 (.dat 25 x0))], 0⟩
theorem schema_bound_j0_eq (m : Nat) (x0 : Dt) : e9 jn m [1, 1] [] (s9_0 x0) = schema_bound_j0 m x0 := by
  have h : ∀ J, e9 J m [1, 1] [] (s9_0 x0) =
    (bif ((Dt.I x0 0) == 0) then
   (bif ((Dt.I x0 1) == 0) then
   (bif ((ByteArray.toList (Dt.S x0 2)) == []) then
   (bif ((List.length (Dt.L x0 3) : Int) == 0) then
   some ((List.length (Dt.L x0 4) : Int) == 0)
   else
   some false)
   else
   some false)
   else
   some false)
    else
   some false) := fun J => by kernel_rfl
  exact (h jn).trans (rfl)
theorem schema_bound_eq (m : Nat) (a0 : Bool) (a1 : Dt) : e9 jn m [] [] ⟨[(.dat 4 (.bool a0)), (.dat 25 a1)], [], 0⟩ = schema_bound (m + 1) a0 a1 := by
  have h : ∀ J, e9 J m [] [] ⟨[(.dat 4 (.bool a0)), (.dat 25 a1)], [], 0⟩ =
    (bif a0 then
   ((value_Valid m a1).bind fun r0 =>
   some r0)
    else
   (J 0 3 0 (s9_0 a1) (e9 J m [1, 1] [] (s9_0 a1)))) := fun J => by kernel_rfl
  refine (h jn).trans ?_
  simp only [jn_eq, schema_bound_j0_eq m]
  rfl
noncomputable def d6 (q : Res) : Option Int := match q with
  | (.dat T0 x0, []) => bif Nat.beq T0 33 then some x0.toInt else none
  | _ => none
theorem d6_sim {b : Res} {r : Int} (h : d6 b = some r) : Sim Tryd.prog b ((.dat 33 (.int r)), []) := by
  unfold d6 at h
  split at h
  · obtain ⟨hc, h2⟩ := bif_some h
    cases h2
    have e0 := beq_eq hc
    subst e0
    exact Sim.of (.of (.dat (.int Tryd.underlying33)) rfl rfl) .nil
  · cases h
noncomputable def e6 (J : Nat → Nat → Nat → St → Option Int → Option Int) (m : Nat) (p ms : List Nat) (σ : St) := evAt Tryd.prog env (ct m) J (m + 1) 31 97 Tryd.f31 d6 p ms σ
noncomputable def l6 (J : Nat → Nat → Nat → St → Option Int → Option Int) (m : Nat) (p ms : List Nat) (M : Nat) (σ : St) := loopAt Tryd.prog env (ct m) J (m + 1) 31 97 Tryd.f31 d6 p ms M σ
noncomputable def s6_5 (x0 : List Dt) (x1 x2 : Int) (x3 : Dt) (x4 : List Dt) : St := ⟨tsOf [(1, (.ptr 0 [] 0)), (3, (.row 1)), (13, (.dat 26 (.lst x0))), (14, (.dat 3 (.int x1))), (15, (.dat 3 (.int x2)))], [(.box 30 (.dat 30 x3)), (.map 89 x4)], 0⟩
noncomputable def s6_4 (x0 : ByteArray) (x1 : List Dt) (x2 x3 : Int) (x4 : Dt) (x5 : List Dt) : St := ⟨tsOf [(1, (.ptr 0 [] 0)), (3, (.row 1)), (5, (.dat 9 (.str x0))), (13, (.dat 26 (.lst x1))), (14, (.dat 3 (.int x2))), (15, (.dat 3 (.int x3)))], [(.box 30 (.dat 30 x4)), (.map 89 x5)], 0⟩
noncomputable def s6_3 (x0 : ByteArray) (x1 : List Dt) (x2 x3 : Int) (x4 : Bool) (x5 : Dt) (x6 : List Dt) : St := ⟨tsOf [(1, (.ptr 0 [] 0)), (3, (.row 1)), (5, (.dat 9 (.str x0))), (13, (.dat 26 (.lst x1))), (14, (.dat 3 (.int x2))), (15, (.dat 3 (.int x3))), (26, (.dat 4 (.bool x4)))], [(.box 30 (.dat 30 x5)), (.map 89 x6)], 0⟩
noncomputable def s6_2 (x0 : List Dt) (x1 x2 : Int) (x3 : Dt) (x4 : List Dt) : St := ⟨tsOf [(1, (.ptr 0 [] 0)), (3, (.row 1)), (13, (.dat 26 (.lst x0))), (14, (.dat 3 (.int x1))), (15, (.dat 3 (.int x2)))], [(.box 30 (.dat 30 x3)), (.map 89 x4)], 0⟩
noncomputable def s6_12 (x0 : List Dt) (x1 x2 : Int) (x3 : Dt) (x4 : List Dt) : St := ⟨tsOf [(1, (.ptr 0 [] 0)), (6, (.row 1)), (32, (.dat 27 (.lst x0))), (33, (.dat 3 (.int x1))), (34, (.dat 3 (.int x2)))], [(.box 30 (.dat 30 x3)), (.map 89 x4)], 0⟩
noncomputable def s6_11 (x0 : List Dt) (x1 x2 : Int) (x3 : Dt) (x4 : List Dt) (x5 : Dt) : St := ⟨tsOf [(1, (.ptr 0 [] 0)), (6, (.row 1)), (8, (.ptr 2 [] 0)), (32, (.dat 27 (.lst x0))), (33, (.dat 3 (.int x1))), (34, (.dat 3 (.int x2)))], [(.box 30 (.dat 30 x3)), (.map 89 x4), (.box 51 (.dat 51 x5))], 0⟩
noncomputable def s6_10 (x0 : List Dt) (x1 x2 : Int) (x3 : Bool) (x4 : Dt) (x5 : List Dt) (x6 : Dt) : St := ⟨tsOf [(1, (.ptr 0 [] 0)), (6, (.row 1)), (8, (.ptr 2 [] 0)), (32, (.dat 27 (.lst x0))), (33, (.dat 3 (.int x1))), (34, (.dat 3 (.int x2))), (47, (.dat 4 (.bool x3)))], [(.box 30 (.dat 30 x4)), (.map 89 x5), (.box 51 (.dat 51 x6))], 0⟩
noncomputable def s6_9 (x0 : List Dt) (x1 x2 : Int) (x3 : Dt) (x4 : List Dt) : St := ⟨tsOf [(1, (.ptr 0 [] 0)), (6, (.row 1)), (32, (.dat 27 (.lst x0))), (33, (.dat 3 (.int x1))), (34, (.dat 3 (.int x2)))], [(.box 30 (.dat 30 x3)), (.map 89 x4)], 0⟩
noncomputable def s6_21 (x0 : List Dt) (x1 x2 : Int) : St := ⟨tsOf [(87, (.dat 22 (.lst x0))), (88, (.dat 3 (.int x1))), (89, (.dat 3 (.int x2)))], [], 0⟩
noncomputable def s6_20 (x0 : List Dt) (x1 x2 : Int) : St := ⟨tsOf [(87, (.dat 22 (.lst x0))), (88, (.dat 3 (.int x1))), (89, (.dat 3 (.int x2)))], [], 0⟩
noncomputable def s6_22 : St := ⟨tsOf [], [], 0⟩
noncomputable def s6_19 (x0 : List Dt) (x1 x2 : Int) : St := ⟨tsOf [(87, (.dat 22 (.lst x0))), (88, (.dat 3 (.int x1))), (89, (.dat 3 (.int x2)))], [], 0⟩
noncomputable def s6_18 (x0 : List Dt) (x1 x2 : Int) : St := ⟨tsOf [(87, (.dat 22 (.lst x0))), (88, (.dat 3 (.int x1))), (89, (.dat 3 (.int x2)))], [], 0⟩
noncomputable def s6_17 (x0 : Dt) : St := ⟨tsOf [(1, (.ptr 0 [] 0))], [(.box 30 (.dat 30 x0))], 0⟩
noncomputable def s6_16 (x0 : Bool) (x1 : Dt) : St := ⟨tsOf [(1, (.ptr 0 [] 0)), (85, (.dat 4 (.bool x0)))], [(.box 30 (.dat 30 x1))], 0⟩
noncomputable def s6_15 (x0 : Dt) : St := ⟨tsOf [(1, (.ptr 0 [] 0))], [(.box 30 (.dat 30 x0))], 0⟩
noncomputable def s6_14 (x0 : Bool) (x1 : Dt) : St := ⟨tsOf [(1, (.ptr 0 [] 0)), (71, (.dat 4 (.bool x0)))], [(.box 30 (.dat 30 x1))], 0⟩
noncomputable def s6_13 (x0 : Dt) : St := ⟨tsOf [(1, (.ptr 0 [] 0))], [(.box 30 (.dat 30 x0))], 0⟩
noncomputable def s6_8 (x0 : List Dt) (x1 x2 : Int) (x3 : Dt) (x4 : List Dt) : St := ⟨tsOf [(1, (.ptr 0 [] 0)), (6, (.row 1)), (32, (.dat 27 (.lst x0))), (33, (.dat 3 (.int x1))), (34, (.dat 3 (.int x2)))], [(.box 30 (.dat 30 x3)), (.map 89 x4)], 0⟩
noncomputable def s6_7 (x0 : List Dt) (x1 x2 : Int) (x3 : Dt) (x4 : List Dt) : St := ⟨tsOf [(1, (.ptr 0 [] 0)), (6, (.row 1)), (32, (.dat 27 (.lst x0))), (33, (.dat 3 (.int x1))), (34, (.dat 3 (.int x2)))], [(.box 30 (.dat 30 x3)), (.map 89 x4)], 0⟩
noncomputable def s6_6 (x0 : Dt) : St := ⟨tsOf [(1, (.ptr 0 [] 0))], [(.box 30 (.dat 30 x0))], 0⟩
noncomputable def s6_1 (x0 : List Dt) (x1 x2 : Int) (x3 : Dt) (x4 : List Dt) : St := ⟨tsOf [(1, (.ptr 0 [] 0)), (3, (.row 1)), (13, (.dat 26 (.lst x0))), (14, (.dat 3 (.int x1))), (15, (.dat 3 (.int x2)))], [(.box 30 (.dat 30 x3)), (.map 89 x4)], 0⟩
noncomputable def s6_0 (x0 : List Dt) (x1 x2 : Int) (x3 : Dt) (x4 : List Dt) : St := ⟨tsOf [(1, (.ptr 0 [] 0)), (3, (.row 1)), (13, (.dat 26 (.lst x0))), (14, (.dat 3 (.int x1))), (15, (.dat 3 (.int x2)))], [(.box 30 (.dat 30 x3)), (.map 89 x4)], 0⟩
theorem schema_checkOne_j5_eq (m : Nat) (M1 : Nat) (rec1 : List Dt → Int → Int → Dt → List Dt → Option Int) (h1 : ∀ (x0 : List Dt) (x1 x2 : Int) (x3 : Dt) (x4 : List Dt), l6 jn m [1, 1, 0, 1, 0] [] M1 (s6_1 x0 x1 x2 x3 x4) = rec1 x0 x1 x2 x3 x4) (x0 : List Dt) (x1 x2 : Int) (x3 : Dt) (x4 : List Dt) : e6 jn m [1, 1, 0, 1, 0, 0, 1, 1, 1] [M1] (s6_5 x0 x1 x2 x3 x4) = schema_checkOne_j5 m rec1 x0 x1 x2 x3 x4 := by
  have h : ∀ J, e6 J m [1, 1, 0, 1, 0, 0, 1, 1, 1] [M1] (s6_5 x0 x1 x2 x3 x4) =
    (J 1 3 M1 (s6_1 x0 x1 (IntKind.wrap .i64 (x2 + 1)) x3 x4) (l6 J m [1, 1, 0, 1, 0] [] M1 (s6_1 x0 x1 (IntKind.wrap .i64 (x2 + 1)) x3 x4))) := fun J => by kernel_rfl
  exact (h jn).trans (by
    simp only [jn_eq, h1]
    rfl)
theorem schema_checkOne_j4_eq (m : Nat) (M1 : Nat) (rec1 : List Dt → Int → Int → Dt → List Dt → Option Int) (h1 : ∀ (x0 : List Dt) (x1 x2 : Int) (x3 : Dt) (x4 : List Dt), l6 jn m [1, 1, 0, 1, 0] [] M1 (s6_1 x0 x1 x2 x3 x4) = rec1 x0 x1 x2 x3 x4) (x0 : ByteArray) (x1 : List Dt) (x2 x3 : Int) (x4 : Dt) (x5 : List Dt) : e6 jn m [1, 1, 0, 1, 0, 0, 1, 1, 0, 0, 1, 1] [M1] (s6_4 x0 x1 x2 x3 x4 x5) = schema_checkOne_j4 m rec1 x0 x1 x2 x3 x4 x5 := by
  have h : ∀ J, e6 J m [1, 1, 0, 1, 0, 0, 1, 1, 0, 0, 1, 1] [M1] (s6_4 x0 x1 x2 x3 x4 x5) =
    (J 0 8 0 (s6_5 x1 x2 x3 x4 (mput x5 x0 (Dt.bool true))) (e6 J m [1, 1, 0, 1, 0, 0, 1, 1, 1] [M1] (s6_5 x1 x2 x3 x4 (mput x5 x0 (Dt.bool true))))) := fun J => by kernel_rfl
  exact (h jn).trans (by
    simp only [jn_eq, schema_checkOne_j5_eq m M1 rec1 h1]
    rfl)
theorem schema_checkOne_j3_eq (m : Nat) (M1 : Nat) (rec1 : List Dt → Int → Int → Dt → List Dt → Option Int) (h1 : ∀ (x0 : List Dt) (x1 x2 : Int) (x3 : Dt) (x4 : List Dt), l6 jn m [1, 1, 0, 1, 0] [] M1 (s6_1 x0 x1 x2 x3 x4) = rec1 x0 x1 x2 x3 x4) (x0 : ByteArray) (x1 : List Dt) (x2 x3 : Int) (x4 : Bool) (x5 : Dt) (x6 : List Dt) : e6 jn m [1, 1, 0, 1, 0, 0, 1, 1, 0, 0, 1, 0, 1] [M1] (s6_3 x0 x1 x2 x3 x4 x5 x6) = schema_checkOne_j3 m rec1 x0 x1 x2 x3 x4 x5 x6 := by
  have h : ∀ J, e6 J m [1, 1, 0, 1, 0, 0, 1, 1, 0, 0, 1, 0, 1] [M1] (s6_3 x0 x1 x2 x3 x4 x5 x6) =
    (bif x4 then
   some 9
    else
   (J 0 7 0 (s6_4 x0 x1 x2 x3 x5 x6) (e6 J m [1, 1, 0, 1, 0, 0, 1, 1, 0, 0, 1, 1] [M1] (s6_4 x0 x1 x2 x3 x5 x6)))) := fun J => by kernel_rfl
  exact (h jn).trans (by
    simp only [jn_eq, schema_checkOne_j4_eq m M1 rec1 h1]
    rfl)
theorem schema_checkOne_j2_eq (m : Nat) (M1 : Nat) (rec1 : List Dt → Int → Int → Dt → List Dt → Option Int) (h1 : ∀ (x0 : List Dt) (x1 x2 : Int) (x3 : Dt) (x4 : List Dt), l6 jn m [1, 1, 0, 1, 0] [] M1 (s6_1 x0 x1 x2 x3 x4) = rec1 x0 x1 x2 x3 x4) (x0 : List Dt) (x1 x2 : Int) (x3 : Dt) (x4 : List Dt) : e6 jn m [1, 1, 0, 1, 0, 0, 1, 1] [M1] (s6_2 x0 x1 x2 x3 x4) = schema_checkOne_j2 m rec1 x0 x1 x2 x3 x4 := by
  have h : ∀ J, e6 J m [1, 1, 0, 1, 0, 0, 1, 1] [M1] (s6_2 x0 x1 x2 x3 x4) =
    ((idx x0 x2).bind fun v0 =>
   ((schema_isName m (Dt.toStr v0)).bind fun r1 =>
   (bif (Bool.not r1) then
   (J 0 6 0 (s6_3 (Dt.toStr v0) x0 x1 x2 true x3 x4) (e6 J m [1, 1, 0, 1, 0, 0, 1, 1, 0, 0, 1, 0, 1] [M1] (s6_3 (Dt.toStr v0) x0 x1 x2 true x3 x4)))
   else
   (J 0 6 0 (s6_3 (Dt.toStr v0) x0 x1 x2 (Dt.toBool (mgetD x4 (Dt.toStr v0) (Dt.bool false))) x3 x4) (e6 J m [1, 1, 0, 1, 0, 0, 1, 1, 0, 0, 1, 0, 1] [M1] (s6_3 (Dt.toStr v0) x0 x1 x2 (Dt.toBool (mgetD x4 (Dt.toStr v0) (Dt.bool false))) x3 x4)))))) := fun J => by kernel_rfl
  exact (h jn).trans (by
    simp only [jn_eq, schema_checkOne_j3_eq m M1 rec1 h1]
    rfl)
theorem schema_checkOne_j12_eq (m : Nat) (M8 : Nat) (rec8 : List Dt → Int → Int → Dt → List Dt → Option Int) (h8 : ∀ (x0 : List Dt) (x1 x2 : Int) (x3 : Dt) (x4 : List Dt), l6 jn m [1, 1, 1, 1, 0, 1, 0] [] M8 (s6_8 x0 x1 x2 x3 x4) = rec8 x0 x1 x2 x3 x4) (x0 : List Dt) (x1 x2 : Int) (x3 : Dt) (x4 : List Dt) : e6 jn m [1, 1, 1, 1, 0, 1, 0, 0, 1, 1, 1] [M8] (s6_12 x0 x1 x2 x3 x4) = schema_checkOne_j12 m rec8 x0 x1 x2 x3 x4 := by
  have h : ∀ J, e6 J m [1, 1, 1, 1, 0, 1, 0, 0, 1, 1, 1] [M8] (s6_12 x0 x1 x2 x3 x4) =
    (J 1 11 M8 (s6_8 x0 x1 (IntKind.wrap .i64 (x2 + 1)) x3 x4) (l6 J m [1, 1, 1, 1, 0, 1, 0] [] M8 (s6_8 x0 x1 (IntKind.wrap .i64 (x2 + 1)) x3 x4))) := fun J => by kernel_rfl
  exact (h jn).trans (by
    simp only [jn_eq, h8]
    rfl)
theorem schema_checkOne_j11_eq (m : Nat) (M8 : Nat) (rec8 : List Dt → Int → Int → Dt → List Dt → Option Int) (h8 : ∀ (x0 : List Dt) (x1 x2 : Int) (x3 : Dt) (x4 : List Dt), l6 jn m [1, 1, 1, 1, 0, 1, 0] [] M8 (s6_8 x0 x1 x2 x3 x4) = rec8 x0 x1 x2 x3 x4) (x0 : List Dt) (x1 x2 : Int) (x3 : Dt) (x4 : List Dt) (x5 : Dt) : e6 jn m [1, 1, 1, 1, 0, 1, 0, 0, 1, 1, 0, 0, 1, 1] [M8] (s6_11 x0 x1 x2 x3 x4 x5) = schema_checkOne_j11 m rec8 x0 x1 x2 x3 x4 x5 := by
  have h : ∀ J, e6 J m [1, 1, 1, 1, 0, 1, 0, 0, 1, 1, 0, 0, 1, 1] [M8] (s6_11 x0 x1 x2 x3 x4 x5) =
    (J 0 16 0 (s6_12 x0 x1 x2 x3 (mput x4 (Dt.S x5 0) (Dt.bool true))) (e6 J m [1, 1, 1, 1, 0, 1, 0, 0, 1, 1, 1] [M8] (s6_12 x0 x1 x2 x3 (mput x4 (Dt.S x5 0) (Dt.bool true))))) := fun J => by kernel_rfl
  exact (h jn).trans (by
    simp only [jn_eq, schema_checkOne_j12_eq m M8 rec8 h8]
    rfl)
theorem schema_checkOne_j10_eq (m : Nat) (M8 : Nat) (rec8 : List Dt → Int → Int → Dt → List Dt → Option Int) (h8 : ∀ (x0 : List Dt) (x1 x2 : Int) (x3 : Dt) (x4 : List Dt), l6 jn m [1, 1, 1, 1, 0, 1, 0] [] M8 (s6_8 x0 x1 x2 x3 x4) = rec8 x0 x1 x2 x3 x4) (x0 : List Dt) (x1 x2 : Int) (x3 : Bool) (x4 : Dt) (x5 : List Dt) (x6 : Dt) : e6 jn m [1, 1, 1, 1, 0, 1, 0, 0, 1, 1, 0, 0, 1, 0, 1] [M8] (s6_10 x0 x1 x2 x3 x4 x5 x6) = schema_checkOne_j10 m rec8 x0 x1 x2 x3 x4 x5 x6 := by
  have h : ∀ J, e6 J m [1, 1, 1, 1, 0, 1, 0, 0, 1, 1, 0, 0, 1, 0, 1] [M8] (s6_10 x0 x1 x2 x3 x4 x5 x6) =
    (bif x3 then
   some 9
    else
   (J 0 15 0 (s6_11 x0 x1 x2 x4 x5 x6) (e6 J m [1, 1, 1, 1, 0, 1, 0, 0, 1, 1, 0, 0, 1, 1] [M8] (s6_11 x0 x1 x2 x4 x5 x6)))) := fun J => by kernel_rfl
  exact (h jn).trans (by
    simp only [jn_eq, schema_checkOne_j11_eq m M8 rec8 h8]
    rfl)
theorem schema_checkOne_j9_eq (m : Nat) (M8 : Nat) (rec8 : List Dt → Int → Int → Dt → List Dt → Option Int) (h8 : ∀ (x0 : List Dt) (x1 x2 : Int) (x3 : Dt) (x4 : List Dt), l6 jn m [1, 1, 1, 1, 0, 1, 0] [] M8 (s6_8 x0 x1 x2 x3 x4) = rec8 x0 x1 x2 x3 x4) (x0 : List Dt) (x1 x2 : Int) (x3 : Dt) (x4 : List Dt) : e6 jn m [1, 1, 1, 1, 0, 1, 0, 0, 1, 1] [M8] (s6_9 x0 x1 x2 x3 x4) = schema_checkOne_j9 m rec8 x0 x1 x2 x3 x4 := by
  have h : ∀ J, e6 J m [1, 1, 1, 1, 0, 1, 0, 0, 1, 1] [M8] (s6_9 x0 x1 x2 x3 x4) =
    ((idx x0 x2).bind fun v2 =>
   ((schema_isName m (Dt.S v2 0)).bind fun r3 =>
   (bif (Bool.not r3) then
   (J 0 14 0 (s6_10 x0 x1 x2 true x3 x4 v2) (e6 J m [1, 1, 1, 1, 0, 1, 0, 0, 1, 1, 0, 0, 1, 0, 1] [M8] (s6_10 x0 x1 x2 true x3 x4 v2)))
   else
   (J 0 14 0 (s6_10 x0 x1 x2 (Dt.toBool (mgetD x4 (Dt.S v2 0) (Dt.bool false))) x3 x4 v2) (e6 J m [1, 1, 1, 1, 0, 1, 0, 0, 1, 1, 0, 0, 1, 0, 1] [M8] (s6_10 x0 x1 x2 (Dt.toBool (mgetD x4 (Dt.S v2 0) (Dt.bool false))) x3 x4 v2)))))) := fun J => by kernel_rfl
  exact (h jn).trans (by
    simp only [jn_eq, schema_checkOne_j10_eq m M8 rec8 h8]
    rfl)
theorem schema_checkOne_j21_eq (m : Nat) (M19 : Nat) (rec19 : List Dt → Int → Int → Option Int) (h19 : ∀ (x0 : List Dt) (x1 x2 : Int), l6 jn m [1, 1, 1, 1, 1, 1, 1, 0, 1, 0] [] M19 (s6_19 x0 x1 x2) = rec19 x0 x1 x2) (x0 : List Dt) (x1 x2 : Int) : e6 jn m [1, 1, 1, 1, 1, 1, 1, 0, 1, 0, 0, 1, 1, 1] [M19] (s6_21 x0 x1 x2) = schema_checkOne_j21 m rec19 x0 x1 x2 := by
  have h : ∀ J, e6 J m [1, 1, 1, 1, 1, 1, 1, 0, 1, 0, 0, 1, 1, 1] [M19] (s6_21 x0 x1 x2) =
    (J 1 22 M19 (s6_19 x0 x1 (IntKind.wrap .i64 (x2 + 1))) (l6 J m [1, 1, 1, 1, 1, 1, 1, 0, 1, 0] [] M19 (s6_19 x0 x1 (IntKind.wrap .i64 (x2 + 1))))) := fun J => by kernel_rfl
  exact (h jn).trans (by
    simp only [jn_eq, h19]
    rfl)
theorem schema_checkOne_j20_eq (m : Nat) (M19 : Nat) (rec19 : List Dt → Int → Int → Option Int) (h19 : ∀ (x0 : List Dt) (x1 x2 : Int), l6 jn m [1, 1, 1, 1, 1, 1, 1, 0, 1, 0] [] M19 (s6_19 x0 x1 x2) = rec19 x0 x1 x2) (x0 : List Dt) (x1 x2 : Int) : e6 jn m [1, 1, 1, 1, 1, 1, 1, 0, 1, 0, 0, 1, 1] [M19] (s6_20 x0 x1 x2) = schema_checkOne_j20 m rec19 x0 x1 x2 := by
  have h : ∀ J, e6 J m [1, 1, 1, 1, 1, 1, 1, 0, 1, 0, 0, 1, 1] [M19] (s6_20 x0 x1 x2) =
    ((idx x0 x2).bind fun v5 =>
   ((value_Valid m v5).bind fun r6 =>
   (bif (Bool.not r6) then
   some 8
   else
   (J 0 26 0 (s6_21 x0 x1 x2) (e6 J m [1, 1, 1, 1, 1, 1, 1, 0, 1, 0, 0, 1, 1, 1] [M19] (s6_21 x0 x1 x2)))))) := fun J => by kernel_rfl
  exact (h jn).trans (by
    simp only [jn_eq, schema_checkOne_j21_eq m M19 rec19 h19]
    rfl)
theorem schema_checkOne_j22_eq (m : Nat) : e6 jn m [1, 1, 1, 1, 1, 1, 1, 1] [] s6_22 = schema_checkOne_j22 m := by
  have h : ∀ J, e6 J m [1, 1, 1, 1, 1, 1, 1, 1] [] s6_22 =
    some 0 := fun J => by kernel_rfl
  exact (h jn).trans (rfl)
theorem schema_checkOne_l19_eq (m : Nat) : ∀ (M19 : Nat) (x0 : List Dt) (x1 x2 : Int), l6 jn m [1, 1, 1, 1, 1, 1, 1, 0, 1, 0] [] M19 (s6_19 x0 x1 x2) = schema_checkOne_l19 m M19 x0 x1 x2
  | 0, _, _, _ => rfl
  | M19 + 1, x0, x1, x2 => by
    have h : ∀ J, l6 J m [1, 1, 1, 1, 1, 1, 1, 0, 1, 0] [] (M19 + 1) (s6_19 x0 x1 x2) =
    (bif (decide (x2 < x1)) then
   (J 0 23 0 (s6_20 x0 x1 x2) (e6 J m [1, 1, 1, 1, 1, 1, 1, 0, 1, 0, 0, 1, 1] [M19] (s6_20 x0 x1 x2)))
    else
   (J 0 27 0 s6_22 (e6 J m [1, 1, 1, 1, 1, 1, 1, 1] [] s6_22))) := fun J => by kernel_rfl
    refine (h jn).trans ?_
    simp only [jn_eq, schema_checkOne_j20_eq m M19 (schema_checkOne_l19 m M19) (fun x0 x1 x2 => schema_checkOne_l19_eq m M19 x0 x1 x2), schema_checkOne_j22_eq m]
    rfl
theorem schema_checkOne_j18_eq (m : Nat) (x0 : List Dt) (x1 x2 : Int) : e6 jn m [1, 1, 1, 1, 1, 1, 1, 0, 1] [] (s6_18 x0 x1 x2) = schema_checkOne_j18 m x0 x1 x2 := by
  have h : ∀ J, e6 J m [1, 1, 1, 1, 1, 1, 1, 0, 1] [] (s6_18 x0 x1 x2) =
    (J 1 22 (Nat.succ m) (s6_19 x0 x1 x2) (l6 J m [1, 1, 1, 1, 1, 1, 1, 0, 1, 0] [] (Nat.succ m) (s6_19 x0 x1 x2))) := fun J => by kernel_rfl
  exact (h jn).trans (by
    simp only [jn_eq, schema_checkOne_l19_eq m]
    rfl)
theorem schema_checkOne_j17_eq (m : Nat) (x0 : Dt) : e6 jn m [1, 1, 1, 1, 1, 1, 1] [] (s6_17 x0) = schema_checkOne_j17 m x0 := by
  have h : ∀ J, e6 J m [1, 1, 1, 1, 1, 1, 1] [] (s6_17 x0) =
    (J 0 22 0 (s6_18 (Dt.L x0 5) (List.length (Dt.L x0 5) : Int) 0) (e6 J m [1, 1, 1, 1, 1, 1, 1, 0, 1] [] (s6_18 (Dt.L x0 5) (List.length (Dt.L x0 5) : Int) 0))) := fun J => by kernel_rfl
  exact (h jn).trans (by
    simp only [jn_eq, schema_checkOne_j18_eq m]
    rfl)
theorem schema_checkOne_j16_eq (m : Nat) (x0 : Bool) (x1 : Dt) : e6 jn m [1, 1, 1, 1, 1, 1, 0, 1] [] (s6_16 x0 x1) = schema_checkOne_j16 m x0 x1 := by
  have h : ∀ J, e6 J m [1, 1, 1, 1, 1, 1, 0, 1] [] (s6_16 x0 x1) =
    (bif x0 then
   some 8
    else
   (J 0 21 0 (s6_17 x1) (e6 J m [1, 1, 1, 1, 1, 1, 1] [] (s6_17 x1)))) := fun J => by kernel_rfl
  exact (h jn).trans (by
    simp only [jn_eq, schema_checkOne_j17_eq m]
    rfl)
theorem schema_checkOne_j15_eq (m : Nat) (x0 : Dt) : e6 jn m [1, 1, 1, 1, 1, 1] [] (s6_15 x0) = schema_checkOne_j15 m x0 := by
  have h : ∀ J, e6 J m [1, 1, 1, 1, 1, 1] [] (s6_15 x0) =
    ((schema_bound m (Dt.B x0 1) (Dt.fld x0 2)).bind fun r4 =>
   (bif (Bool.not r4) then
   (J 0 20 0 (s6_16 true x0) (e6 J m [1, 1, 1, 1, 1, 1, 0, 1] [] (s6_16 true x0)))
   else
   ((schema_bound m (Dt.B x0 3) (Dt.fld x0 4)).bind fun r7 =>
   (J 0 20 0 (s6_16 (Bool.not r7) x0) (e6 J m [1, 1, 1, 1, 1, 1, 0, 1] [] (s6_16 (Bool.not r7) x0)))))) := fun J => by kernel_rfl
  exact (h jn).trans (by
    simp only [jn_eq, schema_checkOne_j16_eq m]
    rfl)
theorem schema_checkOne_j14_eq (m : Nat) (x0 : Bool) (x1 : Dt) : e6 jn m [1, 1, 1, 1, 1, 0, 1] [] (s6_14 x0 x1) = schema_checkOne_j14 m x0 x1 := by
  have h : ∀ J, e6 J m [1, 1, 1, 1, 1, 0, 1] [] (s6_14 x0 x1) =
    (bif x0 then
   some 1
    else
   (J 0 19 0 (s6_15 x1) (e6 J m [1, 1, 1, 1, 1, 1] [] (s6_15 x1)))) := fun J => by kernel_rfl
  exact (h jn).trans (by
    simp only [jn_eq, schema_checkOne_j15_eq m]
    rfl)
theorem schema_checkOne_j13_eq (m : Nat) (x0 : Dt) : e6 jn m [1, 1, 1, 1, 1] [] (s6_13 x0) = schema_checkOne_j13 m x0 := by
  have h : ∀ J, e6 J m [1, 1, 1, 1, 1] [] (s6_13 x0) =
    (bif ((bicI IntKind.i64 (Dt.I x0 0) 4094) != 0) then
   (J 0 18 0 (s6_14 true x0) (e6 J m [1, 1, 1, 1, 1, 0, 1] [] (s6_14 true x0)))
    else
   (bif (decide ((Dt.I x0 6) < 0)) then
   (J 0 18 0 (s6_14 true x0) (e6 J m [1, 1, 1, 1, 1, 0, 1] [] (s6_14 true x0)))
   else
   (bif (decide ((Dt.I x0 7) < (-1))) then
   (J 0 18 0 (s6_14 true x0) (e6 J m [1, 1, 1, 1, 1, 0, 1] [] (s6_14 true x0)))
   else
   (J 0 18 0 (s6_14 (decide (1 < (List.length (Dt.L x0 11) : Int))) x0) (e6 J m [1, 1, 1, 1, 1, 0, 1] [] (s6_14 (decide (1 < (List.length (Dt.L x0 11) : Int))) x0)))))) := fun J => by kernel_rfl
  exact (h jn).trans (by
    simp only [jn_eq, schema_checkOne_j14_eq m]
    rfl)
theorem schema_checkOne_l8_eq (m : Nat) : ∀ (M8 : Nat) (x0 : List Dt) (x1 x2 : Int) (x3 : Dt) (x4 : List Dt), l6 jn m [1, 1, 1, 1, 0, 1, 0] [] M8 (s6_8 x0 x1 x2 x3 x4) = schema_checkOne_l8 m M8 x0 x1 x2 x3 x4
  | 0, _, _, _, _, _ => rfl
  | M8 + 1, x0, x1, x2, x3, x4 => by
    have h : ∀ J, l6 J m [1, 1, 1, 1, 0, 1, 0] [] (M8 + 1) (s6_8 x0 x1 x2 x3 x4) =
    (bif (decide (x2 < x1)) then
   (J 0 12 0 (s6_9 x0 x1 x2 x3 x4) (e6 J m [1, 1, 1, 1, 0, 1, 0, 0, 1, 1] [M8] (s6_9 x0 x1 x2 x3 x4)))
    else
   (J 0 17 0 (s6_13 x3) (e6 J m [1, 1, 1, 1, 1] [] (s6_13 x3)))) := fun J => by kernel_rfl
    refine (h jn).trans ?_
    simp only [jn_eq, schema_checkOne_j9_eq m M8 (schema_checkOne_l8 m M8) (fun x0 x1 x2 x3 x4 => schema_checkOne_l8_eq m M8 x0 x1 x2 x3 x4), schema_checkOne_j13_eq m]
    rfl
theorem schema_checkOne_j7_eq (m : Nat) (x0 : List Dt) (x1 x2 : Int) (x3 : Dt) (x4 : List Dt) : e6 jn m [1, 1, 1, 1, 0, 1] [] (s6_7 x0 x1 x2 x3 x4) = schema_checkOne_j7 m x0 x1 x2 x3 x4 := by
  have h : ∀ J, e6 J m [1, 1, 1, 1, 0, 1] [] (s6_7 x0 x1 x2 x3 x4) =
    (J 1 11 (Nat.succ m) (s6_8 x0 x1 x2 x3 x4) (l6 J m [1, 1, 1, 1, 0, 1, 0] [] (Nat.succ m) (s6_8 x0 x1 x2 x3 x4))) := fun J => by kernel_rfl
  exact (h jn).trans (by
    simp only [jn_eq, schema_checkOne_l8_eq m]
    rfl)
theorem schema_checkOne_j6_eq (m : Nat) (x0 : Dt) : e6 jn m [1, 1, 1] [] (s6_6 x0) = schema_checkOne_j6 m x0 := by
  have h : ∀ J, e6 J m [1, 1, 1] [] (s6_6 x0) =
    (J 0 11 0 (s6_7 (Dt.L x0 9) (List.length (Dt.L x0 9) : Int) 0 x0 []) (e6 J m [1, 1, 1, 1, 0, 1] [] (s6_7 (Dt.L x0 9) (List.length (Dt.L x0 9) : Int) 0 x0 []))) := fun J => by kernel_rfl
  exact (h jn).trans (by
    simp only [jn_eq, schema_checkOne_j7_eq m]
    rfl)
theorem schema_checkOne_l1_eq (m : Nat) : ∀ (M1 : Nat) (x0 : List Dt) (x1 x2 : Int) (x3 : Dt) (x4 : List Dt), l6 jn m [1, 1, 0, 1, 0] [] M1 (s6_1 x0 x1 x2 x3 x4) = schema_checkOne_l1 m M1 x0 x1 x2 x3 x4
  | 0, _, _, _, _, _ => rfl
  | M1 + 1, x0, x1, x2, x3, x4 => by
    have h : ∀ J, l6 J m [1, 1, 0, 1, 0] [] (M1 + 1) (s6_1 x0 x1 x2 x3 x4) =
    (bif (decide (x2 < x1)) then
   (J 0 4 0 (s6_2 x0 x1 x2 x3 x4) (e6 J m [1, 1, 0, 1, 0, 0, 1, 1] [M1] (s6_2 x0 x1 x2 x3 x4)))
    else
   (J 0 9 0 (s6_6 x3) (e6 J m [1, 1, 1] [] (s6_6 x3)))) := fun J => by kernel_rfl
    refine (h jn).trans ?_
    simp only [jn_eq, schema_checkOne_j2_eq m M1 (schema_checkOne_l1 m M1) (fun x0 x1 x2 x3 x4 => schema_checkOne_l1_eq m M1 x0 x1 x2 x3 x4), schema_checkOne_j6_eq m]
    rfl
theorem schema_checkOne_j0_eq (m : Nat) (x0 : List Dt) (x1 x2 : Int) (x3 : Dt) (x4 : List Dt) : e6 jn m [1, 1, 0, 1] [] (s6_0 x0 x1 x2 x3 x4) = schema_checkOne_j0 m x0 x1 x2 x3 x4 := by
  have h : ∀ J, e6 J m [1, 1, 0, 1] [] (s6_0 x0 x1 x2 x3 x4) =
    (J 1 3 (Nat.succ m) (s6_1 x0 x1 x2 x3 x4) (l6 J m [1, 1, 0, 1, 0] [] (Nat.succ m) (s6_1 x0 x1 x2 x3 x4))) := fun J => by kernel_rfl
  exact (h jn).trans (by
    simp only [jn_eq, schema_checkOne_l1_eq m]
    rfl)
theorem schema_checkOne_eq (m : Nat) (a0 : Dt) : e6 jn m [] [] ⟨[(.dat 30 a0)], [], 0⟩ = schema_checkOne (m + 1) a0 := by
  have h : ∀ J, e6 J m [] [] ⟨[(.dat 30 a0)], [], 0⟩ =
    (J 0 3 0 (s6_0 (Dt.L a0 8) (List.length (Dt.L a0 8) : Int) 0 a0 []) (e6 J m [1, 1, 0, 1] [] (s6_0 (Dt.L a0 8) (List.length (Dt.L a0 8) : Int) 0 a0 []))) := fun J => by kernel_rfl
  refine (h jn).trans ?_
  simp only [jn_eq, schema_checkOne_j0_eq m]
  rfl
noncomputable def d5 (q : Res) : Option (Int × Int) := match q with
  | (.dat T0 x0, [.box T1 (.dat T2 x2)]) => bif (Nat.beq T0 33 && (Nat.beq T1 3 && Nat.beq T2 3)) then some (x0.toInt, x2.toInt) else none
  | _ => none
theorem d5_sim {b : Res} {r : Int × Int} (h : d5 b = some r) : Sim Tryd.prog b ((.dat 33 (.int r.1)), [(.box 3 (.dat 3 (.int r.2)))]) := by
  unfold d5 at h
  split at h
  · obtain ⟨hc, h2⟩ := bif_some h
    cases h2
    have e0 := beq_eq (and_l hc)
    have e1 := beq_eq (and_l (and_r hc))
    have e2 := beq_eq (and_r (and_r hc))
    subst e0 e1 e2
    exact Sim.of (.of (.dat (.int Tryd.underlying33)) rfl rfl) (.cons (.box (.dat (.int Tryd.underlying3))) .nil)
  · cases h
noncomputable def e5 (J : Nat → Nat → Nat → St → Option (Int × Int) → Option (Int × Int)) (m : Nat) (p ms : List Nat) (σ : St) := evAt Tryd.prog env (ct m) J (m + 1) 20 65 Tryd.f20 d5 p ms σ
noncomputable def l5 (J : Nat → Nat → Nat → St → Option (Int × Int) → Option (Int × Int)) (m : Nat) (p ms : List Nat) (M : Nat) (σ : St) := loopAt Tryd.prog env (ct m) J (m + 1) 20 65 Tryd.f20 d5 p ms M σ
noncomputable def s5_6 (x0 : Int) (x1 : List Dt) (x2 x3 x4 : Int) (x5 : Dt) : St := ⟨tsOf [(1, (.dat 3 (.int x0))), (2, (.ptr 0 [] 0)), (3, (.ptr 1 [] 0)), (33, (.dat 27 (.lst x1))), (34, (.dat 3 (.int x2))), (35, (.dat 3 (.int x3)))], [(.box 3 (.dat 3 (.int x4))), (.box 30 (.dat 30 x5))], 1⟩
noncomputable def s5_5 (x0 : Int) (x1 : List Dt) (x2 x3 x4 : Int) (x5 : Dt) : St := ⟨tsOf [(1, (.dat 3 (.int x0))), (2, (.ptr 0 [] 0)), (3, (.ptr 1 [] 0)), (33, (.dat 27 (.lst x1))), (34, (.dat 3 (.int x2))), (35, (.dat 3 (.int x3)))], [(.box 3 (.dat 3 (.int x4))), (.box 30 (.dat 30 x5))], 1⟩
noncomputable def s5_11 (x0 : Int) (x1 : List Dt) (x2 x3 x4 : Int) : St := ⟨tsOf [(1, (.dat 3 (.int x0))), (2, (.ptr 0 [] 0)), (50, (.dat 28 (.lst x1))), (51, (.dat 3 (.int x2))), (52, (.dat 3 (.int x3)))], [(.box 3 (.dat 3 (.int x4)))], 1⟩
noncomputable def s5_10 (x0 : Int) (x1 : List Dt) (x2 x3 x4 : Int) : St := ⟨tsOf [(1, (.dat 3 (.int x0))), (2, (.ptr 0 [] 0)), (50, (.dat 28 (.lst x1))), (51, (.dat 3 (.int x2))), (52, (.dat 3 (.int x3)))], [(.box 3 (.dat 3 (.int x4)))], 1⟩
noncomputable def s5_12 (x0 : Int) : St := ⟨tsOf [], [(.box 3 (.dat 3 (.int x0)))], 1⟩
noncomputable def s5_9 (x0 : Int) (x1 : List Dt) (x2 x3 x4 : Int) : St := ⟨tsOf [(1, (.dat 3 (.int x0))), (2, (.ptr 0 [] 0)), (50, (.dat 28 (.lst x1))), (51, (.dat 3 (.int x2))), (52, (.dat 3 (.int x3)))], [(.box 3 (.dat 3 (.int x4)))], 1⟩
noncomputable def s5_8 (x0 : Int) (x1 : List Dt) (x2 x3 x4 : Int) : St := ⟨tsOf [(1, (.dat 3 (.int x0))), (2, (.ptr 0 [] 0)), (50, (.dat 28 (.lst x1))), (51, (.dat 3 (.int x2))), (52, (.dat 3 (.int x3)))], [(.box 3 (.dat 3 (.int x4)))], 1⟩
noncomputable def s5_7 (x0 x1 : Int) (x2 : Dt) : St := ⟨tsOf [(1, (.dat 3 (.int x0))), (2, (.ptr 0 [] 0)), (3, (.ptr 1 [] 0))], [(.box 3 (.dat 3 (.int x1))), (.box 30 (.dat 30 x2))], 1⟩
noncomputable def s5_4 (x0 : Int) (x1 : List Dt) (x2 x3 x4 : Int) (x5 : Dt) : St := ⟨tsOf [(1, (.dat 3 (.int x0))), (2, (.ptr 0 [] 0)), (3, (.ptr 1 [] 0)), (33, (.dat 27 (.lst x1))), (34, (.dat 3 (.int x2))), (35, (.dat 3 (.int x3)))], [(.box 3 (.dat 3 (.int x4))), (.box 30 (.dat 30 x5))], 1⟩
noncomputable def s5_3 (x0 : Int) (x1 : List Dt) (x2 x3 x4 : Int) (x5 : Dt) : St := ⟨tsOf [(1, (.dat 3 (.int x0))), (2, (.ptr 0 [] 0)), (3, (.ptr 1 [] 0)), (33, (.dat 27 (.lst x1))), (34, (.dat 3 (.int x2))), (35, (.dat 3 (.int x3)))], [(.box 3 (.dat 3 (.int x4))), (.box 30 (.dat 30 x5))], 1⟩
noncomputable def s5_2 (x0 x1 : Int) (x2 : Dt) : St := ⟨tsOf [(1, (.dat 3 (.int x0))), (2, (.ptr 0 [] 0)), (3, (.ptr 1 [] 0))], [(.box 3 (.dat 3 (.int x1))), (.box 30 (.dat 30 x2))], 1⟩
noncomputable def s5_1 (x0 x1 : Int) (x2 : Dt) : St := ⟨tsOf [(1, (.dat 3 (.int x0))), (2, (.ptr 0 [] 0)), (3, (.ptr 1 [] 0))], [(.box 3 (.dat 3 (.int x1))), (.box 30 (.dat 30 x2))], 1⟩
noncomputable def s5_0 (x0 : Int) (x1 : Bool) (x2 : Int) (x3 : Dt) : St := ⟨tsOf [(1, (.dat 3 (.int x0))), (2, (.ptr 0 [] 0)), (3, (.ptr 1 [] 0)), (21, (.dat 4 (.bool x1)))], [(.box 3 (.dat 3 (.int x2))), (.box 30 (.dat 30 x3))], 1⟩
theorem i5_j6_eq (m : Nat) (M4 : Nat) (rec4 : Int → List Dt → Int → Int → Int → Dt → Option (Int × Int)) (h4 : ∀ (x0 : Int) (x1 : List Dt) (x2 x3 x4 : Int) (x5 : Dt), l5 jn m [1, 1, 1, 1, 0, 1, 0] [] M4 (s5_4 x0 x1 x2 x3 x4 x5) = rec4 x0 x1 x2 x3 x4 x5) (x0 : Int) (x1 : List Dt) (x2 x3 x4 : Int) (x5 : Dt) : e5 jn m [1, 1, 1, 1, 0, 1, 0, 0, 1, 1, 1] [M4] (s5_6 x0 x1 x2 x3 x4 x5) = i5_j6 m (i5 m) rec4 x0 x1 x2 x3 x4 x5 := by
  have h : ∀ J, e5 J m [1, 1, 1, 1, 0, 1, 0, 0, 1, 1, 1] [M4] (s5_6 x0 x1 x2 x3 x4 x5) =
    (J 1 8 M4 (s5_4 x0 x1 x2 (IntKind.wrap .i64 (x3 + 1)) x4 x5) (l5 J m [1, 1, 1, 1, 0, 1, 0] [] M4 (s5_4 x0 x1 x2 (IntKind.wrap .i64 (x3 + 1)) x4 x5))) := fun J => by kernel_rfl
  exact (h jn).trans (by
    simp only [jn_eq, h4]
    rfl)
theorem i5_j5_eq (m : Nat) (M4 : Nat) (rec4 : Int → List Dt → Int → Int → Int → Dt → Option (Int × Int)) (h4 : ∀ (x0 : Int) (x1 : List Dt) (x2 x3 x4 : Int) (x5 : Dt), l5 jn m [1, 1, 1, 1, 0, 1, 0] [] M4 (s5_4 x0 x1 x2 x3 x4 x5) = rec4 x0 x1 x2 x3 x4 x5) (x0 : Int) (x1 : List Dt) (x2 x3 x4 : Int) (x5 : Dt) : e5 jn m [1, 1, 1, 1, 0, 1, 0, 0, 1, 1] [M4] (s5_5 x0 x1 x2 x3 x4 x5) = i5_j5 m (i5 m) rec4 x0 x1 x2 x3 x4 x5 := by
  have h : ∀ J, e5 J m [1, 1, 1, 1, 0, 1, 0, 0, 1, 1] [M4] (s5_5 x0 x1 x2 x3 x4 x5) =
    ((idx x1 x3).bind fun v1 =>
   ((i5 m (Dt.fld v1 1) (IntKind.wrap .i64 (x0 + 1)) x4).bind fun r2 =>
   (bif (r2.1 != 0) then
   some (r2.1, r2.2)
   else
   (J 0 13 0 (s5_6 x0 x1 x2 x3 r2.2 x5) (e5 J m [1, 1, 1, 1, 0, 1, 0, 0, 1, 1, 1] [M4] (s5_6 x0 x1 x2 x3 r2.2 x5)))))) := fun J => by kernel_rfl
  exact (h jn).trans (by
    simp only [jn_eq, i5_j6_eq m M4 rec4 h4]
    rfl)
theorem i5_j11_eq (m : Nat) (M9 : Nat) (rec9 : Int → List Dt → Int → Int → Int → Option (Int × Int)) (h9 : ∀ (x0 : Int) (x1 : List Dt) (x2 x3 x4 : Int), l5 jn m [1, 1, 1, 1, 1, 0, 1, 0] [] M9 (s5_9 x0 x1 x2 x3 x4) = rec9 x0 x1 x2 x3 x4) (x0 : Int) (x1 : List Dt) (x2 x3 x4 : Int) : e5 jn m [1, 1, 1, 1, 1, 0, 1, 0, 0, 1, 1, 1] [M9] (s5_11 x0 x1 x2 x3 x4) = i5_j11 m (i5 m) rec9 x0 x1 x2 x3 x4 := by
  have h : ∀ J, e5 J m [1, 1, 1, 1, 1, 0, 1, 0, 0, 1, 1, 1] [M9] (s5_11 x0 x1 x2 x3 x4) =
    (J 1 15 M9 (s5_9 x0 x1 x2 (IntKind.wrap .i64 (x3 + 1)) x4) (l5 J m [1, 1, 1, 1, 1, 0, 1, 0] [] M9 (s5_9 x0 x1 x2 (IntKind.wrap .i64 (x3 + 1)) x4))) := fun J => by kernel_rfl
  exact (h jn).trans (by
    simp only [jn_eq, h9]
    rfl)
theorem i5_j10_eq (m : Nat) (M9 : Nat) (rec9 : Int → List Dt → Int → Int → Int → Option (Int × Int)) (h9 : ∀ (x0 : Int) (x1 : List Dt) (x2 x3 x4 : Int), l5 jn m [1, 1, 1, 1, 1, 0, 1, 0] [] M9 (s5_9 x0 x1 x2 x3 x4) = rec9 x0 x1 x2 x3 x4) (x0 : Int) (x1 : List Dt) (x2 x3 x4 : Int) : e5 jn m [1, 1, 1, 1, 1, 0, 1, 0, 0, 1, 1] [M9] (s5_10 x0 x1 x2 x3 x4) = i5_j10 m (i5 m) rec9 x0 x1 x2 x3 x4 := by
  have h : ∀ J, e5 J m [1, 1, 1, 1, 1, 0, 1, 0, 0, 1, 1] [M9] (s5_10 x0 x1 x2 x3 x4) =
    ((idx x1 x3).bind fun v3 =>
   ((i5 m v3 (IntKind.wrap .i64 (x0 + 1)) x4).bind fun r4 =>
   (bif (r4.1 != 0) then
   some (r4.1, r4.2)
   else
   (J 0 20 0 (s5_11 x0 x1 x2 x3 r4.2) (e5 J m [1, 1, 1, 1, 1, 0, 1, 0, 0, 1, 1, 1] [M9] (s5_11 x0 x1 x2 x3 r4.2)))))) := fun J => by kernel_rfl
  exact (h jn).trans (by
    simp only [jn_eq, i5_j11_eq m M9 rec9 h9]
    rfl)
theorem i5_j12_eq (m : Nat) (x0 : Int) : e5 jn m [1, 1, 1, 1, 1, 1] [] (s5_12 x0) = i5_j12 m (i5 m) x0 := by
  have h : ∀ J, e5 J m [1, 1, 1, 1, 1, 1] [] (s5_12 x0) =
    some (0, x0) := fun J => by kernel_rfl
  exact (h jn).trans (rfl)
theorem i5_l9_eq (m : Nat) : ∀ (M9 : Nat) (x0 : Int) (x1 : List Dt) (x2 x3 x4 : Int), l5 jn m [1, 1, 1, 1, 1, 0, 1, 0] [] M9 (s5_9 x0 x1 x2 x3 x4) = i5_l9 m (i5 m) M9 x0 x1 x2 x3 x4
  | 0, _, _, _, _, _ => rfl
  | M9 + 1, x0, x1, x2, x3, x4 => by
    have h : ∀ J, l5 J m [1, 1, 1, 1, 1, 0, 1, 0] [] (M9 + 1) (s5_9 x0 x1 x2 x3 x4) =
    (bif (decide (x3 < x2)) then
   (J 0 16 0 (s5_10 x0 x1 x2 x3 x4) (e5 J m [1, 1, 1, 1, 1, 0, 1, 0, 0, 1, 1] [M9] (s5_10 x0 x1 x2 x3 x4)))
    else
   (J 0 21 0 (s5_12 x4) (e5 J m [1, 1, 1, 1, 1, 1] [] (s5_12 x4)))) := fun J => by kernel_rfl
    refine (h jn).trans ?_
    simp only [jn_eq, i5_j10_eq m M9 (i5_l9 m (i5 m) M9) (fun x0 x1 x2 x3 x4 => i5_l9_eq m M9 x0 x1 x2 x3 x4), i5_j12_eq m]
    rfl
theorem i5_j8_eq (m : Nat) (x0 : Int) (x1 : List Dt) (x2 x3 x4 : Int) : e5 jn m [1, 1, 1, 1, 1, 0, 1] [] (s5_8 x0 x1 x2 x3 x4) = i5_j8 m (i5 m) x0 x1 x2 x3 x4 := by
  have h : ∀ J, e5 J m [1, 1, 1, 1, 1, 0, 1] [] (s5_8 x0 x1 x2 x3 x4) =
    (J 1 15 (Nat.succ m) (s5_9 x0 x1 x2 x3 x4) (l5 J m [1, 1, 1, 1, 1, 0, 1, 0] [] (Nat.succ m) (s5_9 x0 x1 x2 x3 x4))) := fun J => by kernel_rfl
  exact (h jn).trans (by
    simp only [jn_eq, i5_l9_eq m]
    rfl)
theorem i5_j7_eq (m : Nat) (x0 x1 : Int) (x2 : Dt) : e5 jn m [1, 1, 1, 1, 1] [] (s5_7 x0 x1 x2) = i5_j7 m (i5 m) x0 x1 x2 := by
  have h : ∀ J, e5 J m [1, 1, 1, 1, 1] [] (s5_7 x0 x1 x2) =
    (J 0 15 0 (s5_8 x0 (Dt.L x2 11) (List.length (Dt.L x2 11) : Int) 0 x1) (e5 J m [1, 1, 1, 1, 1, 0, 1] [] (s5_8 x0 (Dt.L x2 11) (List.length (Dt.L x2 11) : Int) 0 x1))) := fun J => by kernel_rfl
  exact (h jn).trans (by
    simp only [jn_eq, i5_j8_eq m]
    rfl)
theorem i5_l4_eq (m : Nat) : ∀ (M4 : Nat) (x0 : Int) (x1 : List Dt) (x2 x3 x4 : Int) (x5 : Dt), l5 jn m [1, 1, 1, 1, 0, 1, 0] [] M4 (s5_4 x0 x1 x2 x3 x4 x5) = i5_l4 m (i5 m) M4 x0 x1 x2 x3 x4 x5
  | 0, _, _, _, _, _, _ => rfl
  | M4 + 1, x0, x1, x2, x3, x4, x5 => by
    have h : ∀ J, l5 J m [1, 1, 1, 1, 0, 1, 0] [] (M4 + 1) (s5_4 x0 x1 x2 x3 x4 x5) =
    (bif (decide (x3 < x2)) then
   (J 0 9 0 (s5_5 x0 x1 x2 x3 x4 x5) (e5 J m [1, 1, 1, 1, 0, 1, 0, 0, 1, 1] [M4] (s5_5 x0 x1 x2 x3 x4 x5)))
    else
   (J 0 14 0 (s5_7 x0 x4 x5) (e5 J m [1, 1, 1, 1, 1] [] (s5_7 x0 x4 x5)))) := fun J => by kernel_rfl
    refine (h jn).trans ?_
    simp only [jn_eq, i5_j5_eq m M4 (i5_l4 m (i5 m) M4) (fun x0 x1 x2 x3 x4 x5 => i5_l4_eq m M4 x0 x1 x2 x3 x4 x5), i5_j7_eq m]
    rfl
theorem i5_j3_eq (m : Nat) (x0 : Int) (x1 : List Dt) (x2 x3 x4 : Int) (x5 : Dt) : e5 jn m [1, 1, 1, 1, 0, 1] [] (s5_3 x0 x1 x2 x3 x4 x5) = i5_j3 m (i5 m) x0 x1 x2 x3 x4 x5 := by
  have h : ∀ J, e5 J m [1, 1, 1, 1, 0, 1] [] (s5_3 x0 x1 x2 x3 x4 x5) =
    (J 1 8 (Nat.succ m) (s5_4 x0 x1 x2 x3 x4 x5) (l5 J m [1, 1, 1, 1, 0, 1, 0] [] (Nat.succ m) (s5_4 x0 x1 x2 x3 x4 x5))) := fun J => by kernel_rfl
  exact (h jn).trans (by
    simp only [jn_eq, i5_l4_eq m]
    rfl)
theorem i5_j2_eq (m : Nat) (x0 x1 : Int) (x2 : Dt) : e5 jn m [1, 1, 1, 1] [] (s5_2 x0 x1 x2) = i5_j2 m (i5 m) x0 x1 x2 := by
  have h : ∀ J, e5 J m [1, 1, 1, 1] [] (s5_2 x0 x1 x2) =
    (J 0 8 0 (s5_3 x0 (Dt.L x2 9) (List.length (Dt.L x2 9) : Int) 0 x1 x2) (e5 J m [1, 1, 1, 1, 0, 1] [] (s5_3 x0 (Dt.L x2 9) (List.length (Dt.L x2 9) : Int) 0 x1 x2))) := fun J => by kernel_rfl
  exact (h jn).trans (by
    simp only [jn_eq, i5_j3_eq m]
    rfl)
theorem i5_j1_eq (m : Nat) (x0 x1 : Int) (x2 : Dt) : e5 jn m [1, 1] [] (s5_1 x0 x1 x2) = i5_j1 m (i5 m) x0 x1 x2 := by
  have h : ∀ J, e5 J m [1, 1] [] (s5_1 x0 x1 x2) =
    ((schema_checkOne m x2).bind fun r0 =>
   (bif (r0 != 0) then
   some (r0, (IntKind.wrap .i64 (x1 + 1)))
   else
   (J 0 7 0 (s5_2 x0 (IntKind.wrap .i64 (x1 + 1)) x2) (e5 J m [1, 1, 1, 1] [] (s5_2 x0 (IntKind.wrap .i64 (x1 + 1)) x2))))) := fun J => by kernel_rfl
  exact (h jn).trans (by
    simp only [jn_eq, i5_j2_eq m]
    rfl)
theorem i5_j0_eq (m : Nat) (x0 : Int) (x1 : Bool) (x2 : Int) (x3 : Dt) : e5 jn m [1, 0, 1] [] (s5_0 x0 x1 x2 x3) = i5_j0 m (i5 m) x0 x1 x2 x3 := by
  have h : ∀ J, e5 J m [1, 0, 1] [] (s5_0 x0 x1 x2 x3) =
    (bif x1 then
   some (2, x2)
    else
   (J 0 3 0 (s5_1 x0 x2 x3) (e5 J m [1, 1] [] (s5_1 x0 x2 x3)))) := fun J => by kernel_rfl
  exact (h jn).trans (by
    simp only [jn_eq, i5_j1_eq m]
    rfl)
theorem i5_eq (m : Nat) (a0 : Dt) (a1 a2 : Int) : e5 jn m [] [] ⟨[(.dat 30 a0), (.dat 3 (.int a1)), (.ptr 0 [] 0)], [(.box 3 (.dat 3 (.int a2)))], 1⟩ = i5 (m + 1) a0 a1 a2 := by
  have h : ∀ J, e5 J m [] [] ⟨[(.dat 30 a0), (.dat 3 (.int a1)), (.ptr 0 [] 0)], [(.box 3 (.dat 3 (.int a2)))], 1⟩ =
    (bif (decide (16 < a1)) then
   (J 0 2 0 (s5_0 a1 true a2 a0) (e5 J m [1, 0, 1] [] (s5_0 a1 true a2 a0)))
    else
   (J 0 2 0 (s5_0 a1 (a2 == 64) a2 a0) (e5 J m [1, 0, 1] [] (s5_0 a1 (a2 == 64) a2 a0)))) := fun J => by kernel_rfl
  refine (h jn).trans ?_
  simp only [jn_eq, i5_j0_eq m]
  rfl
noncomputable def d3 (q : Res) : Option Int := match q with
  | (.dat T0 x0, []) => bif Nat.beq T0 33 then some x0.toInt else none
  | _ => none
theorem d3_sim {b : Res} {r : Int} (h : d3 b = some r) : Sim Tryd.prog b ((.dat 33 (.int r)), []) := by
  unfold d3 at h
  split at h
  · obtain ⟨hc, h2⟩ := bif_some h
    cases h2
    have e0 := beq_eq hc
    subst e0
    exact Sim.of (.of (.dat (.int Tryd.underlying33)) rfl rfl) .nil
  · cases h
noncomputable def e3 (J : Nat → Nat → Nat → St → Option Int → Option Int) (m : Nat) (p ms : List Nat) (σ : St) := evAt Tryd.prog env (ct m) J (m + 1) 9 6 Tryd.f9 d3 p ms σ
noncomputable def l3 (J : Nat → Nat → Nat → St → Option Int → Option Int) (m : Nat) (p ms : List Nat) (M : Nat) (σ : St) := loopAt Tryd.prog env (ct m) J (m + 1) 9 6 Tryd.f9 d3 p ms M σ
theorem schema_Valid_eq (m : Nat) (a0 : Dt) : e3 jn m [] [] ⟨[(.dat 30 a0)], [], 0⟩ = schema_Valid (m + 1) a0 := by
  have h : ∀ J, e3 J m [] [] ⟨[(.dat 30 a0)], [], 0⟩ =
    ((i5 m a0 1 0).bind fun r0 =>
   some r0.1) := fun J => by kernel_rfl
  refine (h jn).trans ?_
  
  rfl
noncomputable def d36 (q : Res) : Option (List Dt) := match q with
  | (.dat T0 x0, []) => bif Nat.beq T0 22 then some x0.toLst else none
  | _ => none
theorem d36_sim {b : Res} {r : List Dt} (h : d36 b = some r) : Sim Tryd.prog b ((.dat 22 (.lst r)), []) := by
  unfold d36 at h
  split at h
  · obtain ⟨hc, h2⟩ := bif_some h
    cases h2
    have e0 := beq_eq hc
    subst e0
    exact Sim.of (.of (.dat (.lst Tryd.underlying22)) rfl rfl) .nil
  · cases h
noncomputable def e36 (J : Nat → Nat → Nat → St → Option (List Dt) → Option (List Dt)) (m : Nat) (p ms : List Nat) (σ : St) := evAt Tryd.prog env (ct m) J (m + 1) 60 44 Tryd.f60 d36 p ms σ
noncomputable def l36 (J : Nat → Nat → Nat → St → Option (List Dt) → Option (List Dt)) (m : Nat) (p ms : List Nat) (M : Nat) (σ : St) := loopAt Tryd.prog env (ct m) J (m + 1) 60 44 Tryd.f60 d36 p ms M σ
noncomputable def s36_3 (x0 : Int) (x1 : Dt) (x2 : List Dt) : St := ⟨tsOf [(1, (.ptr 0 [] 0)), (3, (.row 1)), (4, (.dat 3 (.int x0)))], [(.box 25 (.dat 25 x1)), (.row 22 x2)], 0⟩
noncomputable def s36_2 (x0 : Int) (x1 : Dt) (x2 : List Dt) : St := ⟨tsOf [(1, (.ptr 0 [] 0)), (3, (.row 1)), (4, (.dat 3 (.int x0)))], [(.box 25 (.dat 25 x1)), (.row 22 x2)], 0⟩
noncomputable def s36_8 (x0 : Int) (x1 : Dt) (x2 : List Dt) : St := ⟨tsOf [(1, (.ptr 0 [] 0)), (3, (.row 1)), (5, (.dat 3 (.int x0)))], [(.box 25 (.dat 25 x1)), (.row 22 x2)], 0⟩
noncomputable def s36_7 (x0 : Int) (x1 : Dt) (x2 : List Dt) : St := ⟨tsOf [(1, (.ptr 0 [] 0)), (3, (.row 1)), (5, (.dat 3 (.int x0)))], [(.box 25 (.dat 25 x1)), (.row 22 x2)], 0⟩
noncomputable def s36_9 (x0 : List Dt) : St := ⟨tsOf [(3, (.row 0))], [(.row 22 x0)], 0⟩
noncomputable def s36_6 (x0 : Int) (x1 : Dt) (x2 : List Dt) : St := ⟨tsOf [(1, (.ptr 0 [] 0)), (3, (.row 1)), (5, (.dat 3 (.int x0)))], [(.box 25 (.dat 25 x1)), (.row 22 x2)], 0⟩
noncomputable def s36_5 (x0 : Int) (x1 : Dt) (x2 : List Dt) : St := ⟨tsOf [(1, (.ptr 0 [] 0)), (3, (.row 1)), (5, (.dat 3 (.int x0)))], [(.box 25 (.dat 25 x1)), (.row 22 x2)], 0⟩
noncomputable def s36_4 (x0 : Dt) (x1 : List Dt) : St := ⟨tsOf [(1, (.ptr 0 [] 0)), (3, (.row 1))], [(.box 25 (.dat 25 x0)), (.row 22 x1)], 0⟩
noncomputable def s36_1 (x0 : Int) (x1 : Dt) (x2 : List Dt) : St := ⟨tsOf [(1, (.ptr 0 [] 0)), (3, (.row 1)), (4, (.dat 3 (.int x0)))], [(.box 25 (.dat 25 x1)), (.row 22 x2)], 0⟩
noncomputable def s36_0 (x0 : Int) (x1 : Dt) (x2 : List Dt) : St := ⟨tsOf [(1, (.ptr 0 [] 0)), (3, (.row 1)), (4, (.dat 3 (.int x0)))], [(.box 25 (.dat 25 x1)), (.row 22 x2)], 0⟩
theorem ref01_Parts_j3_eq (m : Nat) (M1 : Nat) (rec1 : Int → Dt → List Dt → Option (List Dt)) (h1 : ∀ (x0 : Int) (x1 : Dt) (x2 : List Dt), l36 jn m [1, 1, 0, 1, 0, 1, 0] [] M1 (s36_1 x0 x1 x2) = rec1 x0 x1 x2) (x0 : Int) (x1 : Dt) (x2 : List Dt) : e36 jn m [1, 1, 0, 1, 0, 1, 0, 0, 1, 1] [M1] (s36_3 x0 x1 x2) = ref01_Parts_j3 m rec1 x0 x1 x2 := by
  have h : ∀ J, e36 J m [1, 1, 0, 1, 0, 1, 0, 0, 1, 1] [M1] (s36_3 x0 x1 x2) =
    (J 1 4 M1 (s36_1 (IntKind.wrap .i64 (x0 + 1)) x1 x2) (l36 J m [1, 1, 0, 1, 0, 1, 0] [] M1 (s36_1 (IntKind.wrap .i64 (x0 + 1)) x1 x2))) := fun J => by kernel_rfl
  exact (h jn).trans (by
    simp only [jn_eq, h1]
    rfl)
theorem ref01_Parts_j2_eq (m : Nat) (M1 : Nat) (rec1 : Int → Dt → List Dt → Option (List Dt)) (h1 : ∀ (x0 : Int) (x1 : Dt) (x2 : List Dt), l36 jn m [1, 1, 0, 1, 0, 1, 0] [] M1 (s36_1 x0 x1 x2) = rec1 x0 x1 x2) (x0 : Int) (x1 : Dt) (x2 : List Dt) : e36 jn m [1, 1, 0, 1, 0, 1, 0, 0, 1] [M1] (s36_2 x0 x1 x2) = ref01_Parts_j2 m rec1 x0 x1 x2 := by
  have h : ∀ J, e36 J m [1, 1, 0, 1, 0, 1, 0, 0, 1] [M1] (s36_2 x0 x1 x2) =
    ((idx (Dt.L x1 3) x0).bind fun v0 =>
   ((app x2 [v0]).bind fun v1 =>
   (J 0 5 0 (s36_3 x0 x1 v1) (e36 J m [1, 1, 0, 1, 0, 1, 0, 0, 1, 1] [M1] (s36_3 x0 x1 v1))))) := fun J => by kernel_rfl
  exact (h jn).trans (by
    simp only [jn_eq, ref01_Parts_j3_eq m M1 rec1 h1]
    rfl)
theorem ref01_Parts_j8_eq (m : Nat) (M6 : Nat) (rec6 : Int → Dt → List Dt → Option (List Dt)) (h6 : ∀ (x0 : Int) (x1 : Dt) (x2 : List Dt), l36 jn m [1, 1, 1, 0, 1, 0, 1, 0] [] M6 (s36_6 x0 x1 x2) = rec6 x0 x1 x2) (x0 : Int) (x1 : Dt) (x2 : List Dt) : e36 jn m [1, 1, 1, 0, 1, 0, 1, 0, 0, 1, 1] [M6] (s36_8 x0 x1 x2) = ref01_Parts_j8 m rec6 x0 x1 x2 := by
  have h : ∀ J, e36 J m [1, 1, 1, 0, 1, 0, 1, 0, 0, 1, 1] [M6] (s36_8 x0 x1 x2) =
    (J 1 9 M6 (s36_6 (IntKind.wrap .i64 (x0 + 1)) x1 x2) (l36 J m [1, 1, 1, 0, 1, 0, 1, 0] [] M6 (s36_6 (IntKind.wrap .i64 (x0 + 1)) x1 x2))) := fun J => by kernel_rfl
  exact (h jn).trans (by
    simp only [jn_eq, h6]
    rfl)
theorem ref01_Parts_j7_eq (m : Nat) (M6 : Nat) (rec6 : Int → Dt → List Dt → Option (List Dt)) (h6 : ∀ (x0 : Int) (x1 : Dt) (x2 : List Dt), l36 jn m [1, 1, 1, 0, 1, 0, 1, 0] [] M6 (s36_6 x0 x1 x2) = rec6 x0 x1 x2) (x0 : Int) (x1 : Dt) (x2 : List Dt) : e36 jn m [1, 1, 1, 0, 1, 0, 1, 0, 0, 1] [M6] (s36_7 x0 x1 x2) = ref01_Parts_j7 m rec6 x0 x1 x2 := by
  have h : ∀ J, e36 J m [1, 1, 1, 0, 1, 0, 1, 0, 0, 1] [M6] (s36_7 x0 x1 x2) =
    ((idx (Dt.L x1 4) x0).bind fun v2 =>
   ((app x2 [(Dt.fld v2 1)]).bind fun v3 =>
   (J 0 10 0 (s36_8 x0 x1 v3) (e36 J m [1, 1, 1, 0, 1, 0, 1, 0, 0, 1, 1] [M6] (s36_8 x0 x1 v3))))) := fun J => by kernel_rfl
  exact (h jn).trans (by
    simp only [jn_eq, ref01_Parts_j8_eq m M6 rec6 h6]
    rfl)
theorem ref01_Parts_j9_eq (m : Nat) (x0 : List Dt) : e36 jn m [1, 1, 1, 1] [] (s36_9 x0) = ref01_Parts_j9 m x0 := by
  have h : ∀ J, e36 J m [1, 1, 1, 1] [] (s36_9 x0) =
    some x0 := fun J => by kernel_rfl
  exact (h jn).trans (rfl)
theorem ref01_Parts_l6_eq (m : Nat) : ∀ (M6 : Nat) (x0 : Int) (x1 : Dt) (x2 : List Dt), l36 jn m [1, 1, 1, 0, 1, 0, 1, 0] [] M6 (s36_6 x0 x1 x2) = ref01_Parts_l6 m M6 x0 x1 x2
  | 0, _, _, _ => rfl
  | M6 + 1, x0, x1, x2 => by
    have h : ∀ J, l36 J m [1, 1, 1, 0, 1, 0, 1, 0] [] (M6 + 1) (s36_6 x0 x1 x2) =
    (bif (decide (x0 < (List.length (Dt.L x1 4) : Int))) then
   (J 0 11 0 (s36_7 x0 x1 x2) (e36 J m [1, 1, 1, 0, 1, 0, 1, 0, 0, 1] [M6] (s36_7 x0 x1 x2)))
    else
   (J 0 12 0 (s36_9 x2) (e36 J m [1, 1, 1, 1] [] (s36_9 x2)))) := fun J => by kernel_rfl
    refine (h jn).trans ?_
    simp only [jn_eq, ref01_Parts_j7_eq m M6 (ref01_Parts_l6 m M6) (fun x0 x1 x2 => ref01_Parts_l6_eq m M6 x0 x1 x2), ref01_Parts_j9_eq m]
    rfl
theorem ref01_Parts_j5_eq (m : Nat) (x0 : Int) (x1 : Dt) (x2 : List Dt) : e36 jn m [1, 1, 1, 0, 1, 0, 1] [] (s36_5 x0 x1 x2) = ref01_Parts_j5 m x0 x1 x2 := by
  have h : ∀ J, e36 J m [1, 1, 1, 0, 1, 0, 1] [] (s36_5 x0 x1 x2) =
    (J 1 9 (Nat.succ m) (s36_6 x0 x1 x2) (l36 J m [1, 1, 1, 0, 1, 0, 1, 0] [] (Nat.succ m) (s36_6 x0 x1 x2))) := fun J => by kernel_rfl
  exact (h jn).trans (by
    simp only [jn_eq, ref01_Parts_l6_eq m]
    rfl)
theorem ref01_Parts_j4_eq (m : Nat) (x0 : Dt) (x1 : List Dt) : e36 jn m [1, 1, 1] [] (s36_4 x0 x1) = ref01_Parts_j4 m x0 x1 := by
  have h : ∀ J, e36 J m [1, 1, 1] [] (s36_4 x0 x1) =
    (bif ((Dt.I x0 0) == 5) then
   (J 0 9 0 (s36_5 0 x0 x1) (e36 J m [1, 1, 1, 0, 1, 0, 1] [] (s36_5 0 x0 x1)))
    else
   (J 0 12 0 (s36_9 x1) (e36 J m [1, 1, 1, 1] [] (s36_9 x1)))) := fun J => by kernel_rfl
  exact (h jn).trans (by
    simp only [jn_eq, ref01_Parts_j5_eq m, ref01_Parts_j9_eq m]
    rfl)
theorem ref01_Parts_l1_eq (m : Nat) : ∀ (M1 : Nat) (x0 : Int) (x1 : Dt) (x2 : List Dt), l36 jn m [1, 1, 0, 1, 0, 1, 0] [] M1 (s36_1 x0 x1 x2) = ref01_Parts_l1 m M1 x0 x1 x2
  | 0, _, _, _ => rfl
  | M1 + 1, x0, x1, x2 => by
    have h : ∀ J, l36 J m [1, 1, 0, 1, 0, 1, 0] [] (M1 + 1) (s36_1 x0 x1 x2) =
    (bif (decide (x0 < (List.length (Dt.L x1 3) : Int))) then
   (J 0 6 0 (s36_2 x0 x1 x2) (e36 J m [1, 1, 0, 1, 0, 1, 0, 0, 1] [M1] (s36_2 x0 x1 x2)))
    else
   (J 0 7 0 (s36_4 x1 x2) (e36 J m [1, 1, 1] [] (s36_4 x1 x2)))) := fun J => by kernel_rfl
    refine (h jn).trans ?_
    simp only [jn_eq, ref01_Parts_j2_eq m M1 (ref01_Parts_l1 m M1) (fun x0 x1 x2 => ref01_Parts_l1_eq m M1 x0 x1 x2), ref01_Parts_j4_eq m]
    rfl
theorem ref01_Parts_j0_eq (m : Nat) (x0 : Int) (x1 : Dt) (x2 : List Dt) : e36 jn m [1, 1, 0, 1, 0, 1] [] (s36_0 x0 x1 x2) = ref01_Parts_j0 m x0 x1 x2 := by
  have h : ∀ J, e36 J m [1, 1, 0, 1, 0, 1] [] (s36_0 x0 x1 x2) =
    (J 1 4 (Nat.succ m) (s36_1 x0 x1 x2) (l36 J m [1, 1, 0, 1, 0, 1, 0] [] (Nat.succ m) (s36_1 x0 x1 x2))) := fun J => by kernel_rfl
  exact (h jn).trans (by
    simp only [jn_eq, ref01_Parts_l1_eq m]
    rfl)
theorem ref01_Parts_eq (m : Nat) (a0 : Dt) : e36 jn m [] [] ⟨[(.dat 25 a0)], [], 0⟩ = ref01_Parts (m + 1) a0 := by
  have h : ∀ J, e36 J m [] [] ⟨[(.dat 25 a0)], [], 0⟩ =
    (bif ((Dt.I a0 0) == 6) then
   (J 0 4 0 (s36_0 0 a0 []) (e36 J m [1, 1, 0, 1, 0, 1] [] (s36_0 0 a0 [])))
    else
   (J 0 7 0 (s36_4 a0 []) (e36 J m [1, 1, 1] [] (s36_4 a0 [])))) := fun J => by kernel_rfl
  refine (h jn).trans ?_
  simp only [jn_eq, ref01_Parts_j0_eq m, ref01_Parts_j4_eq m]
  rfl
noncomputable def d32 (q : Res) : Option Int := match q with
  | (.dat T0 x0, []) => bif Nat.beq T0 3 then some x0.toInt else none
  | _ => none
theorem d32_sim {b : Res} {r : Int} (h : d32 b = some r) : Sim Tryd.prog b ((.dat 3 (.int r)), []) := by
  unfold d32 at h
  split at h
  · obtain ⟨hc, h2⟩ := bif_some h
    cases h2
    have e0 := beq_eq hc
    subst e0
    exact Sim.of (.of (.dat (.int Tryd.underlying3)) rfl rfl) .nil
  · cases h
noncomputable def e32 (J : Nat → Nat → Nat → St → Option Int → Option Int) (m : Nat) (p ms : List Nat) (σ : St) := evAt Tryd.prog env (ct m) J (m + 1) 33 34 Tryd.f33 d32 p ms σ
noncomputable def l32 (J : Nat → Nat → Nat → St → Option Int → Option Int) (m : Nat) (p ms : List Nat) (M : Nat) (σ : St) := loopAt Tryd.prog env (ct m) J (m + 1) 33 34 Tryd.f33 d32 p ms M σ
noncomputable def s32_5 (x0 : Int) (x1 : List Dt) (x2 x3 : Int) : St := ⟨tsOf [(1, (.dat 3 (.int x0))), (5, (.dat 22 (.lst x1))), (6, (.dat 3 (.int x2))), (7, (.dat 3 (.int x3)))], [], 0⟩
noncomputable def s32_4 (x0 : Int) (x1 : List Dt) (x2 x3 : Int) : St := ⟨tsOf [(1, (.dat 3 (.int x0))), (5, (.dat 22 (.lst x1))), (6, (.dat 3 (.int x2))), (7, (.dat 3 (.int x3)))], [], 0⟩
noncomputable def s32_6 (x0 : Int) : St := ⟨tsOf [(6, (.dat 3 (.int x0)))], [], 0⟩
noncomputable def s32_3 (x0 : Int) (x1 : List Dt) (x2 x3 : Int) : St := ⟨tsOf [(1, (.dat 3 (.int x0))), (5, (.dat 22 (.lst x1))), (6, (.dat 3 (.int x2))), (7, (.dat 3 (.int x3)))], [], 0⟩
noncomputable def s32_2 (x0 : Int) (x1 : List Dt) (x2 x3 : Int) : St := ⟨tsOf [(1, (.dat 3 (.int x0))), (5, (.dat 22 (.lst x1))), (6, (.dat 3 (.int x2))), (7, (.dat 3 (.int x3)))], [], 0⟩
noncomputable def s32_1 (x0 : Int) (x1 : List Dt) : St := ⟨tsOf [(1, (.dat 3 (.int x0))), (5, (.dat 22 (.lst x1)))], [], 0⟩
noncomputable def s32_0 (x0 : Int) (x1 : List Dt) (x2 : Bool) : St := ⟨tsOf [(1, (.dat 3 (.int x0))), (5, (.dat 22 (.lst x1))), (16, (.dat 4 (.bool x2)))], [], 0⟩
theorem ref01_levels_j5_eq (m : Nat) (M3 : Nat) (rec3 : Int → List Dt → Int → Int → Option Int) (h3 : ∀ (x0 : Int) (x1 : List Dt) (x2 x3 : Int), l32 jn m [1, 1, 1, 1, 0, 1, 0] [] M3 (s32_3 x0 x1 x2 x3) = rec3 x0 x1 x2 x3) (x0 : Int) (x1 : List Dt) (x2 x3 : Int) : e32 jn m [1, 1, 1, 1, 0, 1, 0, 0, 1, 1] [M3] (s32_5 x0 x1 x2 x3) = ref01_levels_j5 m (ref01_levels m) rec3 x0 x1 x2 x3 := by
  have h : ∀ J, e32 J m [1, 1, 1, 1, 0, 1, 0, 0, 1, 1] [M3] (s32_5 x0 x1 x2 x3) =
    (J 1 6 M3 (s32_3 x0 x1 x2 (IntKind.wrap .i64 (x3 + 1))) (l32 J m [1, 1, 1, 1, 0, 1, 0] [] M3 (s32_3 x0 x1 x2 (IntKind.wrap .i64 (x3 + 1))))) := fun J => by kernel_rfl
  exact (h jn).trans (by
    simp only [jn_eq, h3]
    rfl)
theorem ref01_levels_j4_eq (m : Nat) (M3 : Nat) (rec3 : Int → List Dt → Int → Int → Option Int) (h3 : ∀ (x0 : Int) (x1 : List Dt) (x2 x3 : Int), l32 jn m [1, 1, 1, 1, 0, 1, 0] [] M3 (s32_3 x0 x1 x2 x3) = rec3 x0 x1 x2 x3) (x0 : Int) (x1 : List Dt) (x2 x3 : Int) : e32 jn m [1, 1, 1, 1, 0, 1, 0, 0, 1] [M3] (s32_4 x0 x1 x2 x3) = ref01_levels_j4 m (ref01_levels m) rec3 x0 x1 x2 x3 := by
  have h : ∀ J, e32 J m [1, 1, 1, 1, 0, 1, 0, 0, 1] [M3] (s32_4 x0 x1 x2 x3) =
    ((idx x1 x3).bind fun v1 =>
   ((ref01_levels m v1 (IntKind.wrap .i64 (x0 - 1))).bind fun r2 =>
   (J 0 7 0 (s32_5 x0 x1 (bif (decide (x2 < r2)) then r2 else x2) x3) (e32 J m [1, 1, 1, 1, 0, 1, 0, 0, 1, 1] [M3] (s32_5 x0 x1 (bif (decide (x2 < r2)) then r2 else x2) x3))))) := fun J => by kernel_rfl
  exact (h jn).trans (by
    simp only [jn_eq, ref01_levels_j5_eq m M3 rec3 h3]
    rfl)
theorem ref01_levels_j6_eq (m : Nat) (x0 : Int) : e32 jn m [1, 1, 1, 1, 1] [] (s32_6 x0) = ref01_levels_j6 m (ref01_levels m) x0 := by
  have h : ∀ J, e32 J m [1, 1, 1, 1, 1] [] (s32_6 x0) =
    some (IntKind.wrap .i64 (x0 + 1)) := fun J => by kernel_rfl
  exact (h jn).trans (rfl)
theorem ref01_levels_l3_eq (m : Nat) : ∀ (M3 : Nat) (x0 : Int) (x1 : List Dt) (x2 x3 : Int), l32 jn m [1, 1, 1, 1, 0, 1, 0] [] M3 (s32_3 x0 x1 x2 x3) = ref01_levels_l3 m (ref01_levels m) M3 x0 x1 x2 x3
  | 0, _, _, _, _ => rfl
  | M3 + 1, x0, x1, x2, x3 => by
    have h : ∀ J, l32 J m [1, 1, 1, 1, 0, 1, 0] [] (M3 + 1) (s32_3 x0 x1 x2 x3) =
    (bif (decide (x3 < (List.length x1 : Int))) then
   (J 0 8 0 (s32_4 x0 x1 x2 x3) (e32 J m [1, 1, 1, 1, 0, 1, 0, 0, 1] [M3] (s32_4 x0 x1 x2 x3)))
    else
   (J 0 9 0 (s32_6 x2) (e32 J m [1, 1, 1, 1, 1] [] (s32_6 x2)))) := fun J => by kernel_rfl
    refine (h jn).trans ?_
    simp only [jn_eq, ref01_levels_j4_eq m M3 (ref01_levels_l3 m (ref01_levels m) M3) (fun x0 x1 x2 x3 => ref01_levels_l3_eq m M3 x0 x1 x2 x3), ref01_levels_j6_eq m]
    rfl
theorem ref01_levels_j2_eq (m : Nat) (x0 : Int) (x1 : List Dt) (x2 x3 : Int) : e32 jn m [1, 1, 1, 1, 0, 1] [] (s32_2 x0 x1 x2 x3) = ref01_levels_j2 m (ref01_levels m) x0 x1 x2 x3 := by
  have h : ∀ J, e32 J m [1, 1, 1, 1, 0, 1] [] (s32_2 x0 x1 x2 x3) =
    (J 1 6 (Nat.succ m) (s32_3 x0 x1 x2 x3) (l32 J m [1, 1, 1, 1, 0, 1, 0] [] (Nat.succ m) (s32_3 x0 x1 x2 x3))) := fun J => by kernel_rfl
  exact (h jn).trans (by
    simp only [jn_eq, ref01_levels_l3_eq m]
    rfl)
theorem ref01_levels_j1_eq (m : Nat) (x0 : Int) (x1 : List Dt) : e32 jn m [1, 1, 1] [] (s32_1 x0 x1) = ref01_levels_j1 m (ref01_levels m) x0 x1 := by
  have h : ∀ J, e32 J m [1, 1, 1] [] (s32_1 x0 x1) =
    (J 0 6 0 (s32_2 x0 x1 0 0) (e32 J m [1, 1, 1, 1, 0, 1] [] (s32_2 x0 x1 0 0))) := fun J => by kernel_rfl
  exact (h jn).trans (by
    simp only [jn_eq, ref01_levels_j2_eq m]
    rfl)
theorem ref01_levels_j0_eq (m : Nat) (x0 : Int) (x1 : List Dt) (x2 : Bool) : e32 jn m [1, 1, 0, 1] [] (s32_0 x0 x1 x2) = ref01_levels_j0 m (ref01_levels m) x0 x1 x2 := by
  have h : ∀ J, e32 J m [1, 1, 0, 1] [] (s32_0 x0 x1 x2) =
    (bif x2 then
   some 1
    else
   (J 0 4 0 (s32_1 x0 x1) (e32 J m [1, 1, 1] [] (s32_1 x0 x1)))) := fun J => by kernel_rfl
  exact (h jn).trans (by
    simp only [jn_eq, ref01_levels_j1_eq m]
    rfl)
theorem ref01_levels_eq (m : Nat) (a0 : Dt) (a1 : Int) : e32 jn m [] [] ⟨[(.dat 25 a0), (.dat 3 (.int a1))], [], 0⟩ = ref01_levels (m + 1) a0 a1 := by
  have h : ∀ J, e32 J m [] [] ⟨[(.dat 25 a0), (.dat 3 (.int a1))], [], 0⟩ =
    ((ref01_Parts m a0).bind fun r0 =>
   (bif (decide (a1 < 2)) then
   (J 0 3 0 (s32_0 a1 r0 true) (e32 J m [1, 1, 0, 1] [] (s32_0 a1 r0 true)))
   else
   (J 0 3 0 (s32_0 a1 r0 ((List.length r0 : Int) == 0)) (e32 J m [1, 1, 0, 1] [] (s32_0 a1 r0 ((List.length r0 : Int) == 0)))))) := fun J => by kernel_rfl
  refine (h jn).trans ?_
  simp only [jn_eq, ref01_levels_j0_eq m]
  rfl
noncomputable def d24 (q : Res) : Option Int := match q with
  | (.dat T0 x0, []) => bif Nat.beq T0 3 then some x0.toInt else none
  | _ => none
theorem d24_sim {b : Res} {r : Int} (h : d24 b = some r) : Sim Tryd.prog b ((.dat 3 (.int r)), []) := by
  unfold d24 at h
  split at h
  · obtain ⟨hc, h2⟩ := bif_some h
    cases h2
    have e0 := beq_eq hc
    subst e0
    exact Sim.of (.of (.dat (.int Tryd.underlying3)) rfl rfl) .nil
  · cases h
noncomputable def e24 (J : Nat → Nat → Nat → St → Option Int → Option Int) (m : Nat) (p ms : List Nat) (σ : St) := evAt Tryd.prog env (ct m) J (m + 1) 22 5 Tryd.f22 d24 p ms σ
noncomputable def l24 (J : Nat → Nat → Nat → St → Option Int → Option Int) (m : Nat) (p ms : List Nat) (M : Nat) (σ : St) := loopAt Tryd.prog env (ct m) J (m + 1) 22 5 Tryd.f22 d24 p ms M σ
theorem ref01_Depth_eq (m : Nat) (a0 : Dt) : e24 jn m [] [] ⟨[(.dat 25 a0)], [], 0⟩ = ref01_Depth (m + 1) a0 := by
  have h : ∀ J, e24 J m [] [] ⟨[(.dat 25 a0)], [], 0⟩ =
    ((ref01_levels m a0 17).bind fun r0 =>
   some r0) := fun J => by kernel_rfl
  refine (h jn).trans ?_
  
  rfl
noncomputable def d33 (q : Res) : Option Int := match q with
  | (.dat T0 x0, []) => bif Nat.beq T0 3 then some x0.toInt else none
  | _ => none
theorem d33_sim {b : Res} {r : Int} (h : d33 b = some r) : Sim Tryd.prog b ((.dat 3 (.int r)), []) := by
  unfold d33 at h
  split at h
  · obtain ⟨hc, h2⟩ := bif_some h
    cases h2
    have e0 := beq_eq hc
    subst e0
    exact Sim.of (.of (.dat (.int Tryd.underlying3)) rfl rfl) .nil
  · cases h
noncomputable def e33 (J : Nat → Nat → Nat → St → Option Int → Option Int) (m : Nat) (p ms : List Nat) (σ : St) := evAt Tryd.prog env (ct m) J (m + 1) 34 32 Tryd.f34 d33 p ms σ
noncomputable def l33 (J : Nat → Nat → Nat → St → Option Int → Option Int) (m : Nat) (p ms : List Nat) (M : Nat) (σ : St) := loopAt Tryd.prog env (ct m) J (m + 1) 34 32 Tryd.f34 d33 p ms M σ
noncomputable def s33_3 (x0 x1 : Int) (x2 : List Dt) (x3 : Int) : St := ⟨tsOf [(1, (.dat 3 (.int x0))), (5, (.dat 3 (.int x1))), (6, (.dat 22 (.lst x2))), (7, (.dat 3 (.int x3)))], [], 0⟩
noncomputable def s33_2 (x0 x1 : Int) (x2 : List Dt) (x3 : Int) : St := ⟨tsOf [(1, (.dat 3 (.int x0))), (5, (.dat 3 (.int x1))), (6, (.dat 22 (.lst x2))), (7, (.dat 3 (.int x3)))], [], 0⟩
noncomputable def s33_4 (x0 : Int) : St := ⟨tsOf [(5, (.dat 3 (.int x0)))], [], 0⟩
noncomputable def s33_1 (x0 x1 : Int) (x2 : List Dt) (x3 : Int) : St := ⟨tsOf [(1, (.dat 3 (.int x0))), (5, (.dat 3 (.int x1))), (6, (.dat 22 (.lst x2))), (7, (.dat 3 (.int x3)))], [], 0⟩
noncomputable def s33_0 (x0 x1 : Int) (x2 : List Dt) (x3 : Int) : St := ⟨tsOf [(1, (.dat 3 (.int x0))), (5, (.dat 3 (.int x1))), (6, (.dat 22 (.lst x2))), (7, (.dat 3 (.int x3)))], [], 0⟩
theorem ref01_count_j3_eq (m : Nat) (M1 : Nat) (rec1 : Int → Int → List Dt → Int → Option Int) (h1 : ∀ (x0 x1 : Int) (x2 : List Dt) (x3 : Int), l33 jn m [1, 1, 1, 0, 1, 0] [] M1 (s33_1 x0 x1 x2 x3) = rec1 x0 x1 x2 x3) (x0 x1 : Int) (x2 : List Dt) (x3 : Int) : e33 jn m [1, 1, 1, 0, 1, 0, 0, 1, 1] [M1] (s33_3 x0 x1 x2 x3) = ref01_count_j3 m (ref01_count m) rec1 x0 x1 x2 x3 := by
  have h : ∀ J, e33 J m [1, 1, 1, 0, 1, 0, 0, 1, 1] [M1] (s33_3 x0 x1 x2 x3) =
    (J 1 4 M1 (s33_1 x0 x1 x2 (IntKind.wrap .i64 (x3 + 1))) (l33 J m [1, 1, 1, 0, 1, 0] [] M1 (s33_1 x0 x1 x2 (IntKind.wrap .i64 (x3 + 1))))) := fun J => by kernel_rfl
  exact (h jn).trans (by
    simp only [jn_eq, h1]
    rfl)
theorem ref01_count_j2_eq (m : Nat) (M1 : Nat) (rec1 : Int → Int → List Dt → Int → Option Int) (h1 : ∀ (x0 x1 : Int) (x2 : List Dt) (x3 : Int), l33 jn m [1, 1, 1, 0, 1, 0] [] M1 (s33_1 x0 x1 x2 x3) = rec1 x0 x1 x2 x3) (x0 x1 : Int) (x2 : List Dt) (x3 : Int) : e33 jn m [1, 1, 1, 0, 1, 0, 0, 1] [M1] (s33_2 x0 x1 x2 x3) = ref01_count_j2 m (ref01_count m) rec1 x0 x1 x2 x3 := by
  have h : ∀ J, e33 J m [1, 1, 1, 0, 1, 0, 0, 1] [M1] (s33_2 x0 x1 x2 x3) =
    ((idx x2 x3).bind fun v1 =>
   ((ref01_count m v1 (IntKind.wrap .i64 (x0 - x1))).bind fun r2 =>
   (J 0 5 0 (s33_3 x0 (IntKind.wrap .i64 (x1 + r2)) x2 x3) (e33 J m [1, 1, 1, 0, 1, 0, 0, 1, 1] [M1] (s33_3 x0 (IntKind.wrap .i64 (x1 + r2)) x2 x3))))) := fun J => by kernel_rfl
  exact (h jn).trans (by
    simp only [jn_eq, ref01_count_j3_eq m M1 rec1 h1]
    rfl)
theorem ref01_count_j4_eq (m : Nat) (x0 : Int) : e33 jn m [1, 1, 1, 1] [] (s33_4 x0) = ref01_count_j4 m (ref01_count m) x0 := by
  have h : ∀ J, e33 J m [1, 1, 1, 1] [] (s33_4 x0) =
    some x0 := fun J => by kernel_rfl
  exact (h jn).trans (rfl)
theorem ref01_count_l1_eq (m : Nat) : ∀ (M1 : Nat) (x0 x1 : Int) (x2 : List Dt) (x3 : Int), l33 jn m [1, 1, 1, 0, 1, 0] [] M1 (s33_1 x0 x1 x2 x3) = ref01_count_l1 m (ref01_count m) M1 x0 x1 x2 x3
  | 0, _, _, _, _ => rfl
  | M1 + 1, x0, x1, x2, x3 => by
    have h : ∀ J, l33 J m [1, 1, 1, 0, 1, 0] [] (M1 + 1) (s33_1 x0 x1 x2 x3) =
    (bif (decide (x3 < (List.length x2 : Int))) then
   (bif (decide (x1 < x0)) then
   (J 0 6 0 (s33_2 x0 x1 x2 x3) (e33 J m [1, 1, 1, 0, 1, 0, 0, 1] [M1] (s33_2 x0 x1 x2 x3)))
   else
   (J 0 7 0 (s33_4 x1) (e33 J m [1, 1, 1, 1] [] (s33_4 x1))))
    else
   (J 0 7 0 (s33_4 x1) (e33 J m [1, 1, 1, 1] [] (s33_4 x1)))) := fun J => by kernel_rfl
    refine (h jn).trans ?_
    simp only [jn_eq, ref01_count_j2_eq m M1 (ref01_count_l1 m (ref01_count m) M1) (fun x0 x1 x2 x3 => ref01_count_l1_eq m M1 x0 x1 x2 x3), ref01_count_j4_eq m]
    rfl
theorem ref01_count_j0_eq (m : Nat) (x0 x1 : Int) (x2 : List Dt) (x3 : Int) : e33 jn m [1, 1, 1, 0, 1] [] (s33_0 x0 x1 x2 x3) = ref01_count_j0 m (ref01_count m) x0 x1 x2 x3 := by
  have h : ∀ J, e33 J m [1, 1, 1, 0, 1] [] (s33_0 x0 x1 x2 x3) =
    (J 1 4 (Nat.succ m) (s33_1 x0 x1 x2 x3) (l33 J m [1, 1, 1, 0, 1, 0] [] (Nat.succ m) (s33_1 x0 x1 x2 x3))) := fun J => by kernel_rfl
  exact (h jn).trans (by
    simp only [jn_eq, ref01_count_l1_eq m]
    rfl)
theorem ref01_count_eq (m : Nat) (a0 : Dt) (a1 : Int) : e33 jn m [] [] ⟨[(.dat 25 a0), (.dat 3 (.int a1))], [], 0⟩ = ref01_count (m + 1) a0 a1 := by
  have h : ∀ J, e33 J m [] [] ⟨[(.dat 25 a0), (.dat 3 (.int a1))], [], 0⟩ =
    ((ref01_Parts m a0).bind fun r0 =>
   (J 0 4 0 (s33_0 a1 1 r0 0) (e33 J m [1, 1, 1, 0, 1] [] (s33_0 a1 1 r0 0)))) := fun J => by kernel_rfl
  refine (h jn).trans ?_
  simp only [jn_eq, ref01_count_j0_eq m]
  rfl
noncomputable def d25 (q : Res) : Option Int := match q with
  | (.dat T0 x0, []) => bif Nat.beq T0 3 then some x0.toInt else none
  | _ => none
theorem d25_sim {b : Res} {r : Int} (h : d25 b = some r) : Sim Tryd.prog b ((.dat 3 (.int r)), []) := by
  unfold d25 at h
  split at h
  · obtain ⟨hc, h2⟩ := bif_some h
    cases h2
    have e0 := beq_eq hc
    subst e0
    exact Sim.of (.of (.dat (.int Tryd.underlying3)) rfl rfl) .nil
  · cases h
noncomputable def e25 (J : Nat → Nat → Nat → St → Option Int → Option Int) (m : Nat) (p ms : List Nat) (σ : St) := evAt Tryd.prog env (ct m) J (m + 1) 23 5 Tryd.f23 d25 p ms σ
noncomputable def l25 (J : Nat → Nat → Nat → St → Option Int → Option Int) (m : Nat) (p ms : List Nat) (M : Nat) (σ : St) := loopAt Tryd.prog env (ct m) J (m + 1) 23 5 Tryd.f23 d25 p ms M σ
theorem ref01_Nodes_eq (m : Nat) (a0 : Dt) : e25 jn m [] [] ⟨[(.dat 25 a0)], [], 0⟩ = ref01_Nodes (m + 1) a0 := by
  have h : ∀ J, e25 J m [] [] ⟨[(.dat 25 a0)], [], 0⟩ =
    ((ref01_count m a0 1025).bind fun r0 =>
   some r0) := fun J => by kernel_rfl
  refine (h jn).trans ?_
  
  rfl
noncomputable def d37 (q : Res) : Option Bool := match q with
  | (.dat T0 x0, []) => bif Nat.beq T0 4 then some x0.toBool else none
  | _ => none
theorem d37_sim {b : Res} {r : Bool} (h : d37 b = some r) : Sim Tryd.prog b ((.dat 4 (.bool r)), []) := by
  unfold d37 at h
  split at h
  · obtain ⟨hc, h2⟩ := bif_some h
    cases h2
    have e0 := beq_eq hc
    subst e0
    exact Sim.of (.of (.dat (.bool Tryd.underlying4)) rfl rfl) .nil
  · cases h
noncomputable def e37 (J : Nat → Nat → Nat → St → Option Bool → Option Bool) (m : Nat) (p ms : List Nat) (σ : St) := evAt Tryd.prog env (ct m) J (m + 1) 61 33 Tryd.f61 d37 p ms σ
noncomputable def l37 (J : Nat → Nat → Nat → St → Option Bool → Option Bool) (m : Nat) (p ms : List Nat) (M : Nat) (σ : St) := loopAt Tryd.prog env (ct m) J (m + 1) 61 33 Tryd.f61 d37 p ms M σ
noncomputable def s37_5 (x0 : ByteArray) (x1 x2 x3 : Int) : St := ⟨tsOf [(0, (.dat 9 (.str x0))), (1, (.dat 3 (.int x1))), (2, (.dat 3 (.int x2))), (7, (.dat 3 (.int x3)))], [], 0⟩
noncomputable def s37_4 (x0 : ByteArray) (x1 x2 x3 : Int) (x4 : Bool) : St := ⟨tsOf [(0, (.dat 9 (.str x0))), (1, (.dat 3 (.int x1))), (2, (.dat 3 (.int x2))), (7, (.dat 3 (.int x3))), (32, (.dat 4 (.bool x4)))], [], 0⟩
noncomputable def s37_3 (x0 : ByteArray) (x1 x2 x3 : Int) : St := ⟨tsOf [(0, (.dat 9 (.str x0))), (1, (.dat 3 (.int x1))), (2, (.dat 3 (.int x2))), (7, (.dat 3 (.int x3)))], [], 0⟩
noncomputable def s37_6 : St := ⟨tsOf [], [], 0⟩
noncomputable def s37_2 (x0 : ByteArray) (x1 x2 x3 : Int) : St := ⟨tsOf [(0, (.dat 9 (.str x0))), (1, (.dat 3 (.int x1))), (2, (.dat 3 (.int x2))), (7, (.dat 3 (.int x3)))], [], 0⟩
noncomputable def s37_1 (x0 : ByteArray) (x1 x2 x3 : Int) : St := ⟨tsOf [(0, (.dat 9 (.str x0))), (1, (.dat 3 (.int x1))), (2, (.dat 3 (.int x2))), (7, (.dat 3 (.int x3)))], [], 0⟩
noncomputable def s37_0 (x0 : ByteArray) (x1 x2 : Int) : St := ⟨tsOf [(0, (.dat 9 (.str x0))), (1, (.dat 3 (.int x1))), (2, (.dat 3 (.int x2)))], [], 0⟩
theorem ref01_tail_j5_eq (m : Nat) (M2 : Nat) (rec2 : ByteArray → Int → Int → Int → Option Bool) (h2 : ∀ (x0 : ByteArray) (x1 x2 x3 : Int), l37 jn m [1, 1, 0, 1, 0] [] M2 (s37_2 x0 x1 x2 x3) = rec2 x0 x1 x2 x3) (x0 : ByteArray) (x1 x2 x3 : Int) : e37 jn m [1, 1, 0, 1, 0, 0, 1, 1] [M2] (s37_5 x0 x1 x2 x3) = ref01_tail_j5 m rec2 x0 x1 x2 x3 := by
  have h : ∀ J, e37 J m [1, 1, 0, 1, 0, 0, 1, 1] [M2] (s37_5 x0 x1 x2 x3) =
    (J 1 4 M2 (s37_2 x0 x1 x2 (IntKind.wrap .i64 (x3 + 1))) (l37 J m [1, 1, 0, 1, 0] [] M2 (s37_2 x0 x1 x2 (IntKind.wrap .i64 (x3 + 1))))) := fun J => by kernel_rfl
  exact (h jn).trans (by
    simp only [jn_eq, h2]
    rfl)
theorem ref01_tail_j4_eq (m : Nat) (M2 : Nat) (rec2 : ByteArray → Int → Int → Int → Option Bool) (h2 : ∀ (x0 : ByteArray) (x1 x2 x3 : Int), l37 jn m [1, 1, 0, 1, 0] [] M2 (s37_2 x0 x1 x2 x3) = rec2 x0 x1 x2 x3) (x0 : ByteArray) (x1 x2 x3 : Int) (x4 : Bool) : e37 jn m [1, 1, 0, 1, 0, 0, 1, 0, 0, 1] [M2] (s37_4 x0 x1 x2 x3 x4) = ref01_tail_j4 m rec2 x0 x1 x2 x3 x4 := by
  have h : ∀ J, e37 J m [1, 1, 0, 1, 0, 0, 1, 0, 0, 1] [M2] (s37_4 x0 x1 x2 x3 x4) =
    (bif x4 then
   some false
    else
   (J 0 5 0 (s37_5 x0 x1 x2 x3) (e37 J m [1, 1, 0, 1, 0, 0, 1, 1] [M2] (s37_5 x0 x1 x2 x3)))) := fun J => by kernel_rfl
  exact (h jn).trans (by
    simp only [jn_eq, ref01_tail_j5_eq m M2 rec2 h2]
    rfl)
theorem ref01_tail_j3_eq (m : Nat) (M2 : Nat) (rec2 : ByteArray → Int → Int → Int → Option Bool) (h2 : ∀ (x0 : ByteArray) (x1 x2 x3 : Int), l37 jn m [1, 1, 0, 1, 0] [] M2 (s37_2 x0 x1 x2 x3) = rec2 x0 x1 x2 x3) (x0 : ByteArray) (x1 x2 x3 : Int) : e37 jn m [1, 1, 0, 1, 0, 0, 1] [M2] (s37_3 x0 x1 x2 x3) = ref01_tail_j3 m rec2 x0 x1 x2 x3 := by
  have h : ∀ J, e37 J m [1, 1, 0, 1, 0, 0, 1] [M2] (s37_3 x0 x1 x2 x3) =
    ((idxS x0 (IntKind.wrap .i64 (x1 + x3))).bind fun v0 =>
   (bif (decide (v0 < 128)) then
   (J 0 7 0 (s37_4 x0 x1 x2 x3 true) (e37 J m [1, 1, 0, 1, 0, 0, 1, 0, 0, 1] [M2] (s37_4 x0 x1 x2 x3 true)))
   else
   ((idxS x0 (IntKind.wrap .i64 (x1 + x3))).bind fun v1 =>
   (J 0 7 0 (s37_4 x0 x1 x2 x3 (decide (191 < v1))) (e37 J m [1, 1, 0, 1, 0, 0, 1, 0, 0, 1] [M2] (s37_4 x0 x1 x2 x3 (decide (191 < v1)))))))) := fun J => by kernel_rfl
  exact (h jn).trans (by
    simp only [jn_eq, ref01_tail_j4_eq m M2 rec2 h2]
    rfl)
theorem ref01_tail_j6_eq (m : Nat) : e37 jn m [1, 1, 1] [] s37_6 = ref01_tail_j6 m := by
  have h : ∀ J, e37 J m [1, 1, 1] [] s37_6 =
    some true := fun J => by kernel_rfl
  exact (h jn).trans (rfl)
theorem ref01_tail_l2_eq (m : Nat) : ∀ (M2 : Nat) (x0 : ByteArray) (x1 x2 x3 : Int), l37 jn m [1, 1, 0, 1, 0] [] M2 (s37_2 x0 x1 x2 x3) = ref01_tail_l2 m M2 x0 x1 x2 x3
  | 0, _, _, _, _ => rfl
  | M2 + 1, x0, x1, x2, x3 => by
    have h : ∀ J, l37 J m [1, 1, 0, 1, 0] [] (M2 + 1) (s37_2 x0 x1 x2 x3) =
    (bif (decide (x3 < x2)) then
   (J 0 6 0 (s37_3 x0 x1 x2 x3) (e37 J m [1, 1, 0, 1, 0, 0, 1] [M2] (s37_3 x0 x1 x2 x3)))
    else
   (J 0 8 0 s37_6 (e37 J m [1, 1, 1] [] s37_6))) := fun J => by kernel_rfl
    refine (h jn).trans ?_
    simp only [jn_eq, ref01_tail_j3_eq m M2 (ref01_tail_l2 m M2) (fun x0 x1 x2 x3 => ref01_tail_l2_eq m M2 x0 x1 x2 x3), ref01_tail_j6_eq m]
    rfl
theorem ref01_tail_j1_eq (m : Nat) (x0 : ByteArray) (x1 x2 x3 : Int) : e37 jn m [1, 1, 0, 1] [] (s37_1 x0 x1 x2 x3) = ref01_tail_j1 m x0 x1 x2 x3 := by
  have h : ∀ J, e37 J m [1, 1, 0, 1] [] (s37_1 x0 x1 x2 x3) =
    (J 1 4 (Nat.succ m) (s37_2 x0 x1 x2 x3) (l37 J m [1, 1, 0, 1, 0] [] (Nat.succ m) (s37_2 x0 x1 x2 x3))) := fun J => by kernel_rfl
  exact (h jn).trans (by
    simp only [jn_eq, ref01_tail_l2_eq m]
    rfl)
theorem ref01_tail_j0_eq (m : Nat) (x0 : ByteArray) (x1 x2 : Int) : e37 jn m [1, 1] [] (s37_0 x0 x1 x2) = ref01_tail_j0 m x0 x1 x2 := by
  have h : ∀ J, e37 J m [1, 1] [] (s37_0 x0 x1 x2) =
    (J 0 4 0 (s37_1 x0 x1 x2 0) (e37 J m [1, 1, 0, 1] [] (s37_1 x0 x1 x2 0))) := fun J => by kernel_rfl
  exact (h jn).trans (by
    simp only [jn_eq, ref01_tail_j1_eq m]
    rfl)
theorem ref01_tail_eq (m : Nat) (a0 : ByteArray) (a1 a2 : Int) : e37 jn m [] [] ⟨[(.dat 9 (.str a0)), (.dat 3 (.int a1)), (.dat 3 (.int a2))], [], 0⟩ = ref01_tail (m + 1) a0 a1 a2 := by
  have h : ∀ J, e37 J m [] [] ⟨[(.dat 9 (.str a0)), (.dat 3 (.int a1)), (.dat 3 (.int a2))], [], 0⟩ =
    (bif (decide ((ByteArray.size a0 : Int) < (IntKind.wrap .i64 (a1 + a2)))) then
   some false
    else
   (J 0 3 0 (s37_0 a0 a1 a2) (e37 J m [1, 1] [] (s37_0 a0 a1 a2)))) := fun J => by kernel_rfl
  refine (h jn).trans ?_
  simp only [jn_eq, ref01_tail_j0_eq m]
  rfl
noncomputable def d34 (q : Res) : Option Bool := match q with
  | (.dat T0 x0, []) => bif Nat.beq T0 4 then some x0.toBool else none
  | _ => none
theorem d34_sim {b : Res} {r : Bool} (h : d34 b = some r) : Sim Tryd.prog b ((.dat 4 (.bool r)), []) := by
  unfold d34 at h
  split at h
  · obtain ⟨hc, h2⟩ := bif_some h
    cases h2
    have e0 := beq_eq hc
    subst e0
    exact Sim.of (.of (.dat (.bool Tryd.underlying4)) rfl rfl) .nil
  · cases h
noncomputable def e34 (J : Nat → Nat → Nat → St → Option Bool → Option Bool) (m : Nat) (p ms : List Nat) (σ : St) := evAt Tryd.prog env (ct m) J (m + 1) 35 89 Tryd.f35 d34 p ms σ
noncomputable def l34 (J : Nat → Nat → Nat → St → Option Bool → Option Bool) (m : Nat) (p ms : List Nat) (M : Nat) (σ : St) := loopAt Tryd.prog env (ct m) J (m + 1) 35 89 Tryd.f35 d34 p ms M σ
noncomputable def s34_6 (x0 : ByteArray) (x1 x2 : Int) : St := ⟨tsOf [(0, (.dat 9 (.str x0))), (3, (.dat 3 (.int x1))), (5, (.dat 3 (.int x2)))], [], 0⟩
noncomputable def s34_5 (x0 : ByteArray) (x1 x2 : Int) (x3 : Bool) : St := ⟨tsOf [(0, (.dat 9 (.str x0))), (3, (.dat 3 (.int x1))), (5, (.dat 3 (.int x2))), (84, (.dat 4 (.bool x3)))], [], 0⟩
noncomputable def s34_4 (x0 : ByteArray) (x1 x2 x3 : Int) : St := ⟨tsOf [(0, (.dat 9 (.str x0))), (3, (.dat 3 (.int x1))), (4, (.dat 5 (.int x2))), (5, (.dat 3 (.int x3)))], [], 0⟩
noncomputable def s34_3 (x0 : ByteArray) (x1 x2 x3 : Int) : St := ⟨tsOf [(0, (.dat 9 (.str x0))), (3, (.dat 3 (.int x1))), (4, (.dat 5 (.int x2))), (5, (.dat 3 (.int x3)))], [], 0⟩
noncomputable def s34_9 (x0 : ByteArray) (x1 x2 : Int) (x3 : Bool) : St := ⟨tsOf [(0, (.dat 9 (.str x0))), (3, (.dat 3 (.int x1))), (4, (.dat 5 (.int x2))), (30, (.dat 4 (.bool x3)))], [], 0⟩
noncomputable def s34_8 (x0 : ByteArray) (x1 x2 : Int) (x3 : Bool) : St := ⟨tsOf [(0, (.dat 9 (.str x0))), (3, (.dat 3 (.int x1))), (4, (.dat 5 (.int x2))), (23, (.dat 4 (.bool x3)))], [], 0⟩
noncomputable def s34_7 (x0 : ByteArray) (x1 x2 : Int) (x3 : Bool) : St := ⟨tsOf [(0, (.dat 9 (.str x0))), (3, (.dat 3 (.int x1))), (4, (.dat 5 (.int x2))), (16, (.dat 4 (.bool x3)))], [], 0⟩
noncomputable def s34_2 (x0 : ByteArray) (x1 : Int) : St := ⟨tsOf [(0, (.dat 9 (.str x0))), (3, (.dat 3 (.int x1)))], [], 0⟩
noncomputable def s34_10 : St := ⟨tsOf [], [], 0⟩
noncomputable def s34_1 (x0 : ByteArray) (x1 : Int) : St := ⟨tsOf [(0, (.dat 9 (.str x0))), (3, (.dat 3 (.int x1)))], [], 0⟩
noncomputable def s34_0 (x0 : ByteArray) (x1 : Int) : St := ⟨tsOf [(0, (.dat 9 (.str x0))), (3, (.dat 3 (.int x1)))], [], 0⟩
theorem ref01_UTF8_j6_eq (m : Nat) (M1 : Nat) (rec1 : ByteArray → Int → Option Bool) (h1 : ∀ (x0 : ByteArray) (x1 : Int), l34 jn m [1, 0, 1, 0] [] M1 (s34_1 x0 x1) = rec1 x0 x1) (x0 : ByteArray) (x1 x2 : Int) : e34 jn m [1, 0, 1, 0, 0, 1, 0, 1, 1, 1, 1, 1] [M1] (s34_6 x0 x1 x2) = ref01_UTF8_j6 m rec1 x0 x1 x2 := by
  have h : ∀ J, e34 J m [1, 0, 1, 0, 0, 1, 0, 1, 1, 1, 1, 1] [M1] (s34_6 x0 x1 x2) =
    (J 1 2 M1 (s34_1 x0 (IntKind.wrap .i64 ((IntKind.wrap .i64 (x1 + x2)) + 1))) (l34 J m [1, 0, 1, 0] [] M1 (s34_1 x0 (IntKind.wrap .i64 ((IntKind.wrap .i64 (x1 + x2)) + 1))))) := fun J => by kernel_rfl
  exact (h jn).trans (by
    simp only [jn_eq, h1]
    rfl)
theorem ref01_UTF8_j5_eq (m : Nat) (M1 : Nat) (rec1 : ByteArray → Int → Option Bool) (h1 : ∀ (x0 : ByteArray) (x1 : Int), l34 jn m [1, 0, 1, 0] [] M1 (s34_1 x0 x1) = rec1 x0 x1) (x0 : ByteArray) (x1 x2 : Int) (x3 : Bool) : e34 jn m [1, 0, 1, 0, 0, 1, 0, 1, 1, 1, 1, 0, 1] [M1] (s34_5 x0 x1 x2 x3) = ref01_UTF8_j5 m rec1 x0 x1 x2 x3 := by
  have h : ∀ J, e34 J m [1, 0, 1, 0, 0, 1, 0, 1, 1, 1, 1, 0, 1] [M1] (s34_5 x0 x1 x2 x3) =
    (bif x3 then
   some false
    else
   (J 0 17 0 (s34_6 x0 x1 x2) (e34 J m [1, 0, 1, 0, 0, 1, 0, 1, 1, 1, 1, 1] [M1] (s34_6 x0 x1 x2)))) := fun J => by kernel_rfl
  exact (h jn).trans (by
    simp only [jn_eq, ref01_UTF8_j6_eq m M1 rec1 h1]
    rfl)
theorem ref01_UTF8_j4_eq (m : Nat) (M1 : Nat) (rec1 : ByteArray → Int → Option Bool) (h1 : ∀ (x0 : ByteArray) (x1 : Int), l34 jn m [1, 0, 1, 0] [] M1 (s34_1 x0 x1) = rec1 x0 x1) (x0 : ByteArray) (x1 x2 x3 : Int) : e34 jn m [1, 0, 1, 0, 0, 1, 0, 1, 1, 1, 1] [M1] (s34_4 x0 x1 x2 x3) = ref01_UTF8_j4 m rec1 x0 x1 x2 x3 := by
  have h : ∀ J, e34 J m [1, 0, 1, 0, 0, 1, 0, 1, 1, 1, 1] [M1] (s34_4 x0 x1 x2 x3) =
    (bif (x2 == 224) then
   ((idxS x0 (IntKind.wrap .i64 (x1 + 1))).bind fun v2 =>
   (bif (decide (v2 < 160)) then
   (J 0 16 0 (s34_5 x0 x1 x3 true) (e34 J m [1, 0, 1, 0, 0, 1, 0, 1, 1, 1, 1, 0, 1] [M1] (s34_5 x0 x1 x3 true)))
   else
   (bif (x2 == 237) then
   ((idxS x0 (IntKind.wrap .i64 (x1 + 1))).bind fun v3 =>
   (bif (decide (159 < v3)) then
   (J 0 16 0 (s34_5 x0 x1 x3 true) (e34 J m [1, 0, 1, 0, 0, 1, 0, 1, 1, 1, 1, 0, 1] [M1] (s34_5 x0 x1 x3 true)))
   else
   (bif (x2 == 240) then
   ((idxS x0 (IntKind.wrap .i64 (x1 + 1))).bind fun v4 =>
   (bif (decide (v4 < 144)) then
   (J 0 16 0 (s34_5 x0 x1 x3 true) (e34 J m [1, 0, 1, 0, 0, 1, 0, 1, 1, 1, 1, 0, 1] [M1] (s34_5 x0 x1 x3 true)))
   else
   (bif (x2 == 244) then
   ((idxS x0 (IntKind.wrap .i64 (x1 + 1))).bind fun v5 =>
   (J 0 16 0 (s34_5 x0 x1 x3 (decide (143 < v5))) (e34 J m [1, 0, 1, 0, 0, 1, 0, 1, 1, 1, 1, 0, 1] [M1] (s34_5 x0 x1 x3 (decide (143 < v5))))))
   else
   (J 0 16 0 (s34_5 x0 x1 x3 false) (e34 J m [1, 0, 1, 0, 0, 1, 0, 1, 1, 1, 1, 0, 1] [M1] (s34_5 x0 x1 x3 false))))))
   else
   (bif (x2 == 244) then
   ((idxS x0 (IntKind.wrap .i64 (x1 + 1))).bind fun v6 =>
   (J 0 16 0 (s34_5 x0 x1 x3 (decide (143 < v6))) (e34 J m [1, 0, 1, 0, 0, 1, 0, 1, 1, 1, 1, 0, 1] [M1] (s34_5 x0 x1 x3 (decide (143 < v6))))))
   else
   (J 0 16 0 (s34_5 x0 x1 x3 false) (e34 J m [1, 0, 1, 0, 0, 1, 0, 1, 1, 1, 1, 0, 1] [M1] (s34_5 x0 x1 x3 false)))))))
   else
   (bif (x2 == 240) then
   ((idxS x0 (IntKind.wrap .i64 (x1 + 1))).bind fun v7 =>
   (bif (decide (v7 < 144)) then
   (J 0 16 0 (s34_5 x0 x1 x3 true) (e34 J m [1, 0, 1, 0, 0, 1, 0, 1, 1, 1, 1, 0, 1] [M1] (s34_5 x0 x1 x3 true)))
   else
   (bif (x2 == 244) then
   ((idxS x0 (IntKind.wrap .i64 (x1 + 1))).bind fun v8 =>
   (J 0 16 0 (s34_5 x0 x1 x3 (decide (143 < v8))) (e34 J m [1, 0, 1, 0, 0, 1, 0, 1, 1, 1, 1, 0, 1] [M1] (s34_5 x0 x1 x3 (decide (143 < v8))))))
   else
   (J 0 16 0 (s34_5 x0 x1 x3 false) (e34 J m [1, 0, 1, 0, 0, 1, 0, 1, 1, 1, 1, 0, 1] [M1] (s34_5 x0 x1 x3 false))))))
   else
   (bif (x2 == 244) then
   ((idxS x0 (IntKind.wrap .i64 (x1 + 1))).bind fun v9 =>
   (J 0 16 0 (s34_5 x0 x1 x3 (decide (143 < v9))) (e34 J m [1, 0, 1, 0, 0, 1, 0, 1, 1, 1, 1, 0, 1] [M1] (s34_5 x0 x1 x3 (decide (143 < v9))))))
   else
   (J 0 16 0 (s34_5 x0 x1 x3 false) (e34 J m [1, 0, 1, 0, 0, 1, 0, 1, 1, 1, 1, 0, 1] [M1] (s34_5 x0 x1 x3 false))))))))
    else
   (bif (x2 == 237) then
   ((idxS x0 (IntKind.wrap .i64 (x1 + 1))).bind fun v10 =>
   (bif (decide (159 < v10)) then
   (J 0 16 0 (s34_5 x0 x1 x3 true) (e34 J m [1, 0, 1, 0, 0, 1, 0, 1, 1, 1, 1, 0, 1] [M1] (s34_5 x0 x1 x3 true)))
   else
   (bif (x2 == 240) then
   ((idxS x0 (IntKind.wrap .i64 (x1 + 1))).bind fun v11 =>
   (bif (decide (v11 < 144)) then
   (J 0 16 0 (s34_5 x0 x1 x3 true) (e34 J m [1, 0, 1, 0, 0, 1, 0, 1, 1, 1, 1, 0, 1] [M1] (s34_5 x0 x1 x3 true)))
   else
   (bif (x2 == 244) then
   ((idxS x0 (IntKind.wrap .i64 (x1 + 1))).bind fun v12 =>
   (J 0 16 0 (s34_5 x0 x1 x3 (decide (143 < v12))) (e34 J m [1, 0, 1, 0, 0, 1, 0, 1, 1, 1, 1, 0, 1] [M1] (s34_5 x0 x1 x3 (decide (143 < v12))))))
   else
   (J 0 16 0 (s34_5 x0 x1 x3 false) (e34 J m [1, 0, 1, 0, 0, 1, 0, 1, 1, 1, 1, 0, 1] [M1] (s34_5 x0 x1 x3 false))))))
   else
   (bif (x2 == 244) then
   ((idxS x0 (IntKind.wrap .i64 (x1 + 1))).bind fun v13 =>
   (J 0 16 0 (s34_5 x0 x1 x3 (decide (143 < v13))) (e34 J m [1, 0, 1, 0, 0, 1, 0, 1, 1, 1, 1, 0, 1] [M1] (s34_5 x0 x1 x3 (decide (143 < v13))))))
   else
   (J 0 16 0 (s34_5 x0 x1 x3 false) (e34 J m [1, 0, 1, 0, 0, 1, 0, 1, 1, 1, 1, 0, 1] [M1] (s34_5 x0 x1 x3 false)))))))
   else
   (bif (x2 == 240) then
   ((idxS x0 (IntKind.wrap .i64 (x1 + 1))).bind fun v14 =>
   (bif (decide (v14 < 144)) then
   (J 0 16 0 (s34_5 x0 x1 x3 true) (e34 J m [1, 0, 1, 0, 0, 1, 0, 1, 1, 1, 1, 0, 1] [M1] (s34_5 x0 x1 x3 true)))
   else
   (bif (x2 == 244) then
   ((idxS x0 (IntKind.wrap .i64 (x1 + 1))).bind fun v15 =>
   (J 0 16 0 (s34_5 x0 x1 x3 (decide (143 < v15))) (e34 J m [1, 0, 1, 0, 0, 1, 0, 1, 1, 1, 1, 0, 1] [M1] (s34_5 x0 x1 x3 (decide (143 < v15))))))
   else
   (J 0 16 0 (s34_5 x0 x1 x3 false) (e34 J m [1, 0, 1, 0, 0, 1, 0, 1, 1, 1, 1, 0, 1] [M1] (s34_5 x0 x1 x3 false))))))
   else
   (bif (x2 == 244) then
   ((idxS x0 (IntKind.wrap .i64 (x1 + 1))).bind fun v16 =>
   (J 0 16 0 (s34_5 x0 x1 x3 (decide (143 < v16))) (e34 J m [1, 0, 1, 0, 0, 1, 0, 1, 1, 1, 1, 0, 1] [M1] (s34_5 x0 x1 x3 (decide (143 < v16))))))
   else
   (J 0 16 0 (s34_5 x0 x1 x3 false) (e34 J m [1, 0, 1, 0, 0, 1, 0, 1, 1, 1, 1, 0, 1] [M1] (s34_5 x0 x1 x3 false))))))) := fun J => by kernel_rfl
  exact (h jn).trans (by
    simp only [jn_eq, ref01_UTF8_j5_eq m M1 rec1 h1]
    rfl)
theorem ref01_UTF8_j3_eq (m : Nat) (M1 : Nat) (rec1 : ByteArray → Int → Option Bool) (h1 : ∀ (x0 : ByteArray) (x1 : Int), l34 jn m [1, 0, 1, 0] [] M1 (s34_1 x0 x1) = rec1 x0 x1) (x0 : ByteArray) (x1 x2 x3 : Int) : e34 jn m [1, 0, 1, 0, 0, 1, 0, 1, 1, 1] [M1] (s34_3 x0 x1 x2 x3) = ref01_UTF8_j3 m rec1 x0 x1 x2 x3 := by
  have h : ∀ J, e34 J m [1, 0, 1, 0, 0, 1, 0, 1, 1, 1] [M1] (s34_3 x0 x1 x2 x3) =
    ((ref01_tail m x0 (IntKind.wrap .i64 (x1 + 1)) x3).bind fun r1 =>
   (bif (Bool.not r1) then
   some false
   else
   (J 0 15 0 (s34_4 x0 x1 x2 x3) (e34 J m [1, 0, 1, 0, 0, 1, 0, 1, 1, 1, 1] [M1] (s34_4 x0 x1 x2 x3))))) := fun J => by kernel_rfl
  exact (h jn).trans (by
    simp only [jn_eq, ref01_UTF8_j4_eq m M1 rec1 h1]
    rfl)
theorem ref01_UTF8_j9_eq (m : Nat) (M1 : Nat) (rec1 : ByteArray → Int → Option Bool) (h1 : ∀ (x0 : ByteArray) (x1 : Int), l34 jn m [1, 0, 1, 0] [] M1 (s34_1 x0 x1) = rec1 x0 x1) (x0 : ByteArray) (x1 x2 : Int) (x3 : Bool) : e34 jn m [1, 0, 1, 0, 0, 1, 0, 1, 1, 0, 0, 1, 1, 1, 1, 1, 1, 1] [M1] (s34_9 x0 x1 x2 x3) = ref01_UTF8_j9 m rec1 x0 x1 x2 x3 := by
  have h : ∀ J, e34 J m [1, 0, 1, 0, 0, 1, 0, 1, 1, 0, 0, 1, 1, 1, 1, 1, 1, 1] [M1] (s34_9 x0 x1 x2 x3) =
    (bif x3 then
   (J 0 13 0 (s34_3 x0 x1 x2 3) (e34 J m [1, 0, 1, 0, 0, 1, 0, 1, 1, 1] [M1] (s34_3 x0 x1 x2 3)))
    else
   some false) := fun J => by kernel_rfl
  exact (h jn).trans (by
    simp only [jn_eq, ref01_UTF8_j3_eq m M1 rec1 h1]
    rfl)
theorem ref01_UTF8_j8_eq (m : Nat) (M1 : Nat) (rec1 : ByteArray → Int → Option Bool) (h1 : ∀ (x0 : ByteArray) (x1 : Int), l34 jn m [1, 0, 1, 0] [] M1 (s34_1 x0 x1) = rec1 x0 x1) (x0 : ByteArray) (x1 x2 : Int) (x3 : Bool) : e34 jn m [1, 0, 1, 0, 0, 1, 0, 1, 1, 0, 0, 1, 1, 1, 1, 1] [M1] (s34_8 x0 x1 x2 x3) = ref01_UTF8_j8 m rec1 x0 x1 x2 x3 := by
  have h : ∀ J, e34 J m [1, 0, 1, 0, 0, 1, 0, 1, 1, 0, 0, 1, 1, 1, 1, 1] [M1] (s34_8 x0 x1 x2 x3) =
    (bif x3 then
   (J 0 13 0 (s34_3 x0 x1 x2 2) (e34 J m [1, 0, 1, 0, 0, 1, 0, 1, 1, 1] [M1] (s34_3 x0 x1 x2 2)))
    else
   (bif (decide (240 ≤ x2)) then
   (J 0 12 0 (s34_9 x0 x1 x2 (decide (x2 ≤ 244))) (e34 J m [1, 0, 1, 0, 0, 1, 0, 1, 1, 0, 0, 1, 1, 1, 1, 1, 1, 1] [M1] (s34_9 x0 x1 x2 (decide (x2 ≤ 244)))))
   else
   (J 0 12 0 (s34_9 x0 x1 x2 false) (e34 J m [1, 0, 1, 0, 0, 1, 0, 1, 1, 0, 0, 1, 1, 1, 1, 1, 1, 1] [M1] (s34_9 x0 x1 x2 false))))) := fun J => by kernel_rfl
  exact (h jn).trans (by
    simp only [jn_eq, ref01_UTF8_j3_eq m M1 rec1 h1, ref01_UTF8_j9_eq m M1 rec1 h1]
    rfl)
theorem ref01_UTF8_j7_eq (m : Nat) (M1 : Nat) (rec1 : ByteArray → Int → Option Bool) (h1 : ∀ (x0 : ByteArray) (x1 : Int), l34 jn m [1, 0, 1, 0] [] M1 (s34_1 x0 x1) = rec1 x0 x1) (x0 : ByteArray) (x1 x2 : Int) (x3 : Bool) : e34 jn m [1, 0, 1, 0, 0, 1, 0, 1, 1, 0, 0, 1, 1, 1] [M1] (s34_7 x0 x1 x2 x3) = ref01_UTF8_j7 m rec1 x0 x1 x2 x3 := by
  have h : ∀ J, e34 J m [1, 0, 1, 0, 0, 1, 0, 1, 1, 0, 0, 1, 1, 1] [M1] (s34_7 x0 x1 x2 x3) =
    (bif x3 then
   (J 0 13 0 (s34_3 x0 x1 x2 1) (e34 J m [1, 0, 1, 0, 0, 1, 0, 1, 1, 1] [M1] (s34_3 x0 x1 x2 1)))
    else
   (bif (decide (224 ≤ x2)) then
   (J 0 10 0 (s34_8 x0 x1 x2 (decide (x2 ≤ 239))) (e34 J m [1, 0, 1, 0, 0, 1, 0, 1, 1, 0, 0, 1, 1, 1, 1, 1] [M1] (s34_8 x0 x1 x2 (decide (x2 ≤ 239)))))
   else
   (J 0 10 0 (s34_8 x0 x1 x2 false) (e34 J m [1, 0, 1, 0, 0, 1, 0, 1, 1, 0, 0, 1, 1, 1, 1, 1] [M1] (s34_8 x0 x1 x2 false))))) := fun J => by kernel_rfl
  exact (h jn).trans (by
    simp only [jn_eq, ref01_UTF8_j3_eq m M1 rec1 h1, ref01_UTF8_j8_eq m M1 rec1 h1]
    rfl)
theorem ref01_UTF8_j2_eq (m : Nat) (M1 : Nat) (rec1 : ByteArray → Int → Option Bool) (h1 : ∀ (x0 : ByteArray) (x1 : Int), l34 jn m [1, 0, 1, 0] [] M1 (s34_1 x0 x1) = rec1 x0 x1) (x0 : ByteArray) (x1 : Int) : e34 jn m [1, 0, 1, 0, 0, 1] [M1] (s34_2 x0 x1) = ref01_UTF8_j2 m rec1 x0 x1 := by
  have h : ∀ J, e34 J m [1, 0, 1, 0, 0, 1] [M1] (s34_2 x0 x1) =
    ((idxS x0 x1).bind fun v0 =>
   (bif (decide (v0 < 128)) then
   (J 0 13 0 (s34_3 x0 x1 v0 0) (e34 J m [1, 0, 1, 0, 0, 1, 0, 1, 1, 1] [M1] (s34_3 x0 x1 v0 0)))
   else
   (bif (decide (194 ≤ v0)) then
   (J 0 8 0 (s34_7 x0 x1 v0 (decide (v0 ≤ 223))) (e34 J m [1, 0, 1, 0, 0, 1, 0, 1, 1, 0, 0, 1, 1, 1] [M1] (s34_7 x0 x1 v0 (decide (v0 ≤ 223)))))
   else
   (J 0 8 0 (s34_7 x0 x1 v0 false) (e34 J m [1, 0, 1, 0, 0, 1, 0, 1, 1, 0, 0, 1, 1, 1] [M1] (s34_7 x0 x1 v0 false)))))) := fun J => by kernel_rfl
  exact (h jn).trans (by
    simp only [jn_eq, ref01_UTF8_j3_eq m M1 rec1 h1, ref01_UTF8_j7_eq m M1 rec1 h1]
    rfl)
theorem ref01_UTF8_j10_eq (m : Nat) : e34 jn m [1, 1] [] s34_10 = ref01_UTF8_j10 m := by
  have h : ∀ J, e34 J m [1, 1] [] s34_10 =
    some true := fun J => by kernel_rfl
  exact (h jn).trans (rfl)
theorem ref01_UTF8_l1_eq (m : Nat) : ∀ (M1 : Nat) (x0 : ByteArray) (x1 : Int), l34 jn m [1, 0, 1, 0] [] M1 (s34_1 x0 x1) = ref01_UTF8_l1 m M1 x0 x1
  | 0, _, _ => rfl
  | M1 + 1, x0, x1 => by
    have h : ∀ J, l34 J m [1, 0, 1, 0] [] (M1 + 1) (s34_1 x0 x1) =
    (bif (decide (x1 < (ByteArray.size x0 : Int))) then
   (J 0 3 0 (s34_2 x0 x1) (e34 J m [1, 0, 1, 0, 0, 1] [M1] (s34_2 x0 x1)))
    else
   (J 0 18 0 s34_10 (e34 J m [1, 1] [] s34_10))) := fun J => by kernel_rfl
    refine (h jn).trans ?_
    simp only [jn_eq, ref01_UTF8_j2_eq m M1 (ref01_UTF8_l1 m M1) (fun x0 x1 => ref01_UTF8_l1_eq m M1 x0 x1), ref01_UTF8_j10_eq m]
    rfl
theorem ref01_UTF8_j0_eq (m : Nat) (x0 : ByteArray) (x1 : Int) : e34 jn m [1, 0, 1] [] (s34_0 x0 x1) = ref01_UTF8_j0 m x0 x1 := by
  have h : ∀ J, e34 J m [1, 0, 1] [] (s34_0 x0 x1) =
    (J 1 2 (Nat.succ m) (s34_1 x0 x1) (l34 J m [1, 0, 1, 0] [] (Nat.succ m) (s34_1 x0 x1))) := fun J => by kernel_rfl
  exact (h jn).trans (by
    simp only [jn_eq, ref01_UTF8_l1_eq m]
    rfl)
theorem ref01_UTF8_eq (m : Nat) (a0 : ByteArray) : e34 jn m [] [] ⟨[(.dat 9 (.str a0))], [], 0⟩ = ref01_UTF8 (m + 1) a0 := by
  have h : ∀ J, e34 J m [] [] ⟨[(.dat 9 (.str a0))], [], 0⟩ =
    (J 0 2 0 (s34_0 a0 0) (e34 J m [1, 0, 1] [] (s34_0 a0 0))) := fun J => by kernel_rfl
  refine (h jn).trans ?_
  simp only [jn_eq, ref01_UTF8_j0_eq m]
  rfl
noncomputable def d38 (q : Res) : Option Bool := match q with
  | (.dat T0 x0, []) => bif Nat.beq T0 4 then some x0.toBool else none
  | _ => none
theorem d38_sim {b : Res} {r : Bool} (h : d38 b = some r) : Sim Tryd.prog b ((.dat 4 (.bool r)), []) := by
  unfold d38 at h
  split at h
  · obtain ⟨hc, h2⟩ := bif_some h
    cases h2
    have e0 := beq_eq hc
    subst e0
    exact Sim.of (.of (.dat (.bool Tryd.underlying4)) rfl rfl) .nil
  · cases h
noncomputable def e38 (J : Nat → Nat → Nat → St → Option Bool → Option Bool) (m : Nat) (p ms : List Nat) (σ : St) := evAt Tryd.prog env (ct m) J (m + 1) 63 28 Tryd.f63 d38 p ms σ
noncomputable def l38 (J : Nat → Nat → Nat → St → Option Bool → Option Bool) (m : Nat) (p ms : List Nat) (M : Nat) (σ : St) := loopAt Tryd.prog env (ct m) J (m + 1) 63 28 Tryd.f63 d38 p ms M σ
noncomputable def s38_6 (x0 : ByteArray) (x1 : Int) : St := ⟨tsOf [(0, (.dat 9 (.str x0))), (3, (.dat 3 (.int x1)))], [], 0⟩
noncomputable def s38_5 (x0 : ByteArray) (x1 : Int) (x2 : Bool) : St := ⟨tsOf [(0, (.dat 9 (.str x0))), (3, (.dat 3 (.int x1))), (27, (.dat 4 (.bool x2)))], [], 0⟩
noncomputable def s38_4 (x0 : ByteArray) (x1 : Int) : St := ⟨tsOf [(0, (.dat 9 (.str x0))), (3, (.dat 3 (.int x1)))], [], 0⟩
noncomputable def s38_7 : St := ⟨tsOf [], [], 0⟩
noncomputable def s38_3 (x0 : ByteArray) (x1 : Int) : St := ⟨tsOf [(0, (.dat 9 (.str x0))), (3, (.dat 3 (.int x1)))], [], 0⟩
noncomputable def s38_2 (x0 : ByteArray) (x1 : Int) : St := ⟨tsOf [(0, (.dat 9 (.str x0))), (3, (.dat 3 (.int x1)))], [], 0⟩
noncomputable def s38_1 (x0 : ByteArray) : St := ⟨tsOf [(0, (.dat 9 (.str x0)))], [], 0⟩
noncomputable def s38_0 (x0 : ByteArray) (x1 : Bool) : St := ⟨tsOf [(0, (.dat 9 (.str x0))), (11, (.dat 4 (.bool x1)))], [], 0⟩
theorem ref01_wide_j6_eq (m : Nat) (M3 : Nat) (rec3 : ByteArray → Int → Option Bool) (h3 : ∀ (x0 : ByteArray) (x1 : Int), l38 jn m [1, 1, 0, 1, 0] [] M3 (s38_3 x0 x1) = rec3 x0 x1) (x0 : ByteArray) (x1 : Int) : e38 jn m [1, 1, 0, 1, 0, 0, 1, 1] [M3] (s38_6 x0 x1) = ref01_wide_j6 m rec3 x0 x1 := by
  have h : ∀ J, e38 J m [1, 1, 0, 1, 0, 0, 1, 1] [M3] (s38_6 x0 x1) =
    (J 1 4 M3 (s38_3 x0 (IntKind.wrap .i64 (x1 + 1))) (l38 J m [1, 1, 0, 1, 0] [] M3 (s38_3 x0 (IntKind.wrap .i64 (x1 + 1))))) := fun J => by kernel_rfl
  exact (h jn).trans (by
    simp only [jn_eq, h3]
    rfl)
theorem ref01_wide_j5_eq (m : Nat) (M3 : Nat) (rec3 : ByteArray → Int → Option Bool) (h3 : ∀ (x0 : ByteArray) (x1 : Int), l38 jn m [1, 1, 0, 1, 0] [] M3 (s38_3 x0 x1) = rec3 x0 x1) (x0 : ByteArray) (x1 : Int) (x2 : Bool) : e38 jn m [1, 1, 0, 1, 0, 0, 1, 0, 0, 1] [M3] (s38_5 x0 x1 x2) = ref01_wide_j5 m rec3 x0 x1 x2 := by
  have h : ∀ J, e38 J m [1, 1, 0, 1, 0, 0, 1, 0, 0, 1] [M3] (s38_5 x0 x1 x2) =
    (bif x2 then
   some false
    else
   (J 0 5 0 (s38_6 x0 x1) (e38 J m [1, 1, 0, 1, 0, 0, 1, 1] [M3] (s38_6 x0 x1)))) := fun J => by kernel_rfl
  exact (h jn).trans (by
    simp only [jn_eq, ref01_wide_j6_eq m M3 rec3 h3]
    rfl)
theorem ref01_wide_j4_eq (m : Nat) (M3 : Nat) (rec3 : ByteArray → Int → Option Bool) (h3 : ∀ (x0 : ByteArray) (x1 : Int), l38 jn m [1, 1, 0, 1, 0] [] M3 (s38_3 x0 x1) = rec3 x0 x1) (x0 : ByteArray) (x1 : Int) : e38 jn m [1, 1, 0, 1, 0, 0, 1] [M3] (s38_4 x0 x1) = ref01_wide_j4 m rec3 x0 x1 := by
  have h : ∀ J, e38 J m [1, 1, 0, 1, 0, 0, 1] [M3] (s38_4 x0 x1) =
    ((idxS x0 x1).bind fun v0 =>
   (bif (decide (v0 < 32)) then
   (J 0 7 0 (s38_5 x0 x1 true) (e38 J m [1, 1, 0, 1, 0, 0, 1, 0, 0, 1] [M3] (s38_5 x0 x1 true)))
   else
   ((idxS x0 x1).bind fun v1 =>
   (J 0 7 0 (s38_5 x0 x1 (decide (126 < v1))) (e38 J m [1, 1, 0, 1, 0, 0, 1, 0, 0, 1] [M3] (s38_5 x0 x1 (decide (126 < v1)))))))) := fun J => by kernel_rfl
  exact (h jn).trans (by
    simp only [jn_eq, ref01_wide_j5_eq m M3 rec3 h3]
    rfl)
theorem ref01_wide_j7_eq (m : Nat) : e38 jn m [1, 1, 1] [] s38_7 = ref01_wide_j7 m := by
  have h : ∀ J, e38 J m [1, 1, 1] [] s38_7 =
    some true := fun J => by kernel_rfl
  exact (h jn).trans (rfl)
theorem ref01_wide_l3_eq (m : Nat) : ∀ (M3 : Nat) (x0 : ByteArray) (x1 : Int), l38 jn m [1, 1, 0, 1, 0] [] M3 (s38_3 x0 x1) = ref01_wide_l3 m M3 x0 x1
  | 0, _, _ => rfl
  | M3 + 1, x0, x1 => by
    have h : ∀ J, l38 J m [1, 1, 0, 1, 0] [] (M3 + 1) (s38_3 x0 x1) =
    (bif (decide (x1 < (ByteArray.size x0 : Int))) then
   (J 0 6 0 (s38_4 x0 x1) (e38 J m [1, 1, 0, 1, 0, 0, 1] [M3] (s38_4 x0 x1)))
    else
   (J 0 8 0 s38_7 (e38 J m [1, 1, 1] [] s38_7))) := fun J => by kernel_rfl
    refine (h jn).trans ?_
    simp only [jn_eq, ref01_wide_j4_eq m M3 (ref01_wide_l3 m M3) (fun x0 x1 => ref01_wide_l3_eq m M3 x0 x1), ref01_wide_j7_eq m]
    rfl
theorem ref01_wide_j2_eq (m : Nat) (x0 : ByteArray) (x1 : Int) : e38 jn m [1, 1, 0, 1] [] (s38_2 x0 x1) = ref01_wide_j2 m x0 x1 := by
  have h : ∀ J, e38 J m [1, 1, 0, 1] [] (s38_2 x0 x1) =
    (J 1 4 (Nat.succ m) (s38_3 x0 x1) (l38 J m [1, 1, 0, 1, 0] [] (Nat.succ m) (s38_3 x0 x1))) := fun J => by kernel_rfl
  exact (h jn).trans (by
    simp only [jn_eq, ref01_wide_l3_eq m]
    rfl)
theorem ref01_wide_j1_eq (m : Nat) (x0 : ByteArray) : e38 jn m [1, 1] [] (s38_1 x0) = ref01_wide_j1 m x0 := by
  have h : ∀ J, e38 J m [1, 1] [] (s38_1 x0) =
    (J 0 4 0 (s38_2 x0 0) (e38 J m [1, 1, 0, 1] [] (s38_2 x0 0))) := fun J => by kernel_rfl
  exact (h jn).trans (by
    simp only [jn_eq, ref01_wide_j2_eq m]
    rfl)
theorem ref01_wide_j0_eq (m : Nat) (x0 : ByteArray) (x1 : Bool) : e38 jn m [1, 0, 1] [] (s38_0 x0 x1) = ref01_wide_j0 m x0 x1 := by
  have h : ∀ J, e38 J m [1, 0, 1] [] (s38_0 x0 x1) =
    (bif x1 then
   some false
    else
   (J 0 3 0 (s38_1 x0) (e38 J m [1, 1] [] (s38_1 x0)))) := fun J => by kernel_rfl
  exact (h jn).trans (by
    simp only [jn_eq, ref01_wide_j1_eq m]
    rfl)
theorem ref01_wide_eq (m : Nat) (a0 : ByteArray) : e38 jn m [] [] ⟨[(.dat 9 (.str a0))], [], 0⟩ = ref01_wide (m + 1) a0 := by
  have h : ∀ J, e38 J m [] [] ⟨[(.dat 9 (.str a0))], [], 0⟩ =
    (bif (decide ((ByteArray.size a0 : Int) < 1)) then
   (J 0 2 0 (s38_0 a0 true) (e38 J m [1, 0, 1] [] (s38_0 a0 true)))
    else
   (J 0 2 0 (s38_0 a0 (decide (128 < (ByteArray.size a0 : Int)))) (e38 J m [1, 0, 1] [] (s38_0 a0 (decide (128 < (ByteArray.size a0 : Int))))))) := fun J => by kernel_rfl
  refine (h jn).trans ?_
  simp only [jn_eq, ref01_wide_j0_eq m]
  rfl
end Go.Proofs.YtfneddmmeadacaaDoor
