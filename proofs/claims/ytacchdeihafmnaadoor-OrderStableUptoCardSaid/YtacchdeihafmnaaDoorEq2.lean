/- Generated: each function's run in the abstract machine is its shallow function. -/
import Derived.Test.YtacchdeihafmnaaDoorCt
import Derived.Test.YtacchdeihafmnaaDoorAmEnv
import Derived.KernelRfl
set_option linter.unusedVariables false
set_option linter.unusedSimpArgs false
namespace Go.Proofs.YtacchdeihafmnaaDoor
open Go.Am
set_option maxRecDepth 100000
noncomputable def d53 (q : Res) : Option (Int × Bool) := match q with
  | (.tup [.dat T0 x0, .dat T1 x1], []) => bif (Nat.beq T0 3 && Nat.beq T1 4) then some (x0.toInt, x1.toBool) else none
  | _ => none
theorem d53_sim {b : Res} {r : Int × Bool} (h : d53 b = some r) : Sim Tryd.prog b ((.tup [(.dat 3 (.int r.1)), (.dat 4 (.bool r.2))]), []) := by
  unfold d53 at h
  split at h
  · obtain ⟨hc, h2⟩ := bif_some h
    cases h2
    have e0 := beq_eq (and_l hc)
    have e1 := beq_eq (and_r hc)
    subst e0 e1
    exact Sim.of (.tup (.cons (.dat (.int Tryd.underlying3)) (.cons (.dat (.bool Tryd.underlying4)) .nil))) .nil
  · cases h
noncomputable def e53 (J : Nat → Nat → Nat → St → Option (Int × Bool) → Option (Int × Bool)) (m : Nat) (p ms : List Nat) (σ : St) := evAt Tryd.prog env (ct m) J (m + 1) 89 49 Tryd.f89 d53 p ms σ
noncomputable def l53 (J : Nat → Nat → Nat → St → Option (Int × Bool) → Option (Int × Bool)) (m : Nat) (p ms : List Nat) (M : Nat) (σ : St) := loopAt Tryd.prog env (ct m) J (m + 1) 89 49 Tryd.f89 d53 p ms M σ
noncomputable def s53_5 (x0 : ByteArray) (x1 x2 : Int) : St := ⟨tsOf [(0, (.dat 9 (.str x0))), (4, (.dat 3 (.int x1))), (5, (.dat 3 (.int x2)))], [], 0⟩
noncomputable def s53_4 (x0 : ByteArray) (x1 x2 : Int) : St := ⟨tsOf [(0, (.dat 9 (.str x0))), (4, (.dat 3 (.int x1))), (5, (.dat 3 (.int x2)))], [], 0⟩
noncomputable def s53_3 (x0 : ByteArray) (x1 x2 : Int) : St := ⟨tsOf [(0, (.dat 9 (.str x0))), (4, (.dat 3 (.int x1))), (5, (.dat 3 (.int x2)))], [], 0⟩
noncomputable def s53_6 (x0 : Int) : St := ⟨tsOf [(4, (.dat 3 (.int x0)))], [], 0⟩
noncomputable def s53_2 (x0 : ByteArray) (x1 x2 : Int) : St := ⟨tsOf [(0, (.dat 9 (.str x0))), (4, (.dat 3 (.int x1))), (5, (.dat 3 (.int x2)))], [], 0⟩
noncomputable def s53_1 (x0 : ByteArray) (x1 x2 : Int) : St := ⟨tsOf [(0, (.dat 9 (.str x0))), (4, (.dat 3 (.int x1))), (5, (.dat 3 (.int x2)))], [], 0⟩
noncomputable def s53_0 (x0 : ByteArray) : St := ⟨tsOf [(0, (.dat 9 (.str x0)))], [], 0⟩
theorem ref04_Number_j5_eq (m : Nat) (M2 : Nat) (rec2 : ByteArray → Int → Int → Option (Int × Bool)) (h2 : ∀ (x0 : ByteArray) (x1 x2 : Int), l53 jn m [1, 1, 1, 0, 1, 0] [] M2 (s53_2 x0 x1 x2) = rec2 x0 x1 x2) (x0 : ByteArray) (x1 x2 : Int) : e53 jn m [1, 1, 1, 0, 1, 0, 0, 1, 1] [M2] (s53_5 x0 x1 x2) = ref04_Number_j5 m rec2 x0 x1 x2 := by
  have h : ∀ J, e53 J m [1, 1, 1, 0, 1, 0, 0, 1, 1] [M2] (s53_5 x0 x1 x2) =
    (J 1 5 M2 (s53_2 x0 x1 (IntKind.wrap IntKind.i64 (x2 + (1 : Int)))) (l53 J m [1, 1, 1, 0, 1, 0] [] M2 (s53_2 x0 x1 (IntKind.wrap IntKind.i64 (x2 + (1 : Int)))))) := fun J => by kernel_rfl
  exact (h jn).trans (by
    simp only [jn_eq, h2]
    rfl)
theorem ref04_Number_j4_eq (m : Nat) (M2 : Nat) (rec2 : ByteArray → Int → Int → Option (Int × Bool)) (h2 : ∀ (x0 : ByteArray) (x1 x2 : Int), l53 jn m [1, 1, 1, 0, 1, 0] [] M2 (s53_2 x0 x1 x2) = rec2 x0 x1 x2) (x0 : ByteArray) (x1 x2 : Int) : e53 jn m [1, 1, 1, 0, 1, 0, 0, 1, 0, 0, 1] [M2] (s53_4 x0 x1 x2) = ref04_Number_j4 m rec2 x0 x1 x2 := by
  have h : ∀ J, e53 J m [1, 1, 1, 0, 1, 0, 0, 1, 0, 0, 1] [M2] (s53_4 x0 x1 x2) =
    ((idxS x0 x2).bind fun v3 =>
     (J 0 6 0 (s53_5 x0 (IntKind.wrap IntKind.i64 ((IntKind.wrap IntKind.i64 (x1 * (10 : Int))) + (IntKind.wrap IntKind.i64 (IntKind.wrap IntKind.u8 (v3 - (48 : Int)))))) x2) (e53 J m [1, 1, 1, 0, 1, 0, 0, 1, 1] [M2] (s53_5 x0 (IntKind.wrap IntKind.i64 ((IntKind.wrap IntKind.i64 (x1 * (10 : Int))) + (IntKind.wrap IntKind.i64 (IntKind.wrap IntKind.u8 (v3 - (48 : Int)))))) x2)))) := fun J => by kernel_rfl
  exact (h jn).trans (by
    simp only [jn_eq, ref04_Number_j5_eq m M2 rec2 h2]
    rfl)
theorem ref04_Number_j3_eq (m : Nat) (M2 : Nat) (rec2 : ByteArray → Int → Int → Option (Int × Bool)) (h2 : ∀ (x0 : ByteArray) (x1 x2 : Int), l53 jn m [1, 1, 1, 0, 1, 0] [] M2 (s53_2 x0 x1 x2) = rec2 x0 x1 x2) (x0 : ByteArray) (x1 x2 : Int) : e53 jn m [1, 1, 1, 0, 1, 0, 0, 1] [M2] (s53_3 x0 x1 x2) = ref04_Number_j3 m rec2 x0 x1 x2 := by
  have h : ∀ J, e53 J m [1, 1, 1, 0, 1, 0, 0, 1] [M2] (s53_3 x0 x1 x2) =
    ((idxS x0 x2).bind fun v1 =>
     (bif (decide (v1 < (48 : Int))) then
     some ((0 : Int), Bool.false)
     else
     ((idxS x0 x2).bind fun v2 =>
     (bif (decide ((57 : Int) < v2)) then
     some ((0 : Int), Bool.false)
     else
     (J 0 9 0 (s53_4 x0 x1 x2) (e53 J m [1, 1, 1, 0, 1, 0, 0, 1, 0, 0, 1] [M2] (s53_4 x0 x1 x2))))))) := fun J => by kernel_rfl
  exact (h jn).trans (by
    simp only [jn_eq, ref04_Number_j4_eq m M2 rec2 h2]
    rfl)
theorem ref04_Number_j6_eq (m : Nat) (x0 : Int) : e53 jn m [1, 1, 1, 1] [] (s53_6 x0) = ref04_Number_j6 m x0 := by
  have h : ∀ J, e53 J m [1, 1, 1, 1] [] (s53_6 x0) =
    some (x0, Bool.true) := fun J => by kernel_rfl
  exact (h jn).trans (rfl)
theorem ref04_Number_l2_eq (m : Nat) : ∀ (M2 : Nat) (x0 : ByteArray) (x1 x2 : Int), l53 jn m [1, 1, 1, 0, 1, 0] [] M2 (s53_2 x0 x1 x2) = ref04_Number_l2 m M2 x0 x1 x2
  | 0, _, _, _ => rfl
  | M2 + 1, x0, x1, x2 => by
    have h : ∀ J, l53 J m [1, 1, 1, 0, 1, 0] [] (M2 + 1) (s53_2 x0 x1 x2) =
    (bif (decide (x2 < (((ByteArray.size x0) : Nat) : Int))) then
     (J 0 7 0 (s53_3 x0 x1 x2) (e53 J m [1, 1, 1, 0, 1, 0, 0, 1] [M2] (s53_3 x0 x1 x2)))
    else
     (J 0 10 0 (s53_6 x1) (e53 J m [1, 1, 1, 1] [] (s53_6 x1)))) := fun J => by kernel_rfl
    refine (h jn).trans ?_
    simp only [jn_eq, ref04_Number_j3_eq m M2 (ref04_Number_l2 m M2) (fun x0 x1 x2 => ref04_Number_l2_eq m M2 x0 x1 x2), ref04_Number_j6_eq m]
    rfl
theorem ref04_Number_j1_eq (m : Nat) (x0 : ByteArray) (x1 x2 : Int) : e53 jn m [1, 1, 1, 0, 1] [] (s53_1 x0 x1 x2) = ref04_Number_j1 m x0 x1 x2 := by
  have h : ∀ J, e53 J m [1, 1, 1, 0, 1] [] (s53_1 x0 x1 x2) =
    (J 1 5 (Nat.succ m) (s53_2 x0 x1 x2) (l53 J m [1, 1, 1, 0, 1, 0] [] (Nat.succ m) (s53_2 x0 x1 x2))) := fun J => by kernel_rfl
  exact (h jn).trans (by
    simp only [jn_eq, ref04_Number_l2_eq m]
    rfl)
theorem ref04_Number_j0_eq (m : Nat) (x0 : ByteArray) : e53 jn m [1, 1] [] (s53_0 x0) = ref04_Number_j0 m x0 := by
  have h : ∀ J, e53 J m [1, 1] [] (s53_0 x0) =
    (J 0 5 0 (s53_1 x0 (0 : Int) (0 : Int)) (e53 J m [1, 1, 1, 0, 1] [] (s53_1 x0 (0 : Int) (0 : Int)))) := fun J => by kernel_rfl
  exact (h jn).trans (by
    simp only [jn_eq, ref04_Number_j1_eq m]
    rfl)
theorem ref04_Number_eq (m : Nat) (a0 : ByteArray) : e53 jn m [] [] ⟨[(.dat 9 (.str a0))], [], 0⟩ = ref04_Number (m + 1) a0 := by
  have h : ∀ J, e53 J m [] [] ⟨[(.dat 9 (.str a0))], [], 0⟩ =
    (bif (decide ((((ByteArray.size a0) : Nat) : Int) < (1 : Int))) then
     some ((0 : Int), Bool.false)
    else
     (bif (decide ((4 : Int) < (((ByteArray.size a0) : Nat) : Int))) then
     some ((0 : Int), Bool.false)
     else
     ((idxS a0 (0 : Int)).bind fun v0 =>
     (bif (v0 == (48 : Int)) then
     (bif (decide ((1 : Int) < (((ByteArray.size a0) : Nat) : Int))) then
     some ((0 : Int), Bool.false)
     else
     (J 0 3 0 (s53_0 a0) (e53 J m [1, 1] [] (s53_0 a0))))
     else
     (J 0 3 0 (s53_0 a0) (e53 J m [1, 1] [] (s53_0 a0))))))) := fun J => by kernel_rfl
  refine (h jn).trans ?_
  simp only [jn_eq, ref04_Number_j0_eq m]
  rfl
noncomputable def d54 (q : Res) : Option (Int) := match q with
  | (.dat T0 x0, []) => bif Nat.beq T0 3 then some x0.toInt else none
  | _ => none
theorem d54_sim {b : Res} {r : Int} (h : d54 b = some r) : Sim Tryd.prog b ((.dat 3 (.int r)), []) := by
  unfold d54 at h
  split at h
  · obtain ⟨hc, h2⟩ := bif_some h
    cases h2
    have e0 := beq_eq hc
    subst e0
    exact Sim.of (.of (.dat (.int Tryd.underlying3)) rfl rfl) .nil
  · cases h
noncomputable def e54 (J : Nat → Nat → Nat → St → Option (Int) → Option (Int)) (m : Nat) (p ms : List Nat) (σ : St) := evAt Tryd.prog env (ct m) J (m + 1) 96 25 Tryd.f96 d54 p ms σ
noncomputable def l54 (J : Nat → Nat → Nat → St → Option (Int) → Option (Int)) (m : Nat) (p ms : List Nat) (M : Nat) (σ : St) := loopAt Tryd.prog env (ct m) J (m + 1) 96 25 Tryd.f96 d54 p ms M σ
noncomputable def s54_4 (x0 : ByteArray) (x1 : Int) (x2 : Dt) : St := ⟨tsOf [(1, (.dat 9 (.str x0))), (2, (.ptr 0 [] 0)), (5, (.dat 3 (.int x1)))], [(.box 30 (.dat 30 x2))], 0⟩
noncomputable def s54_3 (x0 : ByteArray) (x1 : Int) (x2 : Dt) : St := ⟨tsOf [(1, (.dat 9 (.str x0))), (2, (.ptr 0 [] 0)), (5, (.dat 3 (.int x1)))], [(.box 30 (.dat 30 x2))], 0⟩
noncomputable def s54_5 : St := ⟨tsOf [], [], 0⟩
noncomputable def s54_2 (x0 : ByteArray) (x1 : Int) (x2 : Dt) : St := ⟨tsOf [(1, (.dat 9 (.str x0))), (2, (.ptr 0 [] 0)), (5, (.dat 3 (.int x1)))], [(.box 30 (.dat 30 x2))], 0⟩
noncomputable def s54_1 (x0 : ByteArray) (x1 : Int) (x2 : Dt) : St := ⟨tsOf [(1, (.dat 9 (.str x0))), (2, (.ptr 0 [] 0)), (5, (.dat 3 (.int x1)))], [(.box 30 (.dat 30 x2))], 0⟩
noncomputable def s54_0 (x0 : ByteArray) (x1 : Dt) : St := ⟨tsOf [(1, (.dat 9 (.str x0))), (2, (.ptr 0 [] 0))], [(.box 30 (.dat 30 x1))], 0⟩
theorem ref01_at_j4_eq (m : Nat) (M2 : Nat) (rec2 : ByteArray → Int → Dt → Option (Int)) (h2 : ∀ (x0 : ByteArray) (x1 : Int) (x2 : Dt), l54 jn m [1, 1, 0, 1, 0] [] M2 (s54_2 x0 x1 x2) = rec2 x0 x1 x2) (x0 : ByteArray) (x1 : Int) (x2 : Dt) : e54 jn m [1, 1, 0, 1, 0, 0, 1, 1] [M2] (s54_4 x0 x1 x2) = ref01_at_j4 m rec2 x0 x1 x2 := by
  have h : ∀ J, e54 J m [1, 1, 0, 1, 0, 0, 1, 1] [M2] (s54_4 x0 x1 x2) =
    (J 1 4 M2 (s54_2 x0 (IntKind.wrap IntKind.i64 (x1 + (1 : Int))) x2) (l54 J m [1, 1, 0, 1, 0] [] M2 (s54_2 x0 (IntKind.wrap IntKind.i64 (x1 + (1 : Int))) x2))) := fun J => by kernel_rfl
  exact (h jn).trans (by
    simp only [jn_eq, h2]
    rfl)
theorem ref01_at_j3_eq (m : Nat) (M2 : Nat) (rec2 : ByteArray → Int → Dt → Option (Int)) (h2 : ∀ (x0 : ByteArray) (x1 : Int) (x2 : Dt), l54 jn m [1, 1, 0, 1, 0] [] M2 (s54_2 x0 x1 x2) = rec2 x0 x1 x2) (x0 : ByteArray) (x1 : Int) (x2 : Dt) : e54 jn m [1, 1, 0, 1, 0, 0, 1] [M2] (s54_3 x0 x1 x2) = ref01_at_j3 m rec2 x0 x1 x2 := by
  have h : ∀ J, e54 J m [1, 1, 0, 1, 0, 0, 1] [M2] (s54_3 x0 x1 x2) =
    ((idx (Dt.L x2 4) x1).bind fun v0 =>
     (bif ((ByteArray.toList (Dt.S v0 0)) == (ByteArray.toList x0)) then
     some x1
     else
     (J 0 5 0 (s54_4 x0 x1 x2) (e54 J m [1, 1, 0, 1, 0, 0, 1, 1] [M2] (s54_4 x0 x1 x2))))) := fun J => by kernel_rfl
  exact (h jn).trans (by
    simp only [jn_eq, ref01_at_j4_eq m M2 rec2 h2]
    rfl)
theorem ref01_at_j5_eq (m : Nat) : e54 jn m [1, 1, 1] [] s54_5 = ref01_at_j5 m := by
  have h : ∀ J, e54 J m [1, 1, 1] [] s54_5 =
    some (-1 : Int) := fun J => by kernel_rfl
  exact (h jn).trans (rfl)
theorem ref01_at_l2_eq (m : Nat) : ∀ (M2 : Nat) (x0 : ByteArray) (x1 : Int) (x2 : Dt), l54 jn m [1, 1, 0, 1, 0] [] M2 (s54_2 x0 x1 x2) = ref01_at_l2 m M2 x0 x1 x2
  | 0, _, _, _ => rfl
  | M2 + 1, x0, x1, x2 => by
    have h : ∀ J, l54 J m [1, 1, 0, 1, 0] [] (M2 + 1) (s54_2 x0 x1 x2) =
    (bif (decide (x1 < (((List.length (Dt.L x2 4)) : Nat) : Int))) then
     (J 0 6 0 (s54_3 x0 x1 x2) (e54 J m [1, 1, 0, 1, 0, 0, 1] [M2] (s54_3 x0 x1 x2)))
    else
     (J 0 8 0 s54_5 (e54 J m [1, 1, 1] [] s54_5))) := fun J => by kernel_rfl
    refine (h jn).trans ?_
    simp only [jn_eq, ref01_at_j3_eq m M2 (ref01_at_l2 m M2) (fun x0 x1 x2 => ref01_at_l2_eq m M2 x0 x1 x2), ref01_at_j5_eq m]
    rfl
theorem ref01_at_j1_eq (m : Nat) (x0 : ByteArray) (x1 : Int) (x2 : Dt) : e54 jn m [1, 1, 0, 1] [] (s54_1 x0 x1 x2) = ref01_at_j1 m x0 x1 x2 := by
  have h : ∀ J, e54 J m [1, 1, 0, 1] [] (s54_1 x0 x1 x2) =
    (J 1 4 (Nat.succ m) (s54_2 x0 x1 x2) (l54 J m [1, 1, 0, 1, 0] [] (Nat.succ m) (s54_2 x0 x1 x2))) := fun J => by kernel_rfl
  exact (h jn).trans (by
    simp only [jn_eq, ref01_at_l2_eq m]
    rfl)
theorem ref01_at_j0_eq (m : Nat) (x0 : ByteArray) (x1 : Dt) : e54 jn m [1, 1] [] (s54_0 x0 x1) = ref01_at_j0 m x0 x1 := by
  have h : ∀ J, e54 J m [1, 1] [] (s54_0 x0 x1) =
    (J 0 4 0 (s54_1 x0 (0 : Int) x1) (e54 J m [1, 1, 0, 1] [] (s54_1 x0 (0 : Int) x1))) := fun J => by kernel_rfl
  exact (h jn).trans (by
    simp only [jn_eq, ref01_at_j1_eq m]
    rfl)
theorem ref01_at_eq (m : Nat) (a0 : Dt) (a1 : ByteArray) : e54 jn m [] [] ⟨[(.dat 30 a0), (.dat 9 (.str a1))], [], 0⟩ = ref01_at (m + 1) a0 a1 := by
  have h : ∀ J, e54 J m [] [] ⟨[(.dat 30 a0), (.dat 9 (.str a1))], [], 0⟩ =
    (bif ((Dt.I a0 0) != (5 : Int)) then
     some (-1 : Int)
    else
     (J 0 3 0 (s54_0 a1 a0) (e54 J m [1, 1] [] (s54_0 a1 a0)))) := fun J => by kernel_rfl
  refine (h jn).trans ?_
  simp only [jn_eq, ref01_at_j0_eq m]
  rfl
noncomputable def d52 (q : Res) : Option (Dt × Bool) := match q with
  | (.tup [.dat T0 x0, .dat T1 x1], []) => bif (Nat.beq T0 30 && Nat.beq T1 4) then some (x0, x1.toBool) else none
  | _ => none
theorem d52_sim {b : Res} {r : Dt × Bool} (h : d52 b = some r) : Sim Tryd.prog b ((.tup [(.dat 30 r.1), (.dat 4 (.bool r.2))]), []) := by
  unfold d52 at h
  split at h
  · obtain ⟨hc, h2⟩ := bif_some h
    cases h2
    have e0 := beq_eq (and_l hc)
    have e1 := beq_eq (and_r hc)
    subst e0 e1
    exact Sim.of (.tup (.cons .same (.cons (.dat (.bool Tryd.underlying4)) .nil))) .nil
  · cases h
noncomputable def e52 (J : Nat → Nat → Nat → St → Option (Dt × Bool) → Option (Dt × Bool)) (m : Nat) (p ms : List Nat) (σ : St) := evAt Tryd.prog env (ct m) J (m + 1) 88 19 Tryd.f88 d52 p ms σ
noncomputable def l52 (J : Nat → Nat → Nat → St → Option (Dt × Bool) → Option (Dt × Bool)) (m : Nat) (p ms : List Nat) (M : Nat) (σ : St) := loopAt Tryd.prog env (ct m) J (m + 1) 88 19 Tryd.f88 d52 p ms M σ
noncomputable def s52_0 (x0 : Int) (x1 x2 : Dt) : St := ⟨tsOf [(2, (.ptr 0 [] 0)), (4, (.ptr 1 [] 0)), (6, (.dat 3 (.int x0)))], [(.box 30 (.dat 30 x1)), (.box 30 (.dat 30 x2))], 0⟩
theorem ref01_Get_j0_eq (m : Nat) (x0 : Int) (x1 x2 : Dt) : e52 jn m [1, 1, 1] [] (s52_0 x0 x1 x2) = ref01_Get_j0 m x0 x1 x2 := by
  have h : ∀ J, e52 J m [1, 1, 1] [] (s52_0 x0 x1 x2) =
    ((idx (Dt.L x1 4) x0).bind fun v1 =>
     some ((Dt.fld v1 1), Bool.true)) := fun J => by kernel_rfl
  exact (h jn).trans (rfl)
theorem ref01_Get_eq (m : Nat) (a0 : Dt) (a1 : ByteArray) : e52 jn m [] [] ⟨[(.dat 30 a0), (.dat 9 (.str a1))], [], 0⟩ = ref01_Get (m + 1) a0 a1 := by
  have h : ∀ J, e52 J m [] [] ⟨[(.dat 30 a0), (.dat 9 (.str a1))], [], 0⟩ =
    ((ref01_at m a0 a1).bind fun r0 =>
     (bif (decide (r0 < (0 : Int))) then
     some ((Dt.agg [(Dt.int (0 : Int)), (Dt.int (0 : Int)), (Dt.str (ByteArray.mk (List.toArray []))), (Dt.lst []), (Dt.lst [])]), Bool.false)
     else
     (J 0 4 0 (s52_0 r0 a0 (Dt.agg [(Dt.int (0 : Int)), (Dt.int (0 : Int)), (Dt.str (ByteArray.mk (List.toArray []))), (Dt.lst []), (Dt.lst [])])) (e52 J m [1, 1, 1] [] (s52_0 r0 a0 (Dt.agg [(Dt.int (0 : Int)), (Dt.int (0 : Int)), (Dt.str (ByteArray.mk (List.toArray []))), (Dt.lst []), (Dt.lst [])])))))) := fun J => by kernel_rfl
  refine (h jn).trans ?_
  simp only [jn_eq, ref01_Get_j0_eq m]
  rfl
noncomputable def d51 (q : Res) : Option (List Dt) := match q with
  | (.dat T0 x0, []) => bif Nat.beq T0 27 then some x0.toLst else none
  | _ => none
theorem d51_sim {b : Res} {r : List Dt} (h : d51 b = some r) : Sim Tryd.prog b ((.dat 27 (.lst r)), []) := by
  unfold d51 at h
  split at h
  · obtain ⟨hc, h2⟩ := bif_some h
    cases h2
    have e0 := beq_eq hc
    subst e0
    exact Sim.of (.of (.dat (.lst Tryd.underlying27)) rfl rfl) .nil
  · cases h
noncomputable def e51 (J : Nat → Nat → Nat → St → Option (List Dt) → Option (List Dt)) (m : Nat) (p ms : List Nat) (σ : St) := evAt Tryd.prog env (ct m) J (m + 1) 80 84 Tryd.f80 d51 p ms σ
noncomputable def l51 (J : Nat → Nat → Nat → St → Option (List Dt) → Option (List Dt)) (m : Nat) (p ms : List Nat) (M : Nat) (σ : St) := loopAt Tryd.prog env (ct m) J (m + 1) 80 84 Tryd.f80 d51 p ms M σ
noncomputable def s51_1 : St := ⟨tsOf [], [], 0⟩
noncomputable def s51_7 (x0 : List Dt) (x1 : Int) (x2 : Dt) (x3 : List Dt) : St := ⟨tsOf [(1, (.dat 45 (.lst x0))), (2, (.ptr 0 [] 0)), (7, (.row 1)), (8, (.dat 3 (.int x1)))], [(.box 30 (.dat 30 x2)), (.row 27 x3)], 0⟩
noncomputable def s51_6 (x0 : List Dt) (x1 : Int) (x2 : Dt) (x3 : List Dt) : St := ⟨tsOf [(1, (.dat 45 (.lst x0))), (2, (.ptr 0 [] 0)), (7, (.row 1)), (8, (.dat 3 (.int x1)))], [(.box 30 (.dat 30 x2)), (.row 27 x3)], 0⟩
noncomputable def s51_9 (x0 : List Dt) : St := ⟨tsOf [(7, (.row 0))], [(.row 27 x0)], 0⟩
noncomputable def s51_8 (x0 : List Dt) (x1 : Dt) (x2 : List Dt) : St := ⟨tsOf [(1, (.dat 45 (.lst x0))), (2, (.ptr 0 [] 0)), (7, (.row 1))], [(.box 30 (.dat 30 x1)), (.row 27 x2)], 0⟩
noncomputable def s51_5 (x0 : List Dt) (x1 : Int) (x2 : Dt) (x3 : List Dt) : St := ⟨tsOf [(1, (.dat 45 (.lst x0))), (2, (.ptr 0 [] 0)), (7, (.row 1)), (8, (.dat 3 (.int x1)))], [(.box 30 (.dat 30 x2)), (.row 27 x3)], 0⟩
noncomputable def s51_4 (x0 : List Dt) (x1 : Int) (x2 : Dt) (x3 : List Dt) : St := ⟨tsOf [(1, (.dat 45 (.lst x0))), (2, (.ptr 0 [] 0)), (7, (.row 1)), (8, (.dat 3 (.int x1)))], [(.box 30 (.dat 30 x2)), (.row 27 x3)], 0⟩
noncomputable def s51_3 (x0 : List Dt) (x1 : Dt) : St := ⟨tsOf [(1, (.dat 45 (.lst x0))), (2, (.ptr 0 [] 0))], [(.box 30 (.dat 30 x1))], 0⟩
noncomputable def s51_2 (x0 : List Dt) (x1 : Dt) : St := ⟨tsOf [(1, (.dat 45 (.lst x0))), (2, (.ptr 0 [] 0))], [(.box 30 (.dat 30 x1))], 0⟩
noncomputable def s51_0 (x0 : List Dt) (x1 : Dt) : St := ⟨tsOf [(1, (.dat 45 (.lst x0))), (2, (.ptr 0 [] 0))], [(.box 30 (.dat 30 x1))], 0⟩
theorem ref04_Pass_j1_eq (m : Nat) : e51 jn m [1, 1, 0, 1, 0, 1, 1] [] s51_1 = ref04_Pass_j1 m (ref04_Pass m) := by
  have h : ∀ J, e51 J m [1, 1, 0, 1, 0, 1, 1] [] s51_1 =
    some [] := fun J => by kernel_rfl
  exact (h jn).trans (rfl)
theorem ref04_Pass_j7_eq (m : Nat) (M5 : Nat) (rec5 : List Dt → Int → Dt → List Dt → Option (List Dt)) (h5 : ∀ (x0 : List Dt) (x1 : Int) (x2 : Dt) (x3 : List Dt), l51 jn m [1, 1, 1, 1, 1, 0, 1, 0] [] M5 (s51_5 x0 x1 x2 x3) = rec5 x0 x1 x2 x3) (x0 : List Dt) (x1 : Int) (x2 : Dt) (x3 : List Dt) : e51 jn m [1, 1, 1, 1, 1, 0, 1, 0, 0, 1, 1] [M5] (s51_7 x0 x1 x2 x3) = ref04_Pass_j7 m (ref04_Pass m) rec5 x0 x1 x2 x3 := by
  have h : ∀ J, e51 J m [1, 1, 1, 1, 1, 0, 1, 0, 0, 1, 1] [M5] (s51_7 x0 x1 x2 x3) =
    (J 1 12 M5 (s51_5 x0 (IntKind.wrap IntKind.i64 (x1 + (1 : Int))) x2 x3) (l51 J m [1, 1, 1, 1, 1, 0, 1, 0] [] M5 (s51_5 x0 (IntKind.wrap IntKind.i64 (x1 + (1 : Int))) x2 x3))) := fun J => by kernel_rfl
  exact (h jn).trans (by
    simp only [jn_eq, h5]
    rfl)
theorem ref04_Pass_j6_eq (m : Nat) (M5 : Nat) (rec5 : List Dt → Int → Dt → List Dt → Option (List Dt)) (h5 : ∀ (x0 : List Dt) (x1 : Int) (x2 : Dt) (x3 : List Dt), l51 jn m [1, 1, 1, 1, 1, 0, 1, 0] [] M5 (s51_5 x0 x1 x2 x3) = rec5 x0 x1 x2 x3) (x0 : List Dt) (x1 : Int) (x2 : Dt) (x3 : List Dt) : e51 jn m [1, 1, 1, 1, 1, 0, 1, 0, 0, 1] [M5] (s51_6 x0 x1 x2 x3) = ref04_Pass_j6 m (ref04_Pass m) rec5 x0 x1 x2 x3 := by
  have h : ∀ J, e51 J m [1, 1, 1, 1, 1, 0, 1, 0, 0, 1] [M5] (s51_6 x0 x1 x2 x3) =
    ((idx (Dt.L x2 3) x1).bind fun v4 =>
     (bif ((Dt.I v4 0) == (5 : Int)) then
     ((idx (Dt.L x2 3) x1).bind fun v5 =>
     ((ref04_Pass m v5 x0).bind fun r6 =>
     ((app x3 r6).bind fun v7 =>
     (J 0 13 0 (s51_7 x0 x1 x2 v7) (e51 J m [1, 1, 1, 1, 1, 0, 1, 0, 0, 1, 1] [M5] (s51_7 x0 x1 x2 v7))))))
     else
     (J 0 13 0 (s51_7 x0 x1 x2 x3) (e51 J m [1, 1, 1, 1, 1, 0, 1, 0, 0, 1, 1] [M5] (s51_7 x0 x1 x2 x3))))) := fun J => by kernel_rfl
  exact (h jn).trans (by
    simp only [jn_eq, ref04_Pass_j7_eq m M5 rec5 h5]
    rfl)
theorem ref04_Pass_j9_eq (m : Nat) (x0 : List Dt) : e51 jn m [1, 1, 1, 1, 1, 1, 1, 1] [] (s51_9 x0) = ref04_Pass_j9 m (ref04_Pass m) x0 := by
  have h : ∀ J, e51 J m [1, 1, 1, 1, 1, 1, 1, 1] [] (s51_9 x0) =
    some x0 := fun J => by kernel_rfl
  exact (h jn).trans (rfl)
theorem ref04_Pass_j8_eq (m : Nat) (x0 : List Dt) (x1 : Dt) (x2 : List Dt) : e51 jn m [1, 1, 1, 1, 1, 1] [] (s51_8 x0 x1 x2) = ref04_Pass_j8 m (ref04_Pass m) x0 x1 x2 := by
  have h : ∀ J, e51 J m [1, 1, 1, 1, 1, 1] [] (s51_8 x0 x1 x2) =
    ((idx x0 (0 : Int)).bind fun v8 =>
     ((ref04_Number m (Dt.toStr v8)).bind fun r9 =>
     (bif (Prod.snd r9) then
     (bif (decide ((Prod.fst r9) < (((List.length (Dt.L x1 3)) : Nat) : Int))) then
     ((idx (Dt.L x1 3) (Prod.fst r9)).bind fun v10 =>
     ((cutL x0 (1 : Int) (((List.length x0) : Nat) : Int)).bind fun v11 =>
     ((ref04_Pass m v10 v11).bind fun r12 =>
     ((app x2 r12).bind fun v13 =>
     (J 0 19 0 (s51_9 v13) (e51 J m [1, 1, 1, 1, 1, 1, 1, 1] [] (s51_9 v13)))))))
     else
     (J 0 19 0 (s51_9 x2) (e51 J m [1, 1, 1, 1, 1, 1, 1, 1] [] (s51_9 x2))))
     else
     (J 0 19 0 (s51_9 x2) (e51 J m [1, 1, 1, 1, 1, 1, 1, 1] [] (s51_9 x2)))))) := fun J => by kernel_rfl
  exact (h jn).trans (by
    simp only [jn_eq, ref04_Pass_j9_eq m]
    rfl)
theorem ref04_Pass_l5_eq (m : Nat) : ∀ (M5 : Nat) (x0 : List Dt) (x1 : Int) (x2 : Dt) (x3 : List Dt), l51 jn m [1, 1, 1, 1, 1, 0, 1, 0] [] M5 (s51_5 x0 x1 x2 x3) = ref04_Pass_l5 m (ref04_Pass m) M5 x0 x1 x2 x3
  | 0, _, _, _, _ => rfl
  | M5 + 1, x0, x1, x2, x3 => by
    have h : ∀ J, l51 J m [1, 1, 1, 1, 1, 0, 1, 0] [] (M5 + 1) (s51_5 x0 x1 x2 x3) =
    (bif (decide (x1 < (((List.length (Dt.L x2 3)) : Nat) : Int))) then
     (J 0 14 0 (s51_6 x0 x1 x2 x3) (e51 J m [1, 1, 1, 1, 1, 0, 1, 0, 0, 1] [M5] (s51_6 x0 x1 x2 x3)))
    else
     (J 0 16 0 (s51_8 x0 x2 x3) (e51 J m [1, 1, 1, 1, 1, 1] [] (s51_8 x0 x2 x3)))) := fun J => by kernel_rfl
    refine (h jn).trans ?_
    simp only [jn_eq, ref04_Pass_j6_eq m M5 (ref04_Pass_l5 m (ref04_Pass m) M5) (fun x0 x1 x2 x3 => ref04_Pass_l5_eq m M5 x0 x1 x2 x3), ref04_Pass_j8_eq m]
    rfl
theorem ref04_Pass_j4_eq (m : Nat) (x0 : List Dt) (x1 : Int) (x2 : Dt) (x3 : List Dt) : e51 jn m [1, 1, 1, 1, 1, 0, 1] [] (s51_4 x0 x1 x2 x3) = ref04_Pass_j4 m (ref04_Pass m) x0 x1 x2 x3 := by
  have h : ∀ J, e51 J m [1, 1, 1, 1, 1, 0, 1] [] (s51_4 x0 x1 x2 x3) =
    (J 1 12 (Nat.succ m) (s51_5 x0 x1 x2 x3) (l51 J m [1, 1, 1, 1, 1, 0, 1, 0] [] (Nat.succ m) (s51_5 x0 x1 x2 x3))) := fun J => by kernel_rfl
  exact (h jn).trans (by
    simp only [jn_eq, ref04_Pass_l5_eq m]
    rfl)
theorem ref04_Pass_j3_eq (m : Nat) (x0 : List Dt) (x1 : Dt) : e51 jn m [1, 1, 1, 1] [] (s51_3 x0 x1) = ref04_Pass_j3 m (ref04_Pass m) x0 x1 := by
  have h : ∀ J, e51 J m [1, 1, 1, 1] [] (s51_3 x0 x1) =
    (J 0 12 0 (s51_4 x0 (0 : Int) x1 []) (e51 J m [1, 1, 1, 1, 1, 0, 1] [] (s51_4 x0 (0 : Int) x1 []))) := fun J => by kernel_rfl
  exact (h jn).trans (by
    simp only [jn_eq, ref04_Pass_j4_eq m]
    rfl)
theorem ref04_Pass_j2_eq (m : Nat) (x0 : List Dt) (x1 : Dt) : e51 jn m [1, 1, 1] [] (s51_2 x0 x1) = ref04_Pass_j2 m (ref04_Pass m) x0 x1 := by
  have h : ∀ J, e51 J m [1, 1, 1] [] (s51_2 x0 x1) =
    (bif ((Dt.I x1 0) != (6 : Int)) then
     some []
    else
     (J 0 10 0 (s51_3 x0 x1) (e51 J m [1, 1, 1, 1] [] (s51_3 x0 x1)))) := fun J => by kernel_rfl
  exact (h jn).trans (by
    simp only [jn_eq, ref04_Pass_j3_eq m]
    rfl)
theorem ref04_Pass_j0_eq (m : Nat) (x0 : List Dt) (x1 : Dt) : e51 jn m [1, 1] [] (s51_0 x0 x1) = ref04_Pass_j0 m (ref04_Pass m) x0 x1 := by
  have h : ∀ J, e51 J m [1, 1] [] (s51_0 x0 x1) =
    (bif ((Dt.I x1 0) == (5 : Int)) then
     ((idx x0 (0 : Int)).bind fun v0 =>
     ((ref01_Get m x1 (Dt.toStr v0)).bind fun r1 =>
     (bif (Prod.snd r1) then
     ((cutL x0 (1 : Int) (((List.length x0) : Nat) : Int)).bind fun v2 =>
     ((ref04_Pass m (Prod.fst r1) v2).bind fun r3 =>
     some r3))
     else
     (J 0 7 0 s51_1 (e51 J m [1, 1, 0, 1, 0, 1, 1] [] s51_1)))))
    else
     (J 0 8 0 (s51_2 x0 x1) (e51 J m [1, 1, 1] [] (s51_2 x0 x1)))) := fun J => by kernel_rfl
  exact (h jn).trans (by
    simp only [jn_eq, ref04_Pass_j1_eq m, ref04_Pass_j2_eq m]
    rfl)
theorem ref04_Pass_eq (m : Nat) (a0 : Dt) (a1 : List Dt) : e51 jn m [] [] ⟨[(.dat 30 a0), (.dat 45 (.lst a1))], [], 0⟩ = ref04_Pass (m + 1) a0 a1 := by
  have h : ∀ J, e51 J m [] [] ⟨[(.dat 30 a0), (.dat 45 (.lst a1))], [], 0⟩ =
    (bif ((((List.length a1) : Nat) : Int) == (0 : Int)) then
     some [a0]
    else
     (J 0 3 0 (s51_0 a1 a0) (e51 J m [1, 1] [] (s51_0 a1 a0)))) := fun J => by kernel_rfl
  refine (h jn).trans ?_
  simp only [jn_eq, ref04_Pass_j0_eq m]
  rfl
noncomputable def d45 (q : Res) : Option (List Dt) := match q with
  | (.dat T0 x0, []) => bif Nat.beq T0 27 then some x0.toLst else none
  | _ => none
theorem d45_sim {b : Res} {r : List Dt} (h : d45 b = some r) : Sim Tryd.prog b ((.dat 27 (.lst r)), []) := by
  unfold d45 at h
  split at h
  · obtain ⟨hc, h2⟩ := bif_some h
    cases h2
    have e0 := beq_eq hc
    subst e0
    exact Sim.of (.of (.dat (.lst Tryd.underlying27)) rfl rfl) .nil
  · cases h
noncomputable def e45 (J : Nat → Nat → Nat → St → Option (List Dt) → Option (List Dt)) (m : Nat) (p ms : List Nat) (σ : St) := evAt Tryd.prog env (ct m) J (m + 1) 68 15 Tryd.f68 d45 p ms σ
noncomputable def l45 (J : Nat → Nat → Nat → St → Option (List Dt) → Option (List Dt)) (m : Nat) (p ms : List Nat) (M : Nat) (σ : St) := loopAt Tryd.prog env (ct m) J (m + 1) 68 15 Tryd.f68 d45 p ms M σ
noncomputable def s45_0 (x0 : List Dt) : St := ⟨tsOf [(5, (.dat 27 (.lst x0)))], [], 0⟩
theorem ref04_Reach_j0_eq (m : Nat) (x0 : List Dt) : e45 jn m [1, 1, 1] [] (s45_0 x0) = ref04_Reach_j0 m x0 := by
  have h : ∀ J, e45 J m [1, 1, 1] [] (s45_0 x0) =
    some x0 := fun J => by kernel_rfl
  exact (h jn).trans (rfl)
theorem ref04_Reach_eq (m : Nat) (a0 : Dt) (a1 : List Dt) : e45 jn m [] [] ⟨[(.dat 30 a0), (.dat 45 (.lst a1))], [], 0⟩ = ref04_Reach (m + 1) a0 a1 := by
  have h : ∀ J, e45 J m [] [] ⟨[(.dat 30 a0), (.dat 45 (.lst a1))], [], 0⟩ =
    ((ref04_Pass m a0 a1).bind fun r0 =>
     (bif ((((List.length r0) : Nat) : Int) == (0 : Int)) then
     some [(Dt.agg [(Dt.int (0 : Int)), (Dt.int (0 : Int)), (Dt.str (ByteArray.mk (List.toArray []))), (Dt.lst []), (Dt.lst [])])]
     else
     (J 0 4 0 (s45_0 r0) (e45 J m [1, 1, 1] [] (s45_0 r0))))) := fun J => by kernel_rfl
  refine (h jn).trans ?_
  simp only [jn_eq, ref04_Reach_j0_eq m]
  rfl
noncomputable def d35 (q : Res) : Option (List Dt) := match q with
  | (.dat T0 x0, []) => bif Nat.beq T0 27 then some x0.toLst else none
  | _ => none
theorem d35_sim {b : Res} {r : List Dt} (h : d35 b = some r) : Sim Tryd.prog b ((.dat 27 (.lst r)), []) := by
  unfold d35 at h
  split at h
  · obtain ⟨hc, h2⟩ := bif_some h
    cases h2
    have e0 := beq_eq hc
    subst e0
    exact Sim.of (.of (.dat (.lst Tryd.underlying27)) rfl rfl) .nil
  · cases h
noncomputable def e35 (J : Nat → Nat → Nat → St → Option (List Dt) → Option (List Dt)) (m : Nat) (p ms : List Nat) (σ : St) := evAt Tryd.prog env (ct m) J (m + 1) 52 57 Tryd.f52 d35 p ms σ
noncomputable def l35 (J : Nat → Nat → Nat → St → Option (List Dt) → Option (List Dt)) (m : Nat) (p ms : List Nat) (M : Nat) (σ : St) := loopAt Tryd.prog env (ct m) J (m + 1) 52 57 Tryd.f52 d35 p ms M σ
noncomputable def s35_3 (x0 : List Dt) (x1 : Int) (x2 : List Dt) : St := ⟨tsOf [(5, (.dat 27 (.lst x0))), (6, (.row 0)), (7, (.dat 3 (.int x1)))], [(.row 27 x2)], 0⟩
noncomputable def s35_2 (x0 : List Dt) (x1 : Int) (x2 : List Dt) : St := ⟨tsOf [(5, (.dat 27 (.lst x0))), (6, (.row 0)), (7, (.dat 3 (.int x1)))], [(.row 27 x2)], 0⟩
noncomputable def s35_4 (x0 : List Dt) : St := ⟨tsOf [(6, (.row 0))], [(.row 27 x0)], 0⟩
noncomputable def s35_1 (x0 : List Dt) (x1 : Int) (x2 : List Dt) : St := ⟨tsOf [(5, (.dat 27 (.lst x0))), (6, (.row 0)), (7, (.dat 3 (.int x1)))], [(.row 27 x2)], 0⟩
noncomputable def s35_0 (x0 : List Dt) (x1 : Int) (x2 : List Dt) : St := ⟨tsOf [(5, (.dat 27 (.lst x0))), (6, (.row 0)), (7, (.dat 3 (.int x1)))], [(.row 27 x2)], 0⟩
theorem ref12_Values_j3_eq (m : Nat) (M1 : Nat) (rec1 : List Dt → Int → List Dt → Option (List Dt)) (h1 : ∀ (x0 : List Dt) (x1 : Int) (x2 : List Dt), l35 jn m [1, 1, 1, 0, 1, 0] [] M1 (s35_1 x0 x1 x2) = rec1 x0 x1 x2) (x0 : List Dt) (x1 : Int) (x2 : List Dt) : e35 jn m [1, 1, 1, 0, 1, 0, 0, 1, 1] [M1] (s35_3 x0 x1 x2) = ref12_Values_j3 m rec1 x0 x1 x2 := by
  have h : ∀ J, e35 J m [1, 1, 1, 0, 1, 0, 0, 1, 1] [M1] (s35_3 x0 x1 x2) =
    (J 1 4 M1 (s35_1 x0 (IntKind.wrap IntKind.i64 (x1 + (1 : Int))) x2) (l35 J m [1, 1, 1, 0, 1, 0] [] M1 (s35_1 x0 (IntKind.wrap IntKind.i64 (x1 + (1 : Int))) x2))) := fun J => by kernel_rfl
  exact (h jn).trans (by
    simp only [jn_eq, h1]
    rfl)
theorem ref12_Values_j2_eq (m : Nat) (M1 : Nat) (rec1 : List Dt → Int → List Dt → Option (List Dt)) (h1 : ∀ (x0 : List Dt) (x1 : Int) (x2 : List Dt), l35 jn m [1, 1, 1, 0, 1, 0] [] M1 (s35_1 x0 x1 x2) = rec1 x0 x1 x2) (x0 : List Dt) (x1 : Int) (x2 : List Dt) : e35 jn m [1, 1, 1, 0, 1, 0, 0, 1] [M1] (s35_2 x0 x1 x2) = ref12_Values_j2 m rec1 x0 x1 x2 := by
  have h : ∀ J, e35 J m [1, 1, 1, 0, 1, 0, 0, 1] [M1] (s35_2 x0 x1 x2) =
    ((idx x0 x1).bind fun v1 =>
     (bif ((Dt.I v1 0) == (0 : Int)) then
     ((app x2 [(Dt.agg [(Dt.int (2 : Int)), (Dt.int (0 : Int)), (Dt.str (ByteArray.mk (List.toArray []))), (Dt.lst []), (Dt.lst [])])]).bind fun v2 =>
     (J 0 5 0 (s35_3 x0 x1 v2) (e35 J m [1, 1, 1, 0, 1, 0, 0, 1, 1] [M1] (s35_3 x0 x1 v2))))
     else
     ((idx x0 x1).bind fun v3 =>
     (bif ((Dt.I v3 0) == (6 : Int)) then
     ((idx x0 x1).bind fun v4 =>
     (bif (decide ((0 : Int) < (((List.length (Dt.L v4 3)) : Nat) : Int))) then
     ((idx x0 x1).bind fun v5 =>
     ((app x2 (Dt.L v5 3)).bind fun v6 =>
     (J 0 5 0 (s35_3 x0 x1 v6) (e35 J m [1, 1, 1, 0, 1, 0, 0, 1, 1] [M1] (s35_3 x0 x1 v6)))))
     else
     ((idx x0 x1).bind fun v7 =>
     ((app x2 [v7]).bind fun v8 =>
     (J 0 5 0 (s35_3 x0 x1 v8) (e35 J m [1, 1, 1, 0, 1, 0, 0, 1, 1] [M1] (s35_3 x0 x1 v8)))))))
     else
     ((idx x0 x1).bind fun v9 =>
     ((app x2 [v9]).bind fun v10 =>
     (J 0 5 0 (s35_3 x0 x1 v10) (e35 J m [1, 1, 1, 0, 1, 0, 0, 1, 1] [M1] (s35_3 x0 x1 v10))))))))) := fun J => by kernel_rfl
  exact (h jn).trans (by
    simp only [jn_eq, ref12_Values_j3_eq m M1 rec1 h1]
    rfl)
theorem ref12_Values_j4_eq (m : Nat) (x0 : List Dt) : e35 jn m [1, 1, 1, 1] [] (s35_4 x0) = ref12_Values_j4 m x0 := by
  have h : ∀ J, e35 J m [1, 1, 1, 1] [] (s35_4 x0) =
    some x0 := fun J => by kernel_rfl
  exact (h jn).trans (rfl)
theorem ref12_Values_l1_eq (m : Nat) : ∀ (M1 : Nat) (x0 : List Dt) (x1 : Int) (x2 : List Dt), l35 jn m [1, 1, 1, 0, 1, 0] [] M1 (s35_1 x0 x1 x2) = ref12_Values_l1 m M1 x0 x1 x2
  | 0, _, _, _ => rfl
  | M1 + 1, x0, x1, x2 => by
    have h : ∀ J, l35 J m [1, 1, 1, 0, 1, 0] [] (M1 + 1) (s35_1 x0 x1 x2) =
    (bif (decide (x1 < (((List.length x0) : Nat) : Int))) then
     (J 0 6 0 (s35_2 x0 x1 x2) (e35 J m [1, 1, 1, 0, 1, 0, 0, 1] [M1] (s35_2 x0 x1 x2)))
    else
     (J 0 11 0 (s35_4 x2) (e35 J m [1, 1, 1, 1] [] (s35_4 x2)))) := fun J => by kernel_rfl
    refine (h jn).trans ?_
    simp only [jn_eq, ref12_Values_j2_eq m M1 (ref12_Values_l1 m M1) (fun x0 x1 x2 => ref12_Values_l1_eq m M1 x0 x1 x2), ref12_Values_j4_eq m]
    rfl
theorem ref12_Values_j0_eq (m : Nat) (x0 : List Dt) (x1 : Int) (x2 : List Dt) : e35 jn m [1, 1, 1, 0, 1] [] (s35_0 x0 x1 x2) = ref12_Values_j0 m x0 x1 x2 := by
  have h : ∀ J, e35 J m [1, 1, 1, 0, 1] [] (s35_0 x0 x1 x2) =
    (J 1 4 (Nat.succ m) (s35_1 x0 x1 x2) (l35 J m [1, 1, 1, 0, 1, 0] [] (Nat.succ m) (s35_1 x0 x1 x2))) := fun J => by kernel_rfl
  exact (h jn).trans (by
    simp only [jn_eq, ref12_Values_l1_eq m]
    rfl)
theorem ref12_Values_eq (m : Nat) (a0 : Dt) (a1 : List Dt) : e35 jn m [] [] ⟨[(.dat 30 a0), (.dat 45 (.lst a1))], [], 0⟩ = ref12_Values (m + 1) a0 a1 := by
  have h : ∀ J, e35 J m [] [] ⟨[(.dat 30 a0), (.dat 45 (.lst a1))], [], 0⟩ =
    ((ref04_Reach m a0 a1).bind fun r0 =>
     (J 0 4 0 (s35_0 r0 (0 : Int) []) (e35 J m [1, 1, 1, 0, 1] [] (s35_0 r0 (0 : Int) [])))) := fun J => by kernel_rfl
  refine (h jn).trans ?_
  simp only [jn_eq, ref12_Values_j0_eq m]
  rfl
noncomputable def d27 (q : Res) : Option (Dt) := match q with
  | (.dat T0 x0, []) => bif Nat.beq T0 30 then some x0 else none
  | _ => none
theorem d27_sim {b : Res} {r : Dt} (h : d27 b = some r) : Sim Tryd.prog b ((.dat 30 r), []) := by
  unfold d27 at h
  split at h
  · obtain ⟨hc, h2⟩ := bif_some h
    cases h2
    have e0 := beq_eq hc
    subst e0
    exact Sim.of (.of .same rfl rfl) .nil
  · cases h
noncomputable def e27 (J : Nat → Nat → Nat → St → Option (Dt) → Option (Dt)) (m : Nat) (p ms : List Nat) (σ : St) := evAt Tryd.prog env (ct m) J (m + 1) 38 48 Tryd.f38 d27 p ms σ
noncomputable def l27 (J : Nat → Nat → Nat → St → Option (Dt) → Option (Dt)) (m : Nat) (p ms : List Nat) (M : Nat) (σ : St) := loopAt Tryd.prog env (ct m) J (m + 1) 38 48 Tryd.f38 d27 p ms M σ
noncomputable def s27_3 (x0 : List Dt) (x1 : Int) (x2 x3 x4 : Dt) : St := ⟨tsOf [(2, (.ptr 0 [] 0)), (4, (.ptr 1 [] 0)), (5, (.dat 27 (.lst x0))), (6, (.ptr 2 [] 0)), (7, (.dat 3 (.int x1)))], [(.box 47 (.dat 47 x2)), (.box 30 (.dat 30 x3)), (.box 30 (.dat 30 x4))], 0⟩
noncomputable def s27_2 (x0 : List Dt) (x1 : Int) (x2 x3 x4 : Dt) : St := ⟨tsOf [(2, (.ptr 0 [] 0)), (4, (.ptr 1 [] 0)), (5, (.dat 27 (.lst x0))), (6, (.ptr 2 [] 0)), (7, (.dat 3 (.int x1)))], [(.box 47 (.dat 47 x2)), (.box 30 (.dat 30 x3)), (.box 30 (.dat 30 x4))], 0⟩
noncomputable def s27_4 (x0 x1 : Dt) : St := ⟨tsOf [(4, (.ptr 0 [] 0)), (6, (.ptr 1 [] 0))], [(.box 30 (.dat 30 x0)), (.box 30 (.dat 30 x1))], 0⟩
noncomputable def s27_1 (x0 : List Dt) (x1 : Int) (x2 x3 x4 : Dt) : St := ⟨tsOf [(2, (.ptr 0 [] 0)), (4, (.ptr 1 [] 0)), (5, (.dat 27 (.lst x0))), (6, (.ptr 2 [] 0)), (7, (.dat 3 (.int x1)))], [(.box 47 (.dat 47 x2)), (.box 30 (.dat 30 x3)), (.box 30 (.dat 30 x4))], 0⟩
noncomputable def s27_0 (x0 : List Dt) (x1 : Int) (x2 x3 x4 : Dt) : St := ⟨tsOf [(2, (.ptr 0 [] 0)), (4, (.ptr 1 [] 0)), (5, (.dat 27 (.lst x0))), (6, (.ptr 2 [] 0)), (7, (.dat 3 (.int x1)))], [(.box 47 (.dat 47 x2)), (.box 30 (.dat 30 x3)), (.box 30 (.dat 30 x4))], 0⟩
theorem ref12_key_j3_eq (m : Nat) (M1 : Nat) (rec1 : List Dt → Int → Dt → Dt → Dt → Option (Dt)) (h1 : ∀ (x0 : List Dt) (x1 : Int) (x2 x3 x4 : Dt), l27 jn m [1, 1, 1, 0, 1, 0] [] M1 (s27_1 x0 x1 x2 x3 x4) = rec1 x0 x1 x2 x3 x4) (x0 : List Dt) (x1 : Int) (x2 x3 x4 : Dt) : e27 jn m [1, 1, 1, 0, 1, 0, 0, 1, 1] [M1] (s27_3 x0 x1 x2 x3 x4) = ref12_key_j3 m rec1 x0 x1 x2 x3 x4 := by
  have h : ∀ J, e27 J m [1, 1, 1, 0, 1, 0, 0, 1, 1] [M1] (s27_3 x0 x1 x2 x3 x4) =
    (J 1 4 M1 (s27_1 x0 (IntKind.wrap IntKind.i64 (x1 + (1 : Int))) x2 x3 x4) (l27 J m [1, 1, 1, 0, 1, 0] [] M1 (s27_1 x0 (IntKind.wrap IntKind.i64 (x1 + (1 : Int))) x2 x3 x4))) := fun J => by kernel_rfl
  exact (h jn).trans (by
    simp only [jn_eq, h1]
    rfl)
theorem ref12_key_j2_eq (m : Nat) (M1 : Nat) (rec1 : List Dt → Int → Dt → Dt → Dt → Option (Dt)) (h1 : ∀ (x0 : List Dt) (x1 : Int) (x2 x3 x4 : Dt), l27 jn m [1, 1, 1, 0, 1, 0] [] M1 (s27_1 x0 x1 x2 x3 x4) = rec1 x0 x1 x2 x3 x4) (x0 : List Dt) (x1 : Int) (x2 x3 x4 : Dt) : e27 jn m [1, 1, 1, 0, 1, 0, 0, 1] [M1] (s27_2 x0 x1 x2 x3 x4) = ref12_key_j2 m rec1 x0 x1 x2 x3 x4 := by
  have h : ∀ J, e27 J m [1, 1, 1, 0, 1, 0, 0, 1] [M1] (s27_2 x0 x1 x2 x3 x4) =
    ((idx x0 x1).bind fun v2 =>
     ((ref01_Compare m v2 x4).bind fun r3 =>
     (bif (decide (r3 < (0 : Int))) then
     (bif (Bool.not (Dt.B x2 1)) then
     ((idx x0 x1).bind fun v4 =>
     (J 0 5 0 (s27_3 x0 x1 x2 x3 v4) (e27 J m [1, 1, 1, 0, 1, 0, 0, 1, 1] [M1] (s27_3 x0 x1 x2 x3 v4))))
     else
     (bif (decide ((0 : Int) < r3)) then
     (bif (Dt.B x2 1) then
     ((idx x0 x1).bind fun v5 =>
     (J 0 5 0 (s27_3 x0 x1 x2 x3 v5) (e27 J m [1, 1, 1, 0, 1, 0, 0, 1, 1] [M1] (s27_3 x0 x1 x2 x3 v5))))
     else
     (J 0 5 0 (s27_3 x0 x1 x2 x3 x4) (e27 J m [1, 1, 1, 0, 1, 0, 0, 1, 1] [M1] (s27_3 x0 x1 x2 x3 x4))))
     else
     (J 0 5 0 (s27_3 x0 x1 x2 x3 x4) (e27 J m [1, 1, 1, 0, 1, 0, 0, 1, 1] [M1] (s27_3 x0 x1 x2 x3 x4)))))
     else
     (bif (decide ((0 : Int) < r3)) then
     (bif (Dt.B x2 1) then
     ((idx x0 x1).bind fun v6 =>
     (J 0 5 0 (s27_3 x0 x1 x2 x3 v6) (e27 J m [1, 1, 1, 0, 1, 0, 0, 1, 1] [M1] (s27_3 x0 x1 x2 x3 v6))))
     else
     (J 0 5 0 (s27_3 x0 x1 x2 x3 x4) (e27 J m [1, 1, 1, 0, 1, 0, 0, 1, 1] [M1] (s27_3 x0 x1 x2 x3 x4))))
     else
     (J 0 5 0 (s27_3 x0 x1 x2 x3 x4) (e27 J m [1, 1, 1, 0, 1, 0, 0, 1, 1] [M1] (s27_3 x0 x1 x2 x3 x4))))))) := fun J => by kernel_rfl
  exact (h jn).trans (by
    simp only [jn_eq, ref12_key_j3_eq m M1 rec1 h1]
    rfl)
theorem ref12_key_j4_eq (m : Nat) (x0 x1 : Dt) : e27 jn m [1, 1, 1, 1] [] (s27_4 x0 x1) = ref12_key_j4 m x0 x1 := by
  have h : ∀ J, e27 J m [1, 1, 1, 1] [] (s27_4 x0 x1) =
    some x1 := fun J => by kernel_rfl
  exact (h jn).trans (rfl)
theorem ref12_key_l1_eq (m : Nat) : ∀ (M1 : Nat) (x0 : List Dt) (x1 : Int) (x2 x3 x4 : Dt), l27 jn m [1, 1, 1, 0, 1, 0] [] M1 (s27_1 x0 x1 x2 x3 x4) = ref12_key_l1 m M1 x0 x1 x2 x3 x4
  | 0, _, _, _, _, _ => rfl
  | M1 + 1, x0, x1, x2, x3, x4 => by
    have h : ∀ J, l27 J m [1, 1, 1, 0, 1, 0] [] (M1 + 1) (s27_1 x0 x1 x2 x3 x4) =
    (bif (decide (x1 < (((List.length x0) : Nat) : Int))) then
     (J 0 6 0 (s27_2 x0 x1 x2 x3 x4) (e27 J m [1, 1, 1, 0, 1, 0, 0, 1] [M1] (s27_2 x0 x1 x2 x3 x4)))
    else
     (J 0 9 0 (s27_4 x3 x4) (e27 J m [1, 1, 1, 1] [] (s27_4 x3 x4)))) := fun J => by kernel_rfl
    refine (h jn).trans ?_
    simp only [jn_eq, ref12_key_j2_eq m M1 (ref12_key_l1 m M1) (fun x0 x1 x2 x3 x4 => ref12_key_l1_eq m M1 x0 x1 x2 x3 x4), ref12_key_j4_eq m]
    rfl
theorem ref12_key_j0_eq (m : Nat) (x0 : List Dt) (x1 : Int) (x2 x3 x4 : Dt) : e27 jn m [1, 1, 1, 0, 1] [] (s27_0 x0 x1 x2 x3 x4) = ref12_key_j0 m x0 x1 x2 x3 x4 := by
  have h : ∀ J, e27 J m [1, 1, 1, 0, 1] [] (s27_0 x0 x1 x2 x3 x4) =
    (J 1 4 (Nat.succ m) (s27_1 x0 x1 x2 x3 x4) (l27 J m [1, 1, 1, 0, 1, 0] [] (Nat.succ m) (s27_1 x0 x1 x2 x3 x4))) := fun J => by kernel_rfl
  exact (h jn).trans (by
    simp only [jn_eq, ref12_key_l1_eq m]
    rfl)
theorem ref12_key_eq (m : Nat) (a0 a1 : Dt) : e27 jn m [] [] ⟨[(.dat 47 a0), (.dat 30 a1)], [], 0⟩ = ref12_key (m + 1) a0 a1 := by
  have h : ∀ J, e27 J m [] [] ⟨[(.dat 47 a0), (.dat 30 a1)], [], 0⟩ =
    ((ref12_Values m a1 (Dt.L a0 0)).bind fun r0 =>
     ((idx r0 (0 : Int)).bind fun v1 =>
     (J 0 4 0 (s27_0 r0 (1 : Int) a0 (Dt.agg [(Dt.int (0 : Int)), (Dt.int (0 : Int)), (Dt.str (ByteArray.mk (List.toArray []))), (Dt.lst []), (Dt.lst [])]) v1) (e27 J m [1, 1, 1, 0, 1] [] (s27_0 r0 (1 : Int) a0 (Dt.agg [(Dt.int (0 : Int)), (Dt.int (0 : Int)), (Dt.str (ByteArray.mk (List.toArray []))), (Dt.lst []), (Dt.lst [])]) v1))))) := fun J => by kernel_rfl
  refine (h jn).trans ?_
  simp only [jn_eq, ref12_key_j0_eq m]
  rfl
noncomputable def d12 (q : Res) : Option (Int) := match q with
  | (.dat T0 x0, []) => bif Nat.beq T0 3 then some x0.toInt else none
  | _ => none
theorem d12_sim {b : Res} {r : Int} (h : d12 b = some r) : Sim Tryd.prog b ((.dat 3 (.int r)), []) := by
  unfold d12 at h
  split at h
  · obtain ⟨hc, h2⟩ := bif_some h
    cases h2
    have e0 := beq_eq hc
    subst e0
    exact Sim.of (.of (.dat (.int Tryd.underlying3)) rfl rfl) .nil
  · cases h
noncomputable def e12 (J : Nat → Nat → Nat → St → Option (Int) → Option (Int)) (m : Nat) (p ms : List Nat) (σ : St) := evAt Tryd.prog env (ct m) J (m + 1) 21 42 Tryd.f21 d12 p ms σ
noncomputable def l12 (J : Nat → Nat → Nat → St → Option (Int) → Option (Int)) (m : Nat) (p ms : List Nat) (M : Nat) (σ : St) := loopAt Tryd.prog env (ct m) J (m + 1) 21 42 Tryd.f21 d12 p ms M σ
noncomputable def s12_4 (x0 : List Dt) (x1 : Int) (x2 x3 : Dt) : St := ⟨tsOf [(0, (.dat 22 (.lst x0))), (4, (.ptr 0 [] 0)), (5, (.ptr 1 [] 0)), (7, (.dat 3 (.int x1)))], [(.box 30 (.dat 30 x2)), (.box 30 (.dat 30 x3))], 0⟩
noncomputable def s12_3 (x0 : List Dt) (x1 x2 : Int) (x3 x4 : Dt) : St := ⟨tsOf [(0, (.dat 22 (.lst x0))), (4, (.ptr 0 [] 0)), (5, (.ptr 1 [] 0)), (7, (.dat 3 (.int x1))), (8, (.dat 3 (.int x2)))], [(.box 30 (.dat 30 x3)), (.box 30 (.dat 30 x4))], 0⟩
noncomputable def s12_2 (x0 : List Dt) (x1 : Int) (x2 x3 : Dt) : St := ⟨tsOf [(0, (.dat 22 (.lst x0))), (4, (.ptr 0 [] 0)), (5, (.ptr 1 [] 0)), (7, (.dat 3 (.int x1)))], [(.box 30 (.dat 30 x2)), (.box 30 (.dat 30 x3))], 0⟩
noncomputable def s12_5 : St := ⟨tsOf [], [], 0⟩
noncomputable def s12_1 (x0 : List Dt) (x1 : Int) (x2 x3 : Dt) : St := ⟨tsOf [(0, (.dat 22 (.lst x0))), (4, (.ptr 0 [] 0)), (5, (.ptr 1 [] 0)), (7, (.dat 3 (.int x1)))], [(.box 30 (.dat 30 x2)), (.box 30 (.dat 30 x3))], 0⟩
noncomputable def s12_0 (x0 : List Dt) (x1 : Int) (x2 x3 : Dt) : St := ⟨tsOf [(0, (.dat 22 (.lst x0))), (4, (.ptr 0 [] 0)), (5, (.ptr 1 [] 0)), (7, (.dat 3 (.int x1)))], [(.box 30 (.dat 30 x2)), (.box 30 (.dat 30 x3))], 0⟩
theorem ref12_Compare_j4_eq (m : Nat) (M1 : Nat) (rec1 : List Dt → Int → Dt → Dt → Option (Int)) (h1 : ∀ (x0 : List Dt) (x1 : Int) (x2 x3 : Dt), l12 jn m [1, 0, 1, 0] [] M1 (s12_1 x0 x1 x2 x3) = rec1 x0 x1 x2 x3) (x0 : List Dt) (x1 : Int) (x2 x3 : Dt) : e12 jn m [1, 0, 1, 0, 0, 1, 1] [M1] (s12_4 x0 x1 x2 x3) = ref12_Compare_j4 m rec1 x0 x1 x2 x3 := by
  have h : ∀ J, e12 J m [1, 0, 1, 0, 0, 1, 1] [M1] (s12_4 x0 x1 x2 x3) =
    (J 1 2 M1 (s12_1 x0 (IntKind.wrap IntKind.i64 (x1 + (1 : Int))) x2 x3) (l12 J m [1, 0, 1, 0] [] M1 (s12_1 x0 (IntKind.wrap IntKind.i64 (x1 + (1 : Int))) x2 x3))) := fun J => by kernel_rfl
  exact (h jn).trans (by
    simp only [jn_eq, h1]
    rfl)
theorem ref12_Compare_j3_eq (m : Nat) (M1 : Nat) (rec1 : List Dt → Int → Dt → Dt → Option (Int)) (h1 : ∀ (x0 : List Dt) (x1 : Int) (x2 x3 : Dt), l12 jn m [1, 0, 1, 0] [] M1 (s12_1 x0 x1 x2 x3) = rec1 x0 x1 x2 x3) (x0 : List Dt) (x1 x2 : Int) (x3 x4 : Dt) : e12 jn m [1, 0, 1, 0, 0, 1, 0, 0, 1, 1] [M1] (s12_3 x0 x1 x2 x3 x4) = ref12_Compare_j3 m rec1 x0 x1 x2 x3 x4 := by
  have h : ∀ J, e12 J m [1, 0, 1, 0, 0, 1, 0, 0, 1, 1] [M1] (s12_3 x0 x1 x2 x3 x4) =
    (bif (x2 != (0 : Int)) then
     some x2
    else
     (J 0 3 0 (s12_4 x0 x1 x3 x4) (e12 J m [1, 0, 1, 0, 0, 1, 1] [M1] (s12_4 x0 x1 x3 x4)))) := fun J => by kernel_rfl
  exact (h jn).trans (by
    simp only [jn_eq, ref12_Compare_j4_eq m M1 rec1 h1]
    rfl)
theorem ref12_Compare_j2_eq (m : Nat) (M1 : Nat) (rec1 : List Dt → Int → Dt → Dt → Option (Int)) (h1 : ∀ (x0 : List Dt) (x1 : Int) (x2 x3 : Dt), l12 jn m [1, 0, 1, 0] [] M1 (s12_1 x0 x1 x2 x3) = rec1 x0 x1 x2 x3) (x0 : List Dt) (x1 : Int) (x2 x3 : Dt) : e12 jn m [1, 0, 1, 0, 0, 1] [M1] (s12_2 x0 x1 x2 x3) = ref12_Compare_j2 m rec1 x0 x1 x2 x3 := by
  have h : ∀ J, e12 J m [1, 0, 1, 0, 0, 1] [M1] (s12_2 x0 x1 x2 x3) =
    ((idx x0 x1).bind fun v0 =>
     ((ref12_key m v0 x2).bind fun r1 =>
     ((idx x0 x1).bind fun v2 =>
     ((ref12_key m v2 x3).bind fun r3 =>
     ((ref01_Compare m r1 r3).bind fun r4 =>
     (bif (r4 != (0 : Int)) then
     ((idx x0 x1).bind fun v5 =>
     (bif (Dt.B v5 1) then
     some (IntKind.wrap IntKind.i64 ((0 : Int) - r4))
     else
     (J 0 7 0 (s12_3 x0 x1 r4 x2 x3) (e12 J m [1, 0, 1, 0, 0, 1, 0, 0, 1, 1] [M1] (s12_3 x0 x1 r4 x2 x3)))))
     else
     (J 0 7 0 (s12_3 x0 x1 r4 x2 x3) (e12 J m [1, 0, 1, 0, 0, 1, 0, 0, 1, 1] [M1] (s12_3 x0 x1 r4 x2 x3))))))))) := fun J => by kernel_rfl
  exact (h jn).trans (by
    simp only [jn_eq, ref12_Compare_j3_eq m M1 rec1 h1]
    rfl)
theorem ref12_Compare_j5_eq (m : Nat) : e12 jn m [1, 1] [] s12_5 = ref12_Compare_j5 m := by
  have h : ∀ J, e12 J m [1, 1] [] s12_5 =
    some (0 : Int) := fun J => by kernel_rfl
  exact (h jn).trans (rfl)
theorem ref12_Compare_l1_eq (m : Nat) : ∀ (M1 : Nat) (x0 : List Dt) (x1 : Int) (x2 x3 : Dt), l12 jn m [1, 0, 1, 0] [] M1 (s12_1 x0 x1 x2 x3) = ref12_Compare_l1 m M1 x0 x1 x2 x3
  | 0, _, _, _, _ => rfl
  | M1 + 1, x0, x1, x2, x3 => by
    have h : ∀ J, l12 J m [1, 0, 1, 0] [] (M1 + 1) (s12_1 x0 x1 x2 x3) =
    (bif (decide (x1 < (((List.length x0) : Nat) : Int))) then
     (J 0 4 0 (s12_2 x0 x1 x2 x3) (e12 J m [1, 0, 1, 0, 0, 1] [M1] (s12_2 x0 x1 x2 x3)))
    else
     (J 0 9 0 s12_5 (e12 J m [1, 1] [] s12_5))) := fun J => by kernel_rfl
    refine (h jn).trans ?_
    simp only [jn_eq, ref12_Compare_j2_eq m M1 (ref12_Compare_l1 m M1) (fun x0 x1 x2 x3 => ref12_Compare_l1_eq m M1 x0 x1 x2 x3), ref12_Compare_j5_eq m]
    rfl
theorem ref12_Compare_j0_eq (m : Nat) (x0 : List Dt) (x1 : Int) (x2 x3 : Dt) : e12 jn m [1, 0, 1] [] (s12_0 x0 x1 x2 x3) = ref12_Compare_j0 m x0 x1 x2 x3 := by
  have h : ∀ J, e12 J m [1, 0, 1] [] (s12_0 x0 x1 x2 x3) =
    (J 1 2 (Nat.succ m) (s12_1 x0 x1 x2 x3) (l12 J m [1, 0, 1, 0] [] (Nat.succ m) (s12_1 x0 x1 x2 x3))) := fun J => by kernel_rfl
  exact (h jn).trans (by
    simp only [jn_eq, ref12_Compare_l1_eq m]
    rfl)
theorem ref12_Compare_eq (m : Nat) (a0 : List Dt) (a1 a2 : Dt) : e12 jn m [] [] ⟨[(.dat 22 (.lst a0)), (.dat 30 a1), (.dat 30 a2)], [], 0⟩ = ref12_Compare (m + 1) a0 a1 a2 := by
  have h : ∀ J, e12 J m [] [] ⟨[(.dat 22 (.lst a0)), (.dat 30 a1), (.dat 30 a2)], [], 0⟩ =
    (J 0 2 0 (s12_0 a0 (0 : Int) a1 a2) (e12 J m [1, 0, 1] [] (s12_0 a0 (0 : Int) a1 a2))) := fun J => by kernel_rfl
  refine (h jn).trans ?_
  simp only [jn_eq, ref12_Compare_j0_eq m]
  rfl
noncomputable def d5 (q : Res) : Option (List Dt) := match q with
  | (.dat T0 x0, []) => bif Nat.beq T0 27 then some x0.toLst else none
  | _ => none
theorem d5_sim {b : Res} {r : List Dt} (h : d5 b = some r) : Sim Tryd.prog b ((.dat 27 (.lst r)), []) := by
  unfold d5 at h
  split at h
  · obtain ⟨hc, h2⟩ := bif_some h
    cases h2
    have e0 := beq_eq hc
    subst e0
    exact Sim.of (.of (.dat (.lst Tryd.underlying27)) rfl rfl) .nil
  · cases h
noncomputable def e5 (J : Nat → Nat → Nat → St → Option (List Dt) → Option (List Dt)) (m : Nat) (p ms : List Nat) (σ : St) := evAt Tryd.prog env (ct m) J (m + 1) 23 54 Tryd.f23 d5 p ms σ
noncomputable def l5 (J : Nat → Nat → Nat → St → Option (List Dt) → Option (List Dt)) (m : Nat) (p ms : List Nat) (M : Nat) (σ : St) := loopAt Tryd.prog env (ct m) J (m + 1) 23 54 Tryd.f23 d5 p ms M σ
noncomputable def s5_5 (x0 x1 x2 : List Dt) (x3 x4 : Int) : St := ⟨tsOf [(0, (.dat 22 (.lst x0))), (1, (.dat 27 (.lst x1))), (5, (.dat 27 (.lst x2))), (6, (.dat 3 (.int x3))), (7, (.dat 3 (.int x4)))], [], 0⟩
noncomputable def s5_7 (x0 x1 x2 : List Dt) (x3 : Int) : St := ⟨tsOf [(0, (.dat 22 (.lst x0))), (1, (.dat 27 (.lst x1))), (5, (.dat 27 (.lst x2))), (6, (.dat 3 (.int x3)))], [], 0⟩
noncomputable def s5_6 (x0 x1 x2 : List Dt) (x3 x4 : Int) : St := ⟨tsOf [(0, (.dat 22 (.lst x0))), (1, (.dat 27 (.lst x1))), (5, (.dat 27 (.lst x2))), (6, (.dat 3 (.int x3))), (7, (.dat 3 (.int x4)))], [], 0⟩
noncomputable def s5_4 (x0 x1 x2 : List Dt) (x3 x4 : Int) : St := ⟨tsOf [(0, (.dat 22 (.lst x0))), (1, (.dat 27 (.lst x1))), (5, (.dat 27 (.lst x2))), (6, (.dat 3 (.int x3))), (7, (.dat 3 (.int x4)))], [], 0⟩
noncomputable def s5_3 (x0 x1 x2 : List Dt) (x3 x4 : Int) : St := ⟨tsOf [(0, (.dat 22 (.lst x0))), (1, (.dat 27 (.lst x1))), (5, (.dat 27 (.lst x2))), (6, (.dat 3 (.int x3))), (7, (.dat 3 (.int x4)))], [], 0⟩
noncomputable def s5_2 (x0 x1 x2 : List Dt) (x3 : Int) : St := ⟨tsOf [(0, (.dat 22 (.lst x0))), (1, (.dat 27 (.lst x1))), (5, (.dat 27 (.lst x2))), (6, (.dat 3 (.int x3)))], [], 0⟩
noncomputable def s5_8 (x0 : List Dt) : St := ⟨tsOf [(5, (.dat 27 (.lst x0)))], [], 0⟩
noncomputable def s5_1 (x0 x1 x2 : List Dt) (x3 : Int) : St := ⟨tsOf [(0, (.dat 22 (.lst x0))), (1, (.dat 27 (.lst x1))), (5, (.dat 27 (.lst x2))), (6, (.dat 3 (.int x3)))], [], 0⟩
noncomputable def s5_0 (x0 x1 x2 : List Dt) (x3 : Int) : St := ⟨tsOf [(0, (.dat 22 (.lst x0))), (1, (.dat 27 (.lst x1))), (5, (.dat 27 (.lst x2))), (6, (.dat 3 (.int x3)))], [], 0⟩
theorem ref12_Sort_j5_eq (m : Nat) (M1 : Nat) (rec1 : List Dt → List Dt → List Dt → Int → Option (List Dt)) (h1 : ∀ (x0 x1 x2 : List Dt) (x3 : Int), l5 jn m [1, 1, 0, 1, 0] [] M1 (s5_1 x0 x1 x2 x3) = rec1 x0 x1 x2 x3) (M4 : Nat) (rec4 : List Dt → List Dt → List Dt → Int → Int → Option (List Dt)) (h4 : ∀ (x0 x1 x2 : List Dt) (x3 x4 : Int), l5 jn m [1, 1, 0, 1, 0, 0, 1, 0, 0, 1, 0, 0] [M1] M4 (s5_4 x0 x1 x2 x3 x4) = rec4 x0 x1 x2 x3 x4) (x0 x1 x2 : List Dt) (x3 x4 : Int) : e5 jn m [1, 1, 0, 1, 0, 0, 1, 0, 0, 1, 0, 0, 0, 1] [M1, M4] (s5_5 x0 x1 x2 x3 x4) = ref12_Sort_j5 m rec1 rec4 x0 x1 x2 x3 x4 := by
  have h : ∀ J, e5 J m [1, 1, 0, 1, 0, 0, 1, 0, 0, 1, 0, 0, 0, 1] [M1, M4] (s5_5 x0 x1 x2 x3 x4) =
    (J 1 6 M4 (s5_4 x0 x1 x2 x3 (IntKind.wrap IntKind.i64 (x4 - (1 : Int)))) (l5 J m [1, 1, 0, 1, 0, 0, 1, 0, 0, 1, 0, 0] [M1] M4 (s5_4 x0 x1 x2 x3 (IntKind.wrap IntKind.i64 (x4 - (1 : Int)))))) := fun J => by kernel_rfl
  exact (h jn).trans (by
    simp only [jn_eq, h4]
    rfl)
theorem ref12_Sort_j7_eq (m : Nat) (M1 : Nat) (rec1 : List Dt → List Dt → List Dt → Int → Option (List Dt)) (h1 : ∀ (x0 x1 x2 : List Dt) (x3 : Int), l5 jn m [1, 1, 0, 1, 0] [] M1 (s5_1 x0 x1 x2 x3) = rec1 x0 x1 x2 x3) (x0 x1 x2 : List Dt) (x3 : Int) : e5 jn m [1, 1, 0, 1, 0, 0, 1, 1] [M1] (s5_7 x0 x1 x2 x3) = ref12_Sort_j7 m rec1 x0 x1 x2 x3 := by
  have h : ∀ J, e5 J m [1, 1, 0, 1, 0, 0, 1, 1] [M1] (s5_7 x0 x1 x2 x3) =
    (J 1 3 M1 (s5_1 x0 x1 x2 (IntKind.wrap IntKind.i64 (x3 + (1 : Int)))) (l5 J m [1, 1, 0, 1, 0] [] M1 (s5_1 x0 x1 x2 (IntKind.wrap IntKind.i64 (x3 + (1 : Int)))))) := fun J => by kernel_rfl
  exact (h jn).trans (by
    simp only [jn_eq, h1]
    rfl)
theorem ref12_Sort_j6_eq (m : Nat) (M1 : Nat) (rec1 : List Dt → List Dt → List Dt → Int → Option (List Dt)) (h1 : ∀ (x0 x1 x2 : List Dt) (x3 : Int), l5 jn m [1, 1, 0, 1, 0] [] M1 (s5_1 x0 x1 x2 x3) = rec1 x0 x1 x2 x3) (x0 x1 x2 : List Dt) (x3 x4 : Int) : e5 jn m [1, 1, 0, 1, 0, 0, 1, 0, 0, 1, 1] [M1] (s5_6 x0 x1 x2 x3 x4) = ref12_Sort_j6 m rec1 x0 x1 x2 x3 x4 := by
  have h : ∀ J, e5 J m [1, 1, 0, 1, 0, 0, 1, 0, 0, 1, 1] [M1] (s5_6 x0 x1 x2 x3 x4) =
    ((cutL x2 (0 : Int) x4).bind fun v3 =>
     ((app [] v3).bind fun v4 =>
     ((idx x1 x3).bind fun v5 =>
     ((app v4 [v5]).bind fun v6 =>
     ((cutL x2 x4 (((List.length x2) : Nat) : Int)).bind fun v7 =>
     ((app v6 v7).bind fun v8 =>
     (J 0 4 0 (s5_7 x0 x1 v8 x3) (e5 J m [1, 1, 0, 1, 0, 0, 1, 1] [M1] (s5_7 x0 x1 v8 x3))))))))) := fun J => by kernel_rfl
  exact (h jn).trans (by
    simp only [jn_eq, ref12_Sort_j7_eq m M1 rec1 h1]
    rfl)
theorem ref12_Sort_l4_eq (m : Nat) (M1 : Nat) (rec1 : List Dt → List Dt → List Dt → Int → Option (List Dt)) (h1 : ∀ (x0 x1 x2 : List Dt) (x3 : Int), l5 jn m [1, 1, 0, 1, 0] [] M1 (s5_1 x0 x1 x2 x3) = rec1 x0 x1 x2 x3) : ∀ (M4 : Nat) (x0 x1 x2 : List Dt) (x3 x4 : Int), l5 jn m [1, 1, 0, 1, 0, 0, 1, 0, 0, 1, 0, 0] [M1] M4 (s5_4 x0 x1 x2 x3 x4) = ref12_Sort_l4 m rec1 M4 x0 x1 x2 x3 x4
  | 0, _, _, _, _, _ => rfl
  | M4 + 1, x0, x1, x2, x3, x4 => by
    have h : ∀ J, l5 J m [1, 1, 0, 1, 0, 0, 1, 0, 0, 1, 0, 0] [M1] (M4 + 1) (s5_4 x0 x1 x2 x3 x4) =
    (bif (decide ((0 : Int) < x4)) then
     ((idx x2 (IntKind.wrap IntKind.i64 (x4 - (1 : Int)))).bind fun v0 =>
     ((idx x1 x3).bind fun v1 =>
     ((ref12_Compare m x0 v0 v1).bind fun r2 =>
     (bif (decide ((0 : Int) < r2)) then
     (J 0 7 0 (s5_5 x0 x1 x2 x3 x4) (e5 J m [1, 1, 0, 1, 0, 0, 1, 0, 0, 1, 0, 0, 0, 1] [M1, M4] (s5_5 x0 x1 x2 x3 x4)))
     else
     (J 0 8 0 (s5_6 x0 x1 x2 x3 x4) (e5 J m [1, 1, 0, 1, 0, 0, 1, 0, 0, 1, 1] [M1] (s5_6 x0 x1 x2 x3 x4)))))))
    else
     (J 0 8 0 (s5_6 x0 x1 x2 x3 x4) (e5 J m [1, 1, 0, 1, 0, 0, 1, 0, 0, 1, 1] [M1] (s5_6 x0 x1 x2 x3 x4)))) := fun J => by kernel_rfl
    refine (h jn).trans ?_
    simp only [jn_eq, ref12_Sort_j5_eq m M1 rec1 h1 M4 (ref12_Sort_l4 m rec1 M4) (fun x0 x1 x2 x3 x4 => ref12_Sort_l4_eq m M1 rec1 h1 M4 x0 x1 x2 x3 x4), ref12_Sort_j6_eq m M1 rec1 h1]
    rfl
theorem ref12_Sort_j3_eq (m : Nat) (M1 : Nat) (rec1 : List Dt → List Dt → List Dt → Int → Option (List Dt)) (h1 : ∀ (x0 x1 x2 : List Dt) (x3 : Int), l5 jn m [1, 1, 0, 1, 0] [] M1 (s5_1 x0 x1 x2 x3) = rec1 x0 x1 x2 x3) (x0 x1 x2 : List Dt) (x3 x4 : Int) : e5 jn m [1, 1, 0, 1, 0, 0, 1, 0, 0, 1] [M1] (s5_3 x0 x1 x2 x3 x4) = ref12_Sort_j3 m rec1 x0 x1 x2 x3 x4 := by
  have h : ∀ J, e5 J m [1, 1, 0, 1, 0, 0, 1, 0, 0, 1] [M1] (s5_3 x0 x1 x2 x3 x4) =
    (J 1 6 (Nat.succ m) (s5_4 x0 x1 x2 x3 x4) (l5 J m [1, 1, 0, 1, 0, 0, 1, 0, 0, 1, 0, 0] [M1] (Nat.succ m) (s5_4 x0 x1 x2 x3 x4))) := fun J => by kernel_rfl
  exact (h jn).trans (by
    simp only [jn_eq, ref12_Sort_l4_eq m M1 rec1 h1]
    rfl)
theorem ref12_Sort_j2_eq (m : Nat) (M1 : Nat) (rec1 : List Dt → List Dt → List Dt → Int → Option (List Dt)) (h1 : ∀ (x0 x1 x2 : List Dt) (x3 : Int), l5 jn m [1, 1, 0, 1, 0] [] M1 (s5_1 x0 x1 x2 x3) = rec1 x0 x1 x2 x3) (x0 x1 x2 : List Dt) (x3 : Int) : e5 jn m [1, 1, 0, 1, 0, 0, 1] [M1] (s5_2 x0 x1 x2 x3) = ref12_Sort_j2 m rec1 x0 x1 x2 x3 := by
  have h : ∀ J, e5 J m [1, 1, 0, 1, 0, 0, 1] [M1] (s5_2 x0 x1 x2 x3) =
    (J 0 6 0 (s5_3 x0 x1 x2 x3 (((List.length x2) : Nat) : Int)) (e5 J m [1, 1, 0, 1, 0, 0, 1, 0, 0, 1] [M1] (s5_3 x0 x1 x2 x3 (((List.length x2) : Nat) : Int)))) := fun J => by kernel_rfl
  exact (h jn).trans (by
    simp only [jn_eq, ref12_Sort_j3_eq m M1 rec1 h1]
    rfl)
theorem ref12_Sort_j8_eq (m : Nat) (x0 : List Dt) : e5 jn m [1, 1, 1] [] (s5_8 x0) = ref12_Sort_j8 m x0 := by
  have h : ∀ J, e5 J m [1, 1, 1] [] (s5_8 x0) =
    some x0 := fun J => by kernel_rfl
  exact (h jn).trans (rfl)
theorem ref12_Sort_l1_eq (m : Nat) : ∀ (M1 : Nat) (x0 x1 x2 : List Dt) (x3 : Int), l5 jn m [1, 1, 0, 1, 0] [] M1 (s5_1 x0 x1 x2 x3) = ref12_Sort_l1 m M1 x0 x1 x2 x3
  | 0, _, _, _, _ => rfl
  | M1 + 1, x0, x1, x2, x3 => by
    have h : ∀ J, l5 J m [1, 1, 0, 1, 0] [] (M1 + 1) (s5_1 x0 x1 x2 x3) =
    (bif (decide (x3 < (((List.length x1) : Nat) : Int))) then
     (J 0 5 0 (s5_2 x0 x1 x2 x3) (e5 J m [1, 1, 0, 1, 0, 0, 1] [M1] (s5_2 x0 x1 x2 x3)))
    else
     (J 0 13 0 (s5_8 x2) (e5 J m [1, 1, 1] [] (s5_8 x2)))) := fun J => by kernel_rfl
    refine (h jn).trans ?_
    simp only [jn_eq, ref12_Sort_j2_eq m M1 (ref12_Sort_l1 m M1) (fun x0 x1 x2 x3 => ref12_Sort_l1_eq m M1 x0 x1 x2 x3), ref12_Sort_j8_eq m]
    rfl
theorem ref12_Sort_j0_eq (m : Nat) (x0 x1 x2 : List Dt) (x3 : Int) : e5 jn m [1, 1, 0, 1] [] (s5_0 x0 x1 x2 x3) = ref12_Sort_j0 m x0 x1 x2 x3 := by
  have h : ∀ J, e5 J m [1, 1, 0, 1] [] (s5_0 x0 x1 x2 x3) =
    (J 1 3 (Nat.succ m) (s5_1 x0 x1 x2 x3) (l5 J m [1, 1, 0, 1, 0] [] (Nat.succ m) (s5_1 x0 x1 x2 x3))) := fun J => by kernel_rfl
  exact (h jn).trans (by
    simp only [jn_eq, ref12_Sort_l1_eq m]
    rfl)
theorem ref12_Sort_eq (m : Nat) (a0 a1 : List Dt) : e5 jn m [] [] ⟨[(.dat 22 (.lst a0)), (.dat 27 (.lst a1))], [], 0⟩ = ref12_Sort (m + 1) a0 a1 := by
  have h : ∀ J, e5 J m [] [] ⟨[(.dat 22 (.lst a0)), (.dat 27 (.lst a1))], [], 0⟩ =
    (J 0 3 0 (s5_0 a0 a1 [] (0 : Int)) (e5 J m [1, 1, 0, 1] [] (s5_0 a0 a1 [] (0 : Int)))) := fun J => by kernel_rfl
  refine (h jn).trans ?_
  simp only [jn_eq, ref12_Sort_j0_eq m]
  rfl
noncomputable def d8 (q : Res) : Option (List Dt) := match q with
  | (.dat T0 x0, []) => bif Nat.beq T0 27 then some x0.toLst else none
  | _ => none
theorem d8_sim {b : Res} {r : List Dt} (h : d8 b = some r) : Sim Tryd.prog b ((.dat 27 (.lst r)), []) := by
  unfold d8 at h
  split at h
  · obtain ⟨hc, h2⟩ := bif_some h
    cases h2
    have e0 := beq_eq hc
    subst e0
    exact Sim.of (.of (.dat (.lst Tryd.underlying27)) rfl rfl) .nil
  · cases h
noncomputable def e8 (J : Nat → Nat → Nat → St → Option (List Dt) → Option (List Dt)) (m : Nat) (p ms : List Nat) (σ : St) := evAt Tryd.prog env (ct m) J (m + 1) 25 18 Tryd.f25 d8 p ms σ
noncomputable def l8 (J : Nat → Nat → Nat → St → Option (List Dt) → Option (List Dt)) (m : Nat) (p ms : List Nat) (M : Nat) (σ : St) := loopAt Tryd.prog env (ct m) J (m + 1) 25 18 Tryd.f25 d8 p ms M σ
theorem ref12_Top_eq (m : Nat) (a0 a1 : List Dt) (a2 : Int) : e8 jn m [] [] ⟨[(.dat 22 (.lst a0)), (.dat 27 (.lst a1)), (.dat 3 (.int a2))], [], 0⟩ = ref12_Top (m + 1) a0 a1 a2 := by
  have h : ∀ J, e8 J m [] [] ⟨[(.dat 22 (.lst a0)), (.dat 27 (.lst a1)), (.dat 3 (.int a2))], [], 0⟩ =
    ((ref12_Sort m a0 a1).bind fun r0 =>
     ((cutL r0 (0 : Int) (bif (decide ((((List.length r0) : Nat) : Int) < (bif (decide (a2 < (0 : Int))) then (0 : Int) else a2))) then (((List.length r0) : Nat) : Int) else (bif (decide (a2 < (0 : Int))) then (0 : Int) else a2))).bind fun v1 =>
     some v1)) := fun J => by kernel_rfl
  refine (h jn).trans ?_
  
  rfl
noncomputable def d0 (q : Res) : Option (Bool) := match q with
  | (.dat T0 x0, []) => bif Nat.beq T0 4 then some x0.toBool else none
  | _ => none
theorem d0_sim {b : Res} {r : Bool} (h : d0 b = some r) : Sim Tryd.prog b ((.dat 4 (.bool r)), []) := by
  unfold d0 at h
  split at h
  · obtain ⟨hc, h2⟩ := bif_some h
    cases h2
    have e0 := beq_eq hc
    subst e0
    exact Sim.of (.of (.dat (.bool Tryd.underlying4)) rfl rfl) .nil
  · cases h
noncomputable def e0 (J : Nat → Nat → Nat → St → Option (Bool) → Option (Bool)) (m : Nat) (p ms : List Nat) (σ : St) := evAt Tryd.prog env (ct m) J (m + 1) 6 33 Tryd.f6 d0 p ms σ
noncomputable def l0 (J : Nat → Nat → Nat → St → Option (Bool) → Option (Bool)) (m : Nat) (p ms : List Nat) (M : Nat) (σ : St) := loopAt Tryd.prog env (ct m) J (m + 1) 6 33 Tryd.f6 d0 p ms M σ
noncomputable def s0_0 (x0 x1 : List Dt) (x2 : Int) : St := ⟨tsOf [(0, (.dat 22 (.lst x0))), (1, (.dat 27 (.lst x1))), (2, (.dat 3 (.int x2)))], [], 0⟩
theorem law12_OrderSort_j0_eq (m : Nat) (x0 x1 : List Dt) (x2 : Int) : e0 jn m [1, 1] [] (s0_0 x0 x1 x2) = law12_OrderSort_j0 m x0 x1 x2 := by
  have h : ∀ J, e0 J m [1, 1] [] (s0_0 x0 x1 x2) =
    ((order_Sort m x0 x1).bind fun r2 =>
     ((ref12_Sort m x0 x1).bind fun r3 =>
     ((law03_SameList m r2 r3).bind fun r4 =>
     (bif r4 then
     ((order_Top m x0 x1 x2).bind fun r5 =>
     ((ref12_Top m x0 x1 x2).bind fun r6 =>
     ((law03_SameList m r5 r6).bind fun r7 =>
     (bif r7 then
     ((awakeC).bind fun r8 =>
     some r8)
     else
     some Bool.false))))
     else
     some Bool.false)))) := fun J => by kernel_rfl
  exact (h jn).trans (rfl)
theorem law12_OrderSort_eq (m : Nat) (a0 a1 : List Dt) (a2 : Int) : e0 jn m [] [] ⟨[(.dat 22 (.lst a0)), (.dat 27 (.lst a1)), (.dat 3 (.int a2))], [], 0⟩ = law12_OrderSort (m + 1) a0 a1 a2 := by
  have h : ∀ J, e0 J m [] [] ⟨[(.dat 22 (.lst a0)), (.dat 27 (.lst a1)), (.dat 3 (.int a2))], [], 0⟩ =
    ((law12_Small m a0 a1).bind fun r0 =>
     (bif (Bool.not r0) then
     ((awakeC).bind fun r1 =>
     some r1)
     else
     (J 0 3 0 (s0_0 a0 a1 a2) (e0 J m [1, 1] [] (s0_0 a0 a1 a2))))) := fun J => by kernel_rfl
  refine (h jn).trans ?_
  simp only [jn_eq, law12_OrderSort_j0_eq m]
  rfl
end Go.Proofs.YtacchdeihafmnaaDoor
