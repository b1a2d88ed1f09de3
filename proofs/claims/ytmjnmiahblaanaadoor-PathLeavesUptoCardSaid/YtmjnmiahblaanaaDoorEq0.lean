/- Generated: each function's run in the abstract machine is its shallow function. -/
import Derived.Test.YtmjnmiahblaanaaDoorCt
import Derived.Test.YtmjnmiahblaanaaDoorAmEnv
import Derived.KernelRfl
set_option linter.unusedVariables false
set_option linter.unusedSimpArgs false
namespace Go.Proofs.YtmjnmiahblaanaaDoor
open Go.Am
set_option maxRecDepth 100000
noncomputable def d10 (q : Res) : Option (ByteArray) := match q with
  | (.dat T0 x0, []) => bif Nat.beq T0 9 then some x0.toStr else none
  | _ => none
theorem d10_sim {b : Res} {r : ByteArray} (h : d10 b = some r) : Sim Tryd.prog b ((.dat 9 (.str r)), []) := by
  unfold d10 at h
  split at h
  · obtain ⟨hc, h2⟩ := bif_some h
    cases h2
    have e0 := beq_eq hc
    subst e0
    exact Sim.of (.of (.dat (.str Tryd.underlying9)) rfl rfl) .nil
  · cases h
noncomputable def e10 (J : Nat → Nat → Nat → St → Option (ByteArray) → Option (ByteArray)) (m : Nat) (p ms : List Nat) (σ : St) := evAt Tryd.prog env (ct m) J (m + 1) 16 5 Tryd.f16 d10 p ms σ
noncomputable def l10 (J : Nat → Nat → Nat → St → Option (ByteArray) → Option (ByteArray)) (m : Nat) (p ms : List Nat) (M : Nat) (σ : St) := loopAt Tryd.prog env (ct m) J (m + 1) 16 5 Tryd.f16 d10 p ms M σ
theorem path_Text_eq (m : Nat) (a0 : List Dt) : e10 jn m [] [] ⟨[(.dat 23 (.lst a0))], [], 0⟩ = path_Text (m + 1) a0 := by
  have h : ∀ J, e10 J m [] [] ⟨[(.dat 23 (.lst a0))], [], 0⟩ =
    ((strings_Join a0 (ByteArray.mk (List.toArray [(46 : UInt8)]))).bind fun r0 =>
      some r0) := fun J => by kernel_rfl
  refine (h jn).trans ?_
  
  rfl
noncomputable def d13 (q : Res) : Option (ByteArray) := match q with
  | (.dat T0 x0, []) => bif Nat.beq T0 9 then some x0.toStr else none
  | _ => none
theorem d13_sim {b : Res} {r : ByteArray} (h : d13 b = some r) : Sim Tryd.prog b ((.dat 9 (.str r)), []) := by
  unfold d13 at h
  split at h
  · obtain ⟨hc, h2⟩ := bif_some h
    cases h2
    have e0 := beq_eq hc
    subst e0
    exact Sim.of (.of (.dat (.str Tryd.underlying9)) rfl rfl) .nil
  · cases h
noncomputable def e13 (J : Nat → Nat → Nat → St → Option (ByteArray) → Option (ByteArray)) (m : Nat) (p ms : List Nat) (σ : St) := evAt Tryd.prog env (ct m) J (m + 1) 19 22 Tryd.f19 d13 p ms σ
noncomputable def l13 (J : Nat → Nat → Nat → St → Option (ByteArray) → Option (ByteArray)) (m : Nat) (p ms : List Nat) (M : Nat) (σ : St) := loopAt Tryd.prog env (ct m) J (m + 1) 19 22 Tryd.f19 d13 p ms M σ
theorem ref04_Text_j4_eq (m : Nat) (M1 : Nat) (rec1 : List Dt → ByteArray → Int → Option (ByteArray)) (h1 : ∀ (x0 : List Dt) (x1 : ByteArray) (x2 : Int), l13 jn m [1, 1, 0, 1, 0] [] M1 ⟨tsOf [(0, (.dat 23 (.lst x0))), (3, (.dat 9 (.str x1))), (4, (.dat 3 (.int x2)))], [], 0⟩ = rec1 x0 x1 x2) (x0 : List Dt) (x1 : ByteArray) (x2 : Int) : e13 jn m [1, 1, 0, 1, 0, 0, 1, 1] [M1] ⟨tsOf [(0, (.dat 23 (.lst x0))), (3, (.dat 9 (.str x1))), (4, (.dat 3 (.int x2)))], [], 0⟩ = ref04_Text_j4 m rec1 x0 x1 x2 := by
  have h : ∀ J, e13 J m [1, 1, 0, 1, 0, 0, 1, 1] [M1] ⟨tsOf [(0, (.dat 23 (.lst x0))), (3, (.dat 9 (.str x1))), (4, (.dat 3 (.int x2)))], [], 0⟩ =
    (J 1 3 M1 ⟨tsOf [(0, (.dat 23 (.lst x0))), (3, (.dat 9 (.str x1))), (4, (.dat 3 (.int (IntKind.wrap IntKind.i64 (x2 + (1 : Int))))))], [], 0⟩ (l13 J m [1, 1, 0, 1, 0] [] M1 ⟨tsOf [(0, (.dat 23 (.lst x0))), (3, (.dat 9 (.str x1))), (4, (.dat 3 (.int (IntKind.wrap IntKind.i64 (x2 + (1 : Int))))))], [], 0⟩)) := fun J => by kernel_rfl
  exact (h jn).trans (by
    simp only [jn_eq, h1]
    rfl)
theorem ref04_Text_j3_eq (m : Nat) (M1 : Nat) (rec1 : List Dt → ByteArray → Int → Option (ByteArray)) (h1 : ∀ (x0 : List Dt) (x1 : ByteArray) (x2 : Int), l13 jn m [1, 1, 0, 1, 0] [] M1 ⟨tsOf [(0, (.dat 23 (.lst x0))), (3, (.dat 9 (.str x1))), (4, (.dat 3 (.int x2)))], [], 0⟩ = rec1 x0 x1 x2) (x0 : List Dt) (x1 : ByteArray) (x2 : Int) : e13 jn m [1, 1, 0, 1, 0, 0, 1, 0, 0, 1] [M1] ⟨tsOf [(0, (.dat 23 (.lst x0))), (3, (.dat 9 (.str x1))), (4, (.dat 3 (.int x2)))], [], 0⟩ = ref04_Text_j3 m rec1 x0 x1 x2 := by
  have h : ∀ J, e13 J m [1, 1, 0, 1, 0, 0, 1, 0, 0, 1] [M1] ⟨tsOf [(0, (.dat 23 (.lst x0))), (3, (.dat 9 (.str x1))), (4, (.dat 3 (.int x2)))], [], 0⟩ =
    ((idx x0 x2).bind fun v0 =>
      (bif (Nat.ble ((ByteArray.size x1) + (ByteArray.size (Dt.toStr v0))) 1152921504606846976) then
        (J 0 4 0 ⟨tsOf [(0, (.dat 23 (.lst x0))), (3, (.dat 9 (.str (x1 ++ (Dt.toStr v0))))), (4, (.dat 3 (.int x2)))], [], 0⟩ (e13 J m [1, 1, 0, 1, 0, 0, 1, 1] [M1] ⟨tsOf [(0, (.dat 23 (.lst x0))), (3, (.dat 9 (.str (x1 ++ (Dt.toStr v0))))), (4, (.dat 3 (.int x2)))], [], 0⟩))
      else
        none)) := fun J => by kernel_rfl
  exact (h jn).trans (by
    simp only [jn_eq, ref04_Text_j4_eq m M1 rec1 h1]
    rfl)
theorem ref04_Text_j2_eq (m : Nat) (M1 : Nat) (rec1 : List Dt → ByteArray → Int → Option (ByteArray)) (h1 : ∀ (x0 : List Dt) (x1 : ByteArray) (x2 : Int), l13 jn m [1, 1, 0, 1, 0] [] M1 ⟨tsOf [(0, (.dat 23 (.lst x0))), (3, (.dat 9 (.str x1))), (4, (.dat 3 (.int x2)))], [], 0⟩ = rec1 x0 x1 x2) (x0 : List Dt) (x1 : ByteArray) (x2 : Int) : e13 jn m [1, 1, 0, 1, 0, 0, 1] [M1] ⟨tsOf [(0, (.dat 23 (.lst x0))), (3, (.dat 9 (.str x1))), (4, (.dat 3 (.int x2)))], [], 0⟩ = ref04_Text_j2 m rec1 x0 x1 x2 := by
  have h : ∀ J, e13 J m [1, 1, 0, 1, 0, 0, 1] [M1] ⟨tsOf [(0, (.dat 23 (.lst x0))), (3, (.dat 9 (.str x1))), (4, (.dat 3 (.int x2)))], [], 0⟩ =
    (bif (decide ((0 : Int) < x2)) then
      (bif (Nat.ble ((ByteArray.size x1) + 1) 1152921504606846976) then
        (J 0 7 0 ⟨tsOf [(0, (.dat 23 (.lst x0))), (3, (.dat 9 (.str (x1 ++ (ByteArray.mk (List.toArray [(46 : UInt8)])))))), (4, (.dat 3 (.int x2)))], [], 0⟩ (e13 J m [1, 1, 0, 1, 0, 0, 1, 0, 0, 1] [M1] ⟨tsOf [(0, (.dat 23 (.lst x0))), (3, (.dat 9 (.str (x1 ++ (ByteArray.mk (List.toArray [(46 : UInt8)])))))), (4, (.dat 3 (.int x2)))], [], 0⟩))
      else
        none)
    else
      (J 0 7 0 ⟨tsOf [(0, (.dat 23 (.lst x0))), (3, (.dat 9 (.str x1))), (4, (.dat 3 (.int x2)))], [], 0⟩ (e13 J m [1, 1, 0, 1, 0, 0, 1, 0, 0, 1] [M1] ⟨tsOf [(0, (.dat 23 (.lst x0))), (3, (.dat 9 (.str x1))), (4, (.dat 3 (.int x2)))], [], 0⟩))) := fun J => by kernel_rfl
  exact (h jn).trans (by
    simp only [jn_eq, ref04_Text_j3_eq m M1 rec1 h1]
    rfl)
theorem ref04_Text_j5_eq (m : Nat) (x0 : ByteArray) : e13 jn m [1, 1, 1] [] ⟨tsOf [(3, (.dat 9 (.str x0)))], [], 0⟩ = ref04_Text_j5 m x0 := by
  have h : ∀ J, e13 J m [1, 1, 1] [] ⟨tsOf [(3, (.dat 9 (.str x0)))], [], 0⟩ =
    some x0 := fun J => by kernel_rfl
  exact (h jn).trans (rfl)
theorem ref04_Text_l1_eq (m : Nat) : ∀ (M1 : Nat) (x0 : List Dt) (x1 : ByteArray) (x2 : Int), l13 jn m [1, 1, 0, 1, 0] [] M1 ⟨tsOf [(0, (.dat 23 (.lst x0))), (3, (.dat 9 (.str x1))), (4, (.dat 3 (.int x2)))], [], 0⟩ = ref04_Text_l1 m M1 x0 x1 x2
  | 0, _, _, _ => rfl
  | M1 + 1, x0, x1, x2 => by
    have h : ∀ J, l13 J m [1, 1, 0, 1, 0] [] (M1 + 1) ⟨tsOf [(0, (.dat 23 (.lst x0))), (3, (.dat 9 (.str x1))), (4, (.dat 3 (.int x2)))], [], 0⟩ =
    (bif (decide (x2 < (((List.length x0) : Nat) : Int))) then
      (J 0 5 0 ⟨tsOf [(0, (.dat 23 (.lst x0))), (3, (.dat 9 (.str x1))), (4, (.dat 3 (.int x2)))], [], 0⟩ (e13 J m [1, 1, 0, 1, 0, 0, 1] [M1] ⟨tsOf [(0, (.dat 23 (.lst x0))), (3, (.dat 9 (.str x1))), (4, (.dat 3 (.int x2)))], [], 0⟩))
    else
      (J 0 8 0 ⟨tsOf [(3, (.dat 9 (.str x1)))], [], 0⟩ (e13 J m [1, 1, 1] [] ⟨tsOf [(3, (.dat 9 (.str x1)))], [], 0⟩))) := fun J => by kernel_rfl
    refine (h jn).trans ?_
    simp only [jn_eq, ref04_Text_j2_eq m M1 (ref04_Text_l1 m M1) (fun x0 x1 x2 => ref04_Text_l1_eq m M1 x0 x1 x2), ref04_Text_j5_eq m]
    rfl
theorem ref04_Text_j0_eq (m : Nat) (x0 : List Dt) (x1 : ByteArray) (x2 : Int) : e13 jn m [1, 1, 0, 1] [] ⟨tsOf [(0, (.dat 23 (.lst x0))), (3, (.dat 9 (.str x1))), (4, (.dat 3 (.int x2)))], [], 0⟩ = ref04_Text_j0 m x0 x1 x2 := by
  have h : ∀ J, e13 J m [1, 1, 0, 1] [] ⟨tsOf [(0, (.dat 23 (.lst x0))), (3, (.dat 9 (.str x1))), (4, (.dat 3 (.int x2)))], [], 0⟩ =
    (J 1 3 (Nat.succ m) ⟨tsOf [(0, (.dat 23 (.lst x0))), (3, (.dat 9 (.str x1))), (4, (.dat 3 (.int x2)))], [], 0⟩ (l13 J m [1, 1, 0, 1, 0] [] (Nat.succ m) ⟨tsOf [(0, (.dat 23 (.lst x0))), (3, (.dat 9 (.str x1))), (4, (.dat 3 (.int x2)))], [], 0⟩)) := fun J => by kernel_rfl
  exact (h jn).trans (by
    simp only [jn_eq, ref04_Text_l1_eq m]
    rfl)
theorem ref04_Text_eq (m : Nat) (a0 : List Dt) : e13 jn m [] [] ⟨[(.dat 23 (.lst a0))], [], 0⟩ = ref04_Text (m + 1) a0 := by
  have h : ∀ J, e13 J m [] [] ⟨[(.dat 23 (.lst a0))], [], 0⟩ =
    (J 0 3 0 ⟨tsOf [(0, (.dat 23 (.lst a0))), (3, (.dat 9 (.str (ByteArray.mk (List.toArray []))))), (4, (.dat 3 (.int (0 : Int))))], [], 0⟩ (e13 J m [1, 1, 0, 1] [] ⟨tsOf [(0, (.dat 23 (.lst a0))), (3, (.dat 9 (.str (ByteArray.mk (List.toArray []))))), (4, (.dat 3 (.int (0 : Int))))], [], 0⟩)) := fun J => by kernel_rfl
  refine (h jn).trans ?_
  simp only [jn_eq, ref04_Text_j0_eq m]
  rfl
noncomputable def d14 (q : Res) : Option (Int × Bool) := match q with
  | (.tup [.dat T0 x0, .dat T1 x1], []) => bif (Nat.beq T0 3 && Nat.beq T1 4) then some (x0.toInt, x1.toBool) else none
  | _ => none
theorem d14_sim {b : Res} {r : Int × Bool} (h : d14 b = some r) : Sim Tryd.prog b ((.tup [(.dat 3 (.int r.1)), (.dat 4 (.bool r.2))]), []) := by
  unfold d14 at h
  split at h
  · obtain ⟨hc, h2⟩ := bif_some h
    cases h2
    have e0 := beq_eq (and_l hc)
    have e1 := beq_eq (and_r hc)
    subst e0 e1
    exact Sim.of (.tup (.cons (.dat (.int Tryd.underlying3)) (.cons (.dat (.bool Tryd.underlying4)) .nil))) .nil
  · cases h
noncomputable def e14 (J : Nat → Nat → Nat → St → Option (Int × Bool) → Option (Int × Bool)) (m : Nat) (p ms : List Nat) (σ : St) := evAt Tryd.prog env (ct m) J (m + 1) 20 49 Tryd.f20 d14 p ms σ
noncomputable def l14 (J : Nat → Nat → Nat → St → Option (Int × Bool) → Option (Int × Bool)) (m : Nat) (p ms : List Nat) (M : Nat) (σ : St) := loopAt Tryd.prog env (ct m) J (m + 1) 20 49 Tryd.f20 d14 p ms M σ
theorem path_Number_j5_eq (m : Nat) (M2 : Nat) (rec2 : ByteArray → Int → Int → Int → Option (Int × Bool)) (h2 : ∀ (x0 : ByteArray) (x1 : Int) (x2 : Int) (x3 : Int), l14 jn m [1, 1, 1, 0, 1, 0] [] M2 ⟨tsOf [(0, (.dat 9 (.str x0))), (4, (.dat 3 (.int x1))), (25, (.dat 3 (.int x2))), (26, (.dat 3 (.int x3)))], [], 0⟩ = rec2 x0 x1 x2 x3) (x0 : ByteArray) (x1 : Int) (x2 : Int) (x3 : Int) : e14 jn m [1, 1, 1, 0, 1, 0, 0, 1, 1, 1] [M2] ⟨tsOf [(0, (.dat 9 (.str x0))), (4, (.dat 3 (.int x1))), (25, (.dat 3 (.int x2))), (26, (.dat 3 (.int x3)))], [], 0⟩ = path_Number_j5 m rec2 x0 x1 x2 x3 := by
  have h : ∀ J, e14 J m [1, 1, 1, 0, 1, 0, 0, 1, 1, 1] [M2] ⟨tsOf [(0, (.dat 9 (.str x0))), (4, (.dat 3 (.int x1))), (25, (.dat 3 (.int x2))), (26, (.dat 3 (.int x3)))], [], 0⟩ =
    (J 1 5 M2 ⟨tsOf [(0, (.dat 9 (.str x0))), (4, (.dat 3 (.int x1))), (25, (.dat 3 (.int x2))), (26, (.dat 3 (.int (IntKind.wrap IntKind.i64 (x3 + (1 : Int))))))], [], 0⟩ (l14 J m [1, 1, 1, 0, 1, 0] [] M2 ⟨tsOf [(0, (.dat 9 (.str x0))), (4, (.dat 3 (.int x1))), (25, (.dat 3 (.int x2))), (26, (.dat 3 (.int (IntKind.wrap IntKind.i64 (x3 + (1 : Int))))))], [], 0⟩)) := fun J => by kernel_rfl
  exact (h jn).trans (by
    simp only [jn_eq, h2]
    rfl)
theorem path_Number_j4_eq (m : Nat) (M2 : Nat) (rec2 : ByteArray → Int → Int → Int → Option (Int × Bool)) (h2 : ∀ (x0 : ByteArray) (x1 : Int) (x2 : Int) (x3 : Int), l14 jn m [1, 1, 1, 0, 1, 0] [] M2 ⟨tsOf [(0, (.dat 9 (.str x0))), (4, (.dat 3 (.int x1))), (25, (.dat 3 (.int x2))), (26, (.dat 3 (.int x3)))], [], 0⟩ = rec2 x0 x1 x2 x3) (x0 : ByteArray) (x1 : Int) (x2 : Int) (x3 : Int) (x4 : Int) : e14 jn m [1, 1, 1, 0, 1, 0, 0, 1, 1, 0, 0, 1, 1] [M2] ⟨tsOf [(0, (.dat 9 (.str x0))), (4, (.dat 3 (.int x1))), (5, (.dat 3 (.int x2))), (25, (.dat 3 (.int x3))), (26, (.dat 3 (.int x4)))], [], 0⟩ = path_Number_j4 m rec2 x0 x1 x2 x3 x4 := by
  have h : ∀ J, e14 J m [1, 1, 1, 0, 1, 0, 0, 1, 1, 0, 0, 1, 1] [M2] ⟨tsOf [(0, (.dat 9 (.str x0))), (4, (.dat 3 (.int x1))), (5, (.dat 3 (.int x2))), (25, (.dat 3 (.int x3))), (26, (.dat 3 (.int x4)))], [], 0⟩ =
    ((idxS x0 x2).bind fun v3 =>
      (J 0 10 0 ⟨tsOf [(0, (.dat 9 (.str x0))), (4, (.dat 3 (.int (IntKind.wrap IntKind.i64 ((IntKind.wrap IntKind.i64 ((10 : Int) * x1)) + (IntKind.wrap IntKind.i64 (IntKind.wrap IntKind.u8 (v3 - (48 : Int))))))))), (25, (.dat 3 (.int x3))), (26, (.dat 3 (.int x4)))], [], 0⟩ (e14 J m [1, 1, 1, 0, 1, 0, 0, 1, 1, 1] [M2] ⟨tsOf [(0, (.dat 9 (.str x0))), (4, (.dat 3 (.int (IntKind.wrap IntKind.i64 ((IntKind.wrap IntKind.i64 ((10 : Int) * x1)) + (IntKind.wrap IntKind.i64 (IntKind.wrap IntKind.u8 (v3 - (48 : Int))))))))), (25, (.dat 3 (.int x3))), (26, (.dat 3 (.int x4)))], [], 0⟩))) := fun J => by kernel_rfl
  exact (h jn).trans (by
    simp only [jn_eq, path_Number_j5_eq m M2 rec2 h2]
    rfl)
theorem path_Number_j3_eq (m : Nat) (M2 : Nat) (rec2 : ByteArray → Int → Int → Int → Option (Int × Bool)) (h2 : ∀ (x0 : ByteArray) (x1 : Int) (x2 : Int) (x3 : Int), l14 jn m [1, 1, 1, 0, 1, 0] [] M2 ⟨tsOf [(0, (.dat 9 (.str x0))), (4, (.dat 3 (.int x1))), (25, (.dat 3 (.int x2))), (26, (.dat 3 (.int x3)))], [], 0⟩ = rec2 x0 x1 x2 x3) (x0 : ByteArray) (x1 : Int) (x2 : Int) (x3 : Int) : e14 jn m [1, 1, 1, 0, 1, 0, 0, 1, 1] [M2] ⟨tsOf [(0, (.dat 9 (.str x0))), (4, (.dat 3 (.int x1))), (25, (.dat 3 (.int x2))), (26, (.dat 3 (.int x3)))], [], 0⟩ = path_Number_j3 m rec2 x0 x1 x2 x3 := by
  have h : ∀ J, e14 J m [1, 1, 1, 0, 1, 0, 0, 1, 1] [M2] ⟨tsOf [(0, (.dat 9 (.str x0))), (4, (.dat 3 (.int x1))), (25, (.dat 3 (.int x2))), (26, (.dat 3 (.int x3)))], [], 0⟩ =
    ((idxS x0 x3).bind fun v1 =>
      (bif (decide (v1 < (48 : Int))) then
        some ((0 : Int), Bool.false)
      else
        ((idxS x0 x3).bind fun v2 =>
          (bif (decide ((57 : Int) < v2)) then
            some ((0 : Int), Bool.false)
          else
            (J 0 9 0 ⟨tsOf [(0, (.dat 9 (.str x0))), (4, (.dat 3 (.int x1))), (5, (.dat 3 (.int x3))), (25, (.dat 3 (.int x2))), (26, (.dat 3 (.int x3)))], [], 0⟩ (e14 J m [1, 1, 1, 0, 1, 0, 0, 1, 1, 0, 0, 1, 1] [M2] ⟨tsOf [(0, (.dat 9 (.str x0))), (4, (.dat 3 (.int x1))), (5, (.dat 3 (.int x3))), (25, (.dat 3 (.int x2))), (26, (.dat 3 (.int x3)))], [], 0⟩)))))) := fun J => by kernel_rfl
  exact (h jn).trans (by
    simp only [jn_eq, path_Number_j4_eq m M2 rec2 h2]
    rfl)
theorem path_Number_j6_eq (m : Nat) (x0 : Int) : e14 jn m [1, 1, 1, 1] [] ⟨tsOf [(4, (.dat 3 (.int x0)))], [], 0⟩ = path_Number_j6 m x0 := by
  have h : ∀ J, e14 J m [1, 1, 1, 1] [] ⟨tsOf [(4, (.dat 3 (.int x0)))], [], 0⟩ =
    some (x0, Bool.true) := fun J => by kernel_rfl
  exact (h jn).trans (rfl)
theorem path_Number_l2_eq (m : Nat) : ∀ (M2 : Nat) (x0 : ByteArray) (x1 : Int) (x2 : Int) (x3 : Int), l14 jn m [1, 1, 1, 0, 1, 0] [] M2 ⟨tsOf [(0, (.dat 9 (.str x0))), (4, (.dat 3 (.int x1))), (25, (.dat 3 (.int x2))), (26, (.dat 3 (.int x3)))], [], 0⟩ = path_Number_l2 m M2 x0 x1 x2 x3
  | 0, _, _, _, _ => rfl
  | M2 + 1, x0, x1, x2, x3 => by
    have h : ∀ J, l14 J m [1, 1, 1, 0, 1, 0] [] (M2 + 1) ⟨tsOf [(0, (.dat 9 (.str x0))), (4, (.dat 3 (.int x1))), (25, (.dat 3 (.int x2))), (26, (.dat 3 (.int x3)))], [], 0⟩ =
    (bif (decide (x3 < x2)) then
      (J 0 6 0 ⟨tsOf [(0, (.dat 9 (.str x0))), (4, (.dat 3 (.int x1))), (25, (.dat 3 (.int x2))), (26, (.dat 3 (.int x3)))], [], 0⟩ (e14 J m [1, 1, 1, 0, 1, 0, 0, 1, 1] [M2] ⟨tsOf [(0, (.dat 9 (.str x0))), (4, (.dat 3 (.int x1))), (25, (.dat 3 (.int x2))), (26, (.dat 3 (.int x3)))], [], 0⟩))
    else
      (J 0 11 0 ⟨tsOf [(4, (.dat 3 (.int x1)))], [], 0⟩ (e14 J m [1, 1, 1, 1] [] ⟨tsOf [(4, (.dat 3 (.int x1)))], [], 0⟩))) := fun J => by kernel_rfl
    refine (h jn).trans ?_
    simp only [jn_eq, path_Number_j3_eq m M2 (path_Number_l2 m M2) (fun x0 x1 x2 x3 => path_Number_l2_eq m M2 x0 x1 x2 x3), path_Number_j6_eq m]
    rfl
theorem path_Number_j1_eq (m : Nat) (x0 : ByteArray) (x1 : Int) (x2 : Int) (x3 : Int) : e14 jn m [1, 1, 1, 0, 1] [] ⟨tsOf [(0, (.dat 9 (.str x0))), (4, (.dat 3 (.int x1))), (25, (.dat 3 (.int x2))), (26, (.dat 3 (.int x3)))], [], 0⟩ = path_Number_j1 m x0 x1 x2 x3 := by
  have h : ∀ J, e14 J m [1, 1, 1, 0, 1] [] ⟨tsOf [(0, (.dat 9 (.str x0))), (4, (.dat 3 (.int x1))), (25, (.dat 3 (.int x2))), (26, (.dat 3 (.int x3)))], [], 0⟩ =
    (J 1 5 (Nat.succ m) ⟨tsOf [(0, (.dat 9 (.str x0))), (4, (.dat 3 (.int x1))), (25, (.dat 3 (.int x2))), (26, (.dat 3 (.int x3)))], [], 0⟩ (l14 J m [1, 1, 1, 0, 1, 0] [] (Nat.succ m) ⟨tsOf [(0, (.dat 9 (.str x0))), (4, (.dat 3 (.int x1))), (25, (.dat 3 (.int x2))), (26, (.dat 3 (.int x3)))], [], 0⟩)) := fun J => by kernel_rfl
  exact (h jn).trans (by
    simp only [jn_eq, path_Number_l2_eq m]
    rfl)
theorem path_Number_j0_eq (m : Nat) (x0 : ByteArray) : e14 jn m [1, 1] [] ⟨tsOf [(0, (.dat 9 (.str x0)))], [], 0⟩ = path_Number_j0 m x0 := by
  have h : ∀ J, e14 J m [1, 1] [] ⟨tsOf [(0, (.dat 9 (.str x0)))], [], 0⟩ =
    (J 0 5 0 ⟨tsOf [(0, (.dat 9 (.str x0))), (4, (.dat 3 (.int (0 : Int)))), (25, (.dat 3 (.int (((ByteArray.size x0) : Nat) : Int)))), (26, (.dat 3 (.int (0 : Int))))], [], 0⟩ (e14 J m [1, 1, 1, 0, 1] [] ⟨tsOf [(0, (.dat 9 (.str x0))), (4, (.dat 3 (.int (0 : Int)))), (25, (.dat 3 (.int (((ByteArray.size x0) : Nat) : Int)))), (26, (.dat 3 (.int (0 : Int))))], [], 0⟩)) := fun J => by kernel_rfl
  exact (h jn).trans (by
    simp only [jn_eq, path_Number_j1_eq m]
    rfl)
theorem path_Number_eq (m : Nat) (a0 : ByteArray) : e14 jn m [] [] ⟨[(.dat 9 (.str a0))], [], 0⟩ = path_Number (m + 1) a0 := by
  have h : ∀ J, e14 J m [] [] ⟨[(.dat 9 (.str a0))], [], 0⟩ =
    (bif (decide ((((ByteArray.size a0) : Nat) : Int) < (1 : Int))) then
      some ((0 : Int), Bool.false)
    else
      (bif (decide ((4 : Int) < (((ByteArray.size a0) : Nat) : Int))) then
        some ((0 : Int), Bool.false)
      else
        ((idxS a0 (0 : Int)).bind fun v0 =>
          (bif (v0 == (48 : Int)) then
            (bif (decide ((1 : Int) < (((ByteArray.size a0) : Nat) : Int))) then
              some ((0 : Int), Bool.false)
            else
              (J 0 3 0 ⟨tsOf [(0, (.dat 9 (.str a0)))], [], 0⟩ (e14 J m [1, 1] [] ⟨tsOf [(0, (.dat 9 (.str a0)))], [], 0⟩)))
          else
            (J 0 3 0 ⟨tsOf [(0, (.dat 9 (.str a0)))], [], 0⟩ (e14 J m [1, 1] [] ⟨tsOf [(0, (.dat 9 (.str a0)))], [], 0⟩)))))) := fun J => by kernel_rfl
  refine (h jn).trans ?_
  simp only [jn_eq, path_Number_j0_eq m]
  rfl
noncomputable def d15 (q : Res) : Option (Int × Bool) := match q with
  | (.tup [.dat T0 x0, .dat T1 x1], []) => bif (Nat.beq T0 3 && Nat.beq T1 4) then some (x0.toInt, x1.toBool) else none
  | _ => none
theorem d15_sim {b : Res} {r : Int × Bool} (h : d15 b = some r) : Sim Tryd.prog b ((.tup [(.dat 3 (.int r.1)), (.dat 4 (.bool r.2))]), []) := by
  unfold d15 at h
  split at h
  · obtain ⟨hc, h2⟩ := bif_some h
    cases h2
    have e0 := beq_eq (and_l hc)
    have e1 := beq_eq (and_r hc)
    subst e0 e1
    exact Sim.of (.tup (.cons (.dat (.int Tryd.underlying3)) (.cons (.dat (.bool Tryd.underlying4)) .nil))) .nil
  · cases h
noncomputable def e15 (J : Nat → Nat → Nat → St → Option (Int × Bool) → Option (Int × Bool)) (m : Nat) (p ms : List Nat) (σ : St) := evAt Tryd.prog env (ct m) J (m + 1) 21 49 Tryd.f21 d15 p ms σ
noncomputable def l15 (J : Nat → Nat → Nat → St → Option (Int × Bool) → Option (Int × Bool)) (m : Nat) (p ms : List Nat) (M : Nat) (σ : St) := loopAt Tryd.prog env (ct m) J (m + 1) 21 49 Tryd.f21 d15 p ms M σ
theorem ref04_Number_j5_eq (m : Nat) (M2 : Nat) (rec2 : ByteArray → Int → Int → Option (Int × Bool)) (h2 : ∀ (x0 : ByteArray) (x1 : Int) (x2 : Int), l15 jn m [1, 1, 1, 0, 1, 0] [] M2 ⟨tsOf [(0, (.dat 9 (.str x0))), (4, (.dat 3 (.int x1))), (5, (.dat 3 (.int x2)))], [], 0⟩ = rec2 x0 x1 x2) (x0 : ByteArray) (x1 : Int) (x2 : Int) : e15 jn m [1, 1, 1, 0, 1, 0, 0, 1, 1] [M2] ⟨tsOf [(0, (.dat 9 (.str x0))), (4, (.dat 3 (.int x1))), (5, (.dat 3 (.int x2)))], [], 0⟩ = ref04_Number_j5 m rec2 x0 x1 x2 := by
  have h : ∀ J, e15 J m [1, 1, 1, 0, 1, 0, 0, 1, 1] [M2] ⟨tsOf [(0, (.dat 9 (.str x0))), (4, (.dat 3 (.int x1))), (5, (.dat 3 (.int x2)))], [], 0⟩ =
    (J 1 5 M2 ⟨tsOf [(0, (.dat 9 (.str x0))), (4, (.dat 3 (.int x1))), (5, (.dat 3 (.int (IntKind.wrap IntKind.i64 (x2 + (1 : Int))))))], [], 0⟩ (l15 J m [1, 1, 1, 0, 1, 0] [] M2 ⟨tsOf [(0, (.dat 9 (.str x0))), (4, (.dat 3 (.int x1))), (5, (.dat 3 (.int (IntKind.wrap IntKind.i64 (x2 + (1 : Int))))))], [], 0⟩)) := fun J => by kernel_rfl
  exact (h jn).trans (by
    simp only [jn_eq, h2]
    rfl)
theorem ref04_Number_j4_eq (m : Nat) (M2 : Nat) (rec2 : ByteArray → Int → Int → Option (Int × Bool)) (h2 : ∀ (x0 : ByteArray) (x1 : Int) (x2 : Int), l15 jn m [1, 1, 1, 0, 1, 0] [] M2 ⟨tsOf [(0, (.dat 9 (.str x0))), (4, (.dat 3 (.int x1))), (5, (.dat 3 (.int x2)))], [], 0⟩ = rec2 x0 x1 x2) (x0 : ByteArray) (x1 : Int) (x2 : Int) : e15 jn m [1, 1, 1, 0, 1, 0, 0, 1, 0, 0, 1] [M2] ⟨tsOf [(0, (.dat 9 (.str x0))), (4, (.dat 3 (.int x1))), (5, (.dat 3 (.int x2)))], [], 0⟩ = ref04_Number_j4 m rec2 x0 x1 x2 := by
  have h : ∀ J, e15 J m [1, 1, 1, 0, 1, 0, 0, 1, 0, 0, 1] [M2] ⟨tsOf [(0, (.dat 9 (.str x0))), (4, (.dat 3 (.int x1))), (5, (.dat 3 (.int x2)))], [], 0⟩ =
    ((idxS x0 x2).bind fun v3 =>
      (J 0 6 0 ⟨tsOf [(0, (.dat 9 (.str x0))), (4, (.dat 3 (.int (IntKind.wrap IntKind.i64 ((IntKind.wrap IntKind.i64 (x1 * (10 : Int))) + (IntKind.wrap IntKind.i64 (IntKind.wrap IntKind.u8 (v3 - (48 : Int))))))))), (5, (.dat 3 (.int x2)))], [], 0⟩ (e15 J m [1, 1, 1, 0, 1, 0, 0, 1, 1] [M2] ⟨tsOf [(0, (.dat 9 (.str x0))), (4, (.dat 3 (.int (IntKind.wrap IntKind.i64 ((IntKind.wrap IntKind.i64 (x1 * (10 : Int))) + (IntKind.wrap IntKind.i64 (IntKind.wrap IntKind.u8 (v3 - (48 : Int))))))))), (5, (.dat 3 (.int x2)))], [], 0⟩))) := fun J => by kernel_rfl
  exact (h jn).trans (by
    simp only [jn_eq, ref04_Number_j5_eq m M2 rec2 h2]
    rfl)
theorem ref04_Number_j3_eq (m : Nat) (M2 : Nat) (rec2 : ByteArray → Int → Int → Option (Int × Bool)) (h2 : ∀ (x0 : ByteArray) (x1 : Int) (x2 : Int), l15 jn m [1, 1, 1, 0, 1, 0] [] M2 ⟨tsOf [(0, (.dat 9 (.str x0))), (4, (.dat 3 (.int x1))), (5, (.dat 3 (.int x2)))], [], 0⟩ = rec2 x0 x1 x2) (x0 : ByteArray) (x1 : Int) (x2 : Int) : e15 jn m [1, 1, 1, 0, 1, 0, 0, 1] [M2] ⟨tsOf [(0, (.dat 9 (.str x0))), (4, (.dat 3 (.int x1))), (5, (.dat 3 (.int x2)))], [], 0⟩ = ref04_Number_j3 m rec2 x0 x1 x2 := by
  have h : ∀ J, e15 J m [1, 1, 1, 0, 1, 0, 0, 1] [M2] ⟨tsOf [(0, (.dat 9 (.str x0))), (4, (.dat 3 (.int x1))), (5, (.dat 3 (.int x2)))], [], 0⟩ =
    ((idxS x0 x2).bind fun v1 =>
      (bif (decide (v1 < (48 : Int))) then
        some ((0 : Int), Bool.false)
      else
        ((idxS x0 x2).bind fun v2 =>
          (bif (decide ((57 : Int) < v2)) then
            some ((0 : Int), Bool.false)
          else
            (J 0 9 0 ⟨tsOf [(0, (.dat 9 (.str x0))), (4, (.dat 3 (.int x1))), (5, (.dat 3 (.int x2)))], [], 0⟩ (e15 J m [1, 1, 1, 0, 1, 0, 0, 1, 0, 0, 1] [M2] ⟨tsOf [(0, (.dat 9 (.str x0))), (4, (.dat 3 (.int x1))), (5, (.dat 3 (.int x2)))], [], 0⟩)))))) := fun J => by kernel_rfl
  exact (h jn).trans (by
    simp only [jn_eq, ref04_Number_j4_eq m M2 rec2 h2]
    rfl)
theorem ref04_Number_j6_eq (m : Nat) (x0 : Int) : e15 jn m [1, 1, 1, 1] [] ⟨tsOf [(4, (.dat 3 (.int x0)))], [], 0⟩ = ref04_Number_j6 m x0 := by
  have h : ∀ J, e15 J m [1, 1, 1, 1] [] ⟨tsOf [(4, (.dat 3 (.int x0)))], [], 0⟩ =
    some (x0, Bool.true) := fun J => by kernel_rfl
  exact (h jn).trans (rfl)
theorem ref04_Number_l2_eq (m : Nat) : ∀ (M2 : Nat) (x0 : ByteArray) (x1 : Int) (x2 : Int), l15 jn m [1, 1, 1, 0, 1, 0] [] M2 ⟨tsOf [(0, (.dat 9 (.str x0))), (4, (.dat 3 (.int x1))), (5, (.dat 3 (.int x2)))], [], 0⟩ = ref04_Number_l2 m M2 x0 x1 x2
  | 0, _, _, _ => rfl
  | M2 + 1, x0, x1, x2 => by
    have h : ∀ J, l15 J m [1, 1, 1, 0, 1, 0] [] (M2 + 1) ⟨tsOf [(0, (.dat 9 (.str x0))), (4, (.dat 3 (.int x1))), (5, (.dat 3 (.int x2)))], [], 0⟩ =
    (bif (decide (x2 < (((ByteArray.size x0) : Nat) : Int))) then
      (J 0 7 0 ⟨tsOf [(0, (.dat 9 (.str x0))), (4, (.dat 3 (.int x1))), (5, (.dat 3 (.int x2)))], [], 0⟩ (e15 J m [1, 1, 1, 0, 1, 0, 0, 1] [M2] ⟨tsOf [(0, (.dat 9 (.str x0))), (4, (.dat 3 (.int x1))), (5, (.dat 3 (.int x2)))], [], 0⟩))
    else
      (J 0 10 0 ⟨tsOf [(4, (.dat 3 (.int x1)))], [], 0⟩ (e15 J m [1, 1, 1, 1] [] ⟨tsOf [(4, (.dat 3 (.int x1)))], [], 0⟩))) := fun J => by kernel_rfl
    refine (h jn).trans ?_
    simp only [jn_eq, ref04_Number_j3_eq m M2 (ref04_Number_l2 m M2) (fun x0 x1 x2 => ref04_Number_l2_eq m M2 x0 x1 x2), ref04_Number_j6_eq m]
    rfl
theorem ref04_Number_j1_eq (m : Nat) (x0 : ByteArray) (x1 : Int) (x2 : Int) : e15 jn m [1, 1, 1, 0, 1] [] ⟨tsOf [(0, (.dat 9 (.str x0))), (4, (.dat 3 (.int x1))), (5, (.dat 3 (.int x2)))], [], 0⟩ = ref04_Number_j1 m x0 x1 x2 := by
  have h : ∀ J, e15 J m [1, 1, 1, 0, 1] [] ⟨tsOf [(0, (.dat 9 (.str x0))), (4, (.dat 3 (.int x1))), (5, (.dat 3 (.int x2)))], [], 0⟩ =
    (J 1 5 (Nat.succ m) ⟨tsOf [(0, (.dat 9 (.str x0))), (4, (.dat 3 (.int x1))), (5, (.dat 3 (.int x2)))], [], 0⟩ (l15 J m [1, 1, 1, 0, 1, 0] [] (Nat.succ m) ⟨tsOf [(0, (.dat 9 (.str x0))), (4, (.dat 3 (.int x1))), (5, (.dat 3 (.int x2)))], [], 0⟩)) := fun J => by kernel_rfl
  exact (h jn).trans (by
    simp only [jn_eq, ref04_Number_l2_eq m]
    rfl)
theorem ref04_Number_j0_eq (m : Nat) (x0 : ByteArray) : e15 jn m [1, 1] [] ⟨tsOf [(0, (.dat 9 (.str x0)))], [], 0⟩ = ref04_Number_j0 m x0 := by
  have h : ∀ J, e15 J m [1, 1] [] ⟨tsOf [(0, (.dat 9 (.str x0)))], [], 0⟩ =
    (J 0 5 0 ⟨tsOf [(0, (.dat 9 (.str x0))), (4, (.dat 3 (.int (0 : Int)))), (5, (.dat 3 (.int (0 : Int))))], [], 0⟩ (e15 J m [1, 1, 1, 0, 1] [] ⟨tsOf [(0, (.dat 9 (.str x0))), (4, (.dat 3 (.int (0 : Int)))), (5, (.dat 3 (.int (0 : Int))))], [], 0⟩)) := fun J => by kernel_rfl
  exact (h jn).trans (by
    simp only [jn_eq, ref04_Number_j1_eq m]
    rfl)
theorem ref04_Number_eq (m : Nat) (a0 : ByteArray) : e15 jn m [] [] ⟨[(.dat 9 (.str a0))], [], 0⟩ = ref04_Number (m + 1) a0 := by
  have h : ∀ J, e15 J m [] [] ⟨[(.dat 9 (.str a0))], [], 0⟩ =
    (bif (decide ((((ByteArray.size a0) : Nat) : Int) < (1 : Int))) then
      some ((0 : Int), Bool.false)
    else
      (bif (decide ((4 : Int) < (((ByteArray.size a0) : Nat) : Int))) then
        some ((0 : Int), Bool.false)
      else
        ((idxS a0 (0 : Int)).bind fun v0 =>
          (bif (v0 == (48 : Int)) then
            (bif (decide ((1 : Int) < (((ByteArray.size a0) : Nat) : Int))) then
              some ((0 : Int), Bool.false)
            else
              (J 0 3 0 ⟨tsOf [(0, (.dat 9 (.str a0)))], [], 0⟩ (e15 J m [1, 1] [] ⟨tsOf [(0, (.dat 9 (.str a0)))], [], 0⟩)))
          else
            (J 0 3 0 ⟨tsOf [(0, (.dat 9 (.str a0)))], [], 0⟩ (e15 J m [1, 1] [] ⟨tsOf [(0, (.dat 9 (.str a0)))], [], 0⟩)))))) := fun J => by kernel_rfl
  refine (h jn).trans ?_
  simp only [jn_eq, ref04_Number_j0_eq m]
  rfl
noncomputable def d2 (q : Res) : Option (Bool) := match q with
  | (.dat T0 x0, []) => bif Nat.beq T0 4 then some x0.toBool else none
  | _ => none
theorem d2_sim {b : Res} {r : Bool} (h : d2 b = some r) : Sim Tryd.prog b ((.dat 4 (.bool r)), []) := by
  unfold d2 at h
  split at h
  · obtain ⟨hc, h2⟩ := bif_some h
    cases h2
    have e0 := beq_eq hc
    subst e0
    exact Sim.of (.of (.dat (.bool Tryd.underlying4)) rfl rfl) .nil
  · cases h
noncomputable def e2 (J : Nat → Nat → Nat → St → Option (Bool) → Option (Bool)) (m : Nat) (p ms : List Nat) (σ : St) := evAt Tryd.prog env (ct m) J (m + 1) 5 28 Tryd.f5 d2 p ms σ
noncomputable def l2 (J : Nat → Nat → Nat → St → Option (Bool) → Option (Bool)) (m : Nat) (p ms : List Nat) (M : Nat) (σ : St) := loopAt Tryd.prog env (ct m) J (m + 1) 5 28 Tryd.f5 d2 p ms M σ
theorem law04_PathNumbers_eq (m : Nat) (a0 : ByteArray) : e2 jn m [] [] ⟨[(.dat 9 (.str a0))], [], 0⟩ = law04_PathNumbers (m + 1) a0 := by
  have h : ∀ J, e2 J m [] [] ⟨[(.dat 9 (.str a0))], [], 0⟩ =
    ((path_Number m a0).bind fun r0 =>
      ((ref04_Number m a0).bind fun r1 =>
        (bif ((Prod.fst r0) == (Prod.fst r1)) then
          (bif ((Prod.snd r0) == (Prod.snd r1)) then
            ((awakeC).bind fun r2 =>
              some r2)
          else
            some Bool.false)
        else
          some Bool.false))) := fun J => by kernel_rfl
  refine (h jn).trans ?_
  
  rfl
noncomputable def d24 (q : Res) : Option (Bool) := match q with
  | (.dat T0 x0, []) => bif Nat.beq T0 4 then some x0.toBool else none
  | _ => none
theorem d24_sim {b : Res} {r : Bool} (h : d24 b = some r) : Sim Tryd.prog b ((.dat 4 (.bool r)), []) := by
  unfold d24 at h
  split at h
  · obtain ⟨hc, h2⟩ := bif_some h
    cases h2
    have e0 := beq_eq hc
    subst e0
    exact Sim.of (.of (.dat (.bool Tryd.underlying4)) rfl rfl) .nil
  · cases h
noncomputable def e24 (J : Nat → Nat → Nat → St → Option (Bool) → Option (Bool)) (m : Nat) (p ms : List Nat) (σ : St) := evAt Tryd.prog env (ct m) J (m + 1) 24 99 Tryd.f24 d24 p ms σ
noncomputable def l24 (J : Nat → Nat → Nat → St → Option (Bool) → Option (Bool)) (m : Nat) (p ms : List Nat) (M : Nat) (σ : St) := loopAt Tryd.prog env (ct m) J (m + 1) 24 99 Tryd.f24 d24 p ms M σ
theorem ref01_Same_j4_eq (m : Nat) (M2 : Nat) (rec2 : Int → Dt → Dt → Option (Bool)) (h2 : ∀ (x0 : Int) (x1 : Dt) (x2 : Dt), l24 jn m [1, 1, 0, 1, 0] [] M2 ⟨tsOf [(2, (.ptr 0 [] 0)), (3, (.ptr 1 [] 0)), (5, (.dat 3 (.int x0)))], [(.box 36 (.dat 36 x1)), (.box 36 (.dat 36 x2))], 0⟩ = rec2 x0 x1 x2) (x0 : Int) (x1 : Dt) (x2 : Dt) : e24 jn m [1, 1, 0, 1, 0, 0, 1, 1] [M2] ⟨tsOf [(2, (.ptr 0 [] 0)), (3, (.ptr 1 [] 0)), (5, (.dat 3 (.int x0)))], [(.box 36 (.dat 36 x1)), (.box 36 (.dat 36 x2))], 0⟩ = ref01_Same_j4 m (ref01_Same m) rec2 x0 x1 x2 := by
  have h : ∀ J, e24 J m [1, 1, 0, 1, 0, 0, 1, 1] [M2] ⟨tsOf [(2, (.ptr 0 [] 0)), (3, (.ptr 1 [] 0)), (5, (.dat 3 (.int x0)))], [(.box 36 (.dat 36 x1)), (.box 36 (.dat 36 x2))], 0⟩ =
    (J 1 4 M2 ⟨tsOf [(2, (.ptr 0 [] 0)), (3, (.ptr 1 [] 0)), (5, (.dat 3 (.int (IntKind.wrap IntKind.i64 (x0 + (1 : Int))))))], [(.box 36 (.dat 36 x1)), (.box 36 (.dat 36 x2))], 0⟩ (l24 J m [1, 1, 0, 1, 0] [] M2 ⟨tsOf [(2, (.ptr 0 [] 0)), (3, (.ptr 1 [] 0)), (5, (.dat 3 (.int (IntKind.wrap IntKind.i64 (x0 + (1 : Int))))))], [(.box 36 (.dat 36 x1)), (.box 36 (.dat 36 x2))], 0⟩)) := fun J => by kernel_rfl
  exact (h jn).trans (by
    simp only [jn_eq, h2]
    rfl)
theorem ref01_Same_j3_eq (m : Nat) (M2 : Nat) (rec2 : Int → Dt → Dt → Option (Bool)) (h2 : ∀ (x0 : Int) (x1 : Dt) (x2 : Dt), l24 jn m [1, 1, 0, 1, 0] [] M2 ⟨tsOf [(2, (.ptr 0 [] 0)), (3, (.ptr 1 [] 0)), (5, (.dat 3 (.int x0)))], [(.box 36 (.dat 36 x1)), (.box 36 (.dat 36 x2))], 0⟩ = rec2 x0 x1 x2) (x0 : Int) (x1 : Dt) (x2 : Dt) : e24 jn m [1, 1, 0, 1, 0, 0, 1] [M2] ⟨tsOf [(2, (.ptr 0 [] 0)), (3, (.ptr 1 [] 0)), (5, (.dat 3 (.int x0)))], [(.box 36 (.dat 36 x1)), (.box 36 (.dat 36 x2))], 0⟩ = ref01_Same_j3 m (ref01_Same m) rec2 x0 x1 x2 := by
  have h : ∀ J, e24 J m [1, 1, 0, 1, 0, 0, 1] [M2] ⟨tsOf [(2, (.ptr 0 [] 0)), (3, (.ptr 1 [] 0)), (5, (.dat 3 (.int x0)))], [(.box 36 (.dat 36 x1)), (.box 36 (.dat 36 x2))], 0⟩ =
    ((idx (Dt.L x1 3) x0).bind fun v0 =>
      ((idx (Dt.L x2 3) x0).bind fun v1 =>
        ((ref01_Same m v0 v1).bind fun r2 =>
          (bif (Bool.not r2) then
            some Bool.false
          else
            (J 0 5 0 ⟨tsOf [(2, (.ptr 0 [] 0)), (3, (.ptr 1 [] 0)), (5, (.dat 3 (.int x0)))], [(.box 36 (.dat 36 x1)), (.box 36 (.dat 36 x2))], 0⟩ (e24 J m [1, 1, 0, 1, 0, 0, 1, 1] [M2] ⟨tsOf [(2, (.ptr 0 [] 0)), (3, (.ptr 1 [] 0)), (5, (.dat 3 (.int x0)))], [(.box 36 (.dat 36 x1)), (.box 36 (.dat 36 x2))], 0⟩)))))) := fun J => by kernel_rfl
  exact (h jn).trans (by
    simp only [jn_eq, ref01_Same_j4_eq m M2 rec2 h2]
    rfl)
theorem ref01_Same_j9_eq (m : Nat) (M7 : Nat) (rec7 : Int → Dt → Dt → Option (Bool)) (h7 : ∀ (x0 : Int) (x1 : Dt) (x2 : Dt), l24 jn m [1, 1, 1, 0, 1, 0] [] M7 ⟨tsOf [(2, (.ptr 0 [] 0)), (3, (.ptr 1 [] 0)), (6, (.dat 3 (.int x0)))], [(.box 36 (.dat 36 x1)), (.box 36 (.dat 36 x2))], 0⟩ = rec7 x0 x1 x2) (x0 : Int) (x1 : Dt) (x2 : Dt) : e24 jn m [1, 1, 1, 0, 1, 0, 0, 1, 1] [M7] ⟨tsOf [(2, (.ptr 0 [] 0)), (3, (.ptr 1 [] 0)), (6, (.dat 3 (.int x0)))], [(.box 36 (.dat 36 x1)), (.box 36 (.dat 36 x2))], 0⟩ = ref01_Same_j9 m (ref01_Same m) rec7 x0 x1 x2 := by
  have h : ∀ J, e24 J m [1, 1, 1, 0, 1, 0, 0, 1, 1] [M7] ⟨tsOf [(2, (.ptr 0 [] 0)), (3, (.ptr 1 [] 0)), (6, (.dat 3 (.int x0)))], [(.box 36 (.dat 36 x1)), (.box 36 (.dat 36 x2))], 0⟩ =
    (J 1 9 M7 ⟨tsOf [(2, (.ptr 0 [] 0)), (3, (.ptr 1 [] 0)), (6, (.dat 3 (.int (IntKind.wrap IntKind.i64 (x0 + (1 : Int))))))], [(.box 36 (.dat 36 x1)), (.box 36 (.dat 36 x2))], 0⟩ (l24 J m [1, 1, 1, 0, 1, 0] [] M7 ⟨tsOf [(2, (.ptr 0 [] 0)), (3, (.ptr 1 [] 0)), (6, (.dat 3 (.int (IntKind.wrap IntKind.i64 (x0 + (1 : Int))))))], [(.box 36 (.dat 36 x1)), (.box 36 (.dat 36 x2))], 0⟩)) := fun J => by kernel_rfl
  exact (h jn).trans (by
    simp only [jn_eq, h7]
    rfl)
theorem ref01_Same_j8_eq (m : Nat) (M7 : Nat) (rec7 : Int → Dt → Dt → Option (Bool)) (h7 : ∀ (x0 : Int) (x1 : Dt) (x2 : Dt), l24 jn m [1, 1, 1, 0, 1, 0] [] M7 ⟨tsOf [(2, (.ptr 0 [] 0)), (3, (.ptr 1 [] 0)), (6, (.dat 3 (.int x0)))], [(.box 36 (.dat 36 x1)), (.box 36 (.dat 36 x2))], 0⟩ = rec7 x0 x1 x2) (x0 : Int) (x1 : Dt) (x2 : Dt) : e24 jn m [1, 1, 1, 0, 1, 0, 0, 1] [M7] ⟨tsOf [(2, (.ptr 0 [] 0)), (3, (.ptr 1 [] 0)), (6, (.dat 3 (.int x0)))], [(.box 36 (.dat 36 x1)), (.box 36 (.dat 36 x2))], 0⟩ = ref01_Same_j8 m (ref01_Same m) rec7 x0 x1 x2 := by
  have h : ∀ J, e24 J m [1, 1, 1, 0, 1, 0, 0, 1] [M7] ⟨tsOf [(2, (.ptr 0 [] 0)), (3, (.ptr 1 [] 0)), (6, (.dat 3 (.int x0)))], [(.box 36 (.dat 36 x1)), (.box 36 (.dat 36 x2))], 0⟩ =
    ((idx (Dt.L x1 4) x0).bind fun v3 =>
      ((idx (Dt.L x2 4) x0).bind fun v4 =>
        (bif (Bool.not ((ByteArray.toList (Dt.S v3 0)) == (ByteArray.toList (Dt.S v4 0)))) then
          some Bool.false
        else
          ((idx (Dt.L x1 4) x0).bind fun v5 =>
            ((idx (Dt.L x2 4) x0).bind fun v6 =>
              ((ref01_Same m (Dt.fld v5 1) (Dt.fld v6 1)).bind fun r7 =>
                (bif (Bool.not r7) then
                  some Bool.false
                else
                  (J 0 10 0 ⟨tsOf [(2, (.ptr 0 [] 0)), (3, (.ptr 1 [] 0)), (6, (.dat 3 (.int x0)))], [(.box 36 (.dat 36 x1)), (.box 36 (.dat 36 x2))], 0⟩ (e24 J m [1, 1, 1, 0, 1, 0, 0, 1, 1] [M7] ⟨tsOf [(2, (.ptr 0 [] 0)), (3, (.ptr 1 [] 0)), (6, (.dat 3 (.int x0)))], [(.box 36 (.dat 36 x1)), (.box 36 (.dat 36 x2))], 0⟩))))))))) := fun J => by kernel_rfl
  exact (h jn).trans (by
    simp only [jn_eq, ref01_Same_j9_eq m M7 rec7 h7]
    rfl)
theorem ref01_Same_j10_eq (m : Nat) : e24 jn m [1, 1, 1, 1] [] ⟨tsOf [], [], 0⟩ = ref01_Same_j10 m (ref01_Same m) := by
  have h : ∀ J, e24 J m [1, 1, 1, 1] [] ⟨tsOf [], [], 0⟩ =
    some Bool.true := fun J => by kernel_rfl
  exact (h jn).trans (rfl)
theorem ref01_Same_l7_eq (m : Nat) : ∀ (M7 : Nat) (x0 : Int) (x1 : Dt) (x2 : Dt), l24 jn m [1, 1, 1, 0, 1, 0] [] M7 ⟨tsOf [(2, (.ptr 0 [] 0)), (3, (.ptr 1 [] 0)), (6, (.dat 3 (.int x0)))], [(.box 36 (.dat 36 x1)), (.box 36 (.dat 36 x2))], 0⟩ = ref01_Same_l7 m (ref01_Same m) M7 x0 x1 x2
  | 0, _, _, _ => rfl
  | M7 + 1, x0, x1, x2 => by
    have h : ∀ J, l24 J m [1, 1, 1, 0, 1, 0] [] (M7 + 1) ⟨tsOf [(2, (.ptr 0 [] 0)), (3, (.ptr 1 [] 0)), (6, (.dat 3 (.int x0)))], [(.box 36 (.dat 36 x1)), (.box 36 (.dat 36 x2))], 0⟩ =
    (bif (decide (x0 < (((List.length (Dt.L x1 4)) : Nat) : Int))) then
      (J 0 11 0 ⟨tsOf [(2, (.ptr 0 [] 0)), (3, (.ptr 1 [] 0)), (6, (.dat 3 (.int x0)))], [(.box 36 (.dat 36 x1)), (.box 36 (.dat 36 x2))], 0⟩ (e24 J m [1, 1, 1, 0, 1, 0, 0, 1] [M7] ⟨tsOf [(2, (.ptr 0 [] 0)), (3, (.ptr 1 [] 0)), (6, (.dat 3 (.int x0)))], [(.box 36 (.dat 36 x1)), (.box 36 (.dat 36 x2))], 0⟩))
    else
      (J 0 13 0 ⟨tsOf [], [], 0⟩ (e24 J m [1, 1, 1, 1] [] ⟨tsOf [], [], 0⟩))) := fun J => by kernel_rfl
    refine (h jn).trans ?_
    simp only [jn_eq, ref01_Same_j8_eq m M7 (ref01_Same_l7 m (ref01_Same m) M7) (fun x0 x1 x2 => ref01_Same_l7_eq m M7 x0 x1 x2), ref01_Same_j10_eq m]
    rfl
theorem ref01_Same_j6_eq (m : Nat) (x0 : Int) (x1 : Dt) (x2 : Dt) : e24 jn m [1, 1, 1, 0, 1] [] ⟨tsOf [(2, (.ptr 0 [] 0)), (3, (.ptr 1 [] 0)), (6, (.dat 3 (.int x0)))], [(.box 36 (.dat 36 x1)), (.box 36 (.dat 36 x2))], 0⟩ = ref01_Same_j6 m (ref01_Same m) x0 x1 x2 := by
  have h : ∀ J, e24 J m [1, 1, 1, 0, 1] [] ⟨tsOf [(2, (.ptr 0 [] 0)), (3, (.ptr 1 [] 0)), (6, (.dat 3 (.int x0)))], [(.box 36 (.dat 36 x1)), (.box 36 (.dat 36 x2))], 0⟩ =
    (J 1 9 (Nat.succ m) ⟨tsOf [(2, (.ptr 0 [] 0)), (3, (.ptr 1 [] 0)), (6, (.dat 3 (.int x0)))], [(.box 36 (.dat 36 x1)), (.box 36 (.dat 36 x2))], 0⟩ (l24 J m [1, 1, 1, 0, 1, 0] [] (Nat.succ m) ⟨tsOf [(2, (.ptr 0 [] 0)), (3, (.ptr 1 [] 0)), (6, (.dat 3 (.int x0)))], [(.box 36 (.dat 36 x1)), (.box 36 (.dat 36 x2))], 0⟩)) := fun J => by kernel_rfl
  exact (h jn).trans (by
    simp only [jn_eq, ref01_Same_l7_eq m]
    rfl)
theorem ref01_Same_j5_eq (m : Nat) (x0 : Dt) (x1 : Dt) : e24 jn m [1, 1, 1] [] ⟨tsOf [(2, (.ptr 0 [] 0)), (3, (.ptr 1 [] 0))], [(.box 36 (.dat 36 x0)), (.box 36 (.dat 36 x1))], 0⟩ = ref01_Same_j5 m (ref01_Same m) x0 x1 := by
  have h : ∀ J, e24 J m [1, 1, 1] [] ⟨tsOf [(2, (.ptr 0 [] 0)), (3, (.ptr 1 [] 0))], [(.box 36 (.dat 36 x0)), (.box 36 (.dat 36 x1))], 0⟩ =
    (J 0 9 0 ⟨tsOf [(2, (.ptr 0 [] 0)), (3, (.ptr 1 [] 0)), (6, (.dat 3 (.int (0 : Int))))], [(.box 36 (.dat 36 x0)), (.box 36 (.dat 36 x1))], 0⟩ (e24 J m [1, 1, 1, 0, 1] [] ⟨tsOf [(2, (.ptr 0 [] 0)), (3, (.ptr 1 [] 0)), (6, (.dat 3 (.int (0 : Int))))], [(.box 36 (.dat 36 x0)), (.box 36 (.dat 36 x1))], 0⟩)) := fun J => by kernel_rfl
  exact (h jn).trans (by
    simp only [jn_eq, ref01_Same_j6_eq m]
    rfl)
theorem ref01_Same_l2_eq (m : Nat) : ∀ (M2 : Nat) (x0 : Int) (x1 : Dt) (x2 : Dt), l24 jn m [1, 1, 0, 1, 0] [] M2 ⟨tsOf [(2, (.ptr 0 [] 0)), (3, (.ptr 1 [] 0)), (5, (.dat 3 (.int x0)))], [(.box 36 (.dat 36 x1)), (.box 36 (.dat 36 x2))], 0⟩ = ref01_Same_l2 m (ref01_Same m) M2 x0 x1 x2
  | 0, _, _, _ => rfl
  | M2 + 1, x0, x1, x2 => by
    have h : ∀ J, l24 J m [1, 1, 0, 1, 0] [] (M2 + 1) ⟨tsOf [(2, (.ptr 0 [] 0)), (3, (.ptr 1 [] 0)), (5, (.dat 3 (.int x0)))], [(.box 36 (.dat 36 x1)), (.box 36 (.dat 36 x2))], 0⟩ =
    (bif (decide (x0 < (((List.length (Dt.L x1 3)) : Nat) : Int))) then
      (J 0 6 0 ⟨tsOf [(2, (.ptr 0 [] 0)), (3, (.ptr 1 [] 0)), (5, (.dat 3 (.int x0)))], [(.box 36 (.dat 36 x1)), (.box 36 (.dat 36 x2))], 0⟩ (e24 J m [1, 1, 0, 1, 0, 0, 1] [M2] ⟨tsOf [(2, (.ptr 0 [] 0)), (3, (.ptr 1 [] 0)), (5, (.dat 3 (.int x0)))], [(.box 36 (.dat 36 x1)), (.box 36 (.dat 36 x2))], 0⟩))
    else
      (J 0 8 0 ⟨tsOf [(2, (.ptr 0 [] 0)), (3, (.ptr 1 [] 0))], [(.box 36 (.dat 36 x1)), (.box 36 (.dat 36 x2))], 0⟩ (e24 J m [1, 1, 1] [] ⟨tsOf [(2, (.ptr 0 [] 0)), (3, (.ptr 1 [] 0))], [(.box 36 (.dat 36 x1)), (.box 36 (.dat 36 x2))], 0⟩))) := fun J => by kernel_rfl
    refine (h jn).trans ?_
    simp only [jn_eq, ref01_Same_j3_eq m M2 (ref01_Same_l2 m (ref01_Same m) M2) (fun x0 x1 x2 => ref01_Same_l2_eq m M2 x0 x1 x2), ref01_Same_j5_eq m]
    rfl
theorem ref01_Same_j1_eq (m : Nat) (x0 : Int) (x1 : Dt) (x2 : Dt) : e24 jn m [1, 1, 0, 1] [] ⟨tsOf [(2, (.ptr 0 [] 0)), (3, (.ptr 1 [] 0)), (5, (.dat 3 (.int x0)))], [(.box 36 (.dat 36 x1)), (.box 36 (.dat 36 x2))], 0⟩ = ref01_Same_j1 m (ref01_Same m) x0 x1 x2 := by
  have h : ∀ J, e24 J m [1, 1, 0, 1] [] ⟨tsOf [(2, (.ptr 0 [] 0)), (3, (.ptr 1 [] 0)), (5, (.dat 3 (.int x0)))], [(.box 36 (.dat 36 x1)), (.box 36 (.dat 36 x2))], 0⟩ =
    (J 1 4 (Nat.succ m) ⟨tsOf [(2, (.ptr 0 [] 0)), (3, (.ptr 1 [] 0)), (5, (.dat 3 (.int x0)))], [(.box 36 (.dat 36 x1)), (.box 36 (.dat 36 x2))], 0⟩ (l24 J m [1, 1, 0, 1, 0] [] (Nat.succ m) ⟨tsOf [(2, (.ptr 0 [] 0)), (3, (.ptr 1 [] 0)), (5, (.dat 3 (.int x0)))], [(.box 36 (.dat 36 x1)), (.box 36 (.dat 36 x2))], 0⟩)) := fun J => by kernel_rfl
  exact (h jn).trans (by
    simp only [jn_eq, ref01_Same_l2_eq m]
    rfl)
theorem ref01_Same_j0_eq (m : Nat) (x0 : Dt) (x1 : Dt) : e24 jn m [1, 1] [] ⟨tsOf [(2, (.ptr 0 [] 0)), (3, (.ptr 1 [] 0))], [(.box 36 (.dat 36 x0)), (.box 36 (.dat 36 x1))], 0⟩ = ref01_Same_j0 m (ref01_Same m) x0 x1 := by
  have h : ∀ J, e24 J m [1, 1] [] ⟨tsOf [(2, (.ptr 0 [] 0)), (3, (.ptr 1 [] 0))], [(.box 36 (.dat 36 x0)), (.box 36 (.dat 36 x1))], 0⟩ =
    (J 0 4 0 ⟨tsOf [(2, (.ptr 0 [] 0)), (3, (.ptr 1 [] 0)), (5, (.dat 3 (.int (0 : Int))))], [(.box 36 (.dat 36 x0)), (.box 36 (.dat 36 x1))], 0⟩ (e24 J m [1, 1, 0, 1] [] ⟨tsOf [(2, (.ptr 0 [] 0)), (3, (.ptr 1 [] 0)), (5, (.dat 3 (.int (0 : Int))))], [(.box 36 (.dat 36 x0)), (.box 36 (.dat 36 x1))], 0⟩)) := fun J => by kernel_rfl
  exact (h jn).trans (by
    simp only [jn_eq, ref01_Same_j1_eq m]
    rfl)
theorem ref01_Same_eq (m : Nat) (a0 : Dt) (a1 : Dt) : e24 jn m [] [] ⟨[(.dat 36 a0), (.dat 36 a1)], [], 0⟩ = ref01_Same (m + 1) a0 a1 := by
  have h : ∀ J, e24 J m [] [] ⟨[(.dat 36 a0), (.dat 36 a1)], [], 0⟩ =
    (bif ((Dt.I a0 0) != (Dt.I a1 0)) then
      some Bool.false
    else
      (bif ((Dt.I a0 1) != (Dt.I a1 1)) then
        some Bool.false
      else
        (bif (Bool.not ((ByteArray.toList (Dt.S a0 2)) == (ByteArray.toList (Dt.S a1 2)))) then
          some Bool.false
        else
          (bif ((((List.length (Dt.L a0 3)) : Nat) : Int) != (((List.length (Dt.L a1 3)) : Nat) : Int)) then
            some Bool.false
          else
            (bif ((((List.length (Dt.L a0 4)) : Nat) : Int) != (((List.length (Dt.L a1 4)) : Nat) : Int)) then
              some Bool.false
            else
              (J 0 3 0 ⟨tsOf [(2, (.ptr 0 [] 0)), (3, (.ptr 1 [] 0))], [(.box 36 (.dat 36 a0)), (.box 36 (.dat 36 a1))], 0⟩ (e24 J m [1, 1] [] ⟨tsOf [(2, (.ptr 0 [] 0)), (3, (.ptr 1 [] 0))], [(.box 36 (.dat 36 a0)), (.box 36 (.dat 36 a1))], 0⟩))))))) := fun J => by kernel_rfl
  refine (h jn).trans ?_
  simp only [jn_eq, ref01_Same_j0_eq m]
  rfl
noncomputable def d21 (q : Res) : Option (Bool) := match q with
  | (.dat T0 x0, []) => bif Nat.beq T0 4 then some x0.toBool else none
  | _ => none
theorem d21_sim {b : Res} {r : Bool} (h : d21 b = some r) : Sim Tryd.prog b ((.dat 4 (.bool r)), []) := by
  unfold d21 at h
  split at h
  · obtain ⟨hc, h2⟩ := bif_some h
    cases h2
    have e0 := beq_eq hc
    subst e0
    exact Sim.of (.of (.dat (.bool Tryd.underlying4)) rfl rfl) .nil
  · cases h
noncomputable def e21 (J : Nat → Nat → Nat → St → Option (Bool) → Option (Bool)) (m : Nat) (p ms : List Nat) (σ : St) := evAt Tryd.prog env (ct m) J (m + 1) 29 10 Tryd.f29 d21 p ms σ
noncomputable def l21 (J : Nat → Nat → Nat → St → Option (Bool) → Option (Bool)) (m : Nat) (p ms : List Nat) (M : Nat) (σ : St) := loopAt Tryd.prog env (ct m) J (m + 1) 29 10 Tryd.f29 d21 p ms M σ
theorem ref01_SameList_eq (m : Nat) (a0 : List Dt) (a1 : List Dt) : e21 jn m [] [] ⟨[(.dat 33 (.lst a0)), (.dat 33 (.lst a1))], [], 0⟩ = ref01_SameList (m + 1) a0 a1 := by
  have h : ∀ J, e21 J m [] [] ⟨[(.dat 33 (.lst a0)), (.dat 33 (.lst a1))], [], 0⟩ =
    ((ref01_Same m (Dt.agg [(Dt.int (6 : Int)), (Dt.int (0 : Int)), (Dt.str (ByteArray.mk (List.toArray []))), (Dt.lst a0), (Dt.lst [])]) (Dt.agg [(Dt.int (6 : Int)), (Dt.int (0 : Int)), (Dt.str (ByteArray.mk (List.toArray []))), (Dt.lst a1), (Dt.lst [])])).bind fun r0 =>
      some r0) := fun J => by kernel_rfl
  refine (h jn).trans ?_
  
  rfl
noncomputable def d27 (q : Res) : Option (List Dt) := match q with
  | (.dat T0 x0, []) => bif Nat.beq T0 23 then some x0.toLst else none
  | _ => none
theorem d27_sim {b : Res} {r : List Dt} (h : d27 b = some r) : Sim Tryd.prog b ((.dat 23 (.lst r)), []) := by
  unfold d27 at h
  split at h
  · obtain ⟨hc, h2⟩ := bif_some h
    cases h2
    have e0 := beq_eq hc
    subst e0
    exact Sim.of (.of (.dat (.lst Tryd.underlying23)) rfl rfl) .nil
  · cases h
noncomputable def e27 (J : Nat → Nat → Nat → St → Option (List Dt) → Option (List Dt)) (m : Nat) (p ms : List Nat) (σ : St) := evAt Tryd.prog env (ct m) J (m + 1) 43 31 Tryd.f43 d27 p ms σ
noncomputable def l27 (J : Nat → Nat → Nat → St → Option (List Dt) → Option (List Dt)) (m : Nat) (p ms : List Nat) (M : Nat) (σ : St) := loopAt Tryd.prog env (ct m) J (m + 1) 43 31 Tryd.f43 d27 p ms M σ
theorem ref04_split_j3_eq (m : Nat) (M1 : Nat) (rec1 : ByteArray → Int → Int → List Dt → Option (List Dt)) (h1 : ∀ (x0 : ByteArray) (x1 : Int) (x2 : Int) (x3 : List Dt), l27 jn m [1, 1, 1, 0, 1, 0] [] M1 ⟨tsOf [(0, (.dat 9 (.str x0))), (3, (.row 0)), (4, (.dat 3 (.int x1))), (5, (.dat 3 (.int x2)))], [(.row 23 x3)], 0⟩ = rec1 x0 x1 x2 x3) (x0 : ByteArray) (x1 : Int) (x2 : Int) (x3 : List Dt) : e27 jn m [1, 1, 1, 0, 1, 0, 0, 1, 1] [M1] ⟨tsOf [(0, (.dat 9 (.str x0))), (3, (.row 0)), (4, (.dat 3 (.int x1))), (5, (.dat 3 (.int x2)))], [(.row 23 x3)], 0⟩ = ref04_split_j3 m rec1 x0 x1 x2 x3 := by
  have h : ∀ J, e27 J m [1, 1, 1, 0, 1, 0, 0, 1, 1] [M1] ⟨tsOf [(0, (.dat 9 (.str x0))), (3, (.row 0)), (4, (.dat 3 (.int x1))), (5, (.dat 3 (.int x2)))], [(.row 23 x3)], 0⟩ =
    (J 1 4 M1 ⟨tsOf [(0, (.dat 9 (.str x0))), (3, (.row 0)), (4, (.dat 3 (.int x1))), (5, (.dat 3 (.int (IntKind.wrap IntKind.i64 (x2 + (1 : Int))))))], [(.row 23 x3)], 0⟩ (l27 J m [1, 1, 1, 0, 1, 0] [] M1 ⟨tsOf [(0, (.dat 9 (.str x0))), (3, (.row 0)), (4, (.dat 3 (.int x1))), (5, (.dat 3 (.int (IntKind.wrap IntKind.i64 (x2 + (1 : Int))))))], [(.row 23 x3)], 0⟩)) := fun J => by kernel_rfl
  exact (h jn).trans (by
    simp only [jn_eq, h1]
    rfl)
theorem ref04_split_j2_eq (m : Nat) (M1 : Nat) (rec1 : ByteArray → Int → Int → List Dt → Option (List Dt)) (h1 : ∀ (x0 : ByteArray) (x1 : Int) (x2 : Int) (x3 : List Dt), l27 jn m [1, 1, 1, 0, 1, 0] [] M1 ⟨tsOf [(0, (.dat 9 (.str x0))), (3, (.row 0)), (4, (.dat 3 (.int x1))), (5, (.dat 3 (.int x2)))], [(.row 23 x3)], 0⟩ = rec1 x0 x1 x2 x3) (x0 : ByteArray) (x1 : Int) (x2 : Int) (x3 : List Dt) : e27 jn m [1, 1, 1, 0, 1, 0, 0, 1] [M1] ⟨tsOf [(0, (.dat 9 (.str x0))), (3, (.row 0)), (4, (.dat 3 (.int x1))), (5, (.dat 3 (.int x2)))], [(.row 23 x3)], 0⟩ = ref04_split_j2 m rec1 x0 x1 x2 x3 := by
  have h : ∀ J, e27 J m [1, 1, 1, 0, 1, 0, 0, 1] [M1] ⟨tsOf [(0, (.dat 9 (.str x0))), (3, (.row 0)), (4, (.dat 3 (.int x1))), (5, (.dat 3 (.int x2)))], [(.row 23 x3)], 0⟩ =
    ((idxS x0 x2).bind fun v0 =>
      (bif (v0 == (46 : Int)) then
        ((cutS x0 x1 x2).bind fun v1 =>
          ((app x3 [(Dt.str v1)]).bind fun v2 =>
            (J 0 5 0 ⟨tsOf [(0, (.dat 9 (.str x0))), (3, (.row 0)), (4, (.dat 3 (.int (IntKind.wrap IntKind.i64 (x2 + (1 : Int)))))), (5, (.dat 3 (.int x2)))], [(.row 23 v2)], 0⟩ (e27 J m [1, 1, 1, 0, 1, 0, 0, 1, 1] [M1] ⟨tsOf [(0, (.dat 9 (.str x0))), (3, (.row 0)), (4, (.dat 3 (.int (IntKind.wrap IntKind.i64 (x2 + (1 : Int)))))), (5, (.dat 3 (.int x2)))], [(.row 23 v2)], 0⟩))))
      else
        (J 0 5 0 ⟨tsOf [(0, (.dat 9 (.str x0))), (3, (.row 0)), (4, (.dat 3 (.int x1))), (5, (.dat 3 (.int x2)))], [(.row 23 x3)], 0⟩ (e27 J m [1, 1, 1, 0, 1, 0, 0, 1, 1] [M1] ⟨tsOf [(0, (.dat 9 (.str x0))), (3, (.row 0)), (4, (.dat 3 (.int x1))), (5, (.dat 3 (.int x2)))], [(.row 23 x3)], 0⟩)))) := fun J => by kernel_rfl
  exact (h jn).trans (by
    simp only [jn_eq, ref04_split_j3_eq m M1 rec1 h1]
    rfl)
theorem ref04_split_j4_eq (m : Nat) (x0 : ByteArray) (x1 : Int) (x2 : List Dt) : e27 jn m [1, 1, 1, 1] [] ⟨tsOf [(0, (.dat 9 (.str x0))), (3, (.row 0)), (4, (.dat 3 (.int x1)))], [(.row 23 x2)], 0⟩ = ref04_split_j4 m x0 x1 x2 := by
  have h : ∀ J, e27 J m [1, 1, 1, 1] [] ⟨tsOf [(0, (.dat 9 (.str x0))), (3, (.row 0)), (4, (.dat 3 (.int x1)))], [(.row 23 x2)], 0⟩ =
    ((cutS x0 x1 (((ByteArray.size x0) : Nat) : Int)).bind fun v3 =>
      ((app x2 [(Dt.str v3)]).bind fun v4 =>
        some v4)) := fun J => by kernel_rfl
  exact (h jn).trans (rfl)
theorem ref04_split_l1_eq (m : Nat) : ∀ (M1 : Nat) (x0 : ByteArray) (x1 : Int) (x2 : Int) (x3 : List Dt), l27 jn m [1, 1, 1, 0, 1, 0] [] M1 ⟨tsOf [(0, (.dat 9 (.str x0))), (3, (.row 0)), (4, (.dat 3 (.int x1))), (5, (.dat 3 (.int x2)))], [(.row 23 x3)], 0⟩ = ref04_split_l1 m M1 x0 x1 x2 x3
  | 0, _, _, _, _ => rfl
  | M1 + 1, x0, x1, x2, x3 => by
    have h : ∀ J, l27 J m [1, 1, 1, 0, 1, 0] [] (M1 + 1) ⟨tsOf [(0, (.dat 9 (.str x0))), (3, (.row 0)), (4, (.dat 3 (.int x1))), (5, (.dat 3 (.int x2)))], [(.row 23 x3)], 0⟩ =
    (bif (decide (x2 < (((ByteArray.size x0) : Nat) : Int))) then
      (J 0 6 0 ⟨tsOf [(0, (.dat 9 (.str x0))), (3, (.row 0)), (4, (.dat 3 (.int x1))), (5, (.dat 3 (.int x2)))], [(.row 23 x3)], 0⟩ (e27 J m [1, 1, 1, 0, 1, 0, 0, 1] [M1] ⟨tsOf [(0, (.dat 9 (.str x0))), (3, (.row 0)), (4, (.dat 3 (.int x1))), (5, (.dat 3 (.int x2)))], [(.row 23 x3)], 0⟩))
    else
      (J 0 9 0 ⟨tsOf [(0, (.dat 9 (.str x0))), (3, (.row 0)), (4, (.dat 3 (.int x1)))], [(.row 23 x3)], 0⟩ (e27 J m [1, 1, 1, 1] [] ⟨tsOf [(0, (.dat 9 (.str x0))), (3, (.row 0)), (4, (.dat 3 (.int x1)))], [(.row 23 x3)], 0⟩))) := fun J => by kernel_rfl
    refine (h jn).trans ?_
    simp only [jn_eq, ref04_split_j2_eq m M1 (ref04_split_l1 m M1) (fun x0 x1 x2 x3 => ref04_split_l1_eq m M1 x0 x1 x2 x3), ref04_split_j4_eq m]
    rfl
theorem ref04_split_j0_eq (m : Nat) (x0 : ByteArray) (x1 : Int) (x2 : Int) (x3 : List Dt) : e27 jn m [1, 1, 1, 0, 1] [] ⟨tsOf [(0, (.dat 9 (.str x0))), (3, (.row 0)), (4, (.dat 3 (.int x1))), (5, (.dat 3 (.int x2)))], [(.row 23 x3)], 0⟩ = ref04_split_j0 m x0 x1 x2 x3 := by
  have h : ∀ J, e27 J m [1, 1, 1, 0, 1] [] ⟨tsOf [(0, (.dat 9 (.str x0))), (3, (.row 0)), (4, (.dat 3 (.int x1))), (5, (.dat 3 (.int x2)))], [(.row 23 x3)], 0⟩ =
    (J 1 4 (Nat.succ m) ⟨tsOf [(0, (.dat 9 (.str x0))), (3, (.row 0)), (4, (.dat 3 (.int x1))), (5, (.dat 3 (.int x2)))], [(.row 23 x3)], 0⟩ (l27 J m [1, 1, 1, 0, 1, 0] [] (Nat.succ m) ⟨tsOf [(0, (.dat 9 (.str x0))), (3, (.row 0)), (4, (.dat 3 (.int x1))), (5, (.dat 3 (.int x2)))], [(.row 23 x3)], 0⟩)) := fun J => by kernel_rfl
  exact (h jn).trans (by
    simp only [jn_eq, ref04_split_l1_eq m]
    rfl)
theorem ref04_split_eq (m : Nat) (a0 : ByteArray) : e27 jn m [] [] ⟨[(.dat 9 (.str a0))], [], 0⟩ = ref04_split (m + 1) a0 := by
  have h : ∀ J, e27 J m [] [] ⟨[(.dat 9 (.str a0))], [], 0⟩ =
    (J 0 4 0 ⟨tsOf [(0, (.dat 9 (.str a0))), (3, (.row 0)), (4, (.dat 3 (.int (0 : Int)))), (5, (.dat 3 (.int (0 : Int))))], [(.row 23 [])], 0⟩ (e27 J m [1, 1, 1, 0, 1] [] ⟨tsOf [(0, (.dat 9 (.str a0))), (3, (.row 0)), (4, (.dat 3 (.int (0 : Int)))), (5, (.dat 3 (.int (0 : Int))))], [(.row 23 [])], 0⟩)) := fun J => by kernel_rfl
  refine (h jn).trans ?_
  simp only [jn_eq, ref04_split_j0_eq m]
  rfl
noncomputable def d28 (q : Res) : Option (Bool) := match q with
  | (.dat T0 x0, []) => bif Nat.beq T0 4 then some x0.toBool else none
  | _ => none
theorem d28_sim {b : Res} {r : Bool} (h : d28 b = some r) : Sim Tryd.prog b ((.dat 4 (.bool r)), []) := by
  unfold d28 at h
  split at h
  · obtain ⟨hc, h2⟩ := bif_some h
    cases h2
    have e0 := beq_eq hc
    subst e0
    exact Sim.of (.of (.dat (.bool Tryd.underlying4)) rfl rfl) .nil
  · cases h
noncomputable def e28 (J : Nat → Nat → Nat → St → Option (Bool) → Option (Bool)) (m : Nat) (p ms : List Nat) (σ : St) := evAt Tryd.prog env (ct m) J (m + 1) 44 26 Tryd.f44 d28 p ms σ
noncomputable def l28 (J : Nat → Nat → Nat → St → Option (Bool) → Option (Bool)) (m : Nat) (p ms : List Nat) (M : Nat) (σ : St) := loopAt Tryd.prog env (ct m) J (m + 1) 44 26 Tryd.f44 d28 p ms M σ
theorem ref04_prefix_j4_eq (m : Nat) (M2 : Nat) (rec2 : List Dt → List Dt → Int → Option (Bool)) (h2 : ∀ (x0 : List Dt) (x1 : List Dt) (x2 : Int), l28 jn m [1, 1, 0, 1, 0] [] M2 ⟨tsOf [(0, (.dat 23 (.lst x0))), (1, (.dat 23 (.lst x1))), (5, (.dat 3 (.int x2)))], [], 0⟩ = rec2 x0 x1 x2) (x0 : List Dt) (x1 : List Dt) (x2 : Int) : e28 jn m [1, 1, 0, 1, 0, 0, 1, 1] [M2] ⟨tsOf [(0, (.dat 23 (.lst x0))), (1, (.dat 23 (.lst x1))), (5, (.dat 3 (.int x2)))], [], 0⟩ = ref04_prefix_j4 m rec2 x0 x1 x2 := by
  have h : ∀ J, e28 J m [1, 1, 0, 1, 0, 0, 1, 1] [M2] ⟨tsOf [(0, (.dat 23 (.lst x0))), (1, (.dat 23 (.lst x1))), (5, (.dat 3 (.int x2)))], [], 0⟩ =
    (J 1 4 M2 ⟨tsOf [(0, (.dat 23 (.lst x0))), (1, (.dat 23 (.lst x1))), (5, (.dat 3 (.int (IntKind.wrap IntKind.i64 (x2 + (1 : Int))))))], [], 0⟩ (l28 J m [1, 1, 0, 1, 0] [] M2 ⟨tsOf [(0, (.dat 23 (.lst x0))), (1, (.dat 23 (.lst x1))), (5, (.dat 3 (.int (IntKind.wrap IntKind.i64 (x2 + (1 : Int))))))], [], 0⟩)) := fun J => by kernel_rfl
  exact (h jn).trans (by
    simp only [jn_eq, h2]
    rfl)
theorem ref04_prefix_j3_eq (m : Nat) (M2 : Nat) (rec2 : List Dt → List Dt → Int → Option (Bool)) (h2 : ∀ (x0 : List Dt) (x1 : List Dt) (x2 : Int), l28 jn m [1, 1, 0, 1, 0] [] M2 ⟨tsOf [(0, (.dat 23 (.lst x0))), (1, (.dat 23 (.lst x1))), (5, (.dat 3 (.int x2)))], [], 0⟩ = rec2 x0 x1 x2) (x0 : List Dt) (x1 : List Dt) (x2 : Int) : e28 jn m [1, 1, 0, 1, 0, 0, 1] [M2] ⟨tsOf [(0, (.dat 23 (.lst x0))), (1, (.dat 23 (.lst x1))), (5, (.dat 3 (.int x2)))], [], 0⟩ = ref04_prefix_j3 m rec2 x0 x1 x2 := by
  have h : ∀ J, e28 J m [1, 1, 0, 1, 0, 0, 1] [M2] ⟨tsOf [(0, (.dat 23 (.lst x0))), (1, (.dat 23 (.lst x1))), (5, (.dat 3 (.int x2)))], [], 0⟩ =
    ((idx x0 x2).bind fun v0 =>
      ((idx x1 x2).bind fun v1 =>
        (bif (Bool.not ((ByteArray.toList (Dt.toStr v0)) == (ByteArray.toList (Dt.toStr v1)))) then
          some Bool.false
        else
          (J 0 5 0 ⟨tsOf [(0, (.dat 23 (.lst x0))), (1, (.dat 23 (.lst x1))), (5, (.dat 3 (.int x2)))], [], 0⟩ (e28 J m [1, 1, 0, 1, 0, 0, 1, 1] [M2] ⟨tsOf [(0, (.dat 23 (.lst x0))), (1, (.dat 23 (.lst x1))), (5, (.dat 3 (.int x2)))], [], 0⟩))))) := fun J => by kernel_rfl
  exact (h jn).trans (by
    simp only [jn_eq, ref04_prefix_j4_eq m M2 rec2 h2]
    rfl)
theorem ref04_prefix_j5_eq (m : Nat) : e28 jn m [1, 1, 1] [] ⟨tsOf [], [], 0⟩ = ref04_prefix_j5 m := by
  have h : ∀ J, e28 J m [1, 1, 1] [] ⟨tsOf [], [], 0⟩ =
    some Bool.true := fun J => by kernel_rfl
  exact (h jn).trans (rfl)
theorem ref04_prefix_l2_eq (m : Nat) : ∀ (M2 : Nat) (x0 : List Dt) (x1 : List Dt) (x2 : Int), l28 jn m [1, 1, 0, 1, 0] [] M2 ⟨tsOf [(0, (.dat 23 (.lst x0))), (1, (.dat 23 (.lst x1))), (5, (.dat 3 (.int x2)))], [], 0⟩ = ref04_prefix_l2 m M2 x0 x1 x2
  | 0, _, _, _ => rfl
  | M2 + 1, x0, x1, x2 => by
    have h : ∀ J, l28 J m [1, 1, 0, 1, 0] [] (M2 + 1) ⟨tsOf [(0, (.dat 23 (.lst x0))), (1, (.dat 23 (.lst x1))), (5, (.dat 3 (.int x2)))], [], 0⟩ =
    (bif (decide (x2 < (((List.length x0) : Nat) : Int))) then
      (J 0 6 0 ⟨tsOf [(0, (.dat 23 (.lst x0))), (1, (.dat 23 (.lst x1))), (5, (.dat 3 (.int x2)))], [], 0⟩ (e28 J m [1, 1, 0, 1, 0, 0, 1] [M2] ⟨tsOf [(0, (.dat 23 (.lst x0))), (1, (.dat 23 (.lst x1))), (5, (.dat 3 (.int x2)))], [], 0⟩))
    else
      (J 0 8 0 ⟨tsOf [], [], 0⟩ (e28 J m [1, 1, 1] [] ⟨tsOf [], [], 0⟩))) := fun J => by kernel_rfl
    refine (h jn).trans ?_
    simp only [jn_eq, ref04_prefix_j3_eq m M2 (ref04_prefix_l2 m M2) (fun x0 x1 x2 => ref04_prefix_l2_eq m M2 x0 x1 x2), ref04_prefix_j5_eq m]
    rfl
theorem ref04_prefix_j1_eq (m : Nat) (x0 : List Dt) (x1 : List Dt) (x2 : Int) : e28 jn m [1, 1, 0, 1] [] ⟨tsOf [(0, (.dat 23 (.lst x0))), (1, (.dat 23 (.lst x1))), (5, (.dat 3 (.int x2)))], [], 0⟩ = ref04_prefix_j1 m x0 x1 x2 := by
  have h : ∀ J, e28 J m [1, 1, 0, 1] [] ⟨tsOf [(0, (.dat 23 (.lst x0))), (1, (.dat 23 (.lst x1))), (5, (.dat 3 (.int x2)))], [], 0⟩ =
    (J 1 4 (Nat.succ m) ⟨tsOf [(0, (.dat 23 (.lst x0))), (1, (.dat 23 (.lst x1))), (5, (.dat 3 (.int x2)))], [], 0⟩ (l28 J m [1, 1, 0, 1, 0] [] (Nat.succ m) ⟨tsOf [(0, (.dat 23 (.lst x0))), (1, (.dat 23 (.lst x1))), (5, (.dat 3 (.int x2)))], [], 0⟩)) := fun J => by kernel_rfl
  exact (h jn).trans (by
    simp only [jn_eq, ref04_prefix_l2_eq m]
    rfl)
theorem ref04_prefix_j0_eq (m : Nat) (x0 : List Dt) (x1 : List Dt) : e28 jn m [1, 1] [] ⟨tsOf [(0, (.dat 23 (.lst x0))), (1, (.dat 23 (.lst x1)))], [], 0⟩ = ref04_prefix_j0 m x0 x1 := by
  have h : ∀ J, e28 J m [1, 1] [] ⟨tsOf [(0, (.dat 23 (.lst x0))), (1, (.dat 23 (.lst x1)))], [], 0⟩ =
    (J 0 4 0 ⟨tsOf [(0, (.dat 23 (.lst x0))), (1, (.dat 23 (.lst x1))), (5, (.dat 3 (.int (0 : Int))))], [], 0⟩ (e28 J m [1, 1, 0, 1] [] ⟨tsOf [(0, (.dat 23 (.lst x0))), (1, (.dat 23 (.lst x1))), (5, (.dat 3 (.int (0 : Int))))], [], 0⟩)) := fun J => by kernel_rfl
  exact (h jn).trans (by
    simp only [jn_eq, ref04_prefix_j1_eq m]
    rfl)
theorem ref04_prefix_eq (m : Nat) (a0 : List Dt) (a1 : List Dt) : e28 jn m [] [] ⟨[(.dat 23 (.lst a0)), (.dat 23 (.lst a1))], [], 0⟩ = ref04_prefix (m + 1) a0 a1 := by
  have h : ∀ J, e28 J m [] [] ⟨[(.dat 23 (.lst a0)), (.dat 23 (.lst a1))], [], 0⟩ =
    (bif (decide ((((List.length a1) : Nat) : Int) < (((List.length a0) : Nat) : Int))) then
      some Bool.false
    else
      (J 0 3 0 ⟨tsOf [(0, (.dat 23 (.lst a0))), (1, (.dat 23 (.lst a1)))], [], 0⟩ (e28 J m [1, 1] [] ⟨tsOf [(0, (.dat 23 (.lst a0))), (1, (.dat 23 (.lst a1)))], [], 0⟩))) := fun J => by kernel_rfl
  refine (h jn).trans ?_
  simp only [jn_eq, ref04_prefix_j0_eq m]
  rfl
noncomputable def d9 (q : Res) : Option (Bool) := match q with
  | (.dat T0 x0, []) => bif Nat.beq T0 4 then some x0.toBool else none
  | _ => none
theorem d9_sim {b : Res} {r : Bool} (h : d9 b = some r) : Sim Tryd.prog b ((.dat 4 (.bool r)), []) := by
  unfold d9 at h
  split at h
  · obtain ⟨hc, h2⟩ := bif_some h
    cases h2
    have e0 := beq_eq hc
    subst e0
    exact Sim.of (.of (.dat (.bool Tryd.underlying4)) rfl rfl) .nil
  · cases h
noncomputable def e9 (J : Nat → Nat → Nat → St → Option (Bool) → Option (Bool)) (m : Nat) (p ms : List Nat) (σ : St) := evAt Tryd.prog env (ct m) J (m + 1) 15 15 Tryd.f15 d9 p ms σ
noncomputable def l9 (J : Nat → Nat → Nat → St → Option (Bool) → Option (Bool)) (m : Nat) (p ms : List Nat) (M : Nat) (σ : St) := loopAt Tryd.prog env (ct m) J (m + 1) 15 15 Tryd.f15 d9 p ms M σ
theorem ref04_Same_eq (m : Nat) (a0 : List Dt) (a1 : List Dt) : e9 jn m [] [] ⟨[(.dat 23 (.lst a0)), (.dat 23 (.lst a1))], [], 0⟩ = ref04_Same (m + 1) a0 a1 := by
  have h : ∀ J, e9 J m [] [] ⟨[(.dat 23 (.lst a0)), (.dat 23 (.lst a1))], [], 0⟩ =
    (bif ((((List.length a0) : Nat) : Int) == (((List.length a1) : Nat) : Int)) then
      ((ref04_prefix m a0 a1).bind fun r0 =>
        some r0)
    else
      some Bool.false) := fun J => by kernel_rfl
  refine (h jn).trans ?_
  
  rfl
noncomputable def d17 (q : Res) : Option (Bool) := match q with
  | (.dat T0 x0, []) => bif Nat.beq T0 4 then some x0.toBool else none
  | _ => none
theorem d17_sim {b : Res} {r : Bool} (h : d17 b = some r) : Sim Tryd.prog b ((.dat 4 (.bool r)), []) := by
  unfold d17 at h
  split at h
  · obtain ⟨hc, h2⟩ := bif_some h
    cases h2
    have e0 := beq_eq hc
    subst e0
    exact Sim.of (.of (.dat (.bool Tryd.underlying4)) rfl rfl) .nil
  · cases h
noncomputable def e17 (J : Nat → Nat → Nat → St → Option (Bool) → Option (Bool)) (m : Nat) (p ms : List Nat) (σ : St) := evAt Tryd.prog env (ct m) J (m + 1) 35 13 Tryd.f35 d17 p ms σ
noncomputable def l17 (J : Nat → Nat → Nat → St → Option (Bool) → Option (Bool)) (m : Nat) (p ms : List Nat) (M : Nat) (σ : St) := loopAt Tryd.prog env (ct m) J (m + 1) 35 13 Tryd.f35 d17 p ms M σ
theorem ref04_Overlap_eq (m : Nat) (a0 : List Dt) (a1 : List Dt) : e17 jn m [] [] ⟨[(.dat 23 (.lst a0)), (.dat 23 (.lst a1))], [], 0⟩ = ref04_Overlap (m + 1) a0 a1 := by
  have h : ∀ J, e17 J m [] [] ⟨[(.dat 23 (.lst a0)), (.dat 23 (.lst a1))], [], 0⟩ =
    ((ref04_prefix m a0 a1).bind fun r0 =>
      (bif r0 then
        some Bool.true
      else
        ((ref04_prefix m a1 a0).bind fun r1 =>
          some r1))) := fun J => by kernel_rfl
  refine (h jn).trans ?_
  
  rfl
noncomputable def d32 (q : Res) : Option (Bool) := match q with
  | (.dat T0 x0, []) => bif Nat.beq T0 4 then some x0.toBool else none
  | _ => none
theorem d32_sim {b : Res} {r : Bool} (h : d32 b = some r) : Sim Tryd.prog b ((.dat 4 (.bool r)), []) := by
  unfold d32 at h
  split at h
  · obtain ⟨hc, h2⟩ := bif_some h
    cases h2
    have e0 := beq_eq hc
    subst e0
    exact Sim.of (.of (.dat (.bool Tryd.underlying4)) rfl rfl) .nil
  · cases h
noncomputable def e32 (J : Nat → Nat → Nat → St → Option (Bool) → Option (Bool)) (m : Nat) (p ms : List Nat) (σ : St) := evAt Tryd.prog env (ct m) J (m + 1) 47 39 Tryd.f47 d32 p ms σ
noncomputable def l32 (J : Nat → Nat → Nat → St → Option (Bool) → Option (Bool)) (m : Nat) (p ms : List Nat) (M : Nat) (σ : St) := loopAt Tryd.prog env (ct m) J (m + 1) 47 39 Tryd.f47 d32 p ms M σ
theorem path_notName_j4_eq (m : Nat) (M2 : Nat) (rec2 : ByteArray → Int → Int → Option (Bool)) (h2 : ∀ (x0 : ByteArray) (x1 : Int) (x2 : Int), l32 jn m [1, 1, 0, 1, 0] [] M2 ⟨tsOf [(0, (.dat 9 (.str x0))), (18, (.dat 3 (.int x1))), (19, (.dat 3 (.int x2)))], [], 0⟩ = rec2 x0 x1 x2) (x0 : ByteArray) (x1 : Int) (x2 : Int) : e32 jn m [1, 1, 0, 1, 0, 0, 1, 1, 1] [M2] ⟨tsOf [(0, (.dat 9 (.str x0))), (18, (.dat 3 (.int x1))), (19, (.dat 3 (.int x2)))], [], 0⟩ = path_notName_j4 m rec2 x0 x1 x2 := by
  have h : ∀ J, e32 J m [1, 1, 0, 1, 0, 0, 1, 1, 1] [M2] ⟨tsOf [(0, (.dat 9 (.str x0))), (18, (.dat 3 (.int x1))), (19, (.dat 3 (.int x2)))], [], 0⟩ =
    (J 1 4 M2 ⟨tsOf [(0, (.dat 9 (.str x0))), (18, (.dat 3 (.int x1))), (19, (.dat 3 (.int (IntKind.wrap IntKind.i64 (x2 + (1 : Int))))))], [], 0⟩ (l32 J m [1, 1, 0, 1, 0] [] M2 ⟨tsOf [(0, (.dat 9 (.str x0))), (18, (.dat 3 (.int x1))), (19, (.dat 3 (.int (IntKind.wrap IntKind.i64 (x2 + (1 : Int))))))], [], 0⟩)) := fun J => by kernel_rfl
  exact (h jn).trans (by
    simp only [jn_eq, h2]
    rfl)
theorem path_notName_j3_eq (m : Nat) (M2 : Nat) (rec2 : ByteArray → Int → Int → Option (Bool)) (h2 : ∀ (x0 : ByteArray) (x1 : Int) (x2 : Int), l32 jn m [1, 1, 0, 1, 0] [] M2 ⟨tsOf [(0, (.dat 9 (.str x0))), (18, (.dat 3 (.int x1))), (19, (.dat 3 (.int x2)))], [], 0⟩ = rec2 x0 x1 x2) (x0 : ByteArray) (x1 : Int) (x2 : Int) : e32 jn m [1, 1, 0, 1, 0, 0, 1, 1] [M2] ⟨tsOf [(0, (.dat 9 (.str x0))), (18, (.dat 3 (.int x1))), (19, (.dat 3 (.int x2)))], [], 0⟩ = path_notName_j3 m rec2 x0 x1 x2 := by
  have h : ∀ J, e32 J m [1, 1, 0, 1, 0, 0, 1, 1] [M2] ⟨tsOf [(0, (.dat 9 (.str x0))), (18, (.dat 3 (.int x1))), (19, (.dat 3 (.int x2)))], [], 0⟩ =
    ((idxS x0 x2).bind fun v1 =>
      (bif (decide (v1 < (33 : Int))) then
        some Bool.true
      else
        ((idxS x0 x2).bind fun v2 =>
          (bif (decide ((126 : Int) < v2)) then
            some Bool.true
          else
            ((idxS x0 x2).bind fun v3 =>
              (bif (v3 == (46 : Int)) then
                some Bool.true
              else
                (J 0 8 0 ⟨tsOf [(0, (.dat 9 (.str x0))), (18, (.dat 3 (.int x1))), (19, (.dat 3 (.int x2)))], [], 0⟩ (e32 J m [1, 1, 0, 1, 0, 0, 1, 1, 1] [M2] ⟨tsOf [(0, (.dat 9 (.str x0))), (18, (.dat 3 (.int x1))), (19, (.dat 3 (.int x2)))], [], 0⟩)))))))) := fun J => by kernel_rfl
  exact (h jn).trans (by
    simp only [jn_eq, path_notName_j4_eq m M2 rec2 h2]
    rfl)
theorem path_notName_j5_eq (m : Nat) : e32 jn m [1, 1, 1] [] ⟨tsOf [], [], 0⟩ = path_notName_j5 m := by
  have h : ∀ J, e32 J m [1, 1, 1] [] ⟨tsOf [], [], 0⟩ =
    some Bool.false := fun J => by kernel_rfl
  exact (h jn).trans (rfl)
theorem path_notName_l2_eq (m : Nat) : ∀ (M2 : Nat) (x0 : ByteArray) (x1 : Int) (x2 : Int), l32 jn m [1, 1, 0, 1, 0] [] M2 ⟨tsOf [(0, (.dat 9 (.str x0))), (18, (.dat 3 (.int x1))), (19, (.dat 3 (.int x2)))], [], 0⟩ = path_notName_l2 m M2 x0 x1 x2
  | 0, _, _, _ => rfl
  | M2 + 1, x0, x1, x2 => by
    have h : ∀ J, l32 J m [1, 1, 0, 1, 0] [] (M2 + 1) ⟨tsOf [(0, (.dat 9 (.str x0))), (18, (.dat 3 (.int x1))), (19, (.dat 3 (.int x2)))], [], 0⟩ =
    (bif (decide (x2 < x1)) then
      (J 0 5 0 ⟨tsOf [(0, (.dat 9 (.str x0))), (18, (.dat 3 (.int x1))), (19, (.dat 3 (.int x2)))], [], 0⟩ (e32 J m [1, 1, 0, 1, 0, 0, 1, 1] [M2] ⟨tsOf [(0, (.dat 9 (.str x0))), (18, (.dat 3 (.int x1))), (19, (.dat 3 (.int x2)))], [], 0⟩))
    else
      (J 0 9 0 ⟨tsOf [], [], 0⟩ (e32 J m [1, 1, 1] [] ⟨tsOf [], [], 0⟩))) := fun J => by kernel_rfl
    refine (h jn).trans ?_
    simp only [jn_eq, path_notName_j3_eq m M2 (path_notName_l2 m M2) (fun x0 x1 x2 => path_notName_l2_eq m M2 x0 x1 x2), path_notName_j5_eq m]
    rfl
theorem path_notName_j1_eq (m : Nat) (x0 : ByteArray) (x1 : Int) (x2 : Int) : e32 jn m [1, 1, 0, 1] [] ⟨tsOf [(0, (.dat 9 (.str x0))), (18, (.dat 3 (.int x1))), (19, (.dat 3 (.int x2)))], [], 0⟩ = path_notName_j1 m x0 x1 x2 := by
  have h : ∀ J, e32 J m [1, 1, 0, 1] [] ⟨tsOf [(0, (.dat 9 (.str x0))), (18, (.dat 3 (.int x1))), (19, (.dat 3 (.int x2)))], [], 0⟩ =
    (J 1 4 (Nat.succ m) ⟨tsOf [(0, (.dat 9 (.str x0))), (18, (.dat 3 (.int x1))), (19, (.dat 3 (.int x2)))], [], 0⟩ (l32 J m [1, 1, 0, 1, 0] [] (Nat.succ m) ⟨tsOf [(0, (.dat 9 (.str x0))), (18, (.dat 3 (.int x1))), (19, (.dat 3 (.int x2)))], [], 0⟩)) := fun J => by kernel_rfl
  exact (h jn).trans (by
    simp only [jn_eq, path_notName_l2_eq m]
    rfl)
theorem path_notName_j0_eq (m : Nat) (x0 : ByteArray) : e32 jn m [1, 1] [] ⟨tsOf [(0, (.dat 9 (.str x0)))], [], 0⟩ = path_notName_j0 m x0 := by
  have h : ∀ J, e32 J m [1, 1] [] ⟨tsOf [(0, (.dat 9 (.str x0)))], [], 0⟩ =
    (J 0 4 0 ⟨tsOf [(0, (.dat 9 (.str x0))), (18, (.dat 3 (.int (((ByteArray.size x0) : Nat) : Int)))), (19, (.dat 3 (.int (0 : Int))))], [], 0⟩ (e32 J m [1, 1, 0, 1] [] ⟨tsOf [(0, (.dat 9 (.str x0))), (18, (.dat 3 (.int (((ByteArray.size x0) : Nat) : Int)))), (19, (.dat 3 (.int (0 : Int))))], [], 0⟩)) := fun J => by kernel_rfl
  exact (h jn).trans (by
    simp only [jn_eq, path_notName_j1_eq m]
    rfl)
theorem path_notName_eq (m : Nat) (a0 : ByteArray) : e32 jn m [] [] ⟨[(.dat 9 (.str a0))], [], 0⟩ = path_notName (m + 1) a0 := by
  have h : ∀ J, e32 J m [] [] ⟨[(.dat 9 (.str a0))], [], 0⟩ =
    (bif (decide ((((ByteArray.size a0) : Nat) : Int) < (1 : Int))) then
      some Bool.true
    else
      (bif (decide ((32 : Int) < (((ByteArray.size a0) : Nat) : Int))) then
        some Bool.true
      else
        ((idxS a0 (0 : Int)).bind fun v0 =>
          (bif (v0 == (36 : Int)) then
            some Bool.true
          else
            (J 0 3 0 ⟨tsOf [(0, (.dat 9 (.str a0)))], [], 0⟩ (e32 J m [1, 1] [] ⟨tsOf [(0, (.dat 9 (.str a0)))], [], 0⟩)))))) := fun J => by kernel_rfl
  refine (h jn).trans ?_
  simp only [jn_eq, path_notName_j0_eq m]
  rfl
noncomputable def d31 (q : Res) : Option (Int) := match q with
  | (.dat T0 x0, []) => bif Nat.beq T0 3 then some x0.toInt else none
  | _ => none
theorem d31_sim {b : Res} {r : Int} (h : d31 b = some r) : Sim Tryd.prog b ((.dat 3 (.int r)), []) := by
  unfold d31 at h
  split at h
  · obtain ⟨hc, h2⟩ := bif_some h
    cases h2
    have e0 := beq_eq hc
    subst e0
    exact Sim.of (.of (.dat (.int Tryd.underlying3)) rfl rfl) .nil
  · cases h
noncomputable def e31 (J : Nat → Nat → Nat → St → Option (Int) → Option (Int)) (m : Nat) (p ms : List Nat) (σ : St) := evAt Tryd.prog env (ct m) J (m + 1) 69 19 Tryd.f69 d31 p ms σ
noncomputable def l31 (J : Nat → Nat → Nat → St → Option (Int) → Option (Int)) (m : Nat) (p ms : List Nat) (M : Nat) (σ : St) := loopAt Tryd.prog env (ct m) J (m + 1) 69 19 Tryd.f69 d31 p ms M σ
theorem slices_IndexFunc_i31_j3_eq (m : Nat) (M1 : Nat) (rec1 : List Dt → Int → Int → Option (Int)) (h1 : ∀ (x0 : List Dt) (x1 : Int) (x2 : Int), l31 jn m [1, 0, 1, 0] [] M1 ⟨tsOf [(0, (.dat 23 (.lst x0))), (1, (.fn 47 [])), (7, (.dat 3 (.int x1))), (8, (.dat 3 (.int x2)))], [], 0⟩ = rec1 x0 x1 x2) (x0 : List Dt) (x1 : Int) (x2 : Int) : e31 jn m [1, 0, 1, 0, 0, 1, 1, 1] [M1] ⟨tsOf [(0, (.dat 23 (.lst x0))), (1, (.fn 47 [])), (7, (.dat 3 (.int x1))), (8, (.dat 3 (.int x2)))], [], 0⟩ = slices_IndexFunc_i31_j3 m rec1 x0 x1 x2 := by
  have h : ∀ J, e31 J m [1, 0, 1, 0, 0, 1, 1, 1] [M1] ⟨tsOf [(0, (.dat 23 (.lst x0))), (1, (.fn 47 [])), (7, (.dat 3 (.int x1))), (8, (.dat 3 (.int x2)))], [], 0⟩ =
    (J 1 2 M1 ⟨tsOf [(0, (.dat 23 (.lst x0))), (1, (.fn 47 [])), (7, (.dat 3 (.int x1))), (8, (.dat 3 (.int (IntKind.wrap IntKind.i64 (x2 + (1 : Int))))))], [], 0⟩ (l31 J m [1, 0, 1, 0] [] M1 ⟨tsOf [(0, (.dat 23 (.lst x0))), (1, (.fn 47 [])), (7, (.dat 3 (.int x1))), (8, (.dat 3 (.int (IntKind.wrap IntKind.i64 (x2 + (1 : Int))))))], [], 0⟩)) := fun J => by kernel_rfl
  exact (h jn).trans (by
    simp only [jn_eq, h1]
    rfl)
theorem slices_IndexFunc_i31_j2_eq (m : Nat) (M1 : Nat) (rec1 : List Dt → Int → Int → Option (Int)) (h1 : ∀ (x0 : List Dt) (x1 : Int) (x2 : Int), l31 jn m [1, 0, 1, 0] [] M1 ⟨tsOf [(0, (.dat 23 (.lst x0))), (1, (.fn 47 [])), (7, (.dat 3 (.int x1))), (8, (.dat 3 (.int x2)))], [], 0⟩ = rec1 x0 x1 x2) (x0 : List Dt) (x1 : Int) (x2 : Int) : e31 jn m [1, 0, 1, 0, 0, 1, 1] [M1] ⟨tsOf [(0, (.dat 23 (.lst x0))), (1, (.fn 47 [])), (7, (.dat 3 (.int x1))), (8, (.dat 3 (.int x2)))], [], 0⟩ = slices_IndexFunc_i31_j2 m rec1 x0 x1 x2 := by
  have h : ∀ J, e31 J m [1, 0, 1, 0, 0, 1, 1] [M1] ⟨tsOf [(0, (.dat 23 (.lst x0))), (1, (.fn 47 [])), (7, (.dat 3 (.int x1))), (8, (.dat 3 (.int x2)))], [], 0⟩ =
    ((idx x0 x2).bind fun v0 =>
      ((path_notName m (Dt.toStr v0)).bind fun r1 =>
        (bif r1 then
          some x2
        else
          (J 0 6 0 ⟨tsOf [(0, (.dat 23 (.lst x0))), (1, (.fn 47 [])), (7, (.dat 3 (.int x1))), (8, (.dat 3 (.int x2)))], [], 0⟩ (e31 J m [1, 0, 1, 0, 0, 1, 1, 1] [M1] ⟨tsOf [(0, (.dat 23 (.lst x0))), (1, (.fn 47 [])), (7, (.dat 3 (.int x1))), (8, (.dat 3 (.int x2)))], [], 0⟩))))) := fun J => by kernel_rfl
  exact (h jn).trans (by
    simp only [jn_eq, slices_IndexFunc_i31_j3_eq m M1 rec1 h1]
    rfl)
theorem slices_IndexFunc_i31_j4_eq (m : Nat) : e31 jn m [1, 1] [] ⟨tsOf [], [], 0⟩ = slices_IndexFunc_i31_j4 m := by
  have h : ∀ J, e31 J m [1, 1] [] ⟨tsOf [], [], 0⟩ =
    some (-1 : Int) := fun J => by kernel_rfl
  exact (h jn).trans (rfl)
theorem slices_IndexFunc_i31_l1_eq (m : Nat) : ∀ (M1 : Nat) (x0 : List Dt) (x1 : Int) (x2 : Int), l31 jn m [1, 0, 1, 0] [] M1 ⟨tsOf [(0, (.dat 23 (.lst x0))), (1, (.fn 47 [])), (7, (.dat 3 (.int x1))), (8, (.dat 3 (.int x2)))], [], 0⟩ = slices_IndexFunc_i31_l1 m M1 x0 x1 x2
  | 0, _, _, _ => rfl
  | M1 + 1, x0, x1, x2 => by
    have h : ∀ J, l31 J m [1, 0, 1, 0] [] (M1 + 1) ⟨tsOf [(0, (.dat 23 (.lst x0))), (1, (.fn 47 [])), (7, (.dat 3 (.int x1))), (8, (.dat 3 (.int x2)))], [], 0⟩ =
    (bif (decide (x2 < x1)) then
      (J 0 3 0 ⟨tsOf [(0, (.dat 23 (.lst x0))), (1, (.fn 47 [])), (7, (.dat 3 (.int x1))), (8, (.dat 3 (.int x2)))], [], 0⟩ (e31 J m [1, 0, 1, 0, 0, 1, 1] [M1] ⟨tsOf [(0, (.dat 23 (.lst x0))), (1, (.fn 47 [])), (7, (.dat 3 (.int x1))), (8, (.dat 3 (.int x2)))], [], 0⟩))
    else
      (J 0 7 0 ⟨tsOf [], [], 0⟩ (e31 J m [1, 1] [] ⟨tsOf [], [], 0⟩))) := fun J => by kernel_rfl
    refine (h jn).trans ?_
    simp only [jn_eq, slices_IndexFunc_i31_j2_eq m M1 (slices_IndexFunc_i31_l1 m M1) (fun x0 x1 x2 => slices_IndexFunc_i31_l1_eq m M1 x0 x1 x2), slices_IndexFunc_i31_j4_eq m]
    rfl
theorem slices_IndexFunc_i31_j0_eq (m : Nat) (x0 : List Dt) (x1 : Int) (x2 : Int) : e31 jn m [1, 0, 1] [] ⟨tsOf [(0, (.dat 23 (.lst x0))), (1, (.fn 47 [])), (7, (.dat 3 (.int x1))), (8, (.dat 3 (.int x2)))], [], 0⟩ = slices_IndexFunc_i31_j0 m x0 x1 x2 := by
  have h : ∀ J, e31 J m [1, 0, 1] [] ⟨tsOf [(0, (.dat 23 (.lst x0))), (1, (.fn 47 [])), (7, (.dat 3 (.int x1))), (8, (.dat 3 (.int x2)))], [], 0⟩ =
    (J 1 2 (Nat.succ m) ⟨tsOf [(0, (.dat 23 (.lst x0))), (1, (.fn 47 [])), (7, (.dat 3 (.int x1))), (8, (.dat 3 (.int x2)))], [], 0⟩ (l31 J m [1, 0, 1, 0] [] (Nat.succ m) ⟨tsOf [(0, (.dat 23 (.lst x0))), (1, (.fn 47 [])), (7, (.dat 3 (.int x1))), (8, (.dat 3 (.int x2)))], [], 0⟩)) := fun J => by kernel_rfl
  exact (h jn).trans (by
    simp only [jn_eq, slices_IndexFunc_i31_l1_eq m]
    rfl)
theorem slices_IndexFunc_i31_eq (m : Nat) (a0 : List Dt) : e31 jn m [] [] ⟨[(.dat 23 (.lst a0)), (.fn 47 [])], [], 0⟩ = slices_IndexFunc_i31 (m + 1) a0 := by
  have h : ∀ J, e31 J m [] [] ⟨[(.dat 23 (.lst a0)), (.fn 47 [])], [], 0⟩ =
    (J 0 2 0 ⟨tsOf [(0, (.dat 23 (.lst a0))), (1, (.fn 47 [])), (7, (.dat 3 (.int (((List.length a0) : Nat) : Int)))), (8, (.dat 3 (.int (0 : Int))))], [], 0⟩ (e31 J m [1, 0, 1] [] ⟨tsOf [(0, (.dat 23 (.lst a0))), (1, (.fn 47 [])), (7, (.dat 3 (.int (((List.length a0) : Nat) : Int)))), (8, (.dat 3 (.int (0 : Int))))], [], 0⟩)) := fun J => by kernel_rfl
  refine (h jn).trans ?_
  simp only [jn_eq, slices_IndexFunc_i31_j0_eq m]
  rfl
noncomputable def d30 (q : Res) : Option (Bool) := match q with
  | (.dat T0 x0, []) => bif Nat.beq T0 4 then some x0.toBool else none
  | _ => none
theorem d30_sim {b : Res} {r : Bool} (h : d30 b = some r) : Sim Tryd.prog b ((.dat 4 (.bool r)), []) := by
  unfold d30 at h
  split at h
  · obtain ⟨hc, h2⟩ := bif_some h
    cases h2
    have e0 := beq_eq hc
    subst e0
    exact Sim.of (.of (.dat (.bool Tryd.underlying4)) rfl rfl) .nil
  · cases h
noncomputable def e30 (J : Nat → Nat → Nat → St → Option (Bool) → Option (Bool)) (m : Nat) (p ms : List Nat) (σ : St) := evAt Tryd.prog env (ct m) J (m + 1) 46 9 Tryd.f46 d30 p ms σ
noncomputable def l30 (J : Nat → Nat → Nat → St → Option (Bool) → Option (Bool)) (m : Nat) (p ms : List Nat) (M : Nat) (σ : St) := loopAt Tryd.prog env (ct m) J (m + 1) 46 9 Tryd.f46 d30 p ms M σ
theorem slices_ContainsFunc_i30_eq (m : Nat) (a0 : List Dt) : e30 jn m [] [] ⟨[(.dat 23 (.lst a0)), (.fn 47 [])], [], 0⟩ = slices_ContainsFunc_i30 (m + 1) a0 := by
  have h : ∀ J, e30 J m [] [] ⟨[(.dat 23 (.lst a0)), (.fn 47 [])], [], 0⟩ =
    ((slices_IndexFunc_i31 m a0).bind fun r0 =>
      some (decide ((0 : Int) ≤ r0))) := fun J => by kernel_rfl
  refine (h jn).trans ?_
  
  rfl
noncomputable def d11 (q : Res) : Option (Bool) := match q with
  | (.dat T0 x0, []) => bif Nat.beq T0 4 then some x0.toBool else none
  | _ => none
theorem d11_sim {b : Res} {r : Bool} (h : d11 b = some r) : Sim Tryd.prog b ((.dat 4 (.bool r)), []) := by
  unfold d11 at h
  split at h
  · obtain ⟨hc, h2⟩ := bif_some h
    cases h2
    have e0 := beq_eq hc
    subst e0
    exact Sim.of (.of (.dat (.bool Tryd.underlying4)) rfl rfl) .nil
  · cases h
noncomputable def e11 (J : Nat → Nat → Nat → St → Option (Bool) → Option (Bool)) (m : Nat) (p ms : List Nat) (σ : St) := evAt Tryd.prog env (ct m) J (m + 1) 17 16 Tryd.f17 d11 p ms σ
noncomputable def l11 (J : Nat → Nat → Nat → St → Option (Bool) → Option (Bool)) (m : Nat) (p ms : List Nat) (M : Nat) (σ : St) := loopAt Tryd.prog env (ct m) J (m + 1) 17 16 Tryd.f17 d11 p ms M σ
theorem path_Valid_eq (m : Nat) (a0 : List Dt) : e11 jn m [] [] ⟨[(.dat 23 (.lst a0))], [], 0⟩ = path_Valid (m + 1) a0 := by
  have h : ∀ J, e11 J m [] [] ⟨[(.dat 23 (.lst a0))], [], 0⟩ =
    (bif (decide ((1 : Int) ≤ (((List.length a0) : Nat) : Int))) then
      (bif (decide ((((List.length a0) : Nat) : Int) ≤ (16 : Int))) then
        ((slices_ContainsFunc_i30 m a0).bind fun r0 =>
          some (Bool.not r0))
      else
        some Bool.false)
    else
      some Bool.false) := fun J => by kernel_rfl
  refine (h jn).trans ?_
  
  rfl
noncomputable def d7 (q : Res) : Option (List Dt × Int) := match q with
  | (.tup [.dat T0 x0, .dat T1 x1], []) => bif (Nat.beq T0 23 && Nat.beq T1 24) then some (x0.toLst, x1.toInt) else none
  | _ => none
theorem d7_sim {b : Res} {r : List Dt × Int} (h : d7 b = some r) : Sim Tryd.prog b ((.tup [(.dat 23 (.lst r.1)), (.dat 24 (.int r.2))]), []) := by
  unfold d7 at h
  split at h
  · obtain ⟨hc, h2⟩ := bif_some h
    cases h2
    have e0 := beq_eq (and_l hc)
    have e1 := beq_eq (and_r hc)
    subst e0 e1
    exact Sim.of (.tup (.cons (.dat (.lst Tryd.underlying23)) (.cons (.dat (.int Tryd.underlying24)) .nil))) .nil
  · cases h
noncomputable def e7 (J : Nat → Nat → Nat → St → Option (List Dt × Int) → Option (List Dt × Int)) (m : Nat) (p ms : List Nat) (σ : St) := evAt Tryd.prog env (ct m) J (m + 1) 13 11 Tryd.f13 d7 p ms σ
noncomputable def l7 (J : Nat → Nat → Nat → St → Option (List Dt × Int) → Option (List Dt × Int)) (m : Nat) (p ms : List Nat) (M : Nat) (σ : St) := loopAt Tryd.prog env (ct m) J (m + 1) 13 11 Tryd.f13 d7 p ms M σ
theorem path_Parse_j0_eq (m : Nat) (x0 : List Dt) : e7 jn m [1, 1, 1] [] ⟨tsOf [(4, (.dat 23 (.lst x0)))], [], 0⟩ = path_Parse_j0 m x0 := by
  have h : ∀ J, e7 J m [1, 1, 1] [] ⟨tsOf [(4, (.dat 23 (.lst x0)))], [], 0⟩ =
    some (x0, (0 : Int)) := fun J => by kernel_rfl
  exact (h jn).trans (rfl)
theorem path_Parse_eq (m : Nat) (a0 : ByteArray) : e7 jn m [] [] ⟨[(.dat 9 (.str a0))], [], 0⟩ = path_Parse (m + 1) a0 := by
  have h : ∀ J, e7 J m [] [] ⟨[(.dat 9 (.str a0))], [], 0⟩ =
    ((strings_Split a0 (ByteArray.mk (List.toArray [(46 : UInt8)]))).bind fun r0 =>
      ((path_Valid m r0).bind fun r1 =>
        (bif (Bool.not r1) then
          some ([], (10 : Int))
        else
          (J 0 4 0 ⟨tsOf [(4, (.dat 23 (.lst r0)))], [], 0⟩ (e7 J m [1, 1, 1] [] ⟨tsOf [(4, (.dat 23 (.lst r0)))], [], 0⟩))))) := fun J => by kernel_rfl
  refine (h jn).trans ?_
  simp only [jn_eq, path_Parse_j0_eq m]
  rfl
noncomputable def d33 (q : Res) : Option (Bool) := match q with
  | (.dat T0 x0, []) => bif Nat.beq T0 4 then some x0.toBool else none
  | _ => none
theorem d33_sim {b : Res} {r : Bool} (h : d33 b = some r) : Sim Tryd.prog b ((.dat 4 (.bool r)), []) := by
  unfold d33 at h
  split at h
  · obtain ⟨hc, h2⟩ := bif_some h
    cases h2
    have e0 := beq_eq hc
    subst e0
    exact Sim.of (.of (.dat (.bool Tryd.underlying4)) rfl rfl) .nil
  · cases h
noncomputable def e33 (J : Nat → Nat → Nat → St → Option (Bool) → Option (Bool)) (m : Nat) (p ms : List Nat) (σ : St) := evAt Tryd.prog env (ct m) J (m + 1) 48 39 Tryd.f48 d33 p ms σ
noncomputable def l33 (J : Nat → Nat → Nat → St → Option (Bool) → Option (Bool)) (m : Nat) (p ms : List Nat) (M : Nat) (σ : St) := loopAt Tryd.prog env (ct m) J (m + 1) 48 39 Tryd.f48 d33 p ms M σ
theorem ref01_Name_j4_eq (m : Nat) (M2 : Nat) (rec2 : ByteArray → Int → Option (Bool)) (h2 : ∀ (x0 : ByteArray) (x1 : Int), l33 jn m [1, 1, 0, 1, 0] [] M2 ⟨tsOf [(0, (.dat 9 (.str x0))), (3, (.dat 3 (.int x1)))], [], 0⟩ = rec2 x0 x1) (x0 : ByteArray) (x1 : Int) : e33 jn m [1, 1, 0, 1, 0, 0, 1, 1] [M2] ⟨tsOf [(0, (.dat 9 (.str x0))), (3, (.dat 3 (.int x1)))], [], 0⟩ = ref01_Name_j4 m rec2 x0 x1 := by
  have h : ∀ J, e33 J m [1, 1, 0, 1, 0, 0, 1, 1] [M2] ⟨tsOf [(0, (.dat 9 (.str x0))), (3, (.dat 3 (.int x1)))], [], 0⟩ =
    (J 1 4 M2 ⟨tsOf [(0, (.dat 9 (.str x0))), (3, (.dat 3 (.int (IntKind.wrap IntKind.i64 (x1 + (1 : Int))))))], [], 0⟩ (l33 J m [1, 1, 0, 1, 0] [] M2 ⟨tsOf [(0, (.dat 9 (.str x0))), (3, (.dat 3 (.int (IntKind.wrap IntKind.i64 (x1 + (1 : Int))))))], [], 0⟩)) := fun J => by kernel_rfl
  exact (h jn).trans (by
    simp only [jn_eq, h2]
    rfl)
theorem ref01_Name_j3_eq (m : Nat) (M2 : Nat) (rec2 : ByteArray → Int → Option (Bool)) (h2 : ∀ (x0 : ByteArray) (x1 : Int), l33 jn m [1, 1, 0, 1, 0] [] M2 ⟨tsOf [(0, (.dat 9 (.str x0))), (3, (.dat 3 (.int x1)))], [], 0⟩ = rec2 x0 x1) (x0 : ByteArray) (x1 : Int) : e33 jn m [1, 1, 0, 1, 0, 0, 1] [M2] ⟨tsOf [(0, (.dat 9 (.str x0))), (3, (.dat 3 (.int x1)))], [], 0⟩ = ref01_Name_j3 m rec2 x0 x1 := by
  have h : ∀ J, e33 J m [1, 1, 0, 1, 0, 0, 1] [M2] ⟨tsOf [(0, (.dat 9 (.str x0))), (3, (.dat 3 (.int x1)))], [], 0⟩ =
    ((idxS x0 x1).bind fun v1 =>
      (bif (decide (v1 < (33 : Int))) then
        some Bool.false
      else
        ((idxS x0 x1).bind fun v2 =>
          (bif (decide ((126 : Int) < v2)) then
            some Bool.false
          else
            ((idxS x0 x1).bind fun v3 =>
              (bif (v3 == (46 : Int)) then
                some Bool.false
              else
                (J 0 5 0 ⟨tsOf [(0, (.dat 9 (.str x0))), (3, (.dat 3 (.int x1)))], [], 0⟩ (e33 J m [1, 1, 0, 1, 0, 0, 1, 1] [M2] ⟨tsOf [(0, (.dat 9 (.str x0))), (3, (.dat 3 (.int x1)))], [], 0⟩)))))))) := fun J => by kernel_rfl
  exact (h jn).trans (by
    simp only [jn_eq, ref01_Name_j4_eq m M2 rec2 h2]
    rfl)
theorem ref01_Name_j5_eq (m : Nat) : e33 jn m [1, 1, 1] [] ⟨tsOf [], [], 0⟩ = ref01_Name_j5 m := by
  have h : ∀ J, e33 J m [1, 1, 1] [] ⟨tsOf [], [], 0⟩ =
    some Bool.true := fun J => by kernel_rfl
  exact (h jn).trans (rfl)
theorem ref01_Name_l2_eq (m : Nat) : ∀ (M2 : Nat) (x0 : ByteArray) (x1 : Int), l33 jn m [1, 1, 0, 1, 0] [] M2 ⟨tsOf [(0, (.dat 9 (.str x0))), (3, (.dat 3 (.int x1)))], [], 0⟩ = ref01_Name_l2 m M2 x0 x1
  | 0, _, _ => rfl
  | M2 + 1, x0, x1 => by
    have h : ∀ J, l33 J m [1, 1, 0, 1, 0] [] (M2 + 1) ⟨tsOf [(0, (.dat 9 (.str x0))), (3, (.dat 3 (.int x1)))], [], 0⟩ =
    (bif (decide (x1 < (((ByteArray.size x0) : Nat) : Int))) then
      (J 0 6 0 ⟨tsOf [(0, (.dat 9 (.str x0))), (3, (.dat 3 (.int x1)))], [], 0⟩ (e33 J m [1, 1, 0, 1, 0, 0, 1] [M2] ⟨tsOf [(0, (.dat 9 (.str x0))), (3, (.dat 3 (.int x1)))], [], 0⟩))
    else
      (J 0 8 0 ⟨tsOf [], [], 0⟩ (e33 J m [1, 1, 1] [] ⟨tsOf [], [], 0⟩))) := fun J => by kernel_rfl
    refine (h jn).trans ?_
    simp only [jn_eq, ref01_Name_j3_eq m M2 (ref01_Name_l2 m M2) (fun x0 x1 => ref01_Name_l2_eq m M2 x0 x1), ref01_Name_j5_eq m]
    rfl
theorem ref01_Name_j1_eq (m : Nat) (x0 : ByteArray) (x1 : Int) : e33 jn m [1, 1, 0, 1] [] ⟨tsOf [(0, (.dat 9 (.str x0))), (3, (.dat 3 (.int x1)))], [], 0⟩ = ref01_Name_j1 m x0 x1 := by
  have h : ∀ J, e33 J m [1, 1, 0, 1] [] ⟨tsOf [(0, (.dat 9 (.str x0))), (3, (.dat 3 (.int x1)))], [], 0⟩ =
    (J 1 4 (Nat.succ m) ⟨tsOf [(0, (.dat 9 (.str x0))), (3, (.dat 3 (.int x1)))], [], 0⟩ (l33 J m [1, 1, 0, 1, 0] [] (Nat.succ m) ⟨tsOf [(0, (.dat 9 (.str x0))), (3, (.dat 3 (.int x1)))], [], 0⟩)) := fun J => by kernel_rfl
  exact (h jn).trans (by
    simp only [jn_eq, ref01_Name_l2_eq m]
    rfl)
theorem ref01_Name_j0_eq (m : Nat) (x0 : ByteArray) : e33 jn m [1, 1] [] ⟨tsOf [(0, (.dat 9 (.str x0)))], [], 0⟩ = ref01_Name_j0 m x0 := by
  have h : ∀ J, e33 J m [1, 1] [] ⟨tsOf [(0, (.dat 9 (.str x0)))], [], 0⟩ =
    (J 0 4 0 ⟨tsOf [(0, (.dat 9 (.str x0))), (3, (.dat 3 (.int (0 : Int))))], [], 0⟩ (e33 J m [1, 1, 0, 1] [] ⟨tsOf [(0, (.dat 9 (.str x0))), (3, (.dat 3 (.int (0 : Int))))], [], 0⟩)) := fun J => by kernel_rfl
  exact (h jn).trans (by
    simp only [jn_eq, ref01_Name_j1_eq m]
    rfl)
theorem ref01_Name_eq (m : Nat) (a0 : ByteArray) : e33 jn m [] [] ⟨[(.dat 9 (.str a0))], [], 0⟩ = ref01_Name (m + 1) a0 := by
  have h : ∀ J, e33 J m [] [] ⟨[(.dat 9 (.str a0))], [], 0⟩ =
    (bif (decide ((((ByteArray.size a0) : Nat) : Int) < (1 : Int))) then
      some Bool.false
    else
      (bif (decide ((32 : Int) < (((ByteArray.size a0) : Nat) : Int))) then
        some Bool.false
      else
        ((idxS a0 (0 : Int)).bind fun v0 =>
          (bif (v0 == (36 : Int)) then
            some Bool.false
          else
            (J 0 3 0 ⟨tsOf [(0, (.dat 9 (.str a0)))], [], 0⟩ (e33 J m [1, 1] [] ⟨tsOf [(0, (.dat 9 (.str a0)))], [], 0⟩)))))) := fun J => by kernel_rfl
  refine (h jn).trans ?_
  simp only [jn_eq, ref01_Name_j0_eq m]
  rfl
noncomputable def d12 (q : Res) : Option (Bool) := match q with
  | (.dat T0 x0, []) => bif Nat.beq T0 4 then some x0.toBool else none
  | _ => none
theorem d12_sim {b : Res} {r : Bool} (h : d12 b = some r) : Sim Tryd.prog b ((.dat 4 (.bool r)), []) := by
  unfold d12 at h
  split at h
  · obtain ⟨hc, h2⟩ := bif_some h
    cases h2
    have e0 := beq_eq hc
    subst e0
    exact Sim.of (.of (.dat (.bool Tryd.underlying4)) rfl rfl) .nil
  · cases h
noncomputable def e12 (J : Nat → Nat → Nat → St → Option (Bool) → Option (Bool)) (m : Nat) (p ms : List Nat) (σ : St) := evAt Tryd.prog env (ct m) J (m + 1) 18 24 Tryd.f18 d12 p ms σ
noncomputable def l12 (J : Nat → Nat → Nat → St → Option (Bool) → Option (Bool)) (m : Nat) (p ms : List Nat) (M : Nat) (σ : St) := loopAt Tryd.prog env (ct m) J (m + 1) 18 24 Tryd.f18 d12 p ms M σ
theorem ref04_Valid_j4_eq (m : Nat) (M2 : Nat) (rec2 : List Dt → Int → Option (Bool)) (h2 : ∀ (x0 : List Dt) (x1 : Int), l12 jn m [1, 1, 0, 1, 0] [] M2 ⟨tsOf [(0, (.dat 23 (.lst x0))), (3, (.dat 3 (.int x1)))], [], 0⟩ = rec2 x0 x1) (x0 : List Dt) (x1 : Int) : e12 jn m [1, 1, 0, 1, 0, 0, 1, 1] [M2] ⟨tsOf [(0, (.dat 23 (.lst x0))), (3, (.dat 3 (.int x1)))], [], 0⟩ = ref04_Valid_j4 m rec2 x0 x1 := by
  have h : ∀ J, e12 J m [1, 1, 0, 1, 0, 0, 1, 1] [M2] ⟨tsOf [(0, (.dat 23 (.lst x0))), (3, (.dat 3 (.int x1)))], [], 0⟩ =
    (J 1 4 M2 ⟨tsOf [(0, (.dat 23 (.lst x0))), (3, (.dat 3 (.int (IntKind.wrap IntKind.i64 (x1 + (1 : Int))))))], [], 0⟩ (l12 J m [1, 1, 0, 1, 0] [] M2 ⟨tsOf [(0, (.dat 23 (.lst x0))), (3, (.dat 3 (.int (IntKind.wrap IntKind.i64 (x1 + (1 : Int))))))], [], 0⟩)) := fun J => by kernel_rfl
  exact (h jn).trans (by
    simp only [jn_eq, h2]
    rfl)
theorem ref04_Valid_j3_eq (m : Nat) (M2 : Nat) (rec2 : List Dt → Int → Option (Bool)) (h2 : ∀ (x0 : List Dt) (x1 : Int), l12 jn m [1, 1, 0, 1, 0] [] M2 ⟨tsOf [(0, (.dat 23 (.lst x0))), (3, (.dat 3 (.int x1)))], [], 0⟩ = rec2 x0 x1) (x0 : List Dt) (x1 : Int) : e12 jn m [1, 1, 0, 1, 0, 0, 1] [M2] ⟨tsOf [(0, (.dat 23 (.lst x0))), (3, (.dat 3 (.int x1)))], [], 0⟩ = ref04_Valid_j3 m rec2 x0 x1 := by
  have h : ∀ J, e12 J m [1, 1, 0, 1, 0, 0, 1] [M2] ⟨tsOf [(0, (.dat 23 (.lst x0))), (3, (.dat 3 (.int x1)))], [], 0⟩ =
    ((idx x0 x1).bind fun v0 =>
      ((ref01_Name m (Dt.toStr v0)).bind fun r1 =>
        (bif (Bool.not r1) then
          some Bool.false
        else
          (J 0 5 0 ⟨tsOf [(0, (.dat 23 (.lst x0))), (3, (.dat 3 (.int x1)))], [], 0⟩ (e12 J m [1, 1, 0, 1, 0, 0, 1, 1] [M2] ⟨tsOf [(0, (.dat 23 (.lst x0))), (3, (.dat 3 (.int x1)))], [], 0⟩))))) := fun J => by kernel_rfl
  exact (h jn).trans (by
    simp only [jn_eq, ref04_Valid_j4_eq m M2 rec2 h2]
    rfl)
theorem ref04_Valid_j5_eq (m : Nat) : e12 jn m [1, 1, 1] [] ⟨tsOf [], [], 0⟩ = ref04_Valid_j5 m := by
  have h : ∀ J, e12 J m [1, 1, 1] [] ⟨tsOf [], [], 0⟩ =
    some Bool.true := fun J => by kernel_rfl
  exact (h jn).trans (rfl)
theorem ref04_Valid_l2_eq (m : Nat) : ∀ (M2 : Nat) (x0 : List Dt) (x1 : Int), l12 jn m [1, 1, 0, 1, 0] [] M2 ⟨tsOf [(0, (.dat 23 (.lst x0))), (3, (.dat 3 (.int x1)))], [], 0⟩ = ref04_Valid_l2 m M2 x0 x1
  | 0, _, _ => rfl
  | M2 + 1, x0, x1 => by
    have h : ∀ J, l12 J m [1, 1, 0, 1, 0] [] (M2 + 1) ⟨tsOf [(0, (.dat 23 (.lst x0))), (3, (.dat 3 (.int x1)))], [], 0⟩ =
    (bif (decide (x1 < (((List.length x0) : Nat) : Int))) then
      (J 0 6 0 ⟨tsOf [(0, (.dat 23 (.lst x0))), (3, (.dat 3 (.int x1)))], [], 0⟩ (e12 J m [1, 1, 0, 1, 0, 0, 1] [M2] ⟨tsOf [(0, (.dat 23 (.lst x0))), (3, (.dat 3 (.int x1)))], [], 0⟩))
    else
      (J 0 8 0 ⟨tsOf [], [], 0⟩ (e12 J m [1, 1, 1] [] ⟨tsOf [], [], 0⟩))) := fun J => by kernel_rfl
    refine (h jn).trans ?_
    simp only [jn_eq, ref04_Valid_j3_eq m M2 (ref04_Valid_l2 m M2) (fun x0 x1 => ref04_Valid_l2_eq m M2 x0 x1), ref04_Valid_j5_eq m]
    rfl
theorem ref04_Valid_j1_eq (m : Nat) (x0 : List Dt) (x1 : Int) : e12 jn m [1, 1, 0, 1] [] ⟨tsOf [(0, (.dat 23 (.lst x0))), (3, (.dat 3 (.int x1)))], [], 0⟩ = ref04_Valid_j1 m x0 x1 := by
  have h : ∀ J, e12 J m [1, 1, 0, 1] [] ⟨tsOf [(0, (.dat 23 (.lst x0))), (3, (.dat 3 (.int x1)))], [], 0⟩ =
    (J 1 4 (Nat.succ m) ⟨tsOf [(0, (.dat 23 (.lst x0))), (3, (.dat 3 (.int x1)))], [], 0⟩ (l12 J m [1, 1, 0, 1, 0] [] (Nat.succ m) ⟨tsOf [(0, (.dat 23 (.lst x0))), (3, (.dat 3 (.int x1)))], [], 0⟩)) := fun J => by kernel_rfl
  exact (h jn).trans (by
    simp only [jn_eq, ref04_Valid_l2_eq m]
    rfl)
theorem ref04_Valid_j0_eq (m : Nat) (x0 : List Dt) : e12 jn m [1, 1] [] ⟨tsOf [(0, (.dat 23 (.lst x0)))], [], 0⟩ = ref04_Valid_j0 m x0 := by
  have h : ∀ J, e12 J m [1, 1] [] ⟨tsOf [(0, (.dat 23 (.lst x0)))], [], 0⟩ =
    (J 0 4 0 ⟨tsOf [(0, (.dat 23 (.lst x0))), (3, (.dat 3 (.int (0 : Int))))], [], 0⟩ (e12 J m [1, 1, 0, 1] [] ⟨tsOf [(0, (.dat 23 (.lst x0))), (3, (.dat 3 (.int (0 : Int))))], [], 0⟩)) := fun J => by kernel_rfl
  exact (h jn).trans (by
    simp only [jn_eq, ref04_Valid_j1_eq m]
    rfl)
theorem ref04_Valid_eq (m : Nat) (a0 : List Dt) : e12 jn m [] [] ⟨[(.dat 23 (.lst a0))], [], 0⟩ = ref04_Valid (m + 1) a0 := by
  have h : ∀ J, e12 J m [] [] ⟨[(.dat 23 (.lst a0))], [], 0⟩ =
    (bif (decide ((((List.length a0) : Nat) : Int) < (1 : Int))) then
      some Bool.false
    else
      (bif (decide ((16 : Int) < (((List.length a0) : Nat) : Int))) then
        some Bool.false
      else
        (J 0 3 0 ⟨tsOf [(0, (.dat 23 (.lst a0)))], [], 0⟩ (e12 J m [1, 1] [] ⟨tsOf [(0, (.dat 23 (.lst a0)))], [], 0⟩)))) := fun J => by kernel_rfl
  refine (h jn).trans ?_
  simp only [jn_eq, ref04_Valid_j0_eq m]
  rfl
noncomputable def d1 (q : Res) : Option (Bool) := match q with
  | (.dat T0 x0, []) => bif Nat.beq T0 4 then some x0.toBool else none
  | _ => none
theorem d1_sim {b : Res} {r : Bool} (h : d1 b = some r) : Sim Tryd.prog b ((.dat 4 (.bool r)), []) := by
  unfold d1 at h
  split at h
  · obtain ⟨hc, h2⟩ := bif_some h
    cases h2
    have e0 := beq_eq hc
    subst e0
    exact Sim.of (.of (.dat (.bool Tryd.underlying4)) rfl rfl) .nil
  · cases h
noncomputable def e1 (J : Nat → Nat → Nat → St → Option (Bool) → Option (Bool)) (m : Nat) (p ms : List Nat) (σ : St) := evAt Tryd.prog env (ct m) J (m + 1) 4 52 Tryd.f4 d1 p ms σ
noncomputable def l1 (J : Nat → Nat → Nat → St → Option (Bool) → Option (Bool)) (m : Nat) (p ms : List Nat) (M : Nat) (σ : St) := loopAt Tryd.prog env (ct m) J (m + 1) 4 52 Tryd.f4 d1 p ms M σ
theorem law04_PathTexts_j4_eq (m : Nat) (M2 : Nat) (rec2 : List Dt → List Dt → Int → Int → Option (Bool)) (h2 : ∀ (x0 : List Dt) (x1 : List Dt) (x2 : Int) (x3 : Int), l1 jn m [1, 1, 0, 1, 0] [] M2 ⟨tsOf [(0, (.dat 23 (.lst x0))), (12, (.dat 23 (.lst x1))), (13, (.dat 3 (.int x2))), (14, (.dat 3 (.int x3)))], [], 0⟩ = rec2 x0 x1 x2 x3) (x0 : List Dt) (x1 : List Dt) (x2 : Int) (x3 : Int) : e1 jn m [1, 1, 0, 1, 0, 0, 1, 1, 1] [M2] ⟨tsOf [(0, (.dat 23 (.lst x0))), (12, (.dat 23 (.lst x1))), (13, (.dat 3 (.int x2))), (14, (.dat 3 (.int x3)))], [], 0⟩ = law04_PathTexts_j4 m rec2 x0 x1 x2 x3 := by
  have h : ∀ J, e1 J m [1, 1, 0, 1, 0, 0, 1, 1, 1] [M2] ⟨tsOf [(0, (.dat 23 (.lst x0))), (12, (.dat 23 (.lst x1))), (13, (.dat 3 (.int x2))), (14, (.dat 3 (.int x3)))], [], 0⟩ =
    (J 1 4 M2 ⟨tsOf [(0, (.dat 23 (.lst x0))), (12, (.dat 23 (.lst x1))), (13, (.dat 3 (.int x2))), (14, (.dat 3 (.int (IntKind.wrap IntKind.i64 (x3 + (1 : Int))))))], [], 0⟩ (l1 J m [1, 1, 0, 1, 0] [] M2 ⟨tsOf [(0, (.dat 23 (.lst x0))), (12, (.dat 23 (.lst x1))), (13, (.dat 3 (.int x2))), (14, (.dat 3 (.int (IntKind.wrap IntKind.i64 (x3 + (1 : Int))))))], [], 0⟩)) := fun J => by kernel_rfl
  exact (h jn).trans (by
    simp only [jn_eq, h2]
    rfl)
theorem law04_PathTexts_j3_eq (m : Nat) (M2 : Nat) (rec2 : List Dt → List Dt → Int → Int → Option (Bool)) (h2 : ∀ (x0 : List Dt) (x1 : List Dt) (x2 : Int) (x3 : Int), l1 jn m [1, 1, 0, 1, 0] [] M2 ⟨tsOf [(0, (.dat 23 (.lst x0))), (12, (.dat 23 (.lst x1))), (13, (.dat 3 (.int x2))), (14, (.dat 3 (.int x3)))], [], 0⟩ = rec2 x0 x1 x2 x3) (x0 : List Dt) (x1 : List Dt) (x2 : Int) (x3 : Int) : e1 jn m [1, 1, 0, 1, 0, 0, 1, 1] [M2] ⟨tsOf [(0, (.dat 23 (.lst x0))), (12, (.dat 23 (.lst x1))), (13, (.dat 3 (.int x2))), (14, (.dat 3 (.int x3)))], [], 0⟩ = law04_PathTexts_j3 m rec2 x0 x1 x2 x3 := by
  have h : ∀ J, e1 J m [1, 1, 0, 1, 0, 0, 1, 1] [M2] ⟨tsOf [(0, (.dat 23 (.lst x0))), (12, (.dat 23 (.lst x1))), (13, (.dat 3 (.int x2))), (14, (.dat 3 (.int x3)))], [], 0⟩ =
    ((idx x1 x3).bind fun v1 =>
      (bif (decide ((100 : Int) < (((ByteArray.size (Dt.toStr v1)) : Nat) : Int))) then
        ((awakeC).bind fun r2 =>
          some r2)
      else
        (J 0 8 0 ⟨tsOf [(0, (.dat 23 (.lst x0))), (12, (.dat 23 (.lst x1))), (13, (.dat 3 (.int x2))), (14, (.dat 3 (.int x3)))], [], 0⟩ (e1 J m [1, 1, 0, 1, 0, 0, 1, 1, 1] [M2] ⟨tsOf [(0, (.dat 23 (.lst x0))), (12, (.dat 23 (.lst x1))), (13, (.dat 3 (.int x2))), (14, (.dat 3 (.int x3)))], [], 0⟩)))) := fun J => by kernel_rfl
  exact (h jn).trans (by
    simp only [jn_eq, law04_PathTexts_j4_eq m M2 rec2 h2]
    rfl)
theorem law04_PathTexts_j7_eq (m : Nat) : e1 jn m [1, 1, 1, 1, 1, 1] [] ⟨tsOf [], [], 0⟩ = law04_PathTexts_j7 m := by
  have h : ∀ J, e1 J m [1, 1, 1, 1, 1, 1] [] ⟨tsOf [], [], 0⟩ =
    ((awakeC).bind fun r10 =>
      some r10) := fun J => by kernel_rfl
  exact (h jn).trans (rfl)
theorem law04_PathTexts_j6_eq (m : Nat) (x0 : List Dt) (x1 : Bool) : e1 jn m [1, 1, 1, 1, 1] [] ⟨tsOf [(0, (.dat 23 (.lst x0))), (5, (.dat 4 (.bool x1)))], [], 0⟩ = law04_PathTexts_j6 m x0 x1 := by
  have h : ∀ J, e1 J m [1, 1, 1, 1, 1] [] ⟨tsOf [(0, (.dat 23 (.lst x0))), (5, (.dat 4 (.bool x1)))], [], 0⟩ =
    (bif x1 then
      ((path_Text m x0).bind fun r7 =>
        ((path_Parse m r7).bind fun r8 =>
          (bif ((Prod.snd r8) != (0 : Int)) then
            some Bool.false
          else
            ((ref04_Same m x0 (Prod.fst r8)).bind fun r9 =>
              (bif (Bool.not r9) then
                some Bool.false
              else
                (J 0 16 0 ⟨tsOf [], [], 0⟩ (e1 J m [1, 1, 1, 1, 1, 1] [] ⟨tsOf [], [], 0⟩)))))))
    else
      (J 0 16 0 ⟨tsOf [], [], 0⟩ (e1 J m [1, 1, 1, 1, 1, 1] [] ⟨tsOf [], [], 0⟩))) := fun J => by kernel_rfl
  exact (h jn).trans (by
    simp only [jn_eq, law04_PathTexts_j7_eq m]
    rfl)
theorem law04_PathTexts_j5_eq (m : Nat) (x0 : List Dt) : e1 jn m [1, 1, 1] [] ⟨tsOf [(0, (.dat 23 (.lst x0)))], [], 0⟩ = law04_PathTexts_j5 m x0 := by
  have h : ∀ J, e1 J m [1, 1, 1] [] ⟨tsOf [(0, (.dat 23 (.lst x0)))], [], 0⟩ =
    ((ref04_Valid m x0).bind fun r3 =>
      ((path_Text m x0).bind fun r4 =>
        ((ref04_Text m x0).bind fun r5 =>
          (bif (Bool.not ((ByteArray.toList r4) == (ByteArray.toList r5))) then
            some Bool.false
          else
            ((path_Valid m x0).bind fun r6 =>
              (bif (Bool.not (r6 == r3)) then
                some Bool.false
              else
                (J 0 12 0 ⟨tsOf [(0, (.dat 23 (.lst x0))), (5, (.dat 4 (.bool r3)))], [], 0⟩ (e1 J m [1, 1, 1, 1, 1] [] ⟨tsOf [(0, (.dat 23 (.lst x0))), (5, (.dat 4 (.bool r3)))], [], 0⟩)))))))) := fun J => by kernel_rfl
  exact (h jn).trans (by
    simp only [jn_eq, law04_PathTexts_j6_eq m]
    rfl)
theorem law04_PathTexts_l2_eq (m : Nat) : ∀ (M2 : Nat) (x0 : List Dt) (x1 : List Dt) (x2 : Int) (x3 : Int), l1 jn m [1, 1, 0, 1, 0] [] M2 ⟨tsOf [(0, (.dat 23 (.lst x0))), (12, (.dat 23 (.lst x1))), (13, (.dat 3 (.int x2))), (14, (.dat 3 (.int x3)))], [], 0⟩ = law04_PathTexts_l2 m M2 x0 x1 x2 x3
  | 0, _, _, _, _ => rfl
  | M2 + 1, x0, x1, x2, x3 => by
    have h : ∀ J, l1 J m [1, 1, 0, 1, 0] [] (M2 + 1) ⟨tsOf [(0, (.dat 23 (.lst x0))), (12, (.dat 23 (.lst x1))), (13, (.dat 3 (.int x2))), (14, (.dat 3 (.int x3)))], [], 0⟩ =
    (bif (decide (x3 < x2)) then
      (J 0 5 0 ⟨tsOf [(0, (.dat 23 (.lst x0))), (12, (.dat 23 (.lst x1))), (13, (.dat 3 (.int x2))), (14, (.dat 3 (.int x3)))], [], 0⟩ (e1 J m [1, 1, 0, 1, 0, 0, 1, 1] [M2] ⟨tsOf [(0, (.dat 23 (.lst x0))), (12, (.dat 23 (.lst x1))), (13, (.dat 3 (.int x2))), (14, (.dat 3 (.int x3)))], [], 0⟩))
    else
      (J 0 9 0 ⟨tsOf [(0, (.dat 23 (.lst x0)))], [], 0⟩ (e1 J m [1, 1, 1] [] ⟨tsOf [(0, (.dat 23 (.lst x0)))], [], 0⟩))) := fun J => by kernel_rfl
    refine (h jn).trans ?_
    simp only [jn_eq, law04_PathTexts_j3_eq m M2 (law04_PathTexts_l2 m M2) (fun x0 x1 x2 x3 => law04_PathTexts_l2_eq m M2 x0 x1 x2 x3), law04_PathTexts_j5_eq m]
    rfl
theorem law04_PathTexts_j1_eq (m : Nat) (x0 : List Dt) (x1 : List Dt) (x2 : Int) (x3 : Int) : e1 jn m [1, 1, 0, 1] [] ⟨tsOf [(0, (.dat 23 (.lst x0))), (12, (.dat 23 (.lst x1))), (13, (.dat 3 (.int x2))), (14, (.dat 3 (.int x3)))], [], 0⟩ = law04_PathTexts_j1 m x0 x1 x2 x3 := by
  have h : ∀ J, e1 J m [1, 1, 0, 1] [] ⟨tsOf [(0, (.dat 23 (.lst x0))), (12, (.dat 23 (.lst x1))), (13, (.dat 3 (.int x2))), (14, (.dat 3 (.int x3)))], [], 0⟩ =
    (J 1 4 (Nat.succ m) ⟨tsOf [(0, (.dat 23 (.lst x0))), (12, (.dat 23 (.lst x1))), (13, (.dat 3 (.int x2))), (14, (.dat 3 (.int x3)))], [], 0⟩ (l1 J m [1, 1, 0, 1, 0] [] (Nat.succ m) ⟨tsOf [(0, (.dat 23 (.lst x0))), (12, (.dat 23 (.lst x1))), (13, (.dat 3 (.int x2))), (14, (.dat 3 (.int x3)))], [], 0⟩)) := fun J => by kernel_rfl
  exact (h jn).trans (by
    simp only [jn_eq, law04_PathTexts_l2_eq m]
    rfl)
theorem law04_PathTexts_j0_eq (m : Nat) (x0 : List Dt) : e1 jn m [1, 1] [] ⟨tsOf [(0, (.dat 23 (.lst x0)))], [], 0⟩ = law04_PathTexts_j0 m x0 := by
  have h : ∀ J, e1 J m [1, 1] [] ⟨tsOf [(0, (.dat 23 (.lst x0)))], [], 0⟩ =
    (J 0 4 0 ⟨tsOf [(0, (.dat 23 (.lst x0))), (12, (.dat 23 (.lst x0))), (13, (.dat 3 (.int (((List.length x0) : Nat) : Int)))), (14, (.dat 3 (.int (0 : Int))))], [], 0⟩ (e1 J m [1, 1, 0, 1] [] ⟨tsOf [(0, (.dat 23 (.lst x0))), (12, (.dat 23 (.lst x0))), (13, (.dat 3 (.int (((List.length x0) : Nat) : Int)))), (14, (.dat 3 (.int (0 : Int))))], [], 0⟩)) := fun J => by kernel_rfl
  exact (h jn).trans (by
    simp only [jn_eq, law04_PathTexts_j1_eq m]
    rfl)
theorem law04_PathTexts_eq (m : Nat) (a0 : List Dt) : e1 jn m [] [] ⟨[(.dat 23 (.lst a0))], [], 0⟩ = law04_PathTexts (m + 1) a0 := by
  have h : ∀ J, e1 J m [] [] ⟨[(.dat 23 (.lst a0))], [], 0⟩ =
    (bif (decide ((100 : Int) < (((List.length a0) : Nat) : Int))) then
      ((awakeC).bind fun r0 =>
        some r0)
    else
      (J 0 3 0 ⟨tsOf [(0, (.dat 23 (.lst a0)))], [], 0⟩ (e1 J m [1, 1] [] ⟨tsOf [(0, (.dat 23 (.lst a0)))], [], 0⟩))) := fun J => by kernel_rfl
  refine (h jn).trans ?_
  simp only [jn_eq, law04_PathTexts_j0_eq m]
  rfl
noncomputable def d8 (q : Res) : Option (List Dt × Int) := match q with
  | (.tup [.dat T0 x0, .dat T1 x1], []) => bif (Nat.beq T0 23 && Nat.beq T1 24) then some (x0.toLst, x1.toInt) else none
  | _ => none
theorem d8_sim {b : Res} {r : List Dt × Int} (h : d8 b = some r) : Sim Tryd.prog b ((.tup [(.dat 23 (.lst r.1)), (.dat 24 (.int r.2))]), []) := by
  unfold d8 at h
  split at h
  · obtain ⟨hc, h2⟩ := bif_some h
    cases h2
    have e0 := beq_eq (and_l hc)
    have e1 := beq_eq (and_r hc)
    subst e0 e1
    exact Sim.of (.tup (.cons (.dat (.lst Tryd.underlying23)) (.cons (.dat (.int Tryd.underlying24)) .nil))) .nil
  · cases h
noncomputable def e8 (J : Nat → Nat → Nat → St → Option (List Dt × Int) → Option (List Dt × Int)) (m : Nat) (p ms : List Nat) (σ : St) := evAt Tryd.prog env (ct m) J (m + 1) 14 11 Tryd.f14 d8 p ms σ
noncomputable def l8 (J : Nat → Nat → Nat → St → Option (List Dt × Int) → Option (List Dt × Int)) (m : Nat) (p ms : List Nat) (M : Nat) (σ : St) := loopAt Tryd.prog env (ct m) J (m + 1) 14 11 Tryd.f14 d8 p ms M σ
theorem ref04_Parse_j0_eq (m : Nat) (x0 : List Dt) : e8 jn m [1, 1, 1] [] ⟨tsOf [(4, (.dat 23 (.lst x0)))], [], 0⟩ = ref04_Parse_j0 m x0 := by
  have h : ∀ J, e8 J m [1, 1, 1] [] ⟨tsOf [(4, (.dat 23 (.lst x0)))], [], 0⟩ =
    some (x0, (0 : Int)) := fun J => by kernel_rfl
  exact (h jn).trans (rfl)
theorem ref04_Parse_eq (m : Nat) (a0 : ByteArray) : e8 jn m [] [] ⟨[(.dat 9 (.str a0))], [], 0⟩ = ref04_Parse (m + 1) a0 := by
  have h : ∀ J, e8 J m [] [] ⟨[(.dat 9 (.str a0))], [], 0⟩ =
    ((ref04_split m a0).bind fun r0 =>
      ((ref04_Valid m r0).bind fun r1 =>
        (bif (Bool.not r1) then
          some ([], (10 : Int))
        else
          (J 0 4 0 ⟨tsOf [(4, (.dat 23 (.lst r0)))], [], 0⟩ (e8 J m [1, 1, 1] [] ⟨tsOf [(4, (.dat 23 (.lst r0)))], [], 0⟩))))) := fun J => by kernel_rfl
  refine (h jn).trans ?_
  simp only [jn_eq, ref04_Parse_j0_eq m]
  rfl
noncomputable def d0 (q : Res) : Option (Bool) := match q with
  | (.dat T0 x0, []) => bif Nat.beq T0 4 then some x0.toBool else none
  | _ => none
theorem d0_sim {b : Res} {r : Bool} (h : d0 b = some r) : Sim Tryd.prog b ((.dat 4 (.bool r)), []) := by
  unfold d0 at h
  split at h
  · obtain ⟨hc, h2⟩ := bif_some h
    cases h2
    have e0 := beq_eq hc
    subst e0
    exact Sim.of (.of (.dat (.bool Tryd.underlying4)) rfl rfl) .nil
  · cases h
noncomputable def e0 (J : Nat → Nat → Nat → St → Option (Bool) → Option (Bool)) (m : Nat) (p ms : List Nat) (σ : St) := evAt Tryd.prog env (ct m) J (m + 1) 3 46 Tryd.f3 d0 p ms σ
noncomputable def l0 (J : Nat → Nat → Nat → St → Option (Bool) → Option (Bool)) (m : Nat) (p ms : List Nat) (M : Nat) (σ : St) := loopAt Tryd.prog env (ct m) J (m + 1) 3 46 Tryd.f3 d0 p ms M σ
theorem law04_PathParses_j1_eq (m : Nat) : e0 jn m [1, 1, 1, 1, 1] [] ⟨tsOf [], [], 0⟩ = law04_PathParses_j1 m := by
  have h : ∀ J, e0 J m [1, 1, 1, 1, 1] [] ⟨tsOf [], [], 0⟩ =
    ((awakeC).bind fun r6 =>
      some r6) := fun J => by kernel_rfl
  exact (h jn).trans (rfl)
theorem law04_PathParses_j0_eq (m : Nat) (x0 : ByteArray) : e0 jn m [1, 1] [] ⟨tsOf [(0, (.dat 9 (.str x0)))], [], 0⟩ = law04_PathParses_j0 m x0 := by
  have h : ∀ J, e0 J m [1, 1] [] ⟨tsOf [(0, (.dat 9 (.str x0)))], [], 0⟩ =
    ((path_Parse m x0).bind fun r1 =>
      ((ref04_Parse m x0).bind fun r2 =>
        (bif ((Prod.snd r1) != (Prod.snd r2)) then
          some Bool.false
        else
          ((ref04_Same m (Prod.fst r1) (Prod.fst r2)).bind fun r3 =>
            (bif (Bool.not r3) then
              some Bool.false
            else
              (bif ((Prod.snd r1) == (0 : Int)) then
                ((path_Text m (Prod.fst r1)).bind fun r4 =>
                  (bif (Bool.not ((ByteArray.toList r4) == (ByteArray.toList x0))) then
                    some Bool.false
                  else
                    ((path_Valid m (Prod.fst r1)).bind fun r5 =>
                      (bif (Bool.not r5) then
                        some Bool.false
                      else
                        (J 0 7 0 ⟨tsOf [], [], 0⟩ (e0 J m [1, 1, 1, 1, 1] [] ⟨tsOf [], [], 0⟩))))))
              else
                (J 0 7 0 ⟨tsOf [], [], 0⟩ (e0 J m [1, 1, 1, 1, 1] [] ⟨tsOf [], [], 0⟩)))))))) := fun J => by kernel_rfl
  exact (h jn).trans (by
    simp only [jn_eq, law04_PathParses_j1_eq m]
    rfl)
theorem law04_PathParses_eq (m : Nat) (a0 : ByteArray) : e0 jn m [] [] ⟨[(.dat 9 (.str a0))], [], 0⟩ = law04_PathParses (m + 1) a0 := by
  have h : ∀ J, e0 J m [] [] ⟨[(.dat 9 (.str a0))], [], 0⟩ =
    (bif (decide ((2000 : Int) < (((ByteArray.size a0) : Nat) : Int))) then
      ((awakeC).bind fun r0 =>
        some r0)
    else
      (J 0 3 0 ⟨tsOf [(0, (.dat 9 (.str a0)))], [], 0⟩ (e0 J m [1, 1] [] ⟨tsOf [(0, (.dat 9 (.str a0)))], [], 0⟩))) := fun J => by kernel_rfl
  refine (h jn).trans ?_
  simp only [jn_eq, law04_PathParses_j0_eq m]
  rfl
noncomputable def d34 (q : Res) : Option (Bool) := match q with
  | (.dat T0 x0, []) => bif Nat.beq T0 4 then some x0.toBool else none
  | _ => none
theorem d34_sim {b : Res} {r : Bool} (h : d34 b = some r) : Sim Tryd.prog b ((.dat 4 (.bool r)), []) := by
  unfold d34 at h
  split at h
  · obtain ⟨hc, h2⟩ := bif_some h
    cases h2
    have e0 := beq_eq hc
    subst e0
    exact Sim.of (.of (.dat (.bool Tryd.underlying4)) rfl rfl) .nil
  · cases h
noncomputable def e34 (J : Nat → Nat → Nat → St → Option (Bool) → Option (Bool)) (m : Nat) (p ms : List Nat) (σ : St) := evAt Tryd.prog env (ct m) J (m + 1) 63 26 Tryd.f63 d34 p ms σ
noncomputable def l34 (J : Nat → Nat → Nat → St → Option (Bool) → Option (Bool)) (m : Nat) (p ms : List Nat) (M : Nat) (σ : St) := loopAt Tryd.prog env (ct m) J (m + 1) 63 26 Tryd.f63 d34 p ms M σ
theorem slices_Equal_j4_eq (m : Nat) (M2 : Nat) (rec2 : List Dt → List Dt → Int → Int → Option (Bool)) (h2 : ∀ (x0 : List Dt) (x1 : List Dt) (x2 : Int) (x3 : Int), l34 jn m [1, 1, 0, 1, 0] [] M2 ⟨tsOf [(0, (.dat 23 (.lst x0))), (1, (.dat 23 (.lst x1))), (12, (.dat 3 (.int x2))), (13, (.dat 3 (.int x3)))], [], 0⟩ = rec2 x0 x1 x2 x3) (x0 : List Dt) (x1 : List Dt) (x2 : Int) (x3 : Int) : e34 jn m [1, 1, 0, 1, 0, 0, 1, 1, 1] [M2] ⟨tsOf [(0, (.dat 23 (.lst x0))), (1, (.dat 23 (.lst x1))), (12, (.dat 3 (.int x2))), (13, (.dat 3 (.int x3)))], [], 0⟩ = slices_Equal_j4 m rec2 x0 x1 x2 x3 := by
  have h : ∀ J, e34 J m [1, 1, 0, 1, 0, 0, 1, 1, 1] [M2] ⟨tsOf [(0, (.dat 23 (.lst x0))), (1, (.dat 23 (.lst x1))), (12, (.dat 3 (.int x2))), (13, (.dat 3 (.int x3)))], [], 0⟩ =
    (J 1 4 M2 ⟨tsOf [(0, (.dat 23 (.lst x0))), (1, (.dat 23 (.lst x1))), (12, (.dat 3 (.int x2))), (13, (.dat 3 (.int (IntKind.wrap IntKind.i64 (x3 + (1 : Int))))))], [], 0⟩ (l34 J m [1, 1, 0, 1, 0] [] M2 ⟨tsOf [(0, (.dat 23 (.lst x0))), (1, (.dat 23 (.lst x1))), (12, (.dat 3 (.int x2))), (13, (.dat 3 (.int (IntKind.wrap IntKind.i64 (x3 + (1 : Int))))))], [], 0⟩)) := fun J => by kernel_rfl
  exact (h jn).trans (by
    simp only [jn_eq, h2]
    rfl)
theorem slices_Equal_j3_eq (m : Nat) (M2 : Nat) (rec2 : List Dt → List Dt → Int → Int → Option (Bool)) (h2 : ∀ (x0 : List Dt) (x1 : List Dt) (x2 : Int) (x3 : Int), l34 jn m [1, 1, 0, 1, 0] [] M2 ⟨tsOf [(0, (.dat 23 (.lst x0))), (1, (.dat 23 (.lst x1))), (12, (.dat 3 (.int x2))), (13, (.dat 3 (.int x3)))], [], 0⟩ = rec2 x0 x1 x2 x3) (x0 : List Dt) (x1 : List Dt) (x2 : Int) (x3 : Int) : e34 jn m [1, 1, 0, 1, 0, 0, 1, 1] [M2] ⟨tsOf [(0, (.dat 23 (.lst x0))), (1, (.dat 23 (.lst x1))), (12, (.dat 3 (.int x2))), (13, (.dat 3 (.int x3)))], [], 0⟩ = slices_Equal_j3 m rec2 x0 x1 x2 x3 := by
  have h : ∀ J, e34 J m [1, 1, 0, 1, 0, 0, 1, 1] [M2] ⟨tsOf [(0, (.dat 23 (.lst x0))), (1, (.dat 23 (.lst x1))), (12, (.dat 3 (.int x2))), (13, (.dat 3 (.int x3)))], [], 0⟩ =
    ((idx x0 x3).bind fun v0 =>
      ((idx x1 x3).bind fun v1 =>
        (bif (Bool.not ((ByteArray.toList (Dt.toStr v0)) == (ByteArray.toList (Dt.toStr v1)))) then
          some Bool.false
        else
          (J 0 8 0 ⟨tsOf [(0, (.dat 23 (.lst x0))), (1, (.dat 23 (.lst x1))), (12, (.dat 3 (.int x2))), (13, (.dat 3 (.int x3)))], [], 0⟩ (e34 J m [1, 1, 0, 1, 0, 0, 1, 1, 1] [M2] ⟨tsOf [(0, (.dat 23 (.lst x0))), (1, (.dat 23 (.lst x1))), (12, (.dat 3 (.int x2))), (13, (.dat 3 (.int x3)))], [], 0⟩))))) := fun J => by kernel_rfl
  exact (h jn).trans (by
    simp only [jn_eq, slices_Equal_j4_eq m M2 rec2 h2]
    rfl)
theorem slices_Equal_j5_eq (m : Nat) : e34 jn m [1, 1, 1] [] ⟨tsOf [], [], 0⟩ = slices_Equal_j5 m := by
  have h : ∀ J, e34 J m [1, 1, 1] [] ⟨tsOf [], [], 0⟩ =
    some Bool.true := fun J => by kernel_rfl
  exact (h jn).trans (rfl)
theorem slices_Equal_l2_eq (m : Nat) : ∀ (M2 : Nat) (x0 : List Dt) (x1 : List Dt) (x2 : Int) (x3 : Int), l34 jn m [1, 1, 0, 1, 0] [] M2 ⟨tsOf [(0, (.dat 23 (.lst x0))), (1, (.dat 23 (.lst x1))), (12, (.dat 3 (.int x2))), (13, (.dat 3 (.int x3)))], [], 0⟩ = slices_Equal_l2 m M2 x0 x1 x2 x3
  | 0, _, _, _, _ => rfl
  | M2 + 1, x0, x1, x2, x3 => by
    have h : ∀ J, l34 J m [1, 1, 0, 1, 0] [] (M2 + 1) ⟨tsOf [(0, (.dat 23 (.lst x0))), (1, (.dat 23 (.lst x1))), (12, (.dat 3 (.int x2))), (13, (.dat 3 (.int x3)))], [], 0⟩ =
    (bif (decide (x3 < x2)) then
      (J 0 5 0 ⟨tsOf [(0, (.dat 23 (.lst x0))), (1, (.dat 23 (.lst x1))), (12, (.dat 3 (.int x2))), (13, (.dat 3 (.int x3)))], [], 0⟩ (e34 J m [1, 1, 0, 1, 0, 0, 1, 1] [M2] ⟨tsOf [(0, (.dat 23 (.lst x0))), (1, (.dat 23 (.lst x1))), (12, (.dat 3 (.int x2))), (13, (.dat 3 (.int x3)))], [], 0⟩))
    else
      (J 0 9 0 ⟨tsOf [], [], 0⟩ (e34 J m [1, 1, 1] [] ⟨tsOf [], [], 0⟩))) := fun J => by kernel_rfl
    refine (h jn).trans ?_
    simp only [jn_eq, slices_Equal_j3_eq m M2 (slices_Equal_l2 m M2) (fun x0 x1 x2 x3 => slices_Equal_l2_eq m M2 x0 x1 x2 x3), slices_Equal_j5_eq m]
    rfl
theorem slices_Equal_j1_eq (m : Nat) (x0 : List Dt) (x1 : List Dt) (x2 : Int) (x3 : Int) : e34 jn m [1, 1, 0, 1] [] ⟨tsOf [(0, (.dat 23 (.lst x0))), (1, (.dat 23 (.lst x1))), (12, (.dat 3 (.int x2))), (13, (.dat 3 (.int x3)))], [], 0⟩ = slices_Equal_j1 m x0 x1 x2 x3 := by
  have h : ∀ J, e34 J m [1, 1, 0, 1] [] ⟨tsOf [(0, (.dat 23 (.lst x0))), (1, (.dat 23 (.lst x1))), (12, (.dat 3 (.int x2))), (13, (.dat 3 (.int x3)))], [], 0⟩ =
    (J 1 4 (Nat.succ m) ⟨tsOf [(0, (.dat 23 (.lst x0))), (1, (.dat 23 (.lst x1))), (12, (.dat 3 (.int x2))), (13, (.dat 3 (.int x3)))], [], 0⟩ (l34 J m [1, 1, 0, 1, 0] [] (Nat.succ m) ⟨tsOf [(0, (.dat 23 (.lst x0))), (1, (.dat 23 (.lst x1))), (12, (.dat 3 (.int x2))), (13, (.dat 3 (.int x3)))], [], 0⟩)) := fun J => by kernel_rfl
  exact (h jn).trans (by
    simp only [jn_eq, slices_Equal_l2_eq m]
    rfl)
theorem slices_Equal_j0_eq (m : Nat) (x0 : List Dt) (x1 : List Dt) : e34 jn m [1, 1] [] ⟨tsOf [(0, (.dat 23 (.lst x0))), (1, (.dat 23 (.lst x1)))], [], 0⟩ = slices_Equal_j0 m x0 x1 := by
  have h : ∀ J, e34 J m [1, 1] [] ⟨tsOf [(0, (.dat 23 (.lst x0))), (1, (.dat 23 (.lst x1)))], [], 0⟩ =
    (J 0 4 0 ⟨tsOf [(0, (.dat 23 (.lst x0))), (1, (.dat 23 (.lst x1))), (12, (.dat 3 (.int (((List.length x0) : Nat) : Int)))), (13, (.dat 3 (.int (0 : Int))))], [], 0⟩ (e34 J m [1, 1, 0, 1] [] ⟨tsOf [(0, (.dat 23 (.lst x0))), (1, (.dat 23 (.lst x1))), (12, (.dat 3 (.int (((List.length x0) : Nat) : Int)))), (13, (.dat 3 (.int (0 : Int))))], [], 0⟩)) := fun J => by kernel_rfl
  exact (h jn).trans (by
    simp only [jn_eq, slices_Equal_j1_eq m]
    rfl)
theorem slices_Equal_eq (m : Nat) (a0 : List Dt) (a1 : List Dt) : e34 jn m [] [] ⟨[(.dat 23 (.lst a0)), (.dat 23 (.lst a1))], [], 0⟩ = slices_Equal (m + 1) a0 a1 := by
  have h : ∀ J, e34 J m [] [] ⟨[(.dat 23 (.lst a0)), (.dat 23 (.lst a1))], [], 0⟩ =
    (bif ((((List.length a0) : Nat) : Int) != (((List.length a1) : Nat) : Int)) then
      some Bool.false
    else
      (J 0 3 0 ⟨tsOf [(0, (.dat 23 (.lst a0))), (1, (.dat 23 (.lst a1)))], [], 0⟩ (e34 J m [1, 1] [] ⟨tsOf [(0, (.dat 23 (.lst a0))), (1, (.dat 23 (.lst a1)))], [], 0⟩))) := fun J => by kernel_rfl
  refine (h jn).trans ?_
  simp only [jn_eq, slices_Equal_j0_eq m]
  rfl
noncomputable def d16 (q : Res) : Option (Bool) := match q with
  | (.dat T0 x0, []) => bif Nat.beq T0 4 then some x0.toBool else none
  | _ => none
theorem d16_sim {b : Res} {r : Bool} (h : d16 b = some r) : Sim Tryd.prog b ((.dat 4 (.bool r)), []) := by
  unfold d16 at h
  split at h
  · obtain ⟨hc, h2⟩ := bif_some h
    cases h2
    have e0 := beq_eq hc
    subst e0
    exact Sim.of (.of (.dat (.bool Tryd.underlying4)) rfl rfl) .nil
  · cases h
noncomputable def e16 (J : Nat → Nat → Nat → St → Option (Bool) → Option (Bool)) (m : Nat) (p ms : List Nat) (σ : St) := evAt Tryd.prog env (ct m) J (m + 1) 34 18 Tryd.f34 d16 p ms σ
noncomputable def l16 (J : Nat → Nat → Nat → St → Option (Bool) → Option (Bool)) (m : Nat) (p ms : List Nat) (M : Nat) (σ : St) := loopAt Tryd.prog env (ct m) J (m + 1) 34 18 Tryd.f34 d16 p ms M σ
theorem path_Overlap_eq (m : Nat) (a0 : List Dt) (a1 : List Dt) : e16 jn m [] [] ⟨[(.dat 23 (.lst a0)), (.dat 23 (.lst a1))], [], 0⟩ = path_Overlap (m + 1) a0 a1 := by
  have h : ∀ J, e16 J m [] [] ⟨[(.dat 23 (.lst a0)), (.dat 23 (.lst a1))], [], 0⟩ =
    ((cutL a0 (0 : Int) (bif (decide ((((List.length a1) : Nat) : Int) < (((List.length a0) : Nat) : Int))) then (((List.length a1) : Nat) : Int) else (((List.length a0) : Nat) : Int))).bind fun v0 =>
      ((cutL a1 (0 : Int) (bif (decide ((((List.length a1) : Nat) : Int) < (((List.length a0) : Nat) : Int))) then (((List.length a1) : Nat) : Int) else (((List.length a0) : Nat) : Int))).bind fun v1 =>
        ((slices_Equal m v0 v1).bind fun r2 =>
          some r2))) := fun J => by kernel_rfl
  refine (h jn).trans ?_
  
  rfl
noncomputable def d3 (q : Res) : Option (Bool) := match q with
  | (.dat T0 x0, []) => bif Nat.beq T0 4 then some x0.toBool else none
  | _ => none
theorem d3_sim {b : Res} {r : Bool} (h : d3 b = some r) : Sim Tryd.prog b ((.dat 4 (.bool r)), []) := by
  unfold d3 at h
  split at h
  · obtain ⟨hc, h2⟩ := bif_some h
    cases h2
    have e0 := beq_eq hc
    subst e0
    exact Sim.of (.of (.dat (.bool Tryd.underlying4)) rfl rfl) .nil
  · cases h
noncomputable def e3 (J : Nat → Nat → Nat → St → Option (Bool) → Option (Bool)) (m : Nat) (p ms : List Nat) (σ : St) := evAt Tryd.prog env (ct m) J (m + 1) 9 57 Tryd.f9 d3 p ms σ
noncomputable def l3 (J : Nat → Nat → Nat → St → Option (Bool) → Option (Bool)) (m : Nat) (p ms : List Nat) (M : Nat) (σ : St) := loopAt Tryd.prog env (ct m) J (m + 1) 9 57 Tryd.f9 d3 p ms M σ
theorem law04_PathOverlaps_j2_eq (m : Nat) (x0 : List Dt) (x1 : Int) : e3 jn m [1, 1, 1, 1, 1] [] ⟨tsOf [(0, (.dat 23 (.lst x0))), (2, (.dat 3 (.int x1)))], [], 0⟩ = law04_PathOverlaps_j2 m x0 x1 := by
  have h : ∀ J, e3 J m [1, 1, 1, 1, 1] [] ⟨tsOf [(0, (.dat 23 (.lst x0))), (2, (.dat 3 (.int x1)))], [], 0⟩ =
    ((cutL x0 (0 : Int) x1).bind fun v5 =>
      ((path_Overlap m x0 v5).bind fun r6 =>
        (bif r6 then
          ((cutL x0 (0 : Int) x1).bind fun v7 =>
            ((path_Overlap m v7 x0).bind fun r8 =>
              (bif r8 then
                ((awakeC).bind fun r9 =>
                  some r9)
              else
                some Bool.false)))
        else
          some Bool.false))) := fun J => by kernel_rfl
  exact (h jn).trans (rfl)
theorem law04_PathOverlaps_j1_eq (m : Nat) (x0 : List Dt) (x1 : Int) : e3 jn m [1, 1, 1, 1] [] ⟨tsOf [(0, (.dat 23 (.lst x0))), (2, (.dat 3 (.int x1)))], [], 0⟩ = law04_PathOverlaps_j1 m x0 x1 := by
  have h : ∀ J, e3 J m [1, 1, 1, 1] [] ⟨tsOf [(0, (.dat 23 (.lst x0))), (2, (.dat 3 (.int x1)))], [], 0⟩ =
    (bif (decide (x1 < (0 : Int))) then
      (J 0 8 0 ⟨tsOf [(0, (.dat 23 (.lst x0))), (2, (.dat 3 (.int (((List.length x0) : Nat) : Int))))], [], 0⟩ (e3 J m [1, 1, 1, 1, 1] [] ⟨tsOf [(0, (.dat 23 (.lst x0))), (2, (.dat 3 (.int (((List.length x0) : Nat) : Int))))], [], 0⟩))
    else
      (bif (decide ((((List.length x0) : Nat) : Int) < x1)) then
        (J 0 8 0 ⟨tsOf [(0, (.dat 23 (.lst x0))), (2, (.dat 3 (.int (((List.length x0) : Nat) : Int))))], [], 0⟩ (e3 J m [1, 1, 1, 1, 1] [] ⟨tsOf [(0, (.dat 23 (.lst x0))), (2, (.dat 3 (.int (((List.length x0) : Nat) : Int))))], [], 0⟩))
      else
        (J 0 8 0 ⟨tsOf [(0, (.dat 23 (.lst x0))), (2, (.dat 3 (.int x1)))], [], 0⟩ (e3 J m [1, 1, 1, 1, 1] [] ⟨tsOf [(0, (.dat 23 (.lst x0))), (2, (.dat 3 (.int x1)))], [], 0⟩)))) := fun J => by kernel_rfl
  exact (h jn).trans (by
    simp only [jn_eq, law04_PathOverlaps_j2_eq m]
    rfl)
theorem law04_PathOverlaps_j0_eq (m : Nat) (x0 : List Dt) (x1 : List Dt) (x2 : Int) : e3 jn m [1, 1] [] ⟨tsOf [(0, (.dat 23 (.lst x0))), (1, (.dat 23 (.lst x1))), (2, (.dat 3 (.int x2)))], [], 0⟩ = law04_PathOverlaps_j0 m x0 x1 x2 := by
  have h : ∀ J, e3 J m [1, 1] [] ⟨tsOf [(0, (.dat 23 (.lst x0))), (1, (.dat 23 (.lst x1))), (2, (.dat 3 (.int x2)))], [], 0⟩ =
    ((path_Overlap m x0 x1).bind fun r2 =>
      ((path_Overlap m x1 x0).bind fun r3 =>
        (bif (Bool.not (r2 == r3)) then
          some Bool.false
        else
          ((ref04_Overlap m x0 x1).bind fun r4 =>
            (bif (Bool.not (r2 == r4)) then
              some Bool.false
            else
              (J 0 6 0 ⟨tsOf [(0, (.dat 23 (.lst x0))), (2, (.dat 3 (.int x2)))], [], 0⟩ (e3 J m [1, 1, 1, 1] [] ⟨tsOf [(0, (.dat 23 (.lst x0))), (2, (.dat 3 (.int x2)))], [], 0⟩))))))) := fun J => by kernel_rfl
  exact (h jn).trans (by
    simp only [jn_eq, law04_PathOverlaps_j1_eq m]
    rfl)
theorem law04_PathOverlaps_eq (m : Nat) (a0 : List Dt) (a1 : List Dt) (a2 : Int) : e3 jn m [] [] ⟨[(.dat 23 (.lst a0)), (.dat 23 (.lst a1)), (.dat 3 (.int a2))], [], 0⟩ = law04_PathOverlaps (m + 1) a0 a1 a2 := by
  have h : ∀ J, e3 J m [] [] ⟨[(.dat 23 (.lst a0)), (.dat 23 (.lst a1)), (.dat 3 (.int a2))], [], 0⟩ =
    (bif (decide ((100 : Int) < (((List.length a0) : Nat) : Int))) then
      ((awakeC).bind fun r0 =>
        some r0)
    else
      (bif (decide ((100 : Int) < (((List.length a1) : Nat) : Int))) then
        ((awakeC).bind fun r1 =>
          some r1)
      else
        (J 0 3 0 ⟨tsOf [(0, (.dat 23 (.lst a0))), (1, (.dat 23 (.lst a1))), (2, (.dat 3 (.int a2)))], [], 0⟩ (e3 J m [1, 1] [] ⟨tsOf [(0, (.dat 23 (.lst a0))), (1, (.dat 23 (.lst a1))), (2, (.dat 3 (.int a2)))], [], 0⟩)))) := fun J => by kernel_rfl
  refine (h jn).trans ?_
  simp only [jn_eq, law04_PathOverlaps_j0_eq m]
  rfl
noncomputable def d38 (q : Res) : Option (Int) := match q with
  | (.dat T0 x0, []) => bif Nat.beq T0 3 then some x0.toInt else none
  | _ => none
theorem d38_sim {b : Res} {r : Int} (h : d38 b = some r) : Sim Tryd.prog b ((.dat 3 (.int r)), []) := by
  unfold d38 at h
  split at h
  · obtain ⟨hc, h2⟩ := bif_some h
    cases h2
    have e0 := beq_eq hc
    subst e0
    exact Sim.of (.of (.dat (.int Tryd.underlying3)) rfl rfl) .nil
  · cases h
noncomputable def e38 (J : Nat → Nat → Nat → St → Option (Int) → Option (Int)) (m : Nat) (p ms : List Nat) (σ : St) := evAt Tryd.prog env (ct m) J (m + 1) 51 20 Tryd.f51 d38 p ms σ
noncomputable def l38 (J : Nat → Nat → Nat → St → Option (Int) → Option (Int)) (m : Nat) (p ms : List Nat) (M : Nat) (σ : St) := loopAt Tryd.prog env (ct m) J (m + 1) 51 20 Tryd.f51 d38 p ms M σ
theorem path_field_j3_eq (m : Nat) (M1 : Nat) (rec1 : List Dt → ByteArray → Int → Int → Option (Int)) (h1 : ∀ (x0 : List Dt) (x1 : ByteArray) (x2 : Int) (x3 : Int), l38 jn m [1, 0, 1, 0] [] M1 ⟨tsOf [(0, (.dat 34 (.lst x0))), (1, (.dat 9 (.str x1))), (7, (.dat 3 (.int x2))), (8, (.dat 3 (.int x3)))], [], 0⟩ = rec1 x0 x1 x2 x3) (x0 : List Dt) (x1 : ByteArray) (x2 : Int) (x3 : Int) : e38 jn m [1, 0, 1, 0, 0, 1, 1, 1] [M1] ⟨tsOf [(0, (.dat 34 (.lst x0))), (1, (.dat 9 (.str x1))), (7, (.dat 3 (.int x2))), (8, (.dat 3 (.int x3)))], [], 0⟩ = path_field_j3 m rec1 x0 x1 x2 x3 := by
  have h : ∀ J, e38 J m [1, 0, 1, 0, 0, 1, 1, 1] [M1] ⟨tsOf [(0, (.dat 34 (.lst x0))), (1, (.dat 9 (.str x1))), (7, (.dat 3 (.int x2))), (8, (.dat 3 (.int x3)))], [], 0⟩ =
    (J 1 2 M1 ⟨tsOf [(0, (.dat 34 (.lst x0))), (1, (.dat 9 (.str x1))), (7, (.dat 3 (.int x2))), (8, (.dat 3 (.int (IntKind.wrap IntKind.i64 (x3 + (1 : Int))))))], [], 0⟩ (l38 J m [1, 0, 1, 0] [] M1 ⟨tsOf [(0, (.dat 34 (.lst x0))), (1, (.dat 9 (.str x1))), (7, (.dat 3 (.int x2))), (8, (.dat 3 (.int (IntKind.wrap IntKind.i64 (x3 + (1 : Int))))))], [], 0⟩)) := fun J => by kernel_rfl
  exact (h jn).trans (by
    simp only [jn_eq, h1]
    rfl)
theorem path_field_j2_eq (m : Nat) (M1 : Nat) (rec1 : List Dt → ByteArray → Int → Int → Option (Int)) (h1 : ∀ (x0 : List Dt) (x1 : ByteArray) (x2 : Int) (x3 : Int), l38 jn m [1, 0, 1, 0] [] M1 ⟨tsOf [(0, (.dat 34 (.lst x0))), (1, (.dat 9 (.str x1))), (7, (.dat 3 (.int x2))), (8, (.dat 3 (.int x3)))], [], 0⟩ = rec1 x0 x1 x2 x3) (x0 : List Dt) (x1 : ByteArray) (x2 : Int) (x3 : Int) : e38 jn m [1, 0, 1, 0, 0, 1, 1] [M1] ⟨tsOf [(0, (.dat 34 (.lst x0))), (1, (.dat 9 (.str x1))), (7, (.dat 3 (.int x2))), (8, (.dat 3 (.int x3)))], [], 0⟩ = path_field_j2 m rec1 x0 x1 x2 x3 := by
  have h : ∀ J, e38 J m [1, 0, 1, 0, 0, 1, 1] [M1] ⟨tsOf [(0, (.dat 34 (.lst x0))), (1, (.dat 9 (.str x1))), (7, (.dat 3 (.int x2))), (8, (.dat 3 (.int x3)))], [], 0⟩ =
    ((idx x0 x3).bind fun v0 =>
      (bif ((ByteArray.toList (Dt.S v0 0)) == (ByteArray.toList x1)) then
        some x3
      else
        (J 0 6 0 ⟨tsOf [(0, (.dat 34 (.lst x0))), (1, (.dat 9 (.str x1))), (7, (.dat 3 (.int x2))), (8, (.dat 3 (.int x3)))], [], 0⟩ (e38 J m [1, 0, 1, 0, 0, 1, 1, 1] [M1] ⟨tsOf [(0, (.dat 34 (.lst x0))), (1, (.dat 9 (.str x1))), (7, (.dat 3 (.int x2))), (8, (.dat 3 (.int x3)))], [], 0⟩)))) := fun J => by kernel_rfl
  exact (h jn).trans (by
    simp only [jn_eq, path_field_j3_eq m M1 rec1 h1]
    rfl)
theorem path_field_j4_eq (m : Nat) : e38 jn m [1, 1] [] ⟨tsOf [], [], 0⟩ = path_field_j4 m := by
  have h : ∀ J, e38 J m [1, 1] [] ⟨tsOf [], [], 0⟩ =
    some (-1 : Int) := fun J => by kernel_rfl
  exact (h jn).trans (rfl)
theorem path_field_l1_eq (m : Nat) : ∀ (M1 : Nat) (x0 : List Dt) (x1 : ByteArray) (x2 : Int) (x3 : Int), l38 jn m [1, 0, 1, 0] [] M1 ⟨tsOf [(0, (.dat 34 (.lst x0))), (1, (.dat 9 (.str x1))), (7, (.dat 3 (.int x2))), (8, (.dat 3 (.int x3)))], [], 0⟩ = path_field_l1 m M1 x0 x1 x2 x3
  | 0, _, _, _, _ => rfl
  | M1 + 1, x0, x1, x2, x3 => by
    have h : ∀ J, l38 J m [1, 0, 1, 0] [] (M1 + 1) ⟨tsOf [(0, (.dat 34 (.lst x0))), (1, (.dat 9 (.str x1))), (7, (.dat 3 (.int x2))), (8, (.dat 3 (.int x3)))], [], 0⟩ =
    (bif (decide (x3 < x2)) then
      (J 0 3 0 ⟨tsOf [(0, (.dat 34 (.lst x0))), (1, (.dat 9 (.str x1))), (7, (.dat 3 (.int x2))), (8, (.dat 3 (.int x3)))], [], 0⟩ (e38 J m [1, 0, 1, 0, 0, 1, 1] [M1] ⟨tsOf [(0, (.dat 34 (.lst x0))), (1, (.dat 9 (.str x1))), (7, (.dat 3 (.int x2))), (8, (.dat 3 (.int x3)))], [], 0⟩))
    else
      (J 0 7 0 ⟨tsOf [], [], 0⟩ (e38 J m [1, 1] [] ⟨tsOf [], [], 0⟩))) := fun J => by kernel_rfl
    refine (h jn).trans ?_
    simp only [jn_eq, path_field_j2_eq m M1 (path_field_l1 m M1) (fun x0 x1 x2 x3 => path_field_l1_eq m M1 x0 x1 x2 x3), path_field_j4_eq m]
    rfl
theorem path_field_j0_eq (m : Nat) (x0 : List Dt) (x1 : ByteArray) (x2 : Int) (x3 : Int) : e38 jn m [1, 0, 1] [] ⟨tsOf [(0, (.dat 34 (.lst x0))), (1, (.dat 9 (.str x1))), (7, (.dat 3 (.int x2))), (8, (.dat 3 (.int x3)))], [], 0⟩ = path_field_j0 m x0 x1 x2 x3 := by
  have h : ∀ J, e38 J m [1, 0, 1] [] ⟨tsOf [(0, (.dat 34 (.lst x0))), (1, (.dat 9 (.str x1))), (7, (.dat 3 (.int x2))), (8, (.dat 3 (.int x3)))], [], 0⟩ =
    (J 1 2 (Nat.succ m) ⟨tsOf [(0, (.dat 34 (.lst x0))), (1, (.dat 9 (.str x1))), (7, (.dat 3 (.int x2))), (8, (.dat 3 (.int x3)))], [], 0⟩ (l38 J m [1, 0, 1, 0] [] (Nat.succ m) ⟨tsOf [(0, (.dat 34 (.lst x0))), (1, (.dat 9 (.str x1))), (7, (.dat 3 (.int x2))), (8, (.dat 3 (.int x3)))], [], 0⟩)) := fun J => by kernel_rfl
  exact (h jn).trans (by
    simp only [jn_eq, path_field_l1_eq m]
    rfl)
theorem path_field_eq (m : Nat) (a0 : List Dt) (a1 : ByteArray) : e38 jn m [] [] ⟨[(.dat 34 (.lst a0)), (.dat 9 (.str a1))], [], 0⟩ = path_field (m + 1) a0 a1 := by
  have h : ∀ J, e38 J m [] [] ⟨[(.dat 34 (.lst a0)), (.dat 9 (.str a1))], [], 0⟩ =
    (J 0 2 0 ⟨tsOf [(0, (.dat 34 (.lst a0))), (1, (.dat 9 (.str a1))), (7, (.dat 3 (.int (((List.length a0) : Nat) : Int)))), (8, (.dat 3 (.int (0 : Int))))], [], 0⟩ (e38 J m [1, 0, 1] [] ⟨tsOf [(0, (.dat 34 (.lst a0))), (1, (.dat 9 (.str a1))), (7, (.dat 3 (.int (((List.length a0) : Nat) : Int)))), (8, (.dat 3 (.int (0 : Int))))], [], 0⟩)) := fun J => by kernel_rfl
  refine (h jn).trans ?_
  simp only [jn_eq, path_field_j0_eq m]
  rfl
noncomputable def d37 (q : Res) : Option (List Dt) := match q with
  | (.row n0, [.gone, .row T1 x1]) => bif (Nat.beq n0 1 && Nat.beq T1 33) then some x1 else none
  | _ => none
theorem d37_sim {b : Res} {r : List Dt} (h : d37 b = some r) : Sim Tryd.prog b ((.row 1), [.gone, (.row 33 r)]) := by
  unfold d37 at h
  split at h
  · obtain ⟨hc, h2⟩ := bif_some h
    cases h2
    have e0 := beq_eq (and_l hc)
    have e1 := beq_eq (and_r hc)
    subst e0 e1
    exact Sim.of (.of .same rfl rfl) (.cons .same (.cons .same .nil))
  · cases h
noncomputable def e37 (J : Nat → Nat → Nat → St → Option (List Dt) → Option (List Dt)) (m : Nat) (p ms : List Nat) (σ : St) := evAt Tryd.prog env (ct m) J (m + 1) 59 83 Tryd.f59 d37 p ms σ
noncomputable def l37 (J : Nat → Nat → Nat → St → Option (List Dt) → Option (List Dt)) (m : Nat) (p ms : List Nat) (M : Nat) (σ : St) := loopAt Tryd.prog env (ct m) J (m + 1) 59 83 Tryd.f59 d37 p ms M σ
theorem path_pass_i37_j1_eq (m : Nat) (x0 : List Dt) : e37 jn m [1, 1, 1] [] ⟨tsOf [(0, (.row 1))], [.gone, (.row 33 x0)], 1⟩ = path_pass_i37_j1 m (path_pass_i37 m) x0 := by
  have h : ∀ J, e37 J m [1, 1, 1] [] ⟨tsOf [(0, (.row 1))], [.gone, (.row 33 x0)], 1⟩ =
    some x0 := fun J => by kernel_rfl
  exact (h jn).trans (rfl)
theorem path_pass_i37_j5_eq (m : Nat) (M3 : Nat) (rec3 : List Dt → List Dt → Int → Int → List Dt → Dt → Option (List Dt)) (h3 : ∀ (x0 : List Dt) (x1 : List Dt) (x2 : Int) (x3 : Int) (x4 : List Dt) (x5 : Dt), l37 jn m [1, 1, 0, 1, 0, 1, 1, 1, 0, 0, 1, 0] [] M3 ⟨tsOf [(0, (.row 1)), (2, (.dat 23 (.lst x0))), (4, (.ptr 2 [] 0)), (44, (.dat 33 (.lst x1))), (45, (.dat 3 (.int x2))), (46, (.dat 3 (.int x3)))], [.gone, (.row 33 x4), (.box 36 (.dat 36 x5))], 1⟩ = rec3 x0 x1 x2 x3 x4 x5) (x0 : List Dt) (x1 : List Dt) (x2 : Int) (x3 : Int) (x4 : List Dt) (x5 : Dt) : e37 jn m [1, 1, 0, 1, 0, 1, 1, 1, 0, 0, 1, 0, 0, 1, 1, 1] [M3] ⟨tsOf [(0, (.row 1)), (2, (.dat 23 (.lst x0))), (4, (.ptr 2 [] 0)), (44, (.dat 33 (.lst x1))), (45, (.dat 3 (.int x2))), (46, (.dat 3 (.int x3)))], [.gone, (.row 33 x4), (.box 36 (.dat 36 x5))], 1⟩ = path_pass_i37_j5 m (path_pass_i37 m) rec3 x0 x1 x2 x3 x4 x5 := by
  have h : ∀ J, e37 J m [1, 1, 0, 1, 0, 1, 1, 1, 0, 0, 1, 0, 0, 1, 1, 1] [M3] ⟨tsOf [(0, (.row 1)), (2, (.dat 23 (.lst x0))), (4, (.ptr 2 [] 0)), (44, (.dat 33 (.lst x1))), (45, (.dat 3 (.int x2))), (46, (.dat 3 (.int x3)))], [.gone, (.row 33 x4), (.box 36 (.dat 36 x5))], 1⟩ =
    (J 1 10 M3 ⟨tsOf [(0, (.row 1)), (2, (.dat 23 (.lst x0))), (4, (.ptr 2 [] 0)), (44, (.dat 33 (.lst x1))), (45, (.dat 3 (.int x2))), (46, (.dat 3 (.int (IntKind.wrap IntKind.i64 (x3 + (1 : Int))))))], [.gone, (.row 33 x4), (.box 36 (.dat 36 x5))], 1⟩ (l37 J m [1, 1, 0, 1, 0, 1, 1, 1, 0, 0, 1, 0] [] M3 ⟨tsOf [(0, (.row 1)), (2, (.dat 23 (.lst x0))), (4, (.ptr 2 [] 0)), (44, (.dat 33 (.lst x1))), (45, (.dat 3 (.int x2))), (46, (.dat 3 (.int (IntKind.wrap IntKind.i64 (x3 + (1 : Int))))))], [.gone, (.row 33 x4), (.box 36 (.dat 36 x5))], 1⟩)) := fun J => by kernel_rfl
  exact (h jn).trans (by
    simp only [jn_eq, h3]
    rfl)
theorem path_pass_i37_j4_eq (m : Nat) (M3 : Nat) (rec3 : List Dt → List Dt → Int → Int → List Dt → Dt → Option (List Dt)) (h3 : ∀ (x0 : List Dt) (x1 : List Dt) (x2 : Int) (x3 : Int) (x4 : List Dt) (x5 : Dt), l37 jn m [1, 1, 0, 1, 0, 1, 1, 1, 0, 0, 1, 0] [] M3 ⟨tsOf [(0, (.row 1)), (2, (.dat 23 (.lst x0))), (4, (.ptr 2 [] 0)), (44, (.dat 33 (.lst x1))), (45, (.dat 3 (.int x2))), (46, (.dat 3 (.int x3)))], [.gone, (.row 33 x4), (.box 36 (.dat 36 x5))], 1⟩ = rec3 x0 x1 x2 x3 x4 x5) (x0 : List Dt) (x1 : List Dt) (x2 : Int) (x3 : Int) (x4 : List Dt) (x5 : Dt) : e37 jn m [1, 1, 0, 1, 0, 1, 1, 1, 0, 0, 1, 0, 0, 1, 1] [M3] ⟨tsOf [(0, (.row 1)), (2, (.dat 23 (.lst x0))), (4, (.ptr 2 [] 0)), (44, (.dat 33 (.lst x1))), (45, (.dat 3 (.int x2))), (46, (.dat 3 (.int x3)))], [.gone, (.row 33 x4), (.box 36 (.dat 36 x5))], 1⟩ = path_pass_i37_j4 m (path_pass_i37 m) rec3 x0 x1 x2 x3 x4 x5 := by
  have h : ∀ J, e37 J m [1, 1, 0, 1, 0, 1, 1, 1, 0, 0, 1, 0, 0, 1, 1] [M3] ⟨tsOf [(0, (.row 1)), (2, (.dat 23 (.lst x0))), (4, (.ptr 2 [] 0)), (44, (.dat 33 (.lst x1))), (45, (.dat 3 (.int x2))), (46, (.dat 3 (.int x3)))], [.gone, (.row 33 x4), (.box 36 (.dat 36 x5))], 1⟩ =
    ((idx x1 x3).bind fun v6 =>
      (bif ((Dt.I v6 0) == (5 : Int)) then
        ((path_pass_i37 m v6 x0 x4).bind fun r7 =>
          (J 0 14 0 ⟨tsOf [(0, (.row 1)), (2, (.dat 23 (.lst x0))), (4, (.ptr 2 [] 0)), (44, (.dat 33 (.lst x1))), (45, (.dat 3 (.int x2))), (46, (.dat 3 (.int x3)))], [.gone, (.row 33 r7), (.box 36 (.dat 36 x5))], 1⟩ (e37 J m [1, 1, 0, 1, 0, 1, 1, 1, 0, 0, 1, 0, 0, 1, 1, 1] [M3] ⟨tsOf [(0, (.row 1)), (2, (.dat 23 (.lst x0))), (4, (.ptr 2 [] 0)), (44, (.dat 33 (.lst x1))), (45, (.dat 3 (.int x2))), (46, (.dat 3 (.int x3)))], [.gone, (.row 33 r7), (.box 36 (.dat 36 x5))], 1⟩)))
      else
        (J 0 14 0 ⟨tsOf [(0, (.row 1)), (2, (.dat 23 (.lst x0))), (4, (.ptr 2 [] 0)), (44, (.dat 33 (.lst x1))), (45, (.dat 3 (.int x2))), (46, (.dat 3 (.int x3)))], [.gone, (.row 33 x4), (.box 36 (.dat 36 x5))], 1⟩ (e37 J m [1, 1, 0, 1, 0, 1, 1, 1, 0, 0, 1, 0, 0, 1, 1, 1] [M3] ⟨tsOf [(0, (.row 1)), (2, (.dat 23 (.lst x0))), (4, (.ptr 2 [] 0)), (44, (.dat 33 (.lst x1))), (45, (.dat 3 (.int x2))), (46, (.dat 3 (.int x3)))], [.gone, (.row 33 x4), (.box 36 (.dat 36 x5))], 1⟩)))) := fun J => by kernel_rfl
  exact (h jn).trans (by
    simp only [jn_eq, path_pass_i37_j5_eq m M3 rec3 h3]
    rfl)
theorem path_pass_i37_j6_eq (m : Nat) (x0 : List Dt) (x1 : List Dt) (x2 : Dt) : e37 jn m [1, 1, 0, 1, 0, 1, 1, 1, 0, 1] [] ⟨tsOf [(0, (.row 1)), (2, (.dat 23 (.lst x0))), (4, (.ptr 2 [] 0))], [.gone, (.row 33 x1), (.box 36 (.dat 36 x2))], 1⟩ = path_pass_i37_j6 m (path_pass_i37 m) x0 x1 x2 := by
  have h : ∀ J, e37 J m [1, 1, 0, 1, 0, 1, 1, 1, 0, 1] [] ⟨tsOf [(0, (.row 1)), (2, (.dat 23 (.lst x0))), (4, (.ptr 2 [] 0))], [.gone, (.row 33 x1), (.box 36 (.dat 36 x2))], 1⟩ =
    ((idx x0 (0 : Int)).bind fun v8 =>
      ((path_Number m (Dt.toStr v8)).bind fun r9 =>
        (bif (Prod.snd r9) then
          (bif (decide ((Prod.fst r9) < (((List.length (Dt.L x2 3)) : Nat) : Int))) then
            ((idx (Dt.L x2 3) (Prod.fst r9)).bind fun v10 =>
              ((cutL x0 (1 : Int) (((List.length x0) : Nat) : Int)).bind fun v11 =>
                ((path_pass_i37 m v10 v11 x1).bind fun r12 =>
                  (J 0 18 0 ⟨tsOf [(0, (.row 1))], [.gone, (.row 33 r12)], 1⟩ (e37 J m [1, 1, 1] [] ⟨tsOf [(0, (.row 1))], [.gone, (.row 33 r12)], 1⟩)))))
          else
            (J 0 18 0 ⟨tsOf [(0, (.row 1))], [.gone, (.row 33 x1)], 1⟩ (e37 J m [1, 1, 1] [] ⟨tsOf [(0, (.row 1))], [.gone, (.row 33 x1)], 1⟩)))
        else
          (J 0 18 0 ⟨tsOf [(0, (.row 1))], [.gone, (.row 33 x1)], 1⟩ (e37 J m [1, 1, 1] [] ⟨tsOf [(0, (.row 1))], [.gone, (.row 33 x1)], 1⟩))))) := fun J => by kernel_rfl
  exact (h jn).trans (by
    simp only [jn_eq, path_pass_i37_j1_eq m]
    rfl)
theorem path_pass_i37_l3_eq (m : Nat) : ∀ (M3 : Nat) (x0 : List Dt) (x1 : List Dt) (x2 : Int) (x3 : Int) (x4 : List Dt) (x5 : Dt), l37 jn m [1, 1, 0, 1, 0, 1, 1, 1, 0, 0, 1, 0] [] M3 ⟨tsOf [(0, (.row 1)), (2, (.dat 23 (.lst x0))), (4, (.ptr 2 [] 0)), (44, (.dat 33 (.lst x1))), (45, (.dat 3 (.int x2))), (46, (.dat 3 (.int x3)))], [.gone, (.row 33 x4), (.box 36 (.dat 36 x5))], 1⟩ = path_pass_i37_l3 m (path_pass_i37 m) M3 x0 x1 x2 x3 x4 x5
  | 0, _, _, _, _, _, _ => rfl
  | M3 + 1, x0, x1, x2, x3, x4, x5 => by
    have h : ∀ J, l37 J m [1, 1, 0, 1, 0, 1, 1, 1, 0, 0, 1, 0] [] (M3 + 1) ⟨tsOf [(0, (.row 1)), (2, (.dat 23 (.lst x0))), (4, (.ptr 2 [] 0)), (44, (.dat 33 (.lst x1))), (45, (.dat 3 (.int x2))), (46, (.dat 3 (.int x3)))], [.gone, (.row 33 x4), (.box 36 (.dat 36 x5))], 1⟩ =
    (bif (decide (x3 < x2)) then
      (J 0 11 0 ⟨tsOf [(0, (.row 1)), (2, (.dat 23 (.lst x0))), (4, (.ptr 2 [] 0)), (44, (.dat 33 (.lst x1))), (45, (.dat 3 (.int x2))), (46, (.dat 3 (.int x3)))], [.gone, (.row 33 x4), (.box 36 (.dat 36 x5))], 1⟩ (e37 J m [1, 1, 0, 1, 0, 1, 1, 1, 0, 0, 1, 0, 0, 1, 1] [M3] ⟨tsOf [(0, (.row 1)), (2, (.dat 23 (.lst x0))), (4, (.ptr 2 [] 0)), (44, (.dat 33 (.lst x1))), (45, (.dat 3 (.int x2))), (46, (.dat 3 (.int x3)))], [.gone, (.row 33 x4), (.box 36 (.dat 36 x5))], 1⟩))
    else
      (J 0 15 0 ⟨tsOf [(0, (.row 1)), (2, (.dat 23 (.lst x0))), (4, (.ptr 2 [] 0))], [.gone, (.row 33 x4), (.box 36 (.dat 36 x5))], 1⟩ (e37 J m [1, 1, 0, 1, 0, 1, 1, 1, 0, 1] [] ⟨tsOf [(0, (.row 1)), (2, (.dat 23 (.lst x0))), (4, (.ptr 2 [] 0))], [.gone, (.row 33 x4), (.box 36 (.dat 36 x5))], 1⟩))) := fun J => by kernel_rfl
    refine (h jn).trans ?_
    simp only [jn_eq, path_pass_i37_j4_eq m M3 (path_pass_i37_l3 m (path_pass_i37 m) M3) (fun x0 x1 x2 x3 x4 x5 => path_pass_i37_l3_eq m M3 x0 x1 x2 x3 x4 x5), path_pass_i37_j6_eq m]
    rfl
theorem path_pass_i37_j2_eq (m : Nat) (x0 : List Dt) (x1 : List Dt) (x2 : Int) (x3 : Int) (x4 : List Dt) (x5 : Dt) : e37 jn m [1, 1, 0, 1, 0, 1, 1, 1, 0, 0, 1] [] ⟨tsOf [(0, (.row 1)), (2, (.dat 23 (.lst x0))), (4, (.ptr 2 [] 0)), (44, (.dat 33 (.lst x1))), (45, (.dat 3 (.int x2))), (46, (.dat 3 (.int x3)))], [.gone, (.row 33 x4), (.box 36 (.dat 36 x5))], 1⟩ = path_pass_i37_j2 m (path_pass_i37 m) x0 x1 x2 x3 x4 x5 := by
  have h : ∀ J, e37 J m [1, 1, 0, 1, 0, 1, 1, 1, 0, 0, 1] [] ⟨tsOf [(0, (.row 1)), (2, (.dat 23 (.lst x0))), (4, (.ptr 2 [] 0)), (44, (.dat 33 (.lst x1))), (45, (.dat 3 (.int x2))), (46, (.dat 3 (.int x3)))], [.gone, (.row 33 x4), (.box 36 (.dat 36 x5))], 1⟩ =
    (J 1 10 (Nat.succ m) ⟨tsOf [(0, (.row 1)), (2, (.dat 23 (.lst x0))), (4, (.ptr 2 [] 0)), (44, (.dat 33 (.lst x1))), (45, (.dat 3 (.int x2))), (46, (.dat 3 (.int x3)))], [.gone, (.row 33 x4), (.box 36 (.dat 36 x5))], 1⟩ (l37 J m [1, 1, 0, 1, 0, 1, 1, 1, 0, 0, 1, 0] [] (Nat.succ m) ⟨tsOf [(0, (.row 1)), (2, (.dat 23 (.lst x0))), (4, (.ptr 2 [] 0)), (44, (.dat 33 (.lst x1))), (45, (.dat 3 (.int x2))), (46, (.dat 3 (.int x3)))], [.gone, (.row 33 x4), (.box 36 (.dat 36 x5))], 1⟩)) := fun J => by kernel_rfl
  exact (h jn).trans (by
    simp only [jn_eq, path_pass_i37_l3_eq m]
    rfl)
theorem path_pass_i37_j0_eq (m : Nat) (x0 : List Dt) (x1 : List Dt) (x2 : Dt) : e37 jn m [1, 1] [] ⟨tsOf [(0, (.row 1)), (2, (.dat 23 (.lst x0))), (4, (.ptr 2 [] 0))], [.gone, (.row 33 x1), (.box 36 (.dat 36 x2))], 1⟩ = path_pass_i37_j0 m (path_pass_i37 m) x0 x1 x2 := by
  have h : ∀ J, e37 J m [1, 1] [] ⟨tsOf [(0, (.row 1)), (2, (.dat 23 (.lst x0))), (4, (.ptr 2 [] 0))], [.gone, (.row 33 x1), (.box 36 (.dat 36 x2))], 1⟩ =
    (bif ((Dt.I x2 0) == (5 : Int)) then
      ((idx x0 (0 : Int)).bind fun v1 =>
        ((path_field m (Dt.L x2 4) (Dt.toStr v1)).bind fun r2 =>
          (bif (decide ((0 : Int) ≤ r2)) then
            ((idx (Dt.L x2 4) r2).bind fun v3 =>
              ((cutL x0 (1 : Int) (((List.length x0) : Nat) : Int)).bind fun v4 =>
                ((path_pass_i37 m (Dt.fld v3 1) v4 x1).bind fun r5 =>
                  (J 0 18 0 ⟨tsOf [(0, (.row 1))], [.gone, (.row 33 r5)], 1⟩ (e37 J m [1, 1, 1] [] ⟨tsOf [(0, (.row 1))], [.gone, (.row 33 r5)], 1⟩)))))
          else
            (J 0 18 0 ⟨tsOf [(0, (.row 1))], [.gone, (.row 33 x1)], 1⟩ (e37 J m [1, 1, 1] [] ⟨tsOf [(0, (.row 1))], [.gone, (.row 33 x1)], 1⟩)))))
    else
      (bif ((Dt.I x2 0) == (6 : Int)) then
        (J 0 10 0 ⟨tsOf [(0, (.row 1)), (2, (.dat 23 (.lst x0))), (4, (.ptr 2 [] 0)), (44, (.dat 33 (.lst (Dt.L x2 3)))), (45, (.dat 3 (.int (((List.length (Dt.L x2 3)) : Nat) : Int)))), (46, (.dat 3 (.int (0 : Int))))], [.gone, (.row 33 x1), (.box 36 (.dat 36 x2))], 1⟩ (e37 J m [1, 1, 0, 1, 0, 1, 1, 1, 0, 0, 1] [] ⟨tsOf [(0, (.row 1)), (2, (.dat 23 (.lst x0))), (4, (.ptr 2 [] 0)), (44, (.dat 33 (.lst (Dt.L x2 3)))), (45, (.dat 3 (.int (((List.length (Dt.L x2 3)) : Nat) : Int)))), (46, (.dat 3 (.int (0 : Int))))], [.gone, (.row 33 x1), (.box 36 (.dat 36 x2))], 1⟩))
      else
        (J 0 18 0 ⟨tsOf [(0, (.row 1))], [.gone, (.row 33 x1)], 1⟩ (e37 J m [1, 1, 1] [] ⟨tsOf [(0, (.row 1))], [.gone, (.row 33 x1)], 1⟩)))) := fun J => by kernel_rfl
  exact (h jn).trans (by
    simp only [jn_eq, path_pass_i37_j1_eq m, path_pass_i37_j2_eq m]
    rfl)
theorem path_pass_i37_eq (m : Nat) (a0 : Dt) (a1 : List Dt) (a2 : List Dt) : e37 jn m [] [] ⟨[(.row 0), (.dat 36 a0), (.dat 23 (.lst a1))], [(.row 33 a2)], 1⟩ = path_pass_i37 (m + 1) a0 a1 a2 := by
  have h : ∀ J, e37 J m [] [] ⟨[(.row 0), (.dat 36 a0), (.dat 23 (.lst a1))], [(.row 33 a2)], 1⟩ =
    (bif ((((List.length a1) : Nat) : Int) == (0 : Int)) then
      ((app a2 [a0]).bind fun v0 =>
        some v0)
    else
      (J 0 3 0 ⟨tsOf [(0, (.row 1)), (2, (.dat 23 (.lst a1))), (4, (.ptr 2 [] 0))], [.gone, (.row 33 a2), (.box 36 (.dat 36 a0))], 1⟩ (e37 J m [1, 1] [] ⟨tsOf [(0, (.row 1)), (2, (.dat 23 (.lst a1))), (4, (.ptr 2 [] 0))], [.gone, (.row 33 a2), (.box 36 (.dat 36 a0))], 1⟩))) := fun J => by kernel_rfl
  refine (h jn).trans ?_
  simp only [jn_eq, path_pass_i37_j0_eq m]
  rfl
noncomputable def d39 (q : Res) : Option (Dt) := match q with
  | (.dat T0 x0, []) => bif Nat.beq T0 36 then some x0 else none
  | _ => none
theorem d39_sim {b : Res} {r : Dt} (h : d39 b = some r) : Sim Tryd.prog b ((.dat 36 r), []) := by
  unfold d39 at h
  split at h
  · obtain ⟨hc, h2⟩ := bif_some h
    cases h2
    have e0 := beq_eq hc
    subst e0
    exact Sim.of (.of .same rfl rfl) .nil
  · cases h
noncomputable def e39 (J : Nat → Nat → Nat → St → Option (Dt) → Option (Dt)) (m : Nat) (p ms : List Nat) (σ : St) := evAt Tryd.prog env (ct m) J (m + 1) 52 68 Tryd.f52 d39 p ms σ
noncomputable def l39 (J : Nat → Nat → Nat → St → Option (Dt) → Option (Dt)) (m : Nat) (p ms : List Nat) (M : Nat) (σ : St) := loopAt Tryd.prog env (ct m) J (m + 1) 52 68 Tryd.f52 d39 p ms M σ
theorem path_clone_j3_eq (m : Nat) (M1 : Nat) (rec1 : List Dt → Int → Int → Dt → Dt → Int → Int → ByteArray → List Dt → Option (Dt)) (h1 : ∀ (x0 : List Dt) (x1 : Int) (x2 : Int) (x3 : Dt) (x4 : Dt) (x5 : Int) (x6 : Int) (x7 : ByteArray) (x8 : List Dt), l39 jn m [1, 1, 0, 1, 0, 1, 1, 0] [] M1 ⟨tsOf [(1, (.ptr 0 [] 0)), (2, (.ptr 1 [] 0)), (3, (.ptr 2 [] 0)), (25, (.dat 33 (.lst x0))), (26, (.dat 3 (.int x1))), (27, (.dat 3 (.int x2)))], [(.box 36 (.dat 36 x3)), (.box 36 (.dat 36 x4)), (.box 36 (.agg 36 [(.dat 3 (.int x5)), (.dat 3 (.int x6)), (.dat 9 (.str x7)), (.row 3), (.nils 34)])), (.row 33 x8)], 0⟩ = rec1 x0 x1 x2 x3 x4 x5 x6 x7 x8) (x0 : List Dt) (x1 : Int) (x2 : Int) (x3 : Dt) (x4 : Dt) (x5 : Int) (x6 : Int) (x7 : ByteArray) (x8 : List Dt) : e39 jn m [1, 1, 0, 1, 0, 1, 1, 0, 0, 1, 1, 1] [M1] ⟨tsOf [(1, (.ptr 0 [] 0)), (2, (.ptr 1 [] 0)), (3, (.ptr 2 [] 0)), (25, (.dat 33 (.lst x0))), (26, (.dat 3 (.int x1))), (27, (.dat 3 (.int x2)))], [(.box 36 (.dat 36 x3)), (.box 36 (.dat 36 x4)), (.box 36 (.agg 36 [(.dat 3 (.int x5)), (.dat 3 (.int x6)), (.dat 9 (.str x7)), (.row 3), (.nils 34)])), (.row 33 x8)], 0⟩ = path_clone_j3 m (path_clone m) rec1 x0 x1 x2 x3 x4 x5 x6 x7 x8 := by
  have h : ∀ J, e39 J m [1, 1, 0, 1, 0, 1, 1, 0, 0, 1, 1, 1] [M1] ⟨tsOf [(1, (.ptr 0 [] 0)), (2, (.ptr 1 [] 0)), (3, (.ptr 2 [] 0)), (25, (.dat 33 (.lst x0))), (26, (.dat 3 (.int x1))), (27, (.dat 3 (.int x2)))], [(.box 36 (.dat 36 x3)), (.box 36 (.dat 36 x4)), (.box 36 (.agg 36 [(.dat 3 (.int x5)), (.dat 3 (.int x6)), (.dat 9 (.str x7)), (.row 3), (.nils 34)])), (.row 33 x8)], 0⟩ =
    (J 1 5 M1 ⟨tsOf [(1, (.ptr 0 [] 0)), (2, (.ptr 1 [] 0)), (3, (.ptr 2 [] 0)), (25, (.dat 33 (.lst x0))), (26, (.dat 3 (.int x1))), (27, (.dat 3 (.int (IntKind.wrap IntKind.i64 (x2 + (1 : Int))))))], [(.box 36 (.dat 36 x3)), (.box 36 (.dat 36 x4)), (.box 36 (.agg 36 [(.dat 3 (.int x5)), (.dat 3 (.int x6)), (.dat 9 (.str x7)), (.row 3), (.nils 34)])), (.row 33 x8)], 0⟩ (l39 J m [1, 1, 0, 1, 0, 1, 1, 0] [] M1 ⟨tsOf [(1, (.ptr 0 [] 0)), (2, (.ptr 1 [] 0)), (3, (.ptr 2 [] 0)), (25, (.dat 33 (.lst x0))), (26, (.dat 3 (.int x1))), (27, (.dat 3 (.int (IntKind.wrap IntKind.i64 (x2 + (1 : Int))))))], [(.box 36 (.dat 36 x3)), (.box 36 (.dat 36 x4)), (.box 36 (.agg 36 [(.dat 3 (.int x5)), (.dat 3 (.int x6)), (.dat 9 (.str x7)), (.row 3), (.nils 34)])), (.row 33 x8)], 0⟩)) := fun J => by kernel_rfl
  exact (h jn).trans (by
    simp only [jn_eq, h1]
    rfl)
theorem path_clone_j2_eq (m : Nat) (M1 : Nat) (rec1 : List Dt → Int → Int → Dt → Dt → Int → Int → ByteArray → List Dt → Option (Dt)) (h1 : ∀ (x0 : List Dt) (x1 : Int) (x2 : Int) (x3 : Dt) (x4 : Dt) (x5 : Int) (x6 : Int) (x7 : ByteArray) (x8 : List Dt), l39 jn m [1, 1, 0, 1, 0, 1, 1, 0] [] M1 ⟨tsOf [(1, (.ptr 0 [] 0)), (2, (.ptr 1 [] 0)), (3, (.ptr 2 [] 0)), (25, (.dat 33 (.lst x0))), (26, (.dat 3 (.int x1))), (27, (.dat 3 (.int x2)))], [(.box 36 (.dat 36 x3)), (.box 36 (.dat 36 x4)), (.box 36 (.agg 36 [(.dat 3 (.int x5)), (.dat 3 (.int x6)), (.dat 9 (.str x7)), (.row 3), (.nils 34)])), (.row 33 x8)], 0⟩ = rec1 x0 x1 x2 x3 x4 x5 x6 x7 x8) (x0 : List Dt) (x1 : Int) (x2 : Int) (x3 : Dt) (x4 : Dt) (x5 : Int) (x6 : Int) (x7 : ByteArray) (x8 : List Dt) : e39 jn m [1, 1, 0, 1, 0, 1, 1, 0, 0, 1, 1] [M1] ⟨tsOf [(1, (.ptr 0 [] 0)), (2, (.ptr 1 [] 0)), (3, (.ptr 2 [] 0)), (25, (.dat 33 (.lst x0))), (26, (.dat 3 (.int x1))), (27, (.dat 3 (.int x2)))], [(.box 36 (.dat 36 x3)), (.box 36 (.dat 36 x4)), (.box 36 (.agg 36 [(.dat 3 (.int x5)), (.dat 3 (.int x6)), (.dat 9 (.str x7)), (.row 3), (.nils 34)])), (.row 33 x8)], 0⟩ = path_clone_j2 m (path_clone m) rec1 x0 x1 x2 x3 x4 x5 x6 x7 x8 := by
  have h : ∀ J, e39 J m [1, 1, 0, 1, 0, 1, 1, 0, 0, 1, 1] [M1] ⟨tsOf [(1, (.ptr 0 [] 0)), (2, (.ptr 1 [] 0)), (3, (.ptr 2 [] 0)), (25, (.dat 33 (.lst x0))), (26, (.dat 3 (.int x1))), (27, (.dat 3 (.int x2)))], [(.box 36 (.dat 36 x3)), (.box 36 (.dat 36 x4)), (.box 36 (.agg 36 [(.dat 3 (.int x5)), (.dat 3 (.int x6)), (.dat 9 (.str x7)), (.row 3), (.nils 34)])), (.row 33 x8)], 0⟩ =
    ((idx x0 x2).bind fun v1 =>
      ((path_clone m v1).bind fun r2 =>
        ((inL x8 x2).bind fun v3 =>
          ((x8[(Int.toNat x2)]?).bind fun v4 =>
            (J 0 8 0 ⟨tsOf [(1, (.ptr 0 [] 0)), (2, (.ptr 1 [] 0)), (3, (.ptr 2 [] 0)), (25, (.dat 33 (.lst x0))), (26, (.dat 3 (.int x1))), (27, (.dat 3 (.int x2)))], [(.box 36 (.dat 36 x3)), (.box 36 (.dat 36 x4)), (.box 36 (.agg 36 [(.dat 3 (.int x5)), (.dat 3 (.int x6)), (.dat 9 (.str x7)), (.row 3), (.nils 34)])), (.row 33 (List.set x8 (Int.toNat x2) r2))], 0⟩ (e39 J m [1, 1, 0, 1, 0, 1, 1, 0, 0, 1, 1, 1] [M1] ⟨tsOf [(1, (.ptr 0 [] 0)), (2, (.ptr 1 [] 0)), (3, (.ptr 2 [] 0)), (25, (.dat 33 (.lst x0))), (26, (.dat 3 (.int x1))), (27, (.dat 3 (.int x2)))], [(.box 36 (.dat 36 x3)), (.box 36 (.dat 36 x4)), (.box 36 (.agg 36 [(.dat 3 (.int x5)), (.dat 3 (.int x6)), (.dat 9 (.str x7)), (.row 3), (.nils 34)])), (.row 33 (List.set x8 (Int.toNat x2) r2))], 0⟩)))))) := fun J => by kernel_rfl
  exact (h jn).trans (by
    simp only [jn_eq, path_clone_j3_eq m M1 rec1 h1]
    rfl)
theorem path_clone_j8_eq (m : Nat) (M6 : Nat) (rec6 : List Dt → Int → Int → Dt → Int → Int → ByteArray → List Dt → List Dt → Option (Dt)) (h6 : ∀ (x0 : List Dt) (x1 : Int) (x2 : Int) (x3 : Dt) (x4 : Int) (x5 : Int) (x6 : ByteArray) (x7 : List Dt) (x8 : List Dt), l39 jn m [1, 1, 1, 0, 1, 0, 1, 1, 0] [] M6 ⟨tsOf [(2, (.ptr 0 [] 0)), (3, (.ptr 1 [] 0)), (49, (.dat 34 (.lst x0))), (50, (.dat 3 (.int x1))), (51, (.dat 3 (.int x2)))], [(.box 36 (.dat 36 x3)), (.box 36 (.agg 36 [(.dat 3 (.int x4)), (.dat 3 (.int x5)), (.dat 9 (.str x6)), (.row 2), (.row 3)])), (.row 33 x7), (.row 34 x8)], 0⟩ = rec6 x0 x1 x2 x3 x4 x5 x6 x7 x8) (x0 : List Dt) (x1 : Int) (x2 : Int) (x3 : Dt) (x4 : Int) (x5 : Int) (x6 : ByteArray) (x7 : List Dt) (x8 : List Dt) : e39 jn m [1, 1, 1, 0, 1, 0, 1, 1, 0, 0, 1, 1, 1] [M6] ⟨tsOf [(2, (.ptr 0 [] 0)), (3, (.ptr 1 [] 0)), (49, (.dat 34 (.lst x0))), (50, (.dat 3 (.int x1))), (51, (.dat 3 (.int x2)))], [(.box 36 (.dat 36 x3)), (.box 36 (.agg 36 [(.dat 3 (.int x4)), (.dat 3 (.int x5)), (.dat 9 (.str x6)), (.row 2), (.row 3)])), (.row 33 x7), (.row 34 x8)], 0⟩ = path_clone_j8 m (path_clone m) rec6 x0 x1 x2 x3 x4 x5 x6 x7 x8 := by
  have h : ∀ J, e39 J m [1, 1, 1, 0, 1, 0, 1, 1, 0, 0, 1, 1, 1] [M6] ⟨tsOf [(2, (.ptr 0 [] 0)), (3, (.ptr 1 [] 0)), (49, (.dat 34 (.lst x0))), (50, (.dat 3 (.int x1))), (51, (.dat 3 (.int x2)))], [(.box 36 (.dat 36 x3)), (.box 36 (.agg 36 [(.dat 3 (.int x4)), (.dat 3 (.int x5)), (.dat 9 (.str x6)), (.row 2), (.row 3)])), (.row 33 x7), (.row 34 x8)], 0⟩ =
    (J 1 12 M6 ⟨tsOf [(2, (.ptr 0 [] 0)), (3, (.ptr 1 [] 0)), (49, (.dat 34 (.lst x0))), (50, (.dat 3 (.int x1))), (51, (.dat 3 (.int (IntKind.wrap IntKind.i64 (x2 + (1 : Int))))))], [(.box 36 (.dat 36 x3)), (.box 36 (.agg 36 [(.dat 3 (.int x4)), (.dat 3 (.int x5)), (.dat 9 (.str x6)), (.row 2), (.row 3)])), (.row 33 x7), (.row 34 x8)], 0⟩ (l39 J m [1, 1, 1, 0, 1, 0, 1, 1, 0] [] M6 ⟨tsOf [(2, (.ptr 0 [] 0)), (3, (.ptr 1 [] 0)), (49, (.dat 34 (.lst x0))), (50, (.dat 3 (.int x1))), (51, (.dat 3 (.int (IntKind.wrap IntKind.i64 (x2 + (1 : Int))))))], [(.box 36 (.dat 36 x3)), (.box 36 (.agg 36 [(.dat 3 (.int x4)), (.dat 3 (.int x5)), (.dat 9 (.str x6)), (.row 2), (.row 3)])), (.row 33 x7), (.row 34 x8)], 0⟩)) := fun J => by kernel_rfl
  exact (h jn).trans (by
    simp only [jn_eq, h6]
    rfl)
theorem path_clone_j7_eq (m : Nat) (M6 : Nat) (rec6 : List Dt → Int → Int → Dt → Int → Int → ByteArray → List Dt → List Dt → Option (Dt)) (h6 : ∀ (x0 : List Dt) (x1 : Int) (x2 : Int) (x3 : Dt) (x4 : Int) (x5 : Int) (x6 : ByteArray) (x7 : List Dt) (x8 : List Dt), l39 jn m [1, 1, 1, 0, 1, 0, 1, 1, 0] [] M6 ⟨tsOf [(2, (.ptr 0 [] 0)), (3, (.ptr 1 [] 0)), (49, (.dat 34 (.lst x0))), (50, (.dat 3 (.int x1))), (51, (.dat 3 (.int x2)))], [(.box 36 (.dat 36 x3)), (.box 36 (.agg 36 [(.dat 3 (.int x4)), (.dat 3 (.int x5)), (.dat 9 (.str x6)), (.row 2), (.row 3)])), (.row 33 x7), (.row 34 x8)], 0⟩ = rec6 x0 x1 x2 x3 x4 x5 x6 x7 x8) (x0 : List Dt) (x1 : Int) (x2 : Int) (x3 : Dt) (x4 : Int) (x5 : Int) (x6 : ByteArray) (x7 : List Dt) (x8 : List Dt) : e39 jn m [1, 1, 1, 0, 1, 0, 1, 1, 0, 0, 1, 1] [M6] ⟨tsOf [(2, (.ptr 0 [] 0)), (3, (.ptr 1 [] 0)), (49, (.dat 34 (.lst x0))), (50, (.dat 3 (.int x1))), (51, (.dat 3 (.int x2)))], [(.box 36 (.dat 36 x3)), (.box 36 (.agg 36 [(.dat 3 (.int x4)), (.dat 3 (.int x5)), (.dat 9 (.str x6)), (.row 2), (.row 3)])), (.row 33 x7), (.row 34 x8)], 0⟩ = path_clone_j7 m (path_clone m) rec6 x0 x1 x2 x3 x4 x5 x6 x7 x8 := by
  have h : ∀ J, e39 J m [1, 1, 1, 0, 1, 0, 1, 1, 0, 0, 1, 1] [M6] ⟨tsOf [(2, (.ptr 0 [] 0)), (3, (.ptr 1 [] 0)), (49, (.dat 34 (.lst x0))), (50, (.dat 3 (.int x1))), (51, (.dat 3 (.int x2)))], [(.box 36 (.dat 36 x3)), (.box 36 (.agg 36 [(.dat 3 (.int x4)), (.dat 3 (.int x5)), (.dat 9 (.str x6)), (.row 2), (.row 3)])), (.row 33 x7), (.row 34 x8)], 0⟩ =
    ((idx x0 x2).bind fun v6 =>
      ((path_clone m (Dt.fld v6 1)).bind fun r7 =>
        ((inL x8 x2).bind fun v8 =>
          ((x8[(Int.toNat x2)]?).bind fun v9 =>
            (J 0 15 0 ⟨tsOf [(2, (.ptr 0 [] 0)), (3, (.ptr 1 [] 0)), (49, (.dat 34 (.lst x0))), (50, (.dat 3 (.int x1))), (51, (.dat 3 (.int x2)))], [(.box 36 (.dat 36 x3)), (.box 36 (.agg 36 [(.dat 3 (.int x4)), (.dat 3 (.int x5)), (.dat 9 (.str x6)), (.row 2), (.row 3)])), (.row 33 x7), (.row 34 (List.set x8 (Int.toNat x2) (Dt.agg [(Dt.str (Dt.S v6 0)), r7])))], 0⟩ (e39 J m [1, 1, 1, 0, 1, 0, 1, 1, 0, 0, 1, 1, 1] [M6] ⟨tsOf [(2, (.ptr 0 [] 0)), (3, (.ptr 1 [] 0)), (49, (.dat 34 (.lst x0))), (50, (.dat 3 (.int x1))), (51, (.dat 3 (.int x2)))], [(.box 36 (.dat 36 x3)), (.box 36 (.agg 36 [(.dat 3 (.int x4)), (.dat 3 (.int x5)), (.dat 9 (.str x6)), (.row 2), (.row 3)])), (.row 33 x7), (.row 34 (List.set x8 (Int.toNat x2) (Dt.agg [(Dt.str (Dt.S v6 0)), r7])))], 0⟩)))))) := fun J => by kernel_rfl
  exact (h jn).trans (by
    simp only [jn_eq, path_clone_j8_eq m M6 rec6 h6]
    rfl)
theorem path_clone_j9_eq (m : Nat) (x0 : Dt) (x1 : Int) (x2 : Int) (x3 : ByteArray) (x4 : List Dt) (x5 : List Dt) : e39 jn m [1, 1, 1, 1] [] ⟨tsOf [(2, (.ptr 0 [] 0)), (3, (.ptr 1 [] 0))], [(.box 36 (.dat 36 x0)), (.box 36 (.agg 36 [(.dat 3 (.int x1)), (.dat 3 (.int x2)), (.dat 9 (.str x3)), (.row 2), (.row 3)])), (.row 33 x4), (.row 34 x5)], 0⟩ = path_clone_j9 m (path_clone m) x0 x1 x2 x3 x4 x5 := by
  have h : ∀ J, e39 J m [1, 1, 1, 1] [] ⟨tsOf [(2, (.ptr 0 [] 0)), (3, (.ptr 1 [] 0))], [(.box 36 (.dat 36 x0)), (.box 36 (.agg 36 [(.dat 3 (.int x1)), (.dat 3 (.int x2)), (.dat 9 (.str x3)), (.row 2), (.row 3)])), (.row 33 x4), (.row 34 x5)], 0⟩ =
    some (Dt.agg [(Dt.int x1), (Dt.int x2), (Dt.str x3), (Dt.lst x4), (Dt.lst x5)]) := fun J => by kernel_rfl
  exact (h jn).trans (rfl)
theorem path_clone_l6_eq (m : Nat) : ∀ (M6 : Nat) (x0 : List Dt) (x1 : Int) (x2 : Int) (x3 : Dt) (x4 : Int) (x5 : Int) (x6 : ByteArray) (x7 : List Dt) (x8 : List Dt), l39 jn m [1, 1, 1, 0, 1, 0, 1, 1, 0] [] M6 ⟨tsOf [(2, (.ptr 0 [] 0)), (3, (.ptr 1 [] 0)), (49, (.dat 34 (.lst x0))), (50, (.dat 3 (.int x1))), (51, (.dat 3 (.int x2)))], [(.box 36 (.dat 36 x3)), (.box 36 (.agg 36 [(.dat 3 (.int x4)), (.dat 3 (.int x5)), (.dat 9 (.str x6)), (.row 2), (.row 3)])), (.row 33 x7), (.row 34 x8)], 0⟩ = path_clone_l6 m (path_clone m) M6 x0 x1 x2 x3 x4 x5 x6 x7 x8
  | 0, _, _, _, _, _, _, _, _, _ => rfl
  | M6 + 1, x0, x1, x2, x3, x4, x5, x6, x7, x8 => by
    have h : ∀ J, l39 J m [1, 1, 1, 0, 1, 0, 1, 1, 0] [] (M6 + 1) ⟨tsOf [(2, (.ptr 0 [] 0)), (3, (.ptr 1 [] 0)), (49, (.dat 34 (.lst x0))), (50, (.dat 3 (.int x1))), (51, (.dat 3 (.int x2)))], [(.box 36 (.dat 36 x3)), (.box 36 (.agg 36 [(.dat 3 (.int x4)), (.dat 3 (.int x5)), (.dat 9 (.str x6)), (.row 2), (.row 3)])), (.row 33 x7), (.row 34 x8)], 0⟩ =
    (bif (decide (x2 < x1)) then
      (J 0 13 0 ⟨tsOf [(2, (.ptr 0 [] 0)), (3, (.ptr 1 [] 0)), (49, (.dat 34 (.lst x0))), (50, (.dat 3 (.int x1))), (51, (.dat 3 (.int x2)))], [(.box 36 (.dat 36 x3)), (.box 36 (.agg 36 [(.dat 3 (.int x4)), (.dat 3 (.int x5)), (.dat 9 (.str x6)), (.row 2), (.row 3)])), (.row 33 x7), (.row 34 x8)], 0⟩ (e39 J m [1, 1, 1, 0, 1, 0, 1, 1, 0, 0, 1, 1] [M6] ⟨tsOf [(2, (.ptr 0 [] 0)), (3, (.ptr 1 [] 0)), (49, (.dat 34 (.lst x0))), (50, (.dat 3 (.int x1))), (51, (.dat 3 (.int x2)))], [(.box 36 (.dat 36 x3)), (.box 36 (.agg 36 [(.dat 3 (.int x4)), (.dat 3 (.int x5)), (.dat 9 (.str x6)), (.row 2), (.row 3)])), (.row 33 x7), (.row 34 x8)], 0⟩))
    else
      (J 0 16 0 ⟨tsOf [(2, (.ptr 0 [] 0)), (3, (.ptr 1 [] 0))], [(.box 36 (.dat 36 x3)), (.box 36 (.agg 36 [(.dat 3 (.int x4)), (.dat 3 (.int x5)), (.dat 9 (.str x6)), (.row 2), (.row 3)])), (.row 33 x7), (.row 34 x8)], 0⟩ (e39 J m [1, 1, 1, 1] [] ⟨tsOf [(2, (.ptr 0 [] 0)), (3, (.ptr 1 [] 0))], [(.box 36 (.dat 36 x3)), (.box 36 (.agg 36 [(.dat 3 (.int x4)), (.dat 3 (.int x5)), (.dat 9 (.str x6)), (.row 2), (.row 3)])), (.row 33 x7), (.row 34 x8)], 0⟩))) := fun J => by kernel_rfl
    refine (h jn).trans ?_
    simp only [jn_eq, path_clone_j7_eq m M6 (path_clone_l6 m (path_clone m) M6) (fun x0 x1 x2 x3 x4 x5 x6 x7 x8 => path_clone_l6_eq m M6 x0 x1 x2 x3 x4 x5 x6 x7 x8), path_clone_j9_eq m]
    rfl
theorem path_clone_j5_eq (m : Nat) (x0 : List Dt) (x1 : Int) (x2 : Int) (x3 : Dt) (x4 : Int) (x5 : Int) (x6 : ByteArray) (x7 : List Dt) (x8 : List Dt) : e39 jn m [1, 1, 1, 0, 1, 0, 1, 1] [] ⟨tsOf [(2, (.ptr 0 [] 0)), (3, (.ptr 1 [] 0)), (49, (.dat 34 (.lst x0))), (50, (.dat 3 (.int x1))), (51, (.dat 3 (.int x2)))], [(.box 36 (.dat 36 x3)), (.box 36 (.agg 36 [(.dat 3 (.int x4)), (.dat 3 (.int x5)), (.dat 9 (.str x6)), (.row 2), (.row 3)])), (.row 33 x7), (.row 34 x8)], 0⟩ = path_clone_j5 m (path_clone m) x0 x1 x2 x3 x4 x5 x6 x7 x8 := by
  have h : ∀ J, e39 J m [1, 1, 1, 0, 1, 0, 1, 1] [] ⟨tsOf [(2, (.ptr 0 [] 0)), (3, (.ptr 1 [] 0)), (49, (.dat 34 (.lst x0))), (50, (.dat 3 (.int x1))), (51, (.dat 3 (.int x2)))], [(.box 36 (.dat 36 x3)), (.box 36 (.agg 36 [(.dat 3 (.int x4)), (.dat 3 (.int x5)), (.dat 9 (.str x6)), (.row 2), (.row 3)])), (.row 33 x7), (.row 34 x8)], 0⟩ =
    (J 1 12 (Nat.succ m) ⟨tsOf [(2, (.ptr 0 [] 0)), (3, (.ptr 1 [] 0)), (49, (.dat 34 (.lst x0))), (50, (.dat 3 (.int x1))), (51, (.dat 3 (.int x2)))], [(.box 36 (.dat 36 x3)), (.box 36 (.agg 36 [(.dat 3 (.int x4)), (.dat 3 (.int x5)), (.dat 9 (.str x6)), (.row 2), (.row 3)])), (.row 33 x7), (.row 34 x8)], 0⟩ (l39 J m [1, 1, 1, 0, 1, 0, 1, 1, 0] [] (Nat.succ m) ⟨tsOf [(2, (.ptr 0 [] 0)), (3, (.ptr 1 [] 0)), (49, (.dat 34 (.lst x0))), (50, (.dat 3 (.int x1))), (51, (.dat 3 (.int x2)))], [(.box 36 (.dat 36 x3)), (.box 36 (.agg 36 [(.dat 3 (.int x4)), (.dat 3 (.int x5)), (.dat 9 (.str x6)), (.row 2), (.row 3)])), (.row 33 x7), (.row 34 x8)], 0⟩)) := fun J => by kernel_rfl
  exact (h jn).trans (by
    simp only [jn_eq, path_clone_l6_eq m]
    rfl)
theorem path_clone_j10_eq (m : Nat) (x0 : Dt) (x1 : Int) (x2 : Int) (x3 : ByteArray) (x4 : List Dt) : e39 jn m [1, 1, 1, 1] [] ⟨tsOf [(2, (.ptr 0 [] 0)), (3, (.ptr 1 [] 0))], [(.box 36 (.dat 36 x0)), (.box 36 (.agg 36 [(.dat 3 (.int x1)), (.dat 3 (.int x2)), (.dat 9 (.str x3)), (.row 2), (.nils 34)])), (.row 33 x4)], 0⟩ = path_clone_j10 m (path_clone m) x0 x1 x2 x3 x4 := by
  have h : ∀ J, e39 J m [1, 1, 1, 1] [] ⟨tsOf [(2, (.ptr 0 [] 0)), (3, (.ptr 1 [] 0))], [(.box 36 (.dat 36 x0)), (.box 36 (.agg 36 [(.dat 3 (.int x1)), (.dat 3 (.int x2)), (.dat 9 (.str x3)), (.row 2), (.nils 34)])), (.row 33 x4)], 0⟩ =
    some (Dt.agg [(Dt.int x1), (Dt.int x2), (Dt.str x3), (Dt.lst x4), (Dt.lst [])]) := fun J => by kernel_rfl
  exact (h jn).trans (rfl)
theorem path_clone_j4_eq (m : Nat) (x0 : Dt) (x1 : Dt) (x2 : Int) (x3 : Int) (x4 : ByteArray) (x5 : List Dt) : e39 jn m [1, 1, 1] [] ⟨tsOf [(1, (.ptr 0 [] 0)), (2, (.ptr 1 [] 0)), (3, (.ptr 2 [] 0))], [(.box 36 (.dat 36 x0)), (.box 36 (.dat 36 x1)), (.box 36 (.agg 36 [(.dat 3 (.int x2)), (.dat 3 (.int x3)), (.dat 9 (.str x4)), (.row 3), (.nils 34)])), (.row 33 x5)], 0⟩ = path_clone_j4 m (path_clone m) x0 x1 x2 x3 x4 x5 := by
  have h : ∀ J, e39 J m [1, 1, 1] [] ⟨tsOf [(1, (.ptr 0 [] 0)), (2, (.ptr 1 [] 0)), (3, (.ptr 2 [] 0))], [(.box 36 (.dat 36 x0)), (.box 36 (.dat 36 x1)), (.box 36 (.agg 36 [(.dat 3 (.int x2)), (.dat 3 (.int x3)), (.dat 9 (.str x4)), (.row 3), (.nils 34)])), (.row 33 x5)], 0⟩ =
    (bif (decide ((0 : Int) < (((List.length (Dt.L x0 4)) : Nat) : Int))) then
      ((mkL (((List.length (Dt.L x0 4)) : Nat) : Int) (((List.length (Dt.L x0 4)) : Nat) : Int) (Dt.agg [(Dt.str (ByteArray.mk (List.toArray []))), (Dt.agg [(Dt.int (0 : Int)), (Dt.int (0 : Int)), (Dt.str (ByteArray.mk (List.toArray []))), (Dt.lst []), (Dt.lst [])])])).bind fun v5 =>
        (J 0 12 0 ⟨tsOf [(2, (.ptr 0 [] 0)), (3, (.ptr 1 [] 0)), (49, (.dat 34 (.lst (Dt.L x0 4)))), (50, (.dat 3 (.int (((List.length (Dt.L x0 4)) : Nat) : Int)))), (51, (.dat 3 (.int (0 : Int))))], [(.box 36 (.dat 36 x1)), (.box 36 (.agg 36 [(.dat 3 (.int x2)), (.dat 3 (.int x3)), (.dat 9 (.str x4)), (.row 2), (.row 3)])), (.row 33 x5), (.row 34 v5)], 0⟩ (e39 J m [1, 1, 1, 0, 1, 0, 1, 1] [] ⟨tsOf [(2, (.ptr 0 [] 0)), (3, (.ptr 1 [] 0)), (49, (.dat 34 (.lst (Dt.L x0 4)))), (50, (.dat 3 (.int (((List.length (Dt.L x0 4)) : Nat) : Int)))), (51, (.dat 3 (.int (0 : Int))))], [(.box 36 (.dat 36 x1)), (.box 36 (.agg 36 [(.dat 3 (.int x2)), (.dat 3 (.int x3)), (.dat 9 (.str x4)), (.row 2), (.row 3)])), (.row 33 x5), (.row 34 v5)], 0⟩)))
    else
      (J 0 16 0 ⟨tsOf [(2, (.ptr 0 [] 0)), (3, (.ptr 1 [] 0))], [(.box 36 (.dat 36 x1)), (.box 36 (.agg 36 [(.dat 3 (.int x2)), (.dat 3 (.int x3)), (.dat 9 (.str x4)), (.row 2), (.nils 34)])), (.row 33 x5)], 0⟩ (e39 J m [1, 1, 1, 1] [] ⟨tsOf [(2, (.ptr 0 [] 0)), (3, (.ptr 1 [] 0))], [(.box 36 (.dat 36 x1)), (.box 36 (.agg 36 [(.dat 3 (.int x2)), (.dat 3 (.int x3)), (.dat 9 (.str x4)), (.row 2), (.nils 34)])), (.row 33 x5)], 0⟩))) := fun J => by kernel_rfl
  exact (h jn).trans (by
    simp only [jn_eq, path_clone_j5_eq m, path_clone_j10_eq m]
    rfl)
theorem path_clone_l1_eq (m : Nat) : ∀ (M1 : Nat) (x0 : List Dt) (x1 : Int) (x2 : Int) (x3 : Dt) (x4 : Dt) (x5 : Int) (x6 : Int) (x7 : ByteArray) (x8 : List Dt), l39 jn m [1, 1, 0, 1, 0, 1, 1, 0] [] M1 ⟨tsOf [(1, (.ptr 0 [] 0)), (2, (.ptr 1 [] 0)), (3, (.ptr 2 [] 0)), (25, (.dat 33 (.lst x0))), (26, (.dat 3 (.int x1))), (27, (.dat 3 (.int x2)))], [(.box 36 (.dat 36 x3)), (.box 36 (.dat 36 x4)), (.box 36 (.agg 36 [(.dat 3 (.int x5)), (.dat 3 (.int x6)), (.dat 9 (.str x7)), (.row 3), (.nils 34)])), (.row 33 x8)], 0⟩ = path_clone_l1 m (path_clone m) M1 x0 x1 x2 x3 x4 x5 x6 x7 x8
  | 0, _, _, _, _, _, _, _, _, _ => rfl
  | M1 + 1, x0, x1, x2, x3, x4, x5, x6, x7, x8 => by
    have h : ∀ J, l39 J m [1, 1, 0, 1, 0, 1, 1, 0] [] (M1 + 1) ⟨tsOf [(1, (.ptr 0 [] 0)), (2, (.ptr 1 [] 0)), (3, (.ptr 2 [] 0)), (25, (.dat 33 (.lst x0))), (26, (.dat 3 (.int x1))), (27, (.dat 3 (.int x2)))], [(.box 36 (.dat 36 x3)), (.box 36 (.dat 36 x4)), (.box 36 (.agg 36 [(.dat 3 (.int x5)), (.dat 3 (.int x6)), (.dat 9 (.str x7)), (.row 3), (.nils 34)])), (.row 33 x8)], 0⟩ =
    (bif (decide (x2 < x1)) then
      (J 0 6 0 ⟨tsOf [(1, (.ptr 0 [] 0)), (2, (.ptr 1 [] 0)), (3, (.ptr 2 [] 0)), (25, (.dat 33 (.lst x0))), (26, (.dat 3 (.int x1))), (27, (.dat 3 (.int x2)))], [(.box 36 (.dat 36 x3)), (.box 36 (.dat 36 x4)), (.box 36 (.agg 36 [(.dat 3 (.int x5)), (.dat 3 (.int x6)), (.dat 9 (.str x7)), (.row 3), (.nils 34)])), (.row 33 x8)], 0⟩ (e39 J m [1, 1, 0, 1, 0, 1, 1, 0, 0, 1, 1] [M1] ⟨tsOf [(1, (.ptr 0 [] 0)), (2, (.ptr 1 [] 0)), (3, (.ptr 2 [] 0)), (25, (.dat 33 (.lst x0))), (26, (.dat 3 (.int x1))), (27, (.dat 3 (.int x2)))], [(.box 36 (.dat 36 x3)), (.box 36 (.dat 36 x4)), (.box 36 (.agg 36 [(.dat 3 (.int x5)), (.dat 3 (.int x6)), (.dat 9 (.str x7)), (.row 3), (.nils 34)])), (.row 33 x8)], 0⟩))
    else
      (J 0 9 0 ⟨tsOf [(1, (.ptr 0 [] 0)), (2, (.ptr 1 [] 0)), (3, (.ptr 2 [] 0))], [(.box 36 (.dat 36 x3)), (.box 36 (.dat 36 x4)), (.box 36 (.agg 36 [(.dat 3 (.int x5)), (.dat 3 (.int x6)), (.dat 9 (.str x7)), (.row 3), (.nils 34)])), (.row 33 x8)], 0⟩ (e39 J m [1, 1, 1] [] ⟨tsOf [(1, (.ptr 0 [] 0)), (2, (.ptr 1 [] 0)), (3, (.ptr 2 [] 0))], [(.box 36 (.dat 36 x3)), (.box 36 (.dat 36 x4)), (.box 36 (.agg 36 [(.dat 3 (.int x5)), (.dat 3 (.int x6)), (.dat 9 (.str x7)), (.row 3), (.nils 34)])), (.row 33 x8)], 0⟩))) := fun J => by kernel_rfl
    refine (h jn).trans ?_
    simp only [jn_eq, path_clone_j2_eq m M1 (path_clone_l1 m (path_clone m) M1) (fun x0 x1 x2 x3 x4 x5 x6 x7 x8 => path_clone_l1_eq m M1 x0 x1 x2 x3 x4 x5 x6 x7 x8), path_clone_j4_eq m]
    rfl
theorem path_clone_j0_eq (m : Nat) (x0 : List Dt) (x1 : Int) (x2 : Int) (x3 : Dt) (x4 : Dt) (x5 : Int) (x6 : Int) (x7 : ByteArray) (x8 : List Dt) : e39 jn m [1, 1, 0, 1, 0, 1, 1] [] ⟨tsOf [(1, (.ptr 0 [] 0)), (2, (.ptr 1 [] 0)), (3, (.ptr 2 [] 0)), (25, (.dat 33 (.lst x0))), (26, (.dat 3 (.int x1))), (27, (.dat 3 (.int x2)))], [(.box 36 (.dat 36 x3)), (.box 36 (.dat 36 x4)), (.box 36 (.agg 36 [(.dat 3 (.int x5)), (.dat 3 (.int x6)), (.dat 9 (.str x7)), (.row 3), (.nils 34)])), (.row 33 x8)], 0⟩ = path_clone_j0 m (path_clone m) x0 x1 x2 x3 x4 x5 x6 x7 x8 := by
  have h : ∀ J, e39 J m [1, 1, 0, 1, 0, 1, 1] [] ⟨tsOf [(1, (.ptr 0 [] 0)), (2, (.ptr 1 [] 0)), (3, (.ptr 2 [] 0)), (25, (.dat 33 (.lst x0))), (26, (.dat 3 (.int x1))), (27, (.dat 3 (.int x2)))], [(.box 36 (.dat 36 x3)), (.box 36 (.dat 36 x4)), (.box 36 (.agg 36 [(.dat 3 (.int x5)), (.dat 3 (.int x6)), (.dat 9 (.str x7)), (.row 3), (.nils 34)])), (.row 33 x8)], 0⟩ =
    (J 1 5 (Nat.succ m) ⟨tsOf [(1, (.ptr 0 [] 0)), (2, (.ptr 1 [] 0)), (3, (.ptr 2 [] 0)), (25, (.dat 33 (.lst x0))), (26, (.dat 3 (.int x1))), (27, (.dat 3 (.int x2)))], [(.box 36 (.dat 36 x3)), (.box 36 (.dat 36 x4)), (.box 36 (.agg 36 [(.dat 3 (.int x5)), (.dat 3 (.int x6)), (.dat 9 (.str x7)), (.row 3), (.nils 34)])), (.row 33 x8)], 0⟩ (l39 J m [1, 1, 0, 1, 0, 1, 1, 0] [] (Nat.succ m) ⟨tsOf [(1, (.ptr 0 [] 0)), (2, (.ptr 1 [] 0)), (3, (.ptr 2 [] 0)), (25, (.dat 33 (.lst x0))), (26, (.dat 3 (.int x1))), (27, (.dat 3 (.int x2)))], [(.box 36 (.dat 36 x3)), (.box 36 (.dat 36 x4)), (.box 36 (.agg 36 [(.dat 3 (.int x5)), (.dat 3 (.int x6)), (.dat 9 (.str x7)), (.row 3), (.nils 34)])), (.row 33 x8)], 0⟩)) := fun J => by kernel_rfl
  exact (h jn).trans (by
    simp only [jn_eq, path_clone_l1_eq m]
    rfl)
theorem path_clone_j15_eq (m : Nat) (M13 : Nat) (rec13 : List Dt → Int → Int → Dt → Int → Int → ByteArray → List Dt → List Dt → Option (Dt)) (h13 : ∀ (x0 : List Dt) (x1 : Int) (x2 : Int) (x3 : Dt) (x4 : Int) (x5 : Int) (x6 : ByteArray) (x7 : List Dt) (x8 : List Dt), l39 jn m [1, 1, 1, 0, 1, 0, 1, 1, 0] [] M13 ⟨tsOf [(2, (.ptr 0 [] 0)), (3, (.ptr 1 [] 0)), (49, (.dat 34 (.lst x0))), (50, (.dat 3 (.int x1))), (51, (.dat 3 (.int x2)))], [(.box 36 (.dat 36 x3)), (.box 36 (.agg 36 [(.dat 3 (.int x4)), (.dat 3 (.int x5)), (.dat 9 (.str x6)), (.dat 33 (.lst x7)), (.row 2)])), (.row 34 x8)], 0⟩ = rec13 x0 x1 x2 x3 x4 x5 x6 x7 x8) (x0 : List Dt) (x1 : Int) (x2 : Int) (x3 : Dt) (x4 : Int) (x5 : Int) (x6 : ByteArray) (x7 : List Dt) (x8 : List Dt) : e39 jn m [1, 1, 1, 0, 1, 0, 1, 1, 0, 0, 1, 1, 1] [M13] ⟨tsOf [(2, (.ptr 0 [] 0)), (3, (.ptr 1 [] 0)), (49, (.dat 34 (.lst x0))), (50, (.dat 3 (.int x1))), (51, (.dat 3 (.int x2)))], [(.box 36 (.dat 36 x3)), (.box 36 (.agg 36 [(.dat 3 (.int x4)), (.dat 3 (.int x5)), (.dat 9 (.str x6)), (.dat 33 (.lst x7)), (.row 2)])), (.row 34 x8)], 0⟩ = path_clone_j15 m (path_clone m) rec13 x0 x1 x2 x3 x4 x5 x6 x7 x8 := by
  have h : ∀ J, e39 J m [1, 1, 1, 0, 1, 0, 1, 1, 0, 0, 1, 1, 1] [M13] ⟨tsOf [(2, (.ptr 0 [] 0)), (3, (.ptr 1 [] 0)), (49, (.dat 34 (.lst x0))), (50, (.dat 3 (.int x1))), (51, (.dat 3 (.int x2)))], [(.box 36 (.dat 36 x3)), (.box 36 (.agg 36 [(.dat 3 (.int x4)), (.dat 3 (.int x5)), (.dat 9 (.str x6)), (.dat 33 (.lst x7)), (.row 2)])), (.row 34 x8)], 0⟩ =
    (J 1 12 M13 ⟨tsOf [(2, (.ptr 0 [] 0)), (3, (.ptr 1 [] 0)), (49, (.dat 34 (.lst x0))), (50, (.dat 3 (.int x1))), (51, (.dat 3 (.int (IntKind.wrap IntKind.i64 (x2 + (1 : Int))))))], [(.box 36 (.dat 36 x3)), (.box 36 (.agg 36 [(.dat 3 (.int x4)), (.dat 3 (.int x5)), (.dat 9 (.str x6)), (.dat 33 (.lst x7)), (.row 2)])), (.row 34 x8)], 0⟩ (l39 J m [1, 1, 1, 0, 1, 0, 1, 1, 0] [] M13 ⟨tsOf [(2, (.ptr 0 [] 0)), (3, (.ptr 1 [] 0)), (49, (.dat 34 (.lst x0))), (50, (.dat 3 (.int x1))), (51, (.dat 3 (.int (IntKind.wrap IntKind.i64 (x2 + (1 : Int))))))], [(.box 36 (.dat 36 x3)), (.box 36 (.agg 36 [(.dat 3 (.int x4)), (.dat 3 (.int x5)), (.dat 9 (.str x6)), (.dat 33 (.lst x7)), (.row 2)])), (.row 34 x8)], 0⟩)) := fun J => by kernel_rfl
  exact (h jn).trans (by
    simp only [jn_eq, h13]
    rfl)
theorem path_clone_j14_eq (m : Nat) (M13 : Nat) (rec13 : List Dt → Int → Int → Dt → Int → Int → ByteArray → List Dt → List Dt → Option (Dt)) (h13 : ∀ (x0 : List Dt) (x1 : Int) (x2 : Int) (x3 : Dt) (x4 : Int) (x5 : Int) (x6 : ByteArray) (x7 : List Dt) (x8 : List Dt), l39 jn m [1, 1, 1, 0, 1, 0, 1, 1, 0] [] M13 ⟨tsOf [(2, (.ptr 0 [] 0)), (3, (.ptr 1 [] 0)), (49, (.dat 34 (.lst x0))), (50, (.dat 3 (.int x1))), (51, (.dat 3 (.int x2)))], [(.box 36 (.dat 36 x3)), (.box 36 (.agg 36 [(.dat 3 (.int x4)), (.dat 3 (.int x5)), (.dat 9 (.str x6)), (.dat 33 (.lst x7)), (.row 2)])), (.row 34 x8)], 0⟩ = rec13 x0 x1 x2 x3 x4 x5 x6 x7 x8) (x0 : List Dt) (x1 : Int) (x2 : Int) (x3 : Dt) (x4 : Int) (x5 : Int) (x6 : ByteArray) (x7 : List Dt) (x8 : List Dt) : e39 jn m [1, 1, 1, 0, 1, 0, 1, 1, 0, 0, 1, 1] [M13] ⟨tsOf [(2, (.ptr 0 [] 0)), (3, (.ptr 1 [] 0)), (49, (.dat 34 (.lst x0))), (50, (.dat 3 (.int x1))), (51, (.dat 3 (.int x2)))], [(.box 36 (.dat 36 x3)), (.box 36 (.agg 36 [(.dat 3 (.int x4)), (.dat 3 (.int x5)), (.dat 9 (.str x6)), (.dat 33 (.lst x7)), (.row 2)])), (.row 34 x8)], 0⟩ = path_clone_j14 m (path_clone m) rec13 x0 x1 x2 x3 x4 x5 x6 x7 x8 := by
  have h : ∀ J, e39 J m [1, 1, 1, 0, 1, 0, 1, 1, 0, 0, 1, 1] [M13] ⟨tsOf [(2, (.ptr 0 [] 0)), (3, (.ptr 1 [] 0)), (49, (.dat 34 (.lst x0))), (50, (.dat 3 (.int x1))), (51, (.dat 3 (.int x2)))], [(.box 36 (.dat 36 x3)), (.box 36 (.agg 36 [(.dat 3 (.int x4)), (.dat 3 (.int x5)), (.dat 9 (.str x6)), (.dat 33 (.lst x7)), (.row 2)])), (.row 34 x8)], 0⟩ =
    ((idx x0 x2).bind fun v11 =>
      ((path_clone m (Dt.fld v11 1)).bind fun r12 =>
        ((inL x8 x2).bind fun v13 =>
          ((x8[(Int.toNat x2)]?).bind fun v14 =>
            (J 0 15 0 ⟨tsOf [(2, (.ptr 0 [] 0)), (3, (.ptr 1 [] 0)), (49, (.dat 34 (.lst x0))), (50, (.dat 3 (.int x1))), (51, (.dat 3 (.int x2)))], [(.box 36 (.dat 36 x3)), (.box 36 (.agg 36 [(.dat 3 (.int x4)), (.dat 3 (.int x5)), (.dat 9 (.str x6)), (.dat 33 (.lst x7)), (.row 2)])), (.row 34 (List.set x8 (Int.toNat x2) (Dt.agg [(Dt.str (Dt.S v11 0)), r12])))], 0⟩ (e39 J m [1, 1, 1, 0, 1, 0, 1, 1, 0, 0, 1, 1, 1] [M13] ⟨tsOf [(2, (.ptr 0 [] 0)), (3, (.ptr 1 [] 0)), (49, (.dat 34 (.lst x0))), (50, (.dat 3 (.int x1))), (51, (.dat 3 (.int x2)))], [(.box 36 (.dat 36 x3)), (.box 36 (.agg 36 [(.dat 3 (.int x4)), (.dat 3 (.int x5)), (.dat 9 (.str x6)), (.dat 33 (.lst x7)), (.row 2)])), (.row 34 (List.set x8 (Int.toNat x2) (Dt.agg [(Dt.str (Dt.S v11 0)), r12])))], 0⟩)))))) := fun J => by kernel_rfl
  exact (h jn).trans (by
    simp only [jn_eq, path_clone_j15_eq m M13 rec13 h13]
    rfl)
theorem path_clone_j16_eq (m : Nat) (x0 : Dt) (x1 : Int) (x2 : Int) (x3 : ByteArray) (x4 : List Dt) (x5 : List Dt) : e39 jn m [1, 1, 1, 1] [] ⟨tsOf [(2, (.ptr 0 [] 0)), (3, (.ptr 1 [] 0))], [(.box 36 (.dat 36 x0)), (.box 36 (.agg 36 [(.dat 3 (.int x1)), (.dat 3 (.int x2)), (.dat 9 (.str x3)), (.dat 33 (.lst x4)), (.row 2)])), (.row 34 x5)], 0⟩ = path_clone_j16 m (path_clone m) x0 x1 x2 x3 x4 x5 := by
  have h : ∀ J, e39 J m [1, 1, 1, 1] [] ⟨tsOf [(2, (.ptr 0 [] 0)), (3, (.ptr 1 [] 0))], [(.box 36 (.dat 36 x0)), (.box 36 (.agg 36 [(.dat 3 (.int x1)), (.dat 3 (.int x2)), (.dat 9 (.str x3)), (.dat 33 (.lst x4)), (.row 2)])), (.row 34 x5)], 0⟩ =
    some (Dt.agg [(Dt.int x1), (Dt.int x2), (Dt.str x3), (Dt.lst x4), (Dt.lst x5)]) := fun J => by kernel_rfl
  exact (h jn).trans (rfl)
theorem path_clone_l13_eq (m : Nat) : ∀ (M13 : Nat) (x0 : List Dt) (x1 : Int) (x2 : Int) (x3 : Dt) (x4 : Int) (x5 : Int) (x6 : ByteArray) (x7 : List Dt) (x8 : List Dt), l39 jn m [1, 1, 1, 0, 1, 0, 1, 1, 0] [] M13 ⟨tsOf [(2, (.ptr 0 [] 0)), (3, (.ptr 1 [] 0)), (49, (.dat 34 (.lst x0))), (50, (.dat 3 (.int x1))), (51, (.dat 3 (.int x2)))], [(.box 36 (.dat 36 x3)), (.box 36 (.agg 36 [(.dat 3 (.int x4)), (.dat 3 (.int x5)), (.dat 9 (.str x6)), (.dat 33 (.lst x7)), (.row 2)])), (.row 34 x8)], 0⟩ = path_clone_l13 m (path_clone m) M13 x0 x1 x2 x3 x4 x5 x6 x7 x8
  | 0, _, _, _, _, _, _, _, _, _ => rfl
  | M13 + 1, x0, x1, x2, x3, x4, x5, x6, x7, x8 => by
    have h : ∀ J, l39 J m [1, 1, 1, 0, 1, 0, 1, 1, 0] [] (M13 + 1) ⟨tsOf [(2, (.ptr 0 [] 0)), (3, (.ptr 1 [] 0)), (49, (.dat 34 (.lst x0))), (50, (.dat 3 (.int x1))), (51, (.dat 3 (.int x2)))], [(.box 36 (.dat 36 x3)), (.box 36 (.agg 36 [(.dat 3 (.int x4)), (.dat 3 (.int x5)), (.dat 9 (.str x6)), (.dat 33 (.lst x7)), (.row 2)])), (.row 34 x8)], 0⟩ =
    (bif (decide (x2 < x1)) then
      (J 0 13 0 ⟨tsOf [(2, (.ptr 0 [] 0)), (3, (.ptr 1 [] 0)), (49, (.dat 34 (.lst x0))), (50, (.dat 3 (.int x1))), (51, (.dat 3 (.int x2)))], [(.box 36 (.dat 36 x3)), (.box 36 (.agg 36 [(.dat 3 (.int x4)), (.dat 3 (.int x5)), (.dat 9 (.str x6)), (.dat 33 (.lst x7)), (.row 2)])), (.row 34 x8)], 0⟩ (e39 J m [1, 1, 1, 0, 1, 0, 1, 1, 0, 0, 1, 1] [M13] ⟨tsOf [(2, (.ptr 0 [] 0)), (3, (.ptr 1 [] 0)), (49, (.dat 34 (.lst x0))), (50, (.dat 3 (.int x1))), (51, (.dat 3 (.int x2)))], [(.box 36 (.dat 36 x3)), (.box 36 (.agg 36 [(.dat 3 (.int x4)), (.dat 3 (.int x5)), (.dat 9 (.str x6)), (.dat 33 (.lst x7)), (.row 2)])), (.row 34 x8)], 0⟩))
    else
      (J 0 16 0 ⟨tsOf [(2, (.ptr 0 [] 0)), (3, (.ptr 1 [] 0))], [(.box 36 (.dat 36 x3)), (.box 36 (.agg 36 [(.dat 3 (.int x4)), (.dat 3 (.int x5)), (.dat 9 (.str x6)), (.dat 33 (.lst x7)), (.row 2)])), (.row 34 x8)], 0⟩ (e39 J m [1, 1, 1, 1] [] ⟨tsOf [(2, (.ptr 0 [] 0)), (3, (.ptr 1 [] 0))], [(.box 36 (.dat 36 x3)), (.box 36 (.agg 36 [(.dat 3 (.int x4)), (.dat 3 (.int x5)), (.dat 9 (.str x6)), (.dat 33 (.lst x7)), (.row 2)])), (.row 34 x8)], 0⟩))) := fun J => by kernel_rfl
    refine (h jn).trans ?_
    simp only [jn_eq, path_clone_j14_eq m M13 (path_clone_l13 m (path_clone m) M13) (fun x0 x1 x2 x3 x4 x5 x6 x7 x8 => path_clone_l13_eq m M13 x0 x1 x2 x3 x4 x5 x6 x7 x8), path_clone_j16_eq m]
    rfl
theorem path_clone_j12_eq (m : Nat) (x0 : List Dt) (x1 : Int) (x2 : Int) (x3 : Dt) (x4 : Int) (x5 : Int) (x6 : ByteArray) (x7 : List Dt) (x8 : List Dt) : e39 jn m [1, 1, 1, 0, 1, 0, 1, 1] [] ⟨tsOf [(2, (.ptr 0 [] 0)), (3, (.ptr 1 [] 0)), (49, (.dat 34 (.lst x0))), (50, (.dat 3 (.int x1))), (51, (.dat 3 (.int x2)))], [(.box 36 (.dat 36 x3)), (.box 36 (.agg 36 [(.dat 3 (.int x4)), (.dat 3 (.int x5)), (.dat 9 (.str x6)), (.dat 33 (.lst x7)), (.row 2)])), (.row 34 x8)], 0⟩ = path_clone_j12 m (path_clone m) x0 x1 x2 x3 x4 x5 x6 x7 x8 := by
  have h : ∀ J, e39 J m [1, 1, 1, 0, 1, 0, 1, 1] [] ⟨tsOf [(2, (.ptr 0 [] 0)), (3, (.ptr 1 [] 0)), (49, (.dat 34 (.lst x0))), (50, (.dat 3 (.int x1))), (51, (.dat 3 (.int x2)))], [(.box 36 (.dat 36 x3)), (.box 36 (.agg 36 [(.dat 3 (.int x4)), (.dat 3 (.int x5)), (.dat 9 (.str x6)), (.dat 33 (.lst x7)), (.row 2)])), (.row 34 x8)], 0⟩ =
    (J 1 12 (Nat.succ m) ⟨tsOf [(2, (.ptr 0 [] 0)), (3, (.ptr 1 [] 0)), (49, (.dat 34 (.lst x0))), (50, (.dat 3 (.int x1))), (51, (.dat 3 (.int x2)))], [(.box 36 (.dat 36 x3)), (.box 36 (.agg 36 [(.dat 3 (.int x4)), (.dat 3 (.int x5)), (.dat 9 (.str x6)), (.dat 33 (.lst x7)), (.row 2)])), (.row 34 x8)], 0⟩ (l39 J m [1, 1, 1, 0, 1, 0, 1, 1, 0] [] (Nat.succ m) ⟨tsOf [(2, (.ptr 0 [] 0)), (3, (.ptr 1 [] 0)), (49, (.dat 34 (.lst x0))), (50, (.dat 3 (.int x1))), (51, (.dat 3 (.int x2)))], [(.box 36 (.dat 36 x3)), (.box 36 (.agg 36 [(.dat 3 (.int x4)), (.dat 3 (.int x5)), (.dat 9 (.str x6)), (.dat 33 (.lst x7)), (.row 2)])), (.row 34 x8)], 0⟩)) := fun J => by kernel_rfl
  exact (h jn).trans (by
    simp only [jn_eq, path_clone_l13_eq m]
    rfl)
theorem path_clone_j17_eq (m : Nat) (x0 : Dt) (x1 : Dt) : e39 jn m [1, 1, 1, 1] [] ⟨tsOf [(2, (.ptr 0 [] 0)), (3, (.ptr 1 [] 0))], [(.box 36 (.dat 36 x0)), (.box 36 (.dat 36 x1))], 0⟩ = path_clone_j17 m (path_clone m) x0 x1 := by
  have h : ∀ J, e39 J m [1, 1, 1, 1] [] ⟨tsOf [(2, (.ptr 0 [] 0)), (3, (.ptr 1 [] 0))], [(.box 36 (.dat 36 x0)), (.box 36 (.dat 36 x1))], 0⟩ =
    some x1 := fun J => by kernel_rfl
  exact (h jn).trans (rfl)
theorem path_clone_j11_eq (m : Nat) (x0 : Dt) (x1 : Dt) (x2 : Dt) : e39 jn m [1, 1, 1] [] ⟨tsOf [(1, (.ptr 0 [] 0)), (2, (.ptr 1 [] 0)), (3, (.ptr 2 [] 0))], [(.box 36 (.dat 36 x0)), (.box 36 (.dat 36 x1)), (.box 36 (.dat 36 x2))], 0⟩ = path_clone_j11 m (path_clone m) x0 x1 x2 := by
  have h : ∀ J, e39 J m [1, 1, 1] [] ⟨tsOf [(1, (.ptr 0 [] 0)), (2, (.ptr 1 [] 0)), (3, (.ptr 2 [] 0))], [(.box 36 (.dat 36 x0)), (.box 36 (.dat 36 x1)), (.box 36 (.dat 36 x2))], 0⟩ =
    (bif (decide ((0 : Int) < (((List.length (Dt.L x0 4)) : Nat) : Int))) then
      ((mkL (((List.length (Dt.L x0 4)) : Nat) : Int) (((List.length (Dt.L x0 4)) : Nat) : Int) (Dt.agg [(Dt.str (ByteArray.mk (List.toArray []))), (Dt.agg [(Dt.int (0 : Int)), (Dt.int (0 : Int)), (Dt.str (ByteArray.mk (List.toArray []))), (Dt.lst []), (Dt.lst [])])])).bind fun v10 =>
        (J 0 12 0 ⟨tsOf [(2, (.ptr 0 [] 0)), (3, (.ptr 1 [] 0)), (49, (.dat 34 (.lst (Dt.L x0 4)))), (50, (.dat 3 (.int (((List.length (Dt.L x0 4)) : Nat) : Int)))), (51, (.dat 3 (.int (0 : Int))))], [(.box 36 (.dat 36 x1)), (.box 36 (.agg 36 [(.dat 3 (.int (Dt.I x2 0))), (.dat 3 (.int (Dt.I x2 1))), (.dat 9 (.str (Dt.S x2 2))), (.dat 33 (.lst (Dt.L x2 3))), (.row 2)])), (.row 34 v10)], 0⟩ (e39 J m [1, 1, 1, 0, 1, 0, 1, 1] [] ⟨tsOf [(2, (.ptr 0 [] 0)), (3, (.ptr 1 [] 0)), (49, (.dat 34 (.lst (Dt.L x0 4)))), (50, (.dat 3 (.int (((List.length (Dt.L x0 4)) : Nat) : Int)))), (51, (.dat 3 (.int (0 : Int))))], [(.box 36 (.dat 36 x1)), (.box 36 (.agg 36 [(.dat 3 (.int (Dt.I x2 0))), (.dat 3 (.int (Dt.I x2 1))), (.dat 9 (.str (Dt.S x2 2))), (.dat 33 (.lst (Dt.L x2 3))), (.row 2)])), (.row 34 v10)], 0⟩)))
    else
      (J 0 16 0 ⟨tsOf [(2, (.ptr 0 [] 0)), (3, (.ptr 1 [] 0))], [(.box 36 (.dat 36 x1)), (.box 36 (.dat 36 x2))], 0⟩ (e39 J m [1, 1, 1, 1] [] ⟨tsOf [(2, (.ptr 0 [] 0)), (3, (.ptr 1 [] 0))], [(.box 36 (.dat 36 x1)), (.box 36 (.dat 36 x2))], 0⟩))) := fun J => by kernel_rfl
  exact (h jn).trans (by
    simp only [jn_eq, path_clone_j12_eq m, path_clone_j17_eq m]
    rfl)
theorem path_clone_eq (m : Nat) (a0 : Dt) : e39 jn m [] [] ⟨[(.dat 36 a0)], [], 0⟩ = path_clone (m + 1) a0 := by
  have h : ∀ J, e39 J m [] [] ⟨[(.dat 36 a0)], [], 0⟩ =
    (bif (decide ((0 : Int) < (((List.length (Dt.L a0 3)) : Nat) : Int))) then
      ((mkL (((List.length (Dt.L a0 3)) : Nat) : Int) (((List.length (Dt.L a0 3)) : Nat) : Int) (Dt.agg [(Dt.int (0 : Int)), (Dt.int (0 : Int)), (Dt.str (ByteArray.mk (List.toArray []))), (Dt.lst []), (Dt.lst [])])).bind fun v0 =>
        (J 0 5 0 ⟨tsOf [(1, (.ptr 0 [] 0)), (2, (.ptr 1 [] 0)), (3, (.ptr 2 [] 0)), (25, (.dat 33 (.lst (Dt.L a0 3)))), (26, (.dat 3 (.int (((List.length (Dt.L a0 3)) : Nat) : Int)))), (27, (.dat 3 (.int (0 : Int))))], [(.box 36 (.dat 36 a0)), (.box 36 (.dat 36 (Dt.agg [(Dt.int (0 : Int)), (Dt.int (0 : Int)), (Dt.str (ByteArray.mk (List.toArray []))), (Dt.lst []), (Dt.lst [])]))), (.box 36 (.agg 36 [(.dat 3 (.int (Dt.I a0 0))), (.dat 3 (.int (Dt.I a0 1))), (.dat 9 (.str (Dt.S a0 2))), (.row 3), (.nils 34)])), (.row 33 v0)], 0⟩ (e39 J m [1, 1, 0, 1, 0, 1, 1] [] ⟨tsOf [(1, (.ptr 0 [] 0)), (2, (.ptr 1 [] 0)), (3, (.ptr 2 [] 0)), (25, (.dat 33 (.lst (Dt.L a0 3)))), (26, (.dat 3 (.int (((List.length (Dt.L a0 3)) : Nat) : Int)))), (27, (.dat 3 (.int (0 : Int))))], [(.box 36 (.dat 36 a0)), (.box 36 (.dat 36 (Dt.agg [(Dt.int (0 : Int)), (Dt.int (0 : Int)), (Dt.str (ByteArray.mk (List.toArray []))), (Dt.lst []), (Dt.lst [])]))), (.box 36 (.agg 36 [(.dat 3 (.int (Dt.I a0 0))), (.dat 3 (.int (Dt.I a0 1))), (.dat 9 (.str (Dt.S a0 2))), (.row 3), (.nils 34)])), (.row 33 v0)], 0⟩)))
    else
      (J 0 9 0 ⟨tsOf [(1, (.ptr 0 [] 0)), (2, (.ptr 1 [] 0)), (3, (.ptr 2 [] 0))], [(.box 36 (.dat 36 a0)), (.box 36 (.dat 36 (Dt.agg [(Dt.int (0 : Int)), (Dt.int (0 : Int)), (Dt.str (ByteArray.mk (List.toArray []))), (Dt.lst []), (Dt.lst [])]))), (.box 36 (.dat 36 (Dt.agg [(Dt.int (Dt.I a0 0)), (Dt.int (Dt.I a0 1)), (Dt.str (Dt.S a0 2)), (Dt.lst []), (Dt.lst [])])))], 0⟩ (e39 J m [1, 1, 1] [] ⟨tsOf [(1, (.ptr 0 [] 0)), (2, (.ptr 1 [] 0)), (3, (.ptr 2 [] 0))], [(.box 36 (.dat 36 a0)), (.box 36 (.dat 36 (Dt.agg [(Dt.int (0 : Int)), (Dt.int (0 : Int)), (Dt.str (ByteArray.mk (List.toArray []))), (Dt.lst []), (Dt.lst [])]))), (.box 36 (.dat 36 (Dt.agg [(Dt.int (Dt.I a0 0)), (Dt.int (Dt.I a0 1)), (Dt.str (Dt.S a0 2)), (Dt.lst []), (Dt.lst [])])))], 0⟩))) := fun J => by kernel_rfl
  refine (h jn).trans ?_
  simp only [jn_eq, path_clone_j0_eq m, path_clone_j11_eq m]
  rfl
noncomputable def d19 (q : Res) : Option (List Dt) := match q with
  | (.dat T0 x0, []) => bif Nat.beq T0 33 then some x0.toLst else none
  | _ => none
theorem d19_sim {b : Res} {r : List Dt} (h : d19 b = some r) : Sim Tryd.prog b ((.dat 33 (.lst r)), []) := by
  unfold d19 at h
  split at h
  · obtain ⟨hc, h2⟩ := bif_some h
    cases h2
    have e0 := beq_eq hc
    subst e0
    exact Sim.of (.of (.dat (.lst Tryd.underlying33)) rfl rfl) .nil
  · cases h
noncomputable def e19 (J : Nat → Nat → Nat → St → Option (List Dt) → Option (List Dt)) (m : Nat) (p ms : List Nat) (σ : St) := evAt Tryd.prog env (ct m) J (m + 1) 30 30 Tryd.f30 d19 p ms σ
noncomputable def l19 (J : Nat → Nat → Nat → St → Option (List Dt) → Option (List Dt)) (m : Nat) (p ms : List Nat) (M : Nat) (σ : St) := loopAt Tryd.prog env (ct m) J (m + 1) 30 30 Tryd.f30 d19 p ms M σ
theorem path_Reach_j4_eq (m : Nat) (M2 : Nat) (rec2 : Int → Int → List Dt → Option (List Dt)) (h2 : ∀ (x0 : Int) (x1 : Int) (x2 : List Dt), l19 jn m [1, 1, 1, 0, 1, 0] [] M2 ⟨tsOf [(5, (.row 0)), (16, (.row 0)), (17, (.dat 3 (.int x0))), (18, (.dat 3 (.int x1)))], [(.row 33 x2)], 0⟩ = rec2 x0 x1 x2) (x0 : Int) (x1 : Int) (x2 : List Dt) : e19 jn m [1, 1, 1, 0, 1, 0, 0, 1, 1, 1] [M2] ⟨tsOf [(5, (.row 0)), (16, (.row 0)), (17, (.dat 3 (.int x0))), (18, (.dat 3 (.int x1)))], [(.row 33 x2)], 0⟩ = path_Reach_j4 m rec2 x0 x1 x2 := by
  have h : ∀ J, e19 J m [1, 1, 1, 0, 1, 0, 0, 1, 1, 1] [M2] ⟨tsOf [(5, (.row 0)), (16, (.row 0)), (17, (.dat 3 (.int x0))), (18, (.dat 3 (.int x1)))], [(.row 33 x2)], 0⟩ =
    (J 1 5 M2 ⟨tsOf [(5, (.row 0)), (16, (.row 0)), (17, (.dat 3 (.int x0))), (18, (.dat 3 (.int (IntKind.wrap IntKind.i64 (x1 + (1 : Int))))))], [(.row 33 x2)], 0⟩ (l19 J m [1, 1, 1, 0, 1, 0] [] M2 ⟨tsOf [(5, (.row 0)), (16, (.row 0)), (17, (.dat 3 (.int x0))), (18, (.dat 3 (.int (IntKind.wrap IntKind.i64 (x1 + (1 : Int))))))], [(.row 33 x2)], 0⟩)) := fun J => by kernel_rfl
  exact (h jn).trans (by
    simp only [jn_eq, h2]
    rfl)
theorem path_Reach_j3_eq (m : Nat) (M2 : Nat) (rec2 : Int → Int → List Dt → Option (List Dt)) (h2 : ∀ (x0 : Int) (x1 : Int) (x2 : List Dt), l19 jn m [1, 1, 1, 0, 1, 0] [] M2 ⟨tsOf [(5, (.row 0)), (16, (.row 0)), (17, (.dat 3 (.int x0))), (18, (.dat 3 (.int x1)))], [(.row 33 x2)], 0⟩ = rec2 x0 x1 x2) (x0 : Int) (x1 : Int) (x2 : List Dt) : e19 jn m [1, 1, 1, 0, 1, 0, 0, 1, 1] [M2] ⟨tsOf [(5, (.row 0)), (16, (.row 0)), (17, (.dat 3 (.int x0))), (18, (.dat 3 (.int x1)))], [(.row 33 x2)], 0⟩ = path_Reach_j3 m rec2 x0 x1 x2 := by
  have h : ∀ J, e19 J m [1, 1, 1, 0, 1, 0, 0, 1, 1] [M2] ⟨tsOf [(5, (.row 0)), (16, (.row 0)), (17, (.dat 3 (.int x0))), (18, (.dat 3 (.int x1)))], [(.row 33 x2)], 0⟩ =
    ((inL x2 x1).bind fun v1 =>
      ((x2[(Int.toNat x1)]?).bind fun v2 =>
        ((path_clone m v2).bind fun r3 =>
          ((inL x2 x1).bind fun v4 =>
            ((x2[(Int.toNat x1)]?).bind fun v5 =>
              (J 0 8 0 ⟨tsOf [(5, (.row 0)), (16, (.row 0)), (17, (.dat 3 (.int x0))), (18, (.dat 3 (.int x1)))], [(.row 33 (List.set x2 (Int.toNat x1) r3))], 0⟩ (e19 J m [1, 1, 1, 0, 1, 0, 0, 1, 1, 1] [M2] ⟨tsOf [(5, (.row 0)), (16, (.row 0)), (17, (.dat 3 (.int x0))), (18, (.dat 3 (.int x1)))], [(.row 33 (List.set x2 (Int.toNat x1) r3))], 0⟩))))))) := fun J => by kernel_rfl
  exact (h jn).trans (by
    simp only [jn_eq, path_Reach_j4_eq m M2 rec2 h2]
    rfl)
theorem path_Reach_j5_eq (m : Nat) (x0 : List Dt) : e19 jn m [1, 1, 1, 1] [] ⟨tsOf [(5, (.row 0))], [(.row 33 x0)], 0⟩ = path_Reach_j5 m x0 := by
  have h : ∀ J, e19 J m [1, 1, 1, 1] [] ⟨tsOf [(5, (.row 0))], [(.row 33 x0)], 0⟩ =
    some x0 := fun J => by kernel_rfl
  exact (h jn).trans (rfl)
theorem path_Reach_l2_eq (m : Nat) : ∀ (M2 : Nat) (x0 : Int) (x1 : Int) (x2 : List Dt), l19 jn m [1, 1, 1, 0, 1, 0] [] M2 ⟨tsOf [(5, (.row 0)), (16, (.row 0)), (17, (.dat 3 (.int x0))), (18, (.dat 3 (.int x1)))], [(.row 33 x2)], 0⟩ = path_Reach_l2 m M2 x0 x1 x2
  | 0, _, _, _ => rfl
  | M2 + 1, x0, x1, x2 => by
    have h : ∀ J, l19 J m [1, 1, 1, 0, 1, 0] [] (M2 + 1) ⟨tsOf [(5, (.row 0)), (16, (.row 0)), (17, (.dat 3 (.int x0))), (18, (.dat 3 (.int x1)))], [(.row 33 x2)], 0⟩ =
    (bif (decide (x1 < x0)) then
      (J 0 6 0 ⟨tsOf [(5, (.row 0)), (16, (.row 0)), (17, (.dat 3 (.int x0))), (18, (.dat 3 (.int x1)))], [(.row 33 x2)], 0⟩ (e19 J m [1, 1, 1, 0, 1, 0, 0, 1, 1] [M2] ⟨tsOf [(5, (.row 0)), (16, (.row 0)), (17, (.dat 3 (.int x0))), (18, (.dat 3 (.int x1)))], [(.row 33 x2)], 0⟩))
    else
      (J 0 9 0 ⟨tsOf [(5, (.row 0))], [(.row 33 x2)], 0⟩ (e19 J m [1, 1, 1, 1] [] ⟨tsOf [(5, (.row 0))], [(.row 33 x2)], 0⟩))) := fun J => by kernel_rfl
    refine (h jn).trans ?_
    simp only [jn_eq, path_Reach_j3_eq m M2 (path_Reach_l2 m M2) (fun x0 x1 x2 => path_Reach_l2_eq m M2 x0 x1 x2), path_Reach_j5_eq m]
    rfl
theorem path_Reach_j1_eq (m : Nat) (x0 : Int) (x1 : Int) (x2 : List Dt) : e19 jn m [1, 1, 1, 0, 1] [] ⟨tsOf [(5, (.row 0)), (16, (.row 0)), (17, (.dat 3 (.int x0))), (18, (.dat 3 (.int x1)))], [(.row 33 x2)], 0⟩ = path_Reach_j1 m x0 x1 x2 := by
  have h : ∀ J, e19 J m [1, 1, 1, 0, 1] [] ⟨tsOf [(5, (.row 0)), (16, (.row 0)), (17, (.dat 3 (.int x0))), (18, (.dat 3 (.int x1)))], [(.row 33 x2)], 0⟩ =
    (J 1 5 (Nat.succ m) ⟨tsOf [(5, (.row 0)), (16, (.row 0)), (17, (.dat 3 (.int x0))), (18, (.dat 3 (.int x1)))], [(.row 33 x2)], 0⟩ (l19 J m [1, 1, 1, 0, 1, 0] [] (Nat.succ m) ⟨tsOf [(5, (.row 0)), (16, (.row 0)), (17, (.dat 3 (.int x0))), (18, (.dat 3 (.int x1)))], [(.row 33 x2)], 0⟩)) := fun J => by kernel_rfl
  exact (h jn).trans (by
    simp only [jn_eq, path_Reach_l2_eq m]
    rfl)
theorem path_Reach_j0_eq (m : Nat) (x0 : List Dt) : e19 jn m [1, 1, 1] [] ⟨tsOf [(5, (.row 0))], [(.row 33 x0)], 0⟩ = path_Reach_j0 m x0 := by
  have h : ∀ J, e19 J m [1, 1, 1] [] ⟨tsOf [(5, (.row 0))], [(.row 33 x0)], 0⟩ =
    (J 0 5 0 ⟨tsOf [(5, (.row 0)), (16, (.row 0)), (17, (.dat 3 (.int (((List.length x0) : Nat) : Int)))), (18, (.dat 3 (.int (0 : Int))))], [(.row 33 x0)], 0⟩ (e19 J m [1, 1, 1, 0, 1] [] ⟨tsOf [(5, (.row 0)), (16, (.row 0)), (17, (.dat 3 (.int (((List.length x0) : Nat) : Int)))), (18, (.dat 3 (.int (0 : Int))))], [(.row 33 x0)], 0⟩)) := fun J => by kernel_rfl
  exact (h jn).trans (by
    simp only [jn_eq, path_Reach_j1_eq m]
    rfl)
theorem path_Reach_eq (m : Nat) (a0 : Dt) (a1 : List Dt) : e19 jn m [] [] ⟨[(.dat 36 a0), (.dat 23 (.lst a1))], [], 0⟩ = path_Reach (m + 1) a0 a1 := by
  have h : ∀ J, e19 J m [] [] ⟨[(.dat 36 a0), (.dat 23 (.lst a1))], [], 0⟩ =
    ((path_pass_i37 m a0 a1 []).bind fun r0 =>
      (bif ((((List.length r0) : Nat) : Int) == (0 : Int)) then
        some [(Dt.agg [(Dt.int (0 : Int)), (Dt.int (0 : Int)), (Dt.str (ByteArray.mk (List.toArray []))), (Dt.lst []), (Dt.lst [])])]
      else
        (J 0 4 0 ⟨tsOf [(5, (.row 0))], [(.row 33 r0)], 0⟩ (e19 J m [1, 1, 1] [] ⟨tsOf [(5, (.row 0))], [(.row 33 r0)], 0⟩)))) := fun J => by kernel_rfl
  refine (h jn).trans ?_
  simp only [jn_eq, path_Reach_j0_eq m]
  rfl
noncomputable def d22 (q : Res) : Option (List Dt) := match q with
  | (.dat T0 x0, []) => bif Nat.beq T0 33 then some x0.toLst else none
  | _ => none
theorem d22_sim {b : Res} {r : List Dt} (h : d22 b = some r) : Sim Tryd.prog b ((.dat 33 (.lst r)), []) := by
  unfold d22 at h
  split at h
  · obtain ⟨hc, h2⟩ := bif_some h
    cases h2
    have e0 := beq_eq hc
    subst e0
    exact Sim.of (.of (.dat (.lst Tryd.underlying33)) rfl rfl) .nil
  · cases h
noncomputable def e22 (J : Nat → Nat → Nat → St → Option (List Dt) → Option (List Dt)) (m : Nat) (p ms : List Nat) (σ : St) := evAt Tryd.prog env (ct m) J (m + 1) 37 40 Tryd.f37 d22 p ms σ
noncomputable def l22 (J : Nat → Nat → Nat → St → Option (List Dt) → Option (List Dt)) (m : Nat) (p ms : List Nat) (M : Nat) (σ : St) := loopAt Tryd.prog env (ct m) J (m + 1) 37 40 Tryd.f37 d22 p ms M σ
theorem path_Leaves_j6_eq (m : Nat) (M1 : Nat) (rec1 : List Dt → Int → Int → List Dt → Option (List Dt)) (h1 : ∀ (x0 : List Dt) (x1 : Int) (x2 : Int) (x3 : List Dt), l22 jn m [1, 1, 0, 1, 0] [] M1 ⟨tsOf [(5, (.row 0)), (12, (.dat 33 (.lst x0))), (13, (.dat 3 (.int x1))), (14, (.dat 3 (.int x2)))], [(.row 33 x3)], 0⟩ = rec1 x0 x1 x2 x3) (M4 : Nat) (rec4 : List Dt → Int → Int → List Dt → Int → Int → List Dt → Option (List Dt)) (h4 : ∀ (x0 : List Dt) (x1 : Int) (x2 : Int) (x3 : List Dt) (x4 : Int) (x5 : Int) (x6 : List Dt), l22 jn m [1, 1, 0, 1, 0, 0, 1, 1, 0, 0, 1, 1, 1, 0, 1, 0] [M1] M4 ⟨tsOf [(5, (.row 0)), (12, (.dat 33 (.lst x0))), (13, (.dat 3 (.int x1))), (14, (.dat 3 (.int x2))), (26, (.dat 33 (.lst x3))), (27, (.dat 3 (.int x4))), (28, (.dat 3 (.int x5)))], [(.row 33 x6)], 0⟩ = rec4 x0 x1 x2 x3 x4 x5 x6) (x0 : List Dt) (x1 : Int) (x2 : Int) (x3 : List Dt) (x4 : Int) (x5 : Int) (x6 : List Dt) : e22 jn m [1, 1, 0, 1, 0, 0, 1, 1, 0, 0, 1, 1, 1, 0, 1, 0, 0, 1, 1, 1] [M1, M4] ⟨tsOf [(5, (.row 0)), (12, (.dat 33 (.lst x0))), (13, (.dat 3 (.int x1))), (14, (.dat 3 (.int x2))), (26, (.dat 33 (.lst x3))), (27, (.dat 3 (.int x4))), (28, (.dat 3 (.int x5)))], [(.row 33 x6)], 0⟩ = path_Leaves_j6 m rec1 rec4 x0 x1 x2 x3 x4 x5 x6 := by
  have h : ∀ J, e22 J m [1, 1, 0, 1, 0, 0, 1, 1, 0, 0, 1, 1, 1, 0, 1, 0, 0, 1, 1, 1] [M1, M4] ⟨tsOf [(5, (.row 0)), (12, (.dat 33 (.lst x0))), (13, (.dat 3 (.int x1))), (14, (.dat 3 (.int x2))), (26, (.dat 33 (.lst x3))), (27, (.dat 3 (.int x4))), (28, (.dat 3 (.int x5)))], [(.row 33 x6)], 0⟩ =
    (J 1 8 M4 ⟨tsOf [(5, (.row 0)), (12, (.dat 33 (.lst x0))), (13, (.dat 3 (.int x1))), (14, (.dat 3 (.int x2))), (26, (.dat 33 (.lst x3))), (27, (.dat 3 (.int x4))), (28, (.dat 3 (.int (IntKind.wrap IntKind.i64 (x5 + (1 : Int))))))], [(.row 33 x6)], 0⟩ (l22 J m [1, 1, 0, 1, 0, 0, 1, 1, 0, 0, 1, 1, 1, 0, 1, 0] [M1] M4 ⟨tsOf [(5, (.row 0)), (12, (.dat 33 (.lst x0))), (13, (.dat 3 (.int x1))), (14, (.dat 3 (.int x2))), (26, (.dat 33 (.lst x3))), (27, (.dat 3 (.int x4))), (28, (.dat 3 (.int (IntKind.wrap IntKind.i64 (x5 + (1 : Int))))))], [(.row 33 x6)], 0⟩)) := fun J => by kernel_rfl
  exact (h jn).trans (by
    simp only [jn_eq, h4]
    rfl)
theorem path_Leaves_j5_eq (m : Nat) (M1 : Nat) (rec1 : List Dt → Int → Int → List Dt → Option (List Dt)) (h1 : ∀ (x0 : List Dt) (x1 : Int) (x2 : Int) (x3 : List Dt), l22 jn m [1, 1, 0, 1, 0] [] M1 ⟨tsOf [(5, (.row 0)), (12, (.dat 33 (.lst x0))), (13, (.dat 3 (.int x1))), (14, (.dat 3 (.int x2)))], [(.row 33 x3)], 0⟩ = rec1 x0 x1 x2 x3) (M4 : Nat) (rec4 : List Dt → Int → Int → List Dt → Int → Int → List Dt → Option (List Dt)) (h4 : ∀ (x0 : List Dt) (x1 : Int) (x2 : Int) (x3 : List Dt) (x4 : Int) (x5 : Int) (x6 : List Dt), l22 jn m [1, 1, 0, 1, 0, 0, 1, 1, 0, 0, 1, 1, 1, 0, 1, 0] [M1] M4 ⟨tsOf [(5, (.row 0)), (12, (.dat 33 (.lst x0))), (13, (.dat 3 (.int x1))), (14, (.dat 3 (.int x2))), (26, (.dat 33 (.lst x3))), (27, (.dat 3 (.int x4))), (28, (.dat 3 (.int x5)))], [(.row 33 x6)], 0⟩ = rec4 x0 x1 x2 x3 x4 x5 x6) (x0 : List Dt) (x1 : Int) (x2 : Int) (x3 : List Dt) (x4 : Int) (x5 : Int) (x6 : List Dt) : e22 jn m [1, 1, 0, 1, 0, 0, 1, 1, 0, 0, 1, 1, 1, 0, 1, 0, 0, 1, 1] [M1, M4] ⟨tsOf [(5, (.row 0)), (12, (.dat 33 (.lst x0))), (13, (.dat 3 (.int x1))), (14, (.dat 3 (.int x2))), (26, (.dat 33 (.lst x3))), (27, (.dat 3 (.int x4))), (28, (.dat 3 (.int x5)))], [(.row 33 x6)], 0⟩ = path_Leaves_j5 m rec1 rec4 x0 x1 x2 x3 x4 x5 x6 := by
  have h : ∀ J, e22 J m [1, 1, 0, 1, 0, 0, 1, 1, 0, 0, 1, 1, 1, 0, 1, 0, 0, 1, 1] [M1, M4] ⟨tsOf [(5, (.row 0)), (12, (.dat 33 (.lst x0))), (13, (.dat 3 (.int x1))), (14, (.dat 3 (.int x2))), (26, (.dat 33 (.lst x3))), (27, (.dat 3 (.int x4))), (28, (.dat 3 (.int x5)))], [(.row 33 x6)], 0⟩ =
    ((idx x3 x5).bind fun v3 =>
      ((path_clone m v3).bind fun r4 =>
        ((app x6 [r4]).bind fun v5 =>
          (J 0 11 0 ⟨tsOf [(5, (.row 0)), (12, (.dat 33 (.lst x0))), (13, (.dat 3 (.int x1))), (14, (.dat 3 (.int x2))), (26, (.dat 33 (.lst x3))), (27, (.dat 3 (.int x4))), (28, (.dat 3 (.int x5)))], [(.row 33 v5)], 0⟩ (e22 J m [1, 1, 0, 1, 0, 0, 1, 1, 0, 0, 1, 1, 1, 0, 1, 0, 0, 1, 1, 1] [M1, M4] ⟨tsOf [(5, (.row 0)), (12, (.dat 33 (.lst x0))), (13, (.dat 3 (.int x1))), (14, (.dat 3 (.int x2))), (26, (.dat 33 (.lst x3))), (27, (.dat 3 (.int x4))), (28, (.dat 3 (.int x5)))], [(.row 33 v5)], 0⟩))))) := fun J => by kernel_rfl
  exact (h jn).trans (by
    simp only [jn_eq, path_Leaves_j6_eq m M1 rec1 h1 M4 rec4 h4]
    rfl)
theorem path_Leaves_j7_eq (m : Nat) (M1 : Nat) (rec1 : List Dt → Int → Int → List Dt → Option (List Dt)) (h1 : ∀ (x0 : List Dt) (x1 : Int) (x2 : Int) (x3 : List Dt), l22 jn m [1, 1, 0, 1, 0] [] M1 ⟨tsOf [(5, (.row 0)), (12, (.dat 33 (.lst x0))), (13, (.dat 3 (.int x1))), (14, (.dat 3 (.int x2)))], [(.row 33 x3)], 0⟩ = rec1 x0 x1 x2 x3) (x0 : List Dt) (x1 : Int) (x2 : Int) (x3 : List Dt) : e22 jn m [1, 1, 0, 1, 0, 0, 1, 1, 1] [M1] ⟨tsOf [(5, (.row 0)), (12, (.dat 33 (.lst x0))), (13, (.dat 3 (.int x1))), (14, (.dat 3 (.int x2)))], [(.row 33 x3)], 0⟩ = path_Leaves_j7 m rec1 x0 x1 x2 x3 := by
  have h : ∀ J, e22 J m [1, 1, 0, 1, 0, 0, 1, 1, 1] [M1] ⟨tsOf [(5, (.row 0)), (12, (.dat 33 (.lst x0))), (13, (.dat 3 (.int x1))), (14, (.dat 3 (.int x2)))], [(.row 33 x3)], 0⟩ =
    (J 1 3 M1 ⟨tsOf [(5, (.row 0)), (12, (.dat 33 (.lst x0))), (13, (.dat 3 (.int x1))), (14, (.dat 3 (.int (IntKind.wrap IntKind.i64 (x2 + (1 : Int))))))], [(.row 33 x3)], 0⟩ (l22 J m [1, 1, 0, 1, 0] [] M1 ⟨tsOf [(5, (.row 0)), (12, (.dat 33 (.lst x0))), (13, (.dat 3 (.int x1))), (14, (.dat 3 (.int (IntKind.wrap IntKind.i64 (x2 + (1 : Int))))))], [(.row 33 x3)], 0⟩)) := fun J => by kernel_rfl
  exact (h jn).trans (by
    simp only [jn_eq, h1]
    rfl)
theorem path_Leaves_l4_eq (m : Nat) (M1 : Nat) (rec1 : List Dt → Int → Int → List Dt → Option (List Dt)) (h1 : ∀ (x0 : List Dt) (x1 : Int) (x2 : Int) (x3 : List Dt), l22 jn m [1, 1, 0, 1, 0] [] M1 ⟨tsOf [(5, (.row 0)), (12, (.dat 33 (.lst x0))), (13, (.dat 3 (.int x1))), (14, (.dat 3 (.int x2)))], [(.row 33 x3)], 0⟩ = rec1 x0 x1 x2 x3) : ∀ (M4 : Nat) (x0 : List Dt) (x1 : Int) (x2 : Int) (x3 : List Dt) (x4 : Int) (x5 : Int) (x6 : List Dt), l22 jn m [1, 1, 0, 1, 0, 0, 1, 1, 0, 0, 1, 1, 1, 0, 1, 0] [M1] M4 ⟨tsOf [(5, (.row 0)), (12, (.dat 33 (.lst x0))), (13, (.dat 3 (.int x1))), (14, (.dat 3 (.int x2))), (26, (.dat 33 (.lst x3))), (27, (.dat 3 (.int x4))), (28, (.dat 3 (.int x5)))], [(.row 33 x6)], 0⟩ = path_Leaves_l4 m rec1 M4 x0 x1 x2 x3 x4 x5 x6
  | 0, _, _, _, _, _, _, _ => rfl
  | M4 + 1, x0, x1, x2, x3, x4, x5, x6 => by
    have h : ∀ J, l22 J m [1, 1, 0, 1, 0, 0, 1, 1, 0, 0, 1, 1, 1, 0, 1, 0] [M1] (M4 + 1) ⟨tsOf [(5, (.row 0)), (12, (.dat 33 (.lst x0))), (13, (.dat 3 (.int x1))), (14, (.dat 3 (.int x2))), (26, (.dat 33 (.lst x3))), (27, (.dat 3 (.int x4))), (28, (.dat 3 (.int x5)))], [(.row 33 x6)], 0⟩ =
    (bif (decide (x5 < x4)) then
      (J 0 9 0 ⟨tsOf [(5, (.row 0)), (12, (.dat 33 (.lst x0))), (13, (.dat 3 (.int x1))), (14, (.dat 3 (.int x2))), (26, (.dat 33 (.lst x3))), (27, (.dat 3 (.int x4))), (28, (.dat 3 (.int x5)))], [(.row 33 x6)], 0⟩ (e22 J m [1, 1, 0, 1, 0, 0, 1, 1, 0, 0, 1, 1, 1, 0, 1, 0, 0, 1, 1] [M1, M4] ⟨tsOf [(5, (.row 0)), (12, (.dat 33 (.lst x0))), (13, (.dat 3 (.int x1))), (14, (.dat 3 (.int x2))), (26, (.dat 33 (.lst x3))), (27, (.dat 3 (.int x4))), (28, (.dat 3 (.int x5)))], [(.row 33 x6)], 0⟩))
    else
      (J 0 12 0 ⟨tsOf [(5, (.row 0)), (12, (.dat 33 (.lst x0))), (13, (.dat 3 (.int x1))), (14, (.dat 3 (.int x2)))], [(.row 33 x6)], 0⟩ (e22 J m [1, 1, 0, 1, 0, 0, 1, 1, 1] [M1] ⟨tsOf [(5, (.row 0)), (12, (.dat 33 (.lst x0))), (13, (.dat 3 (.int x1))), (14, (.dat 3 (.int x2)))], [(.row 33 x6)], 0⟩))) := fun J => by kernel_rfl
    refine (h jn).trans ?_
    simp only [jn_eq, path_Leaves_j5_eq m M1 rec1 h1 M4 (path_Leaves_l4 m rec1 M4) (fun x0 x1 x2 x3 x4 x5 x6 => path_Leaves_l4_eq m M1 rec1 h1 M4 x0 x1 x2 x3 x4 x5 x6), path_Leaves_j7_eq m M1 rec1 h1]
    rfl
theorem path_Leaves_j3_eq (m : Nat) (M1 : Nat) (rec1 : List Dt → Int → Int → List Dt → Option (List Dt)) (h1 : ∀ (x0 : List Dt) (x1 : Int) (x2 : Int) (x3 : List Dt), l22 jn m [1, 1, 0, 1, 0] [] M1 ⟨tsOf [(5, (.row 0)), (12, (.dat 33 (.lst x0))), (13, (.dat 3 (.int x1))), (14, (.dat 3 (.int x2)))], [(.row 33 x3)], 0⟩ = rec1 x0 x1 x2 x3) (x0 : List Dt) (x1 : Int) (x2 : Int) (x3 : List Dt) (x4 : Int) (x5 : Int) (x6 : List Dt) : e22 jn m [1, 1, 0, 1, 0, 0, 1, 1, 0, 0, 1, 1, 1, 0, 1] [M1] ⟨tsOf [(5, (.row 0)), (12, (.dat 33 (.lst x0))), (13, (.dat 3 (.int x1))), (14, (.dat 3 (.int x2))), (26, (.dat 33 (.lst x3))), (27, (.dat 3 (.int x4))), (28, (.dat 3 (.int x5)))], [(.row 33 x6)], 0⟩ = path_Leaves_j3 m rec1 x0 x1 x2 x3 x4 x5 x6 := by
  have h : ∀ J, e22 J m [1, 1, 0, 1, 0, 0, 1, 1, 0, 0, 1, 1, 1, 0, 1] [M1] ⟨tsOf [(5, (.row 0)), (12, (.dat 33 (.lst x0))), (13, (.dat 3 (.int x1))), (14, (.dat 3 (.int x2))), (26, (.dat 33 (.lst x3))), (27, (.dat 3 (.int x4))), (28, (.dat 3 (.int x5)))], [(.row 33 x6)], 0⟩ =
    (J 1 8 (Nat.succ m) ⟨tsOf [(5, (.row 0)), (12, (.dat 33 (.lst x0))), (13, (.dat 3 (.int x1))), (14, (.dat 3 (.int x2))), (26, (.dat 33 (.lst x3))), (27, (.dat 3 (.int x4))), (28, (.dat 3 (.int x5)))], [(.row 33 x6)], 0⟩ (l22 J m [1, 1, 0, 1, 0, 0, 1, 1, 0, 0, 1, 1, 1, 0, 1, 0] [M1] (Nat.succ m) ⟨tsOf [(5, (.row 0)), (12, (.dat 33 (.lst x0))), (13, (.dat 3 (.int x1))), (14, (.dat 3 (.int x2))), (26, (.dat 33 (.lst x3))), (27, (.dat 3 (.int x4))), (28, (.dat 3 (.int x5)))], [(.row 33 x6)], 0⟩)) := fun J => by kernel_rfl
  exact (h jn).trans (by
    simp only [jn_eq, path_Leaves_l4_eq m M1 rec1 h1]
    rfl)
theorem path_Leaves_j2_eq (m : Nat) (M1 : Nat) (rec1 : List Dt → Int → Int → List Dt → Option (List Dt)) (h1 : ∀ (x0 : List Dt) (x1 : Int) (x2 : Int) (x3 : List Dt), l22 jn m [1, 1, 0, 1, 0] [] M1 ⟨tsOf [(5, (.row 0)), (12, (.dat 33 (.lst x0))), (13, (.dat 3 (.int x1))), (14, (.dat 3 (.int x2)))], [(.row 33 x3)], 0⟩ = rec1 x0 x1 x2 x3) (x0 : List Dt) (x1 : Int) (x2 : Int) (x3 : List Dt) : e22 jn m [1, 1, 0, 1, 0, 0, 1, 1] [M1] ⟨tsOf [(5, (.row 0)), (12, (.dat 33 (.lst x0))), (13, (.dat 3 (.int x1))), (14, (.dat 3 (.int x2)))], [(.row 33 x3)], 0⟩ = path_Leaves_j2 m rec1 x0 x1 x2 x3 := by
  have h : ∀ J, e22 J m [1, 1, 0, 1, 0, 0, 1, 1] [M1] ⟨tsOf [(5, (.row 0)), (12, (.dat 33 (.lst x0))), (13, (.dat 3 (.int x1))), (14, (.dat 3 (.int x2)))], [(.row 33 x3)], 0⟩ =
    ((idx x0 x2).bind fun v1 =>
      ((app x3 [v1]).bind fun v2 =>
        (bif ((Dt.I v1 0) == (6 : Int)) then
          (J 0 8 0 ⟨tsOf [(5, (.row 0)), (12, (.dat 33 (.lst x0))), (13, (.dat 3 (.int x1))), (14, (.dat 3 (.int x2))), (26, (.dat 33 (.lst (Dt.L v1 3)))), (27, (.dat 3 (.int (((List.length (Dt.L v1 3)) : Nat) : Int)))), (28, (.dat 3 (.int (0 : Int))))], [(.row 33 v2)], 0⟩ (e22 J m [1, 1, 0, 1, 0, 0, 1, 1, 0, 0, 1, 1, 1, 0, 1] [M1] ⟨tsOf [(5, (.row 0)), (12, (.dat 33 (.lst x0))), (13, (.dat 3 (.int x1))), (14, (.dat 3 (.int x2))), (26, (.dat 33 (.lst (Dt.L v1 3)))), (27, (.dat 3 (.int (((List.length (Dt.L v1 3)) : Nat) : Int)))), (28, (.dat 3 (.int (0 : Int))))], [(.row 33 v2)], 0⟩))
        else
          (J 0 12 0 ⟨tsOf [(5, (.row 0)), (12, (.dat 33 (.lst x0))), (13, (.dat 3 (.int x1))), (14, (.dat 3 (.int x2)))], [(.row 33 v2)], 0⟩ (e22 J m [1, 1, 0, 1, 0, 0, 1, 1, 1] [M1] ⟨tsOf [(5, (.row 0)), (12, (.dat 33 (.lst x0))), (13, (.dat 3 (.int x1))), (14, (.dat 3 (.int x2)))], [(.row 33 v2)], 0⟩))))) := fun J => by kernel_rfl
  exact (h jn).trans (by
    simp only [jn_eq, path_Leaves_j3_eq m M1 rec1 h1, path_Leaves_j7_eq m M1 rec1 h1]
    rfl)
theorem path_Leaves_j8_eq (m : Nat) (x0 : List Dt) : e22 jn m [1, 1, 1] [] ⟨tsOf [(5, (.row 0))], [(.row 33 x0)], 0⟩ = path_Leaves_j8 m x0 := by
  have h : ∀ J, e22 J m [1, 1, 1] [] ⟨tsOf [(5, (.row 0))], [(.row 33 x0)], 0⟩ =
    some x0 := fun J => by kernel_rfl
  exact (h jn).trans (rfl)
theorem path_Leaves_l1_eq (m : Nat) : ∀ (M1 : Nat) (x0 : List Dt) (x1 : Int) (x2 : Int) (x3 : List Dt), l22 jn m [1, 1, 0, 1, 0] [] M1 ⟨tsOf [(5, (.row 0)), (12, (.dat 33 (.lst x0))), (13, (.dat 3 (.int x1))), (14, (.dat 3 (.int x2)))], [(.row 33 x3)], 0⟩ = path_Leaves_l1 m M1 x0 x1 x2 x3
  | 0, _, _, _, _ => rfl
  | M1 + 1, x0, x1, x2, x3 => by
    have h : ∀ J, l22 J m [1, 1, 0, 1, 0] [] (M1 + 1) ⟨tsOf [(5, (.row 0)), (12, (.dat 33 (.lst x0))), (13, (.dat 3 (.int x1))), (14, (.dat 3 (.int x2)))], [(.row 33 x3)], 0⟩ =
    (bif (decide (x2 < x1)) then
      (J 0 4 0 ⟨tsOf [(5, (.row 0)), (12, (.dat 33 (.lst x0))), (13, (.dat 3 (.int x1))), (14, (.dat 3 (.int x2)))], [(.row 33 x3)], 0⟩ (e22 J m [1, 1, 0, 1, 0, 0, 1, 1] [M1] ⟨tsOf [(5, (.row 0)), (12, (.dat 33 (.lst x0))), (13, (.dat 3 (.int x1))), (14, (.dat 3 (.int x2)))], [(.row 33 x3)], 0⟩))
    else
      (J 0 13 0 ⟨tsOf [(5, (.row 0))], [(.row 33 x3)], 0⟩ (e22 J m [1, 1, 1] [] ⟨tsOf [(5, (.row 0))], [(.row 33 x3)], 0⟩))) := fun J => by kernel_rfl
    refine (h jn).trans ?_
    simp only [jn_eq, path_Leaves_j2_eq m M1 (path_Leaves_l1 m M1) (fun x0 x1 x2 x3 => path_Leaves_l1_eq m M1 x0 x1 x2 x3), path_Leaves_j8_eq m]
    rfl
theorem path_Leaves_j0_eq (m : Nat) (x0 : List Dt) (x1 : Int) (x2 : Int) (x3 : List Dt) : e22 jn m [1, 1, 0, 1] [] ⟨tsOf [(5, (.row 0)), (12, (.dat 33 (.lst x0))), (13, (.dat 3 (.int x1))), (14, (.dat 3 (.int x2)))], [(.row 33 x3)], 0⟩ = path_Leaves_j0 m x0 x1 x2 x3 := by
  have h : ∀ J, e22 J m [1, 1, 0, 1] [] ⟨tsOf [(5, (.row 0)), (12, (.dat 33 (.lst x0))), (13, (.dat 3 (.int x1))), (14, (.dat 3 (.int x2)))], [(.row 33 x3)], 0⟩ =
    (J 1 3 (Nat.succ m) ⟨tsOf [(5, (.row 0)), (12, (.dat 33 (.lst x0))), (13, (.dat 3 (.int x1))), (14, (.dat 3 (.int x2)))], [(.row 33 x3)], 0⟩ (l22 J m [1, 1, 0, 1, 0] [] (Nat.succ m) ⟨tsOf [(5, (.row 0)), (12, (.dat 33 (.lst x0))), (13, (.dat 3 (.int x1))), (14, (.dat 3 (.int x2)))], [(.row 33 x3)], 0⟩)) := fun J => by kernel_rfl
  exact (h jn).trans (by
    simp only [jn_eq, path_Leaves_l1_eq m]
    rfl)
theorem path_Leaves_eq (m : Nat) (a0 : Dt) (a1 : List Dt) : e22 jn m [] [] ⟨[(.dat 36 a0), (.dat 23 (.lst a1))], [], 0⟩ = path_Leaves (m + 1) a0 a1 := by
  have h : ∀ J, e22 J m [] [] ⟨[(.dat 36 a0), (.dat 23 (.lst a1))], [], 0⟩ =
    ((path_Reach m a0 a1).bind fun r0 =>
      (J 0 3 0 ⟨tsOf [(5, (.row 0)), (12, (.dat 33 (.lst r0))), (13, (.dat 3 (.int (((List.length r0) : Nat) : Int)))), (14, (.dat 3 (.int (0 : Int))))], [(.row 33 [])], 0⟩ (e22 J m [1, 1, 0, 1] [] ⟨tsOf [(5, (.row 0)), (12, (.dat 33 (.lst r0))), (13, (.dat 3 (.int (((List.length r0) : Nat) : Int)))), (14, (.dat 3 (.int (0 : Int))))], [(.row 33 [])], 0⟩))) := fun J => by kernel_rfl
  refine (h jn).trans ?_
  simp only [jn_eq, path_Leaves_j0_eq m]
  rfl
end Go.Proofs.YtmjnmiahblaanaaDoor
