/- Generated: each function's run in the abstract machine is its shallow function. -/
import Derived.Test.YtmjnmiahblaanaaDoorCt
import Derived.Test.YtmjnmiahblaanaaDoorAmEnv
import Derived.KernelRfl
set_option linter.unusedVariables false
set_option linter.unusedSimpArgs false
namespace Go.Proofs.YtmjnmiahblaanaaDoor
open Go.Am
set_option maxRecDepth 100000
noncomputable def d8 (q : Res) : Option (ByteArray) := match q with
  | (.dat T0 x0, []) => bif Nat.beq T0 9 then some x0.toStr else none
  | _ => none
theorem d8_sim {b : Res} {r : ByteArray} (h : d8 b = some r) : Sim Tryd.prog b ((.dat 9 (.str r)), []) := by
  unfold d8 at h
  split at h
  · obtain ⟨hc, h2⟩ := bif_some h
    cases h2
    have e0 := beq_eq hc
    subst e0
    exact Sim.of (.of (.dat (.str Tryd.underlying9)) rfl rfl) .nil
  · cases h
noncomputable def e8 (J : Nat → Nat → Nat → St → Option (ByteArray) → Option (ByteArray)) (m : Nat) (p ms : List Nat) (σ : St) := evAt Tryd.prog env (ct m) J (m + 1) 16 5 Tryd.f16 d8 p ms σ
noncomputable def l8 (J : Nat → Nat → Nat → St → Option (ByteArray) → Option (ByteArray)) (m : Nat) (p ms : List Nat) (M : Nat) (σ : St) := loopAt Tryd.prog env (ct m) J (m + 1) 16 5 Tryd.f16 d8 p ms M σ
theorem path_Text_eq (m : Nat) (a0 : List Dt) : e8 jn m [] [] ⟨[(.dat 23 (.lst a0))], [], 0⟩ = path_Text (m + 1) a0 := by
  have h : ∀ J, e8 J m [] [] ⟨[(.dat 23 (.lst a0))], [], 0⟩ =
    ((strings_Join a0 (Dt.toStr (Dt.str (ByteArray.mk (List.toArray [(46 : UInt8)]))))).bind fun r0 =>
      some r0) := fun J => by kernel_rfl
  refine (h jn).trans ?_
  
  rfl
noncomputable def d11 (q : Res) : Option (ByteArray) := match q with
  | (.dat T0 x0, []) => bif Nat.beq T0 9 then some x0.toStr else none
  | _ => none
theorem d11_sim {b : Res} {r : ByteArray} (h : d11 b = some r) : Sim Tryd.prog b ((.dat 9 (.str r)), []) := by
  unfold d11 at h
  split at h
  · obtain ⟨hc, h2⟩ := bif_some h
    cases h2
    have e0 := beq_eq hc
    subst e0
    exact Sim.of (.of (.dat (.str Tryd.underlying9)) rfl rfl) .nil
  · cases h
noncomputable def e11 (J : Nat → Nat → Nat → St → Option (ByteArray) → Option (ByteArray)) (m : Nat) (p ms : List Nat) (σ : St) := evAt Tryd.prog env (ct m) J (m + 1) 19 22 Tryd.f19 d11 p ms σ
noncomputable def l11 (J : Nat → Nat → Nat → St → Option (ByteArray) → Option (ByteArray)) (m : Nat) (p ms : List Nat) (M : Nat) (σ : St) := loopAt Tryd.prog env (ct m) J (m + 1) 19 22 Tryd.f19 d11 p ms M σ
theorem ref04_Text_j4_eq (m : Nat) (M1 : Nat) (rec1 : List Dt → ByteArray → Int → Option (ByteArray)) (h1 : ∀ (x0 : List Dt) (x1 : ByteArray) (x2 : Int), l11 jn m [1, 1, 0, 1, 0] [] M1 ⟨tsOf [(0, (.dat 23 (.lst x0))), (3, (.dat 9 (.str x1))), (4, (.dat 3 (.int x2)))], [], 0⟩ = rec1 x0 x1 x2) (x0 : List Dt) (x1 : ByteArray) (x2 : Int) : e11 jn m [1, 1, 0, 1, 0, 0, 1, 1] [M1] ⟨tsOf [(0, (.dat 23 (.lst x0))), (3, (.dat 9 (.str x1))), (4, (.dat 3 (.int x2)))], [], 0⟩ = ref04_Text_j4 m rec1 x0 x1 x2 := by
  have h : ∀ J, e11 J m [1, 1, 0, 1, 0, 0, 1, 1] [M1] ⟨tsOf [(0, (.dat 23 (.lst x0))), (3, (.dat 9 (.str x1))), (4, (.dat 3 (.int x2)))], [], 0⟩ =
    (J 1 3 M1 ⟨tsOf [(0, (.dat 23 (.lst x0))), (3, (.dat 9 (.str x1))), (4, (.dat 3 (.int (IntKind.wrap IntKind.i64 (x2 + (1 : Int))))))], [], 0⟩ (l11 J m [1, 1, 0, 1, 0] [] M1 ⟨tsOf [(0, (.dat 23 (.lst x0))), (3, (.dat 9 (.str x1))), (4, (.dat 3 (.int (IntKind.wrap IntKind.i64 (x2 + (1 : Int))))))], [], 0⟩)) := fun J => by kernel_rfl
  exact (h jn).trans (by
    simp only [jn_eq, h1]
    rfl)
theorem ref04_Text_j3_eq (m : Nat) (M1 : Nat) (rec1 : List Dt → ByteArray → Int → Option (ByteArray)) (h1 : ∀ (x0 : List Dt) (x1 : ByteArray) (x2 : Int), l11 jn m [1, 1, 0, 1, 0] [] M1 ⟨tsOf [(0, (.dat 23 (.lst x0))), (3, (.dat 9 (.str x1))), (4, (.dat 3 (.int x2)))], [], 0⟩ = rec1 x0 x1 x2) (x0 : List Dt) (x1 : ByteArray) (x2 : Int) : e11 jn m [1, 1, 0, 1, 0, 0, 1, 0, 0, 1] [M1] ⟨tsOf [(0, (.dat 23 (.lst x0))), (3, (.dat 9 (.str x1))), (4, (.dat 3 (.int x2)))], [], 0⟩ = ref04_Text_j3 m rec1 x0 x1 x2 := by
  have h : ∀ J, e11 J m [1, 1, 0, 1, 0, 0, 1, 0, 0, 1] [M1] ⟨tsOf [(0, (.dat 23 (.lst x0))), (3, (.dat 9 (.str x1))), (4, (.dat 3 (.int x2)))], [], 0⟩ =
    ((idx x0 x2).bind fun v0 =>
      (bif (Nat.ble ((ByteArray.size x1) + (ByteArray.size (Dt.toStr v0))) 1152921504606846976) then
        (J 0 4 0 ⟨tsOf [(0, (.dat 23 (.lst x0))), (3, (.dat 9 (.str (x1 ++ (Dt.toStr v0))))), (4, (.dat 3 (.int x2)))], [], 0⟩ (e11 J m [1, 1, 0, 1, 0, 0, 1, 1] [M1] ⟨tsOf [(0, (.dat 23 (.lst x0))), (3, (.dat 9 (.str (x1 ++ (Dt.toStr v0))))), (4, (.dat 3 (.int x2)))], [], 0⟩))
      else
        none)) := fun J => by kernel_rfl
  exact (h jn).trans (by
    simp only [jn_eq, ref04_Text_j4_eq m M1 rec1 h1]
    rfl)
theorem ref04_Text_j2_eq (m : Nat) (M1 : Nat) (rec1 : List Dt → ByteArray → Int → Option (ByteArray)) (h1 : ∀ (x0 : List Dt) (x1 : ByteArray) (x2 : Int), l11 jn m [1, 1, 0, 1, 0] [] M1 ⟨tsOf [(0, (.dat 23 (.lst x0))), (3, (.dat 9 (.str x1))), (4, (.dat 3 (.int x2)))], [], 0⟩ = rec1 x0 x1 x2) (x0 : List Dt) (x1 : ByteArray) (x2 : Int) : e11 jn m [1, 1, 0, 1, 0, 0, 1] [M1] ⟨tsOf [(0, (.dat 23 (.lst x0))), (3, (.dat 9 (.str x1))), (4, (.dat 3 (.int x2)))], [], 0⟩ = ref04_Text_j2 m rec1 x0 x1 x2 := by
  have h : ∀ J, e11 J m [1, 1, 0, 1, 0, 0, 1] [M1] ⟨tsOf [(0, (.dat 23 (.lst x0))), (3, (.dat 9 (.str x1))), (4, (.dat 3 (.int x2)))], [], 0⟩ =
    (bif (decide ((0 : Int) < x2)) then
      (bif (Nat.ble ((ByteArray.size x1) + 1) 1152921504606846976) then
        (J 0 7 0 ⟨tsOf [(0, (.dat 23 (.lst x0))), (3, (.dat 9 (.str (x1 ++ (Dt.toStr (Dt.str (ByteArray.mk (List.toArray [(46 : UInt8)])))))))), (4, (.dat 3 (.int x2)))], [], 0⟩ (e11 J m [1, 1, 0, 1, 0, 0, 1, 0, 0, 1] [M1] ⟨tsOf [(0, (.dat 23 (.lst x0))), (3, (.dat 9 (.str (x1 ++ (Dt.toStr (Dt.str (ByteArray.mk (List.toArray [(46 : UInt8)])))))))), (4, (.dat 3 (.int x2)))], [], 0⟩))
      else
        none)
    else
      (J 0 7 0 ⟨tsOf [(0, (.dat 23 (.lst x0))), (3, (.dat 9 (.str x1))), (4, (.dat 3 (.int x2)))], [], 0⟩ (e11 J m [1, 1, 0, 1, 0, 0, 1, 0, 0, 1] [M1] ⟨tsOf [(0, (.dat 23 (.lst x0))), (3, (.dat 9 (.str x1))), (4, (.dat 3 (.int x2)))], [], 0⟩))) := fun J => by kernel_rfl
  exact (h jn).trans (by
    simp only [jn_eq, ref04_Text_j3_eq m M1 rec1 h1]
    rfl)
theorem ref04_Text_j5_eq (m : Nat) (x0 : ByteArray) : e11 jn m [1, 1, 1] [] ⟨tsOf [(3, (.dat 9 (.str x0)))], [], 0⟩ = ref04_Text_j5 m x0 := by
  have h : ∀ J, e11 J m [1, 1, 1] [] ⟨tsOf [(3, (.dat 9 (.str x0)))], [], 0⟩ =
    some x0 := fun J => by kernel_rfl
  exact (h jn).trans (rfl)
theorem ref04_Text_l1_eq (m : Nat) : ∀ (M1 : Nat) (x0 : List Dt) (x1 : ByteArray) (x2 : Int), l11 jn m [1, 1, 0, 1, 0] [] M1 ⟨tsOf [(0, (.dat 23 (.lst x0))), (3, (.dat 9 (.str x1))), (4, (.dat 3 (.int x2)))], [], 0⟩ = ref04_Text_l1 m M1 x0 x1 x2
  | 0, _, _, _ => rfl
  | M1 + 1, x0, x1, x2 => by
    have h : ∀ J, l11 J m [1, 1, 0, 1, 0] [] (M1 + 1) ⟨tsOf [(0, (.dat 23 (.lst x0))), (3, (.dat 9 (.str x1))), (4, (.dat 3 (.int x2)))], [], 0⟩ =
    (bif (decide (x2 < (((List.length x0) : Nat) : Int))) then
      (J 0 5 0 ⟨tsOf [(0, (.dat 23 (.lst x0))), (3, (.dat 9 (.str x1))), (4, (.dat 3 (.int x2)))], [], 0⟩ (e11 J m [1, 1, 0, 1, 0, 0, 1] [M1] ⟨tsOf [(0, (.dat 23 (.lst x0))), (3, (.dat 9 (.str x1))), (4, (.dat 3 (.int x2)))], [], 0⟩))
    else
      (J 0 8 0 ⟨tsOf [(3, (.dat 9 (.str x1)))], [], 0⟩ (e11 J m [1, 1, 1] [] ⟨tsOf [(3, (.dat 9 (.str x1)))], [], 0⟩))) := fun J => by kernel_rfl
    refine (h jn).trans ?_
    simp only [jn_eq, ref04_Text_j2_eq m M1 (ref04_Text_l1 m M1) (fun x0 x1 x2 => ref04_Text_l1_eq m M1 x0 x1 x2), ref04_Text_j5_eq m]
    rfl
theorem ref04_Text_j0_eq (m : Nat) (x0 : List Dt) (x1 : ByteArray) (x2 : Int) : e11 jn m [1, 1, 0, 1] [] ⟨tsOf [(0, (.dat 23 (.lst x0))), (3, (.dat 9 (.str x1))), (4, (.dat 3 (.int x2)))], [], 0⟩ = ref04_Text_j0 m x0 x1 x2 := by
  have h : ∀ J, e11 J m [1, 1, 0, 1] [] ⟨tsOf [(0, (.dat 23 (.lst x0))), (3, (.dat 9 (.str x1))), (4, (.dat 3 (.int x2)))], [], 0⟩ =
    (J 1 3 (Nat.succ m) ⟨tsOf [(0, (.dat 23 (.lst x0))), (3, (.dat 9 (.str x1))), (4, (.dat 3 (.int x2)))], [], 0⟩ (l11 J m [1, 1, 0, 1, 0] [] (Nat.succ m) ⟨tsOf [(0, (.dat 23 (.lst x0))), (3, (.dat 9 (.str x1))), (4, (.dat 3 (.int x2)))], [], 0⟩)) := fun J => by kernel_rfl
  exact (h jn).trans (by
    simp only [jn_eq, ref04_Text_l1_eq m]
    rfl)
theorem ref04_Text_eq (m : Nat) (a0 : List Dt) : e11 jn m [] [] ⟨[(.dat 23 (.lst a0))], [], 0⟩ = ref04_Text (m + 1) a0 := by
  have h : ∀ J, e11 J m [] [] ⟨[(.dat 23 (.lst a0))], [], 0⟩ =
    (J 0 3 0 ⟨tsOf [(0, (.dat 23 (.lst a0))), (3, (.dat 9 (.str (Dt.toStr (canD Proofs.Tryd.prog (Oper.type (Oper.mk (Option.some (3 : Nat)) (Op.assign (Operand.const (Value.string (ByteArray.mk (List.toArray []))))) (9 : Nat) "ref.go:46" (List.toArray []) (Option.none))) (Dt.str (ByteArray.mk (List.toArray [])))))))), (4, (.dat 3 (.int (0 : Int))))], [], 0⟩ (e11 J m [1, 1, 0, 1] [] ⟨tsOf [(0, (.dat 23 (.lst a0))), (3, (.dat 9 (.str (Dt.toStr (canD Proofs.Tryd.prog (Oper.type (Oper.mk (Option.some (3 : Nat)) (Op.assign (Operand.const (Value.string (ByteArray.mk (List.toArray []))))) (9 : Nat) "ref.go:46" (List.toArray []) (Option.none))) (Dt.str (ByteArray.mk (List.toArray [])))))))), (4, (.dat 3 (.int (0 : Int))))], [], 0⟩)) := fun J => by kernel_rfl
  refine (h jn).trans ?_
  simp only [jn_eq, ref04_Text_j0_eq m]
  rfl
noncomputable def d12 (q : Res) : Option (Int × Bool) := match q with
  | (.tup [.dat T0 x0, .dat T1 x1], []) => bif (Nat.beq T0 3 && Nat.beq T1 4) then some (x0.toInt, x1.toBool) else none
  | _ => none
theorem d12_sim {b : Res} {r : Int × Bool} (h : d12 b = some r) : Sim Tryd.prog b ((.tup [(.dat 3 (.int r.1)), (.dat 4 (.bool r.2))]), []) := by
  unfold d12 at h
  split at h
  · obtain ⟨hc, h2⟩ := bif_some h
    cases h2
    have e0 := beq_eq (and_l hc)
    have e1 := beq_eq (and_r hc)
    subst e0 e1
    exact Sim.of (.tup (.cons (.dat (.int Tryd.underlying3)) (.cons (.dat (.bool Tryd.underlying4)) .nil))) .nil
  · cases h
noncomputable def e12 (J : Nat → Nat → Nat → St → Option (Int × Bool) → Option (Int × Bool)) (m : Nat) (p ms : List Nat) (σ : St) := evAt Tryd.prog env (ct m) J (m + 1) 20 49 Tryd.f20 d12 p ms σ
noncomputable def l12 (J : Nat → Nat → Nat → St → Option (Int × Bool) → Option (Int × Bool)) (m : Nat) (p ms : List Nat) (M : Nat) (σ : St) := loopAt Tryd.prog env (ct m) J (m + 1) 20 49 Tryd.f20 d12 p ms M σ
theorem path_Number_j5_eq (m : Nat) (M2 : Nat) (rec2 : ByteArray → Int → Int → Int → Option (Int × Bool)) (h2 : ∀ (x0 : ByteArray) (x1 : Int) (x2 : Int) (x3 : Int), l12 jn m [1, 1, 1, 0, 1, 0] [] M2 ⟨tsOf [(0, (.dat 9 (.str x0))), (4, (.dat 3 (.int x1))), (25, (.dat 3 (.int x2))), (26, (.dat 3 (.int x3)))], [], 0⟩ = rec2 x0 x1 x2 x3) (x0 : ByteArray) (x1 : Int) (x2 : Int) (x3 : Int) : e12 jn m [1, 1, 1, 0, 1, 0, 0, 1, 1, 1] [M2] ⟨tsOf [(0, (.dat 9 (.str x0))), (4, (.dat 3 (.int x1))), (25, (.dat 3 (.int x2))), (26, (.dat 3 (.int x3)))], [], 0⟩ = path_Number_j5 m rec2 x0 x1 x2 x3 := by
  have h : ∀ J, e12 J m [1, 1, 1, 0, 1, 0, 0, 1, 1, 1] [M2] ⟨tsOf [(0, (.dat 9 (.str x0))), (4, (.dat 3 (.int x1))), (25, (.dat 3 (.int x2))), (26, (.dat 3 (.int x3)))], [], 0⟩ =
    (J 1 5 M2 ⟨tsOf [(0, (.dat 9 (.str x0))), (4, (.dat 3 (.int x1))), (25, (.dat 3 (.int x2))), (26, (.dat 3 (.int (IntKind.wrap IntKind.i64 (x3 + (1 : Int))))))], [], 0⟩ (l12 J m [1, 1, 1, 0, 1, 0] [] M2 ⟨tsOf [(0, (.dat 9 (.str x0))), (4, (.dat 3 (.int x1))), (25, (.dat 3 (.int x2))), (26, (.dat 3 (.int (IntKind.wrap IntKind.i64 (x3 + (1 : Int))))))], [], 0⟩)) := fun J => by kernel_rfl
  exact (h jn).trans (by
    simp only [jn_eq, h2]
    rfl)
theorem path_Number_j4_eq (m : Nat) (M2 : Nat) (rec2 : ByteArray → Int → Int → Int → Option (Int × Bool)) (h2 : ∀ (x0 : ByteArray) (x1 : Int) (x2 : Int) (x3 : Int), l12 jn m [1, 1, 1, 0, 1, 0] [] M2 ⟨tsOf [(0, (.dat 9 (.str x0))), (4, (.dat 3 (.int x1))), (25, (.dat 3 (.int x2))), (26, (.dat 3 (.int x3)))], [], 0⟩ = rec2 x0 x1 x2 x3) (x0 : ByteArray) (x1 : Int) (x2 : Int) (x3 : Int) (x4 : Int) : e12 jn m [1, 1, 1, 0, 1, 0, 0, 1, 1, 0, 0, 1, 1] [M2] ⟨tsOf [(0, (.dat 9 (.str x0))), (4, (.dat 3 (.int x1))), (5, (.dat 3 (.int x2))), (25, (.dat 3 (.int x3))), (26, (.dat 3 (.int x4)))], [], 0⟩ = path_Number_j4 m rec2 x0 x1 x2 x3 x4 := by
  have h : ∀ J, e12 J m [1, 1, 1, 0, 1, 0, 0, 1, 1, 0, 0, 1, 1] [M2] ⟨tsOf [(0, (.dat 9 (.str x0))), (4, (.dat 3 (.int x1))), (5, (.dat 3 (.int x2))), (25, (.dat 3 (.int x3))), (26, (.dat 3 (.int x4)))], [], 0⟩ =
    ((idxS x0 x2).bind fun v3 =>
      (J 0 10 0 ⟨tsOf [(0, (.dat 9 (.str x0))), (4, (.dat 3 (.int (IntKind.wrap IntKind.i64 ((IntKind.wrap IntKind.i64 ((10 : Int) * x1)) + (IntKind.wrap IntKind.i64 (IntKind.wrap IntKind.u8 (v3 - (48 : Int))))))))), (25, (.dat 3 (.int x3))), (26, (.dat 3 (.int x4)))], [], 0⟩ (e12 J m [1, 1, 1, 0, 1, 0, 0, 1, 1, 1] [M2] ⟨tsOf [(0, (.dat 9 (.str x0))), (4, (.dat 3 (.int (IntKind.wrap IntKind.i64 ((IntKind.wrap IntKind.i64 ((10 : Int) * x1)) + (IntKind.wrap IntKind.i64 (IntKind.wrap IntKind.u8 (v3 - (48 : Int))))))))), (25, (.dat 3 (.int x3))), (26, (.dat 3 (.int x4)))], [], 0⟩))) := fun J => by kernel_rfl
  exact (h jn).trans (by
    simp only [jn_eq, path_Number_j5_eq m M2 rec2 h2]
    rfl)
theorem path_Number_j3_eq (m : Nat) (M2 : Nat) (rec2 : ByteArray → Int → Int → Int → Option (Int × Bool)) (h2 : ∀ (x0 : ByteArray) (x1 : Int) (x2 : Int) (x3 : Int), l12 jn m [1, 1, 1, 0, 1, 0] [] M2 ⟨tsOf [(0, (.dat 9 (.str x0))), (4, (.dat 3 (.int x1))), (25, (.dat 3 (.int x2))), (26, (.dat 3 (.int x3)))], [], 0⟩ = rec2 x0 x1 x2 x3) (x0 : ByteArray) (x1 : Int) (x2 : Int) (x3 : Int) : e12 jn m [1, 1, 1, 0, 1, 0, 0, 1, 1] [M2] ⟨tsOf [(0, (.dat 9 (.str x0))), (4, (.dat 3 (.int x1))), (25, (.dat 3 (.int x2))), (26, (.dat 3 (.int x3)))], [], 0⟩ = path_Number_j3 m rec2 x0 x1 x2 x3 := by
  have h : ∀ J, e12 J m [1, 1, 1, 0, 1, 0, 0, 1, 1] [M2] ⟨tsOf [(0, (.dat 9 (.str x0))), (4, (.dat 3 (.int x1))), (25, (.dat 3 (.int x2))), (26, (.dat 3 (.int x3)))], [], 0⟩ =
    ((idxS x0 x3).bind fun v1 =>
      (bif (decide (v1 < (48 : Int))) then
        some ((0 : Int), Bool.false)
      else
        ((idxS x0 x3).bind fun v2 =>
          (bif (decide ((57 : Int) < v2)) then
            some ((0 : Int), Bool.false)
          else
            (J 0 9 0 ⟨tsOf [(0, (.dat 9 (.str x0))), (4, (.dat 3 (.int x1))), (5, (.dat 3 (.int x3))), (25, (.dat 3 (.int x2))), (26, (.dat 3 (.int x3)))], [], 0⟩ (e12 J m [1, 1, 1, 0, 1, 0, 0, 1, 1, 0, 0, 1, 1] [M2] ⟨tsOf [(0, (.dat 9 (.str x0))), (4, (.dat 3 (.int x1))), (5, (.dat 3 (.int x3))), (25, (.dat 3 (.int x2))), (26, (.dat 3 (.int x3)))], [], 0⟩)))))) := fun J => by kernel_rfl
  exact (h jn).trans (by
    simp only [jn_eq, path_Number_j4_eq m M2 rec2 h2]
    rfl)
theorem path_Number_j6_eq (m : Nat) (x0 : Int) : e12 jn m [1, 1, 1, 1] [] ⟨tsOf [(4, (.dat 3 (.int x0)))], [], 0⟩ = path_Number_j6 m x0 := by
  have h : ∀ J, e12 J m [1, 1, 1, 1] [] ⟨tsOf [(4, (.dat 3 (.int x0)))], [], 0⟩ =
    some (x0, Bool.true) := fun J => by kernel_rfl
  exact (h jn).trans (rfl)
theorem path_Number_l2_eq (m : Nat) : ∀ (M2 : Nat) (x0 : ByteArray) (x1 : Int) (x2 : Int) (x3 : Int), l12 jn m [1, 1, 1, 0, 1, 0] [] M2 ⟨tsOf [(0, (.dat 9 (.str x0))), (4, (.dat 3 (.int x1))), (25, (.dat 3 (.int x2))), (26, (.dat 3 (.int x3)))], [], 0⟩ = path_Number_l2 m M2 x0 x1 x2 x3
  | 0, _, _, _, _ => rfl
  | M2 + 1, x0, x1, x2, x3 => by
    have h : ∀ J, l12 J m [1, 1, 1, 0, 1, 0] [] (M2 + 1) ⟨tsOf [(0, (.dat 9 (.str x0))), (4, (.dat 3 (.int x1))), (25, (.dat 3 (.int x2))), (26, (.dat 3 (.int x3)))], [], 0⟩ =
    (bif (decide (x3 < x2)) then
      (J 0 6 0 ⟨tsOf [(0, (.dat 9 (.str x0))), (4, (.dat 3 (.int x1))), (25, (.dat 3 (.int x2))), (26, (.dat 3 (.int x3)))], [], 0⟩ (e12 J m [1, 1, 1, 0, 1, 0, 0, 1, 1] [M2] ⟨tsOf [(0, (.dat 9 (.str x0))), (4, (.dat 3 (.int x1))), (25, (.dat 3 (.int x2))), (26, (.dat 3 (.int x3)))], [], 0⟩))
    else
      (J 0 11 0 ⟨tsOf [(4, (.dat 3 (.int x1)))], [], 0⟩ (e12 J m [1, 1, 1, 1] [] ⟨tsOf [(4, (.dat 3 (.int x1)))], [], 0⟩))) := fun J => by kernel_rfl
    refine (h jn).trans ?_
    simp only [jn_eq, path_Number_j3_eq m M2 (path_Number_l2 m M2) (fun x0 x1 x2 x3 => path_Number_l2_eq m M2 x0 x1 x2 x3), path_Number_j6_eq m]
    rfl
theorem path_Number_j1_eq (m : Nat) (x0 : ByteArray) (x1 : Int) (x2 : Int) (x3 : Int) : e12 jn m [1, 1, 1, 0, 1] [] ⟨tsOf [(0, (.dat 9 (.str x0))), (4, (.dat 3 (.int x1))), (25, (.dat 3 (.int x2))), (26, (.dat 3 (.int x3)))], [], 0⟩ = path_Number_j1 m x0 x1 x2 x3 := by
  have h : ∀ J, e12 J m [1, 1, 1, 0, 1] [] ⟨tsOf [(0, (.dat 9 (.str x0))), (4, (.dat 3 (.int x1))), (25, (.dat 3 (.int x2))), (26, (.dat 3 (.int x3)))], [], 0⟩ =
    (J 1 5 (Nat.succ m) ⟨tsOf [(0, (.dat 9 (.str x0))), (4, (.dat 3 (.int x1))), (25, (.dat 3 (.int x2))), (26, (.dat 3 (.int x3)))], [], 0⟩ (l12 J m [1, 1, 1, 0, 1, 0] [] (Nat.succ m) ⟨tsOf [(0, (.dat 9 (.str x0))), (4, (.dat 3 (.int x1))), (25, (.dat 3 (.int x2))), (26, (.dat 3 (.int x3)))], [], 0⟩)) := fun J => by kernel_rfl
  exact (h jn).trans (by
    simp only [jn_eq, path_Number_l2_eq m]
    rfl)
theorem path_Number_j0_eq (m : Nat) (x0 : ByteArray) : e12 jn m [1, 1] [] ⟨tsOf [(0, (.dat 9 (.str x0)))], [], 0⟩ = path_Number_j0 m x0 := by
  have h : ∀ J, e12 J m [1, 1] [] ⟨tsOf [(0, (.dat 9 (.str x0)))], [], 0⟩ =
    (J 0 5 0 ⟨tsOf [(0, (.dat 9 (.str x0))), (4, (.dat 3 (.int (0 : Int)))), (25, (.dat 3 (.int (((ByteArray.size x0) : Nat) : Int)))), (26, (.dat 3 (.int (0 : Int))))], [], 0⟩ (e12 J m [1, 1, 1, 0, 1] [] ⟨tsOf [(0, (.dat 9 (.str x0))), (4, (.dat 3 (.int (0 : Int)))), (25, (.dat 3 (.int (((ByteArray.size x0) : Nat) : Int)))), (26, (.dat 3 (.int (0 : Int))))], [], 0⟩)) := fun J => by kernel_rfl
  exact (h jn).trans (by
    simp only [jn_eq, path_Number_j1_eq m]
    rfl)
theorem path_Number_eq (m : Nat) (a0 : ByteArray) : e12 jn m [] [] ⟨[(.dat 9 (.str a0))], [], 0⟩ = path_Number (m + 1) a0 := by
  have h : ∀ J, e12 J m [] [] ⟨[(.dat 9 (.str a0))], [], 0⟩ =
    (bif (decide ((((ByteArray.size a0) : Nat) : Int) < (1 : Int))) then
      some ((0 : Int), Bool.false)
    else
      (bif (decide ((4 : Int) < (((ByteArray.size a0) : Nat) : Int))) then
        some ((0 : Int), Bool.false)
      else
        ((idxS a0 (0 : Int)).bind fun v0 =>
          (bif (v0 == (48 : Int)) then
            (bif (decide ((1 : Int) < (((ByteArray.size a0) : Nat) : Int))) then
              some ((0 : Int), Bool.false)
            else
              (J 0 3 0 ⟨tsOf [(0, (.dat 9 (.str a0)))], [], 0⟩ (e12 J m [1, 1] [] ⟨tsOf [(0, (.dat 9 (.str a0)))], [], 0⟩)))
          else
            (J 0 3 0 ⟨tsOf [(0, (.dat 9 (.str a0)))], [], 0⟩ (e12 J m [1, 1] [] ⟨tsOf [(0, (.dat 9 (.str a0)))], [], 0⟩)))))) := fun J => by kernel_rfl
  refine (h jn).trans ?_
  simp only [jn_eq, path_Number_j0_eq m]
  rfl
noncomputable def d13 (q : Res) : Option (Int × Bool) := match q with
  | (.tup [.dat T0 x0, .dat T1 x1], []) => bif (Nat.beq T0 3 && Nat.beq T1 4) then some (x0.toInt, x1.toBool) else none
  | _ => none
theorem d13_sim {b : Res} {r : Int × Bool} (h : d13 b = some r) : Sim Tryd.prog b ((.tup [(.dat 3 (.int r.1)), (.dat 4 (.bool r.2))]), []) := by
  unfold d13 at h
  split at h
  · obtain ⟨hc, h2⟩ := bif_some h
    cases h2
    have e0 := beq_eq (and_l hc)
    have e1 := beq_eq (and_r hc)
    subst e0 e1
    exact Sim.of (.tup (.cons (.dat (.int Tryd.underlying3)) (.cons (.dat (.bool Tryd.underlying4)) .nil))) .nil
  · cases h
noncomputable def e13 (J : Nat → Nat → Nat → St → Option (Int × Bool) → Option (Int × Bool)) (m : Nat) (p ms : List Nat) (σ : St) := evAt Tryd.prog env (ct m) J (m + 1) 21 49 Tryd.f21 d13 p ms σ
noncomputable def l13 (J : Nat → Nat → Nat → St → Option (Int × Bool) → Option (Int × Bool)) (m : Nat) (p ms : List Nat) (M : Nat) (σ : St) := loopAt Tryd.prog env (ct m) J (m + 1) 21 49 Tryd.f21 d13 p ms M σ
theorem ref04_Number_j5_eq (m : Nat) (M2 : Nat) (rec2 : ByteArray → Int → Int → Option (Int × Bool)) (h2 : ∀ (x0 : ByteArray) (x1 : Int) (x2 : Int), l13 jn m [1, 1, 1, 0, 1, 0] [] M2 ⟨tsOf [(0, (.dat 9 (.str x0))), (4, (.dat 3 (.int x1))), (5, (.dat 3 (.int x2)))], [], 0⟩ = rec2 x0 x1 x2) (x0 : ByteArray) (x1 : Int) (x2 : Int) : e13 jn m [1, 1, 1, 0, 1, 0, 0, 1, 1] [M2] ⟨tsOf [(0, (.dat 9 (.str x0))), (4, (.dat 3 (.int x1))), (5, (.dat 3 (.int x2)))], [], 0⟩ = ref04_Number_j5 m rec2 x0 x1 x2 := by
  have h : ∀ J, e13 J m [1, 1, 1, 0, 1, 0, 0, 1, 1] [M2] ⟨tsOf [(0, (.dat 9 (.str x0))), (4, (.dat 3 (.int x1))), (5, (.dat 3 (.int x2)))], [], 0⟩ =
    (J 1 5 M2 ⟨tsOf [(0, (.dat 9 (.str x0))), (4, (.dat 3 (.int x1))), (5, (.dat 3 (.int (IntKind.wrap IntKind.i64 (x2 + (1 : Int))))))], [], 0⟩ (l13 J m [1, 1, 1, 0, 1, 0] [] M2 ⟨tsOf [(0, (.dat 9 (.str x0))), (4, (.dat 3 (.int x1))), (5, (.dat 3 (.int (IntKind.wrap IntKind.i64 (x2 + (1 : Int))))))], [], 0⟩)) := fun J => by kernel_rfl
  exact (h jn).trans (by
    simp only [jn_eq, h2]
    rfl)
theorem ref04_Number_j4_eq (m : Nat) (M2 : Nat) (rec2 : ByteArray → Int → Int → Option (Int × Bool)) (h2 : ∀ (x0 : ByteArray) (x1 : Int) (x2 : Int), l13 jn m [1, 1, 1, 0, 1, 0] [] M2 ⟨tsOf [(0, (.dat 9 (.str x0))), (4, (.dat 3 (.int x1))), (5, (.dat 3 (.int x2)))], [], 0⟩ = rec2 x0 x1 x2) (x0 : ByteArray) (x1 : Int) (x2 : Int) : e13 jn m [1, 1, 1, 0, 1, 0, 0, 1, 0, 0, 1] [M2] ⟨tsOf [(0, (.dat 9 (.str x0))), (4, (.dat 3 (.int x1))), (5, (.dat 3 (.int x2)))], [], 0⟩ = ref04_Number_j4 m rec2 x0 x1 x2 := by
  have h : ∀ J, e13 J m [1, 1, 1, 0, 1, 0, 0, 1, 0, 0, 1] [M2] ⟨tsOf [(0, (.dat 9 (.str x0))), (4, (.dat 3 (.int x1))), (5, (.dat 3 (.int x2)))], [], 0⟩ =
    ((idxS x0 x2).bind fun v3 =>
      (J 0 6 0 ⟨tsOf [(0, (.dat 9 (.str x0))), (4, (.dat 3 (.int (IntKind.wrap IntKind.i64 ((IntKind.wrap IntKind.i64 (x1 * (10 : Int))) + (IntKind.wrap IntKind.i64 (IntKind.wrap IntKind.u8 (v3 - (48 : Int))))))))), (5, (.dat 3 (.int x2)))], [], 0⟩ (e13 J m [1, 1, 1, 0, 1, 0, 0, 1, 1] [M2] ⟨tsOf [(0, (.dat 9 (.str x0))), (4, (.dat 3 (.int (IntKind.wrap IntKind.i64 ((IntKind.wrap IntKind.i64 (x1 * (10 : Int))) + (IntKind.wrap IntKind.i64 (IntKind.wrap IntKind.u8 (v3 - (48 : Int))))))))), (5, (.dat 3 (.int x2)))], [], 0⟩))) := fun J => by kernel_rfl
  exact (h jn).trans (by
    simp only [jn_eq, ref04_Number_j5_eq m M2 rec2 h2]
    rfl)
theorem ref04_Number_j3_eq (m : Nat) (M2 : Nat) (rec2 : ByteArray → Int → Int → Option (Int × Bool)) (h2 : ∀ (x0 : ByteArray) (x1 : Int) (x2 : Int), l13 jn m [1, 1, 1, 0, 1, 0] [] M2 ⟨tsOf [(0, (.dat 9 (.str x0))), (4, (.dat 3 (.int x1))), (5, (.dat 3 (.int x2)))], [], 0⟩ = rec2 x0 x1 x2) (x0 : ByteArray) (x1 : Int) (x2 : Int) : e13 jn m [1, 1, 1, 0, 1, 0, 0, 1] [M2] ⟨tsOf [(0, (.dat 9 (.str x0))), (4, (.dat 3 (.int x1))), (5, (.dat 3 (.int x2)))], [], 0⟩ = ref04_Number_j3 m rec2 x0 x1 x2 := by
  have h : ∀ J, e13 J m [1, 1, 1, 0, 1, 0, 0, 1] [M2] ⟨tsOf [(0, (.dat 9 (.str x0))), (4, (.dat 3 (.int x1))), (5, (.dat 3 (.int x2)))], [], 0⟩ =
    ((idxS x0 x2).bind fun v1 =>
      (bif (decide (v1 < (48 : Int))) then
        some ((0 : Int), Bool.false)
      else
        ((idxS x0 x2).bind fun v2 =>
          (bif (decide ((57 : Int) < v2)) then
            some ((0 : Int), Bool.false)
          else
            (J 0 9 0 ⟨tsOf [(0, (.dat 9 (.str x0))), (4, (.dat 3 (.int x1))), (5, (.dat 3 (.int x2)))], [], 0⟩ (e13 J m [1, 1, 1, 0, 1, 0, 0, 1, 0, 0, 1] [M2] ⟨tsOf [(0, (.dat 9 (.str x0))), (4, (.dat 3 (.int x1))), (5, (.dat 3 (.int x2)))], [], 0⟩)))))) := fun J => by kernel_rfl
  exact (h jn).trans (by
    simp only [jn_eq, ref04_Number_j4_eq m M2 rec2 h2]
    rfl)
theorem ref04_Number_j6_eq (m : Nat) (x0 : Int) : e13 jn m [1, 1, 1, 1] [] ⟨tsOf [(4, (.dat 3 (.int x0)))], [], 0⟩ = ref04_Number_j6 m x0 := by
  have h : ∀ J, e13 J m [1, 1, 1, 1] [] ⟨tsOf [(4, (.dat 3 (.int x0)))], [], 0⟩ =
    some (x0, Bool.true) := fun J => by kernel_rfl
  exact (h jn).trans (rfl)
theorem ref04_Number_l2_eq (m : Nat) : ∀ (M2 : Nat) (x0 : ByteArray) (x1 : Int) (x2 : Int), l13 jn m [1, 1, 1, 0, 1, 0] [] M2 ⟨tsOf [(0, (.dat 9 (.str x0))), (4, (.dat 3 (.int x1))), (5, (.dat 3 (.int x2)))], [], 0⟩ = ref04_Number_l2 m M2 x0 x1 x2
  | 0, _, _, _ => rfl
  | M2 + 1, x0, x1, x2 => by
    have h : ∀ J, l13 J m [1, 1, 1, 0, 1, 0] [] (M2 + 1) ⟨tsOf [(0, (.dat 9 (.str x0))), (4, (.dat 3 (.int x1))), (5, (.dat 3 (.int x2)))], [], 0⟩ =
    (bif (decide (x2 < (((ByteArray.size x0) : Nat) : Int))) then
      (J 0 7 0 ⟨tsOf [(0, (.dat 9 (.str x0))), (4, (.dat 3 (.int x1))), (5, (.dat 3 (.int x2)))], [], 0⟩ (e13 J m [1, 1, 1, 0, 1, 0, 0, 1] [M2] ⟨tsOf [(0, (.dat 9 (.str x0))), (4, (.dat 3 (.int x1))), (5, (.dat 3 (.int x2)))], [], 0⟩))
    else
      (J 0 10 0 ⟨tsOf [(4, (.dat 3 (.int x1)))], [], 0⟩ (e13 J m [1, 1, 1, 1] [] ⟨tsOf [(4, (.dat 3 (.int x1)))], [], 0⟩))) := fun J => by kernel_rfl
    refine (h jn).trans ?_
    simp only [jn_eq, ref04_Number_j3_eq m M2 (ref04_Number_l2 m M2) (fun x0 x1 x2 => ref04_Number_l2_eq m M2 x0 x1 x2), ref04_Number_j6_eq m]
    rfl
theorem ref04_Number_j1_eq (m : Nat) (x0 : ByteArray) (x1 : Int) (x2 : Int) : e13 jn m [1, 1, 1, 0, 1] [] ⟨tsOf [(0, (.dat 9 (.str x0))), (4, (.dat 3 (.int x1))), (5, (.dat 3 (.int x2)))], [], 0⟩ = ref04_Number_j1 m x0 x1 x2 := by
  have h : ∀ J, e13 J m [1, 1, 1, 0, 1] [] ⟨tsOf [(0, (.dat 9 (.str x0))), (4, (.dat 3 (.int x1))), (5, (.dat 3 (.int x2)))], [], 0⟩ =
    (J 1 5 (Nat.succ m) ⟨tsOf [(0, (.dat 9 (.str x0))), (4, (.dat 3 (.int x1))), (5, (.dat 3 (.int x2)))], [], 0⟩ (l13 J m [1, 1, 1, 0, 1, 0] [] (Nat.succ m) ⟨tsOf [(0, (.dat 9 (.str x0))), (4, (.dat 3 (.int x1))), (5, (.dat 3 (.int x2)))], [], 0⟩)) := fun J => by kernel_rfl
  exact (h jn).trans (by
    simp only [jn_eq, ref04_Number_l2_eq m]
    rfl)
theorem ref04_Number_j0_eq (m : Nat) (x0 : ByteArray) : e13 jn m [1, 1] [] ⟨tsOf [(0, (.dat 9 (.str x0)))], [], 0⟩ = ref04_Number_j0 m x0 := by
  have h : ∀ J, e13 J m [1, 1] [] ⟨tsOf [(0, (.dat 9 (.str x0)))], [], 0⟩ =
    (J 0 5 0 ⟨tsOf [(0, (.dat 9 (.str x0))), (4, (.dat 3 (.int (0 : Int)))), (5, (.dat 3 (.int (0 : Int))))], [], 0⟩ (e13 J m [1, 1, 1, 0, 1] [] ⟨tsOf [(0, (.dat 9 (.str x0))), (4, (.dat 3 (.int (0 : Int)))), (5, (.dat 3 (.int (0 : Int))))], [], 0⟩)) := fun J => by kernel_rfl
  exact (h jn).trans (by
    simp only [jn_eq, ref04_Number_j1_eq m]
    rfl)
theorem ref04_Number_eq (m : Nat) (a0 : ByteArray) : e13 jn m [] [] ⟨[(.dat 9 (.str a0))], [], 0⟩ = ref04_Number (m + 1) a0 := by
  have h : ∀ J, e13 J m [] [] ⟨[(.dat 9 (.str a0))], [], 0⟩ =
    (bif (decide ((((ByteArray.size a0) : Nat) : Int) < (1 : Int))) then
      some ((0 : Int), Bool.false)
    else
      (bif (decide ((4 : Int) < (((ByteArray.size a0) : Nat) : Int))) then
        some ((0 : Int), Bool.false)
      else
        ((idxS a0 (0 : Int)).bind fun v0 =>
          (bif (v0 == (48 : Int)) then
            (bif (decide ((1 : Int) < (((ByteArray.size a0) : Nat) : Int))) then
              some ((0 : Int), Bool.false)
            else
              (J 0 3 0 ⟨tsOf [(0, (.dat 9 (.str a0)))], [], 0⟩ (e13 J m [1, 1] [] ⟨tsOf [(0, (.dat 9 (.str a0)))], [], 0⟩)))
          else
            (J 0 3 0 ⟨tsOf [(0, (.dat 9 (.str a0)))], [], 0⟩ (e13 J m [1, 1] [] ⟨tsOf [(0, (.dat 9 (.str a0)))], [], 0⟩)))))) := fun J => by kernel_rfl
  refine (h jn).trans ?_
  simp only [jn_eq, ref04_Number_j0_eq m]
  rfl
noncomputable def d2 (q : Res) : Option (Bool) := match q with
  | (.dat T0 x0, []) => bif Nat.beq T0 4 then some x0.toBool else none
  | _ => none
theorem d2_sim {b : Res} {r : Bool} (h : d2 b = some r) : Sim Tryd.prog b ((.dat 4 (.bool r)), []) := by
  unfold d2 at h
  split at h
  · obtain ⟨hc, h2⟩ := bif_some h
    cases h2
    have e0 := beq_eq hc
    subst e0
    exact Sim.of (.of (.dat (.bool Tryd.underlying4)) rfl rfl) .nil
  · cases h
noncomputable def e2 (J : Nat → Nat → Nat → St → Option (Bool) → Option (Bool)) (m : Nat) (p ms : List Nat) (σ : St) := evAt Tryd.prog env (ct m) J (m + 1) 5 28 Tryd.f5 d2 p ms σ
noncomputable def l2 (J : Nat → Nat → Nat → St → Option (Bool) → Option (Bool)) (m : Nat) (p ms : List Nat) (M : Nat) (σ : St) := loopAt Tryd.prog env (ct m) J (m + 1) 5 28 Tryd.f5 d2 p ms M σ
theorem law04_PathNumbers_eq (m : Nat) (a0 : ByteArray) : e2 jn m [] [] ⟨[(.dat 9 (.str a0))], [], 0⟩ = law04_PathNumbers (m + 1) a0 := by
  have h : ∀ J, e2 J m [] [] ⟨[(.dat 9 (.str a0))], [], 0⟩ =
    ((path_Number m a0).bind fun r0 =>
      ((ref04_Number m a0).bind fun r1 =>
        (bif ((Prod.fst r0) == (Prod.fst r1)) then
          (bif ((Prod.snd r0) == (Prod.snd r1)) then
            ((awakeC).bind fun r2 =>
              some r2)
          else
            some Bool.false)
        else
          some Bool.false))) := fun J => by kernel_rfl
  refine (h jn).trans ?_
  
  rfl
noncomputable def d17 (q : Res) : Option (List Dt) := match q with
  | (.dat T0 x0, []) => bif Nat.beq T0 23 then some x0.toLst else none
  | _ => none
theorem d17_sim {b : Res} {r : List Dt} (h : d17 b = some r) : Sim Tryd.prog b ((.dat 23 (.lst r)), []) := by
  unfold d17 at h
  split at h
  · obtain ⟨hc, h2⟩ := bif_some h
    cases h2
    have e0 := beq_eq hc
    subst e0
    exact Sim.of (.of (.dat (.lst Tryd.underlying23)) rfl rfl) .nil
  · cases h
noncomputable def e17 (J : Nat → Nat → Nat → St → Option (List Dt) → Option (List Dt)) (m : Nat) (p ms : List Nat) (σ : St) := evAt Tryd.prog env (ct m) J (m + 1) 43 31 Tryd.f43 d17 p ms σ
noncomputable def l17 (J : Nat → Nat → Nat → St → Option (List Dt) → Option (List Dt)) (m : Nat) (p ms : List Nat) (M : Nat) (σ : St) := loopAt Tryd.prog env (ct m) J (m + 1) 43 31 Tryd.f43 d17 p ms M σ
theorem ref04_split_j3_eq (m : Nat) (M1 : Nat) (rec1 : ByteArray → Int → Int → List Dt → Option (List Dt)) (h1 : ∀ (x0 : ByteArray) (x1 : Int) (x2 : Int) (x3 : List Dt), l17 jn m [1, 1, 1, 0, 1, 0] [] M1 ⟨tsOf [(0, (.dat 9 (.str x0))), (3, (.row 0)), (4, (.dat 3 (.int x1))), (5, (.dat 3 (.int x2)))], [(.row 23 x3)], 0⟩ = rec1 x0 x1 x2 x3) (x0 : ByteArray) (x1 : Int) (x2 : Int) (x3 : List Dt) : e17 jn m [1, 1, 1, 0, 1, 0, 0, 1, 1] [M1] ⟨tsOf [(0, (.dat 9 (.str x0))), (3, (.row 0)), (4, (.dat 3 (.int x1))), (5, (.dat 3 (.int x2)))], [(.row 23 x3)], 0⟩ = ref04_split_j3 m rec1 x0 x1 x2 x3 := by
  have h : ∀ J, e17 J m [1, 1, 1, 0, 1, 0, 0, 1, 1] [M1] ⟨tsOf [(0, (.dat 9 (.str x0))), (3, (.row 0)), (4, (.dat 3 (.int x1))), (5, (.dat 3 (.int x2)))], [(.row 23 x3)], 0⟩ =
    (J 1 4 M1 ⟨tsOf [(0, (.dat 9 (.str x0))), (3, (.row 0)), (4, (.dat 3 (.int x1))), (5, (.dat 3 (.int (IntKind.wrap IntKind.i64 (x2 + (1 : Int))))))], [(.row 23 x3)], 0⟩ (l17 J m [1, 1, 1, 0, 1, 0] [] M1 ⟨tsOf [(0, (.dat 9 (.str x0))), (3, (.row 0)), (4, (.dat 3 (.int x1))), (5, (.dat 3 (.int (IntKind.wrap IntKind.i64 (x2 + (1 : Int))))))], [(.row 23 x3)], 0⟩)) := fun J => by kernel_rfl
  exact (h jn).trans (by
    simp only [jn_eq, h1]
    rfl)
theorem ref04_split_j2_eq (m : Nat) (M1 : Nat) (rec1 : ByteArray → Int → Int → List Dt → Option (List Dt)) (h1 : ∀ (x0 : ByteArray) (x1 : Int) (x2 : Int) (x3 : List Dt), l17 jn m [1, 1, 1, 0, 1, 0] [] M1 ⟨tsOf [(0, (.dat 9 (.str x0))), (3, (.row 0)), (4, (.dat 3 (.int x1))), (5, (.dat 3 (.int x2)))], [(.row 23 x3)], 0⟩ = rec1 x0 x1 x2 x3) (x0 : ByteArray) (x1 : Int) (x2 : Int) (x3 : List Dt) : e17 jn m [1, 1, 1, 0, 1, 0, 0, 1] [M1] ⟨tsOf [(0, (.dat 9 (.str x0))), (3, (.row 0)), (4, (.dat 3 (.int x1))), (5, (.dat 3 (.int x2)))], [(.row 23 x3)], 0⟩ = ref04_split_j2 m rec1 x0 x1 x2 x3 := by
  have h : ∀ J, e17 J m [1, 1, 1, 0, 1, 0, 0, 1] [M1] ⟨tsOf [(0, (.dat 9 (.str x0))), (3, (.row 0)), (4, (.dat 3 (.int x1))), (5, (.dat 3 (.int x2)))], [(.row 23 x3)], 0⟩ =
    ((idxS x0 x2).bind fun v0 =>
      (bif (v0 == (46 : Int)) then
        ((cutS x0 x1 x2).bind fun v1 =>
          ((app x3 [(Dt.str v1)]).bind fun v2 =>
            (J 0 5 0 ⟨tsOf [(0, (.dat 9 (.str x0))), (3, (.row 0)), (4, (.dat 3 (.int (IntKind.wrap IntKind.i64 (x2 + (1 : Int)))))), (5, (.dat 3 (.int x2)))], [(.row 23 v2)], 0⟩ (e17 J m [1, 1, 1, 0, 1, 0, 0, 1, 1] [M1] ⟨tsOf [(0, (.dat 9 (.str x0))), (3, (.row 0)), (4, (.dat 3 (.int (IntKind.wrap IntKind.i64 (x2 + (1 : Int)))))), (5, (.dat 3 (.int x2)))], [(.row 23 v2)], 0⟩))))
      else
        (J 0 5 0 ⟨tsOf [(0, (.dat 9 (.str x0))), (3, (.row 0)), (4, (.dat 3 (.int x1))), (5, (.dat 3 (.int x2)))], [(.row 23 x3)], 0⟩ (e17 J m [1, 1, 1, 0, 1, 0, 0, 1, 1] [M1] ⟨tsOf [(0, (.dat 9 (.str x0))), (3, (.row 0)), (4, (.dat 3 (.int x1))), (5, (.dat 3 (.int x2)))], [(.row 23 x3)], 0⟩)))) := fun J => by kernel_rfl
  exact (h jn).trans (by
    simp only [jn_eq, ref04_split_j3_eq m M1 rec1 h1]
    rfl)
theorem ref04_split_j4_eq (m : Nat) (x0 : ByteArray) (x1 : Int) (x2 : List Dt) : e17 jn m [1, 1, 1, 1] [] ⟨tsOf [(0, (.dat 9 (.str x0))), (3, (.row 0)), (4, (.dat 3 (.int x1)))], [(.row 23 x2)], 0⟩ = ref04_split_j4 m x0 x1 x2 := by
  have h : ∀ J, e17 J m [1, 1, 1, 1] [] ⟨tsOf [(0, (.dat 9 (.str x0))), (3, (.row 0)), (4, (.dat 3 (.int x1)))], [(.row 23 x2)], 0⟩ =
    ((cutS x0 x1 (((ByteArray.size x0) : Nat) : Int)).bind fun v3 =>
      ((app x2 [(Dt.str v3)]).bind fun v4 =>
        some v4)) := fun J => by kernel_rfl
  exact (h jn).trans (rfl)
theorem ref04_split_l1_eq (m : Nat) : ∀ (M1 : Nat) (x0 : ByteArray) (x1 : Int) (x2 : Int) (x3 : List Dt), l17 jn m [1, 1, 1, 0, 1, 0] [] M1 ⟨tsOf [(0, (.dat 9 (.str x0))), (3, (.row 0)), (4, (.dat 3 (.int x1))), (5, (.dat 3 (.int x2)))], [(.row 23 x3)], 0⟩ = ref04_split_l1 m M1 x0 x1 x2 x3
  | 0, _, _, _, _ => rfl
  | M1 + 1, x0, x1, x2, x3 => by
    have h : ∀ J, l17 J m [1, 1, 1, 0, 1, 0] [] (M1 + 1) ⟨tsOf [(0, (.dat 9 (.str x0))), (3, (.row 0)), (4, (.dat 3 (.int x1))), (5, (.dat 3 (.int x2)))], [(.row 23 x3)], 0⟩ =
    (bif (decide (x2 < (((ByteArray.size x0) : Nat) : Int))) then
      (J 0 6 0 ⟨tsOf [(0, (.dat 9 (.str x0))), (3, (.row 0)), (4, (.dat 3 (.int x1))), (5, (.dat 3 (.int x2)))], [(.row 23 x3)], 0⟩ (e17 J m [1, 1, 1, 0, 1, 0, 0, 1] [M1] ⟨tsOf [(0, (.dat 9 (.str x0))), (3, (.row 0)), (4, (.dat 3 (.int x1))), (5, (.dat 3 (.int x2)))], [(.row 23 x3)], 0⟩))
    else
      (J 0 9 0 ⟨tsOf [(0, (.dat 9 (.str x0))), (3, (.row 0)), (4, (.dat 3 (.int x1)))], [(.row 23 x3)], 0⟩ (e17 J m [1, 1, 1, 1] [] ⟨tsOf [(0, (.dat 9 (.str x0))), (3, (.row 0)), (4, (.dat 3 (.int x1)))], [(.row 23 x3)], 0⟩))) := fun J => by kernel_rfl
    refine (h jn).trans ?_
    simp only [jn_eq, ref04_split_j2_eq m M1 (ref04_split_l1 m M1) (fun x0 x1 x2 x3 => ref04_split_l1_eq m M1 x0 x1 x2 x3), ref04_split_j4_eq m]
    rfl
theorem ref04_split_j0_eq (m : Nat) (x0 : ByteArray) (x1 : Int) (x2 : Int) (x3 : List Dt) : e17 jn m [1, 1, 1, 0, 1] [] ⟨tsOf [(0, (.dat 9 (.str x0))), (3, (.row 0)), (4, (.dat 3 (.int x1))), (5, (.dat 3 (.int x2)))], [(.row 23 x3)], 0⟩ = ref04_split_j0 m x0 x1 x2 x3 := by
  have h : ∀ J, e17 J m [1, 1, 1, 0, 1] [] ⟨tsOf [(0, (.dat 9 (.str x0))), (3, (.row 0)), (4, (.dat 3 (.int x1))), (5, (.dat 3 (.int x2)))], [(.row 23 x3)], 0⟩ =
    (J 1 4 (Nat.succ m) ⟨tsOf [(0, (.dat 9 (.str x0))), (3, (.row 0)), (4, (.dat 3 (.int x1))), (5, (.dat 3 (.int x2)))], [(.row 23 x3)], 0⟩ (l17 J m [1, 1, 1, 0, 1, 0] [] (Nat.succ m) ⟨tsOf [(0, (.dat 9 (.str x0))), (3, (.row 0)), (4, (.dat 3 (.int x1))), (5, (.dat 3 (.int x2)))], [(.row 23 x3)], 0⟩)) := fun J => by kernel_rfl
  exact (h jn).trans (by
    simp only [jn_eq, ref04_split_l1_eq m]
    rfl)
theorem ref04_split_eq (m : Nat) (a0 : ByteArray) : e17 jn m [] [] ⟨[(.dat 9 (.str a0))], [], 0⟩ = ref04_split (m + 1) a0 := by
  have h : ∀ J, e17 J m [] [] ⟨[(.dat 9 (.str a0))], [], 0⟩ =
    (J 0 4 0 ⟨tsOf [(0, (.dat 9 (.str a0))), (3, (.row 0)), (4, (.dat 3 (.int (0 : Int)))), (5, (.dat 3 (.int (0 : Int))))], [(.row 23 [])], 0⟩ (e17 J m [1, 1, 1, 0, 1] [] ⟨tsOf [(0, (.dat 9 (.str a0))), (3, (.row 0)), (4, (.dat 3 (.int (0 : Int)))), (5, (.dat 3 (.int (0 : Int))))], [(.row 23 [])], 0⟩)) := fun J => by kernel_rfl
  refine (h jn).trans ?_
  simp only [jn_eq, ref04_split_j0_eq m]
  rfl
noncomputable def d18 (q : Res) : Option (Bool) := match q with
  | (.dat T0 x0, []) => bif Nat.beq T0 4 then some x0.toBool else none
  | _ => none
theorem d18_sim {b : Res} {r : Bool} (h : d18 b = some r) : Sim Tryd.prog b ((.dat 4 (.bool r)), []) := by
  unfold d18 at h
  split at h
  · obtain ⟨hc, h2⟩ := bif_some h
    cases h2
    have e0 := beq_eq hc
    subst e0
    exact Sim.of (.of (.dat (.bool Tryd.underlying4)) rfl rfl) .nil
  · cases h
noncomputable def e18 (J : Nat → Nat → Nat → St → Option (Bool) → Option (Bool)) (m : Nat) (p ms : List Nat) (σ : St) := evAt Tryd.prog env (ct m) J (m + 1) 44 26 Tryd.f44 d18 p ms σ
noncomputable def l18 (J : Nat → Nat → Nat → St → Option (Bool) → Option (Bool)) (m : Nat) (p ms : List Nat) (M : Nat) (σ : St) := loopAt Tryd.prog env (ct m) J (m + 1) 44 26 Tryd.f44 d18 p ms M σ
theorem ref04_prefix_j4_eq (m : Nat) (M2 : Nat) (rec2 : List Dt → List Dt → Int → Option (Bool)) (h2 : ∀ (x0 : List Dt) (x1 : List Dt) (x2 : Int), l18 jn m [1, 1, 0, 1, 0] [] M2 ⟨tsOf [(0, (.dat 23 (.lst x0))), (1, (.dat 23 (.lst x1))), (5, (.dat 3 (.int x2)))], [], 0⟩ = rec2 x0 x1 x2) (x0 : List Dt) (x1 : List Dt) (x2 : Int) : e18 jn m [1, 1, 0, 1, 0, 0, 1, 1] [M2] ⟨tsOf [(0, (.dat 23 (.lst x0))), (1, (.dat 23 (.lst x1))), (5, (.dat 3 (.int x2)))], [], 0⟩ = ref04_prefix_j4 m rec2 x0 x1 x2 := by
  have h : ∀ J, e18 J m [1, 1, 0, 1, 0, 0, 1, 1] [M2] ⟨tsOf [(0, (.dat 23 (.lst x0))), (1, (.dat 23 (.lst x1))), (5, (.dat 3 (.int x2)))], [], 0⟩ =
    (J 1 4 M2 ⟨tsOf [(0, (.dat 23 (.lst x0))), (1, (.dat 23 (.lst x1))), (5, (.dat 3 (.int (IntKind.wrap IntKind.i64 (x2 + (1 : Int))))))], [], 0⟩ (l18 J m [1, 1, 0, 1, 0] [] M2 ⟨tsOf [(0, (.dat 23 (.lst x0))), (1, (.dat 23 (.lst x1))), (5, (.dat 3 (.int (IntKind.wrap IntKind.i64 (x2 + (1 : Int))))))], [], 0⟩)) := fun J => by kernel_rfl
  exact (h jn).trans (by
    simp only [jn_eq, h2]
    rfl)
theorem ref04_prefix_j3_eq (m : Nat) (M2 : Nat) (rec2 : List Dt → List Dt → Int → Option (Bool)) (h2 : ∀ (x0 : List Dt) (x1 : List Dt) (x2 : Int), l18 jn m [1, 1, 0, 1, 0] [] M2 ⟨tsOf [(0, (.dat 23 (.lst x0))), (1, (.dat 23 (.lst x1))), (5, (.dat 3 (.int x2)))], [], 0⟩ = rec2 x0 x1 x2) (x0 : List Dt) (x1 : List Dt) (x2 : Int) : e18 jn m [1, 1, 0, 1, 0, 0, 1] [M2] ⟨tsOf [(0, (.dat 23 (.lst x0))), (1, (.dat 23 (.lst x1))), (5, (.dat 3 (.int x2)))], [], 0⟩ = ref04_prefix_j3 m rec2 x0 x1 x2 := by
  have h : ∀ J, e18 J m [1, 1, 0, 1, 0, 0, 1] [M2] ⟨tsOf [(0, (.dat 23 (.lst x0))), (1, (.dat 23 (.lst x1))), (5, (.dat 3 (.int x2)))], [], 0⟩ =
    ((idx x0 x2).bind fun v0 =>
      ((idx x1 x2).bind fun v1 =>
        (bif (Bool.not ((ByteArray.toList (Dt.toStr v0)) == (ByteArray.toList (Dt.toStr v1)))) then
          some Bool.false
        else
          (J 0 5 0 ⟨tsOf [(0, (.dat 23 (.lst x0))), (1, (.dat 23 (.lst x1))), (5, (.dat 3 (.int x2)))], [], 0⟩ (e18 J m [1, 1, 0, 1, 0, 0, 1, 1] [M2] ⟨tsOf [(0, (.dat 23 (.lst x0))), (1, (.dat 23 (.lst x1))), (5, (.dat 3 (.int x2)))], [], 0⟩))))) := fun J => by kernel_rfl
  exact (h jn).trans (by
    simp only [jn_eq, ref04_prefix_j4_eq m M2 rec2 h2]
    rfl)
theorem ref04_prefix_j5_eq (m : Nat) : e18 jn m [1, 1, 1] [] ⟨tsOf [], [], 0⟩ = ref04_prefix_j5 m := by
  have h : ∀ J, e18 J m [1, 1, 1] [] ⟨tsOf [], [], 0⟩ =
    some Bool.true := fun J => by kernel_rfl
  exact (h jn).trans (rfl)
theorem ref04_prefix_l2_eq (m : Nat) : ∀ (M2 : Nat) (x0 : List Dt) (x1 : List Dt) (x2 : Int), l18 jn m [1, 1, 0, 1, 0] [] M2 ⟨tsOf [(0, (.dat 23 (.lst x0))), (1, (.dat 23 (.lst x1))), (5, (.dat 3 (.int x2)))], [], 0⟩ = ref04_prefix_l2 m M2 x0 x1 x2
  | 0, _, _, _ => rfl
  | M2 + 1, x0, x1, x2 => by
    have h : ∀ J, l18 J m [1, 1, 0, 1, 0] [] (M2 + 1) ⟨tsOf [(0, (.dat 23 (.lst x0))), (1, (.dat 23 (.lst x1))), (5, (.dat 3 (.int x2)))], [], 0⟩ =
    (bif (decide (x2 < (((List.length x0) : Nat) : Int))) then
      (J 0 6 0 ⟨tsOf [(0, (.dat 23 (.lst x0))), (1, (.dat 23 (.lst x1))), (5, (.dat 3 (.int x2)))], [], 0⟩ (e18 J m [1, 1, 0, 1, 0, 0, 1] [M2] ⟨tsOf [(0, (.dat 23 (.lst x0))), (1, (.dat 23 (.lst x1))), (5, (.dat 3 (.int x2)))], [], 0⟩))
    else
      (J 0 8 0 ⟨tsOf [], [], 0⟩ (e18 J m [1, 1, 1] [] ⟨tsOf [], [], 0⟩))) := fun J => by kernel_rfl
    refine (h jn).trans ?_
    simp only [jn_eq, ref04_prefix_j3_eq m M2 (ref04_prefix_l2 m M2) (fun x0 x1 x2 => ref04_prefix_l2_eq m M2 x0 x1 x2), ref04_prefix_j5_eq m]
    rfl
theorem ref04_prefix_j1_eq (m : Nat) (x0 : List Dt) (x1 : List Dt) (x2 : Int) : e18 jn m [1, 1, 0, 1] [] ⟨tsOf [(0, (.dat 23 (.lst x0))), (1, (.dat 23 (.lst x1))), (5, (.dat 3 (.int x2)))], [], 0⟩ = ref04_prefix_j1 m x0 x1 x2 := by
  have h : ∀ J, e18 J m [1, 1, 0, 1] [] ⟨tsOf [(0, (.dat 23 (.lst x0))), (1, (.dat 23 (.lst x1))), (5, (.dat 3 (.int x2)))], [], 0⟩ =
    (J 1 4 (Nat.succ m) ⟨tsOf [(0, (.dat 23 (.lst x0))), (1, (.dat 23 (.lst x1))), (5, (.dat 3 (.int x2)))], [], 0⟩ (l18 J m [1, 1, 0, 1, 0] [] (Nat.succ m) ⟨tsOf [(0, (.dat 23 (.lst x0))), (1, (.dat 23 (.lst x1))), (5, (.dat 3 (.int x2)))], [], 0⟩)) := fun J => by kernel_rfl
  exact (h jn).trans (by
    simp only [jn_eq, ref04_prefix_l2_eq m]
    rfl)
theorem ref04_prefix_j0_eq (m : Nat) (x0 : List Dt) (x1 : List Dt) : e18 jn m [1, 1] [] ⟨tsOf [(0, (.dat 23 (.lst x0))), (1, (.dat 23 (.lst x1)))], [], 0⟩ = ref04_prefix_j0 m x0 x1 := by
  have h : ∀ J, e18 J m [1, 1] [] ⟨tsOf [(0, (.dat 23 (.lst x0))), (1, (.dat 23 (.lst x1)))], [], 0⟩ =
    (J 0 4 0 ⟨tsOf [(0, (.dat 23 (.lst x0))), (1, (.dat 23 (.lst x1))), (5, (.dat 3 (.int (0 : Int))))], [], 0⟩ (e18 J m [1, 1, 0, 1] [] ⟨tsOf [(0, (.dat 23 (.lst x0))), (1, (.dat 23 (.lst x1))), (5, (.dat 3 (.int (0 : Int))))], [], 0⟩)) := fun J => by kernel_rfl
  exact (h jn).trans (by
    simp only [jn_eq, ref04_prefix_j1_eq m]
    rfl)
theorem ref04_prefix_eq (m : Nat) (a0 : List Dt) (a1 : List Dt) : e18 jn m [] [] ⟨[(.dat 23 (.lst a0)), (.dat 23 (.lst a1))], [], 0⟩ = ref04_prefix (m + 1) a0 a1 := by
  have h : ∀ J, e18 J m [] [] ⟨[(.dat 23 (.lst a0)), (.dat 23 (.lst a1))], [], 0⟩ =
    (bif (decide ((((List.length a1) : Nat) : Int) < (((List.length a0) : Nat) : Int))) then
      some Bool.false
    else
      (J 0 3 0 ⟨tsOf [(0, (.dat 23 (.lst a0))), (1, (.dat 23 (.lst a1)))], [], 0⟩ (e18 J m [1, 1] [] ⟨tsOf [(0, (.dat 23 (.lst a0))), (1, (.dat 23 (.lst a1)))], [], 0⟩))) := fun J => by kernel_rfl
  refine (h jn).trans ?_
  simp only [jn_eq, ref04_prefix_j0_eq m]
  rfl
noncomputable def d7 (q : Res) : Option (Bool) := match q with
  | (.dat T0 x0, []) => bif Nat.beq T0 4 then some x0.toBool else none
  | _ => none
theorem d7_sim {b : Res} {r : Bool} (h : d7 b = some r) : Sim Tryd.prog b ((.dat 4 (.bool r)), []) := by
  unfold d7 at h
  split at h
  · obtain ⟨hc, h2⟩ := bif_some h
    cases h2
    have e0 := beq_eq hc
    subst e0
    exact Sim.of (.of (.dat (.bool Tryd.underlying4)) rfl rfl) .nil
  · cases h
noncomputable def e7 (J : Nat → Nat → Nat → St → Option (Bool) → Option (Bool)) (m : Nat) (p ms : List Nat) (σ : St) := evAt Tryd.prog env (ct m) J (m + 1) 15 15 Tryd.f15 d7 p ms σ
noncomputable def l7 (J : Nat → Nat → Nat → St → Option (Bool) → Option (Bool)) (m : Nat) (p ms : List Nat) (M : Nat) (σ : St) := loopAt Tryd.prog env (ct m) J (m + 1) 15 15 Tryd.f15 d7 p ms M σ
theorem ref04_Same_eq (m : Nat) (a0 : List Dt) (a1 : List Dt) : e7 jn m [] [] ⟨[(.dat 23 (.lst a0)), (.dat 23 (.lst a1))], [], 0⟩ = ref04_Same (m + 1) a0 a1 := by
  have h : ∀ J, e7 J m [] [] ⟨[(.dat 23 (.lst a0)), (.dat 23 (.lst a1))], [], 0⟩ =
    (bif ((((List.length a0) : Nat) : Int) == (((List.length a1) : Nat) : Int)) then
      ((ref04_prefix m a0 a1).bind fun r0 =>
        some r0)
    else
      some Bool.false) := fun J => by kernel_rfl
  refine (h jn).trans ?_
  
  rfl
noncomputable def d15 (q : Res) : Option (Bool) := match q with
  | (.dat T0 x0, []) => bif Nat.beq T0 4 then some x0.toBool else none
  | _ => none
theorem d15_sim {b : Res} {r : Bool} (h : d15 b = some r) : Sim Tryd.prog b ((.dat 4 (.bool r)), []) := by
  unfold d15 at h
  split at h
  · obtain ⟨hc, h2⟩ := bif_some h
    cases h2
    have e0 := beq_eq hc
    subst e0
    exact Sim.of (.of (.dat (.bool Tryd.underlying4)) rfl rfl) .nil
  · cases h
noncomputable def e15 (J : Nat → Nat → Nat → St → Option (Bool) → Option (Bool)) (m : Nat) (p ms : List Nat) (σ : St) := evAt Tryd.prog env (ct m) J (m + 1) 35 13 Tryd.f35 d15 p ms σ
noncomputable def l15 (J : Nat → Nat → Nat → St → Option (Bool) → Option (Bool)) (m : Nat) (p ms : List Nat) (M : Nat) (σ : St) := loopAt Tryd.prog env (ct m) J (m + 1) 35 13 Tryd.f35 d15 p ms M σ
theorem ref04_Overlap_eq (m : Nat) (a0 : List Dt) (a1 : List Dt) : e15 jn m [] [] ⟨[(.dat 23 (.lst a0)), (.dat 23 (.lst a1))], [], 0⟩ = ref04_Overlap (m + 1) a0 a1 := by
  have h : ∀ J, e15 J m [] [] ⟨[(.dat 23 (.lst a0)), (.dat 23 (.lst a1))], [], 0⟩ =
    ((ref04_prefix m a0 a1).bind fun r0 =>
      (bif r0 then
        some Bool.true
      else
        ((ref04_prefix m a1 a0).bind fun r1 =>
          some r1))) := fun J => by kernel_rfl
  refine (h jn).trans ?_
  
  rfl
noncomputable def d22 (q : Res) : Option (Bool) := match q with
  | (.dat T0 x0, []) => bif Nat.beq T0 4 then some x0.toBool else none
  | _ => none
theorem d22_sim {b : Res} {r : Bool} (h : d22 b = some r) : Sim Tryd.prog b ((.dat 4 (.bool r)), []) := by
  unfold d22 at h
  split at h
  · obtain ⟨hc, h2⟩ := bif_some h
    cases h2
    have e0 := beq_eq hc
    subst e0
    exact Sim.of (.of (.dat (.bool Tryd.underlying4)) rfl rfl) .nil
  · cases h
noncomputable def e22 (J : Nat → Nat → Nat → St → Option (Bool) → Option (Bool)) (m : Nat) (p ms : List Nat) (σ : St) := evAt Tryd.prog env (ct m) J (m + 1) 47 39 Tryd.f47 d22 p ms σ
noncomputable def l22 (J : Nat → Nat → Nat → St → Option (Bool) → Option (Bool)) (m : Nat) (p ms : List Nat) (M : Nat) (σ : St) := loopAt Tryd.prog env (ct m) J (m + 1) 47 39 Tryd.f47 d22 p ms M σ
theorem path_notName_j4_eq (m : Nat) (M2 : Nat) (rec2 : ByteArray → Int → Int → Option (Bool)) (h2 : ∀ (x0 : ByteArray) (x1 : Int) (x2 : Int), l22 jn m [1, 1, 0, 1, 0] [] M2 ⟨tsOf [(0, (.dat 9 (.str x0))), (18, (.dat 3 (.int x1))), (19, (.dat 3 (.int x2)))], [], 0⟩ = rec2 x0 x1 x2) (x0 : ByteArray) (x1 : Int) (x2 : Int) : e22 jn m [1, 1, 0, 1, 0, 0, 1, 1, 1] [M2] ⟨tsOf [(0, (.dat 9 (.str x0))), (18, (.dat 3 (.int x1))), (19, (.dat 3 (.int x2)))], [], 0⟩ = path_notName_j4 m rec2 x0 x1 x2 := by
  have h : ∀ J, e22 J m [1, 1, 0, 1, 0, 0, 1, 1, 1] [M2] ⟨tsOf [(0, (.dat 9 (.str x0))), (18, (.dat 3 (.int x1))), (19, (.dat 3 (.int x2)))], [], 0⟩ =
    (J 1 4 M2 ⟨tsOf [(0, (.dat 9 (.str x0))), (18, (.dat 3 (.int x1))), (19, (.dat 3 (.int (IntKind.wrap IntKind.i64 (x2 + (1 : Int))))))], [], 0⟩ (l22 J m [1, 1, 0, 1, 0] [] M2 ⟨tsOf [(0, (.dat 9 (.str x0))), (18, (.dat 3 (.int x1))), (19, (.dat 3 (.int (IntKind.wrap IntKind.i64 (x2 + (1 : Int))))))], [], 0⟩)) := fun J => by kernel_rfl
  exact (h jn).trans (by
    simp only [jn_eq, h2]
    rfl)
theorem path_notName_j3_eq (m : Nat) (M2 : Nat) (rec2 : ByteArray → Int → Int → Option (Bool)) (h2 : ∀ (x0 : ByteArray) (x1 : Int) (x2 : Int), l22 jn m [1, 1, 0, 1, 0] [] M2 ⟨tsOf [(0, (.dat 9 (.str x0))), (18, (.dat 3 (.int x1))), (19, (.dat 3 (.int x2)))], [], 0⟩ = rec2 x0 x1 x2) (x0 : ByteArray) (x1 : Int) (x2 : Int) : e22 jn m [1, 1, 0, 1, 0, 0, 1, 1] [M2] ⟨tsOf [(0, (.dat 9 (.str x0))), (18, (.dat 3 (.int x1))), (19, (.dat 3 (.int x2)))], [], 0⟩ = path_notName_j3 m rec2 x0 x1 x2 := by
  have h : ∀ J, e22 J m [1, 1, 0, 1, 0, 0, 1, 1] [M2] ⟨tsOf [(0, (.dat 9 (.str x0))), (18, (.dat 3 (.int x1))), (19, (.dat 3 (.int x2)))], [], 0⟩ =
    ((idxS x0 x2).bind fun v1 =>
      (bif (decide (v1 < (33 : Int))) then
        some Bool.true
      else
        ((idxS x0 x2).bind fun v2 =>
          (bif (decide ((126 : Int) < v2)) then
            some Bool.true
          else
            ((idxS x0 x2).bind fun v3 =>
              (bif (v3 == (46 : Int)) then
                some Bool.true
              else
                (J 0 8 0 ⟨tsOf [(0, (.dat 9 (.str x0))), (18, (.dat 3 (.int x1))), (19, (.dat 3 (.int x2)))], [], 0⟩ (e22 J m [1, 1, 0, 1, 0, 0, 1, 1, 1] [M2] ⟨tsOf [(0, (.dat 9 (.str x0))), (18, (.dat 3 (.int x1))), (19, (.dat 3 (.int x2)))], [], 0⟩)))))))) := fun J => by kernel_rfl
  exact (h jn).trans (by
    simp only [jn_eq, path_notName_j4_eq m M2 rec2 h2]
    rfl)
theorem path_notName_j5_eq (m : Nat) : e22 jn m [1, 1, 1] [] ⟨tsOf [], [], 0⟩ = path_notName_j5 m := by
  have h : ∀ J, e22 J m [1, 1, 1] [] ⟨tsOf [], [], 0⟩ =
    some Bool.false := fun J => by kernel_rfl
  exact (h jn).trans (rfl)
theorem path_notName_l2_eq (m : Nat) : ∀ (M2 : Nat) (x0 : ByteArray) (x1 : Int) (x2 : Int), l22 jn m [1, 1, 0, 1, 0] [] M2 ⟨tsOf [(0, (.dat 9 (.str x0))), (18, (.dat 3 (.int x1))), (19, (.dat 3 (.int x2)))], [], 0⟩ = path_notName_l2 m M2 x0 x1 x2
  | 0, _, _, _ => rfl
  | M2 + 1, x0, x1, x2 => by
    have h : ∀ J, l22 J m [1, 1, 0, 1, 0] [] (M2 + 1) ⟨tsOf [(0, (.dat 9 (.str x0))), (18, (.dat 3 (.int x1))), (19, (.dat 3 (.int x2)))], [], 0⟩ =
    (bif (decide (x2 < x1)) then
      (J 0 5 0 ⟨tsOf [(0, (.dat 9 (.str x0))), (18, (.dat 3 (.int x1))), (19, (.dat 3 (.int x2)))], [], 0⟩ (e22 J m [1, 1, 0, 1, 0, 0, 1, 1] [M2] ⟨tsOf [(0, (.dat 9 (.str x0))), (18, (.dat 3 (.int x1))), (19, (.dat 3 (.int x2)))], [], 0⟩))
    else
      (J 0 9 0 ⟨tsOf [], [], 0⟩ (e22 J m [1, 1, 1] [] ⟨tsOf [], [], 0⟩))) := fun J => by kernel_rfl
    refine (h jn).trans ?_
    simp only [jn_eq, path_notName_j3_eq m M2 (path_notName_l2 m M2) (fun x0 x1 x2 => path_notName_l2_eq m M2 x0 x1 x2), path_notName_j5_eq m]
    rfl
theorem path_notName_j1_eq (m : Nat) (x0 : ByteArray) (x1 : Int) (x2 : Int) : e22 jn m [1, 1, 0, 1] [] ⟨tsOf [(0, (.dat 9 (.str x0))), (18, (.dat 3 (.int x1))), (19, (.dat 3 (.int x2)))], [], 0⟩ = path_notName_j1 m x0 x1 x2 := by
  have h : ∀ J, e22 J m [1, 1, 0, 1] [] ⟨tsOf [(0, (.dat 9 (.str x0))), (18, (.dat 3 (.int x1))), (19, (.dat 3 (.int x2)))], [], 0⟩ =
    (J 1 4 (Nat.succ m) ⟨tsOf [(0, (.dat 9 (.str x0))), (18, (.dat 3 (.int x1))), (19, (.dat 3 (.int x2)))], [], 0⟩ (l22 J m [1, 1, 0, 1, 0] [] (Nat.succ m) ⟨tsOf [(0, (.dat 9 (.str x0))), (18, (.dat 3 (.int x1))), (19, (.dat 3 (.int x2)))], [], 0⟩)) := fun J => by kernel_rfl
  exact (h jn).trans (by
    simp only [jn_eq, path_notName_l2_eq m]
    rfl)
theorem path_notName_j0_eq (m : Nat) (x0 : ByteArray) : e22 jn m [1, 1] [] ⟨tsOf [(0, (.dat 9 (.str x0)))], [], 0⟩ = path_notName_j0 m x0 := by
  have h : ∀ J, e22 J m [1, 1] [] ⟨tsOf [(0, (.dat 9 (.str x0)))], [], 0⟩ =
    (J 0 4 0 ⟨tsOf [(0, (.dat 9 (.str x0))), (18, (.dat 3 (.int (((ByteArray.size x0) : Nat) : Int)))), (19, (.dat 3 (.int (0 : Int))))], [], 0⟩ (e22 J m [1, 1, 0, 1] [] ⟨tsOf [(0, (.dat 9 (.str x0))), (18, (.dat 3 (.int (((ByteArray.size x0) : Nat) : Int)))), (19, (.dat 3 (.int (0 : Int))))], [], 0⟩)) := fun J => by kernel_rfl
  exact (h jn).trans (by
    simp only [jn_eq, path_notName_j1_eq m]
    rfl)
theorem path_notName_eq (m : Nat) (a0 : ByteArray) : e22 jn m [] [] ⟨[(.dat 9 (.str a0))], [], 0⟩ = path_notName (m + 1) a0 := by
  have h : ∀ J, e22 J m [] [] ⟨[(.dat 9 (.str a0))], [], 0⟩ =
    (bif (decide ((((ByteArray.size a0) : Nat) : Int) < (1 : Int))) then
      some Bool.true
    else
      (bif (decide ((32 : Int) < (((ByteArray.size a0) : Nat) : Int))) then
        some Bool.true
      else
        ((idxS a0 (0 : Int)).bind fun v0 =>
          (bif (v0 == (36 : Int)) then
            some Bool.true
          else
            (J 0 3 0 ⟨tsOf [(0, (.dat 9 (.str a0)))], [], 0⟩ (e22 J m [1, 1] [] ⟨tsOf [(0, (.dat 9 (.str a0)))], [], 0⟩)))))) := fun J => by kernel_rfl
  refine (h jn).trans ?_
  simp only [jn_eq, path_notName_j0_eq m]
  rfl
noncomputable def d21 (q : Res) : Option (Int) := match q with
  | (.dat T0 x0, []) => bif Nat.beq T0 3 then some x0.toInt else none
  | _ => none
theorem d21_sim {b : Res} {r : Int} (h : d21 b = some r) : Sim Tryd.prog b ((.dat 3 (.int r)), []) := by
  unfold d21 at h
  split at h
  · obtain ⟨hc, h2⟩ := bif_some h
    cases h2
    have e0 := beq_eq hc
    subst e0
    exact Sim.of (.of (.dat (.int Tryd.underlying3)) rfl rfl) .nil
  · cases h
noncomputable def e21 (J : Nat → Nat → Nat → St → Option (Int) → Option (Int)) (m : Nat) (p ms : List Nat) (σ : St) := evAt Tryd.prog env (ct m) J (m + 1) 69 19 Tryd.f69 d21 p ms σ
noncomputable def l21 (J : Nat → Nat → Nat → St → Option (Int) → Option (Int)) (m : Nat) (p ms : List Nat) (M : Nat) (σ : St) := loopAt Tryd.prog env (ct m) J (m + 1) 69 19 Tryd.f69 d21 p ms M σ
theorem slices_IndexFunc_i21_j3_eq (m : Nat) (M1 : Nat) (rec1 : List Dt → Int → Int → Option (Int)) (h1 : ∀ (x0 : List Dt) (x1 : Int) (x2 : Int), l21 jn m [1, 0, 1, 0] [] M1 ⟨tsOf [(0, (.dat 23 (.lst x0))), (1, (.fn 47 [])), (7, (.dat 3 (.int x1))), (8, (.dat 3 (.int x2)))], [], 0⟩ = rec1 x0 x1 x2) (x0 : List Dt) (x1 : Int) (x2 : Int) : e21 jn m [1, 0, 1, 0, 0, 1, 1, 1] [M1] ⟨tsOf [(0, (.dat 23 (.lst x0))), (1, (.fn 47 [])), (7, (.dat 3 (.int x1))), (8, (.dat 3 (.int x2)))], [], 0⟩ = slices_IndexFunc_i21_j3 m rec1 x0 x1 x2 := by
  have h : ∀ J, e21 J m [1, 0, 1, 0, 0, 1, 1, 1] [M1] ⟨tsOf [(0, (.dat 23 (.lst x0))), (1, (.fn 47 [])), (7, (.dat 3 (.int x1))), (8, (.dat 3 (.int x2)))], [], 0⟩ =
    (J 1 2 M1 ⟨tsOf [(0, (.dat 23 (.lst x0))), (1, (.fn 47 [])), (7, (.dat 3 (.int x1))), (8, (.dat 3 (.int (IntKind.wrap IntKind.i64 (x2 + (1 : Int))))))], [], 0⟩ (l21 J m [1, 0, 1, 0] [] M1 ⟨tsOf [(0, (.dat 23 (.lst x0))), (1, (.fn 47 [])), (7, (.dat 3 (.int x1))), (8, (.dat 3 (.int (IntKind.wrap IntKind.i64 (x2 + (1 : Int))))))], [], 0⟩)) := fun J => by kernel_rfl
  exact (h jn).trans (by
    simp only [jn_eq, h1]
    rfl)
theorem slices_IndexFunc_i21_j2_eq (m : Nat) (M1 : Nat) (rec1 : List Dt → Int → Int → Option (Int)) (h1 : ∀ (x0 : List Dt) (x1 : Int) (x2 : Int), l21 jn m [1, 0, 1, 0] [] M1 ⟨tsOf [(0, (.dat 23 (.lst x0))), (1, (.fn 47 [])), (7, (.dat 3 (.int x1))), (8, (.dat 3 (.int x2)))], [], 0⟩ = rec1 x0 x1 x2) (x0 : List Dt) (x1 : Int) (x2 : Int) : e21 jn m [1, 0, 1, 0, 0, 1, 1] [M1] ⟨tsOf [(0, (.dat 23 (.lst x0))), (1, (.fn 47 [])), (7, (.dat 3 (.int x1))), (8, (.dat 3 (.int x2)))], [], 0⟩ = slices_IndexFunc_i21_j2 m rec1 x0 x1 x2 := by
  have h : ∀ J, e21 J m [1, 0, 1, 0, 0, 1, 1] [M1] ⟨tsOf [(0, (.dat 23 (.lst x0))), (1, (.fn 47 [])), (7, (.dat 3 (.int x1))), (8, (.dat 3 (.int x2)))], [], 0⟩ =
    ((idx x0 x2).bind fun v0 =>
      ((path_notName m (Dt.toStr v0)).bind fun r1 =>
        (bif r1 then
          some x2
        else
          (J 0 6 0 ⟨tsOf [(0, (.dat 23 (.lst x0))), (1, (.fn 47 [])), (7, (.dat 3 (.int x1))), (8, (.dat 3 (.int x2)))], [], 0⟩ (e21 J m [1, 0, 1, 0, 0, 1, 1, 1] [M1] ⟨tsOf [(0, (.dat 23 (.lst x0))), (1, (.fn 47 [])), (7, (.dat 3 (.int x1))), (8, (.dat 3 (.int x2)))], [], 0⟩))))) := fun J => by kernel_rfl
  exact (h jn).trans (by
    simp only [jn_eq, slices_IndexFunc_i21_j3_eq m M1 rec1 h1]
    rfl)
theorem slices_IndexFunc_i21_j4_eq (m : Nat) : e21 jn m [1, 1] [] ⟨tsOf [], [], 0⟩ = slices_IndexFunc_i21_j4 m := by
  have h : ∀ J, e21 J m [1, 1] [] ⟨tsOf [], [], 0⟩ =
    some (-1 : Int) := fun J => by kernel_rfl
  exact (h jn).trans (rfl)
theorem slices_IndexFunc_i21_l1_eq (m : Nat) : ∀ (M1 : Nat) (x0 : List Dt) (x1 : Int) (x2 : Int), l21 jn m [1, 0, 1, 0] [] M1 ⟨tsOf [(0, (.dat 23 (.lst x0))), (1, (.fn 47 [])), (7, (.dat 3 (.int x1))), (8, (.dat 3 (.int x2)))], [], 0⟩ = slices_IndexFunc_i21_l1 m M1 x0 x1 x2
  | 0, _, _, _ => rfl
  | M1 + 1, x0, x1, x2 => by
    have h : ∀ J, l21 J m [1, 0, 1, 0] [] (M1 + 1) ⟨tsOf [(0, (.dat 23 (.lst x0))), (1, (.fn 47 [])), (7, (.dat 3 (.int x1))), (8, (.dat 3 (.int x2)))], [], 0⟩ =
    (bif (decide (x2 < x1)) then
      (J 0 3 0 ⟨tsOf [(0, (.dat 23 (.lst x0))), (1, (.fn 47 [])), (7, (.dat 3 (.int x1))), (8, (.dat 3 (.int x2)))], [], 0⟩ (e21 J m [1, 0, 1, 0, 0, 1, 1] [M1] ⟨tsOf [(0, (.dat 23 (.lst x0))), (1, (.fn 47 [])), (7, (.dat 3 (.int x1))), (8, (.dat 3 (.int x2)))], [], 0⟩))
    else
      (J 0 7 0 ⟨tsOf [], [], 0⟩ (e21 J m [1, 1] [] ⟨tsOf [], [], 0⟩))) := fun J => by kernel_rfl
    refine (h jn).trans ?_
    simp only [jn_eq, slices_IndexFunc_i21_j2_eq m M1 (slices_IndexFunc_i21_l1 m M1) (fun x0 x1 x2 => slices_IndexFunc_i21_l1_eq m M1 x0 x1 x2), slices_IndexFunc_i21_j4_eq m]
    rfl
theorem slices_IndexFunc_i21_j0_eq (m : Nat) (x0 : List Dt) (x1 : Int) (x2 : Int) : e21 jn m [1, 0, 1] [] ⟨tsOf [(0, (.dat 23 (.lst x0))), (1, (.fn 47 [])), (7, (.dat 3 (.int x1))), (8, (.dat 3 (.int x2)))], [], 0⟩ = slices_IndexFunc_i21_j0 m x0 x1 x2 := by
  have h : ∀ J, e21 J m [1, 0, 1] [] ⟨tsOf [(0, (.dat 23 (.lst x0))), (1, (.fn 47 [])), (7, (.dat 3 (.int x1))), (8, (.dat 3 (.int x2)))], [], 0⟩ =
    (J 1 2 (Nat.succ m) ⟨tsOf [(0, (.dat 23 (.lst x0))), (1, (.fn 47 [])), (7, (.dat 3 (.int x1))), (8, (.dat 3 (.int x2)))], [], 0⟩ (l21 J m [1, 0, 1, 0] [] (Nat.succ m) ⟨tsOf [(0, (.dat 23 (.lst x0))), (1, (.fn 47 [])), (7, (.dat 3 (.int x1))), (8, (.dat 3 (.int x2)))], [], 0⟩)) := fun J => by kernel_rfl
  exact (h jn).trans (by
    simp only [jn_eq, slices_IndexFunc_i21_l1_eq m]
    rfl)
theorem slices_IndexFunc_i21_eq (m : Nat) (a0 : List Dt) : e21 jn m [] [] ⟨[(.dat 23 (.lst a0)), (.fn 47 [])], [], 0⟩ = slices_IndexFunc_i21 (m + 1) a0 := by
  have h : ∀ J, e21 J m [] [] ⟨[(.dat 23 (.lst a0)), (.fn 47 [])], [], 0⟩ =
    (J 0 2 0 ⟨tsOf [(0, (.dat 23 (.lst a0))), (1, (.fn 47 [])), (7, (.dat 3 (.int (((List.length a0) : Nat) : Int)))), (8, (.dat 3 (.int (0 : Int))))], [], 0⟩ (e21 J m [1, 0, 1] [] ⟨tsOf [(0, (.dat 23 (.lst a0))), (1, (.fn 47 [])), (7, (.dat 3 (.int (((List.length a0) : Nat) : Int)))), (8, (.dat 3 (.int (0 : Int))))], [], 0⟩)) := fun J => by kernel_rfl
  refine (h jn).trans ?_
  simp only [jn_eq, slices_IndexFunc_i21_j0_eq m]
  rfl
noncomputable def d20 (q : Res) : Option (Bool) := match q with
  | (.dat T0 x0, []) => bif Nat.beq T0 4 then some x0.toBool else none
  | _ => none
theorem d20_sim {b : Res} {r : Bool} (h : d20 b = some r) : Sim Tryd.prog b ((.dat 4 (.bool r)), []) := by
  unfold d20 at h
  split at h
  · obtain ⟨hc, h2⟩ := bif_some h
    cases h2
    have e0 := beq_eq hc
    subst e0
    exact Sim.of (.of (.dat (.bool Tryd.underlying4)) rfl rfl) .nil
  · cases h
noncomputable def e20 (J : Nat → Nat → Nat → St → Option (Bool) → Option (Bool)) (m : Nat) (p ms : List Nat) (σ : St) := evAt Tryd.prog env (ct m) J (m + 1) 46 9 Tryd.f46 d20 p ms σ
noncomputable def l20 (J : Nat → Nat → Nat → St → Option (Bool) → Option (Bool)) (m : Nat) (p ms : List Nat) (M : Nat) (σ : St) := loopAt Tryd.prog env (ct m) J (m + 1) 46 9 Tryd.f46 d20 p ms M σ
theorem slices_ContainsFunc_i20_eq (m : Nat) (a0 : List Dt) : e20 jn m [] [] ⟨[(.dat 23 (.lst a0)), (.fn 47 [])], [], 0⟩ = slices_ContainsFunc_i20 (m + 1) a0 := by
  have h : ∀ J, e20 J m [] [] ⟨[(.dat 23 (.lst a0)), (.fn 47 [])], [], 0⟩ =
    ((slices_IndexFunc_i21 m a0).bind fun r0 =>
      some (decide ((0 : Int) ≤ r0))) := fun J => by kernel_rfl
  refine (h jn).trans ?_
  
  rfl
noncomputable def d9 (q : Res) : Option (Bool) := match q with
  | (.dat T0 x0, []) => bif Nat.beq T0 4 then some x0.toBool else none
  | _ => none
theorem d9_sim {b : Res} {r : Bool} (h : d9 b = some r) : Sim Tryd.prog b ((.dat 4 (.bool r)), []) := by
  unfold d9 at h
  split at h
  · obtain ⟨hc, h2⟩ := bif_some h
    cases h2
    have e0 := beq_eq hc
    subst e0
    exact Sim.of (.of (.dat (.bool Tryd.underlying4)) rfl rfl) .nil
  · cases h
noncomputable def e9 (J : Nat → Nat → Nat → St → Option (Bool) → Option (Bool)) (m : Nat) (p ms : List Nat) (σ : St) := evAt Tryd.prog env (ct m) J (m + 1) 17 16 Tryd.f17 d9 p ms σ
noncomputable def l9 (J : Nat → Nat → Nat → St → Option (Bool) → Option (Bool)) (m : Nat) (p ms : List Nat) (M : Nat) (σ : St) := loopAt Tryd.prog env (ct m) J (m + 1) 17 16 Tryd.f17 d9 p ms M σ
theorem path_Valid_eq (m : Nat) (a0 : List Dt) : e9 jn m [] [] ⟨[(.dat 23 (.lst a0))], [], 0⟩ = path_Valid (m + 1) a0 := by
  have h : ∀ J, e9 J m [] [] ⟨[(.dat 23 (.lst a0))], [], 0⟩ =
    (bif (decide ((1 : Int) ≤ (((List.length a0) : Nat) : Int))) then
      (bif (decide ((((List.length a0) : Nat) : Int) ≤ (16 : Int))) then
        ((slices_ContainsFunc_i20 m a0).bind fun r0 =>
          some (Bool.not r0))
      else
        some Bool.false)
    else
      some Bool.false) := fun J => by kernel_rfl
  refine (h jn).trans ?_
  
  rfl
noncomputable def d5 (q : Res) : Option (List Dt × Int) := match q with
  | (.tup [.dat T0 x0, .dat T1 x1], []) => bif (Nat.beq T0 23 && Nat.beq T1 24) then some (x0.toLst, x1.toInt) else none
  | _ => none
theorem d5_sim {b : Res} {r : List Dt × Int} (h : d5 b = some r) : Sim Tryd.prog b ((.tup [(.dat 23 (.lst r.1)), (.dat 24 (.int r.2))]), []) := by
  unfold d5 at h
  split at h
  · obtain ⟨hc, h2⟩ := bif_some h
    cases h2
    have e0 := beq_eq (and_l hc)
    have e1 := beq_eq (and_r hc)
    subst e0 e1
    exact Sim.of (.tup (.cons (.dat (.lst Tryd.underlying23)) (.cons (.dat (.int Tryd.underlying24)) .nil))) .nil
  · cases h
noncomputable def e5 (J : Nat → Nat → Nat → St → Option (List Dt × Int) → Option (List Dt × Int)) (m : Nat) (p ms : List Nat) (σ : St) := evAt Tryd.prog env (ct m) J (m + 1) 13 11 Tryd.f13 d5 p ms σ
noncomputable def l5 (J : Nat → Nat → Nat → St → Option (List Dt × Int) → Option (List Dt × Int)) (m : Nat) (p ms : List Nat) (M : Nat) (σ : St) := loopAt Tryd.prog env (ct m) J (m + 1) 13 11 Tryd.f13 d5 p ms M σ
theorem path_Parse_j0_eq (m : Nat) (x0 : List Dt) : e5 jn m [1, 1, 1] [] ⟨tsOf [(4, (.dat 23 (.lst x0)))], [], 0⟩ = path_Parse_j0 m x0 := by
  have h : ∀ J, e5 J m [1, 1, 1] [] ⟨tsOf [(4, (.dat 23 (.lst x0)))], [], 0⟩ =
    some (x0, (0 : Int)) := fun J => by kernel_rfl
  exact (h jn).trans (rfl)
theorem path_Parse_eq (m : Nat) (a0 : ByteArray) : e5 jn m [] [] ⟨[(.dat 9 (.str a0))], [], 0⟩ = path_Parse (m + 1) a0 := by
  have h : ∀ J, e5 J m [] [] ⟨[(.dat 9 (.str a0))], [], 0⟩ =
    ((strings_Split a0 (Dt.toStr (Dt.str (ByteArray.mk (List.toArray [(46 : UInt8)]))))).bind fun r0 =>
      ((path_Valid m r0).bind fun r1 =>
        (bif (Bool.not r1) then
          some ([], (10 : Int))
        else
          (J 0 4 0 ⟨tsOf [(4, (.dat 23 (.lst r0)))], [], 0⟩ (e5 J m [1, 1, 1] [] ⟨tsOf [(4, (.dat 23 (.lst r0)))], [], 0⟩))))) := fun J => by kernel_rfl
  refine (h jn).trans ?_
  simp only [jn_eq, path_Parse_j0_eq m]
  rfl
noncomputable def d23 (q : Res) : Option (Bool) := match q with
  | (.dat T0 x0, []) => bif Nat.beq T0 4 then some x0.toBool else none
  | _ => none
theorem d23_sim {b : Res} {r : Bool} (h : d23 b = some r) : Sim Tryd.prog b ((.dat 4 (.bool r)), []) := by
  unfold d23 at h
  split at h
  · obtain ⟨hc, h2⟩ := bif_some h
    cases h2
    have e0 := beq_eq hc
    subst e0
    exact Sim.of (.of (.dat (.bool Tryd.underlying4)) rfl rfl) .nil
  · cases h
noncomputable def e23 (J : Nat → Nat → Nat → St → Option (Bool) → Option (Bool)) (m : Nat) (p ms : List Nat) (σ : St) := evAt Tryd.prog env (ct m) J (m + 1) 48 39 Tryd.f48 d23 p ms σ
noncomputable def l23 (J : Nat → Nat → Nat → St → Option (Bool) → Option (Bool)) (m : Nat) (p ms : List Nat) (M : Nat) (σ : St) := loopAt Tryd.prog env (ct m) J (m + 1) 48 39 Tryd.f48 d23 p ms M σ
theorem ref01_Name_j4_eq (m : Nat) (M2 : Nat) (rec2 : ByteArray → Int → Option (Bool)) (h2 : ∀ (x0 : ByteArray) (x1 : Int), l23 jn m [1, 1, 0, 1, 0] [] M2 ⟨tsOf [(0, (.dat 9 (.str x0))), (3, (.dat 3 (.int x1)))], [], 0⟩ = rec2 x0 x1) (x0 : ByteArray) (x1 : Int) : e23 jn m [1, 1, 0, 1, 0, 0, 1, 1] [M2] ⟨tsOf [(0, (.dat 9 (.str x0))), (3, (.dat 3 (.int x1)))], [], 0⟩ = ref01_Name_j4 m rec2 x0 x1 := by
  have h : ∀ J, e23 J m [1, 1, 0, 1, 0, 0, 1, 1] [M2] ⟨tsOf [(0, (.dat 9 (.str x0))), (3, (.dat 3 (.int x1)))], [], 0⟩ =
    (J 1 4 M2 ⟨tsOf [(0, (.dat 9 (.str x0))), (3, (.dat 3 (.int (IntKind.wrap IntKind.i64 (x1 + (1 : Int))))))], [], 0⟩ (l23 J m [1, 1, 0, 1, 0] [] M2 ⟨tsOf [(0, (.dat 9 (.str x0))), (3, (.dat 3 (.int (IntKind.wrap IntKind.i64 (x1 + (1 : Int))))))], [], 0⟩)) := fun J => by kernel_rfl
  exact (h jn).trans (by
    simp only [jn_eq, h2]
    rfl)
theorem ref01_Name_j3_eq (m : Nat) (M2 : Nat) (rec2 : ByteArray → Int → Option (Bool)) (h2 : ∀ (x0 : ByteArray) (x1 : Int), l23 jn m [1, 1, 0, 1, 0] [] M2 ⟨tsOf [(0, (.dat 9 (.str x0))), (3, (.dat 3 (.int x1)))], [], 0⟩ = rec2 x0 x1) (x0 : ByteArray) (x1 : Int) : e23 jn m [1, 1, 0, 1, 0, 0, 1] [M2] ⟨tsOf [(0, (.dat 9 (.str x0))), (3, (.dat 3 (.int x1)))], [], 0⟩ = ref01_Name_j3 m rec2 x0 x1 := by
  have h : ∀ J, e23 J m [1, 1, 0, 1, 0, 0, 1] [M2] ⟨tsOf [(0, (.dat 9 (.str x0))), (3, (.dat 3 (.int x1)))], [], 0⟩ =
    ((idxS x0 x1).bind fun v1 =>
      (bif (decide (v1 < (33 : Int))) then
        some Bool.false
      else
        ((idxS x0 x1).bind fun v2 =>
          (bif (decide ((126 : Int) < v2)) then
            some Bool.false
          else
            ((idxS x0 x1).bind fun v3 =>
              (bif (v3 == (46 : Int)) then
                some Bool.false
              else
                (J 0 5 0 ⟨tsOf [(0, (.dat 9 (.str x0))), (3, (.dat 3 (.int x1)))], [], 0⟩ (e23 J m [1, 1, 0, 1, 0, 0, 1, 1] [M2] ⟨tsOf [(0, (.dat 9 (.str x0))), (3, (.dat 3 (.int x1)))], [], 0⟩)))))))) := fun J => by kernel_rfl
  exact (h jn).trans (by
    simp only [jn_eq, ref01_Name_j4_eq m M2 rec2 h2]
    rfl)
theorem ref01_Name_j5_eq (m : Nat) : e23 jn m [1, 1, 1] [] ⟨tsOf [], [], 0⟩ = ref01_Name_j5 m := by
  have h : ∀ J, e23 J m [1, 1, 1] [] ⟨tsOf [], [], 0⟩ =
    some Bool.true := fun J => by kernel_rfl
  exact (h jn).trans (rfl)
theorem ref01_Name_l2_eq (m : Nat) : ∀ (M2 : Nat) (x0 : ByteArray) (x1 : Int), l23 jn m [1, 1, 0, 1, 0] [] M2 ⟨tsOf [(0, (.dat 9 (.str x0))), (3, (.dat 3 (.int x1)))], [], 0⟩ = ref01_Name_l2 m M2 x0 x1
  | 0, _, _ => rfl
  | M2 + 1, x0, x1 => by
    have h : ∀ J, l23 J m [1, 1, 0, 1, 0] [] (M2 + 1) ⟨tsOf [(0, (.dat 9 (.str x0))), (3, (.dat 3 (.int x1)))], [], 0⟩ =
    (bif (decide (x1 < (((ByteArray.size x0) : Nat) : Int))) then
      (J 0 6 0 ⟨tsOf [(0, (.dat 9 (.str x0))), (3, (.dat 3 (.int x1)))], [], 0⟩ (e23 J m [1, 1, 0, 1, 0, 0, 1] [M2] ⟨tsOf [(0, (.dat 9 (.str x0))), (3, (.dat 3 (.int x1)))], [], 0⟩))
    else
      (J 0 8 0 ⟨tsOf [], [], 0⟩ (e23 J m [1, 1, 1] [] ⟨tsOf [], [], 0⟩))) := fun J => by kernel_rfl
    refine (h jn).trans ?_
    simp only [jn_eq, ref01_Name_j3_eq m M2 (ref01_Name_l2 m M2) (fun x0 x1 => ref01_Name_l2_eq m M2 x0 x1), ref01_Name_j5_eq m]
    rfl
theorem ref01_Name_j1_eq (m : Nat) (x0 : ByteArray) (x1 : Int) : e23 jn m [1, 1, 0, 1] [] ⟨tsOf [(0, (.dat 9 (.str x0))), (3, (.dat 3 (.int x1)))], [], 0⟩ = ref01_Name_j1 m x0 x1 := by
  have h : ∀ J, e23 J m [1, 1, 0, 1] [] ⟨tsOf [(0, (.dat 9 (.str x0))), (3, (.dat 3 (.int x1)))], [], 0⟩ =
    (J 1 4 (Nat.succ m) ⟨tsOf [(0, (.dat 9 (.str x0))), (3, (.dat 3 (.int x1)))], [], 0⟩ (l23 J m [1, 1, 0, 1, 0] [] (Nat.succ m) ⟨tsOf [(0, (.dat 9 (.str x0))), (3, (.dat 3 (.int x1)))], [], 0⟩)) := fun J => by kernel_rfl
  exact (h jn).trans (by
    simp only [jn_eq, ref01_Name_l2_eq m]
    rfl)
theorem ref01_Name_j0_eq (m : Nat) (x0 : ByteArray) : e23 jn m [1, 1] [] ⟨tsOf [(0, (.dat 9 (.str x0)))], [], 0⟩ = ref01_Name_j0 m x0 := by
  have h : ∀ J, e23 J m [1, 1] [] ⟨tsOf [(0, (.dat 9 (.str x0)))], [], 0⟩ =
    (J 0 4 0 ⟨tsOf [(0, (.dat 9 (.str x0))), (3, (.dat 3 (.int (0 : Int))))], [], 0⟩ (e23 J m [1, 1, 0, 1] [] ⟨tsOf [(0, (.dat 9 (.str x0))), (3, (.dat 3 (.int (0 : Int))))], [], 0⟩)) := fun J => by kernel_rfl
  exact (h jn).trans (by
    simp only [jn_eq, ref01_Name_j1_eq m]
    rfl)
theorem ref01_Name_eq (m : Nat) (a0 : ByteArray) : e23 jn m [] [] ⟨[(.dat 9 (.str a0))], [], 0⟩ = ref01_Name (m + 1) a0 := by
  have h : ∀ J, e23 J m [] [] ⟨[(.dat 9 (.str a0))], [], 0⟩ =
    (bif (decide ((((ByteArray.size a0) : Nat) : Int) < (1 : Int))) then
      some Bool.false
    else
      (bif (decide ((32 : Int) < (((ByteArray.size a0) : Nat) : Int))) then
        some Bool.false
      else
        ((idxS a0 (0 : Int)).bind fun v0 =>
          (bif (v0 == (36 : Int)) then
            some Bool.false
          else
            (J 0 3 0 ⟨tsOf [(0, (.dat 9 (.str a0)))], [], 0⟩ (e23 J m [1, 1] [] ⟨tsOf [(0, (.dat 9 (.str a0)))], [], 0⟩)))))) := fun J => by kernel_rfl
  refine (h jn).trans ?_
  simp only [jn_eq, ref01_Name_j0_eq m]
  rfl
noncomputable def d10 (q : Res) : Option (Bool) := match q with
  | (.dat T0 x0, []) => bif Nat.beq T0 4 then some x0.toBool else none
  | _ => none
theorem d10_sim {b : Res} {r : Bool} (h : d10 b = some r) : Sim Tryd.prog b ((.dat 4 (.bool r)), []) := by
  unfold d10 at h
  split at h
  · obtain ⟨hc, h2⟩ := bif_some h
    cases h2
    have e0 := beq_eq hc
    subst e0
    exact Sim.of (.of (.dat (.bool Tryd.underlying4)) rfl rfl) .nil
  · cases h
noncomputable def e10 (J : Nat → Nat → Nat → St → Option (Bool) → Option (Bool)) (m : Nat) (p ms : List Nat) (σ : St) := evAt Tryd.prog env (ct m) J (m + 1) 18 24 Tryd.f18 d10 p ms σ
noncomputable def l10 (J : Nat → Nat → Nat → St → Option (Bool) → Option (Bool)) (m : Nat) (p ms : List Nat) (M : Nat) (σ : St) := loopAt Tryd.prog env (ct m) J (m + 1) 18 24 Tryd.f18 d10 p ms M σ
theorem ref04_Valid_j4_eq (m : Nat) (M2 : Nat) (rec2 : List Dt → Int → Option (Bool)) (h2 : ∀ (x0 : List Dt) (x1 : Int), l10 jn m [1, 1, 0, 1, 0] [] M2 ⟨tsOf [(0, (.dat 23 (.lst x0))), (3, (.dat 3 (.int x1)))], [], 0⟩ = rec2 x0 x1) (x0 : List Dt) (x1 : Int) : e10 jn m [1, 1, 0, 1, 0, 0, 1, 1] [M2] ⟨tsOf [(0, (.dat 23 (.lst x0))), (3, (.dat 3 (.int x1)))], [], 0⟩ = ref04_Valid_j4 m rec2 x0 x1 := by
  have h : ∀ J, e10 J m [1, 1, 0, 1, 0, 0, 1, 1] [M2] ⟨tsOf [(0, (.dat 23 (.lst x0))), (3, (.dat 3 (.int x1)))], [], 0⟩ =
    (J 1 4 M2 ⟨tsOf [(0, (.dat 23 (.lst x0))), (3, (.dat 3 (.int (IntKind.wrap IntKind.i64 (x1 + (1 : Int))))))], [], 0⟩ (l10 J m [1, 1, 0, 1, 0] [] M2 ⟨tsOf [(0, (.dat 23 (.lst x0))), (3, (.dat 3 (.int (IntKind.wrap IntKind.i64 (x1 + (1 : Int))))))], [], 0⟩)) := fun J => by kernel_rfl
  exact (h jn).trans (by
    simp only [jn_eq, h2]
    rfl)
theorem ref04_Valid_j3_eq (m : Nat) (M2 : Nat) (rec2 : List Dt → Int → Option (Bool)) (h2 : ∀ (x0 : List Dt) (x1 : Int), l10 jn m [1, 1, 0, 1, 0] [] M2 ⟨tsOf [(0, (.dat 23 (.lst x0))), (3, (.dat 3 (.int x1)))], [], 0⟩ = rec2 x0 x1) (x0 : List Dt) (x1 : Int) : e10 jn m [1, 1, 0, 1, 0, 0, 1] [M2] ⟨tsOf [(0, (.dat 23 (.lst x0))), (3, (.dat 3 (.int x1)))], [], 0⟩ = ref04_Valid_j3 m rec2 x0 x1 := by
  have h : ∀ J, e10 J m [1, 1, 0, 1, 0, 0, 1] [M2] ⟨tsOf [(0, (.dat 23 (.lst x0))), (3, (.dat 3 (.int x1)))], [], 0⟩ =
    ((idx x0 x1).bind fun v0 =>
      ((ref01_Name m (Dt.toStr v0)).bind fun r1 =>
        (bif (Bool.not r1) then
          some Bool.false
        else
          (J 0 5 0 ⟨tsOf [(0, (.dat 23 (.lst x0))), (3, (.dat 3 (.int x1)))], [], 0⟩ (e10 J m [1, 1, 0, 1, 0, 0, 1, 1] [M2] ⟨tsOf [(0, (.dat 23 (.lst x0))), (3, (.dat 3 (.int x1)))], [], 0⟩))))) := fun J => by kernel_rfl
  exact (h jn).trans (by
    simp only [jn_eq, ref04_Valid_j4_eq m M2 rec2 h2]
    rfl)
theorem ref04_Valid_j5_eq (m : Nat) : e10 jn m [1, 1, 1] [] ⟨tsOf [], [], 0⟩ = ref04_Valid_j5 m := by
  have h : ∀ J, e10 J m [1, 1, 1] [] ⟨tsOf [], [], 0⟩ =
    some Bool.true := fun J => by kernel_rfl
  exact (h jn).trans (rfl)
theorem ref04_Valid_l2_eq (m : Nat) : ∀ (M2 : Nat) (x0 : List Dt) (x1 : Int), l10 jn m [1, 1, 0, 1, 0] [] M2 ⟨tsOf [(0, (.dat 23 (.lst x0))), (3, (.dat 3 (.int x1)))], [], 0⟩ = ref04_Valid_l2 m M2 x0 x1
  | 0, _, _ => rfl
  | M2 + 1, x0, x1 => by
    have h : ∀ J, l10 J m [1, 1, 0, 1, 0] [] (M2 + 1) ⟨tsOf [(0, (.dat 23 (.lst x0))), (3, (.dat 3 (.int x1)))], [], 0⟩ =
    (bif (decide (x1 < (((List.length x0) : Nat) : Int))) then
      (J 0 6 0 ⟨tsOf [(0, (.dat 23 (.lst x0))), (3, (.dat 3 (.int x1)))], [], 0⟩ (e10 J m [1, 1, 0, 1, 0, 0, 1] [M2] ⟨tsOf [(0, (.dat 23 (.lst x0))), (3, (.dat 3 (.int x1)))], [], 0⟩))
    else
      (J 0 8 0 ⟨tsOf [], [], 0⟩ (e10 J m [1, 1, 1] [] ⟨tsOf [], [], 0⟩))) := fun J => by kernel_rfl
    refine (h jn).trans ?_
    simp only [jn_eq, ref04_Valid_j3_eq m M2 (ref04_Valid_l2 m M2) (fun x0 x1 => ref04_Valid_l2_eq m M2 x0 x1), ref04_Valid_j5_eq m]
    rfl
theorem ref04_Valid_j1_eq (m : Nat) (x0 : List Dt) (x1 : Int) : e10 jn m [1, 1, 0, 1] [] ⟨tsOf [(0, (.dat 23 (.lst x0))), (3, (.dat 3 (.int x1)))], [], 0⟩ = ref04_Valid_j1 m x0 x1 := by
  have h : ∀ J, e10 J m [1, 1, 0, 1] [] ⟨tsOf [(0, (.dat 23 (.lst x0))), (3, (.dat 3 (.int x1)))], [], 0⟩ =
    (J 1 4 (Nat.succ m) ⟨tsOf [(0, (.dat 23 (.lst x0))), (3, (.dat 3 (.int x1)))], [], 0⟩ (l10 J m [1, 1, 0, 1, 0] [] (Nat.succ m) ⟨tsOf [(0, (.dat 23 (.lst x0))), (3, (.dat 3 (.int x1)))], [], 0⟩)) := fun J => by kernel_rfl
  exact (h jn).trans (by
    simp only [jn_eq, ref04_Valid_l2_eq m]
    rfl)
theorem ref04_Valid_j0_eq (m : Nat) (x0 : List Dt) : e10 jn m [1, 1] [] ⟨tsOf [(0, (.dat 23 (.lst x0)))], [], 0⟩ = ref04_Valid_j0 m x0 := by
  have h : ∀ J, e10 J m [1, 1] [] ⟨tsOf [(0, (.dat 23 (.lst x0)))], [], 0⟩ =
    (J 0 4 0 ⟨tsOf [(0, (.dat 23 (.lst x0))), (3, (.dat 3 (.int (0 : Int))))], [], 0⟩ (e10 J m [1, 1, 0, 1] [] ⟨tsOf [(0, (.dat 23 (.lst x0))), (3, (.dat 3 (.int (0 : Int))))], [], 0⟩)) := fun J => by kernel_rfl
  exact (h jn).trans (by
    simp only [jn_eq, ref04_Valid_j1_eq m]
    rfl)
theorem ref04_Valid_eq (m : Nat) (a0 : List Dt) : e10 jn m [] [] ⟨[(.dat 23 (.lst a0))], [], 0⟩ = ref04_Valid (m + 1) a0 := by
  have h : ∀ J, e10 J m [] [] ⟨[(.dat 23 (.lst a0))], [], 0⟩ =
    (bif (decide ((((List.length a0) : Nat) : Int) < (1 : Int))) then
      some Bool.false
    else
      (bif (decide ((16 : Int) < (((List.length a0) : Nat) : Int))) then
        some Bool.false
      else
        (J 0 3 0 ⟨tsOf [(0, (.dat 23 (.lst a0)))], [], 0⟩ (e10 J m [1, 1] [] ⟨tsOf [(0, (.dat 23 (.lst a0)))], [], 0⟩)))) := fun J => by kernel_rfl
  refine (h jn).trans ?_
  simp only [jn_eq, ref04_Valid_j0_eq m]
  rfl
noncomputable def d1 (q : Res) : Option (Bool) := match q with
  | (.dat T0 x0, []) => bif Nat.beq T0 4 then some x0.toBool else none
  | _ => none
theorem d1_sim {b : Res} {r : Bool} (h : d1 b = some r) : Sim Tryd.prog b ((.dat 4 (.bool r)), []) := by
  unfold d1 at h
  split at h
  · obtain ⟨hc, h2⟩ := bif_some h
    cases h2
    have e0 := beq_eq hc
    subst e0
    exact Sim.of (.of (.dat (.bool Tryd.underlying4)) rfl rfl) .nil
  · cases h
noncomputable def e1 (J : Nat → Nat → Nat → St → Option (Bool) → Option (Bool)) (m : Nat) (p ms : List Nat) (σ : St) := evAt Tryd.prog env (ct m) J (m + 1) 4 52 Tryd.f4 d1 p ms σ
noncomputable def l1 (J : Nat → Nat → Nat → St → Option (Bool) → Option (Bool)) (m : Nat) (p ms : List Nat) (M : Nat) (σ : St) := loopAt Tryd.prog env (ct m) J (m + 1) 4 52 Tryd.f4 d1 p ms M σ
theorem law04_PathTexts_j4_eq (m : Nat) (M2 : Nat) (rec2 : List Dt → List Dt → Int → Int → Option (Bool)) (h2 : ∀ (x0 : List Dt) (x1 : List Dt) (x2 : Int) (x3 : Int), l1 jn m [1, 1, 0, 1, 0] [] M2 ⟨tsOf [(0, (.dat 23 (.lst x0))), (12, (.dat 23 (.lst x1))), (13, (.dat 3 (.int x2))), (14, (.dat 3 (.int x3)))], [], 0⟩ = rec2 x0 x1 x2 x3) (x0 : List Dt) (x1 : List Dt) (x2 : Int) (x3 : Int) : e1 jn m [1, 1, 0, 1, 0, 0, 1, 1, 1] [M2] ⟨tsOf [(0, (.dat 23 (.lst x0))), (12, (.dat 23 (.lst x1))), (13, (.dat 3 (.int x2))), (14, (.dat 3 (.int x3)))], [], 0⟩ = law04_PathTexts_j4 m rec2 x0 x1 x2 x3 := by
  have h : ∀ J, e1 J m [1, 1, 0, 1, 0, 0, 1, 1, 1] [M2] ⟨tsOf [(0, (.dat 23 (.lst x0))), (12, (.dat 23 (.lst x1))), (13, (.dat 3 (.int x2))), (14, (.dat 3 (.int x3)))], [], 0⟩ =
    (J 1 4 M2 ⟨tsOf [(0, (.dat 23 (.lst x0))), (12, (.dat 23 (.lst x1))), (13, (.dat 3 (.int x2))), (14, (.dat 3 (.int (IntKind.wrap IntKind.i64 (x3 + (1 : Int))))))], [], 0⟩ (l1 J m [1, 1, 0, 1, 0] [] M2 ⟨tsOf [(0, (.dat 23 (.lst x0))), (12, (.dat 23 (.lst x1))), (13, (.dat 3 (.int x2))), (14, (.dat 3 (.int (IntKind.wrap IntKind.i64 (x3 + (1 : Int))))))], [], 0⟩)) := fun J => by kernel_rfl
  exact (h jn).trans (by
    simp only [jn_eq, h2]
    rfl)
theorem law04_PathTexts_j3_eq (m : Nat) (M2 : Nat) (rec2 : List Dt → List Dt → Int → Int → Option (Bool)) (h2 : ∀ (x0 : List Dt) (x1 : List Dt) (x2 : Int) (x3 : Int), l1 jn m [1, 1, 0, 1, 0] [] M2 ⟨tsOf [(0, (.dat 23 (.lst x0))), (12, (.dat 23 (.lst x1))), (13, (.dat 3 (.int x2))), (14, (.dat 3 (.int x3)))], [], 0⟩ = rec2 x0 x1 x2 x3) (x0 : List Dt) (x1 : List Dt) (x2 : Int) (x3 : Int) : e1 jn m [1, 1, 0, 1, 0, 0, 1, 1] [M2] ⟨tsOf [(0, (.dat 23 (.lst x0))), (12, (.dat 23 (.lst x1))), (13, (.dat 3 (.int x2))), (14, (.dat 3 (.int x3)))], [], 0⟩ = law04_PathTexts_j3 m rec2 x0 x1 x2 x3 := by
  have h : ∀ J, e1 J m [1, 1, 0, 1, 0, 0, 1, 1] [M2] ⟨tsOf [(0, (.dat 23 (.lst x0))), (12, (.dat 23 (.lst x1))), (13, (.dat 3 (.int x2))), (14, (.dat 3 (.int x3)))], [], 0⟩ =
    ((idx x1 x3).bind fun v1 =>
      (bif (decide ((100 : Int) < (((ByteArray.size (Dt.toStr v1)) : Nat) : Int))) then
        ((awakeC).bind fun r2 =>
          some r2)
      else
        (J 0 8 0 ⟨tsOf [(0, (.dat 23 (.lst x0))), (12, (.dat 23 (.lst x1))), (13, (.dat 3 (.int x2))), (14, (.dat 3 (.int x3)))], [], 0⟩ (e1 J m [1, 1, 0, 1, 0, 0, 1, 1, 1] [M2] ⟨tsOf [(0, (.dat 23 (.lst x0))), (12, (.dat 23 (.lst x1))), (13, (.dat 3 (.int x2))), (14, (.dat 3 (.int x3)))], [], 0⟩)))) := fun J => by kernel_rfl
  exact (h jn).trans (by
    simp only [jn_eq, law04_PathTexts_j4_eq m M2 rec2 h2]
    rfl)
theorem law04_PathTexts_j7_eq (m : Nat) : e1 jn m [1, 1, 1, 1, 1, 1] [] ⟨tsOf [], [], 0⟩ = law04_PathTexts_j7 m := by
  have h : ∀ J, e1 J m [1, 1, 1, 1, 1, 1] [] ⟨tsOf [], [], 0⟩ =
    ((awakeC).bind fun r10 =>
      some r10) := fun J => by kernel_rfl
  exact (h jn).trans (rfl)
theorem law04_PathTexts_j6_eq (m : Nat) (x0 : List Dt) (x1 : Bool) : e1 jn m [1, 1, 1, 1, 1] [] ⟨tsOf [(0, (.dat 23 (.lst x0))), (5, (.dat 4 (.bool x1)))], [], 0⟩ = law04_PathTexts_j6 m x0 x1 := by
  have h : ∀ J, e1 J m [1, 1, 1, 1, 1] [] ⟨tsOf [(0, (.dat 23 (.lst x0))), (5, (.dat 4 (.bool x1)))], [], 0⟩ =
    (bif x1 then
      ((path_Text m x0).bind fun r7 =>
        ((path_Parse m r7).bind fun r8 =>
          (bif ((Prod.snd r8) != (0 : Int)) then
            some Bool.false
          else
            ((ref04_Same m x0 (Prod.fst r8)).bind fun r9 =>
              (bif (Bool.not r9) then
                some Bool.false
              else
                (J 0 16 0 ⟨tsOf [], [], 0⟩ (e1 J m [1, 1, 1, 1, 1, 1] [] ⟨tsOf [], [], 0⟩)))))))
    else
      (J 0 16 0 ⟨tsOf [], [], 0⟩ (e1 J m [1, 1, 1, 1, 1, 1] [] ⟨tsOf [], [], 0⟩))) := fun J => by kernel_rfl
  exact (h jn).trans (by
    simp only [jn_eq, law04_PathTexts_j7_eq m]
    rfl)
theorem law04_PathTexts_j5_eq (m : Nat) (x0 : List Dt) : e1 jn m [1, 1, 1] [] ⟨tsOf [(0, (.dat 23 (.lst x0)))], [], 0⟩ = law04_PathTexts_j5 m x0 := by
  have h : ∀ J, e1 J m [1, 1, 1] [] ⟨tsOf [(0, (.dat 23 (.lst x0)))], [], 0⟩ =
    ((ref04_Valid m x0).bind fun r3 =>
      ((path_Text m x0).bind fun r4 =>
        ((ref04_Text m x0).bind fun r5 =>
          (bif (Bool.not ((ByteArray.toList r4) == (ByteArray.toList r5))) then
            some Bool.false
          else
            ((path_Valid m x0).bind fun r6 =>
              (bif (Bool.not (r6 == r3)) then
                some Bool.false
              else
                (J 0 12 0 ⟨tsOf [(0, (.dat 23 (.lst x0))), (5, (.dat 4 (.bool r3)))], [], 0⟩ (e1 J m [1, 1, 1, 1, 1] [] ⟨tsOf [(0, (.dat 23 (.lst x0))), (5, (.dat 4 (.bool r3)))], [], 0⟩)))))))) := fun J => by kernel_rfl
  exact (h jn).trans (by
    simp only [jn_eq, law04_PathTexts_j6_eq m]
    rfl)
theorem law04_PathTexts_l2_eq (m : Nat) : ∀ (M2 : Nat) (x0 : List Dt) (x1 : List Dt) (x2 : Int) (x3 : Int), l1 jn m [1, 1, 0, 1, 0] [] M2 ⟨tsOf [(0, (.dat 23 (.lst x0))), (12, (.dat 23 (.lst x1))), (13, (.dat 3 (.int x2))), (14, (.dat 3 (.int x3)))], [], 0⟩ = law04_PathTexts_l2 m M2 x0 x1 x2 x3
  | 0, _, _, _, _ => rfl
  | M2 + 1, x0, x1, x2, x3 => by
    have h : ∀ J, l1 J m [1, 1, 0, 1, 0] [] (M2 + 1) ⟨tsOf [(0, (.dat 23 (.lst x0))), (12, (.dat 23 (.lst x1))), (13, (.dat 3 (.int x2))), (14, (.dat 3 (.int x3)))], [], 0⟩ =
    (bif (decide (x3 < x2)) then
      (J 0 5 0 ⟨tsOf [(0, (.dat 23 (.lst x0))), (12, (.dat 23 (.lst x1))), (13, (.dat 3 (.int x2))), (14, (.dat 3 (.int x3)))], [], 0⟩ (e1 J m [1, 1, 0, 1, 0, 0, 1, 1] [M2] ⟨tsOf [(0, (.dat 23 (.lst x0))), (12, (.dat 23 (.lst x1))), (13, (.dat 3 (.int x2))), (14, (.dat 3 (.int x3)))], [], 0⟩))
    else
      (J 0 9 0 ⟨tsOf [(0, (.dat 23 (.lst x0)))], [], 0⟩ (e1 J m [1, 1, 1] [] ⟨tsOf [(0, (.dat 23 (.lst x0)))], [], 0⟩))) := fun J => by kernel_rfl
    refine (h jn).trans ?_
    simp only [jn_eq, law04_PathTexts_j3_eq m M2 (law04_PathTexts_l2 m M2) (fun x0 x1 x2 x3 => law04_PathTexts_l2_eq m M2 x0 x1 x2 x3), law04_PathTexts_j5_eq m]
    rfl
theorem law04_PathTexts_j1_eq (m : Nat) (x0 : List Dt) (x1 : List Dt) (x2 : Int) (x3 : Int) : e1 jn m [1, 1, 0, 1] [] ⟨tsOf [(0, (.dat 23 (.lst x0))), (12, (.dat 23 (.lst x1))), (13, (.dat 3 (.int x2))), (14, (.dat 3 (.int x3)))], [], 0⟩ = law04_PathTexts_j1 m x0 x1 x2 x3 := by
  have h : ∀ J, e1 J m [1, 1, 0, 1] [] ⟨tsOf [(0, (.dat 23 (.lst x0))), (12, (.dat 23 (.lst x1))), (13, (.dat 3 (.int x2))), (14, (.dat 3 (.int x3)))], [], 0⟩ =
    (J 1 4 (Nat.succ m) ⟨tsOf [(0, (.dat 23 (.lst x0))), (12, (.dat 23 (.lst x1))), (13, (.dat 3 (.int x2))), (14, (.dat 3 (.int x3)))], [], 0⟩ (l1 J m [1, 1, 0, 1, 0] [] (Nat.succ m) ⟨tsOf [(0, (.dat 23 (.lst x0))), (12, (.dat 23 (.lst x1))), (13, (.dat 3 (.int x2))), (14, (.dat 3 (.int x3)))], [], 0⟩)) := fun J => by kernel_rfl
  exact (h jn).trans (by
    simp only [jn_eq, law04_PathTexts_l2_eq m]
    rfl)
theorem law04_PathTexts_j0_eq (m : Nat) (x0 : List Dt) : e1 jn m [1, 1] [] ⟨tsOf [(0, (.dat 23 (.lst x0)))], [], 0⟩ = law04_PathTexts_j0 m x0 := by
  have h : ∀ J, e1 J m [1, 1] [] ⟨tsOf [(0, (.dat 23 (.lst x0)))], [], 0⟩ =
    (J 0 4 0 ⟨tsOf [(0, (.dat 23 (.lst x0))), (12, (.dat 23 (.lst x0))), (13, (.dat 3 (.int (((List.length x0) : Nat) : Int)))), (14, (.dat 3 (.int (0 : Int))))], [], 0⟩ (e1 J m [1, 1, 0, 1] [] ⟨tsOf [(0, (.dat 23 (.lst x0))), (12, (.dat 23 (.lst x0))), (13, (.dat 3 (.int (((List.length x0) : Nat) : Int)))), (14, (.dat 3 (.int (0 : Int))))], [], 0⟩)) := fun J => by kernel_rfl
  exact (h jn).trans (by
    simp only [jn_eq, law04_PathTexts_j1_eq m]
    rfl)
theorem law04_PathTexts_eq (m : Nat) (a0 : List Dt) : e1 jn m [] [] ⟨[(.dat 23 (.lst a0))], [], 0⟩ = law04_PathTexts (m + 1) a0 := by
  have h : ∀ J, e1 J m [] [] ⟨[(.dat 23 (.lst a0))], [], 0⟩ =
    (bif (decide ((100 : Int) < (((List.length a0) : Nat) : Int))) then
      ((awakeC).bind fun r0 =>
        some r0)
    else
      (J 0 3 0 ⟨tsOf [(0, (.dat 23 (.lst a0)))], [], 0⟩ (e1 J m [1, 1] [] ⟨tsOf [(0, (.dat 23 (.lst a0)))], [], 0⟩))) := fun J => by kernel_rfl
  refine (h jn).trans ?_
  simp only [jn_eq, law04_PathTexts_j0_eq m]
  rfl
noncomputable def d6 (q : Res) : Option (List Dt × Int) := match q with
  | (.tup [.dat T0 x0, .dat T1 x1], []) => bif (Nat.beq T0 23 && Nat.beq T1 24) then some (x0.toLst, x1.toInt) else none
  | _ => none
theorem d6_sim {b : Res} {r : List Dt × Int} (h : d6 b = some r) : Sim Tryd.prog b ((.tup [(.dat 23 (.lst r.1)), (.dat 24 (.int r.2))]), []) := by
  unfold d6 at h
  split at h
  · obtain ⟨hc, h2⟩ := bif_some h
    cases h2
    have e0 := beq_eq (and_l hc)
    have e1 := beq_eq (and_r hc)
    subst e0 e1
    exact Sim.of (.tup (.cons (.dat (.lst Tryd.underlying23)) (.cons (.dat (.int Tryd.underlying24)) .nil))) .nil
  · cases h
noncomputable def e6 (J : Nat → Nat → Nat → St → Option (List Dt × Int) → Option (List Dt × Int)) (m : Nat) (p ms : List Nat) (σ : St) := evAt Tryd.prog env (ct m) J (m + 1) 14 11 Tryd.f14 d6 p ms σ
noncomputable def l6 (J : Nat → Nat → Nat → St → Option (List Dt × Int) → Option (List Dt × Int)) (m : Nat) (p ms : List Nat) (M : Nat) (σ : St) := loopAt Tryd.prog env (ct m) J (m + 1) 14 11 Tryd.f14 d6 p ms M σ
theorem ref04_Parse_j0_eq (m : Nat) (x0 : List Dt) : e6 jn m [1, 1, 1] [] ⟨tsOf [(4, (.dat 23 (.lst x0)))], [], 0⟩ = ref04_Parse_j0 m x0 := by
  have h : ∀ J, e6 J m [1, 1, 1] [] ⟨tsOf [(4, (.dat 23 (.lst x0)))], [], 0⟩ =
    some (x0, (0 : Int)) := fun J => by kernel_rfl
  exact (h jn).trans (rfl)
theorem ref04_Parse_eq (m : Nat) (a0 : ByteArray) : e6 jn m [] [] ⟨[(.dat 9 (.str a0))], [], 0⟩ = ref04_Parse (m + 1) a0 := by
  have h : ∀ J, e6 J m [] [] ⟨[(.dat 9 (.str a0))], [], 0⟩ =
    ((ref04_split m a0).bind fun r0 =>
      ((ref04_Valid m r0).bind fun r1 =>
        (bif (Bool.not r1) then
          some ([], (10 : Int))
        else
          (J 0 4 0 ⟨tsOf [(4, (.dat 23 (.lst r0)))], [], 0⟩ (e6 J m [1, 1, 1] [] ⟨tsOf [(4, (.dat 23 (.lst r0)))], [], 0⟩))))) := fun J => by kernel_rfl
  refine (h jn).trans ?_
  simp only [jn_eq, ref04_Parse_j0_eq m]
  rfl
noncomputable def d0 (q : Res) : Option (Bool) := match q with
  | (.dat T0 x0, []) => bif Nat.beq T0 4 then some x0.toBool else none
  | _ => none
theorem d0_sim {b : Res} {r : Bool} (h : d0 b = some r) : Sim Tryd.prog b ((.dat 4 (.bool r)), []) := by
  unfold d0 at h
  split at h
  · obtain ⟨hc, h2⟩ := bif_some h
    cases h2
    have e0 := beq_eq hc
    subst e0
    exact Sim.of (.of (.dat (.bool Tryd.underlying4)) rfl rfl) .nil
  · cases h
noncomputable def e0 (J : Nat → Nat → Nat → St → Option (Bool) → Option (Bool)) (m : Nat) (p ms : List Nat) (σ : St) := evAt Tryd.prog env (ct m) J (m + 1) 3 46 Tryd.f3 d0 p ms σ
noncomputable def l0 (J : Nat → Nat → Nat → St → Option (Bool) → Option (Bool)) (m : Nat) (p ms : List Nat) (M : Nat) (σ : St) := loopAt Tryd.prog env (ct m) J (m + 1) 3 46 Tryd.f3 d0 p ms M σ
theorem law04_PathParses_j1_eq (m : Nat) : e0 jn m [1, 1, 1, 1, 1] [] ⟨tsOf [], [], 0⟩ = law04_PathParses_j1 m := by
  have h : ∀ J, e0 J m [1, 1, 1, 1, 1] [] ⟨tsOf [], [], 0⟩ =
    ((awakeC).bind fun r6 =>
      some r6) := fun J => by kernel_rfl
  exact (h jn).trans (rfl)
theorem law04_PathParses_j0_eq (m : Nat) (x0 : ByteArray) : e0 jn m [1, 1] [] ⟨tsOf [(0, (.dat 9 (.str x0)))], [], 0⟩ = law04_PathParses_j0 m x0 := by
  have h : ∀ J, e0 J m [1, 1] [] ⟨tsOf [(0, (.dat 9 (.str x0)))], [], 0⟩ =
    ((path_Parse m x0).bind fun r1 =>
      ((ref04_Parse m x0).bind fun r2 =>
        (bif ((Prod.snd r1) != (Prod.snd r2)) then
          some Bool.false
        else
          ((ref04_Same m (Prod.fst r1) (Prod.fst r2)).bind fun r3 =>
            (bif (Bool.not r3) then
              some Bool.false
            else
              (bif ((Prod.snd r1) == (0 : Int)) then
                ((path_Text m (Prod.fst r1)).bind fun r4 =>
                  (bif (Bool.not ((ByteArray.toList r4) == (ByteArray.toList x0))) then
                    some Bool.false
                  else
                    ((path_Valid m (Prod.fst r1)).bind fun r5 =>
                      (bif (Bool.not r5) then
                        some Bool.false
                      else
                        (J 0 7 0 ⟨tsOf [], [], 0⟩ (e0 J m [1, 1, 1, 1, 1] [] ⟨tsOf [], [], 0⟩))))))
              else
                (J 0 7 0 ⟨tsOf [], [], 0⟩ (e0 J m [1, 1, 1, 1, 1] [] ⟨tsOf [], [], 0⟩)))))))) := fun J => by kernel_rfl
  exact (h jn).trans (by
    simp only [jn_eq, law04_PathParses_j1_eq m]
    rfl)
theorem law04_PathParses_eq (m : Nat) (a0 : ByteArray) : e0 jn m [] [] ⟨[(.dat 9 (.str a0))], [], 0⟩ = law04_PathParses (m + 1) a0 := by
  have h : ∀ J, e0 J m [] [] ⟨[(.dat 9 (.str a0))], [], 0⟩ =
    (bif (decide ((2000 : Int) < (((ByteArray.size a0) : Nat) : Int))) then
      ((awakeC).bind fun r0 =>
        some r0)
    else
      (J 0 3 0 ⟨tsOf [(0, (.dat 9 (.str a0)))], [], 0⟩ (e0 J m [1, 1] [] ⟨tsOf [(0, (.dat 9 (.str a0)))], [], 0⟩))) := fun J => by kernel_rfl
  refine (h jn).trans ?_
  simp only [jn_eq, law04_PathParses_j0_eq m]
  rfl
noncomputable def d24 (q : Res) : Option (Bool) := match q with
  | (.dat T0 x0, []) => bif Nat.beq T0 4 then some x0.toBool else none
  | _ => none
theorem d24_sim {b : Res} {r : Bool} (h : d24 b = some r) : Sim Tryd.prog b ((.dat 4 (.bool r)), []) := by
  unfold d24 at h
  split at h
  · obtain ⟨hc, h2⟩ := bif_some h
    cases h2
    have e0 := beq_eq hc
    subst e0
    exact Sim.of (.of (.dat (.bool Tryd.underlying4)) rfl rfl) .nil
  · cases h
noncomputable def e24 (J : Nat → Nat → Nat → St → Option (Bool) → Option (Bool)) (m : Nat) (p ms : List Nat) (σ : St) := evAt Tryd.prog env (ct m) J (m + 1) 63 26 Tryd.f63 d24 p ms σ
noncomputable def l24 (J : Nat → Nat → Nat → St → Option (Bool) → Option (Bool)) (m : Nat) (p ms : List Nat) (M : Nat) (σ : St) := loopAt Tryd.prog env (ct m) J (m + 1) 63 26 Tryd.f63 d24 p ms M σ
theorem slices_Equal_j4_eq (m : Nat) (M2 : Nat) (rec2 : List Dt → List Dt → Int → Int → Option (Bool)) (h2 : ∀ (x0 : List Dt) (x1 : List Dt) (x2 : Int) (x3 : Int), l24 jn m [1, 1, 0, 1, 0] [] M2 ⟨tsOf [(0, (.dat 23 (.lst x0))), (1, (.dat 23 (.lst x1))), (12, (.dat 3 (.int x2))), (13, (.dat 3 (.int x3)))], [], 0⟩ = rec2 x0 x1 x2 x3) (x0 : List Dt) (x1 : List Dt) (x2 : Int) (x3 : Int) : e24 jn m [1, 1, 0, 1, 0, 0, 1, 1, 1] [M2] ⟨tsOf [(0, (.dat 23 (.lst x0))), (1, (.dat 23 (.lst x1))), (12, (.dat 3 (.int x2))), (13, (.dat 3 (.int x3)))], [], 0⟩ = slices_Equal_j4 m rec2 x0 x1 x2 x3 := by
  have h : ∀ J, e24 J m [1, 1, 0, 1, 0, 0, 1, 1, 1] [M2] ⟨tsOf [(0, (.dat 23 (.lst x0))), (1, (.dat 23 (.lst x1))), (12, (.dat 3 (.int x2))), (13, (.dat 3 (.int x3)))], [], 0⟩ =
    (J 1 4 M2 ⟨tsOf [(0, (.dat 23 (.lst x0))), (1, (.dat 23 (.lst x1))), (12, (.dat 3 (.int x2))), (13, (.dat 3 (.int (IntKind.wrap IntKind.i64 (x3 + (1 : Int))))))], [], 0⟩ (l24 J m [1, 1, 0, 1, 0] [] M2 ⟨tsOf [(0, (.dat 23 (.lst x0))), (1, (.dat 23 (.lst x1))), (12, (.dat 3 (.int x2))), (13, (.dat 3 (.int (IntKind.wrap IntKind.i64 (x3 + (1 : Int))))))], [], 0⟩)) := fun J => by kernel_rfl
  exact (h jn).trans (by
    simp only [jn_eq, h2]
    rfl)
theorem slices_Equal_j3_eq (m : Nat) (M2 : Nat) (rec2 : List Dt → List Dt → Int → Int → Option (Bool)) (h2 : ∀ (x0 : List Dt) (x1 : List Dt) (x2 : Int) (x3 : Int), l24 jn m [1, 1, 0, 1, 0] [] M2 ⟨tsOf [(0, (.dat 23 (.lst x0))), (1, (.dat 23 (.lst x1))), (12, (.dat 3 (.int x2))), (13, (.dat 3 (.int x3)))], [], 0⟩ = rec2 x0 x1 x2 x3) (x0 : List Dt) (x1 : List Dt) (x2 : Int) (x3 : Int) : e24 jn m [1, 1, 0, 1, 0, 0, 1, 1] [M2] ⟨tsOf [(0, (.dat 23 (.lst x0))), (1, (.dat 23 (.lst x1))), (12, (.dat 3 (.int x2))), (13, (.dat 3 (.int x3)))], [], 0⟩ = slices_Equal_j3 m rec2 x0 x1 x2 x3 := by
  have h : ∀ J, e24 J m [1, 1, 0, 1, 0, 0, 1, 1] [M2] ⟨tsOf [(0, (.dat 23 (.lst x0))), (1, (.dat 23 (.lst x1))), (12, (.dat 3 (.int x2))), (13, (.dat 3 (.int x3)))], [], 0⟩ =
    ((idx x0 x3).bind fun v0 =>
      ((idx x1 x3).bind fun v1 =>
        (bif (Bool.not ((ByteArray.toList (Dt.toStr v0)) == (ByteArray.toList (Dt.toStr v1)))) then
          some Bool.false
        else
          (J 0 8 0 ⟨tsOf [(0, (.dat 23 (.lst x0))), (1, (.dat 23 (.lst x1))), (12, (.dat 3 (.int x2))), (13, (.dat 3 (.int x3)))], [], 0⟩ (e24 J m [1, 1, 0, 1, 0, 0, 1, 1, 1] [M2] ⟨tsOf [(0, (.dat 23 (.lst x0))), (1, (.dat 23 (.lst x1))), (12, (.dat 3 (.int x2))), (13, (.dat 3 (.int x3)))], [], 0⟩))))) := fun J => by kernel_rfl
  exact (h jn).trans (by
    simp only [jn_eq, slices_Equal_j4_eq m M2 rec2 h2]
    rfl)
theorem slices_Equal_j5_eq (m : Nat) : e24 jn m [1, 1, 1] [] ⟨tsOf [], [], 0⟩ = slices_Equal_j5 m := by
  have h : ∀ J, e24 J m [1, 1, 1] [] ⟨tsOf [], [], 0⟩ =
    some Bool.true := fun J => by kernel_rfl
  exact (h jn).trans (rfl)
theorem slices_Equal_l2_eq (m : Nat) : ∀ (M2 : Nat) (x0 : List Dt) (x1 : List Dt) (x2 : Int) (x3 : Int), l24 jn m [1, 1, 0, 1, 0] [] M2 ⟨tsOf [(0, (.dat 23 (.lst x0))), (1, (.dat 23 (.lst x1))), (12, (.dat 3 (.int x2))), (13, (.dat 3 (.int x3)))], [], 0⟩ = slices_Equal_l2 m M2 x0 x1 x2 x3
  | 0, _, _, _, _ => rfl
  | M2 + 1, x0, x1, x2, x3 => by
    have h : ∀ J, l24 J m [1, 1, 0, 1, 0] [] (M2 + 1) ⟨tsOf [(0, (.dat 23 (.lst x0))), (1, (.dat 23 (.lst x1))), (12, (.dat 3 (.int x2))), (13, (.dat 3 (.int x3)))], [], 0⟩ =
    (bif (decide (x3 < x2)) then
      (J 0 5 0 ⟨tsOf [(0, (.dat 23 (.lst x0))), (1, (.dat 23 (.lst x1))), (12, (.dat 3 (.int x2))), (13, (.dat 3 (.int x3)))], [], 0⟩ (e24 J m [1, 1, 0, 1, 0, 0, 1, 1] [M2] ⟨tsOf [(0, (.dat 23 (.lst x0))), (1, (.dat 23 (.lst x1))), (12, (.dat 3 (.int x2))), (13, (.dat 3 (.int x3)))], [], 0⟩))
    else
      (J 0 9 0 ⟨tsOf [], [], 0⟩ (e24 J m [1, 1, 1] [] ⟨tsOf [], [], 0⟩))) := fun J => by kernel_rfl
    refine (h jn).trans ?_
    simp only [jn_eq, slices_Equal_j3_eq m M2 (slices_Equal_l2 m M2) (fun x0 x1 x2 x3 => slices_Equal_l2_eq m M2 x0 x1 x2 x3), slices_Equal_j5_eq m]
    rfl
theorem slices_Equal_j1_eq (m : Nat) (x0 : List Dt) (x1 : List Dt) (x2 : Int) (x3 : Int) : e24 jn m [1, 1, 0, 1] [] ⟨tsOf [(0, (.dat 23 (.lst x0))), (1, (.dat 23 (.lst x1))), (12, (.dat 3 (.int x2))), (13, (.dat 3 (.int x3)))], [], 0⟩ = slices_Equal_j1 m x0 x1 x2 x3 := by
  have h : ∀ J, e24 J m [1, 1, 0, 1] [] ⟨tsOf [(0, (.dat 23 (.lst x0))), (1, (.dat 23 (.lst x1))), (12, (.dat 3 (.int x2))), (13, (.dat 3 (.int x3)))], [], 0⟩ =
    (J 1 4 (Nat.succ m) ⟨tsOf [(0, (.dat 23 (.lst x0))), (1, (.dat 23 (.lst x1))), (12, (.dat 3 (.int x2))), (13, (.dat 3 (.int x3)))], [], 0⟩ (l24 J m [1, 1, 0, 1, 0] [] (Nat.succ m) ⟨tsOf [(0, (.dat 23 (.lst x0))), (1, (.dat 23 (.lst x1))), (12, (.dat 3 (.int x2))), (13, (.dat 3 (.int x3)))], [], 0⟩)) := fun J => by kernel_rfl
  exact (h jn).trans (by
    simp only [jn_eq, slices_Equal_l2_eq m]
    rfl)
theorem slices_Equal_j0_eq (m : Nat) (x0 : List Dt) (x1 : List Dt) : e24 jn m [1, 1] [] ⟨tsOf [(0, (.dat 23 (.lst x0))), (1, (.dat 23 (.lst x1)))], [], 0⟩ = slices_Equal_j0 m x0 x1 := by
  have h : ∀ J, e24 J m [1, 1] [] ⟨tsOf [(0, (.dat 23 (.lst x0))), (1, (.dat 23 (.lst x1)))], [], 0⟩ =
    (J 0 4 0 ⟨tsOf [(0, (.dat 23 (.lst x0))), (1, (.dat 23 (.lst x1))), (12, (.dat 3 (.int (((List.length x0) : Nat) : Int)))), (13, (.dat 3 (.int (0 : Int))))], [], 0⟩ (e24 J m [1, 1, 0, 1] [] ⟨tsOf [(0, (.dat 23 (.lst x0))), (1, (.dat 23 (.lst x1))), (12, (.dat 3 (.int (((List.length x0) : Nat) : Int)))), (13, (.dat 3 (.int (0 : Int))))], [], 0⟩)) := fun J => by kernel_rfl
  exact (h jn).trans (by
    simp only [jn_eq, slices_Equal_j1_eq m]
    rfl)
theorem slices_Equal_eq (m : Nat) (a0 : List Dt) (a1 : List Dt) : e24 jn m [] [] ⟨[(.dat 23 (.lst a0)), (.dat 23 (.lst a1))], [], 0⟩ = slices_Equal (m + 1) a0 a1 := by
  have h : ∀ J, e24 J m [] [] ⟨[(.dat 23 (.lst a0)), (.dat 23 (.lst a1))], [], 0⟩ =
    (bif ((((List.length a0) : Nat) : Int) != (((List.length a1) : Nat) : Int)) then
      some Bool.false
    else
      (J 0 3 0 ⟨tsOf [(0, (.dat 23 (.lst a0))), (1, (.dat 23 (.lst a1)))], [], 0⟩ (e24 J m [1, 1] [] ⟨tsOf [(0, (.dat 23 (.lst a0))), (1, (.dat 23 (.lst a1)))], [], 0⟩))) := fun J => by kernel_rfl
  refine (h jn).trans ?_
  simp only [jn_eq, slices_Equal_j0_eq m]
  rfl
noncomputable def d14 (q : Res) : Option (Bool) := match q with
  | (.dat T0 x0, []) => bif Nat.beq T0 4 then some x0.toBool else none
  | _ => none
theorem d14_sim {b : Res} {r : Bool} (h : d14 b = some r) : Sim Tryd.prog b ((.dat 4 (.bool r)), []) := by
  unfold d14 at h
  split at h
  · obtain ⟨hc, h2⟩ := bif_some h
    cases h2
    have e0 := beq_eq hc
    subst e0
    exact Sim.of (.of (.dat (.bool Tryd.underlying4)) rfl rfl) .nil
  · cases h
noncomputable def e14 (J : Nat → Nat → Nat → St → Option (Bool) → Option (Bool)) (m : Nat) (p ms : List Nat) (σ : St) := evAt Tryd.prog env (ct m) J (m + 1) 34 18 Tryd.f34 d14 p ms σ
noncomputable def l14 (J : Nat → Nat → Nat → St → Option (Bool) → Option (Bool)) (m : Nat) (p ms : List Nat) (M : Nat) (σ : St) := loopAt Tryd.prog env (ct m) J (m + 1) 34 18 Tryd.f34 d14 p ms M σ
theorem path_Overlap_eq (m : Nat) (a0 : List Dt) (a1 : List Dt) : e14 jn m [] [] ⟨[(.dat 23 (.lst a0)), (.dat 23 (.lst a1))], [], 0⟩ = path_Overlap (m + 1) a0 a1 := by
  have h : ∀ J, e14 J m [] [] ⟨[(.dat 23 (.lst a0)), (.dat 23 (.lst a1))], [], 0⟩ =
    ((cutL a0 (0 : Int) (bif (decide ((((List.length a1) : Nat) : Int) < (((List.length a0) : Nat) : Int))) then (((List.length a1) : Nat) : Int) else (((List.length a0) : Nat) : Int))).bind fun v0 =>
      ((cutL a1 (0 : Int) (bif (decide ((((List.length a1) : Nat) : Int) < (((List.length a0) : Nat) : Int))) then (((List.length a1) : Nat) : Int) else (((List.length a0) : Nat) : Int))).bind fun v1 =>
        ((slices_Equal m v0 v1).bind fun r2 =>
          some r2))) := fun J => by kernel_rfl
  refine (h jn).trans ?_
  
  rfl
noncomputable def d3 (q : Res) : Option (Bool) := match q with
  | (.dat T0 x0, []) => bif Nat.beq T0 4 then some x0.toBool else none
  | _ => none
theorem d3_sim {b : Res} {r : Bool} (h : d3 b = some r) : Sim Tryd.prog b ((.dat 4 (.bool r)), []) := by
  unfold d3 at h
  split at h
  · obtain ⟨hc, h2⟩ := bif_some h
    cases h2
    have e0 := beq_eq hc
    subst e0
    exact Sim.of (.of (.dat (.bool Tryd.underlying4)) rfl rfl) .nil
  · cases h
noncomputable def e3 (J : Nat → Nat → Nat → St → Option (Bool) → Option (Bool)) (m : Nat) (p ms : List Nat) (σ : St) := evAt Tryd.prog env (ct m) J (m + 1) 9 57 Tryd.f9 d3 p ms σ
noncomputable def l3 (J : Nat → Nat → Nat → St → Option (Bool) → Option (Bool)) (m : Nat) (p ms : List Nat) (M : Nat) (σ : St) := loopAt Tryd.prog env (ct m) J (m + 1) 9 57 Tryd.f9 d3 p ms M σ
theorem law04_PathOverlaps_j2_eq (m : Nat) (x0 : List Dt) (x1 : Int) : e3 jn m [1, 1, 1, 1, 1] [] ⟨tsOf [(0, (.dat 23 (.lst x0))), (2, (.dat 3 (.int x1)))], [], 0⟩ = law04_PathOverlaps_j2 m x0 x1 := by
  have h : ∀ J, e3 J m [1, 1, 1, 1, 1] [] ⟨tsOf [(0, (.dat 23 (.lst x0))), (2, (.dat 3 (.int x1)))], [], 0⟩ =
    ((cutL x0 (0 : Int) x1).bind fun v5 =>
      ((path_Overlap m x0 v5).bind fun r6 =>
        (bif r6 then
          ((cutL x0 (0 : Int) x1).bind fun v7 =>
            ((path_Overlap m v7 x0).bind fun r8 =>
              (bif r8 then
                ((awakeC).bind fun r9 =>
                  some r9)
              else
                some Bool.false)))
        else
          some Bool.false))) := fun J => by kernel_rfl
  exact (h jn).trans (rfl)
theorem law04_PathOverlaps_j1_eq (m : Nat) (x0 : List Dt) (x1 : Int) : e3 jn m [1, 1, 1, 1] [] ⟨tsOf [(0, (.dat 23 (.lst x0))), (2, (.dat 3 (.int x1)))], [], 0⟩ = law04_PathOverlaps_j1 m x0 x1 := by
  have h : ∀ J, e3 J m [1, 1, 1, 1] [] ⟨tsOf [(0, (.dat 23 (.lst x0))), (2, (.dat 3 (.int x1)))], [], 0⟩ =
    (bif (decide (x1 < (0 : Int))) then
      (J 0 8 0 ⟨tsOf [(0, (.dat 23 (.lst x0))), (2, (.dat 3 (.int (((List.length x0) : Nat) : Int))))], [], 0⟩ (e3 J m [1, 1, 1, 1, 1] [] ⟨tsOf [(0, (.dat 23 (.lst x0))), (2, (.dat 3 (.int (((List.length x0) : Nat) : Int))))], [], 0⟩))
    else
      (bif (decide ((((List.length x0) : Nat) : Int) < x1)) then
        (J 0 8 0 ⟨tsOf [(0, (.dat 23 (.lst x0))), (2, (.dat 3 (.int (((List.length x0) : Nat) : Int))))], [], 0⟩ (e3 J m [1, 1, 1, 1, 1] [] ⟨tsOf [(0, (.dat 23 (.lst x0))), (2, (.dat 3 (.int (((List.length x0) : Nat) : Int))))], [], 0⟩))
      else
        (J 0 8 0 ⟨tsOf [(0, (.dat 23 (.lst x0))), (2, (.dat 3 (.int x1)))], [], 0⟩ (e3 J m [1, 1, 1, 1, 1] [] ⟨tsOf [(0, (.dat 23 (.lst x0))), (2, (.dat 3 (.int x1)))], [], 0⟩)))) := fun J => by kernel_rfl
  exact (h jn).trans (by
    simp only [jn_eq, law04_PathOverlaps_j2_eq m]
    rfl)
theorem law04_PathOverlaps_j0_eq (m : Nat) (x0 : List Dt) (x1 : List Dt) (x2 : Int) : e3 jn m [1, 1] [] ⟨tsOf [(0, (.dat 23 (.lst x0))), (1, (.dat 23 (.lst x1))), (2, (.dat 3 (.int x2)))], [], 0⟩ = law04_PathOverlaps_j0 m x0 x1 x2 := by
  have h : ∀ J, e3 J m [1, 1] [] ⟨tsOf [(0, (.dat 23 (.lst x0))), (1, (.dat 23 (.lst x1))), (2, (.dat 3 (.int x2)))], [], 0⟩ =
    ((path_Overlap m x0 x1).bind fun r2 =>
      ((path_Overlap m x1 x0).bind fun r3 =>
        (bif (Bool.not (r2 == r3)) then
          some Bool.false
        else
          ((ref04_Overlap m x0 x1).bind fun r4 =>
            (bif (Bool.not (r2 == r4)) then
              some Bool.false
            else
              (J 0 6 0 ⟨tsOf [(0, (.dat 23 (.lst x0))), (2, (.dat 3 (.int x2)))], [], 0⟩ (e3 J m [1, 1, 1, 1] [] ⟨tsOf [(0, (.dat 23 (.lst x0))), (2, (.dat 3 (.int x2)))], [], 0⟩))))))) := fun J => by kernel_rfl
  exact (h jn).trans (by
    simp only [jn_eq, law04_PathOverlaps_j1_eq m]
    rfl)
theorem law04_PathOverlaps_eq (m : Nat) (a0 : List Dt) (a1 : List Dt) (a2 : Int) : e3 jn m [] [] ⟨[(.dat 23 (.lst a0)), (.dat 23 (.lst a1)), (.dat 3 (.int a2))], [], 0⟩ = law04_PathOverlaps (m + 1) a0 a1 a2 := by
  have h : ∀ J, e3 J m [] [] ⟨[(.dat 23 (.lst a0)), (.dat 23 (.lst a1)), (.dat 3 (.int a2))], [], 0⟩ =
    (bif (decide ((100 : Int) < (((List.length a0) : Nat) : Int))) then
      ((awakeC).bind fun r0 =>
        some r0)
    else
      (bif (decide ((100 : Int) < (((List.length a1) : Nat) : Int))) then
        ((awakeC).bind fun r1 =>
          some r1)
      else
        (J 0 3 0 ⟨tsOf [(0, (.dat 23 (.lst a0))), (1, (.dat 23 (.lst a1))), (2, (.dat 3 (.int a2)))], [], 0⟩ (e3 J m [1, 1] [] ⟨tsOf [(0, (.dat 23 (.lst a0))), (1, (.dat 23 (.lst a1))), (2, (.dat 3 (.int a2)))], [], 0⟩)))) := fun J => by kernel_rfl
  refine (h jn).trans ?_
  simp only [jn_eq, law04_PathOverlaps_j0_eq m]
  rfl
end Go.Proofs.YtmjnmiahblaanaaDoor
