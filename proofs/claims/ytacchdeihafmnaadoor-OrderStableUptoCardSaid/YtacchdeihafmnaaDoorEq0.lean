/- Generated: each function's run in the abstract machine is its shallow function. -/
import Derived.Test.YtacchdeihafmnaaDoorCt
import Derived.Test.YtacchdeihafmnaaDoorAmEnv
import Derived.KernelRfl
set_option linter.unusedVariables false
set_option linter.unusedSimpArgs false
namespace Go.Proofs.YtacchdeihafmnaaDoor
open Go.Am
set_option maxRecDepth 100000
noncomputable def d6 (q : Res) : Option (Bool) := match q with
  | (.dat T0 x0, []) => bif Nat.beq T0 4 then some x0.toBool else none
  | _ => none
theorem d6_sim {b : Res} {r : Bool} (h : d6 b = some r) : Sim Tryd.prog b ((.dat 4 (.bool r)), []) := by
  unfold d6 at h
  split at h
  · obtain ⟨hc, h2⟩ := bif_some h
    cases h2
    have e0 := beq_eq hc
    subst e0
    exact Sim.of (.of (.dat (.bool Tryd.underlying4)) rfl rfl) .nil
  · cases h
noncomputable def e6 (J : Nat → Nat → Nat → St → Option (Bool) → Option (Bool)) (m : Nat) (p ms : List Nat) (σ : St) := evAt Tryd.prog env (ct m) J (m + 1) 17 27 Tryd.f17 d6 p ms σ
noncomputable def l6 (J : Nat → Nat → Nat → St → Option (Bool) → Option (Bool)) (m : Nat) (p ms : List Nat) (M : Nat) (σ : St) := loopAt Tryd.prog env (ct m) J (m + 1) 17 27 Tryd.f17 d6 p ms M σ
noncomputable def s6_4 (x0 x1 : List Dt) (x2 x3 : Int) : St := ⟨tsOf [(0, (.dat 27 (.lst x0))), (1, (.dat 27 (.lst x1))), (12, (.dat 3 (.int x2))), (13, (.dat 3 (.int x3)))], [], 0⟩
noncomputable def s6_3 (x0 x1 : List Dt) (x2 x3 : Int) : St := ⟨tsOf [(0, (.dat 27 (.lst x0))), (1, (.dat 27 (.lst x1))), (12, (.dat 3 (.int x2))), (13, (.dat 3 (.int x3)))], [], 0⟩
noncomputable def s6_5 : St := ⟨tsOf [], [], 0⟩
noncomputable def s6_2 (x0 x1 : List Dt) (x2 x3 : Int) : St := ⟨tsOf [(0, (.dat 27 (.lst x0))), (1, (.dat 27 (.lst x1))), (12, (.dat 3 (.int x2))), (13, (.dat 3 (.int x3)))], [], 0⟩
noncomputable def s6_1 (x0 x1 : List Dt) (x2 x3 : Int) : St := ⟨tsOf [(0, (.dat 27 (.lst x0))), (1, (.dat 27 (.lst x1))), (12, (.dat 3 (.int x2))), (13, (.dat 3 (.int x3)))], [], 0⟩
noncomputable def s6_0 (x0 x1 : List Dt) : St := ⟨tsOf [(0, (.dat 27 (.lst x0))), (1, (.dat 27 (.lst x1)))], [], 0⟩
theorem law03_SameList_j4_eq (m : Nat) (M2 : Nat) (rec2 : List Dt → List Dt → Int → Int → Option (Bool)) (h2 : ∀ (x0 x1 : List Dt) (x2 x3 : Int), l6 jn m [1, 1, 0, 1, 0] [] M2 (s6_2 x0 x1 x2 x3) = rec2 x0 x1 x2 x3) (x0 x1 : List Dt) (x2 x3 : Int) : e6 jn m [1, 1, 0, 1, 0, 0, 1, 1, 1] [M2] (s6_4 x0 x1 x2 x3) = law03_SameList_j4 m (law03_Same m) rec2 x0 x1 x2 x3 := by
  have h : ∀ J, e6 J m [1, 1, 0, 1, 0, 0, 1, 1, 1] [M2] (s6_4 x0 x1 x2 x3) =
    (J 1 4 M2 (s6_2 x0 x1 x2 (IntKind.wrap IntKind.i64 (x3 + (1 : Int)))) (l6 J m [1, 1, 0, 1, 0] [] M2 (s6_2 x0 x1 x2 (IntKind.wrap IntKind.i64 (x3 + (1 : Int)))))) := fun J => by kernel_rfl
  exact (h jn).trans (by
    simp only [jn_eq, h2]
    rfl)
theorem law03_SameList_j3_eq (m : Nat) (M2 : Nat) (rec2 : List Dt → List Dt → Int → Int → Option (Bool)) (h2 : ∀ (x0 x1 : List Dt) (x2 x3 : Int), l6 jn m [1, 1, 0, 1, 0] [] M2 (s6_2 x0 x1 x2 x3) = rec2 x0 x1 x2 x3) (x0 x1 : List Dt) (x2 x3 : Int) : e6 jn m [1, 1, 0, 1, 0, 0, 1, 1] [M2] (s6_3 x0 x1 x2 x3) = law03_SameList_j3 m (law03_Same m) rec2 x0 x1 x2 x3 := by
  have h : ∀ J, e6 J m [1, 1, 0, 1, 0, 0, 1, 1] [M2] (s6_3 x0 x1 x2 x3) =
    ((idx x0 x3).bind fun v0 =>
     ((idx x1 x3).bind fun v1 =>
     ((law03_Same m v0 v1).bind fun r2 =>
     (bif (Bool.not r2) then
     some Bool.false
     else
     (J 0 8 0 (s6_4 x0 x1 x2 x3) (e6 J m [1, 1, 0, 1, 0, 0, 1, 1, 1] [M2] (s6_4 x0 x1 x2 x3))))))) := fun J => by kernel_rfl
  exact (h jn).trans (by
    simp only [jn_eq, law03_SameList_j4_eq m M2 rec2 h2]
    rfl)
theorem law03_SameList_j5_eq (m : Nat) : e6 jn m [1, 1, 1] [] s6_5 = law03_SameList_j5 m (law03_Same m) := by
  have h : ∀ J, e6 J m [1, 1, 1] [] s6_5 =
    some Bool.true := fun J => by kernel_rfl
  exact (h jn).trans (rfl)
theorem law03_SameList_l2_eq (m : Nat) : ∀ (M2 : Nat) (x0 x1 : List Dt) (x2 x3 : Int), l6 jn m [1, 1, 0, 1, 0] [] M2 (s6_2 x0 x1 x2 x3) = law03_SameList_l2 m (law03_Same m) M2 x0 x1 x2 x3
  | 0, _, _, _, _ => rfl
  | M2 + 1, x0, x1, x2, x3 => by
    have h : ∀ J, l6 J m [1, 1, 0, 1, 0] [] (M2 + 1) (s6_2 x0 x1 x2 x3) =
    (bif (decide (x3 < x2)) then
     (J 0 5 0 (s6_3 x0 x1 x2 x3) (e6 J m [1, 1, 0, 1, 0, 0, 1, 1] [M2] (s6_3 x0 x1 x2 x3)))
    else
     (J 0 9 0 s6_5 (e6 J m [1, 1, 1] [] s6_5))) := fun J => by kernel_rfl
    refine (h jn).trans ?_
    simp only [jn_eq, law03_SameList_j3_eq m M2 (law03_SameList_l2 m (law03_Same m) M2) (fun x0 x1 x2 x3 => law03_SameList_l2_eq m M2 x0 x1 x2 x3), law03_SameList_j5_eq m]
    rfl
theorem law03_SameList_j1_eq (m : Nat) (x0 x1 : List Dt) (x2 x3 : Int) : e6 jn m [1, 1, 0, 1] [] (s6_1 x0 x1 x2 x3) = law03_SameList_j1 m (law03_Same m) x0 x1 x2 x3 := by
  have h : ∀ J, e6 J m [1, 1, 0, 1] [] (s6_1 x0 x1 x2 x3) =
    (J 1 4 (Nat.succ m) (s6_2 x0 x1 x2 x3) (l6 J m [1, 1, 0, 1, 0] [] (Nat.succ m) (s6_2 x0 x1 x2 x3))) := fun J => by kernel_rfl
  exact (h jn).trans (by
    simp only [jn_eq, law03_SameList_l2_eq m]
    rfl)
theorem law03_SameList_j0_eq (m : Nat) (x0 x1 : List Dt) : e6 jn m [1, 1] [] (s6_0 x0 x1) = law03_SameList_j0 m (law03_Same m) x0 x1 := by
  have h : ∀ J, e6 J m [1, 1] [] (s6_0 x0 x1) =
    (J 0 4 0 (s6_1 x0 x1 (((List.length x0) : Nat) : Int) (0 : Int)) (e6 J m [1, 1, 0, 1] [] (s6_1 x0 x1 (((List.length x0) : Nat) : Int) (0 : Int)))) := fun J => by kernel_rfl
  exact (h jn).trans (by
    simp only [jn_eq, law03_SameList_j1_eq m]
    rfl)
theorem law03_SameList_eq (m : Nat) (a0 a1 : List Dt) : e6 jn m [] [] ⟨[(.dat 27 (.lst a0)), (.dat 27 (.lst a1))], [], 0⟩ = law03_SameList (m + 1) a0 a1 := by
  have h : ∀ J, e6 J m [] [] ⟨[(.dat 27 (.lst a0)), (.dat 27 (.lst a1))], [], 0⟩ =
    (bif ((((List.length a0) : Nat) : Int) != (((List.length a1) : Nat) : Int)) then
     some Bool.false
    else
     (J 0 3 0 (s6_0 a0 a1) (e6 J m [1, 1] [] (s6_0 a0 a1)))) := fun J => by kernel_rfl
  refine (h jn).trans ?_
  simp only [jn_eq, law03_SameList_j0_eq m]
  rfl
noncomputable def d13 (q : Res) : Option (Bool) := match q with
  | (.dat T0 x0, []) => bif Nat.beq T0 4 then some x0.toBool else none
  | _ => none
theorem d13_sim {b : Res} {r : Bool} (h : d13 b = some r) : Sim Tryd.prog b ((.dat 4 (.bool r)), []) := by
  unfold d13 at h
  split at h
  · obtain ⟨hc, h2⟩ := bif_some h
    cases h2
    have e0 := beq_eq hc
    subst e0
    exact Sim.of (.of (.dat (.bool Tryd.underlying4)) rfl rfl) .nil
  · cases h
noncomputable def e13 (J : Nat → Nat → Nat → St → Option (Bool) → Option (Bool)) (m : Nat) (p ms : List Nat) (σ : St) := evAt Tryd.prog env (ct m) J (m + 1) 33 75 Tryd.f33 d13 p ms σ
noncomputable def l13 (J : Nat → Nat → Nat → St → Option (Bool) → Option (Bool)) (m : Nat) (p ms : List Nat) (M : Nat) (σ : St) := loopAt Tryd.prog env (ct m) J (m + 1) 33 75 Tryd.f33 d13 p ms M σ
noncomputable def s13_4 (x0 x1 : Int) (x2 x3 : Dt) : St := ⟨tsOf [(2, (.ptr 0 [] 0)), (3, (.ptr 1 [] 0)), (36, (.dat 3 (.int x0))), (37, (.dat 3 (.int x1)))], [(.box 30 (.dat 30 x2)), (.box 30 (.dat 30 x3))], 0⟩
noncomputable def s13_3 (x0 x1 : Int) (x2 x3 : Dt) : St := ⟨tsOf [(2, (.ptr 0 [] 0)), (3, (.ptr 1 [] 0)), (36, (.dat 3 (.int x0))), (37, (.dat 3 (.int x1)))], [(.box 30 (.dat 30 x2)), (.box 30 (.dat 30 x3))], 0⟩
noncomputable def s13_5 (x0 x1 : Dt) : St := ⟨tsOf [(2, (.ptr 0 [] 0)), (3, (.ptr 1 [] 0))], [(.box 30 (.dat 30 x0)), (.box 30 (.dat 30 x1))], 0⟩
noncomputable def s13_2 (x0 x1 : Int) (x2 x3 : Dt) : St := ⟨tsOf [(2, (.ptr 0 [] 0)), (3, (.ptr 1 [] 0)), (36, (.dat 3 (.int x0))), (37, (.dat 3 (.int x1)))], [(.box 30 (.dat 30 x2)), (.box 30 (.dat 30 x3))], 0⟩
noncomputable def s13_1 (x0 x1 : Int) (x2 x3 : Dt) : St := ⟨tsOf [(2, (.ptr 0 [] 0)), (3, (.ptr 1 [] 0)), (36, (.dat 3 (.int x0))), (37, (.dat 3 (.int x1)))], [(.box 30 (.dat 30 x2)), (.box 30 (.dat 30 x3))], 0⟩
noncomputable def s13_0 (x0 x1 : Dt) : St := ⟨tsOf [(2, (.ptr 0 [] 0)), (3, (.ptr 1 [] 0))], [(.box 30 (.dat 30 x0)), (.box 30 (.dat 30 x1))], 0⟩
theorem law03_Same_j4_eq (m : Nat) (M2 : Nat) (rec2 : Int → Int → Dt → Dt → Option (Bool)) (h2 : ∀ (x0 x1 : Int) (x2 x3 : Dt), l13 jn m [1, 1, 0, 1, 0] [] M2 (s13_2 x0 x1 x2 x3) = rec2 x0 x1 x2 x3) (x0 x1 : Int) (x2 x3 : Dt) : e13 jn m [1, 1, 0, 1, 0, 0, 1, 1, 1] [M2] (s13_4 x0 x1 x2 x3) = law03_Same_j4 m (law03_SameList m) (law03_Same m) rec2 x0 x1 x2 x3 := by
  have h : ∀ J, e13 J m [1, 1, 0, 1, 0, 0, 1, 1, 1] [M2] (s13_4 x0 x1 x2 x3) =
    (J 1 4 M2 (s13_2 x0 (IntKind.wrap IntKind.i64 (x1 + (1 : Int))) x2 x3) (l13 J m [1, 1, 0, 1, 0] [] M2 (s13_2 x0 (IntKind.wrap IntKind.i64 (x1 + (1 : Int))) x2 x3))) := fun J => by kernel_rfl
  exact (h jn).trans (by
    simp only [jn_eq, h2]
    rfl)
theorem law03_Same_j3_eq (m : Nat) (M2 : Nat) (rec2 : Int → Int → Dt → Dt → Option (Bool)) (h2 : ∀ (x0 x1 : Int) (x2 x3 : Dt), l13 jn m [1, 1, 0, 1, 0] [] M2 (s13_2 x0 x1 x2 x3) = rec2 x0 x1 x2 x3) (x0 x1 : Int) (x2 x3 : Dt) : e13 jn m [1, 1, 0, 1, 0, 0, 1, 1] [M2] (s13_3 x0 x1 x2 x3) = law03_Same_j3 m (law03_SameList m) (law03_Same m) rec2 x0 x1 x2 x3 := by
  have h : ∀ J, e13 J m [1, 1, 0, 1, 0, 0, 1, 1] [M2] (s13_3 x0 x1 x2 x3) =
    ((idx (Dt.L x2 4) x1).bind fun v0 =>
     ((idx (Dt.L x3 4) x1).bind fun v1 =>
     (bif (Bool.not ((ByteArray.toList (Dt.S v0 0)) == (ByteArray.toList (Dt.S v1 0)))) then
     some Bool.false
     else
     ((idx (Dt.L x2 4) x1).bind fun v2 =>
     ((idx (Dt.L x3 4) x1).bind fun v3 =>
     ((law03_Same m (Dt.fld v2 1) (Dt.fld v3 1)).bind fun r4 =>
     (bif (Bool.not r4) then
     some Bool.false
     else
     (J 0 8 0 (s13_4 x0 x1 x2 x3) (e13 J m [1, 1, 0, 1, 0, 0, 1, 1, 1] [M2] (s13_4 x0 x1 x2 x3)))))))))) := fun J => by kernel_rfl
  exact (h jn).trans (by
    simp only [jn_eq, law03_Same_j4_eq m M2 rec2 h2]
    rfl)
theorem law03_Same_j5_eq (m : Nat) (x0 x1 : Dt) : e13 jn m [1, 1, 1] [] (s13_5 x0 x1) = law03_Same_j5 m (law03_SameList m) (law03_Same m) x0 x1 := by
  have h : ∀ J, e13 J m [1, 1, 1] [] (s13_5 x0 x1) =
    ((law03_SameList m (Dt.L x0 3) (Dt.L x1 3)).bind fun r5 =>
     some r5) := fun J => by kernel_rfl
  exact (h jn).trans (rfl)
theorem law03_Same_l2_eq (m : Nat) : ∀ (M2 : Nat) (x0 x1 : Int) (x2 x3 : Dt), l13 jn m [1, 1, 0, 1, 0] [] M2 (s13_2 x0 x1 x2 x3) = law03_Same_l2 m (law03_SameList m) (law03_Same m) M2 x0 x1 x2 x3
  | 0, _, _, _, _ => rfl
  | M2 + 1, x0, x1, x2, x3 => by
    have h : ∀ J, l13 J m [1, 1, 0, 1, 0] [] (M2 + 1) (s13_2 x0 x1 x2 x3) =
    (bif (decide (x1 < x0)) then
     (J 0 5 0 (s13_3 x0 x1 x2 x3) (e13 J m [1, 1, 0, 1, 0, 0, 1, 1] [M2] (s13_3 x0 x1 x2 x3)))
    else
     (J 0 9 0 (s13_5 x2 x3) (e13 J m [1, 1, 1] [] (s13_5 x2 x3)))) := fun J => by kernel_rfl
    refine (h jn).trans ?_
    simp only [jn_eq, law03_Same_j3_eq m M2 (law03_Same_l2 m (law03_SameList m) (law03_Same m) M2) (fun x0 x1 x2 x3 => law03_Same_l2_eq m M2 x0 x1 x2 x3), law03_Same_j5_eq m]
    rfl
theorem law03_Same_j1_eq (m : Nat) (x0 x1 : Int) (x2 x3 : Dt) : e13 jn m [1, 1, 0, 1] [] (s13_1 x0 x1 x2 x3) = law03_Same_j1 m (law03_SameList m) (law03_Same m) x0 x1 x2 x3 := by
  have h : ∀ J, e13 J m [1, 1, 0, 1] [] (s13_1 x0 x1 x2 x3) =
    (J 1 4 (Nat.succ m) (s13_2 x0 x1 x2 x3) (l13 J m [1, 1, 0, 1, 0] [] (Nat.succ m) (s13_2 x0 x1 x2 x3))) := fun J => by kernel_rfl
  exact (h jn).trans (by
    simp only [jn_eq, law03_Same_l2_eq m]
    rfl)
theorem law03_Same_j0_eq (m : Nat) (x0 x1 : Dt) : e13 jn m [1, 1] [] (s13_0 x0 x1) = law03_Same_j0 m (law03_SameList m) (law03_Same m) x0 x1 := by
  have h : ∀ J, e13 J m [1, 1] [] (s13_0 x0 x1) =
    (J 0 4 0 (s13_1 (((List.length (Dt.L x0 4)) : Nat) : Int) (0 : Int) x0 x1) (e13 J m [1, 1, 0, 1] [] (s13_1 (((List.length (Dt.L x0 4)) : Nat) : Int) (0 : Int) x0 x1))) := fun J => by kernel_rfl
  exact (h jn).trans (by
    simp only [jn_eq, law03_Same_j1_eq m]
    rfl)
theorem law03_Same_eq (m : Nat) (a0 a1 : Dt) : e13 jn m [] [] ⟨[(.dat 30 a0), (.dat 30 a1)], [], 0⟩ = law03_Same (m + 1) a0 a1 := by
  have h : ∀ J, e13 J m [] [] ⟨[(.dat 30 a0), (.dat 30 a1)], [], 0⟩ =
    (bif ((Dt.I a0 0) != (Dt.I a1 0)) then
     some Bool.false
    else
     (bif ((Dt.I a0 1) != (Dt.I a1 1)) then
     some Bool.false
     else
     (bif (Bool.not ((ByteArray.toList (Dt.S a0 2)) == (ByteArray.toList (Dt.S a1 2)))) then
     some Bool.false
     else
     (bif ((((List.length (Dt.L a0 4)) : Nat) : Int) != (((List.length (Dt.L a1 4)) : Nat) : Int)) then
     some Bool.false
     else
     (J 0 3 0 (s13_0 a0 a1) (e13 J m [1, 1] [] (s13_0 a0 a1))))))) := fun J => by kernel_rfl
  refine (h jn).trans ?_
  simp only [jn_eq, law03_Same_j0_eq m]
  rfl
noncomputable def d25 (q : Res) : Option (List Dt × List Dt) := match q with
  | (.tup [], [.row T0 x0, .box T1 (.dat T2 x2)]) => bif (Nat.beq T0 68 && (Nat.beq T1 22 && Nat.beq T2 22)) then some (x0, x2.toLst) else none
  | _ => none
theorem d25_sim {b : Res} {r : List Dt × List Dt} (h : d25 b = some r) : Sim Tryd.prog b ((.tup []), [(.row 68 r.1), (.box 22 (.dat 22 (.lst r.2)))]) := by
  unfold d25 at h
  split at h
  · obtain ⟨hc, h2⟩ := bif_some h
    cases h2
    have e0 := beq_eq (and_l hc)
    have e1 := beq_eq (and_l (and_r hc))
    have e2 := beq_eq (and_r (and_r hc))
    subst e0 e1 e2
    exact Sim.of (.tup .nil) (.cons .same (.cons (.box (.dat (.lst Tryd.underlying22))) .nil))
  · cases h
noncomputable def e25 (J : Nat → Nat → Nat → St → Option (List Dt × List Dt) → Option (List Dt × List Dt)) (m : Nat) (p ms : List Nat) (σ : St) := evAt Tryd.prog env (ct m) J (m + 1) 97 38 Tryd.f97 d25 p ms σ
noncomputable def l25 (J : Nat → Nat → Nat → St → Option (List Dt × List Dt) → Option (List Dt × List Dt)) (m : Nat) (p ms : List Nat) (M : Nat) (σ : St) := loopAt Tryd.prog env (ct m) J (m + 1) 97 38 Tryd.f97 d25 p ms M σ
noncomputable def s25_3 (x0 x1 x2 x3 : Int) (x4 x5 : List Dt) : St := ⟨tsOf [(0, (.row 0)), (1, (.dat 3 (.int x0))), (2, (.dat 3 (.int x1))), (3, (.dat 3 (.int x2))), (10, (.dat 3 (.int x3)))], [(.row 68 x4), (.box 22 (.dat 22 (.lst x5)))], 2⟩
noncomputable def s25_2 (x0 x1 x2 x3 : Int) (x4 x5 : List Dt) : St := ⟨tsOf [(0, (.row 0)), (1, (.dat 3 (.int x0))), (2, (.dat 3 (.int x1))), (3, (.dat 3 (.int x2))), (10, (.dat 3 (.int x3)))], [(.row 68 x4), (.box 22 (.dat 22 (.lst x5)))], 2⟩
noncomputable def s25_1 (x0 x1 x2 x3 : Int) (x4 x5 : List Dt) : St := ⟨tsOf [(0, (.row 0)), (1, (.dat 3 (.int x0))), (2, (.dat 3 (.int x1))), (3, (.dat 3 (.int x2))), (10, (.dat 3 (.int x3)))], [(.row 68 x4), (.box 22 (.dat 22 (.lst x5)))], 2⟩
noncomputable def s25_0 (x0 x1 x2 x3 : Int) (x4 x5 : List Dt) : St := ⟨tsOf [(0, (.row 0)), (1, (.dat 3 (.int x0))), (2, (.dat 3 (.int x1))), (3, (.dat 3 (.int x2))), (10, (.dat 3 (.int x3)))], [(.row 68 x4), (.box 22 (.dat 22 (.lst x5)))], 2⟩
theorem i25_j3_eq (m : Nat) (M1 : Nat) (rec1 : Int → Int → Int → Int → List Dt → List Dt → Option (List Dt × List Dt)) (h1 : ∀ (x0 x1 x2 x3 : Int) (x4 x5 : List Dt), l25 jn m [1, 0] [] M1 (s25_1 x0 x1 x2 x3 x4 x5) = rec1 x0 x1 x2 x3 x4 x5) (x0 x1 x2 x3 : Int) (x4 x5 : List Dt) : e25 jn m [1, 0, 0, 1, 1] [M1] (s25_3 x0 x1 x2 x3 x4 x5) = i25_j3 m rec1 x0 x1 x2 x3 x4 x5 := by
  have h : ∀ J, e25 J m [1, 0, 0, 1, 1] [M1] (s25_3 x0 x1 x2 x3 x4 x5) =
    (J 1 1 M1 (s25_1 x0 x1 x2 (IntKind.wrap IntKind.i64 (x3 + (1 : Int))) x4 x5) (l25 J m [1, 0] [] M1 (s25_1 x0 x1 x2 (IntKind.wrap IntKind.i64 (x3 + (1 : Int))) x4 x5))) := fun J => by kernel_rfl
  exact (h jn).trans (by
    simp only [jn_eq, h1]
    rfl)
theorem i25_j2_eq (m : Nat) (M1 : Nat) (rec1 : Int → Int → Int → Int → List Dt → List Dt → Option (List Dt × List Dt)) (h1 : ∀ (x0 x1 x2 x3 : Int) (x4 x5 : List Dt), l25 jn m [1, 0] [] M1 (s25_1 x0 x1 x2 x3 x4 x5) = rec1 x0 x1 x2 x3 x4 x5) (x0 x1 x2 x3 : Int) (x4 x5 : List Dt) : e25 jn m [1, 0, 0, 1] [M1] (s25_2 x0 x1 x2 x3 x4 x5) = i25_j2 m rec1 x0 x1 x2 x3 x4 x5 := by
  have h : ∀ J, e25 J m [1, 0, 0, 1] [M1] (s25_2 x0 x1 x2 x3 x4 x5) =
    ((inL x4 (IntKind.wrap IntKind.i64 (x1 + x3))).bind fun v0 =>
     ((x4[(Int.toNat (IntKind.wrap IntKind.i64 (x1 + x3)))]?).bind fun v1 =>
     ((inL x4 (IntKind.wrap IntKind.i64 (x0 + x3))).bind fun v2 =>
     ((x4[(Int.toNat (IntKind.wrap IntKind.i64 (x0 + x3)))]?).bind fun v3 =>
     ((inL x4 (IntKind.wrap IntKind.i64 (x0 + x3))).bind fun v4 =>
     ((x4[(Int.toNat (IntKind.wrap IntKind.i64 (x0 + x3)))]?).bind fun v5 =>
     ((inL (List.set x4 (Int.toNat (IntKind.wrap IntKind.i64 (x0 + x3))) v1) (IntKind.wrap IntKind.i64 (x1 + x3))).bind fun v6 =>
     (((List.set x4 (Int.toNat (IntKind.wrap IntKind.i64 (x0 + x3))) v1)[(Int.toNat (IntKind.wrap IntKind.i64 (x1 + x3)))]?).bind fun v7 =>
     (J 0 2 0 (s25_3 x0 x1 x2 x3 (List.set (List.set x4 (Int.toNat (IntKind.wrap IntKind.i64 (x0 + x3))) v1) (Int.toNat (IntKind.wrap IntKind.i64 (x1 + x3))) v3) x5) (e25 J m [1, 0, 0, 1, 1] [M1] (s25_3 x0 x1 x2 x3 (List.set (List.set x4 (Int.toNat (IntKind.wrap IntKind.i64 (x0 + x3))) v1) (Int.toNat (IntKind.wrap IntKind.i64 (x1 + x3))) v3) x5))))))))))) := fun J => by kernel_rfl
  exact (h jn).trans (by
    simp only [jn_eq, i25_j3_eq m M1 rec1 h1]
    rfl)
theorem i25_l1_eq (m : Nat) : ∀ (M1 : Nat) (x0 x1 x2 x3 : Int) (x4 x5 : List Dt), l25 jn m [1, 0] [] M1 (s25_1 x0 x1 x2 x3 x4 x5) = i25_l1 m M1 x0 x1 x2 x3 x4 x5
  | 0, _, _, _, _, _, _ => rfl
  | M1 + 1, x0, x1, x2, x3, x4, x5 => by
    have h : ∀ J, l25 J m [1, 0] [] (M1 + 1) (s25_1 x0 x1 x2 x3 x4 x5) =
    (bif (decide (x3 < x2)) then
     (J 0 3 0 (s25_2 x0 x1 x2 x3 x4 x5) (e25 J m [1, 0, 0, 1] [M1] (s25_2 x0 x1 x2 x3 x4 x5)))
    else
     some (x4, x5)) := fun J => by kernel_rfl
    refine (h jn).trans ?_
    simp only [jn_eq, i25_j2_eq m M1 (i25_l1 m M1) (fun x0 x1 x2 x3 x4 x5 => i25_l1_eq m M1 x0 x1 x2 x3 x4 x5)]
    rfl
theorem i25_j0_eq (m : Nat) (x0 x1 x2 x3 : Int) (x4 x5 : List Dt) : e25 jn m [1] [] (s25_0 x0 x1 x2 x3 x4 x5) = i25_j0 m x0 x1 x2 x3 x4 x5 := by
  have h : ∀ J, e25 J m [1] [] (s25_0 x0 x1 x2 x3 x4 x5) =
    (J 1 1 (Nat.succ m) (s25_1 x0 x1 x2 x3 x4 x5) (l25 J m [1, 0] [] (Nat.succ m) (s25_1 x0 x1 x2 x3 x4 x5))) := fun J => by kernel_rfl
  exact (h jn).trans (by
    simp only [jn_eq, i25_l1_eq m]
    rfl)
theorem i25_eq (m : Nat) (a0 a1 a2 : Int) (a3 a4 : List Dt) : e25 jn m [] [] ⟨[(.row 0), (.dat 3 (.int a0)), (.dat 3 (.int a1)), (.dat 3 (.int a2)), (.fn 56 [(.ptr 1 [] 0)])], [(.row 68 a3), (.box 22 (.dat 22 (.lst a4)))], 2⟩ = i25 (m + 1) a0 a1 a2 a3 a4 := by
  have h : ∀ J, e25 J m [] [] ⟨[(.row 0), (.dat 3 (.int a0)), (.dat 3 (.int a1)), (.dat 3 (.int a2)), (.fn 56 [(.ptr 1 [] 0)])], [(.row 68 a3), (.box 22 (.dat 22 (.lst a4)))], 2⟩ =
    (J 0 1 0 (s25_0 a0 a1 a2 (0 : Int) a3 a4) (e25 J m [1] [] (s25_0 a0 a1 a2 (0 : Int) a3 a4))) := fun J => by kernel_rfl
  refine (h jn).trans ?_
  simp only [jn_eq, i25_j0_eq m]
  rfl
noncomputable def d24 (q : Res) : Option (List Dt × List Dt) := match q with
  | (.tup [], [.row T0 x0, .box T1 (.dat T2 x2)]) => bif (Nat.beq T0 68 && (Nat.beq T1 22 && Nat.beq T2 22)) then some (x0, x2.toLst) else none
  | _ => none
theorem d24_sim {b : Res} {r : List Dt × List Dt} (h : d24 b = some r) : Sim Tryd.prog b ((.tup []), [(.row 68 r.1), (.box 22 (.dat 22 (.lst r.2)))]) := by
  unfold d24 at h
  split at h
  · obtain ⟨hc, h2⟩ := bif_some h
    cases h2
    have e0 := beq_eq (and_l hc)
    have e1 := beq_eq (and_l (and_r hc))
    have e2 := beq_eq (and_r (and_r hc))
    subst e0 e1 e2
    exact Sim.of (.tup .nil) (.cons .same (.cons (.box (.dat (.lst Tryd.underlying22))) .nil))
  · cases h
noncomputable def e24 (J : Nat → Nat → Nat → St → Option (List Dt × List Dt) → Option (List Dt × List Dt)) (m : Nat) (p ms : List Nat) (σ : St) := evAt Tryd.prog env (ct m) J (m + 1) 90 58 Tryd.f90 d24 p ms σ
noncomputable def l24 (J : Nat → Nat → Nat → St → Option (List Dt × List Dt) → Option (List Dt × List Dt)) (m : Nat) (p ms : List Nat) (M : Nat) (σ : St) := loopAt Tryd.prog env (ct m) J (m + 1) 90 58 Tryd.f90 d24 p ms M σ
noncomputable def s24_2 (x0 x1 x2 : Int) (x3 x4 : List Dt) : St := ⟨tsOf [(0, (.row 0)), (2, (.dat 3 (.int x0))), (4, (.fn 56 [(.ptr 1 [] 0)])), (10, (.dat 3 (.int x1))), (11, (.dat 3 (.int x2)))], [(.row 68 x3), (.box 22 (.dat 22 (.lst x4)))], 2⟩
noncomputable def s24_3 (x0 x1 : Int) (x2 x3 : List Dt) : St := ⟨tsOf [(0, (.row 0)), (2, (.dat 3 (.int x0))), (4, (.fn 56 [(.ptr 1 [] 0)])), (10, (.dat 3 (.int x1)))], [(.row 68 x2), (.box 22 (.dat 22 (.lst x3)))], 2⟩
noncomputable def s24_1 (x0 x1 x2 : Int) (x3 x4 : List Dt) : St := ⟨tsOf [(0, (.row 0)), (2, (.dat 3 (.int x0))), (4, (.fn 56 [(.ptr 1 [] 0)])), (10, (.dat 3 (.int x1))), (11, (.dat 3 (.int x2)))], [(.row 68 x3), (.box 22 (.dat 22 (.lst x4)))], 2⟩
noncomputable def s24_0 (x0 x1 x2 : Int) (x3 x4 : List Dt) : St := ⟨tsOf [(0, (.row 0)), (2, (.dat 3 (.int x0))), (4, (.fn 56 [(.ptr 1 [] 0)])), (10, (.dat 3 (.int x1))), (11, (.dat 3 (.int x2)))], [(.row 68 x3), (.box 22 (.dat 22 (.lst x4)))], 2⟩
theorem i24_j2_eq (m : Nat) (M1 : Nat) (rec1 : Int → Int → Int → List Dt → List Dt → Option (List Dt × List Dt)) (h1 : ∀ (x0 x1 x2 : Int) (x3 x4 : List Dt), l24 jn m [1, 1, 0, 0] [] M1 (s24_1 x0 x1 x2 x3 x4) = rec1 x0 x1 x2 x3 x4) (x0 x1 x2 : Int) (x3 x4 : List Dt) : e24 jn m [1, 1, 0, 0, 0, 1] [M1] (s24_2 x0 x1 x2 x3 x4) = i24_j2 m rec1 x0 x1 x2 x3 x4 := by
  have h : ∀ J, e24 J m [1, 1, 0, 0, 0, 1] [M1] (s24_2 x0 x1 x2 x3 x4) =
    (bif (decide (x2 < x1)) then
     ((i25 m (IntKind.wrap IntKind.i64 (x0 - x1)) x0 x2 x3 x4).bind fun r0 =>
     (J 1 2 M1 (s24_1 x0 (IntKind.wrap IntKind.i64 (x1 - x2)) x2 (Prod.fst r0) (Prod.snd r0)) (l24 J m [1, 1, 0, 0] [] M1 (s24_1 x0 (IntKind.wrap IntKind.i64 (x1 - x2)) x2 (Prod.fst r0) (Prod.snd r0)))))
    else
     ((i25 m (IntKind.wrap IntKind.i64 (x0 - x1)) (IntKind.wrap IntKind.i64 ((IntKind.wrap IntKind.i64 (x0 + x2)) - x1)) x1 x3 x4).bind fun r1 =>
     (J 1 2 M1 (s24_1 x0 x1 (IntKind.wrap IntKind.i64 (x2 - x1)) (Prod.fst r1) (Prod.snd r1)) (l24 J m [1, 1, 0, 0] [] M1 (s24_1 x0 x1 (IntKind.wrap IntKind.i64 (x2 - x1)) (Prod.fst r1) (Prod.snd r1)))))) := fun J => by kernel_rfl
  exact (h jn).trans (by
    simp only [jn_eq, h1]
    rfl)
theorem i24_j3_eq (m : Nat) (x0 x1 : Int) (x2 x3 : List Dt) : e24 jn m [1, 1, 1] [] (s24_3 x0 x1 x2 x3) = i24_j3 m x0 x1 x2 x3 := by
  have h : ∀ J, e24 J m [1, 1, 1] [] (s24_3 x0 x1 x2 x3) =
    ((i25 m (IntKind.wrap IntKind.i64 (x0 - x1)) x0 x1 x2 x3).bind fun r2 =>
     some ((Prod.fst r2), (Prod.snd r2))) := fun J => by kernel_rfl
  exact (h jn).trans (rfl)
theorem i24_l1_eq (m : Nat) : ∀ (M1 : Nat) (x0 x1 x2 : Int) (x3 x4 : List Dt), l24 jn m [1, 1, 0, 0] [] M1 (s24_1 x0 x1 x2 x3 x4) = i24_l1 m M1 x0 x1 x2 x3 x4
  | 0, _, _, _, _, _ => rfl
  | M1 + 1, x0, x1, x2, x3, x4 => by
    have h : ∀ J, l24 J m [1, 1, 0, 0] [] (M1 + 1) (s24_1 x0 x1 x2 x3 x4) =
    (bif (x1 != x2) then
     (J 0 3 0 (s24_2 x0 x1 x2 x3 x4) (e24 J m [1, 1, 0, 0, 0, 1] [M1] (s24_2 x0 x1 x2 x3 x4)))
    else
     (J 0 8 0 (s24_3 x0 x1 x3 x4) (e24 J m [1, 1, 1] [] (s24_3 x0 x1 x3 x4)))) := fun J => by kernel_rfl
    refine (h jn).trans ?_
    simp only [jn_eq, i24_j2_eq m M1 (i24_l1 m M1) (fun x0 x1 x2 x3 x4 => i24_l1_eq m M1 x0 x1 x2 x3 x4), i24_j3_eq m]
    rfl
theorem i24_j0_eq (m : Nat) (x0 x1 x2 : Int) (x3 x4 : List Dt) : e24 jn m [1, 1] [] (s24_0 x0 x1 x2 x3 x4) = i24_j0 m x0 x1 x2 x3 x4 := by
  have h : ∀ J, e24 J m [1, 1] [] (s24_0 x0 x1 x2 x3 x4) =
    (J 1 2 (Nat.succ m) (s24_1 x0 x1 x2 x3 x4) (l24 J m [1, 1, 0, 0] [] (Nat.succ m) (s24_1 x0 x1 x2 x3 x4))) := fun J => by kernel_rfl
  exact (h jn).trans (by
    simp only [jn_eq, i24_l1_eq m]
    rfl)
theorem i24_eq (m : Nat) (a0 a1 a2 : Int) (a3 a4 : List Dt) : e24 jn m [] [] ⟨[(.row 0), (.dat 3 (.int a0)), (.dat 3 (.int a1)), (.dat 3 (.int a2)), (.fn 56 [(.ptr 1 [] 0)])], [(.row 68 a3), (.box 22 (.dat 22 (.lst a4)))], 2⟩ = i24 (m + 1) a0 a1 a2 a3 a4 := by
  have h : ∀ J, e24 J m [] [] ⟨[(.row 0), (.dat 3 (.int a0)), (.dat 3 (.int a1)), (.dat 3 (.int a2)), (.fn 56 [(.ptr 1 [] 0)])], [(.row 68 a3), (.box 22 (.dat 22 (.lst a4)))], 2⟩ =
    (J 0 2 0 (s24_0 a1 (IntKind.wrap IntKind.i64 (a1 - a0)) (IntKind.wrap IntKind.i64 (a2 - a1)) a3 a4) (e24 J m [1, 1] [] (s24_0 a1 (IntKind.wrap IntKind.i64 (a1 - a0)) (IntKind.wrap IntKind.i64 (a2 - a1)) a3 a4))) := fun J => by kernel_rfl
  refine (h jn).trans ?_
  simp only [jn_eq, i24_j0_eq m]
  rfl
noncomputable def d26 (q : Res) : Option (Dt) := match q with
  | (.dat T0 x0, []) => bif Nat.beq T0 30 then some x0 else none
  | _ => none
theorem d26_sim {b : Res} {r : Dt} (h : d26 b = some r) : Sim Tryd.prog b ((.dat 30 r), []) := by
  unfold d26 at h
  split at h
  · obtain ⟨hc, h2⟩ := bif_some h
    cases h2
    have e0 := beq_eq hc
    subst e0
    exact Sim.of (.of .same rfl rfl) .nil
  · cases h
noncomputable def e26 (J : Nat → Nat → Nat → St → Option (Dt) → Option (Dt)) (m : Nat) (p ms : List Nat) (σ : St) := evAt Tryd.prog env (ct m) J (m + 1) 57 68 Tryd.f57 d26 p ms σ
noncomputable def l26 (J : Nat → Nat → Nat → St → Option (Dt) → Option (Dt)) (m : Nat) (p ms : List Nat) (M : Nat) (σ : St) := loopAt Tryd.prog env (ct m) J (m + 1) 57 68 Tryd.f57 d26 p ms M σ
noncomputable def s26_3 (x0 : List Dt) (x1 x2 : Int) (x3 x4 : Dt) (x5 x6 : Int) (x7 : ByteArray) (x8 : List Dt) : St := ⟨tsOf [(1, (.ptr 0 [] 0)), (2, (.ptr 1 [] 0)), (3, (.ptr 2 [] 0)), (25, (.dat 27 (.lst x0))), (26, (.dat 3 (.int x1))), (27, (.dat 3 (.int x2)))], [(.box 30 (.dat 30 x3)), (.box 30 (.dat 30 x4)), (.box 30 (.agg 30 [(.dat 3 (.int x5)), (.dat 3 (.int x6)), (.dat 9 (.str x7)), (.row 3), (.nils 28)])), (.row 27 x8)], 0⟩
noncomputable def s26_2 (x0 : List Dt) (x1 x2 : Int) (x3 x4 : Dt) (x5 x6 : Int) (x7 : ByteArray) (x8 : List Dt) : St := ⟨tsOf [(1, (.ptr 0 [] 0)), (2, (.ptr 1 [] 0)), (3, (.ptr 2 [] 0)), (25, (.dat 27 (.lst x0))), (26, (.dat 3 (.int x1))), (27, (.dat 3 (.int x2)))], [(.box 30 (.dat 30 x3)), (.box 30 (.dat 30 x4)), (.box 30 (.agg 30 [(.dat 3 (.int x5)), (.dat 3 (.int x6)), (.dat 9 (.str x7)), (.row 3), (.nils 28)])), (.row 27 x8)], 0⟩
noncomputable def s26_8 (x0 : List Dt) (x1 x2 : Int) (x3 : Dt) (x4 x5 : Int) (x6 : ByteArray) (x7 x8 : List Dt) : St := ⟨tsOf [(2, (.ptr 0 [] 0)), (3, (.ptr 1 [] 0)), (49, (.dat 28 (.lst x0))), (50, (.dat 3 (.int x1))), (51, (.dat 3 (.int x2)))], [(.box 30 (.dat 30 x3)), (.box 30 (.agg 30 [(.dat 3 (.int x4)), (.dat 3 (.int x5)), (.dat 9 (.str x6)), (.row 2), (.row 3)])), (.row 27 x7), (.row 28 x8)], 0⟩
noncomputable def s26_7 (x0 : List Dt) (x1 x2 : Int) (x3 : Dt) (x4 x5 : Int) (x6 : ByteArray) (x7 x8 : List Dt) : St := ⟨tsOf [(2, (.ptr 0 [] 0)), (3, (.ptr 1 [] 0)), (49, (.dat 28 (.lst x0))), (50, (.dat 3 (.int x1))), (51, (.dat 3 (.int x2)))], [(.box 30 (.dat 30 x3)), (.box 30 (.agg 30 [(.dat 3 (.int x4)), (.dat 3 (.int x5)), (.dat 9 (.str x6)), (.row 2), (.row 3)])), (.row 27 x7), (.row 28 x8)], 0⟩
noncomputable def s26_9 (x0 : Dt) (x1 x2 : Int) (x3 : ByteArray) (x4 x5 : List Dt) : St := ⟨tsOf [(2, (.ptr 0 [] 0)), (3, (.ptr 1 [] 0))], [(.box 30 (.dat 30 x0)), (.box 30 (.agg 30 [(.dat 3 (.int x1)), (.dat 3 (.int x2)), (.dat 9 (.str x3)), (.row 2), (.row 3)])), (.row 27 x4), (.row 28 x5)], 0⟩
noncomputable def s26_6 (x0 : List Dt) (x1 x2 : Int) (x3 : Dt) (x4 x5 : Int) (x6 : ByteArray) (x7 x8 : List Dt) : St := ⟨tsOf [(2, (.ptr 0 [] 0)), (3, (.ptr 1 [] 0)), (49, (.dat 28 (.lst x0))), (50, (.dat 3 (.int x1))), (51, (.dat 3 (.int x2)))], [(.box 30 (.dat 30 x3)), (.box 30 (.agg 30 [(.dat 3 (.int x4)), (.dat 3 (.int x5)), (.dat 9 (.str x6)), (.row 2), (.row 3)])), (.row 27 x7), (.row 28 x8)], 0⟩
noncomputable def s26_5 (x0 : List Dt) (x1 x2 : Int) (x3 : Dt) (x4 x5 : Int) (x6 : ByteArray) (x7 x8 : List Dt) : St := ⟨tsOf [(2, (.ptr 0 [] 0)), (3, (.ptr 1 [] 0)), (49, (.dat 28 (.lst x0))), (50, (.dat 3 (.int x1))), (51, (.dat 3 (.int x2)))], [(.box 30 (.dat 30 x3)), (.box 30 (.agg 30 [(.dat 3 (.int x4)), (.dat 3 (.int x5)), (.dat 9 (.str x6)), (.row 2), (.row 3)])), (.row 27 x7), (.row 28 x8)], 0⟩
noncomputable def s26_10 (x0 : Dt) (x1 x2 : Int) (x3 : ByteArray) (x4 : List Dt) : St := ⟨tsOf [(2, (.ptr 0 [] 0)), (3, (.ptr 1 [] 0))], [(.box 30 (.dat 30 x0)), (.box 30 (.agg 30 [(.dat 3 (.int x1)), (.dat 3 (.int x2)), (.dat 9 (.str x3)), (.row 2), (.nils 28)])), (.row 27 x4)], 0⟩
noncomputable def s26_4 (x0 x1 : Dt) (x2 x3 : Int) (x4 : ByteArray) (x5 : List Dt) : St := ⟨tsOf [(1, (.ptr 0 [] 0)), (2, (.ptr 1 [] 0)), (3, (.ptr 2 [] 0))], [(.box 30 (.dat 30 x0)), (.box 30 (.dat 30 x1)), (.box 30 (.agg 30 [(.dat 3 (.int x2)), (.dat 3 (.int x3)), (.dat 9 (.str x4)), (.row 3), (.nils 28)])), (.row 27 x5)], 0⟩
noncomputable def s26_1 (x0 : List Dt) (x1 x2 : Int) (x3 x4 : Dt) (x5 x6 : Int) (x7 : ByteArray) (x8 : List Dt) : St := ⟨tsOf [(1, (.ptr 0 [] 0)), (2, (.ptr 1 [] 0)), (3, (.ptr 2 [] 0)), (25, (.dat 27 (.lst x0))), (26, (.dat 3 (.int x1))), (27, (.dat 3 (.int x2)))], [(.box 30 (.dat 30 x3)), (.box 30 (.dat 30 x4)), (.box 30 (.agg 30 [(.dat 3 (.int x5)), (.dat 3 (.int x6)), (.dat 9 (.str x7)), (.row 3), (.nils 28)])), (.row 27 x8)], 0⟩
noncomputable def s26_0 (x0 : List Dt) (x1 x2 : Int) (x3 x4 : Dt) (x5 x6 : Int) (x7 : ByteArray) (x8 : List Dt) : St := ⟨tsOf [(1, (.ptr 0 [] 0)), (2, (.ptr 1 [] 0)), (3, (.ptr 2 [] 0)), (25, (.dat 27 (.lst x0))), (26, (.dat 3 (.int x1))), (27, (.dat 3 (.int x2)))], [(.box 30 (.dat 30 x3)), (.box 30 (.dat 30 x4)), (.box 30 (.agg 30 [(.dat 3 (.int x5)), (.dat 3 (.int x6)), (.dat 9 (.str x7)), (.row 3), (.nils 28)])), (.row 27 x8)], 0⟩
noncomputable def s26_15 (x0 : List Dt) (x1 x2 : Int) (x3 : Dt) (x4 x5 : Int) (x6 : ByteArray) (x7 x8 : List Dt) : St := ⟨tsOf [(2, (.ptr 0 [] 0)), (3, (.ptr 1 [] 0)), (49, (.dat 28 (.lst x0))), (50, (.dat 3 (.int x1))), (51, (.dat 3 (.int x2)))], [(.box 30 (.dat 30 x3)), (.box 30 (.agg 30 [(.dat 3 (.int x4)), (.dat 3 (.int x5)), (.dat 9 (.str x6)), (.dat 27 (.lst x7)), (.row 2)])), (.row 28 x8)], 0⟩
noncomputable def s26_14 (x0 : List Dt) (x1 x2 : Int) (x3 : Dt) (x4 x5 : Int) (x6 : ByteArray) (x7 x8 : List Dt) : St := ⟨tsOf [(2, (.ptr 0 [] 0)), (3, (.ptr 1 [] 0)), (49, (.dat 28 (.lst x0))), (50, (.dat 3 (.int x1))), (51, (.dat 3 (.int x2)))], [(.box 30 (.dat 30 x3)), (.box 30 (.agg 30 [(.dat 3 (.int x4)), (.dat 3 (.int x5)), (.dat 9 (.str x6)), (.dat 27 (.lst x7)), (.row 2)])), (.row 28 x8)], 0⟩
noncomputable def s26_16 (x0 : Dt) (x1 x2 : Int) (x3 : ByteArray) (x4 x5 : List Dt) : St := ⟨tsOf [(2, (.ptr 0 [] 0)), (3, (.ptr 1 [] 0))], [(.box 30 (.dat 30 x0)), (.box 30 (.agg 30 [(.dat 3 (.int x1)), (.dat 3 (.int x2)), (.dat 9 (.str x3)), (.dat 27 (.lst x4)), (.row 2)])), (.row 28 x5)], 0⟩
noncomputable def s26_13 (x0 : List Dt) (x1 x2 : Int) (x3 : Dt) (x4 x5 : Int) (x6 : ByteArray) (x7 x8 : List Dt) : St := ⟨tsOf [(2, (.ptr 0 [] 0)), (3, (.ptr 1 [] 0)), (49, (.dat 28 (.lst x0))), (50, (.dat 3 (.int x1))), (51, (.dat 3 (.int x2)))], [(.box 30 (.dat 30 x3)), (.box 30 (.agg 30 [(.dat 3 (.int x4)), (.dat 3 (.int x5)), (.dat 9 (.str x6)), (.dat 27 (.lst x7)), (.row 2)])), (.row 28 x8)], 0⟩
noncomputable def s26_12 (x0 : List Dt) (x1 x2 : Int) (x3 : Dt) (x4 x5 : Int) (x6 : ByteArray) (x7 x8 : List Dt) : St := ⟨tsOf [(2, (.ptr 0 [] 0)), (3, (.ptr 1 [] 0)), (49, (.dat 28 (.lst x0))), (50, (.dat 3 (.int x1))), (51, (.dat 3 (.int x2)))], [(.box 30 (.dat 30 x3)), (.box 30 (.agg 30 [(.dat 3 (.int x4)), (.dat 3 (.int x5)), (.dat 9 (.str x6)), (.dat 27 (.lst x7)), (.row 2)])), (.row 28 x8)], 0⟩
noncomputable def s26_17 (x0 x1 : Dt) : St := ⟨tsOf [(2, (.ptr 0 [] 0)), (3, (.ptr 1 [] 0))], [(.box 30 (.dat 30 x0)), (.box 30 (.dat 30 x1))], 0⟩
noncomputable def s26_11 (x0 x1 x2 : Dt) : St := ⟨tsOf [(1, (.ptr 0 [] 0)), (2, (.ptr 1 [] 0)), (3, (.ptr 2 [] 0))], [(.box 30 (.dat 30 x0)), (.box 30 (.dat 30 x1)), (.box 30 (.dat 30 x2))], 0⟩
theorem order_clone_j3_eq (m : Nat) (M1 : Nat) (rec1 : List Dt → Int → Int → Dt → Dt → Int → Int → ByteArray → List Dt → Option (Dt)) (h1 : ∀ (x0 : List Dt) (x1 x2 : Int) (x3 x4 : Dt) (x5 x6 : Int) (x7 : ByteArray) (x8 : List Dt), l26 jn m [1, 1, 0, 1, 0, 1, 1, 0] [] M1 (s26_1 x0 x1 x2 x3 x4 x5 x6 x7 x8) = rec1 x0 x1 x2 x3 x4 x5 x6 x7 x8) (x0 : List Dt) (x1 x2 : Int) (x3 x4 : Dt) (x5 x6 : Int) (x7 : ByteArray) (x8 : List Dt) : e26 jn m [1, 1, 0, 1, 0, 1, 1, 0, 0, 1, 1, 1] [M1] (s26_3 x0 x1 x2 x3 x4 x5 x6 x7 x8) = order_clone_j3 m (order_clone m) rec1 x0 x1 x2 x3 x4 x5 x6 x7 x8 := by
  have h : ∀ J, e26 J m [1, 1, 0, 1, 0, 1, 1, 0, 0, 1, 1, 1] [M1] (s26_3 x0 x1 x2 x3 x4 x5 x6 x7 x8) =
    (J 1 5 M1 (s26_1 x0 x1 (IntKind.wrap IntKind.i64 (x2 + (1 : Int))) x3 x4 x5 x6 x7 x8) (l26 J m [1, 1, 0, 1, 0, 1, 1, 0] [] M1 (s26_1 x0 x1 (IntKind.wrap IntKind.i64 (x2 + (1 : Int))) x3 x4 x5 x6 x7 x8))) := fun J => by kernel_rfl
  exact (h jn).trans (by
    simp only [jn_eq, h1]
    rfl)
theorem order_clone_j2_eq (m : Nat) (M1 : Nat) (rec1 : List Dt → Int → Int → Dt → Dt → Int → Int → ByteArray → List Dt → Option (Dt)) (h1 : ∀ (x0 : List Dt) (x1 x2 : Int) (x3 x4 : Dt) (x5 x6 : Int) (x7 : ByteArray) (x8 : List Dt), l26 jn m [1, 1, 0, 1, 0, 1, 1, 0] [] M1 (s26_1 x0 x1 x2 x3 x4 x5 x6 x7 x8) = rec1 x0 x1 x2 x3 x4 x5 x6 x7 x8) (x0 : List Dt) (x1 x2 : Int) (x3 x4 : Dt) (x5 x6 : Int) (x7 : ByteArray) (x8 : List Dt) : e26 jn m [1, 1, 0, 1, 0, 1, 1, 0, 0, 1, 1] [M1] (s26_2 x0 x1 x2 x3 x4 x5 x6 x7 x8) = order_clone_j2 m (order_clone m) rec1 x0 x1 x2 x3 x4 x5 x6 x7 x8 := by
  have h : ∀ J, e26 J m [1, 1, 0, 1, 0, 1, 1, 0, 0, 1, 1] [M1] (s26_2 x0 x1 x2 x3 x4 x5 x6 x7 x8) =
    ((idx x0 x2).bind fun v1 =>
     ((order_clone m v1).bind fun r2 =>
     ((inL x8 x2).bind fun v3 =>
     ((x8[(Int.toNat x2)]?).bind fun v4 =>
     (J 0 8 0 (s26_3 x0 x1 x2 x3 x4 x5 x6 x7 (List.set x8 (Int.toNat x2) r2)) (e26 J m [1, 1, 0, 1, 0, 1, 1, 0, 0, 1, 1, 1] [M1] (s26_3 x0 x1 x2 x3 x4 x5 x6 x7 (List.set x8 (Int.toNat x2) r2)))))))) := fun J => by kernel_rfl
  exact (h jn).trans (by
    simp only [jn_eq, order_clone_j3_eq m M1 rec1 h1]
    rfl)
theorem order_clone_j8_eq (m : Nat) (M6 : Nat) (rec6 : List Dt → Int → Int → Dt → Int → Int → ByteArray → List Dt → List Dt → Option (Dt)) (h6 : ∀ (x0 : List Dt) (x1 x2 : Int) (x3 : Dt) (x4 x5 : Int) (x6 : ByteArray) (x7 x8 : List Dt), l26 jn m [1, 1, 1, 0, 1, 0, 1, 1, 0] [] M6 (s26_6 x0 x1 x2 x3 x4 x5 x6 x7 x8) = rec6 x0 x1 x2 x3 x4 x5 x6 x7 x8) (x0 : List Dt) (x1 x2 : Int) (x3 : Dt) (x4 x5 : Int) (x6 : ByteArray) (x7 x8 : List Dt) : e26 jn m [1, 1, 1, 0, 1, 0, 1, 1, 0, 0, 1, 1, 1] [M6] (s26_8 x0 x1 x2 x3 x4 x5 x6 x7 x8) = order_clone_j8 m (order_clone m) rec6 x0 x1 x2 x3 x4 x5 x6 x7 x8 := by
  have h : ∀ J, e26 J m [1, 1, 1, 0, 1, 0, 1, 1, 0, 0, 1, 1, 1] [M6] (s26_8 x0 x1 x2 x3 x4 x5 x6 x7 x8) =
    (J 1 12 M6 (s26_6 x0 x1 (IntKind.wrap IntKind.i64 (x2 + (1 : Int))) x3 x4 x5 x6 x7 x8) (l26 J m [1, 1, 1, 0, 1, 0, 1, 1, 0] [] M6 (s26_6 x0 x1 (IntKind.wrap IntKind.i64 (x2 + (1 : Int))) x3 x4 x5 x6 x7 x8))) := fun J => by kernel_rfl
  exact (h jn).trans (by
    simp only [jn_eq, h6]
    rfl)
theorem order_clone_j7_eq (m : Nat) (M6 : Nat) (rec6 : List Dt → Int → Int → Dt → Int → Int → ByteArray → List Dt → List Dt → Option (Dt)) (h6 : ∀ (x0 : List Dt) (x1 x2 : Int) (x3 : Dt) (x4 x5 : Int) (x6 : ByteArray) (x7 x8 : List Dt), l26 jn m [1, 1, 1, 0, 1, 0, 1, 1, 0] [] M6 (s26_6 x0 x1 x2 x3 x4 x5 x6 x7 x8) = rec6 x0 x1 x2 x3 x4 x5 x6 x7 x8) (x0 : List Dt) (x1 x2 : Int) (x3 : Dt) (x4 x5 : Int) (x6 : ByteArray) (x7 x8 : List Dt) : e26 jn m [1, 1, 1, 0, 1, 0, 1, 1, 0, 0, 1, 1] [M6] (s26_7 x0 x1 x2 x3 x4 x5 x6 x7 x8) = order_clone_j7 m (order_clone m) rec6 x0 x1 x2 x3 x4 x5 x6 x7 x8 := by
  have h : ∀ J, e26 J m [1, 1, 1, 0, 1, 0, 1, 1, 0, 0, 1, 1] [M6] (s26_7 x0 x1 x2 x3 x4 x5 x6 x7 x8) =
    ((idx x0 x2).bind fun v6 =>
     ((order_clone m (Dt.fld v6 1)).bind fun r7 =>
     ((inL x8 x2).bind fun v8 =>
     ((x8[(Int.toNat x2)]?).bind fun v9 =>
     (J 0 15 0 (s26_8 x0 x1 x2 x3 x4 x5 x6 x7 (List.set x8 (Int.toNat x2) (Dt.agg [(Dt.str (Dt.S v6 0)), r7]))) (e26 J m [1, 1, 1, 0, 1, 0, 1, 1, 0, 0, 1, 1, 1] [M6] (s26_8 x0 x1 x2 x3 x4 x5 x6 x7 (List.set x8 (Int.toNat x2) (Dt.agg [(Dt.str (Dt.S v6 0)), r7]))))))))) := fun J => by kernel_rfl
  exact (h jn).trans (by
    simp only [jn_eq, order_clone_j8_eq m M6 rec6 h6]
    rfl)
theorem order_clone_j9_eq (m : Nat) (x0 : Dt) (x1 x2 : Int) (x3 : ByteArray) (x4 x5 : List Dt) : e26 jn m [1, 1, 1, 1] [] (s26_9 x0 x1 x2 x3 x4 x5) = order_clone_j9 m (order_clone m) x0 x1 x2 x3 x4 x5 := by
  have h : ∀ J, e26 J m [1, 1, 1, 1] [] (s26_9 x0 x1 x2 x3 x4 x5) =
    some (Dt.agg [(Dt.int x1), (Dt.int x2), (Dt.str x3), (Dt.lst x4), (Dt.lst x5)]) := fun J => by kernel_rfl
  exact (h jn).trans (rfl)
theorem order_clone_l6_eq (m : Nat) : ∀ (M6 : Nat) (x0 : List Dt) (x1 x2 : Int) (x3 : Dt) (x4 x5 : Int) (x6 : ByteArray) (x7 x8 : List Dt), l26 jn m [1, 1, 1, 0, 1, 0, 1, 1, 0] [] M6 (s26_6 x0 x1 x2 x3 x4 x5 x6 x7 x8) = order_clone_l6 m (order_clone m) M6 x0 x1 x2 x3 x4 x5 x6 x7 x8
  | 0, _, _, _, _, _, _, _, _, _ => rfl
  | M6 + 1, x0, x1, x2, x3, x4, x5, x6, x7, x8 => by
    have h : ∀ J, l26 J m [1, 1, 1, 0, 1, 0, 1, 1, 0] [] (M6 + 1) (s26_6 x0 x1 x2 x3 x4 x5 x6 x7 x8) =
    (bif (decide (x2 < x1)) then
     (J 0 13 0 (s26_7 x0 x1 x2 x3 x4 x5 x6 x7 x8) (e26 J m [1, 1, 1, 0, 1, 0, 1, 1, 0, 0, 1, 1] [M6] (s26_7 x0 x1 x2 x3 x4 x5 x6 x7 x8)))
    else
     (J 0 16 0 (s26_9 x3 x4 x5 x6 x7 x8) (e26 J m [1, 1, 1, 1] [] (s26_9 x3 x4 x5 x6 x7 x8)))) := fun J => by kernel_rfl
    refine (h jn).trans ?_
    simp only [jn_eq, order_clone_j7_eq m M6 (order_clone_l6 m (order_clone m) M6) (fun x0 x1 x2 x3 x4 x5 x6 x7 x8 => order_clone_l6_eq m M6 x0 x1 x2 x3 x4 x5 x6 x7 x8), order_clone_j9_eq m]
    rfl
theorem order_clone_j5_eq (m : Nat) (x0 : List Dt) (x1 x2 : Int) (x3 : Dt) (x4 x5 : Int) (x6 : ByteArray) (x7 x8 : List Dt) : e26 jn m [1, 1, 1, 0, 1, 0, 1, 1] [] (s26_5 x0 x1 x2 x3 x4 x5 x6 x7 x8) = order_clone_j5 m (order_clone m) x0 x1 x2 x3 x4 x5 x6 x7 x8 := by
  have h : ∀ J, e26 J m [1, 1, 1, 0, 1, 0, 1, 1] [] (s26_5 x0 x1 x2 x3 x4 x5 x6 x7 x8) =
    (J 1 12 (Nat.succ m) (s26_6 x0 x1 x2 x3 x4 x5 x6 x7 x8) (l26 J m [1, 1, 1, 0, 1, 0, 1, 1, 0] [] (Nat.succ m) (s26_6 x0 x1 x2 x3 x4 x5 x6 x7 x8))) := fun J => by kernel_rfl
  exact (h jn).trans (by
    simp only [jn_eq, order_clone_l6_eq m]
    rfl)
theorem order_clone_j10_eq (m : Nat) (x0 : Dt) (x1 x2 : Int) (x3 : ByteArray) (x4 : List Dt) : e26 jn m [1, 1, 1, 1] [] (s26_10 x0 x1 x2 x3 x4) = order_clone_j10 m (order_clone m) x0 x1 x2 x3 x4 := by
  have h : ∀ J, e26 J m [1, 1, 1, 1] [] (s26_10 x0 x1 x2 x3 x4) =
    some (Dt.agg [(Dt.int x1), (Dt.int x2), (Dt.str x3), (Dt.lst x4), (Dt.lst [])]) := fun J => by kernel_rfl
  exact (h jn).trans (rfl)
theorem order_clone_j4_eq (m : Nat) (x0 x1 : Dt) (x2 x3 : Int) (x4 : ByteArray) (x5 : List Dt) : e26 jn m [1, 1, 1] [] (s26_4 x0 x1 x2 x3 x4 x5) = order_clone_j4 m (order_clone m) x0 x1 x2 x3 x4 x5 := by
  have h : ∀ J, e26 J m [1, 1, 1] [] (s26_4 x0 x1 x2 x3 x4 x5) =
    (bif (decide ((0 : Int) < (((List.length (Dt.L x0 4)) : Nat) : Int))) then
     ((mkL (((List.length (Dt.L x0 4)) : Nat) : Int) (((List.length (Dt.L x0 4)) : Nat) : Int) (Dt.agg [(Dt.str (ByteArray.mk (List.toArray []))), (Dt.agg [(Dt.int (0 : Int)), (Dt.int (0 : Int)), (Dt.str (ByteArray.mk (List.toArray []))), (Dt.lst []), (Dt.lst [])])])).bind fun v5 =>
     (J 0 12 0 (s26_5 (Dt.L x0 4) (((List.length (Dt.L x0 4)) : Nat) : Int) (0 : Int) x1 x2 x3 x4 x5 v5) (e26 J m [1, 1, 1, 0, 1, 0, 1, 1] [] (s26_5 (Dt.L x0 4) (((List.length (Dt.L x0 4)) : Nat) : Int) (0 : Int) x1 x2 x3 x4 x5 v5))))
    else
     (J 0 16 0 (s26_10 x1 x2 x3 x4 x5) (e26 J m [1, 1, 1, 1] [] (s26_10 x1 x2 x3 x4 x5)))) := fun J => by kernel_rfl
  exact (h jn).trans (by
    simp only [jn_eq, order_clone_j5_eq m, order_clone_j10_eq m]
    rfl)
theorem order_clone_l1_eq (m : Nat) : ∀ (M1 : Nat) (x0 : List Dt) (x1 x2 : Int) (x3 x4 : Dt) (x5 x6 : Int) (x7 : ByteArray) (x8 : List Dt), l26 jn m [1, 1, 0, 1, 0, 1, 1, 0] [] M1 (s26_1 x0 x1 x2 x3 x4 x5 x6 x7 x8) = order_clone_l1 m (order_clone m) M1 x0 x1 x2 x3 x4 x5 x6 x7 x8
  | 0, _, _, _, _, _, _, _, _, _ => rfl
  | M1 + 1, x0, x1, x2, x3, x4, x5, x6, x7, x8 => by
    have h : ∀ J, l26 J m [1, 1, 0, 1, 0, 1, 1, 0] [] (M1 + 1) (s26_1 x0 x1 x2 x3 x4 x5 x6 x7 x8) =
    (bif (decide (x2 < x1)) then
     (J 0 6 0 (s26_2 x0 x1 x2 x3 x4 x5 x6 x7 x8) (e26 J m [1, 1, 0, 1, 0, 1, 1, 0, 0, 1, 1] [M1] (s26_2 x0 x1 x2 x3 x4 x5 x6 x7 x8)))
    else
     (J 0 9 0 (s26_4 x3 x4 x5 x6 x7 x8) (e26 J m [1, 1, 1] [] (s26_4 x3 x4 x5 x6 x7 x8)))) := fun J => by kernel_rfl
    refine (h jn).trans ?_
    simp only [jn_eq, order_clone_j2_eq m M1 (order_clone_l1 m (order_clone m) M1) (fun x0 x1 x2 x3 x4 x5 x6 x7 x8 => order_clone_l1_eq m M1 x0 x1 x2 x3 x4 x5 x6 x7 x8), order_clone_j4_eq m]
    rfl
theorem order_clone_j0_eq (m : Nat) (x0 : List Dt) (x1 x2 : Int) (x3 x4 : Dt) (x5 x6 : Int) (x7 : ByteArray) (x8 : List Dt) : e26 jn m [1, 1, 0, 1, 0, 1, 1] [] (s26_0 x0 x1 x2 x3 x4 x5 x6 x7 x8) = order_clone_j0 m (order_clone m) x0 x1 x2 x3 x4 x5 x6 x7 x8 := by
  have h : ∀ J, e26 J m [1, 1, 0, 1, 0, 1, 1] [] (s26_0 x0 x1 x2 x3 x4 x5 x6 x7 x8) =
    (J 1 5 (Nat.succ m) (s26_1 x0 x1 x2 x3 x4 x5 x6 x7 x8) (l26 J m [1, 1, 0, 1, 0, 1, 1, 0] [] (Nat.succ m) (s26_1 x0 x1 x2 x3 x4 x5 x6 x7 x8))) := fun J => by kernel_rfl
  exact (h jn).trans (by
    simp only [jn_eq, order_clone_l1_eq m]
    rfl)
theorem order_clone_j15_eq (m : Nat) (M13 : Nat) (rec13 : List Dt → Int → Int → Dt → Int → Int → ByteArray → List Dt → List Dt → Option (Dt)) (h13 : ∀ (x0 : List Dt) (x1 x2 : Int) (x3 : Dt) (x4 x5 : Int) (x6 : ByteArray) (x7 x8 : List Dt), l26 jn m [1, 1, 1, 0, 1, 0, 1, 1, 0] [] M13 (s26_13 x0 x1 x2 x3 x4 x5 x6 x7 x8) = rec13 x0 x1 x2 x3 x4 x5 x6 x7 x8) (x0 : List Dt) (x1 x2 : Int) (x3 : Dt) (x4 x5 : Int) (x6 : ByteArray) (x7 x8 : List Dt) : e26 jn m [1, 1, 1, 0, 1, 0, 1, 1, 0, 0, 1, 1, 1] [M13] (s26_15 x0 x1 x2 x3 x4 x5 x6 x7 x8) = order_clone_j15 m (order_clone m) rec13 x0 x1 x2 x3 x4 x5 x6 x7 x8 := by
  have h : ∀ J, e26 J m [1, 1, 1, 0, 1, 0, 1, 1, 0, 0, 1, 1, 1] [M13] (s26_15 x0 x1 x2 x3 x4 x5 x6 x7 x8) =
    (J 1 12 M13 (s26_13 x0 x1 (IntKind.wrap IntKind.i64 (x2 + (1 : Int))) x3 x4 x5 x6 x7 x8) (l26 J m [1, 1, 1, 0, 1, 0, 1, 1, 0] [] M13 (s26_13 x0 x1 (IntKind.wrap IntKind.i64 (x2 + (1 : Int))) x3 x4 x5 x6 x7 x8))) := fun J => by kernel_rfl
  exact (h jn).trans (by
    simp only [jn_eq, h13]
    rfl)
theorem order_clone_j14_eq (m : Nat) (M13 : Nat) (rec13 : List Dt → Int → Int → Dt → Int → Int → ByteArray → List Dt → List Dt → Option (Dt)) (h13 : ∀ (x0 : List Dt) (x1 x2 : Int) (x3 : Dt) (x4 x5 : Int) (x6 : ByteArray) (x7 x8 : List Dt), l26 jn m [1, 1, 1, 0, 1, 0, 1, 1, 0] [] M13 (s26_13 x0 x1 x2 x3 x4 x5 x6 x7 x8) = rec13 x0 x1 x2 x3 x4 x5 x6 x7 x8) (x0 : List Dt) (x1 x2 : Int) (x3 : Dt) (x4 x5 : Int) (x6 : ByteArray) (x7 x8 : List Dt) : e26 jn m [1, 1, 1, 0, 1, 0, 1, 1, 0, 0, 1, 1] [M13] (s26_14 x0 x1 x2 x3 x4 x5 x6 x7 x8) = order_clone_j14 m (order_clone m) rec13 x0 x1 x2 x3 x4 x5 x6 x7 x8 := by
  have h : ∀ J, e26 J m [1, 1, 1, 0, 1, 0, 1, 1, 0, 0, 1, 1] [M13] (s26_14 x0 x1 x2 x3 x4 x5 x6 x7 x8) =
    ((idx x0 x2).bind fun v11 =>
     ((order_clone m (Dt.fld v11 1)).bind fun r12 =>
     ((inL x8 x2).bind fun v13 =>
     ((x8[(Int.toNat x2)]?).bind fun v14 =>
     (J 0 15 0 (s26_15 x0 x1 x2 x3 x4 x5 x6 x7 (List.set x8 (Int.toNat x2) (Dt.agg [(Dt.str (Dt.S v11 0)), r12]))) (e26 J m [1, 1, 1, 0, 1, 0, 1, 1, 0, 0, 1, 1, 1] [M13] (s26_15 x0 x1 x2 x3 x4 x5 x6 x7 (List.set x8 (Int.toNat x2) (Dt.agg [(Dt.str (Dt.S v11 0)), r12]))))))))) := fun J => by kernel_rfl
  exact (h jn).trans (by
    simp only [jn_eq, order_clone_j15_eq m M13 rec13 h13]
    rfl)
theorem order_clone_j16_eq (m : Nat) (x0 : Dt) (x1 x2 : Int) (x3 : ByteArray) (x4 x5 : List Dt) : e26 jn m [1, 1, 1, 1] [] (s26_16 x0 x1 x2 x3 x4 x5) = order_clone_j16 m (order_clone m) x0 x1 x2 x3 x4 x5 := by
  have h : ∀ J, e26 J m [1, 1, 1, 1] [] (s26_16 x0 x1 x2 x3 x4 x5) =
    some (Dt.agg [(Dt.int x1), (Dt.int x2), (Dt.str x3), (Dt.lst x4), (Dt.lst x5)]) := fun J => by kernel_rfl
  exact (h jn).trans (rfl)
theorem order_clone_l13_eq (m : Nat) : ∀ (M13 : Nat) (x0 : List Dt) (x1 x2 : Int) (x3 : Dt) (x4 x5 : Int) (x6 : ByteArray) (x7 x8 : List Dt), l26 jn m [1, 1, 1, 0, 1, 0, 1, 1, 0] [] M13 (s26_13 x0 x1 x2 x3 x4 x5 x6 x7 x8) = order_clone_l13 m (order_clone m) M13 x0 x1 x2 x3 x4 x5 x6 x7 x8
  | 0, _, _, _, _, _, _, _, _, _ => rfl
  | M13 + 1, x0, x1, x2, x3, x4, x5, x6, x7, x8 => by
    have h : ∀ J, l26 J m [1, 1, 1, 0, 1, 0, 1, 1, 0] [] (M13 + 1) (s26_13 x0 x1 x2 x3 x4 x5 x6 x7 x8) =
    (bif (decide (x2 < x1)) then
     (J 0 13 0 (s26_14 x0 x1 x2 x3 x4 x5 x6 x7 x8) (e26 J m [1, 1, 1, 0, 1, 0, 1, 1, 0, 0, 1, 1] [M13] (s26_14 x0 x1 x2 x3 x4 x5 x6 x7 x8)))
    else
     (J 0 16 0 (s26_16 x3 x4 x5 x6 x7 x8) (e26 J m [1, 1, 1, 1] [] (s26_16 x3 x4 x5 x6 x7 x8)))) := fun J => by kernel_rfl
    refine (h jn).trans ?_
    simp only [jn_eq, order_clone_j14_eq m M13 (order_clone_l13 m (order_clone m) M13) (fun x0 x1 x2 x3 x4 x5 x6 x7 x8 => order_clone_l13_eq m M13 x0 x1 x2 x3 x4 x5 x6 x7 x8), order_clone_j16_eq m]
    rfl
theorem order_clone_j12_eq (m : Nat) (x0 : List Dt) (x1 x2 : Int) (x3 : Dt) (x4 x5 : Int) (x6 : ByteArray) (x7 x8 : List Dt) : e26 jn m [1, 1, 1, 0, 1, 0, 1, 1] [] (s26_12 x0 x1 x2 x3 x4 x5 x6 x7 x8) = order_clone_j12 m (order_clone m) x0 x1 x2 x3 x4 x5 x6 x7 x8 := by
  have h : ∀ J, e26 J m [1, 1, 1, 0, 1, 0, 1, 1] [] (s26_12 x0 x1 x2 x3 x4 x5 x6 x7 x8) =
    (J 1 12 (Nat.succ m) (s26_13 x0 x1 x2 x3 x4 x5 x6 x7 x8) (l26 J m [1, 1, 1, 0, 1, 0, 1, 1, 0] [] (Nat.succ m) (s26_13 x0 x1 x2 x3 x4 x5 x6 x7 x8))) := fun J => by kernel_rfl
  exact (h jn).trans (by
    simp only [jn_eq, order_clone_l13_eq m]
    rfl)
theorem order_clone_j17_eq (m : Nat) (x0 x1 : Dt) : e26 jn m [1, 1, 1, 1] [] (s26_17 x0 x1) = order_clone_j17 m (order_clone m) x0 x1 := by
  have h : ∀ J, e26 J m [1, 1, 1, 1] [] (s26_17 x0 x1) =
    some x1 := fun J => by kernel_rfl
  exact (h jn).trans (rfl)
theorem order_clone_j11_eq (m : Nat) (x0 x1 x2 : Dt) : e26 jn m [1, 1, 1] [] (s26_11 x0 x1 x2) = order_clone_j11 m (order_clone m) x0 x1 x2 := by
  have h : ∀ J, e26 J m [1, 1, 1] [] (s26_11 x0 x1 x2) =
    (bif (decide ((0 : Int) < (((List.length (Dt.L x0 4)) : Nat) : Int))) then
     ((mkL (((List.length (Dt.L x0 4)) : Nat) : Int) (((List.length (Dt.L x0 4)) : Nat) : Int) (Dt.agg [(Dt.str (ByteArray.mk (List.toArray []))), (Dt.agg [(Dt.int (0 : Int)), (Dt.int (0 : Int)), (Dt.str (ByteArray.mk (List.toArray []))), (Dt.lst []), (Dt.lst [])])])).bind fun v10 =>
     (J 0 12 0 (s26_12 (Dt.L x0 4) (((List.length (Dt.L x0 4)) : Nat) : Int) (0 : Int) x1 (Dt.I x2 0) (Dt.I x2 1) (Dt.S x2 2) (Dt.L x2 3) v10) (e26 J m [1, 1, 1, 0, 1, 0, 1, 1] [] (s26_12 (Dt.L x0 4) (((List.length (Dt.L x0 4)) : Nat) : Int) (0 : Int) x1 (Dt.I x2 0) (Dt.I x2 1) (Dt.S x2 2) (Dt.L x2 3) v10))))
    else
     (J 0 16 0 (s26_17 x1 x2) (e26 J m [1, 1, 1, 1] [] (s26_17 x1 x2)))) := fun J => by kernel_rfl
  exact (h jn).trans (by
    simp only [jn_eq, order_clone_j12_eq m, order_clone_j17_eq m]
    rfl)
theorem order_clone_eq (m : Nat) (a0 : Dt) : e26 jn m [] [] ⟨[(.dat 30 a0)], [], 0⟩ = order_clone (m + 1) a0 := by
  have h : ∀ J, e26 J m [] [] ⟨[(.dat 30 a0)], [], 0⟩ =
    (bif (decide ((0 : Int) < (((List.length (Dt.L a0 3)) : Nat) : Int))) then
     ((mkL (((List.length (Dt.L a0 3)) : Nat) : Int) (((List.length (Dt.L a0 3)) : Nat) : Int) (Dt.agg [(Dt.int (0 : Int)), (Dt.int (0 : Int)), (Dt.str (ByteArray.mk (List.toArray []))), (Dt.lst []), (Dt.lst [])])).bind fun v0 =>
     (J 0 5 0 (s26_0 (Dt.L a0 3) (((List.length (Dt.L a0 3)) : Nat) : Int) (0 : Int) a0 (Dt.agg [(Dt.int (0 : Int)), (Dt.int (0 : Int)), (Dt.str (ByteArray.mk (List.toArray []))), (Dt.lst []), (Dt.lst [])]) (Dt.I a0 0) (Dt.I a0 1) (Dt.S a0 2) v0) (e26 J m [1, 1, 0, 1, 0, 1, 1] [] (s26_0 (Dt.L a0 3) (((List.length (Dt.L a0 3)) : Nat) : Int) (0 : Int) a0 (Dt.agg [(Dt.int (0 : Int)), (Dt.int (0 : Int)), (Dt.str (ByteArray.mk (List.toArray []))), (Dt.lst []), (Dt.lst [])]) (Dt.I a0 0) (Dt.I a0 1) (Dt.S a0 2) v0))))
    else
     (J 0 9 0 (s26_11 a0 (Dt.agg [(Dt.int (0 : Int)), (Dt.int (0 : Int)), (Dt.str (ByteArray.mk (List.toArray []))), (Dt.lst []), (Dt.lst [])]) (Dt.agg [(Dt.int (Dt.I a0 0)), (Dt.int (Dt.I a0 1)), (Dt.str (Dt.S a0 2)), (Dt.lst []), (Dt.lst [])])) (e26 J m [1, 1, 1] [] (s26_11 a0 (Dt.agg [(Dt.int (0 : Int)), (Dt.int (0 : Int)), (Dt.str (ByteArray.mk (List.toArray []))), (Dt.lst []), (Dt.lst [])]) (Dt.agg [(Dt.int (Dt.I a0 0)), (Dt.int (Dt.I a0 1)), (Dt.str (Dt.S a0 2)), (Dt.lst []), (Dt.lst [])]))))) := fun J => by kernel_rfl
  refine (h jn).trans ?_
  simp only [jn_eq, order_clone_j0_eq m, order_clone_j11_eq m]
  rfl
noncomputable def d36 (q : Res) : Option (Int) := match q with
  | (.dat T0 x0, []) => bif Nat.beq T0 3 then some x0.toInt else none
  | _ => none
theorem d36_sim {b : Res} {r : Int} (h : d36 b = some r) : Sim Tryd.prog b ((.dat 3 (.int r)), []) := by
  unfold d36 at h
  split at h
  · obtain ⟨hc, h2⟩ := bif_some h
    cases h2
    have e0 := beq_eq hc
    subst e0
    exact Sim.of (.of (.dat (.int Tryd.underlying3)) rfl rfl) .nil
  · cases h
noncomputable def e36 (J : Nat → Nat → Nat → St → Option (Int) → Option (Int)) (m : Nat) (p ms : List Nat) (σ : St) := evAt Tryd.prog env (ct m) J (m + 1) 53 11 Tryd.f53 d36 p ms σ
noncomputable def l36 (J : Nat → Nat → Nat → St → Option (Int) → Option (Int)) (m : Nat) (p ms : List Nat) (M : Nat) (σ : St) := loopAt Tryd.prog env (ct m) J (m + 1) 53 11 Tryd.f53 d36 p ms M σ
noncomputable def s36_1 : St := ⟨tsOf [], [], 0⟩
noncomputable def s36_0 (x0 x1 : Int) : St := ⟨tsOf [(0, (.dat 3 (.int x0))), (1, (.dat 3 (.int x1)))], [], 0⟩
theorem ref01_Ints_j1_eq (m : Nat) : e36 jn m [1, 1, 1] [] s36_1 = ref01_Ints_j1 m := by
  have h : ∀ J, e36 J m [1, 1, 1] [] s36_1 =
    some (0 : Int) := fun J => by kernel_rfl
  exact (h jn).trans (rfl)
theorem ref01_Ints_j0_eq (m : Nat) (x0 x1 : Int) : e36 jn m [1, 1] [] (s36_0 x0 x1) = ref01_Ints_j0 m x0 x1 := by
  have h : ∀ J, e36 J m [1, 1] [] (s36_0 x0 x1) =
    (bif (decide (x1 < x0)) then
     some (1 : Int)
    else
     (J 0 5 0 s36_1 (e36 J m [1, 1, 1] [] s36_1))) := fun J => by kernel_rfl
  exact (h jn).trans (by
    simp only [jn_eq, ref01_Ints_j1_eq m]
    rfl)
theorem ref01_Ints_eq (m : Nat) (a0 a1 : Int) : e36 jn m [] [] ⟨[(.dat 3 (.int a0)), (.dat 3 (.int a1))], [], 0⟩ = ref01_Ints (m + 1) a0 a1 := by
  have h : ∀ J, e36 J m [] [] ⟨[(.dat 3 (.int a0)), (.dat 3 (.int a1))], [], 0⟩ =
    (bif (decide (a0 < a1)) then
     some (-1 : Int)
    else
     (J 0 3 0 (s36_0 a0 a1) (e36 J m [1, 1] [] (s36_0 a0 a1)))) := fun J => by kernel_rfl
  refine (h jn).trans ?_
  simp only [jn_eq, ref01_Ints_j0_eq m]
  rfl
noncomputable def d37 (q : Res) : Option (Int) := match q with
  | (.dat T0 x0, []) => bif Nat.beq T0 3 then some x0.toInt else none
  | _ => none
theorem d37_sim {b : Res} {r : Int} (h : d37 b = some r) : Sim Tryd.prog b ((.dat 3 (.int r)), []) := by
  unfold d37 at h
  split at h
  · obtain ⟨hc, h2⟩ := bif_some h
    cases h2
    have e0 := beq_eq hc
    subst e0
    exact Sim.of (.of (.dat (.int Tryd.underlying3)) rfl rfl) .nil
  · cases h
noncomputable def e37 (J : Nat → Nat → Nat → St → Option (Int) → Option (Int)) (m : Nat) (p ms : List Nat) (σ : St) := evAt Tryd.prog env (ct m) J (m + 1) 54 39 Tryd.f54 d37 p ms σ
noncomputable def l37 (J : Nat → Nat → Nat → St → Option (Int) → Option (Int)) (m : Nat) (p ms : List Nat) (M : Nat) (σ : St) := loopAt Tryd.prog env (ct m) J (m + 1) 54 39 Tryd.f54 d37 p ms M σ
noncomputable def s37_3 (x0 x1 : ByteArray) (x2 : Int) : St := ⟨tsOf [(0, (.dat 9 (.str x0))), (1, (.dat 9 (.str x1))), (5, (.dat 3 (.int x2)))], [], 0⟩
noncomputable def s37_2 (x0 x1 : ByteArray) (x2 : Int) : St := ⟨tsOf [(0, (.dat 9 (.str x0))), (1, (.dat 9 (.str x1))), (5, (.dat 3 (.int x2)))], [], 0⟩
noncomputable def s37_4 (x0 x1 : ByteArray) : St := ⟨tsOf [(0, (.dat 9 (.str x0))), (1, (.dat 9 (.str x1)))], [], 0⟩
noncomputable def s37_1 (x0 x1 : ByteArray) (x2 : Int) : St := ⟨tsOf [(0, (.dat 9 (.str x0))), (1, (.dat 9 (.str x1))), (5, (.dat 3 (.int x2)))], [], 0⟩
noncomputable def s37_0 (x0 x1 : ByteArray) (x2 : Int) : St := ⟨tsOf [(0, (.dat 9 (.str x0))), (1, (.dat 9 (.str x1))), (5, (.dat 3 (.int x2)))], [], 0⟩
theorem ref01_Texts_j3_eq (m : Nat) (M1 : Nat) (rec1 : ByteArray → ByteArray → Int → Option (Int)) (h1 : ∀ (x0 x1 : ByteArray) (x2 : Int), l37 jn m [1, 0, 1, 0] [] M1 (s37_1 x0 x1 x2) = rec1 x0 x1 x2) (x0 x1 : ByteArray) (x2 : Int) : e37 jn m [1, 0, 1, 0, 0, 1, 1] [M1] (s37_3 x0 x1 x2) = ref01_Texts_j3 m rec1 x0 x1 x2 := by
  have h : ∀ J, e37 J m [1, 0, 1, 0, 0, 1, 1] [M1] (s37_3 x0 x1 x2) =
    (J 1 2 M1 (s37_1 x0 x1 (IntKind.wrap IntKind.i64 (x2 + (1 : Int)))) (l37 J m [1, 0, 1, 0] [] M1 (s37_1 x0 x1 (IntKind.wrap IntKind.i64 (x2 + (1 : Int)))))) := fun J => by kernel_rfl
  exact (h jn).trans (by
    simp only [jn_eq, h1]
    rfl)
theorem ref01_Texts_j2_eq (m : Nat) (M1 : Nat) (rec1 : ByteArray → ByteArray → Int → Option (Int)) (h1 : ∀ (x0 x1 : ByteArray) (x2 : Int), l37 jn m [1, 0, 1, 0] [] M1 (s37_1 x0 x1 x2) = rec1 x0 x1 x2) (x0 x1 : ByteArray) (x2 : Int) : e37 jn m [1, 0, 1, 0, 0, 1] [M1] (s37_2 x0 x1 x2) = ref01_Texts_j2 m rec1 x0 x1 x2 := by
  have h : ∀ J, e37 J m [1, 0, 1, 0, 0, 1] [M1] (s37_2 x0 x1 x2) =
    ((idxS x0 x2).bind fun v0 =>
     ((idxS x1 x2).bind fun v1 =>
     (bif (v0 != v1) then
     ((idxS x0 x2).bind fun v2 =>
     ((idxS x1 x2).bind fun v3 =>
     ((ref01_Ints m (IntKind.wrap IntKind.i64 v2) (IntKind.wrap IntKind.i64 v3)).bind fun r4 =>
     some r4)))
     else
     (J 0 3 0 (s37_3 x0 x1 x2) (e37 J m [1, 0, 1, 0, 0, 1, 1] [M1] (s37_3 x0 x1 x2)))))) := fun J => by kernel_rfl
  exact (h jn).trans (by
    simp only [jn_eq, ref01_Texts_j3_eq m M1 rec1 h1]
    rfl)
theorem ref01_Texts_j4_eq (m : Nat) (x0 x1 : ByteArray) : e37 jn m [1, 1] [] (s37_4 x0 x1) = ref01_Texts_j4 m x0 x1 := by
  have h : ∀ J, e37 J m [1, 1] [] (s37_4 x0 x1) =
    ((ref01_Ints m (((ByteArray.size x0) : Nat) : Int) (((ByteArray.size x1) : Nat) : Int)).bind fun r5 =>
     some r5) := fun J => by kernel_rfl
  exact (h jn).trans (rfl)
theorem ref01_Texts_l1_eq (m : Nat) : ∀ (M1 : Nat) (x0 x1 : ByteArray) (x2 : Int), l37 jn m [1, 0, 1, 0] [] M1 (s37_1 x0 x1 x2) = ref01_Texts_l1 m M1 x0 x1 x2
  | 0, _, _, _ => rfl
  | M1 + 1, x0, x1, x2 => by
    have h : ∀ J, l37 J m [1, 0, 1, 0] [] (M1 + 1) (s37_1 x0 x1 x2) =
    (bif (decide (x2 < (((ByteArray.size x0) : Nat) : Int))) then
     (bif (decide (x2 < (((ByteArray.size x1) : Nat) : Int))) then
     (J 0 4 0 (s37_2 x0 x1 x2) (e37 J m [1, 0, 1, 0, 0, 1] [M1] (s37_2 x0 x1 x2)))
     else
     (J 0 6 0 (s37_4 x0 x1) (e37 J m [1, 1] [] (s37_4 x0 x1))))
    else
     (J 0 6 0 (s37_4 x0 x1) (e37 J m [1, 1] [] (s37_4 x0 x1)))) := fun J => by kernel_rfl
    refine (h jn).trans ?_
    simp only [jn_eq, ref01_Texts_j2_eq m M1 (ref01_Texts_l1 m M1) (fun x0 x1 x2 => ref01_Texts_l1_eq m M1 x0 x1 x2), ref01_Texts_j4_eq m]
    rfl
theorem ref01_Texts_j0_eq (m : Nat) (x0 x1 : ByteArray) (x2 : Int) : e37 jn m [1, 0, 1] [] (s37_0 x0 x1 x2) = ref01_Texts_j0 m x0 x1 x2 := by
  have h : ∀ J, e37 J m [1, 0, 1] [] (s37_0 x0 x1 x2) =
    (J 1 2 (Nat.succ m) (s37_1 x0 x1 x2) (l37 J m [1, 0, 1, 0] [] (Nat.succ m) (s37_1 x0 x1 x2))) := fun J => by kernel_rfl
  exact (h jn).trans (by
    simp only [jn_eq, ref01_Texts_l1_eq m]
    rfl)
theorem ref01_Texts_eq (m : Nat) (a0 a1 : ByteArray) : e37 jn m [] [] ⟨[(.dat 9 (.str a0)), (.dat 9 (.str a1))], [], 0⟩ = ref01_Texts (m + 1) a0 a1 := by
  have h : ∀ J, e37 J m [] [] ⟨[(.dat 9 (.str a0)), (.dat 9 (.str a1))], [], 0⟩ =
    (J 0 2 0 (s37_0 a0 a1 (0 : Int)) (e37 J m [1, 0, 1] [] (s37_0 a0 a1 (0 : Int)))) := fun J => by kernel_rfl
  refine (h jn).trans ?_
  simp only [jn_eq, ref01_Texts_j0_eq m]
  rfl
noncomputable def d28 (q : Res) : Option (Int) := match q with
  | (.dat T0 x0, []) => bif Nat.beq T0 3 then some x0.toInt else none
  | _ => none
theorem d28_sim {b : Res} {r : Int} (h : d28 b = some r) : Sim Tryd.prog b ((.dat 3 (.int r)), []) := by
  unfold d28 at h
  split at h
  · obtain ⟨hc, h2⟩ := bif_some h
    cases h2
    have e0 := beq_eq hc
    subst e0
    exact Sim.of (.of (.dat (.int Tryd.underlying3)) rfl rfl) .nil
  · cases h
noncomputable def e28 (J : Nat → Nat → Nat → St → Option (Int) → Option (Int)) (m : Nat) (p ms : List Nat) (σ : St) := evAt Tryd.prog env (ct m) J (m + 1) 40 130 Tryd.f40 d28 p ms σ
noncomputable def l28 (J : Nat → Nat → Nat → St → Option (Int) → Option (Int)) (m : Nat) (p ms : List Nat) (M : Nat) (σ : St) := loopAt Tryd.prog env (ct m) J (m + 1) 40 130 Tryd.f40 d28 p ms M σ
noncomputable def s28_4 (x0 : Int) (x1 x2 : Dt) : St := ⟨tsOf [(2, (.ptr 0 [] 0)), (3, (.ptr 1 [] 0)), (5, (.dat 3 (.int x0)))], [(.box 30 (.dat 30 x1)), (.box 30 (.dat 30 x2))], 0⟩
noncomputable def s28_3 (x0 : Int) (x1 x2 : Dt) : St := ⟨tsOf [(2, (.ptr 0 [] 0)), (3, (.ptr 1 [] 0)), (5, (.dat 3 (.int x0)))], [(.box 30 (.dat 30 x1)), (.box 30 (.dat 30 x2))], 0⟩
noncomputable def s28_5 (x0 x1 : Dt) : St := ⟨tsOf [(2, (.ptr 0 [] 0)), (3, (.ptr 1 [] 0))], [(.box 30 (.dat 30 x0)), (.box 30 (.dat 30 x1))], 0⟩
noncomputable def s28_2 (x0 : Int) (x1 x2 : Dt) : St := ⟨tsOf [(2, (.ptr 0 [] 0)), (3, (.ptr 1 [] 0)), (5, (.dat 3 (.int x0)))], [(.box 30 (.dat 30 x1)), (.box 30 (.dat 30 x2))], 0⟩
noncomputable def s28_1 (x0 : Int) (x1 x2 : Dt) : St := ⟨tsOf [(2, (.ptr 0 [] 0)), (3, (.ptr 1 [] 0)), (5, (.dat 3 (.int x0)))], [(.box 30 (.dat 30 x1)), (.box 30 (.dat 30 x2))], 0⟩
noncomputable def s28_10 (x0 : Int) (x1 x2 : Dt) : St := ⟨tsOf [(2, (.ptr 0 [] 0)), (3, (.ptr 1 [] 0)), (7, (.dat 3 (.int x0)))], [(.box 30 (.dat 30 x1)), (.box 30 (.dat 30 x2))], 0⟩
noncomputable def s28_9 (x0 x1 : Int) (x2 x3 : Dt) : St := ⟨tsOf [(2, (.ptr 0 [] 0)), (3, (.ptr 1 [] 0)), (7, (.dat 3 (.int x0))), (8, (.dat 3 (.int x1)))], [(.box 30 (.dat 30 x2)), (.box 30 (.dat 30 x3))], 0⟩
noncomputable def s28_8 (x0 : Int) (x1 x2 : Dt) : St := ⟨tsOf [(2, (.ptr 0 [] 0)), (3, (.ptr 1 [] 0)), (7, (.dat 3 (.int x0)))], [(.box 30 (.dat 30 x1)), (.box 30 (.dat 30 x2))], 0⟩
noncomputable def s28_11 (x0 x1 : Dt) : St := ⟨tsOf [(2, (.ptr 0 [] 0)), (3, (.ptr 1 [] 0))], [(.box 30 (.dat 30 x0)), (.box 30 (.dat 30 x1))], 0⟩
noncomputable def s28_7 (x0 : Int) (x1 x2 : Dt) : St := ⟨tsOf [(2, (.ptr 0 [] 0)), (3, (.ptr 1 [] 0)), (7, (.dat 3 (.int x0)))], [(.box 30 (.dat 30 x1)), (.box 30 (.dat 30 x2))], 0⟩
noncomputable def s28_6 (x0 : Int) (x1 x2 : Dt) : St := ⟨tsOf [(2, (.ptr 0 [] 0)), (3, (.ptr 1 [] 0)), (7, (.dat 3 (.int x0)))], [(.box 30 (.dat 30 x1)), (.box 30 (.dat 30 x2))], 0⟩
noncomputable def s28_12 : St := ⟨tsOf [], [], 0⟩
noncomputable def s28_0 (x0 x1 : Dt) : St := ⟨tsOf [(2, (.ptr 0 [] 0)), (3, (.ptr 1 [] 0))], [(.box 30 (.dat 30 x0)), (.box 30 (.dat 30 x1))], 0⟩
theorem ref01_Compare_j4_eq (m : Nat) (M2 : Nat) (rec2 : Int → Dt → Dt → Option (Int)) (h2 : ∀ (x0 : Int) (x1 x2 : Dt), l28 jn m [1, 1, 0, 1, 0, 1, 1, 1, 1, 1, 0, 0, 1, 0] [] M2 (s28_2 x0 x1 x2) = rec2 x0 x1 x2) (x0 : Int) (x1 x2 : Dt) : e28 jn m [1, 1, 0, 1, 0, 1, 1, 1, 1, 1, 0, 0, 1, 0, 0, 1, 1] [M2] (s28_4 x0 x1 x2) = ref01_Compare_j4 m (ref01_Compare m) rec2 x0 x1 x2 := by
  have h : ∀ J, e28 J m [1, 1, 0, 1, 0, 1, 1, 1, 1, 1, 0, 0, 1, 0, 0, 1, 1] [M2] (s28_4 x0 x1 x2) =
    (J 1 14 M2 (s28_2 (IntKind.wrap IntKind.i64 (x0 + (1 : Int))) x1 x2) (l28 J m [1, 1, 0, 1, 0, 1, 1, 1, 1, 1, 0, 0, 1, 0] [] M2 (s28_2 (IntKind.wrap IntKind.i64 (x0 + (1 : Int))) x1 x2))) := fun J => by kernel_rfl
  exact (h jn).trans (by
    simp only [jn_eq, h2]
    rfl)
theorem ref01_Compare_j3_eq (m : Nat) (M2 : Nat) (rec2 : Int → Dt → Dt → Option (Int)) (h2 : ∀ (x0 : Int) (x1 x2 : Dt), l28 jn m [1, 1, 0, 1, 0, 1, 1, 1, 1, 1, 0, 0, 1, 0] [] M2 (s28_2 x0 x1 x2) = rec2 x0 x1 x2) (x0 : Int) (x1 x2 : Dt) : e28 jn m [1, 1, 0, 1, 0, 1, 1, 1, 1, 1, 0, 0, 1, 0, 0, 1] [M2] (s28_3 x0 x1 x2) = ref01_Compare_j3 m (ref01_Compare m) rec2 x0 x1 x2 := by
  have h : ∀ J, e28 J m [1, 1, 0, 1, 0, 1, 1, 1, 1, 1, 0, 0, 1, 0, 0, 1] [M2] (s28_3 x0 x1 x2) =
    ((idx (Dt.L x1 3) x0).bind fun v3 =>
     ((idx (Dt.L x2 3) x0).bind fun v4 =>
     ((ref01_Compare m v3 v4).bind fun r5 =>
     (bif (r5 != (0 : Int)) then
     some r5
     else
     (J 0 15 0 (s28_4 x0 x1 x2) (e28 J m [1, 1, 0, 1, 0, 1, 1, 1, 1, 1, 0, 0, 1, 0, 0, 1, 1] [M2] (s28_4 x0 x1 x2))))))) := fun J => by kernel_rfl
  exact (h jn).trans (by
    simp only [jn_eq, ref01_Compare_j4_eq m M2 rec2 h2]
    rfl)
theorem ref01_Compare_j5_eq (m : Nat) (x0 x1 : Dt) : e28 jn m [1, 1, 0, 1, 0, 1, 1, 1, 1, 1, 0, 1] [] (s28_5 x0 x1) = ref01_Compare_j5 m (ref01_Compare m) x0 x1 := by
  have h : ∀ J, e28 J m [1, 1, 0, 1, 0, 1, 1, 1, 1, 1, 0, 1] [] (s28_5 x0 x1) =
    ((ref01_Ints m (((List.length (Dt.L x0 3)) : Nat) : Int) (((List.length (Dt.L x1 3)) : Nat) : Int)).bind fun r6 =>
     some r6) := fun J => by kernel_rfl
  exact (h jn).trans (rfl)
theorem ref01_Compare_l2_eq (m : Nat) : ∀ (M2 : Nat) (x0 : Int) (x1 x2 : Dt), l28 jn m [1, 1, 0, 1, 0, 1, 1, 1, 1, 1, 0, 0, 1, 0] [] M2 (s28_2 x0 x1 x2) = ref01_Compare_l2 m (ref01_Compare m) M2 x0 x1 x2
  | 0, _, _, _ => rfl
  | M2 + 1, x0, x1, x2 => by
    have h : ∀ J, l28 J m [1, 1, 0, 1, 0, 1, 1, 1, 1, 1, 0, 0, 1, 0] [] (M2 + 1) (s28_2 x0 x1 x2) =
    (bif (decide (x0 < (((List.length (Dt.L x1 3)) : Nat) : Int))) then
     (bif (decide (x0 < (((List.length (Dt.L x2 3)) : Nat) : Int))) then
     (J 0 16 0 (s28_3 x0 x1 x2) (e28 J m [1, 1, 0, 1, 0, 1, 1, 1, 1, 1, 0, 0, 1, 0, 0, 1] [M2] (s28_3 x0 x1 x2)))
     else
     (J 0 19 0 (s28_5 x1 x2) (e28 J m [1, 1, 0, 1, 0, 1, 1, 1, 1, 1, 0, 1] [] (s28_5 x1 x2))))
    else
     (J 0 19 0 (s28_5 x1 x2) (e28 J m [1, 1, 0, 1, 0, 1, 1, 1, 1, 1, 0, 1] [] (s28_5 x1 x2)))) := fun J => by kernel_rfl
    refine (h jn).trans ?_
    simp only [jn_eq, ref01_Compare_j3_eq m M2 (ref01_Compare_l2 m (ref01_Compare m) M2) (fun x0 x1 x2 => ref01_Compare_l2_eq m M2 x0 x1 x2), ref01_Compare_j5_eq m]
    rfl
theorem ref01_Compare_j1_eq (m : Nat) (x0 : Int) (x1 x2 : Dt) : e28 jn m [1, 1, 0, 1, 0, 1, 1, 1, 1, 1, 0, 0, 1] [] (s28_1 x0 x1 x2) = ref01_Compare_j1 m (ref01_Compare m) x0 x1 x2 := by
  have h : ∀ J, e28 J m [1, 1, 0, 1, 0, 1, 1, 1, 1, 1, 0, 0, 1] [] (s28_1 x0 x1 x2) =
    (J 1 14 (Nat.succ m) (s28_2 x0 x1 x2) (l28 J m [1, 1, 0, 1, 0, 1, 1, 1, 1, 1, 0, 0, 1, 0] [] (Nat.succ m) (s28_2 x0 x1 x2))) := fun J => by kernel_rfl
  exact (h jn).trans (by
    simp only [jn_eq, ref01_Compare_l2_eq m]
    rfl)
theorem ref01_Compare_j10_eq (m : Nat) (M7 : Nat) (rec7 : Int → Dt → Dt → Option (Int)) (h7 : ∀ (x0 : Int) (x1 x2 : Dt), l28 jn m [1, 1, 0, 1, 0, 1, 1, 1, 1, 1, 1, 1, 0, 0, 1, 0] [] M7 (s28_7 x0 x1 x2) = rec7 x0 x1 x2) (x0 : Int) (x1 x2 : Dt) : e28 jn m [1, 1, 0, 1, 0, 1, 1, 1, 1, 1, 1, 1, 0, 0, 1, 0, 0, 1, 1] [M7] (s28_10 x0 x1 x2) = ref01_Compare_j10 m (ref01_Compare m) rec7 x0 x1 x2 := by
  have h : ∀ J, e28 J m [1, 1, 0, 1, 0, 1, 1, 1, 1, 1, 1, 1, 0, 0, 1, 0, 0, 1, 1] [M7] (s28_10 x0 x1 x2) =
    (J 1 22 M7 (s28_7 (IntKind.wrap IntKind.i64 (x0 + (1 : Int))) x1 x2) (l28 J m [1, 1, 0, 1, 0, 1, 1, 1, 1, 1, 1, 1, 0, 0, 1, 0] [] M7 (s28_7 (IntKind.wrap IntKind.i64 (x0 + (1 : Int))) x1 x2))) := fun J => by kernel_rfl
  exact (h jn).trans (by
    simp only [jn_eq, h7]
    rfl)
theorem ref01_Compare_j9_eq (m : Nat) (M7 : Nat) (rec7 : Int → Dt → Dt → Option (Int)) (h7 : ∀ (x0 : Int) (x1 x2 : Dt), l28 jn m [1, 1, 0, 1, 0, 1, 1, 1, 1, 1, 1, 1, 0, 0, 1, 0] [] M7 (s28_7 x0 x1 x2) = rec7 x0 x1 x2) (x0 x1 : Int) (x2 x3 : Dt) : e28 jn m [1, 1, 0, 1, 0, 1, 1, 1, 1, 1, 1, 1, 0, 0, 1, 0, 0, 1, 0, 0, 1, 1] [M7] (s28_9 x0 x1 x2 x3) = ref01_Compare_j9 m (ref01_Compare m) rec7 x0 x1 x2 x3 := by
  have h : ∀ J, e28 J m [1, 1, 0, 1, 0, 1, 1, 1, 1, 1, 1, 1, 0, 0, 1, 0, 0, 1, 0, 0, 1, 1] [M7] (s28_9 x0 x1 x2 x3) =
    (bif (x1 != (0 : Int)) then
     some x1
    else
     (J 0 23 0 (s28_10 x0 x2 x3) (e28 J m [1, 1, 0, 1, 0, 1, 1, 1, 1, 1, 1, 1, 0, 0, 1, 0, 0, 1, 1] [M7] (s28_10 x0 x2 x3)))) := fun J => by kernel_rfl
  exact (h jn).trans (by
    simp only [jn_eq, ref01_Compare_j10_eq m M7 rec7 h7]
    rfl)
theorem ref01_Compare_j8_eq (m : Nat) (M7 : Nat) (rec7 : Int → Dt → Dt → Option (Int)) (h7 : ∀ (x0 : Int) (x1 x2 : Dt), l28 jn m [1, 1, 0, 1, 0, 1, 1, 1, 1, 1, 1, 1, 0, 0, 1, 0] [] M7 (s28_7 x0 x1 x2) = rec7 x0 x1 x2) (x0 : Int) (x1 x2 : Dt) : e28 jn m [1, 1, 0, 1, 0, 1, 1, 1, 1, 1, 1, 1, 0, 0, 1, 0, 0, 1] [M7] (s28_8 x0 x1 x2) = ref01_Compare_j8 m (ref01_Compare m) rec7 x0 x1 x2 := by
  have h : ∀ J, e28 J m [1, 1, 0, 1, 0, 1, 1, 1, 1, 1, 1, 1, 0, 0, 1, 0, 0, 1] [M7] (s28_8 x0 x1 x2) =
    ((idx (Dt.L x1 4) x0).bind fun v7 =>
     ((idx (Dt.L x2 4) x0).bind fun v8 =>
     ((ref01_Texts m (Dt.S v7 0) (Dt.S v8 0)).bind fun r9 =>
     (bif (r9 == (0 : Int)) then
     ((idx (Dt.L x1 4) x0).bind fun v10 =>
     ((idx (Dt.L x2 4) x0).bind fun v11 =>
     ((ref01_Compare m (Dt.fld v10 1) (Dt.fld v11 1)).bind fun r12 =>
     (J 0 27 0 (s28_9 x0 r12 x1 x2) (e28 J m [1, 1, 0, 1, 0, 1, 1, 1, 1, 1, 1, 1, 0, 0, 1, 0, 0, 1, 0, 0, 1, 1] [M7] (s28_9 x0 r12 x1 x2))))))
     else
     (J 0 27 0 (s28_9 x0 r9 x1 x2) (e28 J m [1, 1, 0, 1, 0, 1, 1, 1, 1, 1, 1, 1, 0, 0, 1, 0, 0, 1, 0, 0, 1, 1] [M7] (s28_9 x0 r9 x1 x2))))))) := fun J => by kernel_rfl
  exact (h jn).trans (by
    simp only [jn_eq, ref01_Compare_j9_eq m M7 rec7 h7]
    rfl)
theorem ref01_Compare_j11_eq (m : Nat) (x0 x1 : Dt) : e28 jn m [1, 1, 0, 1, 0, 1, 1, 1, 1, 1, 1, 1, 0, 1] [] (s28_11 x0 x1) = ref01_Compare_j11 m (ref01_Compare m) x0 x1 := by
  have h : ∀ J, e28 J m [1, 1, 0, 1, 0, 1, 1, 1, 1, 1, 1, 1, 0, 1] [] (s28_11 x0 x1) =
    ((ref01_Ints m (((List.length (Dt.L x0 4)) : Nat) : Int) (((List.length (Dt.L x1 4)) : Nat) : Int)).bind fun r13 =>
     some r13) := fun J => by kernel_rfl
  exact (h jn).trans (rfl)
theorem ref01_Compare_l7_eq (m : Nat) : ∀ (M7 : Nat) (x0 : Int) (x1 x2 : Dt), l28 jn m [1, 1, 0, 1, 0, 1, 1, 1, 1, 1, 1, 1, 0, 0, 1, 0] [] M7 (s28_7 x0 x1 x2) = ref01_Compare_l7 m (ref01_Compare m) M7 x0 x1 x2
  | 0, _, _, _ => rfl
  | M7 + 1, x0, x1, x2 => by
    have h : ∀ J, l28 J m [1, 1, 0, 1, 0, 1, 1, 1, 1, 1, 1, 1, 0, 0, 1, 0] [] (M7 + 1) (s28_7 x0 x1 x2) =
    (bif (decide (x0 < (((List.length (Dt.L x1 4)) : Nat) : Int))) then
     (bif (decide (x0 < (((List.length (Dt.L x2 4)) : Nat) : Int))) then
     (J 0 24 0 (s28_8 x0 x1 x2) (e28 J m [1, 1, 0, 1, 0, 1, 1, 1, 1, 1, 1, 1, 0, 0, 1, 0, 0, 1] [M7] (s28_8 x0 x1 x2)))
     else
     (J 0 29 0 (s28_11 x1 x2) (e28 J m [1, 1, 0, 1, 0, 1, 1, 1, 1, 1, 1, 1, 0, 1] [] (s28_11 x1 x2))))
    else
     (J 0 29 0 (s28_11 x1 x2) (e28 J m [1, 1, 0, 1, 0, 1, 1, 1, 1, 1, 1, 1, 0, 1] [] (s28_11 x1 x2)))) := fun J => by kernel_rfl
    refine (h jn).trans ?_
    simp only [jn_eq, ref01_Compare_j8_eq m M7 (ref01_Compare_l7 m (ref01_Compare m) M7) (fun x0 x1 x2 => ref01_Compare_l7_eq m M7 x0 x1 x2), ref01_Compare_j11_eq m]
    rfl
theorem ref01_Compare_j6_eq (m : Nat) (x0 : Int) (x1 x2 : Dt) : e28 jn m [1, 1, 0, 1, 0, 1, 1, 1, 1, 1, 1, 1, 0, 0, 1] [] (s28_6 x0 x1 x2) = ref01_Compare_j6 m (ref01_Compare m) x0 x1 x2 := by
  have h : ∀ J, e28 J m [1, 1, 0, 1, 0, 1, 1, 1, 1, 1, 1, 1, 0, 0, 1] [] (s28_6 x0 x1 x2) =
    (J 1 22 (Nat.succ m) (s28_7 x0 x1 x2) (l28 J m [1, 1, 0, 1, 0, 1, 1, 1, 1, 1, 1, 1, 0, 0, 1, 0] [] (Nat.succ m) (s28_7 x0 x1 x2))) := fun J => by kernel_rfl
  exact (h jn).trans (by
    simp only [jn_eq, ref01_Compare_l7_eq m]
    rfl)
theorem ref01_Compare_j12_eq (m : Nat) : e28 jn m [1, 1, 1] [] s28_12 = ref01_Compare_j12 m (ref01_Compare m) := by
  have h : ∀ J, e28 J m [1, 1, 1] [] s28_12 =
    some (0 : Int) := fun J => by kernel_rfl
  exact (h jn).trans (rfl)
theorem ref01_Compare_j0_eq (m : Nat) (x0 x1 : Dt) : e28 jn m [1, 1] [] (s28_0 x0 x1) = ref01_Compare_j0 m (ref01_Compare m) x0 x1 := by
  have h : ∀ J, e28 J m [1, 1] [] (s28_0 x0 x1) =
    (bif ((Dt.I x0 0) == (3 : Int)) then
     (bif ((Dt.I x0 0) == (3 : Int)) then
     ((ref01_Ints m (Dt.I x0 1) (Dt.I x1 1)).bind fun r1 =>
     some r1)
     else
     (bif ((Dt.I x0 0) == (4 : Int)) then
     (bif ((Dt.I x0 0) == (4 : Int)) then
     ((ref01_Texts m (Dt.S x0 2) (Dt.S x1 2)).bind fun r2 =>
     some r2)
     else
     (bif ((Dt.I x0 0) == (6 : Int)) then
     (J 0 14 0 (s28_1 (0 : Int) x0 x1) (e28 J m [1, 1, 0, 1, 0, 1, 1, 1, 1, 1, 0, 0, 1] [] (s28_1 (0 : Int) x0 x1)))
     else
     (bif ((Dt.I x0 0) == (5 : Int)) then
     (J 0 22 0 (s28_6 (0 : Int) x0 x1) (e28 J m [1, 1, 0, 1, 0, 1, 1, 1, 1, 1, 1, 1, 0, 0, 1] [] (s28_6 (0 : Int) x0 x1)))
     else
     (J 0 30 0 s28_12 (e28 J m [1, 1, 1] [] s28_12)))))
     else
     (bif ((Dt.I x0 0) == (7 : Int)) then
     (bif ((Dt.I x0 0) == (7 : Int)) then
     ((ref01_Texts m (Dt.S x0 2) (Dt.S x1 2)).bind fun r14 =>
     some r14)
     else
     (bif ((Dt.I x0 0) == (6 : Int)) then
     (J 0 14 0 (s28_1 (0 : Int) x0 x1) (e28 J m [1, 1, 0, 1, 0, 1, 1, 1, 1, 1, 0, 0, 1] [] (s28_1 (0 : Int) x0 x1)))
     else
     (bif ((Dt.I x0 0) == (5 : Int)) then
     (J 0 22 0 (s28_6 (0 : Int) x0 x1) (e28 J m [1, 1, 0, 1, 0, 1, 1, 1, 1, 1, 1, 1, 0, 0, 1] [] (s28_6 (0 : Int) x0 x1)))
     else
     (J 0 30 0 s28_12 (e28 J m [1, 1, 1] [] s28_12)))))
     else
     (bif ((Dt.I x0 0) == (8 : Int)) then
     ((ref01_Texts m (Dt.S x0 2) (Dt.S x1 2)).bind fun r15 =>
     some r15)
     else
     (bif ((Dt.I x0 0) == (6 : Int)) then
     (J 0 14 0 (s28_1 (0 : Int) x0 x1) (e28 J m [1, 1, 0, 1, 0, 1, 1, 1, 1, 1, 0, 0, 1] [] (s28_1 (0 : Int) x0 x1)))
     else
     (bif ((Dt.I x0 0) == (5 : Int)) then
     (J 0 22 0 (s28_6 (0 : Int) x0 x1) (e28 J m [1, 1, 0, 1, 0, 1, 1, 1, 1, 1, 1, 1, 0, 0, 1] [] (s28_6 (0 : Int) x0 x1)))
     else
     (J 0 30 0 s28_12 (e28 J m [1, 1, 1] [] s28_12))))))))
    else
     (bif ((Dt.I x0 0) == (9 : Int)) then
     (bif ((Dt.I x0 0) == (9 : Int)) then
     ((ref01_Ints m (Dt.I x0 1) (Dt.I x1 1)).bind fun r16 =>
     some r16)
     else
     (bif ((Dt.I x0 0) == (4 : Int)) then
     (bif ((Dt.I x0 0) == (4 : Int)) then
     ((ref01_Texts m (Dt.S x0 2) (Dt.S x1 2)).bind fun r17 =>
     some r17)
     else
     (bif ((Dt.I x0 0) == (6 : Int)) then
     (J 0 14 0 (s28_1 (0 : Int) x0 x1) (e28 J m [1, 1, 0, 1, 0, 1, 1, 1, 1, 1, 0, 0, 1] [] (s28_1 (0 : Int) x0 x1)))
     else
     (bif ((Dt.I x0 0) == (5 : Int)) then
     (J 0 22 0 (s28_6 (0 : Int) x0 x1) (e28 J m [1, 1, 0, 1, 0, 1, 1, 1, 1, 1, 1, 1, 0, 0, 1] [] (s28_6 (0 : Int) x0 x1)))
     else
     (J 0 30 0 s28_12 (e28 J m [1, 1, 1] [] s28_12)))))
     else
     (bif ((Dt.I x0 0) == (7 : Int)) then
     (bif ((Dt.I x0 0) == (7 : Int)) then
     ((ref01_Texts m (Dt.S x0 2) (Dt.S x1 2)).bind fun r18 =>
     some r18)
     else
     (bif ((Dt.I x0 0) == (6 : Int)) then
     (J 0 14 0 (s28_1 (0 : Int) x0 x1) (e28 J m [1, 1, 0, 1, 0, 1, 1, 1, 1, 1, 0, 0, 1] [] (s28_1 (0 : Int) x0 x1)))
     else
     (bif ((Dt.I x0 0) == (5 : Int)) then
     (J 0 22 0 (s28_6 (0 : Int) x0 x1) (e28 J m [1, 1, 0, 1, 0, 1, 1, 1, 1, 1, 1, 1, 0, 0, 1] [] (s28_6 (0 : Int) x0 x1)))
     else
     (J 0 30 0 s28_12 (e28 J m [1, 1, 1] [] s28_12)))))
     else
     (bif ((Dt.I x0 0) == (8 : Int)) then
     ((ref01_Texts m (Dt.S x0 2) (Dt.S x1 2)).bind fun r19 =>
     some r19)
     else
     (bif ((Dt.I x0 0) == (6 : Int)) then
     (J 0 14 0 (s28_1 (0 : Int) x0 x1) (e28 J m [1, 1, 0, 1, 0, 1, 1, 1, 1, 1, 0, 0, 1] [] (s28_1 (0 : Int) x0 x1)))
     else
     (bif ((Dt.I x0 0) == (5 : Int)) then
     (J 0 22 0 (s28_6 (0 : Int) x0 x1) (e28 J m [1, 1, 0, 1, 0, 1, 1, 1, 1, 1, 1, 1, 0, 0, 1] [] (s28_6 (0 : Int) x0 x1)))
     else
     (J 0 30 0 s28_12 (e28 J m [1, 1, 1] [] s28_12))))))))
     else
     (bif ((Dt.I x0 0) == (10 : Int)) then
     ((ref01_Ints m (Dt.I x0 1) (Dt.I x1 1)).bind fun r20 =>
     some r20)
     else
     (bif ((Dt.I x0 0) == (4 : Int)) then
     (bif ((Dt.I x0 0) == (4 : Int)) then
     ((ref01_Texts m (Dt.S x0 2) (Dt.S x1 2)).bind fun r21 =>
     some r21)
     else
     (bif ((Dt.I x0 0) == (6 : Int)) then
     (J 0 14 0 (s28_1 (0 : Int) x0 x1) (e28 J m [1, 1, 0, 1, 0, 1, 1, 1, 1, 1, 0, 0, 1] [] (s28_1 (0 : Int) x0 x1)))
     else
     (bif ((Dt.I x0 0) == (5 : Int)) then
     (J 0 22 0 (s28_6 (0 : Int) x0 x1) (e28 J m [1, 1, 0, 1, 0, 1, 1, 1, 1, 1, 1, 1, 0, 0, 1] [] (s28_6 (0 : Int) x0 x1)))
     else
     (J 0 30 0 s28_12 (e28 J m [1, 1, 1] [] s28_12)))))
     else
     (bif ((Dt.I x0 0) == (7 : Int)) then
     (bif ((Dt.I x0 0) == (7 : Int)) then
     ((ref01_Texts m (Dt.S x0 2) (Dt.S x1 2)).bind fun r22 =>
     some r22)
     else
     (bif ((Dt.I x0 0) == (6 : Int)) then
     (J 0 14 0 (s28_1 (0 : Int) x0 x1) (e28 J m [1, 1, 0, 1, 0, 1, 1, 1, 1, 1, 0, 0, 1] [] (s28_1 (0 : Int) x0 x1)))
     else
     (bif ((Dt.I x0 0) == (5 : Int)) then
     (J 0 22 0 (s28_6 (0 : Int) x0 x1) (e28 J m [1, 1, 0, 1, 0, 1, 1, 1, 1, 1, 1, 1, 0, 0, 1] [] (s28_6 (0 : Int) x0 x1)))
     else
     (J 0 30 0 s28_12 (e28 J m [1, 1, 1] [] s28_12)))))
     else
     (bif ((Dt.I x0 0) == (8 : Int)) then
     ((ref01_Texts m (Dt.S x0 2) (Dt.S x1 2)).bind fun r23 =>
     some r23)
     else
     (bif ((Dt.I x0 0) == (6 : Int)) then
     (J 0 14 0 (s28_1 (0 : Int) x0 x1) (e28 J m [1, 1, 0, 1, 0, 1, 1, 1, 1, 1, 0, 0, 1] [] (s28_1 (0 : Int) x0 x1)))
     else
     (bif ((Dt.I x0 0) == (5 : Int)) then
     (J 0 22 0 (s28_6 (0 : Int) x0 x1) (e28 J m [1, 1, 0, 1, 0, 1, 1, 1, 1, 1, 1, 1, 0, 0, 1] [] (s28_6 (0 : Int) x0 x1)))
     else
     (J 0 30 0 s28_12 (e28 J m [1, 1, 1] [] s28_12)))))))))) := fun J => by kernel_rfl
  exact (h jn).trans (by
    simp only [jn_eq, ref01_Compare_j1_eq m, ref01_Compare_j6_eq m, ref01_Compare_j12_eq m]
    rfl)
theorem ref01_Compare_eq (m : Nat) (a0 a1 : Dt) : e28 jn m [] [] ⟨[(.dat 30 a0), (.dat 30 a1)], [], 0⟩ = ref01_Compare (m + 1) a0 a1 := by
  have h : ∀ J, e28 J m [] [] ⟨[(.dat 30 a0), (.dat 30 a1)], [], 0⟩ =
    (bif ((Dt.I a0 0) != (Dt.I a1 0)) then
     ((ref01_Ints m (Dt.I a0 0) (Dt.I a1 0)).bind fun r0 =>
     some r0)
    else
     (J 0 3 0 (s28_0 a0 a1) (e28 J m [1, 1] [] (s28_0 a0 a1)))) := fun J => by kernel_rfl
  refine (h jn).trans ?_
  simp only [jn_eq, ref01_Compare_j0_eq m]
  rfl
noncomputable def d41 (q : Res) : Option (List Dt) := match q with
  | (.dat T0 x0, []) => bif Nat.beq T0 27 then some x0.toLst else none
  | _ => none
theorem d41_sim {b : Res} {r : List Dt} (h : d41 b = some r) : Sim Tryd.prog b ((.dat 27 (.lst r)), []) := by
  unfold d41 at h
  split at h
  · obtain ⟨hc, h2⟩ := bif_some h
    cases h2
    have e0 := beq_eq hc
    subst e0
    exact Sim.of (.of (.dat (.lst Tryd.underlying27)) rfl rfl) .nil
  · cases h
noncomputable def e41 (J : Nat → Nat → Nat → St → Option (List Dt) → Option (List Dt)) (m : Nat) (p ms : List Nat) (σ : St) := evAt Tryd.prog env (ct m) J (m + 1) 73 44 Tryd.f73 d41 p ms σ
noncomputable def l41 (J : Nat → Nat → Nat → St → Option (List Dt) → Option (List Dt)) (m : Nat) (p ms : List Nat) (M : Nat) (σ : St) := loopAt Tryd.prog env (ct m) J (m + 1) 73 44 Tryd.f73 d41 p ms M σ
noncomputable def s41_3 (x0 : Int) (x1 : Dt) (x2 : List Dt) : St := ⟨tsOf [(1, (.ptr 0 [] 0)), (3, (.row 1)), (4, (.dat 3 (.int x0)))], [(.box 30 (.dat 30 x1)), (.row 27 x2)], 0⟩
noncomputable def s41_2 (x0 : Int) (x1 : Dt) (x2 : List Dt) : St := ⟨tsOf [(1, (.ptr 0 [] 0)), (3, (.row 1)), (4, (.dat 3 (.int x0)))], [(.box 30 (.dat 30 x1)), (.row 27 x2)], 0⟩
noncomputable def s41_8 (x0 : Int) (x1 : Dt) (x2 : List Dt) : St := ⟨tsOf [(1, (.ptr 0 [] 0)), (3, (.row 1)), (5, (.dat 3 (.int x0)))], [(.box 30 (.dat 30 x1)), (.row 27 x2)], 0⟩
noncomputable def s41_7 (x0 : Int) (x1 : Dt) (x2 : List Dt) : St := ⟨tsOf [(1, (.ptr 0 [] 0)), (3, (.row 1)), (5, (.dat 3 (.int x0)))], [(.box 30 (.dat 30 x1)), (.row 27 x2)], 0⟩
noncomputable def s41_9 (x0 : List Dt) : St := ⟨tsOf [(3, (.row 0))], [(.row 27 x0)], 0⟩
noncomputable def s41_6 (x0 : Int) (x1 : Dt) (x2 : List Dt) : St := ⟨tsOf [(1, (.ptr 0 [] 0)), (3, (.row 1)), (5, (.dat 3 (.int x0)))], [(.box 30 (.dat 30 x1)), (.row 27 x2)], 0⟩
noncomputable def s41_5 (x0 : Int) (x1 : Dt) (x2 : List Dt) : St := ⟨tsOf [(1, (.ptr 0 [] 0)), (3, (.row 1)), (5, (.dat 3 (.int x0)))], [(.box 30 (.dat 30 x1)), (.row 27 x2)], 0⟩
noncomputable def s41_4 (x0 : Dt) (x1 : List Dt) : St := ⟨tsOf [(1, (.ptr 0 [] 0)), (3, (.row 1))], [(.box 30 (.dat 30 x0)), (.row 27 x1)], 0⟩
noncomputable def s41_1 (x0 : Int) (x1 : Dt) (x2 : List Dt) : St := ⟨tsOf [(1, (.ptr 0 [] 0)), (3, (.row 1)), (4, (.dat 3 (.int x0)))], [(.box 30 (.dat 30 x1)), (.row 27 x2)], 0⟩
noncomputable def s41_0 (x0 : Int) (x1 : Dt) (x2 : List Dt) : St := ⟨tsOf [(1, (.ptr 0 [] 0)), (3, (.row 1)), (4, (.dat 3 (.int x0)))], [(.box 30 (.dat 30 x1)), (.row 27 x2)], 0⟩
theorem ref01_Parts_j3_eq (m : Nat) (M1 : Nat) (rec1 : Int → Dt → List Dt → Option (List Dt)) (h1 : ∀ (x0 : Int) (x1 : Dt) (x2 : List Dt), l41 jn m [1, 1, 0, 1, 0, 1, 0] [] M1 (s41_1 x0 x1 x2) = rec1 x0 x1 x2) (x0 : Int) (x1 : Dt) (x2 : List Dt) : e41 jn m [1, 1, 0, 1, 0, 1, 0, 0, 1, 1] [M1] (s41_3 x0 x1 x2) = ref01_Parts_j3 m rec1 x0 x1 x2 := by
  have h : ∀ J, e41 J m [1, 1, 0, 1, 0, 1, 0, 0, 1, 1] [M1] (s41_3 x0 x1 x2) =
    (J 1 4 M1 (s41_1 (IntKind.wrap IntKind.i64 (x0 + (1 : Int))) x1 x2) (l41 J m [1, 1, 0, 1, 0, 1, 0] [] M1 (s41_1 (IntKind.wrap IntKind.i64 (x0 + (1 : Int))) x1 x2))) := fun J => by kernel_rfl
  exact (h jn).trans (by
    simp only [jn_eq, h1]
    rfl)
theorem ref01_Parts_j2_eq (m : Nat) (M1 : Nat) (rec1 : Int → Dt → List Dt → Option (List Dt)) (h1 : ∀ (x0 : Int) (x1 : Dt) (x2 : List Dt), l41 jn m [1, 1, 0, 1, 0, 1, 0] [] M1 (s41_1 x0 x1 x2) = rec1 x0 x1 x2) (x0 : Int) (x1 : Dt) (x2 : List Dt) : e41 jn m [1, 1, 0, 1, 0, 1, 0, 0, 1] [M1] (s41_2 x0 x1 x2) = ref01_Parts_j2 m rec1 x0 x1 x2 := by
  have h : ∀ J, e41 J m [1, 1, 0, 1, 0, 1, 0, 0, 1] [M1] (s41_2 x0 x1 x2) =
    ((idx (Dt.L x1 3) x0).bind fun v0 =>
     ((app x2 [v0]).bind fun v1 =>
     (J 0 5 0 (s41_3 x0 x1 v1) (e41 J m [1, 1, 0, 1, 0, 1, 0, 0, 1, 1] [M1] (s41_3 x0 x1 v1))))) := fun J => by kernel_rfl
  exact (h jn).trans (by
    simp only [jn_eq, ref01_Parts_j3_eq m M1 rec1 h1]
    rfl)
theorem ref01_Parts_j8_eq (m : Nat) (M6 : Nat) (rec6 : Int → Dt → List Dt → Option (List Dt)) (h6 : ∀ (x0 : Int) (x1 : Dt) (x2 : List Dt), l41 jn m [1, 1, 1, 0, 1, 0, 1, 0] [] M6 (s41_6 x0 x1 x2) = rec6 x0 x1 x2) (x0 : Int) (x1 : Dt) (x2 : List Dt) : e41 jn m [1, 1, 1, 0, 1, 0, 1, 0, 0, 1, 1] [M6] (s41_8 x0 x1 x2) = ref01_Parts_j8 m rec6 x0 x1 x2 := by
  have h : ∀ J, e41 J m [1, 1, 1, 0, 1, 0, 1, 0, 0, 1, 1] [M6] (s41_8 x0 x1 x2) =
    (J 1 9 M6 (s41_6 (IntKind.wrap IntKind.i64 (x0 + (1 : Int))) x1 x2) (l41 J m [1, 1, 1, 0, 1, 0, 1, 0] [] M6 (s41_6 (IntKind.wrap IntKind.i64 (x0 + (1 : Int))) x1 x2))) := fun J => by kernel_rfl
  exact (h jn).trans (by
    simp only [jn_eq, h6]
    rfl)
theorem ref01_Parts_j7_eq (m : Nat) (M6 : Nat) (rec6 : Int → Dt → List Dt → Option (List Dt)) (h6 : ∀ (x0 : Int) (x1 : Dt) (x2 : List Dt), l41 jn m [1, 1, 1, 0, 1, 0, 1, 0] [] M6 (s41_6 x0 x1 x2) = rec6 x0 x1 x2) (x0 : Int) (x1 : Dt) (x2 : List Dt) : e41 jn m [1, 1, 1, 0, 1, 0, 1, 0, 0, 1] [M6] (s41_7 x0 x1 x2) = ref01_Parts_j7 m rec6 x0 x1 x2 := by
  have h : ∀ J, e41 J m [1, 1, 1, 0, 1, 0, 1, 0, 0, 1] [M6] (s41_7 x0 x1 x2) =
    ((idx (Dt.L x1 4) x0).bind fun v2 =>
     ((app x2 [(Dt.fld v2 1)]).bind fun v3 =>
     (J 0 10 0 (s41_8 x0 x1 v3) (e41 J m [1, 1, 1, 0, 1, 0, 1, 0, 0, 1, 1] [M6] (s41_8 x0 x1 v3))))) := fun J => by kernel_rfl
  exact (h jn).trans (by
    simp only [jn_eq, ref01_Parts_j8_eq m M6 rec6 h6]
    rfl)
theorem ref01_Parts_j9_eq (m : Nat) (x0 : List Dt) : e41 jn m [1, 1, 1, 1] [] (s41_9 x0) = ref01_Parts_j9 m x0 := by
  have h : ∀ J, e41 J m [1, 1, 1, 1] [] (s41_9 x0) =
    some x0 := fun J => by kernel_rfl
  exact (h jn).trans (rfl)
theorem ref01_Parts_l6_eq (m : Nat) : ∀ (M6 : Nat) (x0 : Int) (x1 : Dt) (x2 : List Dt), l41 jn m [1, 1, 1, 0, 1, 0, 1, 0] [] M6 (s41_6 x0 x1 x2) = ref01_Parts_l6 m M6 x0 x1 x2
  | 0, _, _, _ => rfl
  | M6 + 1, x0, x1, x2 => by
    have h : ∀ J, l41 J m [1, 1, 1, 0, 1, 0, 1, 0] [] (M6 + 1) (s41_6 x0 x1 x2) =
    (bif (decide (x0 < (((List.length (Dt.L x1 4)) : Nat) : Int))) then
     (J 0 11 0 (s41_7 x0 x1 x2) (e41 J m [1, 1, 1, 0, 1, 0, 1, 0, 0, 1] [M6] (s41_7 x0 x1 x2)))
    else
     (J 0 12 0 (s41_9 x2) (e41 J m [1, 1, 1, 1] [] (s41_9 x2)))) := fun J => by kernel_rfl
    refine (h jn).trans ?_
    simp only [jn_eq, ref01_Parts_j7_eq m M6 (ref01_Parts_l6 m M6) (fun x0 x1 x2 => ref01_Parts_l6_eq m M6 x0 x1 x2), ref01_Parts_j9_eq m]
    rfl
theorem ref01_Parts_j5_eq (m : Nat) (x0 : Int) (x1 : Dt) (x2 : List Dt) : e41 jn m [1, 1, 1, 0, 1, 0, 1] [] (s41_5 x0 x1 x2) = ref01_Parts_j5 m x0 x1 x2 := by
  have h : ∀ J, e41 J m [1, 1, 1, 0, 1, 0, 1] [] (s41_5 x0 x1 x2) =
    (J 1 9 (Nat.succ m) (s41_6 x0 x1 x2) (l41 J m [1, 1, 1, 0, 1, 0, 1, 0] [] (Nat.succ m) (s41_6 x0 x1 x2))) := fun J => by kernel_rfl
  exact (h jn).trans (by
    simp only [jn_eq, ref01_Parts_l6_eq m]
    rfl)
theorem ref01_Parts_j4_eq (m : Nat) (x0 : Dt) (x1 : List Dt) : e41 jn m [1, 1, 1] [] (s41_4 x0 x1) = ref01_Parts_j4 m x0 x1 := by
  have h : ∀ J, e41 J m [1, 1, 1] [] (s41_4 x0 x1) =
    (bif ((Dt.I x0 0) == (5 : Int)) then
     (J 0 9 0 (s41_5 (0 : Int) x0 x1) (e41 J m [1, 1, 1, 0, 1, 0, 1] [] (s41_5 (0 : Int) x0 x1)))
    else
     (J 0 12 0 (s41_9 x1) (e41 J m [1, 1, 1, 1] [] (s41_9 x1)))) := fun J => by kernel_rfl
  exact (h jn).trans (by
    simp only [jn_eq, ref01_Parts_j5_eq m, ref01_Parts_j9_eq m]
    rfl)
theorem ref01_Parts_l1_eq (m : Nat) : ∀ (M1 : Nat) (x0 : Int) (x1 : Dt) (x2 : List Dt), l41 jn m [1, 1, 0, 1, 0, 1, 0] [] M1 (s41_1 x0 x1 x2) = ref01_Parts_l1 m M1 x0 x1 x2
  | 0, _, _, _ => rfl
  | M1 + 1, x0, x1, x2 => by
    have h : ∀ J, l41 J m [1, 1, 0, 1, 0, 1, 0] [] (M1 + 1) (s41_1 x0 x1 x2) =
    (bif (decide (x0 < (((List.length (Dt.L x1 3)) : Nat) : Int))) then
     (J 0 6 0 (s41_2 x0 x1 x2) (e41 J m [1, 1, 0, 1, 0, 1, 0, 0, 1] [M1] (s41_2 x0 x1 x2)))
    else
     (J 0 7 0 (s41_4 x1 x2) (e41 J m [1, 1, 1] [] (s41_4 x1 x2)))) := fun J => by kernel_rfl
    refine (h jn).trans ?_
    simp only [jn_eq, ref01_Parts_j2_eq m M1 (ref01_Parts_l1 m M1) (fun x0 x1 x2 => ref01_Parts_l1_eq m M1 x0 x1 x2), ref01_Parts_j4_eq m]
    rfl
theorem ref01_Parts_j0_eq (m : Nat) (x0 : Int) (x1 : Dt) (x2 : List Dt) : e41 jn m [1, 1, 0, 1, 0, 1] [] (s41_0 x0 x1 x2) = ref01_Parts_j0 m x0 x1 x2 := by
  have h : ∀ J, e41 J m [1, 1, 0, 1, 0, 1] [] (s41_0 x0 x1 x2) =
    (J 1 4 (Nat.succ m) (s41_1 x0 x1 x2) (l41 J m [1, 1, 0, 1, 0, 1, 0] [] (Nat.succ m) (s41_1 x0 x1 x2))) := fun J => by kernel_rfl
  exact (h jn).trans (by
    simp only [jn_eq, ref01_Parts_l1_eq m]
    rfl)
theorem ref01_Parts_eq (m : Nat) (a0 : Dt) : e41 jn m [] [] ⟨[(.dat 30 a0)], [], 0⟩ = ref01_Parts (m + 1) a0 := by
  have h : ∀ J, e41 J m [] [] ⟨[(.dat 30 a0)], [], 0⟩ =
    (bif ((Dt.I a0 0) == (6 : Int)) then
     (J 0 4 0 (s41_0 (0 : Int) a0 []) (e41 J m [1, 1, 0, 1, 0, 1] [] (s41_0 (0 : Int) a0 [])))
    else
     (J 0 7 0 (s41_4 a0 []) (e41 J m [1, 1, 1] [] (s41_4 a0 [])))) := fun J => by kernel_rfl
  refine (h jn).trans ?_
  simp only [jn_eq, ref01_Parts_j0_eq m, ref01_Parts_j4_eq m]
  rfl
noncomputable def d31 (q : Res) : Option (Int) := match q with
  | (.dat T0 x0, []) => bif Nat.beq T0 3 then some x0.toInt else none
  | _ => none
theorem d31_sim {b : Res} {r : Int} (h : d31 b = some r) : Sim Tryd.prog b ((.dat 3 (.int r)), []) := by
  unfold d31 at h
  split at h
  · obtain ⟨hc, h2⟩ := bif_some h
    cases h2
    have e0 := beq_eq hc
    subst e0
    exact Sim.of (.of (.dat (.int Tryd.underlying3)) rfl rfl) .nil
  · cases h
noncomputable def e31 (J : Nat → Nat → Nat → St → Option (Int) → Option (Int)) (m : Nat) (p ms : List Nat) (σ : St) := evAt Tryd.prog env (ct m) J (m + 1) 60 34 Tryd.f60 d31 p ms σ
noncomputable def l31 (J : Nat → Nat → Nat → St → Option (Int) → Option (Int)) (m : Nat) (p ms : List Nat) (M : Nat) (σ : St) := loopAt Tryd.prog env (ct m) J (m + 1) 60 34 Tryd.f60 d31 p ms M σ
noncomputable def s31_4 (x0 : Int) (x1 : List Dt) (x2 x3 : Int) : St := ⟨tsOf [(1, (.dat 3 (.int x0))), (5, (.dat 27 (.lst x1))), (6, (.dat 3 (.int x2))), (7, (.dat 3 (.int x3)))], [], 0⟩
noncomputable def s31_3 (x0 : Int) (x1 : List Dt) (x2 x3 : Int) : St := ⟨tsOf [(1, (.dat 3 (.int x0))), (5, (.dat 27 (.lst x1))), (6, (.dat 3 (.int x2))), (7, (.dat 3 (.int x3)))], [], 0⟩
noncomputable def s31_5 (x0 : Int) : St := ⟨tsOf [(6, (.dat 3 (.int x0)))], [], 0⟩
noncomputable def s31_2 (x0 : Int) (x1 : List Dt) (x2 x3 : Int) : St := ⟨tsOf [(1, (.dat 3 (.int x0))), (5, (.dat 27 (.lst x1))), (6, (.dat 3 (.int x2))), (7, (.dat 3 (.int x3)))], [], 0⟩
noncomputable def s31_1 (x0 : Int) (x1 : List Dt) (x2 x3 : Int) : St := ⟨tsOf [(1, (.dat 3 (.int x0))), (5, (.dat 27 (.lst x1))), (6, (.dat 3 (.int x2))), (7, (.dat 3 (.int x3)))], [], 0⟩
noncomputable def s31_0 (x0 : Int) (x1 : List Dt) : St := ⟨tsOf [(1, (.dat 3 (.int x0))), (5, (.dat 27 (.lst x1)))], [], 0⟩
theorem ref01_levels_j4_eq (m : Nat) (M2 : Nat) (rec2 : Int → List Dt → Int → Int → Option (Int)) (h2 : ∀ (x0 : Int) (x1 : List Dt) (x2 x3 : Int), l31 jn m [1, 1, 1, 1, 0, 1, 0] [] M2 (s31_2 x0 x1 x2 x3) = rec2 x0 x1 x2 x3) (x0 : Int) (x1 : List Dt) (x2 x3 : Int) : e31 jn m [1, 1, 1, 1, 0, 1, 0, 0, 1, 1] [M2] (s31_4 x0 x1 x2 x3) = ref01_levels_j4 m (ref01_levels m) rec2 x0 x1 x2 x3 := by
  have h : ∀ J, e31 J m [1, 1, 1, 1, 0, 1, 0, 0, 1, 1] [M2] (s31_4 x0 x1 x2 x3) =
    (J 1 6 M2 (s31_2 x0 x1 x2 (IntKind.wrap IntKind.i64 (x3 + (1 : Int)))) (l31 J m [1, 1, 1, 1, 0, 1, 0] [] M2 (s31_2 x0 x1 x2 (IntKind.wrap IntKind.i64 (x3 + (1 : Int)))))) := fun J => by kernel_rfl
  exact (h jn).trans (by
    simp only [jn_eq, h2]
    rfl)
theorem ref01_levels_j3_eq (m : Nat) (M2 : Nat) (rec2 : Int → List Dt → Int → Int → Option (Int)) (h2 : ∀ (x0 : Int) (x1 : List Dt) (x2 x3 : Int), l31 jn m [1, 1, 1, 1, 0, 1, 0] [] M2 (s31_2 x0 x1 x2 x3) = rec2 x0 x1 x2 x3) (x0 : Int) (x1 : List Dt) (x2 x3 : Int) : e31 jn m [1, 1, 1, 1, 0, 1, 0, 0, 1] [M2] (s31_3 x0 x1 x2 x3) = ref01_levels_j3 m (ref01_levels m) rec2 x0 x1 x2 x3 := by
  have h : ∀ J, e31 J m [1, 1, 1, 1, 0, 1, 0, 0, 1] [M2] (s31_3 x0 x1 x2 x3) =
    ((idx x1 x3).bind fun v1 =>
     ((ref01_levels m v1 (IntKind.wrap IntKind.i64 (x0 - (1 : Int)))).bind fun r2 =>
     (J 0 7 0 (s31_4 x0 x1 (bif (decide (x2 < r2)) then r2 else x2) x3) (e31 J m [1, 1, 1, 1, 0, 1, 0, 0, 1, 1] [M2] (s31_4 x0 x1 (bif (decide (x2 < r2)) then r2 else x2) x3))))) := fun J => by kernel_rfl
  exact (h jn).trans (by
    simp only [jn_eq, ref01_levels_j4_eq m M2 rec2 h2]
    rfl)
theorem ref01_levels_j5_eq (m : Nat) (x0 : Int) : e31 jn m [1, 1, 1, 1, 1] [] (s31_5 x0) = ref01_levels_j5 m (ref01_levels m) x0 := by
  have h : ∀ J, e31 J m [1, 1, 1, 1, 1] [] (s31_5 x0) =
    some (IntKind.wrap IntKind.i64 (x0 + (1 : Int))) := fun J => by kernel_rfl
  exact (h jn).trans (rfl)
theorem ref01_levels_l2_eq (m : Nat) : ∀ (M2 : Nat) (x0 : Int) (x1 : List Dt) (x2 x3 : Int), l31 jn m [1, 1, 1, 1, 0, 1, 0] [] M2 (s31_2 x0 x1 x2 x3) = ref01_levels_l2 m (ref01_levels m) M2 x0 x1 x2 x3
  | 0, _, _, _, _ => rfl
  | M2 + 1, x0, x1, x2, x3 => by
    have h : ∀ J, l31 J m [1, 1, 1, 1, 0, 1, 0] [] (M2 + 1) (s31_2 x0 x1 x2 x3) =
    (bif (decide (x3 < (((List.length x1) : Nat) : Int))) then
     (J 0 8 0 (s31_3 x0 x1 x2 x3) (e31 J m [1, 1, 1, 1, 0, 1, 0, 0, 1] [M2] (s31_3 x0 x1 x2 x3)))
    else
     (J 0 9 0 (s31_5 x2) (e31 J m [1, 1, 1, 1, 1] [] (s31_5 x2)))) := fun J => by kernel_rfl
    refine (h jn).trans ?_
    simp only [jn_eq, ref01_levels_j3_eq m M2 (ref01_levels_l2 m (ref01_levels m) M2) (fun x0 x1 x2 x3 => ref01_levels_l2_eq m M2 x0 x1 x2 x3), ref01_levels_j5_eq m]
    rfl
theorem ref01_levels_j1_eq (m : Nat) (x0 : Int) (x1 : List Dt) (x2 x3 : Int) : e31 jn m [1, 1, 1, 1, 0, 1] [] (s31_1 x0 x1 x2 x3) = ref01_levels_j1 m (ref01_levels m) x0 x1 x2 x3 := by
  have h : ∀ J, e31 J m [1, 1, 1, 1, 0, 1] [] (s31_1 x0 x1 x2 x3) =
    (J 1 6 (Nat.succ m) (s31_2 x0 x1 x2 x3) (l31 J m [1, 1, 1, 1, 0, 1, 0] [] (Nat.succ m) (s31_2 x0 x1 x2 x3))) := fun J => by kernel_rfl
  exact (h jn).trans (by
    simp only [jn_eq, ref01_levels_l2_eq m]
    rfl)
theorem ref01_levels_j0_eq (m : Nat) (x0 : Int) (x1 : List Dt) : e31 jn m [1, 1, 1] [] (s31_0 x0 x1) = ref01_levels_j0 m (ref01_levels m) x0 x1 := by
  have h : ∀ J, e31 J m [1, 1, 1] [] (s31_0 x0 x1) =
    (J 0 6 0 (s31_1 x0 x1 (0 : Int) (0 : Int)) (e31 J m [1, 1, 1, 1, 0, 1] [] (s31_1 x0 x1 (0 : Int) (0 : Int)))) := fun J => by kernel_rfl
  exact (h jn).trans (by
    simp only [jn_eq, ref01_levels_j1_eq m]
    rfl)
theorem ref01_levels_eq (m : Nat) (a0 : Dt) (a1 : Int) : e31 jn m [] [] ⟨[(.dat 30 a0), (.dat 3 (.int a1))], [], 0⟩ = ref01_levels (m + 1) a0 a1 := by
  have h : ∀ J, e31 J m [] [] ⟨[(.dat 30 a0), (.dat 3 (.int a1))], [], 0⟩ =
    ((ref01_Parts m a0).bind fun r0 =>
     (bif (decide (a1 < (2 : Int))) then
     some (1 : Int)
     else
     (bif ((((List.length r0) : Nat) : Int) == (0 : Int)) then
     some (1 : Int)
     else
     (J 0 4 0 (s31_0 a1 r0) (e31 J m [1, 1, 1] [] (s31_0 a1 r0)))))) := fun J => by kernel_rfl
  refine (h jn).trans ?_
  simp only [jn_eq, ref01_levels_j0_eq m]
  rfl
noncomputable def d16 (q : Res) : Option (Int) := match q with
  | (.dat T0 x0, []) => bif Nat.beq T0 3 then some x0.toInt else none
  | _ => none
theorem d16_sim {b : Res} {r : Int} (h : d16 b = some r) : Sim Tryd.prog b ((.dat 3 (.int r)), []) := by
  unfold d16 at h
  split at h
  · obtain ⟨hc, h2⟩ := bif_some h
    cases h2
    have e0 := beq_eq hc
    subst e0
    exact Sim.of (.of (.dat (.int Tryd.underlying3)) rfl rfl) .nil
  · cases h
noncomputable def e16 (J : Nat → Nat → Nat → St → Option (Int) → Option (Int)) (m : Nat) (p ms : List Nat) (σ : St) := evAt Tryd.prog env (ct m) J (m + 1) 47 5 Tryd.f47 d16 p ms σ
noncomputable def l16 (J : Nat → Nat → Nat → St → Option (Int) → Option (Int)) (m : Nat) (p ms : List Nat) (M : Nat) (σ : St) := loopAt Tryd.prog env (ct m) J (m + 1) 47 5 Tryd.f47 d16 p ms M σ
theorem ref01_Depth_eq (m : Nat) (a0 : Dt) : e16 jn m [] [] ⟨[(.dat 30 a0)], [], 0⟩ = ref01_Depth (m + 1) a0 := by
  have h : ∀ J, e16 J m [] [] ⟨[(.dat 30 a0)], [], 0⟩ =
    ((ref01_levels m a0 (17 : Int)).bind fun r0 =>
     some r0) := fun J => by kernel_rfl
  refine (h jn).trans ?_
  
  rfl
noncomputable def d32 (q : Res) : Option (Int) := match q with
  | (.dat T0 x0, []) => bif Nat.beq T0 3 then some x0.toInt else none
  | _ => none
theorem d32_sim {b : Res} {r : Int} (h : d32 b = some r) : Sim Tryd.prog b ((.dat 3 (.int r)), []) := by
  unfold d32 at h
  split at h
  · obtain ⟨hc, h2⟩ := bif_some h
    cases h2
    have e0 := beq_eq hc
    subst e0
    exact Sim.of (.of (.dat (.int Tryd.underlying3)) rfl rfl) .nil
  · cases h
noncomputable def e32 (J : Nat → Nat → Nat → St → Option (Int) → Option (Int)) (m : Nat) (p ms : List Nat) (σ : St) := evAt Tryd.prog env (ct m) J (m + 1) 61 32 Tryd.f61 d32 p ms σ
noncomputable def l32 (J : Nat → Nat → Nat → St → Option (Int) → Option (Int)) (m : Nat) (p ms : List Nat) (M : Nat) (σ : St) := loopAt Tryd.prog env (ct m) J (m + 1) 61 32 Tryd.f61 d32 p ms M σ
noncomputable def s32_3 (x0 x1 : Int) (x2 : List Dt) (x3 : Int) : St := ⟨tsOf [(1, (.dat 3 (.int x0))), (5, (.dat 3 (.int x1))), (6, (.dat 27 (.lst x2))), (7, (.dat 3 (.int x3)))], [], 0⟩
noncomputable def s32_2 (x0 x1 : Int) (x2 : List Dt) (x3 : Int) : St := ⟨tsOf [(1, (.dat 3 (.int x0))), (5, (.dat 3 (.int x1))), (6, (.dat 27 (.lst x2))), (7, (.dat 3 (.int x3)))], [], 0⟩
noncomputable def s32_4 (x0 : Int) : St := ⟨tsOf [(5, (.dat 3 (.int x0)))], [], 0⟩
noncomputable def s32_1 (x0 x1 : Int) (x2 : List Dt) (x3 : Int) : St := ⟨tsOf [(1, (.dat 3 (.int x0))), (5, (.dat 3 (.int x1))), (6, (.dat 27 (.lst x2))), (7, (.dat 3 (.int x3)))], [], 0⟩
noncomputable def s32_0 (x0 x1 : Int) (x2 : List Dt) (x3 : Int) : St := ⟨tsOf [(1, (.dat 3 (.int x0))), (5, (.dat 3 (.int x1))), (6, (.dat 27 (.lst x2))), (7, (.dat 3 (.int x3)))], [], 0⟩
theorem ref01_count_j3_eq (m : Nat) (M1 : Nat) (rec1 : Int → Int → List Dt → Int → Option (Int)) (h1 : ∀ (x0 x1 : Int) (x2 : List Dt) (x3 : Int), l32 jn m [1, 1, 1, 0, 1, 0] [] M1 (s32_1 x0 x1 x2 x3) = rec1 x0 x1 x2 x3) (x0 x1 : Int) (x2 : List Dt) (x3 : Int) : e32 jn m [1, 1, 1, 0, 1, 0, 0, 1, 1] [M1] (s32_3 x0 x1 x2 x3) = ref01_count_j3 m (ref01_count m) rec1 x0 x1 x2 x3 := by
  have h : ∀ J, e32 J m [1, 1, 1, 0, 1, 0, 0, 1, 1] [M1] (s32_3 x0 x1 x2 x3) =
    (J 1 4 M1 (s32_1 x0 x1 x2 (IntKind.wrap IntKind.i64 (x3 + (1 : Int)))) (l32 J m [1, 1, 1, 0, 1, 0] [] M1 (s32_1 x0 x1 x2 (IntKind.wrap IntKind.i64 (x3 + (1 : Int)))))) := fun J => by kernel_rfl
  exact (h jn).trans (by
    simp only [jn_eq, h1]
    rfl)
theorem ref01_count_j2_eq (m : Nat) (M1 : Nat) (rec1 : Int → Int → List Dt → Int → Option (Int)) (h1 : ∀ (x0 x1 : Int) (x2 : List Dt) (x3 : Int), l32 jn m [1, 1, 1, 0, 1, 0] [] M1 (s32_1 x0 x1 x2 x3) = rec1 x0 x1 x2 x3) (x0 x1 : Int) (x2 : List Dt) (x3 : Int) : e32 jn m [1, 1, 1, 0, 1, 0, 0, 1] [M1] (s32_2 x0 x1 x2 x3) = ref01_count_j2 m (ref01_count m) rec1 x0 x1 x2 x3 := by
  have h : ∀ J, e32 J m [1, 1, 1, 0, 1, 0, 0, 1] [M1] (s32_2 x0 x1 x2 x3) =
    ((idx x2 x3).bind fun v1 =>
     ((ref01_count m v1 (IntKind.wrap IntKind.i64 (x0 - x1))).bind fun r2 =>
     (J 0 5 0 (s32_3 x0 (IntKind.wrap IntKind.i64 (x1 + r2)) x2 x3) (e32 J m [1, 1, 1, 0, 1, 0, 0, 1, 1] [M1] (s32_3 x0 (IntKind.wrap IntKind.i64 (x1 + r2)) x2 x3))))) := fun J => by kernel_rfl
  exact (h jn).trans (by
    simp only [jn_eq, ref01_count_j3_eq m M1 rec1 h1]
    rfl)
theorem ref01_count_j4_eq (m : Nat) (x0 : Int) : e32 jn m [1, 1, 1, 1] [] (s32_4 x0) = ref01_count_j4 m (ref01_count m) x0 := by
  have h : ∀ J, e32 J m [1, 1, 1, 1] [] (s32_4 x0) =
    some x0 := fun J => by kernel_rfl
  exact (h jn).trans (rfl)
theorem ref01_count_l1_eq (m : Nat) : ∀ (M1 : Nat) (x0 x1 : Int) (x2 : List Dt) (x3 : Int), l32 jn m [1, 1, 1, 0, 1, 0] [] M1 (s32_1 x0 x1 x2 x3) = ref01_count_l1 m (ref01_count m) M1 x0 x1 x2 x3
  | 0, _, _, _, _ => rfl
  | M1 + 1, x0, x1, x2, x3 => by
    have h : ∀ J, l32 J m [1, 1, 1, 0, 1, 0] [] (M1 + 1) (s32_1 x0 x1 x2 x3) =
    (bif (decide (x3 < (((List.length x2) : Nat) : Int))) then
     (bif (decide (x1 < x0)) then
     (J 0 6 0 (s32_2 x0 x1 x2 x3) (e32 J m [1, 1, 1, 0, 1, 0, 0, 1] [M1] (s32_2 x0 x1 x2 x3)))
     else
     (J 0 7 0 (s32_4 x1) (e32 J m [1, 1, 1, 1] [] (s32_4 x1))))
    else
     (J 0 7 0 (s32_4 x1) (e32 J m [1, 1, 1, 1] [] (s32_4 x1)))) := fun J => by kernel_rfl
    refine (h jn).trans ?_
    simp only [jn_eq, ref01_count_j2_eq m M1 (ref01_count_l1 m (ref01_count m) M1) (fun x0 x1 x2 x3 => ref01_count_l1_eq m M1 x0 x1 x2 x3), ref01_count_j4_eq m]
    rfl
theorem ref01_count_j0_eq (m : Nat) (x0 x1 : Int) (x2 : List Dt) (x3 : Int) : e32 jn m [1, 1, 1, 0, 1] [] (s32_0 x0 x1 x2 x3) = ref01_count_j0 m (ref01_count m) x0 x1 x2 x3 := by
  have h : ∀ J, e32 J m [1, 1, 1, 0, 1] [] (s32_0 x0 x1 x2 x3) =
    (J 1 4 (Nat.succ m) (s32_1 x0 x1 x2 x3) (l32 J m [1, 1, 1, 0, 1, 0] [] (Nat.succ m) (s32_1 x0 x1 x2 x3))) := fun J => by kernel_rfl
  exact (h jn).trans (by
    simp only [jn_eq, ref01_count_l1_eq m]
    rfl)
theorem ref01_count_eq (m : Nat) (a0 : Dt) (a1 : Int) : e32 jn m [] [] ⟨[(.dat 30 a0), (.dat 3 (.int a1))], [], 0⟩ = ref01_count (m + 1) a0 a1 := by
  have h : ∀ J, e32 J m [] [] ⟨[(.dat 30 a0), (.dat 3 (.int a1))], [], 0⟩ =
    ((ref01_Parts m a0).bind fun r0 =>
     (J 0 4 0 (s32_0 a1 (1 : Int) r0 (0 : Int)) (e32 J m [1, 1, 1, 0, 1] [] (s32_0 a1 (1 : Int) r0 (0 : Int))))) := fun J => by kernel_rfl
  refine (h jn).trans ?_
  simp only [jn_eq, ref01_count_j0_eq m]
  rfl
noncomputable def d17 (q : Res) : Option (Int) := match q with
  | (.dat T0 x0, []) => bif Nat.beq T0 3 then some x0.toInt else none
  | _ => none
theorem d17_sim {b : Res} {r : Int} (h : d17 b = some r) : Sim Tryd.prog b ((.dat 3 (.int r)), []) := by
  unfold d17 at h
  split at h
  · obtain ⟨hc, h2⟩ := bif_some h
    cases h2
    have e0 := beq_eq hc
    subst e0
    exact Sim.of (.of (.dat (.int Tryd.underlying3)) rfl rfl) .nil
  · cases h
noncomputable def e17 (J : Nat → Nat → Nat → St → Option (Int) → Option (Int)) (m : Nat) (p ms : List Nat) (σ : St) := evAt Tryd.prog env (ct m) J (m + 1) 48 5 Tryd.f48 d17 p ms σ
noncomputable def l17 (J : Nat → Nat → Nat → St → Option (Int) → Option (Int)) (m : Nat) (p ms : List Nat) (M : Nat) (σ : St) := loopAt Tryd.prog env (ct m) J (m + 1) 48 5 Tryd.f48 d17 p ms M σ
theorem ref01_Nodes_eq (m : Nat) (a0 : Dt) : e17 jn m [] [] ⟨[(.dat 30 a0)], [], 0⟩ = ref01_Nodes (m + 1) a0 := by
  have h : ∀ J, e17 J m [] [] ⟨[(.dat 30 a0)], [], 0⟩ =
    ((ref01_count m a0 (1025 : Int)).bind fun r0 =>
     some r0) := fun J => by kernel_rfl
  refine (h jn).trans ?_
  
  rfl
noncomputable def d42 (q : Res) : Option (Bool) := match q with
  | (.dat T0 x0, []) => bif Nat.beq T0 4 then some x0.toBool else none
  | _ => none
theorem d42_sim {b : Res} {r : Bool} (h : d42 b = some r) : Sim Tryd.prog b ((.dat 4 (.bool r)), []) := by
  unfold d42 at h
  split at h
  · obtain ⟨hc, h2⟩ := bif_some h
    cases h2
    have e0 := beq_eq hc
    subst e0
    exact Sim.of (.of (.dat (.bool Tryd.underlying4)) rfl rfl) .nil
  · cases h
noncomputable def e42 (J : Nat → Nat → Nat → St → Option (Bool) → Option (Bool)) (m : Nat) (p ms : List Nat) (σ : St) := evAt Tryd.prog env (ct m) J (m + 1) 74 33 Tryd.f74 d42 p ms σ
noncomputable def l42 (J : Nat → Nat → Nat → St → Option (Bool) → Option (Bool)) (m : Nat) (p ms : List Nat) (M : Nat) (σ : St) := loopAt Tryd.prog env (ct m) J (m + 1) 74 33 Tryd.f74 d42 p ms M σ
noncomputable def s42_4 (x0 : ByteArray) (x1 x2 x3 : Int) : St := ⟨tsOf [(0, (.dat 9 (.str x0))), (1, (.dat 3 (.int x1))), (2, (.dat 3 (.int x2))), (7, (.dat 3 (.int x3)))], [], 0⟩
noncomputable def s42_3 (x0 : ByteArray) (x1 x2 x3 : Int) : St := ⟨tsOf [(0, (.dat 9 (.str x0))), (1, (.dat 3 (.int x1))), (2, (.dat 3 (.int x2))), (7, (.dat 3 (.int x3)))], [], 0⟩
noncomputable def s42_5 : St := ⟨tsOf [], [], 0⟩
noncomputable def s42_2 (x0 : ByteArray) (x1 x2 x3 : Int) : St := ⟨tsOf [(0, (.dat 9 (.str x0))), (1, (.dat 3 (.int x1))), (2, (.dat 3 (.int x2))), (7, (.dat 3 (.int x3)))], [], 0⟩
noncomputable def s42_1 (x0 : ByteArray) (x1 x2 x3 : Int) : St := ⟨tsOf [(0, (.dat 9 (.str x0))), (1, (.dat 3 (.int x1))), (2, (.dat 3 (.int x2))), (7, (.dat 3 (.int x3)))], [], 0⟩
noncomputable def s42_0 (x0 : ByteArray) (x1 x2 : Int) : St := ⟨tsOf [(0, (.dat 9 (.str x0))), (1, (.dat 3 (.int x1))), (2, (.dat 3 (.int x2)))], [], 0⟩
theorem ref01_tail_j4_eq (m : Nat) (M2 : Nat) (rec2 : ByteArray → Int → Int → Int → Option (Bool)) (h2 : ∀ (x0 : ByteArray) (x1 x2 x3 : Int), l42 jn m [1, 1, 0, 1, 0] [] M2 (s42_2 x0 x1 x2 x3) = rec2 x0 x1 x2 x3) (x0 : ByteArray) (x1 x2 x3 : Int) : e42 jn m [1, 1, 0, 1, 0, 0, 1, 1] [M2] (s42_4 x0 x1 x2 x3) = ref01_tail_j4 m rec2 x0 x1 x2 x3 := by
  have h : ∀ J, e42 J m [1, 1, 0, 1, 0, 0, 1, 1] [M2] (s42_4 x0 x1 x2 x3) =
    (J 1 4 M2 (s42_2 x0 x1 x2 (IntKind.wrap IntKind.i64 (x3 + (1 : Int)))) (l42 J m [1, 1, 0, 1, 0] [] M2 (s42_2 x0 x1 x2 (IntKind.wrap IntKind.i64 (x3 + (1 : Int)))))) := fun J => by kernel_rfl
  exact (h jn).trans (by
    simp only [jn_eq, h2]
    rfl)
theorem ref01_tail_j3_eq (m : Nat) (M2 : Nat) (rec2 : ByteArray → Int → Int → Int → Option (Bool)) (h2 : ∀ (x0 : ByteArray) (x1 x2 x3 : Int), l42 jn m [1, 1, 0, 1, 0] [] M2 (s42_2 x0 x1 x2 x3) = rec2 x0 x1 x2 x3) (x0 : ByteArray) (x1 x2 x3 : Int) : e42 jn m [1, 1, 0, 1, 0, 0, 1] [M2] (s42_3 x0 x1 x2 x3) = ref01_tail_j3 m rec2 x0 x1 x2 x3 := by
  have h : ∀ J, e42 J m [1, 1, 0, 1, 0, 0, 1] [M2] (s42_3 x0 x1 x2 x3) =
    ((idxS x0 (IntKind.wrap IntKind.i64 (x1 + x3))).bind fun v0 =>
     (bif (decide (v0 < (128 : Int))) then
     some Bool.false
     else
     ((idxS x0 (IntKind.wrap IntKind.i64 (x1 + x3))).bind fun v1 =>
     (bif (decide ((191 : Int) < v1)) then
     some Bool.false
     else
     (J 0 5 0 (s42_4 x0 x1 x2 x3) (e42 J m [1, 1, 0, 1, 0, 0, 1, 1] [M2] (s42_4 x0 x1 x2 x3))))))) := fun J => by kernel_rfl
  exact (h jn).trans (by
    simp only [jn_eq, ref01_tail_j4_eq m M2 rec2 h2]
    rfl)
theorem ref01_tail_j5_eq (m : Nat) : e42 jn m [1, 1, 1] [] s42_5 = ref01_tail_j5 m := by
  have h : ∀ J, e42 J m [1, 1, 1] [] s42_5 =
    some Bool.true := fun J => by kernel_rfl
  exact (h jn).trans (rfl)
theorem ref01_tail_l2_eq (m : Nat) : ∀ (M2 : Nat) (x0 : ByteArray) (x1 x2 x3 : Int), l42 jn m [1, 1, 0, 1, 0] [] M2 (s42_2 x0 x1 x2 x3) = ref01_tail_l2 m M2 x0 x1 x2 x3
  | 0, _, _, _, _ => rfl
  | M2 + 1, x0, x1, x2, x3 => by
    have h : ∀ J, l42 J m [1, 1, 0, 1, 0] [] (M2 + 1) (s42_2 x0 x1 x2 x3) =
    (bif (decide (x3 < x2)) then
     (J 0 6 0 (s42_3 x0 x1 x2 x3) (e42 J m [1, 1, 0, 1, 0, 0, 1] [M2] (s42_3 x0 x1 x2 x3)))
    else
     (J 0 8 0 s42_5 (e42 J m [1, 1, 1] [] s42_5))) := fun J => by kernel_rfl
    refine (h jn).trans ?_
    simp only [jn_eq, ref01_tail_j3_eq m M2 (ref01_tail_l2 m M2) (fun x0 x1 x2 x3 => ref01_tail_l2_eq m M2 x0 x1 x2 x3), ref01_tail_j5_eq m]
    rfl
theorem ref01_tail_j1_eq (m : Nat) (x0 : ByteArray) (x1 x2 x3 : Int) : e42 jn m [1, 1, 0, 1] [] (s42_1 x0 x1 x2 x3) = ref01_tail_j1 m x0 x1 x2 x3 := by
  have h : ∀ J, e42 J m [1, 1, 0, 1] [] (s42_1 x0 x1 x2 x3) =
    (J 1 4 (Nat.succ m) (s42_2 x0 x1 x2 x3) (l42 J m [1, 1, 0, 1, 0] [] (Nat.succ m) (s42_2 x0 x1 x2 x3))) := fun J => by kernel_rfl
  exact (h jn).trans (by
    simp only [jn_eq, ref01_tail_l2_eq m]
    rfl)
theorem ref01_tail_j0_eq (m : Nat) (x0 : ByteArray) (x1 x2 : Int) : e42 jn m [1, 1] [] (s42_0 x0 x1 x2) = ref01_tail_j0 m x0 x1 x2 := by
  have h : ∀ J, e42 J m [1, 1] [] (s42_0 x0 x1 x2) =
    (J 0 4 0 (s42_1 x0 x1 x2 (0 : Int)) (e42 J m [1, 1, 0, 1] [] (s42_1 x0 x1 x2 (0 : Int)))) := fun J => by kernel_rfl
  exact (h jn).trans (by
    simp only [jn_eq, ref01_tail_j1_eq m]
    rfl)
theorem ref01_tail_eq (m : Nat) (a0 : ByteArray) (a1 a2 : Int) : e42 jn m [] [] ⟨[(.dat 9 (.str a0)), (.dat 3 (.int a1)), (.dat 3 (.int a2))], [], 0⟩ = ref01_tail (m + 1) a0 a1 a2 := by
  have h : ∀ J, e42 J m [] [] ⟨[(.dat 9 (.str a0)), (.dat 3 (.int a1)), (.dat 3 (.int a2))], [], 0⟩ =
    (bif (decide ((((ByteArray.size a0) : Nat) : Int) < (IntKind.wrap IntKind.i64 (a1 + a2)))) then
     some Bool.false
    else
     (J 0 3 0 (s42_0 a0 a1 a2) (e42 J m [1, 1] [] (s42_0 a0 a1 a2)))) := fun J => by kernel_rfl
  refine (h jn).trans ?_
  simp only [jn_eq, ref01_tail_j0_eq m]
  rfl
noncomputable def d33 (q : Res) : Option (Bool) := match q with
  | (.dat T0 x0, []) => bif Nat.beq T0 4 then some x0.toBool else none
  | _ => none
theorem d33_sim {b : Res} {r : Bool} (h : d33 b = some r) : Sim Tryd.prog b ((.dat 4 (.bool r)), []) := by
  unfold d33 at h
  split at h
  · obtain ⟨hc, h2⟩ := bif_some h
    cases h2
    have e0 := beq_eq hc
    subst e0
    exact Sim.of (.of (.dat (.bool Tryd.underlying4)) rfl rfl) .nil
  · cases h
noncomputable def e33 (J : Nat → Nat → Nat → St → Option (Bool) → Option (Bool)) (m : Nat) (p ms : List Nat) (σ : St) := evAt Tryd.prog env (ct m) J (m + 1) 62 89 Tryd.f62 d33 p ms σ
noncomputable def l33 (J : Nat → Nat → Nat → St → Option (Bool) → Option (Bool)) (m : Nat) (p ms : List Nat) (M : Nat) (σ : St) := loopAt Tryd.prog env (ct m) J (m + 1) 62 89 Tryd.f62 d33 p ms M σ
noncomputable def s33_5 (x0 : ByteArray) (x1 x2 : Int) : St := ⟨tsOf [(0, (.dat 9 (.str x0))), (3, (.dat 3 (.int x1))), (5, (.dat 3 (.int x2)))], [], 0⟩
noncomputable def s33_4 (x0 : ByteArray) (x1 x2 x3 : Int) : St := ⟨tsOf [(0, (.dat 9 (.str x0))), (3, (.dat 3 (.int x1))), (4, (.dat 5 (.int x2))), (5, (.dat 3 (.int x3)))], [], 0⟩
noncomputable def s33_3 (x0 : ByteArray) (x1 x2 x3 : Int) : St := ⟨tsOf [(0, (.dat 9 (.str x0))), (3, (.dat 3 (.int x1))), (4, (.dat 5 (.int x2))), (5, (.dat 3 (.int x3)))], [], 0⟩
noncomputable def s33_2 (x0 : ByteArray) (x1 : Int) : St := ⟨tsOf [(0, (.dat 9 (.str x0))), (3, (.dat 3 (.int x1)))], [], 0⟩
noncomputable def s33_6 : St := ⟨tsOf [], [], 0⟩
noncomputable def s33_1 (x0 : ByteArray) (x1 : Int) : St := ⟨tsOf [(0, (.dat 9 (.str x0))), (3, (.dat 3 (.int x1)))], [], 0⟩
noncomputable def s33_0 (x0 : ByteArray) (x1 : Int) : St := ⟨tsOf [(0, (.dat 9 (.str x0))), (3, (.dat 3 (.int x1)))], [], 0⟩
theorem ref01_UTF8_j5_eq (m : Nat) (M1 : Nat) (rec1 : ByteArray → Int → Option (Bool)) (h1 : ∀ (x0 : ByteArray) (x1 : Int), l33 jn m [1, 0, 1, 0] [] M1 (s33_1 x0 x1) = rec1 x0 x1) (x0 : ByteArray) (x1 x2 : Int) : e33 jn m [1, 0, 1, 0, 0, 1, 0, 1, 1, 1, 1, 1] [M1] (s33_5 x0 x1 x2) = ref01_UTF8_j5 m rec1 x0 x1 x2 := by
  have h : ∀ J, e33 J m [1, 0, 1, 0, 0, 1, 0, 1, 1, 1, 1, 1] [M1] (s33_5 x0 x1 x2) =
    (J 1 2 M1 (s33_1 x0 (IntKind.wrap IntKind.i64 ((IntKind.wrap IntKind.i64 (x1 + x2)) + (1 : Int)))) (l33 J m [1, 0, 1, 0] [] M1 (s33_1 x0 (IntKind.wrap IntKind.i64 ((IntKind.wrap IntKind.i64 (x1 + x2)) + (1 : Int)))))) := fun J => by kernel_rfl
  exact (h jn).trans (by
    simp only [jn_eq, h1]
    rfl)
theorem ref01_UTF8_j4_eq (m : Nat) (M1 : Nat) (rec1 : ByteArray → Int → Option (Bool)) (h1 : ∀ (x0 : ByteArray) (x1 : Int), l33 jn m [1, 0, 1, 0] [] M1 (s33_1 x0 x1) = rec1 x0 x1) (x0 : ByteArray) (x1 x2 x3 : Int) : e33 jn m [1, 0, 1, 0, 0, 1, 0, 1, 1, 1, 1] [M1] (s33_4 x0 x1 x2 x3) = ref01_UTF8_j4 m rec1 x0 x1 x2 x3 := by
  have h : ∀ J, e33 J m [1, 0, 1, 0, 0, 1, 0, 1, 1, 1, 1] [M1] (s33_4 x0 x1 x2 x3) =
    (bif (x2 == (224 : Int)) then
     ((idxS x0 (IntKind.wrap IntKind.i64 (x1 + (1 : Int)))).bind fun v2 =>
     (bif (decide (v2 < (160 : Int))) then
     some Bool.false
     else
     (bif (x2 == (237 : Int)) then
     ((idxS x0 (IntKind.wrap IntKind.i64 (x1 + (1 : Int)))).bind fun v3 =>
     (bif (decide ((159 : Int) < v3)) then
     some Bool.false
     else
     (bif (x2 == (240 : Int)) then
     ((idxS x0 (IntKind.wrap IntKind.i64 (x1 + (1 : Int)))).bind fun v4 =>
     (bif (decide (v4 < (144 : Int))) then
     some Bool.false
     else
     (bif (x2 == (244 : Int)) then
     ((idxS x0 (IntKind.wrap IntKind.i64 (x1 + (1 : Int)))).bind fun v5 =>
     (bif (decide ((143 : Int) < v5)) then
     some Bool.false
     else
     (J 0 17 0 (s33_5 x0 x1 x3) (e33 J m [1, 0, 1, 0, 0, 1, 0, 1, 1, 1, 1, 1] [M1] (s33_5 x0 x1 x3)))))
     else
     (J 0 17 0 (s33_5 x0 x1 x3) (e33 J m [1, 0, 1, 0, 0, 1, 0, 1, 1, 1, 1, 1] [M1] (s33_5 x0 x1 x3))))))
     else
     (bif (x2 == (244 : Int)) then
     ((idxS x0 (IntKind.wrap IntKind.i64 (x1 + (1 : Int)))).bind fun v6 =>
     (bif (decide ((143 : Int) < v6)) then
     some Bool.false
     else
     (J 0 17 0 (s33_5 x0 x1 x3) (e33 J m [1, 0, 1, 0, 0, 1, 0, 1, 1, 1, 1, 1] [M1] (s33_5 x0 x1 x3)))))
     else
     (J 0 17 0 (s33_5 x0 x1 x3) (e33 J m [1, 0, 1, 0, 0, 1, 0, 1, 1, 1, 1, 1] [M1] (s33_5 x0 x1 x3)))))))
     else
     (bif (x2 == (240 : Int)) then
     ((idxS x0 (IntKind.wrap IntKind.i64 (x1 + (1 : Int)))).bind fun v7 =>
     (bif (decide (v7 < (144 : Int))) then
     some Bool.false
     else
     (bif (x2 == (244 : Int)) then
     ((idxS x0 (IntKind.wrap IntKind.i64 (x1 + (1 : Int)))).bind fun v8 =>
     (bif (decide ((143 : Int) < v8)) then
     some Bool.false
     else
     (J 0 17 0 (s33_5 x0 x1 x3) (e33 J m [1, 0, 1, 0, 0, 1, 0, 1, 1, 1, 1, 1] [M1] (s33_5 x0 x1 x3)))))
     else
     (J 0 17 0 (s33_5 x0 x1 x3) (e33 J m [1, 0, 1, 0, 0, 1, 0, 1, 1, 1, 1, 1] [M1] (s33_5 x0 x1 x3))))))
     else
     (bif (x2 == (244 : Int)) then
     ((idxS x0 (IntKind.wrap IntKind.i64 (x1 + (1 : Int)))).bind fun v9 =>
     (bif (decide ((143 : Int) < v9)) then
     some Bool.false
     else
     (J 0 17 0 (s33_5 x0 x1 x3) (e33 J m [1, 0, 1, 0, 0, 1, 0, 1, 1, 1, 1, 1] [M1] (s33_5 x0 x1 x3)))))
     else
     (J 0 17 0 (s33_5 x0 x1 x3) (e33 J m [1, 0, 1, 0, 0, 1, 0, 1, 1, 1, 1, 1] [M1] (s33_5 x0 x1 x3))))))))
    else
     (bif (x2 == (237 : Int)) then
     ((idxS x0 (IntKind.wrap IntKind.i64 (x1 + (1 : Int)))).bind fun v10 =>
     (bif (decide ((159 : Int) < v10)) then
     some Bool.false
     else
     (bif (x2 == (240 : Int)) then
     ((idxS x0 (IntKind.wrap IntKind.i64 (x1 + (1 : Int)))).bind fun v11 =>
     (bif (decide (v11 < (144 : Int))) then
     some Bool.false
     else
     (bif (x2 == (244 : Int)) then
     ((idxS x0 (IntKind.wrap IntKind.i64 (x1 + (1 : Int)))).bind fun v12 =>
     (bif (decide ((143 : Int) < v12)) then
     some Bool.false
     else
     (J 0 17 0 (s33_5 x0 x1 x3) (e33 J m [1, 0, 1, 0, 0, 1, 0, 1, 1, 1, 1, 1] [M1] (s33_5 x0 x1 x3)))))
     else
     (J 0 17 0 (s33_5 x0 x1 x3) (e33 J m [1, 0, 1, 0, 0, 1, 0, 1, 1, 1, 1, 1] [M1] (s33_5 x0 x1 x3))))))
     else
     (bif (x2 == (244 : Int)) then
     ((idxS x0 (IntKind.wrap IntKind.i64 (x1 + (1 : Int)))).bind fun v13 =>
     (bif (decide ((143 : Int) < v13)) then
     some Bool.false
     else
     (J 0 17 0 (s33_5 x0 x1 x3) (e33 J m [1, 0, 1, 0, 0, 1, 0, 1, 1, 1, 1, 1] [M1] (s33_5 x0 x1 x3)))))
     else
     (J 0 17 0 (s33_5 x0 x1 x3) (e33 J m [1, 0, 1, 0, 0, 1, 0, 1, 1, 1, 1, 1] [M1] (s33_5 x0 x1 x3)))))))
     else
     (bif (x2 == (240 : Int)) then
     ((idxS x0 (IntKind.wrap IntKind.i64 (x1 + (1 : Int)))).bind fun v14 =>
     (bif (decide (v14 < (144 : Int))) then
     some Bool.false
     else
     (bif (x2 == (244 : Int)) then
     ((idxS x0 (IntKind.wrap IntKind.i64 (x1 + (1 : Int)))).bind fun v15 =>
     (bif (decide ((143 : Int) < v15)) then
     some Bool.false
     else
     (J 0 17 0 (s33_5 x0 x1 x3) (e33 J m [1, 0, 1, 0, 0, 1, 0, 1, 1, 1, 1, 1] [M1] (s33_5 x0 x1 x3)))))
     else
     (J 0 17 0 (s33_5 x0 x1 x3) (e33 J m [1, 0, 1, 0, 0, 1, 0, 1, 1, 1, 1, 1] [M1] (s33_5 x0 x1 x3))))))
     else
     (bif (x2 == (244 : Int)) then
     ((idxS x0 (IntKind.wrap IntKind.i64 (x1 + (1 : Int)))).bind fun v16 =>
     (bif (decide ((143 : Int) < v16)) then
     some Bool.false
     else
     (J 0 17 0 (s33_5 x0 x1 x3) (e33 J m [1, 0, 1, 0, 0, 1, 0, 1, 1, 1, 1, 1] [M1] (s33_5 x0 x1 x3)))))
     else
     (J 0 17 0 (s33_5 x0 x1 x3) (e33 J m [1, 0, 1, 0, 0, 1, 0, 1, 1, 1, 1, 1] [M1] (s33_5 x0 x1 x3))))))) := fun J => by kernel_rfl
  exact (h jn).trans (by
    simp only [jn_eq, ref01_UTF8_j5_eq m M1 rec1 h1]
    rfl)
theorem ref01_UTF8_j3_eq (m : Nat) (M1 : Nat) (rec1 : ByteArray → Int → Option (Bool)) (h1 : ∀ (x0 : ByteArray) (x1 : Int), l33 jn m [1, 0, 1, 0] [] M1 (s33_1 x0 x1) = rec1 x0 x1) (x0 : ByteArray) (x1 x2 x3 : Int) : e33 jn m [1, 0, 1, 0, 0, 1, 0, 1, 1, 1] [M1] (s33_3 x0 x1 x2 x3) = ref01_UTF8_j3 m rec1 x0 x1 x2 x3 := by
  have h : ∀ J, e33 J m [1, 0, 1, 0, 0, 1, 0, 1, 1, 1] [M1] (s33_3 x0 x1 x2 x3) =
    ((ref01_tail m x0 (IntKind.wrap IntKind.i64 (x1 + (1 : Int))) x3).bind fun r1 =>
     (bif (Bool.not r1) then
     some Bool.false
     else
     (J 0 15 0 (s33_4 x0 x1 x2 x3) (e33 J m [1, 0, 1, 0, 0, 1, 0, 1, 1, 1, 1] [M1] (s33_4 x0 x1 x2 x3))))) := fun J => by kernel_rfl
  exact (h jn).trans (by
    simp only [jn_eq, ref01_UTF8_j4_eq m M1 rec1 h1]
    rfl)
theorem ref01_UTF8_j2_eq (m : Nat) (M1 : Nat) (rec1 : ByteArray → Int → Option (Bool)) (h1 : ∀ (x0 : ByteArray) (x1 : Int), l33 jn m [1, 0, 1, 0] [] M1 (s33_1 x0 x1) = rec1 x0 x1) (x0 : ByteArray) (x1 : Int) : e33 jn m [1, 0, 1, 0, 0, 1] [M1] (s33_2 x0 x1) = ref01_UTF8_j2 m rec1 x0 x1 := by
  have h : ∀ J, e33 J m [1, 0, 1, 0, 0, 1] [M1] (s33_2 x0 x1) =
    ((idxS x0 x1).bind fun v0 =>
     (bif (decide (v0 < (128 : Int))) then
     (J 0 13 0 (s33_3 x0 x1 v0 (0 : Int)) (e33 J m [1, 0, 1, 0, 0, 1, 0, 1, 1, 1] [M1] (s33_3 x0 x1 v0 (0 : Int))))
     else
     (bif (decide ((194 : Int) ≤ v0)) then
     (bif (decide (v0 ≤ (223 : Int))) then
     (J 0 13 0 (s33_3 x0 x1 v0 (1 : Int)) (e33 J m [1, 0, 1, 0, 0, 1, 0, 1, 1, 1] [M1] (s33_3 x0 x1 v0 (1 : Int))))
     else
     (bif (decide ((224 : Int) ≤ v0)) then
     (bif (decide (v0 ≤ (239 : Int))) then
     (J 0 13 0 (s33_3 x0 x1 v0 (2 : Int)) (e33 J m [1, 0, 1, 0, 0, 1, 0, 1, 1, 1] [M1] (s33_3 x0 x1 v0 (2 : Int))))
     else
     (bif (decide ((240 : Int) ≤ v0)) then
     (bif (decide (v0 ≤ (244 : Int))) then
     (J 0 13 0 (s33_3 x0 x1 v0 (3 : Int)) (e33 J m [1, 0, 1, 0, 0, 1, 0, 1, 1, 1] [M1] (s33_3 x0 x1 v0 (3 : Int))))
     else
     some Bool.false)
     else
     some Bool.false))
     else
     (bif (decide ((240 : Int) ≤ v0)) then
     (bif (decide (v0 ≤ (244 : Int))) then
     (J 0 13 0 (s33_3 x0 x1 v0 (3 : Int)) (e33 J m [1, 0, 1, 0, 0, 1, 0, 1, 1, 1] [M1] (s33_3 x0 x1 v0 (3 : Int))))
     else
     some Bool.false)
     else
     some Bool.false)))
     else
     (bif (decide ((224 : Int) ≤ v0)) then
     (bif (decide (v0 ≤ (239 : Int))) then
     (J 0 13 0 (s33_3 x0 x1 v0 (2 : Int)) (e33 J m [1, 0, 1, 0, 0, 1, 0, 1, 1, 1] [M1] (s33_3 x0 x1 v0 (2 : Int))))
     else
     (bif (decide ((240 : Int) ≤ v0)) then
     (bif (decide (v0 ≤ (244 : Int))) then
     (J 0 13 0 (s33_3 x0 x1 v0 (3 : Int)) (e33 J m [1, 0, 1, 0, 0, 1, 0, 1, 1, 1] [M1] (s33_3 x0 x1 v0 (3 : Int))))
     else
     some Bool.false)
     else
     some Bool.false))
     else
     (bif (decide ((240 : Int) ≤ v0)) then
     (bif (decide (v0 ≤ (244 : Int))) then
     (J 0 13 0 (s33_3 x0 x1 v0 (3 : Int)) (e33 J m [1, 0, 1, 0, 0, 1, 0, 1, 1, 1] [M1] (s33_3 x0 x1 v0 (3 : Int))))
     else
     some Bool.false)
     else
     some Bool.false))))) := fun J => by kernel_rfl
  exact (h jn).trans (by
    simp only [jn_eq, ref01_UTF8_j3_eq m M1 rec1 h1]
    rfl)
theorem ref01_UTF8_j6_eq (m : Nat) : e33 jn m [1, 1] [] s33_6 = ref01_UTF8_j6 m := by
  have h : ∀ J, e33 J m [1, 1] [] s33_6 =
    some Bool.true := fun J => by kernel_rfl
  exact (h jn).trans (rfl)
theorem ref01_UTF8_l1_eq (m : Nat) : ∀ (M1 : Nat) (x0 : ByteArray) (x1 : Int), l33 jn m [1, 0, 1, 0] [] M1 (s33_1 x0 x1) = ref01_UTF8_l1 m M1 x0 x1
  | 0, _, _ => rfl
  | M1 + 1, x0, x1 => by
    have h : ∀ J, l33 J m [1, 0, 1, 0] [] (M1 + 1) (s33_1 x0 x1) =
    (bif (decide (x1 < (((ByteArray.size x0) : Nat) : Int))) then
     (J 0 3 0 (s33_2 x0 x1) (e33 J m [1, 0, 1, 0, 0, 1] [M1] (s33_2 x0 x1)))
    else
     (J 0 18 0 s33_6 (e33 J m [1, 1] [] s33_6))) := fun J => by kernel_rfl
    refine (h jn).trans ?_
    simp only [jn_eq, ref01_UTF8_j2_eq m M1 (ref01_UTF8_l1 m M1) (fun x0 x1 => ref01_UTF8_l1_eq m M1 x0 x1), ref01_UTF8_j6_eq m]
    rfl
theorem ref01_UTF8_j0_eq (m : Nat) (x0 : ByteArray) (x1 : Int) : e33 jn m [1, 0, 1] [] (s33_0 x0 x1) = ref01_UTF8_j0 m x0 x1 := by
  have h : ∀ J, e33 J m [1, 0, 1] [] (s33_0 x0 x1) =
    (J 1 2 (Nat.succ m) (s33_1 x0 x1) (l33 J m [1, 0, 1, 0] [] (Nat.succ m) (s33_1 x0 x1))) := fun J => by kernel_rfl
  exact (h jn).trans (by
    simp only [jn_eq, ref01_UTF8_l1_eq m]
    rfl)
theorem ref01_UTF8_eq (m : Nat) (a0 : ByteArray) : e33 jn m [] [] ⟨[(.dat 9 (.str a0))], [], 0⟩ = ref01_UTF8 (m + 1) a0 := by
  have h : ∀ J, e33 J m [] [] ⟨[(.dat 9 (.str a0))], [], 0⟩ =
    (J 0 2 0 (s33_0 a0 (0 : Int)) (e33 J m [1, 0, 1] [] (s33_0 a0 (0 : Int)))) := fun J => by kernel_rfl
  refine (h jn).trans ?_
  simp only [jn_eq, ref01_UTF8_j0_eq m]
  rfl
noncomputable def d43 (q : Res) : Option (Bool) := match q with
  | (.dat T0 x0, []) => bif Nat.beq T0 4 then some x0.toBool else none
  | _ => none
theorem d43_sim {b : Res} {r : Bool} (h : d43 b = some r) : Sim Tryd.prog b ((.dat 4 (.bool r)), []) := by
  unfold d43 at h
  split at h
  · obtain ⟨hc, h2⟩ := bif_some h
    cases h2
    have e0 := beq_eq hc
    subst e0
    exact Sim.of (.of (.dat (.bool Tryd.underlying4)) rfl rfl) .nil
  · cases h
noncomputable def e43 (J : Nat → Nat → Nat → St → Option (Bool) → Option (Bool)) (m : Nat) (p ms : List Nat) (σ : St) := evAt Tryd.prog env (ct m) J (m + 1) 44 39 Tryd.f44 d43 p ms σ
noncomputable def l43 (J : Nat → Nat → Nat → St → Option (Bool) → Option (Bool)) (m : Nat) (p ms : List Nat) (M : Nat) (σ : St) := loopAt Tryd.prog env (ct m) J (m + 1) 44 39 Tryd.f44 d43 p ms M σ
noncomputable def s43_4 (x0 : ByteArray) (x1 : Int) : St := ⟨tsOf [(0, (.dat 9 (.str x0))), (3, (.dat 3 (.int x1)))], [], 0⟩
noncomputable def s43_3 (x0 : ByteArray) (x1 : Int) : St := ⟨tsOf [(0, (.dat 9 (.str x0))), (3, (.dat 3 (.int x1)))], [], 0⟩
noncomputable def s43_5 : St := ⟨tsOf [], [], 0⟩
noncomputable def s43_2 (x0 : ByteArray) (x1 : Int) : St := ⟨tsOf [(0, (.dat 9 (.str x0))), (3, (.dat 3 (.int x1)))], [], 0⟩
noncomputable def s43_1 (x0 : ByteArray) (x1 : Int) : St := ⟨tsOf [(0, (.dat 9 (.str x0))), (3, (.dat 3 (.int x1)))], [], 0⟩
noncomputable def s43_0 (x0 : ByteArray) : St := ⟨tsOf [(0, (.dat 9 (.str x0)))], [], 0⟩
theorem ref01_Name_j4_eq (m : Nat) (M2 : Nat) (rec2 : ByteArray → Int → Option (Bool)) (h2 : ∀ (x0 : ByteArray) (x1 : Int), l43 jn m [1, 1, 0, 1, 0] [] M2 (s43_2 x0 x1) = rec2 x0 x1) (x0 : ByteArray) (x1 : Int) : e43 jn m [1, 1, 0, 1, 0, 0, 1, 1] [M2] (s43_4 x0 x1) = ref01_Name_j4 m rec2 x0 x1 := by
  have h : ∀ J, e43 J m [1, 1, 0, 1, 0, 0, 1, 1] [M2] (s43_4 x0 x1) =
    (J 1 4 M2 (s43_2 x0 (IntKind.wrap IntKind.i64 (x1 + (1 : Int)))) (l43 J m [1, 1, 0, 1, 0] [] M2 (s43_2 x0 (IntKind.wrap IntKind.i64 (x1 + (1 : Int)))))) := fun J => by kernel_rfl
  exact (h jn).trans (by
    simp only [jn_eq, h2]
    rfl)
theorem ref01_Name_j3_eq (m : Nat) (M2 : Nat) (rec2 : ByteArray → Int → Option (Bool)) (h2 : ∀ (x0 : ByteArray) (x1 : Int), l43 jn m [1, 1, 0, 1, 0] [] M2 (s43_2 x0 x1) = rec2 x0 x1) (x0 : ByteArray) (x1 : Int) : e43 jn m [1, 1, 0, 1, 0, 0, 1] [M2] (s43_3 x0 x1) = ref01_Name_j3 m rec2 x0 x1 := by
  have h : ∀ J, e43 J m [1, 1, 0, 1, 0, 0, 1] [M2] (s43_3 x0 x1) =
    ((idxS x0 x1).bind fun v1 =>
     (bif (decide (v1 < (33 : Int))) then
     some Bool.false
     else
     ((idxS x0 x1).bind fun v2 =>
     (bif (decide ((126 : Int) < v2)) then
     some Bool.false
     else
     ((idxS x0 x1).bind fun v3 =>
     (bif (v3 == (46 : Int)) then
     some Bool.false
     else
     (J 0 5 0 (s43_4 x0 x1) (e43 J m [1, 1, 0, 1, 0, 0, 1, 1] [M2] (s43_4 x0 x1))))))))) := fun J => by kernel_rfl
  exact (h jn).trans (by
    simp only [jn_eq, ref01_Name_j4_eq m M2 rec2 h2]
    rfl)
theorem ref01_Name_j5_eq (m : Nat) : e43 jn m [1, 1, 1] [] s43_5 = ref01_Name_j5 m := by
  have h : ∀ J, e43 J m [1, 1, 1] [] s43_5 =
    some Bool.true := fun J => by kernel_rfl
  exact (h jn).trans (rfl)
theorem ref01_Name_l2_eq (m : Nat) : ∀ (M2 : Nat) (x0 : ByteArray) (x1 : Int), l43 jn m [1, 1, 0, 1, 0] [] M2 (s43_2 x0 x1) = ref01_Name_l2 m M2 x0 x1
  | 0, _, _ => rfl
  | M2 + 1, x0, x1 => by
    have h : ∀ J, l43 J m [1, 1, 0, 1, 0] [] (M2 + 1) (s43_2 x0 x1) =
    (bif (decide (x1 < (((ByteArray.size x0) : Nat) : Int))) then
     (J 0 6 0 (s43_3 x0 x1) (e43 J m [1, 1, 0, 1, 0, 0, 1] [M2] (s43_3 x0 x1)))
    else
     (J 0 8 0 s43_5 (e43 J m [1, 1, 1] [] s43_5))) := fun J => by kernel_rfl
    refine (h jn).trans ?_
    simp only [jn_eq, ref01_Name_j3_eq m M2 (ref01_Name_l2 m M2) (fun x0 x1 => ref01_Name_l2_eq m M2 x0 x1), ref01_Name_j5_eq m]
    rfl
theorem ref01_Name_j1_eq (m : Nat) (x0 : ByteArray) (x1 : Int) : e43 jn m [1, 1, 0, 1] [] (s43_1 x0 x1) = ref01_Name_j1 m x0 x1 := by
  have h : ∀ J, e43 J m [1, 1, 0, 1] [] (s43_1 x0 x1) =
    (J 1 4 (Nat.succ m) (s43_2 x0 x1) (l43 J m [1, 1, 0, 1, 0] [] (Nat.succ m) (s43_2 x0 x1))) := fun J => by kernel_rfl
  exact (h jn).trans (by
    simp only [jn_eq, ref01_Name_l2_eq m]
    rfl)
theorem ref01_Name_j0_eq (m : Nat) (x0 : ByteArray) : e43 jn m [1, 1] [] (s43_0 x0) = ref01_Name_j0 m x0 := by
  have h : ∀ J, e43 J m [1, 1] [] (s43_0 x0) =
    (J 0 4 0 (s43_1 x0 (0 : Int)) (e43 J m [1, 1, 0, 1] [] (s43_1 x0 (0 : Int)))) := fun J => by kernel_rfl
  exact (h jn).trans (by
    simp only [jn_eq, ref01_Name_j1_eq m]
    rfl)
theorem ref01_Name_eq (m : Nat) (a0 : ByteArray) : e43 jn m [] [] ⟨[(.dat 9 (.str a0))], [], 0⟩ = ref01_Name (m + 1) a0 := by
  have h : ∀ J, e43 J m [] [] ⟨[(.dat 9 (.str a0))], [], 0⟩ =
    (bif (decide ((((ByteArray.size a0) : Nat) : Int) < (1 : Int))) then
     some Bool.false
    else
     (bif (decide ((32 : Int) < (((ByteArray.size a0) : Nat) : Int))) then
     some Bool.false
     else
     ((idxS a0 (0 : Int)).bind fun v0 =>
     (bif (v0 == (36 : Int)) then
     some Bool.false
     else
     (J 0 3 0 (s43_0 a0) (e43 J m [1, 1] [] (s43_0 a0))))))) := fun J => by kernel_rfl
  refine (h jn).trans ?_
  simp only [jn_eq, ref01_Name_j0_eq m]
  rfl
noncomputable def d44 (q : Res) : Option (Bool) := match q with
  | (.dat T0 x0, []) => bif Nat.beq T0 4 then some x0.toBool else none
  | _ => none
theorem d44_sim {b : Res} {r : Bool} (h : d44 b = some r) : Sim Tryd.prog b ((.dat 4 (.bool r)), []) := by
  unfold d44 at h
  split at h
  · obtain ⟨hc, h2⟩ := bif_some h
    cases h2
    have e0 := beq_eq hc
    subst e0
    exact Sim.of (.of (.dat (.bool Tryd.underlying4)) rfl rfl) .nil
  · cases h
noncomputable def e44 (J : Nat → Nat → Nat → St → Option (Bool) → Option (Bool)) (m : Nat) (p ms : List Nat) (σ : St) := evAt Tryd.prog env (ct m) J (m + 1) 75 28 Tryd.f75 d44 p ms σ
noncomputable def l44 (J : Nat → Nat → Nat → St → Option (Bool) → Option (Bool)) (m : Nat) (p ms : List Nat) (M : Nat) (σ : St) := loopAt Tryd.prog env (ct m) J (m + 1) 75 28 Tryd.f75 d44 p ms M σ
noncomputable def s44_4 (x0 : ByteArray) (x1 : Int) : St := ⟨tsOf [(0, (.dat 9 (.str x0))), (3, (.dat 3 (.int x1)))], [], 0⟩
noncomputable def s44_3 (x0 : ByteArray) (x1 : Int) : St := ⟨tsOf [(0, (.dat 9 (.str x0))), (3, (.dat 3 (.int x1)))], [], 0⟩
noncomputable def s44_5 : St := ⟨tsOf [], [], 0⟩
noncomputable def s44_2 (x0 : ByteArray) (x1 : Int) : St := ⟨tsOf [(0, (.dat 9 (.str x0))), (3, (.dat 3 (.int x1)))], [], 0⟩
noncomputable def s44_1 (x0 : ByteArray) (x1 : Int) : St := ⟨tsOf [(0, (.dat 9 (.str x0))), (3, (.dat 3 (.int x1)))], [], 0⟩
noncomputable def s44_0 (x0 : ByteArray) : St := ⟨tsOf [(0, (.dat 9 (.str x0)))], [], 0⟩
theorem ref01_wide_j4_eq (m : Nat) (M2 : Nat) (rec2 : ByteArray → Int → Option (Bool)) (h2 : ∀ (x0 : ByteArray) (x1 : Int), l44 jn m [1, 1, 0, 1, 0] [] M2 (s44_2 x0 x1) = rec2 x0 x1) (x0 : ByteArray) (x1 : Int) : e44 jn m [1, 1, 0, 1, 0, 0, 1, 1] [M2] (s44_4 x0 x1) = ref01_wide_j4 m rec2 x0 x1 := by
  have h : ∀ J, e44 J m [1, 1, 0, 1, 0, 0, 1, 1] [M2] (s44_4 x0 x1) =
    (J 1 4 M2 (s44_2 x0 (IntKind.wrap IntKind.i64 (x1 + (1 : Int)))) (l44 J m [1, 1, 0, 1, 0] [] M2 (s44_2 x0 (IntKind.wrap IntKind.i64 (x1 + (1 : Int)))))) := fun J => by kernel_rfl
  exact (h jn).trans (by
    simp only [jn_eq, h2]
    rfl)
theorem ref01_wide_j3_eq (m : Nat) (M2 : Nat) (rec2 : ByteArray → Int → Option (Bool)) (h2 : ∀ (x0 : ByteArray) (x1 : Int), l44 jn m [1, 1, 0, 1, 0] [] M2 (s44_2 x0 x1) = rec2 x0 x1) (x0 : ByteArray) (x1 : Int) : e44 jn m [1, 1, 0, 1, 0, 0, 1] [M2] (s44_3 x0 x1) = ref01_wide_j3 m rec2 x0 x1 := by
  have h : ∀ J, e44 J m [1, 1, 0, 1, 0, 0, 1] [M2] (s44_3 x0 x1) =
    ((idxS x0 x1).bind fun v0 =>
     (bif (decide (v0 < (32 : Int))) then
     some Bool.false
     else
     ((idxS x0 x1).bind fun v1 =>
     (bif (decide ((126 : Int) < v1)) then
     some Bool.false
     else
     (J 0 5 0 (s44_4 x0 x1) (e44 J m [1, 1, 0, 1, 0, 0, 1, 1] [M2] (s44_4 x0 x1))))))) := fun J => by kernel_rfl
  exact (h jn).trans (by
    simp only [jn_eq, ref01_wide_j4_eq m M2 rec2 h2]
    rfl)
theorem ref01_wide_j5_eq (m : Nat) : e44 jn m [1, 1, 1] [] s44_5 = ref01_wide_j5 m := by
  have h : ∀ J, e44 J m [1, 1, 1] [] s44_5 =
    some Bool.true := fun J => by kernel_rfl
  exact (h jn).trans (rfl)
theorem ref01_wide_l2_eq (m : Nat) : ∀ (M2 : Nat) (x0 : ByteArray) (x1 : Int), l44 jn m [1, 1, 0, 1, 0] [] M2 (s44_2 x0 x1) = ref01_wide_l2 m M2 x0 x1
  | 0, _, _ => rfl
  | M2 + 1, x0, x1 => by
    have h : ∀ J, l44 J m [1, 1, 0, 1, 0] [] (M2 + 1) (s44_2 x0 x1) =
    (bif (decide (x1 < (((ByteArray.size x0) : Nat) : Int))) then
     (J 0 6 0 (s44_3 x0 x1) (e44 J m [1, 1, 0, 1, 0, 0, 1] [M2] (s44_3 x0 x1)))
    else
     (J 0 8 0 s44_5 (e44 J m [1, 1, 1] [] s44_5))) := fun J => by kernel_rfl
    refine (h jn).trans ?_
    simp only [jn_eq, ref01_wide_j3_eq m M2 (ref01_wide_l2 m M2) (fun x0 x1 => ref01_wide_l2_eq m M2 x0 x1), ref01_wide_j5_eq m]
    rfl
theorem ref01_wide_j1_eq (m : Nat) (x0 : ByteArray) (x1 : Int) : e44 jn m [1, 1, 0, 1] [] (s44_1 x0 x1) = ref01_wide_j1 m x0 x1 := by
  have h : ∀ J, e44 J m [1, 1, 0, 1] [] (s44_1 x0 x1) =
    (J 1 4 (Nat.succ m) (s44_2 x0 x1) (l44 J m [1, 1, 0, 1, 0] [] (Nat.succ m) (s44_2 x0 x1))) := fun J => by kernel_rfl
  exact (h jn).trans (by
    simp only [jn_eq, ref01_wide_l2_eq m]
    rfl)
theorem ref01_wide_j0_eq (m : Nat) (x0 : ByteArray) : e44 jn m [1, 1] [] (s44_0 x0) = ref01_wide_j0 m x0 := by
  have h : ∀ J, e44 J m [1, 1] [] (s44_0 x0) =
    (J 0 4 0 (s44_1 x0 (0 : Int)) (e44 J m [1, 1, 0, 1] [] (s44_1 x0 (0 : Int)))) := fun J => by kernel_rfl
  exact (h jn).trans (by
    simp only [jn_eq, ref01_wide_j1_eq m]
    rfl)
theorem ref01_wide_eq (m : Nat) (a0 : ByteArray) : e44 jn m [] [] ⟨[(.dat 9 (.str a0))], [], 0⟩ = ref01_wide (m + 1) a0 := by
  have h : ∀ J, e44 J m [] [] ⟨[(.dat 9 (.str a0))], [], 0⟩ =
    (bif (decide ((((ByteArray.size a0) : Nat) : Int) < (1 : Int))) then
     some Bool.false
    else
     (bif (decide ((128 : Int) < (((ByteArray.size a0) : Nat) : Int))) then
     some Bool.false
     else
     (J 0 3 0 (s44_0 a0) (e44 J m [1, 1] [] (s44_0 a0))))) := fun J => by kernel_rfl
  refine (h jn).trans ?_
  simp only [jn_eq, ref01_wide_j0_eq m]
  rfl
noncomputable def d18 (q : Res) : Option (Bool) := match q with
  | (.dat T0 x0, []) => bif Nat.beq T0 4 then some x0.toBool else none
  | _ => none
theorem d18_sim {b : Res} {r : Bool} (h : d18 b = some r) : Sim Tryd.prog b ((.dat 4 (.bool r)), []) := by
  unfold d18 at h
  split at h
  · obtain ⟨hc, h2⟩ := bif_some h
    cases h2
    have e0 := beq_eq hc
    subst e0
    exact Sim.of (.of (.dat (.bool Tryd.underlying4)) rfl rfl) .nil
  · cases h
noncomputable def e18 (J : Nat → Nat → Nat → St → Option (Bool) → Option (Bool)) (m : Nat) (p ms : List Nat) (σ : St) := evAt Tryd.prog env (ct m) J (m + 1) 49 138 Tryd.f49 d18 p ms σ
noncomputable def l18 (J : Nat → Nat → Nat → St → Option (Bool) → Option (Bool)) (m : Nat) (p ms : List Nat) (M : Nat) (σ : St) := loopAt Tryd.prog env (ct m) J (m + 1) 49 138 Tryd.f49 d18 p ms M σ
noncomputable def s18_8 (x0 : Bool) (x1 : Int) (x2 : Dt) : St := ⟨tsOf [(1, (.dat 4 (.bool x0))), (2, (.ptr 0 [] 0)), (7, (.dat 3 (.int x1)))], [(.box 30 (.dat 30 x2))], 0⟩
noncomputable def s18_7 (x0 : Bool) (x1 : Int) (x2 : Dt) : St := ⟨tsOf [(1, (.dat 4 (.bool x0))), (2, (.ptr 0 [] 0)), (7, (.dat 3 (.int x1)))], [(.box 30 (.dat 30 x2))], 0⟩
noncomputable def s18_9 (x0 : Bool) (x1 : Dt) : St := ⟨tsOf [(1, (.dat 4 (.bool x0))), (2, (.ptr 0 [] 0))], [(.box 30 (.dat 30 x1))], 0⟩
noncomputable def s18_6 (x0 : Bool) (x1 : Int) (x2 : Dt) : St := ⟨tsOf [(1, (.dat 4 (.bool x0))), (2, (.ptr 0 [] 0)), (7, (.dat 3 (.int x1)))], [(.box 30 (.dat 30 x2))], 0⟩
noncomputable def s18_5 (x0 : Bool) (x1 : Int) (x2 : Dt) : St := ⟨tsOf [(1, (.dat 4 (.bool x0))), (2, (.ptr 0 [] 0)), (7, (.dat 3 (.int x1)))], [(.box 30 (.dat 30 x2))], 0⟩
noncomputable def s18_4 (x0 : Bool) (x1 : Dt) : St := ⟨tsOf [(1, (.dat 4 (.bool x0))), (2, (.ptr 0 [] 0))], [(.box 30 (.dat 30 x1))], 0⟩
noncomputable def s18_3 (x0 : Bool) (x1 : Dt) : St := ⟨tsOf [(1, (.dat 4 (.bool x0))), (2, (.ptr 0 [] 0))], [(.box 30 (.dat 30 x1))], 0⟩
noncomputable def s18_2 (x0 x1 x2 : Bool) (x3 : Dt) : St := ⟨tsOf [(1, (.dat 4 (.bool x0))), (2, (.ptr 0 [] 0)), (5, (.dat 4 (.bool x1))), (6, (.dat 4 (.bool x2)))], [(.box 30 (.dat 30 x3))], 0⟩
noncomputable def s18_1 (x0 x1 : Bool) (x2 : Dt) : St := ⟨tsOf [(1, (.dat 4 (.bool x0))), (2, (.ptr 0 [] 0)), (5, (.dat 4 (.bool x1)))], [(.box 30 (.dat 30 x2))], 0⟩
noncomputable def s18_0 (x0 : Bool) (x1 : Dt) : St := ⟨tsOf [(1, (.dat 4 (.bool x0))), (2, (.ptr 0 [] 0))], [(.box 30 (.dat 30 x1))], 0⟩
theorem ref01_formed_j8_eq (m : Nat) (M6 : Nat) (rec6 : Bool → Int → Dt → Option (Bool)) (h6 : ∀ (x0 : Bool) (x1 : Int) (x2 : Dt), l18 jn m [1, 1, 1, 1, 1, 1, 0, 1, 0] [] M6 (s18_6 x0 x1 x2) = rec6 x0 x1 x2) (x0 : Bool) (x1 : Int) (x2 : Dt) : e18 jn m [1, 1, 1, 1, 1, 1, 0, 1, 0, 0, 1, 1] [M6] (s18_8 x0 x1 x2) = ref01_formed_j8 m (ref01_formed m) (ref01_fields m) rec6 x0 x1 x2 := by
  have h : ∀ J, e18 J m [1, 1, 1, 1, 1, 1, 0, 1, 0, 0, 1, 1] [M6] (s18_8 x0 x1 x2) =
    (J 1 19 M6 (s18_6 x0 (IntKind.wrap IntKind.i64 (x1 + (1 : Int))) x2) (l18 J m [1, 1, 1, 1, 1, 1, 0, 1, 0] [] M6 (s18_6 x0 (IntKind.wrap IntKind.i64 (x1 + (1 : Int))) x2))) := fun J => by kernel_rfl
  exact (h jn).trans (by
    simp only [jn_eq, h6]
    rfl)
theorem ref01_formed_j7_eq (m : Nat) (M6 : Nat) (rec6 : Bool → Int → Dt → Option (Bool)) (h6 : ∀ (x0 : Bool) (x1 : Int) (x2 : Dt), l18 jn m [1, 1, 1, 1, 1, 1, 0, 1, 0] [] M6 (s18_6 x0 x1 x2) = rec6 x0 x1 x2) (x0 : Bool) (x1 : Int) (x2 : Dt) : e18 jn m [1, 1, 1, 1, 1, 1, 0, 1, 0, 0, 1] [M6] (s18_7 x0 x1 x2) = ref01_formed_j7 m (ref01_formed m) (ref01_fields m) rec6 x0 x1 x2 := by
  have h : ∀ J, e18 J m [1, 1, 1, 1, 1, 1, 0, 1, 0, 0, 1] [M6] (s18_7 x0 x1 x2) =
    ((idx (Dt.L x2 3) x1).bind fun v1 =>
     ((ref01_formed m v1 x0).bind fun r2 =>
     (bif (Bool.not r2) then
     some Bool.false
     else
     (J 0 20 0 (s18_8 x0 x1 x2) (e18 J m [1, 1, 1, 1, 1, 1, 0, 1, 0, 0, 1, 1] [M6] (s18_8 x0 x1 x2)))))) := fun J => by kernel_rfl
  exact (h jn).trans (by
    simp only [jn_eq, ref01_formed_j8_eq m M6 rec6 h6]
    rfl)
theorem ref01_formed_j9_eq (m : Nat) (x0 : Bool) (x1 : Dt) : e18 jn m [1, 1, 1, 1, 1, 1, 1] [] (s18_9 x0 x1) = ref01_formed_j9 m (ref01_formed m) (ref01_fields m) x0 x1 := by
  have h : ∀ J, e18 J m [1, 1, 1, 1, 1, 1, 1] [] (s18_9 x0 x1) =
    ((ref01_fields m x1 x0).bind fun r3 =>
     some r3) := fun J => by kernel_rfl
  exact (h jn).trans (rfl)
theorem ref01_formed_l6_eq (m : Nat) : ∀ (M6 : Nat) (x0 : Bool) (x1 : Int) (x2 : Dt), l18 jn m [1, 1, 1, 1, 1, 1, 0, 1, 0] [] M6 (s18_6 x0 x1 x2) = ref01_formed_l6 m (ref01_formed m) (ref01_fields m) M6 x0 x1 x2
  | 0, _, _, _ => rfl
  | M6 + 1, x0, x1, x2 => by
    have h : ∀ J, l18 J m [1, 1, 1, 1, 1, 1, 0, 1, 0] [] (M6 + 1) (s18_6 x0 x1 x2) =
    (bif (decide (x1 < (((List.length (Dt.L x2 3)) : Nat) : Int))) then
     (J 0 21 0 (s18_7 x0 x1 x2) (e18 J m [1, 1, 1, 1, 1, 1, 0, 1, 0, 0, 1] [M6] (s18_7 x0 x1 x2)))
    else
     (J 0 23 0 (s18_9 x0 x2) (e18 J m [1, 1, 1, 1, 1, 1, 1] [] (s18_9 x0 x2)))) := fun J => by kernel_rfl
    refine (h jn).trans ?_
    simp only [jn_eq, ref01_formed_j7_eq m M6 (ref01_formed_l6 m (ref01_formed m) (ref01_fields m) M6) (fun x0 x1 x2 => ref01_formed_l6_eq m M6 x0 x1 x2), ref01_formed_j9_eq m]
    rfl
theorem ref01_formed_j5_eq (m : Nat) (x0 : Bool) (x1 : Int) (x2 : Dt) : e18 jn m [1, 1, 1, 1, 1, 1, 0, 1] [] (s18_5 x0 x1 x2) = ref01_formed_j5 m (ref01_formed m) (ref01_fields m) x0 x1 x2 := by
  have h : ∀ J, e18 J m [1, 1, 1, 1, 1, 1, 0, 1] [] (s18_5 x0 x1 x2) =
    (J 1 19 (Nat.succ m) (s18_6 x0 x1 x2) (l18 J m [1, 1, 1, 1, 1, 1, 0, 1, 0] [] (Nat.succ m) (s18_6 x0 x1 x2))) := fun J => by kernel_rfl
  exact (h jn).trans (by
    simp only [jn_eq, ref01_formed_l6_eq m]
    rfl)
theorem ref01_formed_j4_eq (m : Nat) (x0 : Bool) (x1 : Dt) : e18 jn m [1, 1, 1, 1, 1, 1] [] (s18_4 x0 x1) = ref01_formed_j4 m (ref01_formed m) (ref01_fields m) x0 x1 := by
  have h : ∀ J, e18 J m [1, 1, 1, 1, 1, 1] [] (s18_4 x0 x1) =
    (J 0 19 0 (s18_5 x0 (0 : Int) x1) (e18 J m [1, 1, 1, 1, 1, 1, 0, 1] [] (s18_5 x0 (0 : Int) x1))) := fun J => by kernel_rfl
  exact (h jn).trans (by
    simp only [jn_eq, ref01_formed_j5_eq m]
    rfl)
theorem ref01_formed_j3_eq (m : Nat) (x0 : Bool) (x1 : Dt) : e18 jn m [1, 1, 1, 1, 1] [] (s18_3 x0 x1) = ref01_formed_j3 m (ref01_formed m) (ref01_fields m) x0 x1 := by
  have h : ∀ J, e18 J m [1, 1, 1, 1, 1] [] (s18_3 x0 x1) =
    (bif ((Dt.I x1 0) == (9 : Int)) then
     (bif ((Dt.I x1 1) == (0 : Int)) then
     some Bool.true
     else
     some ((Dt.I x1 1) == (1 : Int)))
    else
     (bif ((Dt.I x1 0) == (10 : Int)) then
     some (decide ((0 : Int) ≤ (Dt.I x1 1)))
     else
     (bif ((Dt.I x1 0) == (4 : Int)) then
     (bif (decide ((((ByteArray.size (Dt.S x1 2)) : Nat) : Int) ≤ (4096 : Int))) then
     ((ref01_UTF8 m (Dt.S x1 2)).bind fun r0 =>
     some r0)
     else
     some Bool.false)
     else
     (bif ((Dt.I x1 0) == (7 : Int)) then
     some (decide ((((ByteArray.size (Dt.S x1 2)) : Nat) : Int) ≤ (4096 : Int)))
     else
     (bif ((Dt.I x1 0) == (8 : Int)) then
     some ((((ByteArray.size (Dt.S x1 2)) : Nat) : Int) == (12 : Int))
     else
     (J 0 18 0 (s18_4 x0 x1) (e18 J m [1, 1, 1, 1, 1, 1] [] (s18_4 x0 x1)))))))) := fun J => by kernel_rfl
  exact (h jn).trans (by
    simp only [jn_eq, ref01_formed_j4_eq m]
    rfl)
theorem ref01_formed_j2_eq (m : Nat) (x0 x1 x2 : Bool) (x3 : Dt) : e18 jn m [1, 1, 1, 1] [] (s18_2 x0 x1 x2 x3) = ref01_formed_j2 m (ref01_formed m) (ref01_fields m) x0 x1 x2 x3 := by
  have h : ∀ J, e18 J m [1, 1, 1, 1] [] (s18_2 x0 x1 x2 x3) =
    (bif (Bool.not x1) then
     (bif (Bool.not ((ByteArray.toList (Dt.S x3 2)) == [])) then
     some Bool.false
     else
     (bif (Bool.not x2) then
     (bif ((Dt.I x3 1) != (0 : Int)) then
     some Bool.false
     else
     (bif (decide ((Dt.I x3 0) < (1 : Int))) then
     some Bool.false
     else
     (bif (decide ((11 : Int) < (Dt.I x3 0))) then
     some Bool.false
     else
     (J 0 7 0 (s18_3 x0 x3) (e18 J m [1, 1, 1, 1, 1] [] (s18_3 x0 x3))))))
     else
     (bif (decide ((Dt.I x3 0) < (1 : Int))) then
     some Bool.false
     else
     (bif (decide ((11 : Int) < (Dt.I x3 0))) then
     some Bool.false
     else
     (J 0 7 0 (s18_3 x0 x3) (e18 J m [1, 1, 1, 1, 1] [] (s18_3 x0 x3)))))))
    else
     (bif (Bool.not x2) then
     (bif ((Dt.I x3 1) != (0 : Int)) then
     some Bool.false
     else
     (bif (decide ((Dt.I x3 0) < (1 : Int))) then
     some Bool.false
     else
     (bif (decide ((11 : Int) < (Dt.I x3 0))) then
     some Bool.false
     else
     (J 0 7 0 (s18_3 x0 x3) (e18 J m [1, 1, 1, 1, 1] [] (s18_3 x0 x3))))))
     else
     (bif (decide ((Dt.I x3 0) < (1 : Int))) then
     some Bool.false
     else
     (bif (decide ((11 : Int) < (Dt.I x3 0))) then
     some Bool.false
     else
     (J 0 7 0 (s18_3 x0 x3) (e18 J m [1, 1, 1, 1, 1] [] (s18_3 x0 x3))))))) := fun J => by kernel_rfl
  exact (h jn).trans (by
    simp only [jn_eq, ref01_formed_j3_eq m]
    rfl)
theorem ref01_formed_j1_eq (m : Nat) (x0 x1 : Bool) (x2 : Dt) : e18 jn m [1, 1, 1] [] (s18_1 x0 x1 x2) = ref01_formed_j1 m (ref01_formed m) (ref01_fields m) x0 x1 x2 := by
  have h : ∀ J, e18 J m [1, 1, 1] [] (s18_1 x0 x1 x2) =
    (bif ((Dt.I x2 0) == (3 : Int)) then
     (J 0 5 0 (s18_2 x0 x1 Bool.true x2) (e18 J m [1, 1, 1, 1] [] (s18_2 x0 x1 Bool.true x2)))
    else
     (bif ((Dt.I x2 0) == (9 : Int)) then
     (J 0 5 0 (s18_2 x0 x1 Bool.true x2) (e18 J m [1, 1, 1, 1] [] (s18_2 x0 x1 Bool.true x2)))
     else
     (J 0 5 0 (s18_2 x0 x1 ((Dt.I x2 0) == (10 : Int)) x2) (e18 J m [1, 1, 1, 1] [] (s18_2 x0 x1 ((Dt.I x2 0) == (10 : Int)) x2))))) := fun J => by kernel_rfl
  exact (h jn).trans (by
    simp only [jn_eq, ref01_formed_j2_eq m]
    rfl)
theorem ref01_formed_j0_eq (m : Nat) (x0 : Bool) (x1 : Dt) : e18 jn m [1, 1] [] (s18_0 x0 x1) = ref01_formed_j0 m (ref01_formed m) (ref01_fields m) x0 x1 := by
  have h : ∀ J, e18 J m [1, 1] [] (s18_0 x0 x1) =
    (bif ((Dt.I x1 0) == (4 : Int)) then
     (J 0 4 0 (s18_1 x0 Bool.true x1) (e18 J m [1, 1, 1] [] (s18_1 x0 Bool.true x1)))
    else
     (bif ((Dt.I x1 0) == (7 : Int)) then
     (J 0 4 0 (s18_1 x0 Bool.true x1) (e18 J m [1, 1, 1] [] (s18_1 x0 Bool.true x1)))
     else
     (J 0 4 0 (s18_1 x0 ((Dt.I x1 0) == (8 : Int)) x1) (e18 J m [1, 1, 1] [] (s18_1 x0 ((Dt.I x1 0) == (8 : Int)) x1))))) := fun J => by kernel_rfl
  exact (h jn).trans (by
    simp only [jn_eq, ref01_formed_j1_eq m]
    rfl)
theorem ref01_formed_eq (m : Nat) (a0 : Dt) (a1 : Bool) : e18 jn m [] [] ⟨[(.dat 30 a0), (.dat 4 (.bool a1))], [], 0⟩ = ref01_formed (m + 1) a0 a1 := by
  have h : ∀ J, e18 J m [] [] ⟨[(.dat 30 a0), (.dat 4 (.bool a1))], [], 0⟩ =
    (bif ((Dt.I a0 0) != (6 : Int)) then
     (bif (decide ((0 : Int) < (((List.length (Dt.L a0 3)) : Nat) : Int))) then
     some Bool.false
     else
     (bif ((Dt.I a0 0) != (5 : Int)) then
     (bif (decide ((0 : Int) < (((List.length (Dt.L a0 4)) : Nat) : Int))) then
     some Bool.false
     else
     (J 0 3 0 (s18_0 a1 a0) (e18 J m [1, 1] [] (s18_0 a1 a0))))
     else
     (J 0 3 0 (s18_0 a1 a0) (e18 J m [1, 1] [] (s18_0 a1 a0)))))
    else
     (bif ((Dt.I a0 0) != (5 : Int)) then
     (bif (decide ((0 : Int) < (((List.length (Dt.L a0 4)) : Nat) : Int))) then
     some Bool.false
     else
     (J 0 3 0 (s18_0 a1 a0) (e18 J m [1, 1] [] (s18_0 a1 a0))))
     else
     (J 0 3 0 (s18_0 a1 a0) (e18 J m [1, 1] [] (s18_0 a1 a0))))) := fun J => by kernel_rfl
  refine (h jn).trans ?_
  simp only [jn_eq, ref01_formed_j0_eq m]
  rfl
noncomputable def d34 (q : Res) : Option (Bool) := match q with
  | (.dat T0 x0, []) => bif Nat.beq T0 4 then some x0.toBool else none
  | _ => none
theorem d34_sim {b : Res} {r : Bool} (h : d34 b = some r) : Sim Tryd.prog b ((.dat 4 (.bool r)), []) := by
  unfold d34 at h
  split at h
  · obtain ⟨hc, h2⟩ := bif_some h
    cases h2
    have e0 := beq_eq hc
    subst e0
    exact Sim.of (.of (.dat (.bool Tryd.underlying4)) rfl rfl) .nil
  · cases h
noncomputable def e34 (J : Nat → Nat → Nat → St → Option (Bool) → Option (Bool)) (m : Nat) (p ms : List Nat) (σ : St) := evAt Tryd.prog env (ct m) J (m + 1) 63 58 Tryd.f63 d34 p ms σ
noncomputable def l34 (J : Nat → Nat → Nat → St → Option (Bool) → Option (Bool)) (m : Nat) (p ms : List Nat) (M : Nat) (σ : St) := loopAt Tryd.prog env (ct m) J (m + 1) 63 58 Tryd.f63 d34 p ms M σ
noncomputable def s34_7 (x0 : Bool) (x1 x2 : Int) (x3 x4 : Dt) : St := ⟨tsOf [(1, (.dat 4 (.bool x0))), (2, (.ptr 0 [] 0)), (5, (.dat 3 (.int x1))), (6, (.ptr 1 [] 0)), (7, (.dat 3 (.int x2)))], [(.box 30 (.dat 30 x3)), (.box 53 (.dat 53 x4))], 0⟩
noncomputable def s34_6 (x0 : Bool) (x1 x2 : Int) (x3 x4 : Dt) : St := ⟨tsOf [(1, (.dat 4 (.bool x0))), (2, (.ptr 0 [] 0)), (5, (.dat 3 (.int x1))), (6, (.ptr 1 [] 0)), (7, (.dat 3 (.int x2)))], [(.box 30 (.dat 30 x3)), (.box 53 (.dat 53 x4))], 0⟩
noncomputable def s34_8 (x0 : Bool) (x1 : Int) (x2 : Dt) : St := ⟨tsOf [(1, (.dat 4 (.bool x0))), (2, (.ptr 0 [] 0)), (5, (.dat 3 (.int x1)))], [(.box 30 (.dat 30 x2))], 0⟩
noncomputable def s34_5 (x0 : Bool) (x1 x2 : Int) (x3 x4 : Dt) : St := ⟨tsOf [(1, (.dat 4 (.bool x0))), (2, (.ptr 0 [] 0)), (5, (.dat 3 (.int x1))), (6, (.ptr 1 [] 0)), (7, (.dat 3 (.int x2)))], [(.box 30 (.dat 30 x3)), (.box 53 (.dat 53 x4))], 0⟩
noncomputable def s34_4 (x0 : Bool) (x1 x2 : Int) (x3 x4 : Dt) : St := ⟨tsOf [(1, (.dat 4 (.bool x0))), (2, (.ptr 0 [] 0)), (5, (.dat 3 (.int x1))), (6, (.ptr 1 [] 0)), (7, (.dat 3 (.int x2)))], [(.box 30 (.dat 30 x3)), (.box 53 (.dat 53 x4))], 0⟩
noncomputable def s34_3 (x0 : Bool) (x1 : Int) (x2 x3 : Dt) : St := ⟨tsOf [(1, (.dat 4 (.bool x0))), (2, (.ptr 0 [] 0)), (5, (.dat 3 (.int x1))), (6, (.ptr 1 [] 0))], [(.box 30 (.dat 30 x2)), (.box 53 (.dat 53 x3))], 0⟩
noncomputable def s34_2 (x0 : Bool) (x1 : Int) (x2 : Dt) : St := ⟨tsOf [(1, (.dat 4 (.bool x0))), (2, (.ptr 0 [] 0)), (5, (.dat 3 (.int x1)))], [(.box 30 (.dat 30 x2))], 0⟩
noncomputable def s34_9 : St := ⟨tsOf [], [], 0⟩
noncomputable def s34_1 (x0 : Bool) (x1 : Int) (x2 : Dt) : St := ⟨tsOf [(1, (.dat 4 (.bool x0))), (2, (.ptr 0 [] 0)), (5, (.dat 3 (.int x1)))], [(.box 30 (.dat 30 x2))], 0⟩
noncomputable def s34_0 (x0 : Bool) (x1 : Int) (x2 : Dt) : St := ⟨tsOf [(1, (.dat 4 (.bool x0))), (2, (.ptr 0 [] 0)), (5, (.dat 3 (.int x1)))], [(.box 30 (.dat 30 x2))], 0⟩
theorem ref01_fields_j7_eq (m : Nat) (M1 : Nat) (rec1 : Bool → Int → Dt → Option (Bool)) (h1 : ∀ (x0 : Bool) (x1 : Int) (x2 : Dt), l34 jn m [1, 0, 1, 0] [] M1 (s34_1 x0 x1 x2) = rec1 x0 x1 x2) (M5 : Nat) (rec5 : Bool → Int → Int → Dt → Dt → Option (Bool)) (h5 : ∀ (x0 : Bool) (x1 x2 : Int) (x3 x4 : Dt), l34 jn m [1, 0, 1, 0, 0, 1, 0, 0, 1, 1, 1, 0] [M1] M5 (s34_5 x0 x1 x2 x3 x4) = rec5 x0 x1 x2 x3 x4) (x0 : Bool) (x1 x2 : Int) (x3 x4 : Dt) : e34 jn m [1, 0, 1, 0, 0, 1, 0, 0, 1, 1, 1, 0, 0, 1, 1] [M1, M5] (s34_7 x0 x1 x2 x3 x4) = ref01_fields_j7 m (ref01_formed m) rec1 rec5 x0 x1 x2 x3 x4 := by
  have h : ∀ J, e34 J m [1, 0, 1, 0, 0, 1, 0, 0, 1, 1, 1, 0, 0, 1, 1] [M1, M5] (s34_7 x0 x1 x2 x3 x4) =
    (J 1 8 M5 (s34_5 x0 x1 (IntKind.wrap IntKind.i64 (x2 + (1 : Int))) x3 x4) (l34 J m [1, 0, 1, 0, 0, 1, 0, 0, 1, 1, 1, 0] [M1] M5 (s34_5 x0 x1 (IntKind.wrap IntKind.i64 (x2 + (1 : Int))) x3 x4))) := fun J => by kernel_rfl
  exact (h jn).trans (by
    simp only [jn_eq, h5]
    rfl)
theorem ref01_fields_j6_eq (m : Nat) (M1 : Nat) (rec1 : Bool → Int → Dt → Option (Bool)) (h1 : ∀ (x0 : Bool) (x1 : Int) (x2 : Dt), l34 jn m [1, 0, 1, 0] [] M1 (s34_1 x0 x1 x2) = rec1 x0 x1 x2) (M5 : Nat) (rec5 : Bool → Int → Int → Dt → Dt → Option (Bool)) (h5 : ∀ (x0 : Bool) (x1 x2 : Int) (x3 x4 : Dt), l34 jn m [1, 0, 1, 0, 0, 1, 0, 0, 1, 1, 1, 0] [M1] M5 (s34_5 x0 x1 x2 x3 x4) = rec5 x0 x1 x2 x3 x4) (x0 : Bool) (x1 x2 : Int) (x3 x4 : Dt) : e34 jn m [1, 0, 1, 0, 0, 1, 0, 0, 1, 1, 1, 0, 0, 1] [M1, M5] (s34_6 x0 x1 x2 x3 x4) = ref01_fields_j6 m (ref01_formed m) rec1 rec5 x0 x1 x2 x3 x4 := by
  have h : ∀ J, e34 J m [1, 0, 1, 0, 0, 1, 0, 0, 1, 1, 1, 0, 0, 1] [M1, M5] (s34_6 x0 x1 x2 x3 x4) =
    ((idx (Dt.L x3 4) x2).bind fun v4 =>
     (bif ((ByteArray.toList (Dt.S v4 0)) == (ByteArray.toList (Dt.S x4 0))) then
     some Bool.false
     else
     (J 0 9 0 (s34_7 x0 x1 x2 x3 x4) (e34 J m [1, 0, 1, 0, 0, 1, 0, 0, 1, 1, 1, 0, 0, 1, 1] [M1, M5] (s34_7 x0 x1 x2 x3 x4))))) := fun J => by kernel_rfl
  exact (h jn).trans (by
    simp only [jn_eq, ref01_fields_j7_eq m M1 rec1 h1 M5 rec5 h5]
    rfl)
theorem ref01_fields_j8_eq (m : Nat) (M1 : Nat) (rec1 : Bool → Int → Dt → Option (Bool)) (h1 : ∀ (x0 : Bool) (x1 : Int) (x2 : Dt), l34 jn m [1, 0, 1, 0] [] M1 (s34_1 x0 x1 x2) = rec1 x0 x1 x2) (x0 : Bool) (x1 : Int) (x2 : Dt) : e34 jn m [1, 0, 1, 0, 0, 1, 1] [M1] (s34_8 x0 x1 x2) = ref01_fields_j8 m (ref01_formed m) rec1 x0 x1 x2 := by
  have h : ∀ J, e34 J m [1, 0, 1, 0, 0, 1, 1] [M1] (s34_8 x0 x1 x2) =
    (J 1 2 M1 (s34_1 x0 (IntKind.wrap IntKind.i64 (x1 + (1 : Int))) x2) (l34 J m [1, 0, 1, 0] [] M1 (s34_1 x0 (IntKind.wrap IntKind.i64 (x1 + (1 : Int))) x2))) := fun J => by kernel_rfl
  exact (h jn).trans (by
    simp only [jn_eq, h1]
    rfl)
theorem ref01_fields_l5_eq (m : Nat) (M1 : Nat) (rec1 : Bool → Int → Dt → Option (Bool)) (h1 : ∀ (x0 : Bool) (x1 : Int) (x2 : Dt), l34 jn m [1, 0, 1, 0] [] M1 (s34_1 x0 x1 x2) = rec1 x0 x1 x2) : ∀ (M5 : Nat) (x0 : Bool) (x1 x2 : Int) (x3 x4 : Dt), l34 jn m [1, 0, 1, 0, 0, 1, 0, 0, 1, 1, 1, 0] [M1] M5 (s34_5 x0 x1 x2 x3 x4) = ref01_fields_l5 m (ref01_formed m) rec1 M5 x0 x1 x2 x3 x4
  | 0, _, _, _, _, _ => rfl
  | M5 + 1, x0, x1, x2, x3, x4 => by
    have h : ∀ J, l34 J m [1, 0, 1, 0, 0, 1, 0, 0, 1, 1, 1, 0] [M1] (M5 + 1) (s34_5 x0 x1 x2 x3 x4) =
    (bif (decide (x2 < x1)) then
     (J 0 10 0 (s34_6 x0 x1 x2 x3 x4) (e34 J m [1, 0, 1, 0, 0, 1, 0, 0, 1, 1, 1, 0, 0, 1] [M1, M5] (s34_6 x0 x1 x2 x3 x4)))
    else
     (J 0 3 0 (s34_8 x0 x1 x3) (e34 J m [1, 0, 1, 0, 0, 1, 1] [M1] (s34_8 x0 x1 x3)))) := fun J => by kernel_rfl
    refine (h jn).trans ?_
    simp only [jn_eq, ref01_fields_j6_eq m M1 rec1 h1 M5 (ref01_fields_l5 m (ref01_formed m) rec1 M5) (fun x0 x1 x2 x3 x4 => ref01_fields_l5_eq m M1 rec1 h1 M5 x0 x1 x2 x3 x4), ref01_fields_j8_eq m M1 rec1 h1]
    rfl
theorem ref01_fields_j4_eq (m : Nat) (M1 : Nat) (rec1 : Bool → Int → Dt → Option (Bool)) (h1 : ∀ (x0 : Bool) (x1 : Int) (x2 : Dt), l34 jn m [1, 0, 1, 0] [] M1 (s34_1 x0 x1 x2) = rec1 x0 x1 x2) (x0 : Bool) (x1 x2 : Int) (x3 x4 : Dt) : e34 jn m [1, 0, 1, 0, 0, 1, 0, 0, 1, 1, 1] [M1] (s34_4 x0 x1 x2 x3 x4) = ref01_fields_j4 m (ref01_formed m) rec1 x0 x1 x2 x3 x4 := by
  have h : ∀ J, e34 J m [1, 0, 1, 0, 0, 1, 0, 0, 1, 1, 1] [M1] (s34_4 x0 x1 x2 x3 x4) =
    (J 1 8 (Nat.succ m) (s34_5 x0 x1 x2 x3 x4) (l34 J m [1, 0, 1, 0, 0, 1, 0, 0, 1, 1, 1, 0] [M1] (Nat.succ m) (s34_5 x0 x1 x2 x3 x4))) := fun J => by kernel_rfl
  exact (h jn).trans (by
    simp only [jn_eq, ref01_fields_l5_eq m M1 rec1 h1]
    rfl)
theorem ref01_fields_j3_eq (m : Nat) (M1 : Nat) (rec1 : Bool → Int → Dt → Option (Bool)) (h1 : ∀ (x0 : Bool) (x1 : Int) (x2 : Dt), l34 jn m [1, 0, 1, 0] [] M1 (s34_1 x0 x1 x2) = rec1 x0 x1 x2) (x0 : Bool) (x1 : Int) (x2 x3 : Dt) : e34 jn m [1, 0, 1, 0, 0, 1, 0, 0, 1, 1] [M1] (s34_3 x0 x1 x2 x3) = ref01_fields_j3 m (ref01_formed m) rec1 x0 x1 x2 x3 := by
  have h : ∀ J, e34 J m [1, 0, 1, 0, 0, 1, 0, 0, 1, 1] [M1] (s34_3 x0 x1 x2 x3) =
    (J 0 8 0 (s34_4 x0 x1 (0 : Int) x2 x3) (e34 J m [1, 0, 1, 0, 0, 1, 0, 0, 1, 1, 1] [M1] (s34_4 x0 x1 (0 : Int) x2 x3))) := fun J => by kernel_rfl
  exact (h jn).trans (by
    simp only [jn_eq, ref01_fields_j4_eq m M1 rec1 h1]
    rfl)
theorem ref01_fields_j2_eq (m : Nat) (M1 : Nat) (rec1 : Bool → Int → Dt → Option (Bool)) (h1 : ∀ (x0 : Bool) (x1 : Int) (x2 : Dt), l34 jn m [1, 0, 1, 0] [] M1 (s34_1 x0 x1 x2) = rec1 x0 x1 x2) (x0 : Bool) (x1 : Int) (x2 : Dt) : e34 jn m [1, 0, 1, 0, 0, 1] [M1] (s34_2 x0 x1 x2) = ref01_fields_j2 m (ref01_formed m) rec1 x0 x1 x2 := by
  have h : ∀ J, e34 J m [1, 0, 1, 0, 0, 1] [M1] (s34_2 x0 x1 x2) =
    ((idx (Dt.L x2 4) x1).bind fun v0 =>
     (bif x0 then
     ((ref01_Name m (Dt.S v0 0)).bind fun r1 =>
     (bif (Bool.not r1) then
     some Bool.false
     else
     (bif (Bool.not x0) then
     ((ref01_wide m (Dt.S v0 0)).bind fun r2 =>
     (bif (Bool.not r2) then
     some Bool.false
     else
     ((ref01_formed m (Dt.fld v0 1) x0).bind fun r3 =>
     (bif (Bool.not r3) then
     some Bool.false
     else
     (J 0 7 0 (s34_3 x0 x1 x2 v0) (e34 J m [1, 0, 1, 0, 0, 1, 0, 0, 1, 1] [M1] (s34_3 x0 x1 x2 v0)))))))
     else
     ((ref01_formed m (Dt.fld v0 1) x0).bind fun r5 =>
     (bif (Bool.not r5) then
     some Bool.false
     else
     (J 0 7 0 (s34_3 x0 x1 x2 v0) (e34 J m [1, 0, 1, 0, 0, 1, 0, 0, 1, 1] [M1] (s34_3 x0 x1 x2 v0))))))))
     else
     (bif (Bool.not x0) then
     ((ref01_wide m (Dt.S v0 0)).bind fun r6 =>
     (bif (Bool.not r6) then
     some Bool.false
     else
     ((ref01_formed m (Dt.fld v0 1) x0).bind fun r7 =>
     (bif (Bool.not r7) then
     some Bool.false
     else
     (J 0 7 0 (s34_3 x0 x1 x2 v0) (e34 J m [1, 0, 1, 0, 0, 1, 0, 0, 1, 1] [M1] (s34_3 x0 x1 x2 v0)))))))
     else
     ((ref01_formed m (Dt.fld v0 1) x0).bind fun r8 =>
     (bif (Bool.not r8) then
     some Bool.false
     else
     (J 0 7 0 (s34_3 x0 x1 x2 v0) (e34 J m [1, 0, 1, 0, 0, 1, 0, 0, 1, 1] [M1] (s34_3 x0 x1 x2 v0)))))))) := fun J => by kernel_rfl
  exact (h jn).trans (by
    simp only [jn_eq, ref01_fields_j3_eq m M1 rec1 h1]
    rfl)
theorem ref01_fields_j9_eq (m : Nat) : e34 jn m [1, 1] [] s34_9 = ref01_fields_j9 m (ref01_formed m) := by
  have h : ∀ J, e34 J m [1, 1] [] s34_9 =
    some Bool.true := fun J => by kernel_rfl
  exact (h jn).trans (rfl)
theorem ref01_fields_l1_eq (m : Nat) : ∀ (M1 : Nat) (x0 : Bool) (x1 : Int) (x2 : Dt), l34 jn m [1, 0, 1, 0] [] M1 (s34_1 x0 x1 x2) = ref01_fields_l1 m (ref01_formed m) M1 x0 x1 x2
  | 0, _, _, _ => rfl
  | M1 + 1, x0, x1, x2 => by
    have h : ∀ J, l34 J m [1, 0, 1, 0] [] (M1 + 1) (s34_1 x0 x1 x2) =
    (bif (decide (x1 < (((List.length (Dt.L x2 4)) : Nat) : Int))) then
     (J 0 4 0 (s34_2 x0 x1 x2) (e34 J m [1, 0, 1, 0, 0, 1] [M1] (s34_2 x0 x1 x2)))
    else
     (J 0 12 0 s34_9 (e34 J m [1, 1] [] s34_9))) := fun J => by kernel_rfl
    refine (h jn).trans ?_
    simp only [jn_eq, ref01_fields_j2_eq m M1 (ref01_fields_l1 m (ref01_formed m) M1) (fun x0 x1 x2 => ref01_fields_l1_eq m M1 x0 x1 x2), ref01_fields_j9_eq m]
    rfl
theorem ref01_fields_j0_eq (m : Nat) (x0 : Bool) (x1 : Int) (x2 : Dt) : e34 jn m [1, 0, 1] [] (s34_0 x0 x1 x2) = ref01_fields_j0 m (ref01_formed m) x0 x1 x2 := by
  have h : ∀ J, e34 J m [1, 0, 1] [] (s34_0 x0 x1 x2) =
    (J 1 2 (Nat.succ m) (s34_1 x0 x1 x2) (l34 J m [1, 0, 1, 0] [] (Nat.succ m) (s34_1 x0 x1 x2))) := fun J => by kernel_rfl
  exact (h jn).trans (by
    simp only [jn_eq, ref01_fields_l1_eq m]
    rfl)
theorem ref01_fields_eq (m : Nat) (a0 : Dt) (a1 : Bool) : e34 jn m [] [] ⟨[(.dat 30 a0), (.dat 4 (.bool a1))], [], 0⟩ = ref01_fields (m + 1) a0 a1 := by
  have h : ∀ J, e34 J m [] [] ⟨[(.dat 30 a0), (.dat 4 (.bool a1))], [], 0⟩ =
    (J 0 2 0 (s34_0 a1 (0 : Int) a0) (e34 J m [1, 0, 1] [] (s34_0 a1 (0 : Int) a0))) := fun J => by kernel_rfl
  refine (h jn).trans ?_
  simp only [jn_eq, ref01_fields_j0_eq m]
  rfl
noncomputable def d10 (q : Res) : Option (Bool) := match q with
  | (.dat T0 x0, []) => bif Nat.beq T0 4 then some x0.toBool else none
  | _ => none
theorem d10_sim {b : Res} {r : Bool} (h : d10 b = some r) : Sim Tryd.prog b ((.dat 4 (.bool r)), []) := by
  unfold d10 at h
  split at h
  · obtain ⟨hc, h2⟩ := bif_some h
    cases h2
    have e0 := beq_eq hc
    subst e0
    exact Sim.of (.of (.dat (.bool Tryd.underlying4)) rfl rfl) .nil
  · cases h
noncomputable def e10 (J : Nat → Nat → Nat → St → Option (Bool) → Option (Bool)) (m : Nat) (p ms : List Nat) (σ : St) := evAt Tryd.prog env (ct m) J (m + 1) 36 15 Tryd.f36 d10 p ms σ
noncomputable def l10 (J : Nat → Nat → Nat → St → Option (Bool) → Option (Bool)) (m : Nat) (p ms : List Nat) (M : Nat) (σ : St) := loopAt Tryd.prog env (ct m) J (m + 1) 36 15 Tryd.f36 d10 p ms M σ
theorem ref01_Valid_eq (m : Nat) (a0 : Dt) : e10 jn m [] [] ⟨[(.dat 30 a0)], [], 0⟩ = ref01_Valid (m + 1) a0 := by
  have h : ∀ J, e10 J m [] [] ⟨[(.dat 30 a0)], [], 0⟩ =
    ((ref01_Depth m a0).bind fun r0 =>
     (bif (decide (r0 ≤ (16 : Int))) then
     ((ref01_Nodes m a0).bind fun r1 =>
     (bif (decide (r1 ≤ (1024 : Int))) then
     ((ref01_formed m a0 Bool.true).bind fun r2 =>
     some r2)
     else
     some Bool.false))
     else
     some Bool.false)) := fun J => by kernel_rfl
  refine (h jn).trans ?_
  
  rfl
noncomputable def d2 (q : Res) : Option (Bool) := match q with
  | (.dat T0 x0, []) => bif Nat.beq T0 4 then some x0.toBool else none
  | _ => none
theorem d2_sim {b : Res} {r : Bool} (h : d2 b = some r) : Sim Tryd.prog b ((.dat 4 (.bool r)), []) := by
  unfold d2 at h
  split at h
  · obtain ⟨hc, h2⟩ := bif_some h
    cases h2
    have e0 := beq_eq hc
    subst e0
    exact Sim.of (.of (.dat (.bool Tryd.underlying4)) rfl rfl) .nil
  · cases h
noncomputable def e2 (J : Nat → Nat → Nat → St → Option (Bool) → Option (Bool)) (m : Nat) (p ms : List Nat) (σ : St) := evAt Tryd.prog env (ct m) J (m + 1) 16 40 Tryd.f16 d2 p ms σ
noncomputable def l2 (J : Nat → Nat → Nat → St → Option (Bool) → Option (Bool)) (m : Nat) (p ms : List Nat) (M : Nat) (σ : St) := loopAt Tryd.prog env (ct m) J (m + 1) 16 40 Tryd.f16 d2 p ms M σ
noncomputable def s2_4 (x0 x1 : List Dt) (x2 x3 : Int) : St := ⟨tsOf [(0, (.dat 22 (.lst x0))), (1, (.dat 27 (.lst x1))), (16, (.dat 3 (.int x2))), (17, (.dat 3 (.int x3)))], [], 0⟩
noncomputable def s2_3 (x0 x1 : List Dt) (x2 x3 : Int) : St := ⟨tsOf [(0, (.dat 22 (.lst x0))), (1, (.dat 27 (.lst x1))), (16, (.dat 3 (.int x2))), (17, (.dat 3 (.int x3)))], [], 0⟩
noncomputable def s2_9 (x0 : List Dt) (x1 x2 : Int) : St := ⟨tsOf [(1, (.dat 27 (.lst x0))), (29, (.dat 3 (.int x1))), (30, (.dat 3 (.int x2)))], [], 0⟩
noncomputable def s2_8 (x0 : List Dt) (x1 x2 : Int) : St := ⟨tsOf [(1, (.dat 27 (.lst x0))), (29, (.dat 3 (.int x1))), (30, (.dat 3 (.int x2)))], [], 0⟩
noncomputable def s2_10 : St := ⟨tsOf [], [], 0⟩
noncomputable def s2_7 (x0 : List Dt) (x1 x2 : Int) : St := ⟨tsOf [(1, (.dat 27 (.lst x0))), (29, (.dat 3 (.int x1))), (30, (.dat 3 (.int x2)))], [], 0⟩
noncomputable def s2_6 (x0 : List Dt) (x1 x2 : Int) : St := ⟨tsOf [(1, (.dat 27 (.lst x0))), (29, (.dat 3 (.int x1))), (30, (.dat 3 (.int x2)))], [], 0⟩
noncomputable def s2_5 (x0 : List Dt) : St := ⟨tsOf [(1, (.dat 27 (.lst x0)))], [], 0⟩
noncomputable def s2_2 (x0 x1 : List Dt) (x2 x3 : Int) : St := ⟨tsOf [(0, (.dat 22 (.lst x0))), (1, (.dat 27 (.lst x1))), (16, (.dat 3 (.int x2))), (17, (.dat 3 (.int x3)))], [], 0⟩
noncomputable def s2_1 (x0 x1 : List Dt) (x2 x3 : Int) : St := ⟨tsOf [(0, (.dat 22 (.lst x0))), (1, (.dat 27 (.lst x1))), (16, (.dat 3 (.int x2))), (17, (.dat 3 (.int x3)))], [], 0⟩
noncomputable def s2_0 (x0 x1 : List Dt) : St := ⟨tsOf [(0, (.dat 22 (.lst x0))), (1, (.dat 27 (.lst x1)))], [], 0⟩
theorem law12_Small_j4_eq (m : Nat) (M2 : Nat) (rec2 : List Dt → List Dt → Int → Int → Option (Bool)) (h2 : ∀ (x0 x1 : List Dt) (x2 x3 : Int), l2 jn m [1, 1, 0, 1, 0] [] M2 (s2_2 x0 x1 x2 x3) = rec2 x0 x1 x2 x3) (x0 x1 : List Dt) (x2 x3 : Int) : e2 jn m [1, 1, 0, 1, 0, 0, 1, 1, 1] [M2] (s2_4 x0 x1 x2 x3) = law12_Small_j4 m rec2 x0 x1 x2 x3 := by
  have h : ∀ J, e2 J m [1, 1, 0, 1, 0, 0, 1, 1, 1] [M2] (s2_4 x0 x1 x2 x3) =
    (J 1 4 M2 (s2_2 x0 x1 x2 (IntKind.wrap IntKind.i64 (x3 + (1 : Int)))) (l2 J m [1, 1, 0, 1, 0] [] M2 (s2_2 x0 x1 x2 (IntKind.wrap IntKind.i64 (x3 + (1 : Int)))))) := fun J => by kernel_rfl
  exact (h jn).trans (by
    simp only [jn_eq, h2]
    rfl)
theorem law12_Small_j3_eq (m : Nat) (M2 : Nat) (rec2 : List Dt → List Dt → Int → Int → Option (Bool)) (h2 : ∀ (x0 x1 : List Dt) (x2 x3 : Int), l2 jn m [1, 1, 0, 1, 0] [] M2 (s2_2 x0 x1 x2 x3) = rec2 x0 x1 x2 x3) (x0 x1 : List Dt) (x2 x3 : Int) : e2 jn m [1, 1, 0, 1, 0, 0, 1, 1] [M2] (s2_3 x0 x1 x2 x3) = law12_Small_j3 m rec2 x0 x1 x2 x3 := by
  have h : ∀ J, e2 J m [1, 1, 0, 1, 0, 0, 1, 1] [M2] (s2_3 x0 x1 x2 x3) =
    ((idx x0 x3).bind fun v0 =>
     (bif (decide ((16 : Int) < (((List.length (Dt.L v0 0)) : Nat) : Int))) then
     some Bool.false
     else
     (J 0 8 0 (s2_4 x0 x1 x2 x3) (e2 J m [1, 1, 0, 1, 0, 0, 1, 1, 1] [M2] (s2_4 x0 x1 x2 x3))))) := fun J => by kernel_rfl
  exact (h jn).trans (by
    simp only [jn_eq, law12_Small_j4_eq m M2 rec2 h2]
    rfl)
theorem law12_Small_j9_eq (m : Nat) (M7 : Nat) (rec7 : List Dt → Int → Int → Option (Bool)) (h7 : ∀ (x0 : List Dt) (x1 x2 : Int), l2 jn m [1, 1, 1, 0, 1, 0] [] M7 (s2_7 x0 x1 x2) = rec7 x0 x1 x2) (x0 : List Dt) (x1 x2 : Int) : e2 jn m [1, 1, 1, 0, 1, 0, 0, 1, 1, 1] [M7] (s2_9 x0 x1 x2) = law12_Small_j9 m rec7 x0 x1 x2 := by
  have h : ∀ J, e2 J m [1, 1, 1, 0, 1, 0, 0, 1, 1, 1] [M7] (s2_9 x0 x1 x2) =
    (J 1 10 M7 (s2_7 x0 x1 (IntKind.wrap IntKind.i64 (x2 + (1 : Int)))) (l2 J m [1, 1, 1, 0, 1, 0] [] M7 (s2_7 x0 x1 (IntKind.wrap IntKind.i64 (x2 + (1 : Int)))))) := fun J => by kernel_rfl
  exact (h jn).trans (by
    simp only [jn_eq, h7]
    rfl)
theorem law12_Small_j8_eq (m : Nat) (M7 : Nat) (rec7 : List Dt → Int → Int → Option (Bool)) (h7 : ∀ (x0 : List Dt) (x1 x2 : Int), l2 jn m [1, 1, 1, 0, 1, 0] [] M7 (s2_7 x0 x1 x2) = rec7 x0 x1 x2) (x0 : List Dt) (x1 x2 : Int) : e2 jn m [1, 1, 1, 0, 1, 0, 0, 1, 1] [M7] (s2_8 x0 x1 x2) = law12_Small_j8 m rec7 x0 x1 x2 := by
  have h : ∀ J, e2 J m [1, 1, 1, 0, 1, 0, 0, 1, 1] [M7] (s2_8 x0 x1 x2) =
    ((idx x0 x2).bind fun v1 =>
     ((ref01_Valid m v1).bind fun r2 =>
     (bif (Bool.not r2) then
     some Bool.false
     else
     (J 0 14 0 (s2_9 x0 x1 x2) (e2 J m [1, 1, 1, 0, 1, 0, 0, 1, 1, 1] [M7] (s2_9 x0 x1 x2)))))) := fun J => by kernel_rfl
  exact (h jn).trans (by
    simp only [jn_eq, law12_Small_j9_eq m M7 rec7 h7]
    rfl)
theorem law12_Small_j10_eq (m : Nat) : e2 jn m [1, 1, 1, 1] [] s2_10 = law12_Small_j10 m := by
  have h : ∀ J, e2 J m [1, 1, 1, 1] [] s2_10 =
    some Bool.true := fun J => by kernel_rfl
  exact (h jn).trans (rfl)
theorem law12_Small_l7_eq (m : Nat) : ∀ (M7 : Nat) (x0 : List Dt) (x1 x2 : Int), l2 jn m [1, 1, 1, 0, 1, 0] [] M7 (s2_7 x0 x1 x2) = law12_Small_l7 m M7 x0 x1 x2
  | 0, _, _, _ => rfl
  | M7 + 1, x0, x1, x2 => by
    have h : ∀ J, l2 J m [1, 1, 1, 0, 1, 0] [] (M7 + 1) (s2_7 x0 x1 x2) =
    (bif (decide (x2 < x1)) then
     (J 0 11 0 (s2_8 x0 x1 x2) (e2 J m [1, 1, 1, 0, 1, 0, 0, 1, 1] [M7] (s2_8 x0 x1 x2)))
    else
     (J 0 15 0 s2_10 (e2 J m [1, 1, 1, 1] [] s2_10))) := fun J => by kernel_rfl
    refine (h jn).trans ?_
    simp only [jn_eq, law12_Small_j8_eq m M7 (law12_Small_l7 m M7) (fun x0 x1 x2 => law12_Small_l7_eq m M7 x0 x1 x2), law12_Small_j10_eq m]
    rfl
theorem law12_Small_j6_eq (m : Nat) (x0 : List Dt) (x1 x2 : Int) : e2 jn m [1, 1, 1, 0, 1] [] (s2_6 x0 x1 x2) = law12_Small_j6 m x0 x1 x2 := by
  have h : ∀ J, e2 J m [1, 1, 1, 0, 1] [] (s2_6 x0 x1 x2) =
    (J 1 10 (Nat.succ m) (s2_7 x0 x1 x2) (l2 J m [1, 1, 1, 0, 1, 0] [] (Nat.succ m) (s2_7 x0 x1 x2))) := fun J => by kernel_rfl
  exact (h jn).trans (by
    simp only [jn_eq, law12_Small_l7_eq m]
    rfl)
theorem law12_Small_j5_eq (m : Nat) (x0 : List Dt) : e2 jn m [1, 1, 1] [] (s2_5 x0) = law12_Small_j5 m x0 := by
  have h : ∀ J, e2 J m [1, 1, 1] [] (s2_5 x0) =
    (J 0 10 0 (s2_6 x0 (((List.length x0) : Nat) : Int) (0 : Int)) (e2 J m [1, 1, 1, 0, 1] [] (s2_6 x0 (((List.length x0) : Nat) : Int) (0 : Int)))) := fun J => by kernel_rfl
  exact (h jn).trans (by
    simp only [jn_eq, law12_Small_j6_eq m]
    rfl)
theorem law12_Small_l2_eq (m : Nat) : ∀ (M2 : Nat) (x0 x1 : List Dt) (x2 x3 : Int), l2 jn m [1, 1, 0, 1, 0] [] M2 (s2_2 x0 x1 x2 x3) = law12_Small_l2 m M2 x0 x1 x2 x3
  | 0, _, _, _, _ => rfl
  | M2 + 1, x0, x1, x2, x3 => by
    have h : ∀ J, l2 J m [1, 1, 0, 1, 0] [] (M2 + 1) (s2_2 x0 x1 x2 x3) =
    (bif (decide (x3 < x2)) then
     (J 0 5 0 (s2_3 x0 x1 x2 x3) (e2 J m [1, 1, 0, 1, 0, 0, 1, 1] [M2] (s2_3 x0 x1 x2 x3)))
    else
     (J 0 9 0 (s2_5 x1) (e2 J m [1, 1, 1] [] (s2_5 x1)))) := fun J => by kernel_rfl
    refine (h jn).trans ?_
    simp only [jn_eq, law12_Small_j3_eq m M2 (law12_Small_l2 m M2) (fun x0 x1 x2 x3 => law12_Small_l2_eq m M2 x0 x1 x2 x3), law12_Small_j5_eq m]
    rfl
theorem law12_Small_j1_eq (m : Nat) (x0 x1 : List Dt) (x2 x3 : Int) : e2 jn m [1, 1, 0, 1] [] (s2_1 x0 x1 x2 x3) = law12_Small_j1 m x0 x1 x2 x3 := by
  have h : ∀ J, e2 J m [1, 1, 0, 1] [] (s2_1 x0 x1 x2 x3) =
    (J 1 4 (Nat.succ m) (s2_2 x0 x1 x2 x3) (l2 J m [1, 1, 0, 1, 0] [] (Nat.succ m) (s2_2 x0 x1 x2 x3))) := fun J => by kernel_rfl
  exact (h jn).trans (by
    simp only [jn_eq, law12_Small_l2_eq m]
    rfl)
theorem law12_Small_j0_eq (m : Nat) (x0 x1 : List Dt) : e2 jn m [1, 1] [] (s2_0 x0 x1) = law12_Small_j0 m x0 x1 := by
  have h : ∀ J, e2 J m [1, 1] [] (s2_0 x0 x1) =
    (J 0 4 0 (s2_1 x0 x1 (((List.length x0) : Nat) : Int) (0 : Int)) (e2 J m [1, 1, 0, 1] [] (s2_1 x0 x1 (((List.length x0) : Nat) : Int) (0 : Int)))) := fun J => by kernel_rfl
  exact (h jn).trans (by
    simp only [jn_eq, law12_Small_j1_eq m]
    rfl)
theorem law12_Small_eq (m : Nat) (a0 a1 : List Dt) : e2 jn m [] [] ⟨[(.dat 22 (.lst a0)), (.dat 27 (.lst a1))], [], 0⟩ = law12_Small (m + 1) a0 a1 := by
  have h : ∀ J, e2 J m [] [] ⟨[(.dat 22 (.lst a0)), (.dat 27 (.lst a1))], [], 0⟩ =
    (bif (decide ((8 : Int) < (((List.length a0) : Nat) : Int))) then
     some Bool.false
    else
     (bif (decide ((40 : Int) < (((List.length a1) : Nat) : Int))) then
     some Bool.false
     else
     (J 0 3 0 (s2_0 a0 a1) (e2 J m [1, 1] [] (s2_0 a0 a1))))) := fun J => by kernel_rfl
  refine (h jn).trans ?_
  simp only [jn_eq, law12_Small_j0_eq m]
  rfl
noncomputable def d47 (q : Res) : Option (Int) := match q with
  | (.dat T0 x0, []) => bif Nat.beq T0 3 then some x0.toInt else none
  | _ => none
theorem d47_sim {b : Res} {r : Int} (h : d47 b = some r) : Sim Tryd.prog b ((.dat 3 (.int r)), []) := by
  unfold d47 at h
  split at h
  · obtain ⟨hc, h2⟩ := bif_some h
    cases h2
    have e0 := beq_eq hc
    subst e0
    exact Sim.of (.of (.dat (.int Tryd.underlying3)) rfl rfl) .nil
  · cases h
noncomputable def e47 (J : Nat → Nat → Nat → St → Option (Int) → Option (Int)) (m : Nat) (p ms : List Nat) (σ : St) := evAt Tryd.prog env (ct m) J (m + 1) 76 20 Tryd.f76 d47 p ms σ
noncomputable def l47 (J : Nat → Nat → Nat → St → Option (Int) → Option (Int)) (m : Nat) (p ms : List Nat) (M : Nat) (σ : St) := loopAt Tryd.prog env (ct m) J (m + 1) 76 20 Tryd.f76 d47 p ms M σ
noncomputable def s47_3 (x0 : List Dt) (x1 : ByteArray) (x2 x3 : Int) : St := ⟨tsOf [(0, (.dat 28 (.lst x0))), (1, (.dat 9 (.str x1))), (7, (.dat 3 (.int x2))), (8, (.dat 3 (.int x3)))], [], 0⟩
noncomputable def s47_2 (x0 : List Dt) (x1 : ByteArray) (x2 x3 : Int) : St := ⟨tsOf [(0, (.dat 28 (.lst x0))), (1, (.dat 9 (.str x1))), (7, (.dat 3 (.int x2))), (8, (.dat 3 (.int x3)))], [], 0⟩
noncomputable def s47_4 : St := ⟨tsOf [], [], 0⟩
noncomputable def s47_1 (x0 : List Dt) (x1 : ByteArray) (x2 x3 : Int) : St := ⟨tsOf [(0, (.dat 28 (.lst x0))), (1, (.dat 9 (.str x1))), (7, (.dat 3 (.int x2))), (8, (.dat 3 (.int x3)))], [], 0⟩
noncomputable def s47_0 (x0 : List Dt) (x1 : ByteArray) (x2 x3 : Int) : St := ⟨tsOf [(0, (.dat 28 (.lst x0))), (1, (.dat 9 (.str x1))), (7, (.dat 3 (.int x2))), (8, (.dat 3 (.int x3)))], [], 0⟩
theorem path_field_j3_eq (m : Nat) (M1 : Nat) (rec1 : List Dt → ByteArray → Int → Int → Option (Int)) (h1 : ∀ (x0 : List Dt) (x1 : ByteArray) (x2 x3 : Int), l47 jn m [1, 0, 1, 0] [] M1 (s47_1 x0 x1 x2 x3) = rec1 x0 x1 x2 x3) (x0 : List Dt) (x1 : ByteArray) (x2 x3 : Int) : e47 jn m [1, 0, 1, 0, 0, 1, 1, 1] [M1] (s47_3 x0 x1 x2 x3) = path_field_j3 m rec1 x0 x1 x2 x3 := by
  have h : ∀ J, e47 J m [1, 0, 1, 0, 0, 1, 1, 1] [M1] (s47_3 x0 x1 x2 x3) =
    (J 1 2 M1 (s47_1 x0 x1 x2 (IntKind.wrap IntKind.i64 (x3 + (1 : Int)))) (l47 J m [1, 0, 1, 0] [] M1 (s47_1 x0 x1 x2 (IntKind.wrap IntKind.i64 (x3 + (1 : Int)))))) := fun J => by kernel_rfl
  exact (h jn).trans (by
    simp only [jn_eq, h1]
    rfl)
theorem path_field_j2_eq (m : Nat) (M1 : Nat) (rec1 : List Dt → ByteArray → Int → Int → Option (Int)) (h1 : ∀ (x0 : List Dt) (x1 : ByteArray) (x2 x3 : Int), l47 jn m [1, 0, 1, 0] [] M1 (s47_1 x0 x1 x2 x3) = rec1 x0 x1 x2 x3) (x0 : List Dt) (x1 : ByteArray) (x2 x3 : Int) : e47 jn m [1, 0, 1, 0, 0, 1, 1] [M1] (s47_2 x0 x1 x2 x3) = path_field_j2 m rec1 x0 x1 x2 x3 := by
  have h : ∀ J, e47 J m [1, 0, 1, 0, 0, 1, 1] [M1] (s47_2 x0 x1 x2 x3) =
    ((idx x0 x3).bind fun v0 =>
     (bif ((ByteArray.toList (Dt.S v0 0)) == (ByteArray.toList x1)) then
     some x3
     else
     (J 0 6 0 (s47_3 x0 x1 x2 x3) (e47 J m [1, 0, 1, 0, 0, 1, 1, 1] [M1] (s47_3 x0 x1 x2 x3))))) := fun J => by kernel_rfl
  exact (h jn).trans (by
    simp only [jn_eq, path_field_j3_eq m M1 rec1 h1]
    rfl)
theorem path_field_j4_eq (m : Nat) : e47 jn m [1, 1] [] s47_4 = path_field_j4 m := by
  have h : ∀ J, e47 J m [1, 1] [] s47_4 =
    some (-1 : Int) := fun J => by kernel_rfl
  exact (h jn).trans (rfl)
theorem path_field_l1_eq (m : Nat) : ∀ (M1 : Nat) (x0 : List Dt) (x1 : ByteArray) (x2 x3 : Int), l47 jn m [1, 0, 1, 0] [] M1 (s47_1 x0 x1 x2 x3) = path_field_l1 m M1 x0 x1 x2 x3
  | 0, _, _, _, _ => rfl
  | M1 + 1, x0, x1, x2, x3 => by
    have h : ∀ J, l47 J m [1, 0, 1, 0] [] (M1 + 1) (s47_1 x0 x1 x2 x3) =
    (bif (decide (x3 < x2)) then
     (J 0 3 0 (s47_2 x0 x1 x2 x3) (e47 J m [1, 0, 1, 0, 0, 1, 1] [M1] (s47_2 x0 x1 x2 x3)))
    else
     (J 0 7 0 s47_4 (e47 J m [1, 1] [] s47_4))) := fun J => by kernel_rfl
    refine (h jn).trans ?_
    simp only [jn_eq, path_field_j2_eq m M1 (path_field_l1 m M1) (fun x0 x1 x2 x3 => path_field_l1_eq m M1 x0 x1 x2 x3), path_field_j4_eq m]
    rfl
theorem path_field_j0_eq (m : Nat) (x0 : List Dt) (x1 : ByteArray) (x2 x3 : Int) : e47 jn m [1, 0, 1] [] (s47_0 x0 x1 x2 x3) = path_field_j0 m x0 x1 x2 x3 := by
  have h : ∀ J, e47 J m [1, 0, 1] [] (s47_0 x0 x1 x2 x3) =
    (J 1 2 (Nat.succ m) (s47_1 x0 x1 x2 x3) (l47 J m [1, 0, 1, 0] [] (Nat.succ m) (s47_1 x0 x1 x2 x3))) := fun J => by kernel_rfl
  exact (h jn).trans (by
    simp only [jn_eq, path_field_l1_eq m]
    rfl)
theorem path_field_eq (m : Nat) (a0 : List Dt) (a1 : ByteArray) : e47 jn m [] [] ⟨[(.dat 28 (.lst a0)), (.dat 9 (.str a1))], [], 0⟩ = path_field (m + 1) a0 a1 := by
  have h : ∀ J, e47 J m [] [] ⟨[(.dat 28 (.lst a0)), (.dat 9 (.str a1))], [], 0⟩ =
    (J 0 2 0 (s47_0 a0 a1 (((List.length a0) : Nat) : Int) (0 : Int)) (e47 J m [1, 0, 1] [] (s47_0 a0 a1 (((List.length a0) : Nat) : Int) (0 : Int)))) := fun J => by kernel_rfl
  refine (h jn).trans ?_
  simp only [jn_eq, path_field_j0_eq m]
  rfl
noncomputable def d48 (q : Res) : Option (Int × Bool) := match q with
  | (.tup [.dat T0 x0, .dat T1 x1], []) => bif (Nat.beq T0 3 && Nat.beq T1 4) then some (x0.toInt, x1.toBool) else none
  | _ => none
theorem d48_sim {b : Res} {r : Int × Bool} (h : d48 b = some r) : Sim Tryd.prog b ((.tup [(.dat 3 (.int r.1)), (.dat 4 (.bool r.2))]), []) := by
  unfold d48 at h
  split at h
  · obtain ⟨hc, h2⟩ := bif_some h
    cases h2
    have e0 := beq_eq (and_l hc)
    have e1 := beq_eq (and_r hc)
    subst e0 e1
    exact Sim.of (.tup (.cons (.dat (.int Tryd.underlying3)) (.cons (.dat (.bool Tryd.underlying4)) .nil))) .nil
  · cases h
noncomputable def e48 (J : Nat → Nat → Nat → St → Option (Int × Bool) → Option (Int × Bool)) (m : Nat) (p ms : List Nat) (σ : St) := evAt Tryd.prog env (ct m) J (m + 1) 77 49 Tryd.f77 d48 p ms σ
noncomputable def l48 (J : Nat → Nat → Nat → St → Option (Int × Bool) → Option (Int × Bool)) (m : Nat) (p ms : List Nat) (M : Nat) (σ : St) := loopAt Tryd.prog env (ct m) J (m + 1) 77 49 Tryd.f77 d48 p ms M σ
noncomputable def s48_5 (x0 : ByteArray) (x1 x2 x3 : Int) : St := ⟨tsOf [(0, (.dat 9 (.str x0))), (4, (.dat 3 (.int x1))), (25, (.dat 3 (.int x2))), (26, (.dat 3 (.int x3)))], [], 0⟩
noncomputable def s48_4 (x0 : ByteArray) (x1 x2 x3 x4 : Int) : St := ⟨tsOf [(0, (.dat 9 (.str x0))), (4, (.dat 3 (.int x1))), (5, (.dat 3 (.int x2))), (25, (.dat 3 (.int x3))), (26, (.dat 3 (.int x4)))], [], 0⟩
noncomputable def s48_3 (x0 : ByteArray) (x1 x2 x3 : Int) : St := ⟨tsOf [(0, (.dat 9 (.str x0))), (4, (.dat 3 (.int x1))), (25, (.dat 3 (.int x2))), (26, (.dat 3 (.int x3)))], [], 0⟩
noncomputable def s48_6 (x0 : Int) : St := ⟨tsOf [(4, (.dat 3 (.int x0)))], [], 0⟩
noncomputable def s48_2 (x0 : ByteArray) (x1 x2 x3 : Int) : St := ⟨tsOf [(0, (.dat 9 (.str x0))), (4, (.dat 3 (.int x1))), (25, (.dat 3 (.int x2))), (26, (.dat 3 (.int x3)))], [], 0⟩
noncomputable def s48_1 (x0 : ByteArray) (x1 x2 x3 : Int) : St := ⟨tsOf [(0, (.dat 9 (.str x0))), (4, (.dat 3 (.int x1))), (25, (.dat 3 (.int x2))), (26, (.dat 3 (.int x3)))], [], 0⟩
noncomputable def s48_0 (x0 : ByteArray) : St := ⟨tsOf [(0, (.dat 9 (.str x0)))], [], 0⟩
theorem path_Number_j5_eq (m : Nat) (M2 : Nat) (rec2 : ByteArray → Int → Int → Int → Option (Int × Bool)) (h2 : ∀ (x0 : ByteArray) (x1 x2 x3 : Int), l48 jn m [1, 1, 1, 0, 1, 0] [] M2 (s48_2 x0 x1 x2 x3) = rec2 x0 x1 x2 x3) (x0 : ByteArray) (x1 x2 x3 : Int) : e48 jn m [1, 1, 1, 0, 1, 0, 0, 1, 1, 1] [M2] (s48_5 x0 x1 x2 x3) = path_Number_j5 m rec2 x0 x1 x2 x3 := by
  have h : ∀ J, e48 J m [1, 1, 1, 0, 1, 0, 0, 1, 1, 1] [M2] (s48_5 x0 x1 x2 x3) =
    (J 1 5 M2 (s48_2 x0 x1 x2 (IntKind.wrap IntKind.i64 (x3 + (1 : Int)))) (l48 J m [1, 1, 1, 0, 1, 0] [] M2 (s48_2 x0 x1 x2 (IntKind.wrap IntKind.i64 (x3 + (1 : Int)))))) := fun J => by kernel_rfl
  exact (h jn).trans (by
    simp only [jn_eq, h2]
    rfl)
theorem path_Number_j4_eq (m : Nat) (M2 : Nat) (rec2 : ByteArray → Int → Int → Int → Option (Int × Bool)) (h2 : ∀ (x0 : ByteArray) (x1 x2 x3 : Int), l48 jn m [1, 1, 1, 0, 1, 0] [] M2 (s48_2 x0 x1 x2 x3) = rec2 x0 x1 x2 x3) (x0 : ByteArray) (x1 x2 x3 x4 : Int) : e48 jn m [1, 1, 1, 0, 1, 0, 0, 1, 1, 0, 0, 1, 1] [M2] (s48_4 x0 x1 x2 x3 x4) = path_Number_j4 m rec2 x0 x1 x2 x3 x4 := by
  have h : ∀ J, e48 J m [1, 1, 1, 0, 1, 0, 0, 1, 1, 0, 0, 1, 1] [M2] (s48_4 x0 x1 x2 x3 x4) =
    ((idxS x0 x2).bind fun v3 =>
     (J 0 10 0 (s48_5 x0 (IntKind.wrap IntKind.i64 ((IntKind.wrap IntKind.i64 ((10 : Int) * x1)) + (IntKind.wrap IntKind.i64 (IntKind.wrap IntKind.u8 (v3 - (48 : Int)))))) x3 x4) (e48 J m [1, 1, 1, 0, 1, 0, 0, 1, 1, 1] [M2] (s48_5 x0 (IntKind.wrap IntKind.i64 ((IntKind.wrap IntKind.i64 ((10 : Int) * x1)) + (IntKind.wrap IntKind.i64 (IntKind.wrap IntKind.u8 (v3 - (48 : Int)))))) x3 x4)))) := fun J => by kernel_rfl
  exact (h jn).trans (by
    simp only [jn_eq, path_Number_j5_eq m M2 rec2 h2]
    rfl)
theorem path_Number_j3_eq (m : Nat) (M2 : Nat) (rec2 : ByteArray → Int → Int → Int → Option (Int × Bool)) (h2 : ∀ (x0 : ByteArray) (x1 x2 x3 : Int), l48 jn m [1, 1, 1, 0, 1, 0] [] M2 (s48_2 x0 x1 x2 x3) = rec2 x0 x1 x2 x3) (x0 : ByteArray) (x1 x2 x3 : Int) : e48 jn m [1, 1, 1, 0, 1, 0, 0, 1, 1] [M2] (s48_3 x0 x1 x2 x3) = path_Number_j3 m rec2 x0 x1 x2 x3 := by
  have h : ∀ J, e48 J m [1, 1, 1, 0, 1, 0, 0, 1, 1] [M2] (s48_3 x0 x1 x2 x3) =
    ((idxS x0 x3).bind fun v1 =>
     (bif (decide (v1 < (48 : Int))) then
     some ((0 : Int), Bool.false)
     else
     ((idxS x0 x3).bind fun v2 =>
     (bif (decide ((57 : Int) < v2)) then
     some ((0 : Int), Bool.false)
     else
     (J 0 9 0 (s48_4 x0 x1 x3 x2 x3) (e48 J m [1, 1, 1, 0, 1, 0, 0, 1, 1, 0, 0, 1, 1] [M2] (s48_4 x0 x1 x3 x2 x3))))))) := fun J => by kernel_rfl
  exact (h jn).trans (by
    simp only [jn_eq, path_Number_j4_eq m M2 rec2 h2]
    rfl)
theorem path_Number_j6_eq (m : Nat) (x0 : Int) : e48 jn m [1, 1, 1, 1] [] (s48_6 x0) = path_Number_j6 m x0 := by
  have h : ∀ J, e48 J m [1, 1, 1, 1] [] (s48_6 x0) =
    some (x0, Bool.true) := fun J => by kernel_rfl
  exact (h jn).trans (rfl)
theorem path_Number_l2_eq (m : Nat) : ∀ (M2 : Nat) (x0 : ByteArray) (x1 x2 x3 : Int), l48 jn m [1, 1, 1, 0, 1, 0] [] M2 (s48_2 x0 x1 x2 x3) = path_Number_l2 m M2 x0 x1 x2 x3
  | 0, _, _, _, _ => rfl
  | M2 + 1, x0, x1, x2, x3 => by
    have h : ∀ J, l48 J m [1, 1, 1, 0, 1, 0] [] (M2 + 1) (s48_2 x0 x1 x2 x3) =
    (bif (decide (x3 < x2)) then
     (J 0 6 0 (s48_3 x0 x1 x2 x3) (e48 J m [1, 1, 1, 0, 1, 0, 0, 1, 1] [M2] (s48_3 x0 x1 x2 x3)))
    else
     (J 0 11 0 (s48_6 x1) (e48 J m [1, 1, 1, 1] [] (s48_6 x1)))) := fun J => by kernel_rfl
    refine (h jn).trans ?_
    simp only [jn_eq, path_Number_j3_eq m M2 (path_Number_l2 m M2) (fun x0 x1 x2 x3 => path_Number_l2_eq m M2 x0 x1 x2 x3), path_Number_j6_eq m]
    rfl
theorem path_Number_j1_eq (m : Nat) (x0 : ByteArray) (x1 x2 x3 : Int) : e48 jn m [1, 1, 1, 0, 1] [] (s48_1 x0 x1 x2 x3) = path_Number_j1 m x0 x1 x2 x3 := by
  have h : ∀ J, e48 J m [1, 1, 1, 0, 1] [] (s48_1 x0 x1 x2 x3) =
    (J 1 5 (Nat.succ m) (s48_2 x0 x1 x2 x3) (l48 J m [1, 1, 1, 0, 1, 0] [] (Nat.succ m) (s48_2 x0 x1 x2 x3))) := fun J => by kernel_rfl
  exact (h jn).trans (by
    simp only [jn_eq, path_Number_l2_eq m]
    rfl)
theorem path_Number_j0_eq (m : Nat) (x0 : ByteArray) : e48 jn m [1, 1] [] (s48_0 x0) = path_Number_j0 m x0 := by
  have h : ∀ J, e48 J m [1, 1] [] (s48_0 x0) =
    (J 0 5 0 (s48_1 x0 (0 : Int) (((ByteArray.size x0) : Nat) : Int) (0 : Int)) (e48 J m [1, 1, 1, 0, 1] [] (s48_1 x0 (0 : Int) (((ByteArray.size x0) : Nat) : Int) (0 : Int)))) := fun J => by kernel_rfl
  exact (h jn).trans (by
    simp only [jn_eq, path_Number_j1_eq m]
    rfl)
theorem path_Number_eq (m : Nat) (a0 : ByteArray) : e48 jn m [] [] ⟨[(.dat 9 (.str a0))], [], 0⟩ = path_Number (m + 1) a0 := by
  have h : ∀ J, e48 J m [] [] ⟨[(.dat 9 (.str a0))], [], 0⟩ =
    (bif (decide ((((ByteArray.size a0) : Nat) : Int) < (1 : Int))) then
     some ((0 : Int), Bool.false)
    else
     (bif (decide ((4 : Int) < (((ByteArray.size a0) : Nat) : Int))) then
     some ((0 : Int), Bool.false)
     else
     ((idxS a0 (0 : Int)).bind fun v0 =>
     (bif (v0 == (48 : Int)) then
     (bif (decide ((1 : Int) < (((ByteArray.size a0) : Nat) : Int))) then
     some ((0 : Int), Bool.false)
     else
     (J 0 3 0 (s48_0 a0) (e48 J m [1, 1] [] (s48_0 a0))))
     else
     (J 0 3 0 (s48_0 a0) (e48 J m [1, 1] [] (s48_0 a0))))))) := fun J => by kernel_rfl
  refine (h jn).trans ?_
  simp only [jn_eq, path_Number_j0_eq m]
  rfl
noncomputable def d46 (q : Res) : Option (List Dt) := match q with
  | (.row n0, [.gone, .row T1 x1]) => bif (Nat.beq n0 1 && Nat.beq T1 27) then some x1 else none
  | _ => none
theorem d46_sim {b : Res} {r : List Dt} (h : d46 b = some r) : Sim Tryd.prog b ((.row 1), [.gone, (.row 27 r)]) := by
  unfold d46 at h
  split at h
  · obtain ⟨hc, h2⟩ := bif_some h
    cases h2
    have e0 := beq_eq (and_l hc)
    have e1 := beq_eq (and_r hc)
    subst e0 e1
    exact Sim.of (.of .same rfl rfl) (.cons .same (.cons .same .nil))
  · cases h
noncomputable def e46 (J : Nat → Nat → Nat → St → Option (List Dt) → Option (List Dt)) (m : Nat) (p ms : List Nat) (σ : St) := evAt Tryd.prog env (ct m) J (m + 1) 64 83 Tryd.f64 d46 p ms σ
noncomputable def l46 (J : Nat → Nat → Nat → St → Option (List Dt) → Option (List Dt)) (m : Nat) (p ms : List Nat) (M : Nat) (σ : St) := loopAt Tryd.prog env (ct m) J (m + 1) 64 83 Tryd.f64 d46 p ms M σ
noncomputable def s46_1 (x0 : List Dt) : St := ⟨tsOf [(0, (.row 1))], [.gone, (.row 27 x0)], 1⟩
noncomputable def s46_5 (x0 x1 : List Dt) (x2 x3 : Int) (x4 : List Dt) (x5 : Dt) : St := ⟨tsOf [(0, (.row 1)), (2, (.dat 45 (.lst x0))), (4, (.ptr 2 [] 0)), (44, (.dat 27 (.lst x1))), (45, (.dat 3 (.int x2))), (46, (.dat 3 (.int x3)))], [.gone, (.row 27 x4), (.box 30 (.dat 30 x5))], 1⟩
noncomputable def s46_4 (x0 x1 : List Dt) (x2 x3 : Int) (x4 : List Dt) (x5 : Dt) : St := ⟨tsOf [(0, (.row 1)), (2, (.dat 45 (.lst x0))), (4, (.ptr 2 [] 0)), (44, (.dat 27 (.lst x1))), (45, (.dat 3 (.int x2))), (46, (.dat 3 (.int x3)))], [.gone, (.row 27 x4), (.box 30 (.dat 30 x5))], 1⟩
noncomputable def s46_6 (x0 x1 : List Dt) (x2 : Dt) : St := ⟨tsOf [(0, (.row 1)), (2, (.dat 45 (.lst x0))), (4, (.ptr 2 [] 0))], [.gone, (.row 27 x1), (.box 30 (.dat 30 x2))], 1⟩
noncomputable def s46_3 (x0 x1 : List Dt) (x2 x3 : Int) (x4 : List Dt) (x5 : Dt) : St := ⟨tsOf [(0, (.row 1)), (2, (.dat 45 (.lst x0))), (4, (.ptr 2 [] 0)), (44, (.dat 27 (.lst x1))), (45, (.dat 3 (.int x2))), (46, (.dat 3 (.int x3)))], [.gone, (.row 27 x4), (.box 30 (.dat 30 x5))], 1⟩
noncomputable def s46_2 (x0 x1 : List Dt) (x2 x3 : Int) (x4 : List Dt) (x5 : Dt) : St := ⟨tsOf [(0, (.row 1)), (2, (.dat 45 (.lst x0))), (4, (.ptr 2 [] 0)), (44, (.dat 27 (.lst x1))), (45, (.dat 3 (.int x2))), (46, (.dat 3 (.int x3)))], [.gone, (.row 27 x4), (.box 30 (.dat 30 x5))], 1⟩
noncomputable def s46_0 (x0 x1 : List Dt) (x2 : Dt) : St := ⟨tsOf [(0, (.row 1)), (2, (.dat 45 (.lst x0))), (4, (.ptr 2 [] 0))], [.gone, (.row 27 x1), (.box 30 (.dat 30 x2))], 1⟩
theorem i46_j1_eq (m : Nat) (x0 : List Dt) : e46 jn m [1, 1, 1] [] (s46_1 x0) = i46_j1 m (i46 m) x0 := by
  have h : ∀ J, e46 J m [1, 1, 1] [] (s46_1 x0) =
    some x0 := fun J => by kernel_rfl
  exact (h jn).trans (rfl)
theorem i46_j5_eq (m : Nat) (M3 : Nat) (rec3 : List Dt → List Dt → Int → Int → List Dt → Dt → Option (List Dt)) (h3 : ∀ (x0 x1 : List Dt) (x2 x3 : Int) (x4 : List Dt) (x5 : Dt), l46 jn m [1, 1, 0, 1, 0, 1, 1, 1, 0, 0, 1, 0] [] M3 (s46_3 x0 x1 x2 x3 x4 x5) = rec3 x0 x1 x2 x3 x4 x5) (x0 x1 : List Dt) (x2 x3 : Int) (x4 : List Dt) (x5 : Dt) : e46 jn m [1, 1, 0, 1, 0, 1, 1, 1, 0, 0, 1, 0, 0, 1, 1, 1] [M3] (s46_5 x0 x1 x2 x3 x4 x5) = i46_j5 m (i46 m) rec3 x0 x1 x2 x3 x4 x5 := by
  have h : ∀ J, e46 J m [1, 1, 0, 1, 0, 1, 1, 1, 0, 0, 1, 0, 0, 1, 1, 1] [M3] (s46_5 x0 x1 x2 x3 x4 x5) =
    (J 1 10 M3 (s46_3 x0 x1 x2 (IntKind.wrap IntKind.i64 (x3 + (1 : Int))) x4 x5) (l46 J m [1, 1, 0, 1, 0, 1, 1, 1, 0, 0, 1, 0] [] M3 (s46_3 x0 x1 x2 (IntKind.wrap IntKind.i64 (x3 + (1 : Int))) x4 x5))) := fun J => by kernel_rfl
  exact (h jn).trans (by
    simp only [jn_eq, h3]
    rfl)
theorem i46_j4_eq (m : Nat) (M3 : Nat) (rec3 : List Dt → List Dt → Int → Int → List Dt → Dt → Option (List Dt)) (h3 : ∀ (x0 x1 : List Dt) (x2 x3 : Int) (x4 : List Dt) (x5 : Dt), l46 jn m [1, 1, 0, 1, 0, 1, 1, 1, 0, 0, 1, 0] [] M3 (s46_3 x0 x1 x2 x3 x4 x5) = rec3 x0 x1 x2 x3 x4 x5) (x0 x1 : List Dt) (x2 x3 : Int) (x4 : List Dt) (x5 : Dt) : e46 jn m [1, 1, 0, 1, 0, 1, 1, 1, 0, 0, 1, 0, 0, 1, 1] [M3] (s46_4 x0 x1 x2 x3 x4 x5) = i46_j4 m (i46 m) rec3 x0 x1 x2 x3 x4 x5 := by
  have h : ∀ J, e46 J m [1, 1, 0, 1, 0, 1, 1, 1, 0, 0, 1, 0, 0, 1, 1] [M3] (s46_4 x0 x1 x2 x3 x4 x5) =
    ((idx x1 x3).bind fun v6 =>
     (bif ((Dt.I v6 0) == (5 : Int)) then
     ((i46 m v6 x0 x4).bind fun r7 =>
     (J 0 14 0 (s46_5 x0 x1 x2 x3 r7 x5) (e46 J m [1, 1, 0, 1, 0, 1, 1, 1, 0, 0, 1, 0, 0, 1, 1, 1] [M3] (s46_5 x0 x1 x2 x3 r7 x5))))
     else
     (J 0 14 0 (s46_5 x0 x1 x2 x3 x4 x5) (e46 J m [1, 1, 0, 1, 0, 1, 1, 1, 0, 0, 1, 0, 0, 1, 1, 1] [M3] (s46_5 x0 x1 x2 x3 x4 x5))))) := fun J => by kernel_rfl
  exact (h jn).trans (by
    simp only [jn_eq, i46_j5_eq m M3 rec3 h3]
    rfl)
theorem i46_j6_eq (m : Nat) (x0 x1 : List Dt) (x2 : Dt) : e46 jn m [1, 1, 0, 1, 0, 1, 1, 1, 0, 1] [] (s46_6 x0 x1 x2) = i46_j6 m (i46 m) x0 x1 x2 := by
  have h : ∀ J, e46 J m [1, 1, 0, 1, 0, 1, 1, 1, 0, 1] [] (s46_6 x0 x1 x2) =
    ((idx x0 (0 : Int)).bind fun v8 =>
     ((path_Number m (Dt.toStr v8)).bind fun r9 =>
     (bif (Prod.snd r9) then
     (bif (decide ((Prod.fst r9) < (((List.length (Dt.L x2 3)) : Nat) : Int))) then
     ((idx (Dt.L x2 3) (Prod.fst r9)).bind fun v10 =>
     ((cutL x0 (1 : Int) (((List.length x0) : Nat) : Int)).bind fun v11 =>
     ((i46 m v10 v11 x1).bind fun r12 =>
     (J 0 18 0 (s46_1 r12) (e46 J m [1, 1, 1] [] (s46_1 r12))))))
     else
     (J 0 18 0 (s46_1 x1) (e46 J m [1, 1, 1] [] (s46_1 x1))))
     else
     (J 0 18 0 (s46_1 x1) (e46 J m [1, 1, 1] [] (s46_1 x1)))))) := fun J => by kernel_rfl
  exact (h jn).trans (by
    simp only [jn_eq, i46_j1_eq m]
    rfl)
theorem i46_l3_eq (m : Nat) : ∀ (M3 : Nat) (x0 x1 : List Dt) (x2 x3 : Int) (x4 : List Dt) (x5 : Dt), l46 jn m [1, 1, 0, 1, 0, 1, 1, 1, 0, 0, 1, 0] [] M3 (s46_3 x0 x1 x2 x3 x4 x5) = i46_l3 m (i46 m) M3 x0 x1 x2 x3 x4 x5
  | 0, _, _, _, _, _, _ => rfl
  | M3 + 1, x0, x1, x2, x3, x4, x5 => by
    have h : ∀ J, l46 J m [1, 1, 0, 1, 0, 1, 1, 1, 0, 0, 1, 0] [] (M3 + 1) (s46_3 x0 x1 x2 x3 x4 x5) =
    (bif (decide (x3 < x2)) then
     (J 0 11 0 (s46_4 x0 x1 x2 x3 x4 x5) (e46 J m [1, 1, 0, 1, 0, 1, 1, 1, 0, 0, 1, 0, 0, 1, 1] [M3] (s46_4 x0 x1 x2 x3 x4 x5)))
    else
     (J 0 15 0 (s46_6 x0 x4 x5) (e46 J m [1, 1, 0, 1, 0, 1, 1, 1, 0, 1] [] (s46_6 x0 x4 x5)))) := fun J => by kernel_rfl
    refine (h jn).trans ?_
    simp only [jn_eq, i46_j4_eq m M3 (i46_l3 m (i46 m) M3) (fun x0 x1 x2 x3 x4 x5 => i46_l3_eq m M3 x0 x1 x2 x3 x4 x5), i46_j6_eq m]
    rfl
theorem i46_j2_eq (m : Nat) (x0 x1 : List Dt) (x2 x3 : Int) (x4 : List Dt) (x5 : Dt) : e46 jn m [1, 1, 0, 1, 0, 1, 1, 1, 0, 0, 1] [] (s46_2 x0 x1 x2 x3 x4 x5) = i46_j2 m (i46 m) x0 x1 x2 x3 x4 x5 := by
  have h : ∀ J, e46 J m [1, 1, 0, 1, 0, 1, 1, 1, 0, 0, 1] [] (s46_2 x0 x1 x2 x3 x4 x5) =
    (J 1 10 (Nat.succ m) (s46_3 x0 x1 x2 x3 x4 x5) (l46 J m [1, 1, 0, 1, 0, 1, 1, 1, 0, 0, 1, 0] [] (Nat.succ m) (s46_3 x0 x1 x2 x3 x4 x5))) := fun J => by kernel_rfl
  exact (h jn).trans (by
    simp only [jn_eq, i46_l3_eq m]
    rfl)
theorem i46_j0_eq (m : Nat) (x0 x1 : List Dt) (x2 : Dt) : e46 jn m [1, 1] [] (s46_0 x0 x1 x2) = i46_j0 m (i46 m) x0 x1 x2 := by
  have h : ∀ J, e46 J m [1, 1] [] (s46_0 x0 x1 x2) =
    (bif ((Dt.I x2 0) == (5 : Int)) then
     ((idx x0 (0 : Int)).bind fun v1 =>
     ((path_field m (Dt.L x2 4) (Dt.toStr v1)).bind fun r2 =>
     (bif (decide ((0 : Int) ≤ r2)) then
     ((idx (Dt.L x2 4) r2).bind fun v3 =>
     ((cutL x0 (1 : Int) (((List.length x0) : Nat) : Int)).bind fun v4 =>
     ((i46 m (Dt.fld v3 1) v4 x1).bind fun r5 =>
     (J 0 18 0 (s46_1 r5) (e46 J m [1, 1, 1] [] (s46_1 r5))))))
     else
     (J 0 18 0 (s46_1 x1) (e46 J m [1, 1, 1] [] (s46_1 x1))))))
    else
     (bif ((Dt.I x2 0) == (6 : Int)) then
     (J 0 10 0 (s46_2 x0 (Dt.L x2 3) (((List.length (Dt.L x2 3)) : Nat) : Int) (0 : Int) x1 x2) (e46 J m [1, 1, 0, 1, 0, 1, 1, 1, 0, 0, 1] [] (s46_2 x0 (Dt.L x2 3) (((List.length (Dt.L x2 3)) : Nat) : Int) (0 : Int) x1 x2)))
     else
     (J 0 18 0 (s46_1 x1) (e46 J m [1, 1, 1] [] (s46_1 x1))))) := fun J => by kernel_rfl
  exact (h jn).trans (by
    simp only [jn_eq, i46_j1_eq m, i46_j2_eq m]
    rfl)
theorem i46_eq (m : Nat) (a0 : Dt) (a1 a2 : List Dt) : e46 jn m [] [] ⟨[(.row 0), (.dat 30 a0), (.dat 45 (.lst a1))], [(.row 27 a2)], 1⟩ = i46 (m + 1) a0 a1 a2 := by
  have h : ∀ J, e46 J m [] [] ⟨[(.row 0), (.dat 30 a0), (.dat 45 (.lst a1))], [(.row 27 a2)], 1⟩ =
    (bif ((((List.length a1) : Nat) : Int) == (0 : Int)) then
     ((app a2 [a0]).bind fun v0 =>
     some v0)
    else
     (J 0 3 0 (s46_0 a1 a2 a0) (e46 J m [1, 1] [] (s46_0 a1 a2 a0)))) := fun J => by kernel_rfl
  refine (h jn).trans ?_
  simp only [jn_eq, i46_j0_eq m]
  rfl
end Go.Proofs.YtacchdeihafmnaaDoor
