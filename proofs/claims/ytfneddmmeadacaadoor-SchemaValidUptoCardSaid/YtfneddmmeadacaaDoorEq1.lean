/- Generated: each function's run in the abstract machine is its shallow function. -/
import Derived.Test.YtfneddmmeadacaaDoorCt
import Derived.Test.YtfneddmmeadacaaDoorAmEnv
import Derived.KernelRfl
set_option linter.unusedVariables false
set_option linter.unusedSimpArgs false
namespace Go.Proofs.YtfneddmmeadacaaDoor
open Go.Am
set_option maxRecDepth 100000
noncomputable def d26 (q : Res) : Option Bool := match q with
  | (.dat T0 x0, []) => bif Nat.beq T0 4 then some x0.toBool else none
  | _ => none
theorem d26_sim {b : Res} {r : Bool} (h : d26 b = some r) : Sim Tryd.prog b ((.dat 4 (.bool r)), []) := by
  unfold d26 at h
  split at h
  · obtain ⟨hc, h2⟩ := bif_some h
    cases h2
    have e0 := beq_eq hc
    subst e0
    exact Sim.of (.of (.dat (.bool Tryd.underlying4)) rfl rfl) .nil
  · cases h
noncomputable def e26 (J : Nat → Nat → Nat → St → Option Bool → Option Bool) (m : Nat) (p ms : List Nat) (σ : St) := evAt Tryd.prog env (ct m) J (m + 1) 24 138 Tryd.f24 d26 p ms σ
noncomputable def l26 (J : Nat → Nat → Nat → St → Option Bool → Option Bool) (m : Nat) (p ms : List Nat) (M : Nat) (σ : St) := loopAt Tryd.prog env (ct m) J (m + 1) 24 138 Tryd.f24 d26 p ms M σ
noncomputable def s26_10 (x0 : Bool) (x1 : Int) (x2 : Dt) : St := ⟨tsOf [(1, (.dat 4 (.bool x0))), (2, (.ptr 0 [] 0)), (7, (.dat 3 (.int x1)))], [(.box 25 (.dat 25 x2))], 0⟩
noncomputable def s26_9 (x0 : Bool) (x1 : Int) (x2 : Dt) : St := ⟨tsOf [(1, (.dat 4 (.bool x0))), (2, (.ptr 0 [] 0)), (7, (.dat 3 (.int x1)))], [(.box 25 (.dat 25 x2))], 0⟩
noncomputable def s26_11 (x0 : Bool) (x1 : Dt) : St := ⟨tsOf [(1, (.dat 4 (.bool x0))), (2, (.ptr 0 [] 0))], [(.box 25 (.dat 25 x1))], 0⟩
noncomputable def s26_8 (x0 : Bool) (x1 : Int) (x2 : Dt) : St := ⟨tsOf [(1, (.dat 4 (.bool x0))), (2, (.ptr 0 [] 0)), (7, (.dat 3 (.int x1)))], [(.box 25 (.dat 25 x2))], 0⟩
noncomputable def s26_7 (x0 : Bool) (x1 : Int) (x2 : Dt) : St := ⟨tsOf [(1, (.dat 4 (.bool x0))), (2, (.ptr 0 [] 0)), (7, (.dat 3 (.int x1)))], [(.box 25 (.dat 25 x2))], 0⟩
noncomputable def s26_6 (x0 : Bool) (x1 : Dt) : St := ⟨tsOf [(1, (.dat 4 (.bool x0))), (2, (.ptr 0 [] 0))], [(.box 25 (.dat 25 x1))], 0⟩
noncomputable def s26_5 (x0 : Bool) (x1 : Dt) : St := ⟨tsOf [(1, (.dat 4 (.bool x0))), (2, (.ptr 0 [] 0))], [(.box 25 (.dat 25 x1))], 0⟩
noncomputable def s26_4 (x0 x1 : Bool) (x2 : Dt) : St := ⟨tsOf [(1, (.dat 4 (.bool x0))), (2, (.ptr 0 [] 0)), (79, (.dat 4 (.bool x1)))], [(.box 25 (.dat 25 x2))], 0⟩
noncomputable def s26_3 (x0 x1 x2 : Bool) (x3 : Dt) : St := ⟨tsOf [(1, (.dat 4 (.bool x0))), (2, (.ptr 0 [] 0)), (5, (.dat 4 (.bool x1))), (6, (.dat 4 (.bool x2)))], [(.box 25 (.dat 25 x3))], 0⟩
noncomputable def s26_2 (x0 x1 : Bool) (x2 : Dt) : St := ⟨tsOf [(1, (.dat 4 (.bool x0))), (2, (.ptr 0 [] 0)), (5, (.dat 4 (.bool x1)))], [(.box 25 (.dat 25 x2))], 0⟩
noncomputable def s26_1 (x0 : Bool) (x1 : Dt) : St := ⟨tsOf [(1, (.dat 4 (.bool x0))), (2, (.ptr 0 [] 0))], [(.box 25 (.dat 25 x1))], 0⟩
noncomputable def s26_0 (x0 x1 : Bool) (x2 : Dt) : St := ⟨tsOf [(1, (.dat 4 (.bool x0))), (2, (.ptr 0 [] 0)), (27, (.dat 4 (.bool x1)))], [(.box 25 (.dat 25 x2))], 0⟩
theorem ref01_formed_j10_eq (m : Nat) (M8 : Nat) (rec8 : Bool → Int → Dt → Option Bool) (h8 : ∀ (x0 : Bool) (x1 : Int) (x2 : Dt), l26 jn m [1, 1, 1, 1, 1, 1, 0, 1, 0] [] M8 (s26_8 x0 x1 x2) = rec8 x0 x1 x2) (x0 : Bool) (x1 : Int) (x2 : Dt) : e26 jn m [1, 1, 1, 1, 1, 1, 0, 1, 0, 0, 1, 1] [M8] (s26_10 x0 x1 x2) = ref01_formed_j10 m (ref01_formed m) (ref01_fields m) rec8 x0 x1 x2 := by
  have h : ∀ J, e26 J m [1, 1, 1, 1, 1, 1, 0, 1, 0, 0, 1, 1] [M8] (s26_10 x0 x1 x2) =
    (J 1 19 M8 (s26_8 x0 (IntKind.wrap .i64 (x1 + 1)) x2) (l26 J m [1, 1, 1, 1, 1, 1, 0, 1, 0] [] M8 (s26_8 x0 (IntKind.wrap .i64 (x1 + 1)) x2))) := fun J => by kernel_rfl
  exact (h jn).trans (by
    simp only [jn_eq, h8]
    rfl)
theorem ref01_formed_j9_eq (m : Nat) (M8 : Nat) (rec8 : Bool → Int → Dt → Option Bool) (h8 : ∀ (x0 : Bool) (x1 : Int) (x2 : Dt), l26 jn m [1, 1, 1, 1, 1, 1, 0, 1, 0] [] M8 (s26_8 x0 x1 x2) = rec8 x0 x1 x2) (x0 : Bool) (x1 : Int) (x2 : Dt) : e26 jn m [1, 1, 1, 1, 1, 1, 0, 1, 0, 0, 1] [M8] (s26_9 x0 x1 x2) = ref01_formed_j9 m (ref01_formed m) (ref01_fields m) rec8 x0 x1 x2 := by
  have h : ∀ J, e26 J m [1, 1, 1, 1, 1, 1, 0, 1, 0, 0, 1] [M8] (s26_9 x0 x1 x2) =
    ((idx (Dt.L x2 3) x1).bind fun v1 =>
   ((ref01_formed m v1 x0).bind fun r2 =>
   (bif (Bool.not r2) then
   some false
   else
   (J 0 20 0 (s26_10 x0 x1 x2) (e26 J m [1, 1, 1, 1, 1, 1, 0, 1, 0, 0, 1, 1] [M8] (s26_10 x0 x1 x2)))))) := fun J => by kernel_rfl
  exact (h jn).trans (by
    simp only [jn_eq, ref01_formed_j10_eq m M8 rec8 h8]
    rfl)
theorem ref01_formed_j11_eq (m : Nat) (x0 : Bool) (x1 : Dt) : e26 jn m [1, 1, 1, 1, 1, 1, 1] [] (s26_11 x0 x1) = ref01_formed_j11 m (ref01_formed m) (ref01_fields m) x0 x1 := by
  have h : ∀ J, e26 J m [1, 1, 1, 1, 1, 1, 1] [] (s26_11 x0 x1) =
    ((ref01_fields m x1 x0).bind fun r3 =>
   some r3) := fun J => by kernel_rfl
  exact (h jn).trans (rfl)
theorem ref01_formed_l8_eq (m : Nat) : ∀ (M8 : Nat) (x0 : Bool) (x1 : Int) (x2 : Dt), l26 jn m [1, 1, 1, 1, 1, 1, 0, 1, 0] [] M8 (s26_8 x0 x1 x2) = ref01_formed_l8 m (ref01_formed m) (ref01_fields m) M8 x0 x1 x2
  | 0, _, _, _ => rfl
  | M8 + 1, x0, x1, x2 => by
    have h : ∀ J, l26 J m [1, 1, 1, 1, 1, 1, 0, 1, 0] [] (M8 + 1) (s26_8 x0 x1 x2) =
    (bif (decide (x1 < (List.length (Dt.L x2 3) : Int))) then
   (J 0 21 0 (s26_9 x0 x1 x2) (e26 J m [1, 1, 1, 1, 1, 1, 0, 1, 0, 0, 1] [M8] (s26_9 x0 x1 x2)))
    else
   (J 0 23 0 (s26_11 x0 x2) (e26 J m [1, 1, 1, 1, 1, 1, 1] [] (s26_11 x0 x2)))) := fun J => by kernel_rfl
    refine (h jn).trans ?_
    simp only [jn_eq, ref01_formed_j9_eq m M8 (ref01_formed_l8 m (ref01_formed m) (ref01_fields m) M8) (fun x0 x1 x2 => ref01_formed_l8_eq m M8 x0 x1 x2), ref01_formed_j11_eq m]
    rfl
theorem ref01_formed_j7_eq (m : Nat) (x0 : Bool) (x1 : Int) (x2 : Dt) : e26 jn m [1, 1, 1, 1, 1, 1, 0, 1] [] (s26_7 x0 x1 x2) = ref01_formed_j7 m (ref01_formed m) (ref01_fields m) x0 x1 x2 := by
  have h : ∀ J, e26 J m [1, 1, 1, 1, 1, 1, 0, 1] [] (s26_7 x0 x1 x2) =
    (J 1 19 (Nat.succ m) (s26_8 x0 x1 x2) (l26 J m [1, 1, 1, 1, 1, 1, 0, 1, 0] [] (Nat.succ m) (s26_8 x0 x1 x2))) := fun J => by kernel_rfl
  exact (h jn).trans (by
    simp only [jn_eq, ref01_formed_l8_eq m]
    rfl)
theorem ref01_formed_j6_eq (m : Nat) (x0 : Bool) (x1 : Dt) : e26 jn m [1, 1, 1, 1, 1, 1] [] (s26_6 x0 x1) = ref01_formed_j6 m (ref01_formed m) (ref01_fields m) x0 x1 := by
  have h : ∀ J, e26 J m [1, 1, 1, 1, 1, 1] [] (s26_6 x0 x1) =
    (J 0 19 0 (s26_7 x0 0 x1) (e26 J m [1, 1, 1, 1, 1, 1, 0, 1] [] (s26_7 x0 0 x1))) := fun J => by kernel_rfl
  exact (h jn).trans (by
    simp only [jn_eq, ref01_formed_j7_eq m]
    rfl)
theorem ref01_formed_j5_eq (m : Nat) (x0 : Bool) (x1 : Dt) : e26 jn m [1, 1, 1, 1, 1] [] (s26_5 x0 x1) = ref01_formed_j5 m (ref01_formed m) (ref01_fields m) x0 x1 := by
  have h : ∀ J, e26 J m [1, 1, 1, 1, 1] [] (s26_5 x0 x1) =
    (bif ((Dt.I x1 0) == 9) then
   (bif ((Dt.I x1 1) == 0) then
   some true
   else
   some ((Dt.I x1 1) == 1))
    else
   (bif ((Dt.I x1 0) == 10) then
   some (decide (0 ≤ (Dt.I x1 1)))
   else
   (bif ((Dt.I x1 0) == 4) then
   (bif (decide ((ByteArray.size (Dt.S x1 2) : Int) ≤ 4096)) then
   ((ref01_UTF8 m (Dt.S x1 2)).bind fun r0 =>
   some r0)
   else
   some false)
   else
   (bif ((Dt.I x1 0) == 7) then
   some (decide ((ByteArray.size (Dt.S x1 2) : Int) ≤ 4096))
   else
   (bif ((Dt.I x1 0) == 8) then
   some ((ByteArray.size (Dt.S x1 2) : Int) == 12)
   else
   (J 0 18 0 (s26_6 x0 x1) (e26 J m [1, 1, 1, 1, 1, 1] [] (s26_6 x0 x1)))))))) := fun J => by kernel_rfl
  exact (h jn).trans (by
    simp only [jn_eq, ref01_formed_j6_eq m]
    rfl)
theorem ref01_formed_j4_eq (m : Nat) (x0 x1 : Bool) (x2 : Dt) : e26 jn m [1, 1, 1, 1, 0, 1] [] (s26_4 x0 x1 x2) = ref01_formed_j4 m (ref01_formed m) (ref01_fields m) x0 x1 x2 := by
  have h : ∀ J, e26 J m [1, 1, 1, 1, 0, 1] [] (s26_4 x0 x1 x2) =
    (bif x1 then
   some false
    else
   (J 0 7 0 (s26_5 x0 x2) (e26 J m [1, 1, 1, 1, 1] [] (s26_5 x0 x2)))) := fun J => by kernel_rfl
  exact (h jn).trans (by
    simp only [jn_eq, ref01_formed_j5_eq m]
    rfl)
theorem ref01_formed_j3_eq (m : Nat) (x0 x1 x2 : Bool) (x3 : Dt) : e26 jn m [1, 1, 1, 1] [] (s26_3 x0 x1 x2 x3) = ref01_formed_j3 m (ref01_formed m) (ref01_fields m) x0 x1 x2 x3 := by
  have h : ∀ J, e26 J m [1, 1, 1, 1] [] (s26_3 x0 x1 x2 x3) =
    (bif (Bool.not x1) then
   (bif (Bool.not ((ByteArray.toList (Dt.S x3 2)) == [])) then
   (J 0 6 0 (s26_4 x0 true x3) (e26 J m [1, 1, 1, 1, 0, 1] [] (s26_4 x0 true x3)))
   else
   (bif (Bool.not x2) then
   (bif ((Dt.I x3 1) != 0) then
   (J 0 6 0 (s26_4 x0 true x3) (e26 J m [1, 1, 1, 1, 0, 1] [] (s26_4 x0 true x3)))
   else
   (bif (decide ((Dt.I x3 0) < 1)) then
   (J 0 6 0 (s26_4 x0 true x3) (e26 J m [1, 1, 1, 1, 0, 1] [] (s26_4 x0 true x3)))
   else
   (J 0 6 0 (s26_4 x0 (decide (11 < (Dt.I x3 0))) x3) (e26 J m [1, 1, 1, 1, 0, 1] [] (s26_4 x0 (decide (11 < (Dt.I x3 0))) x3)))))
   else
   (bif (decide ((Dt.I x3 0) < 1)) then
   (J 0 6 0 (s26_4 x0 true x3) (e26 J m [1, 1, 1, 1, 0, 1] [] (s26_4 x0 true x3)))
   else
   (J 0 6 0 (s26_4 x0 (decide (11 < (Dt.I x3 0))) x3) (e26 J m [1, 1, 1, 1, 0, 1] [] (s26_4 x0 (decide (11 < (Dt.I x3 0))) x3))))))
    else
   (bif (Bool.not x2) then
   (bif ((Dt.I x3 1) != 0) then
   (J 0 6 0 (s26_4 x0 true x3) (e26 J m [1, 1, 1, 1, 0, 1] [] (s26_4 x0 true x3)))
   else
   (bif (decide ((Dt.I x3 0) < 1)) then
   (J 0 6 0 (s26_4 x0 true x3) (e26 J m [1, 1, 1, 1, 0, 1] [] (s26_4 x0 true x3)))
   else
   (J 0 6 0 (s26_4 x0 (decide (11 < (Dt.I x3 0))) x3) (e26 J m [1, 1, 1, 1, 0, 1] [] (s26_4 x0 (decide (11 < (Dt.I x3 0))) x3)))))
   else
   (bif (decide ((Dt.I x3 0) < 1)) then
   (J 0 6 0 (s26_4 x0 true x3) (e26 J m [1, 1, 1, 1, 0, 1] [] (s26_4 x0 true x3)))
   else
   (J 0 6 0 (s26_4 x0 (decide (11 < (Dt.I x3 0))) x3) (e26 J m [1, 1, 1, 1, 0, 1] [] (s26_4 x0 (decide (11 < (Dt.I x3 0))) x3)))))) := fun J => by kernel_rfl
  exact (h jn).trans (by
    simp only [jn_eq, ref01_formed_j4_eq m]
    rfl)
theorem ref01_formed_j2_eq (m : Nat) (x0 x1 : Bool) (x2 : Dt) : e26 jn m [1, 1, 1] [] (s26_2 x0 x1 x2) = ref01_formed_j2 m (ref01_formed m) (ref01_fields m) x0 x1 x2 := by
  have h : ∀ J, e26 J m [1, 1, 1] [] (s26_2 x0 x1 x2) =
    (bif ((Dt.I x2 0) == 3) then
   (J 0 5 0 (s26_3 x0 x1 true x2) (e26 J m [1, 1, 1, 1] [] (s26_3 x0 x1 true x2)))
    else
   (bif ((Dt.I x2 0) == 9) then
   (J 0 5 0 (s26_3 x0 x1 true x2) (e26 J m [1, 1, 1, 1] [] (s26_3 x0 x1 true x2)))
   else
   (J 0 5 0 (s26_3 x0 x1 ((Dt.I x2 0) == 10) x2) (e26 J m [1, 1, 1, 1] [] (s26_3 x0 x1 ((Dt.I x2 0) == 10) x2))))) := fun J => by kernel_rfl
  exact (h jn).trans (by
    simp only [jn_eq, ref01_formed_j3_eq m]
    rfl)
theorem ref01_formed_j1_eq (m : Nat) (x0 : Bool) (x1 : Dt) : e26 jn m [1, 1] [] (s26_1 x0 x1) = ref01_formed_j1 m (ref01_formed m) (ref01_fields m) x0 x1 := by
  have h : ∀ J, e26 J m [1, 1] [] (s26_1 x0 x1) =
    (bif ((Dt.I x1 0) == 4) then
   (J 0 4 0 (s26_2 x0 true x1) (e26 J m [1, 1, 1] [] (s26_2 x0 true x1)))
    else
   (bif ((Dt.I x1 0) == 7) then
   (J 0 4 0 (s26_2 x0 true x1) (e26 J m [1, 1, 1] [] (s26_2 x0 true x1)))
   else
   (J 0 4 0 (s26_2 x0 ((Dt.I x1 0) == 8) x1) (e26 J m [1, 1, 1] [] (s26_2 x0 ((Dt.I x1 0) == 8) x1))))) := fun J => by kernel_rfl
  exact (h jn).trans (by
    simp only [jn_eq, ref01_formed_j2_eq m]
    rfl)
theorem ref01_formed_j0_eq (m : Nat) (x0 x1 : Bool) (x2 : Dt) : e26 jn m [1, 0, 1] [] (s26_0 x0 x1 x2) = ref01_formed_j0 m (ref01_formed m) (ref01_fields m) x0 x1 x2 := by
  have h : ∀ J, e26 J m [1, 0, 1] [] (s26_0 x0 x1 x2) =
    (bif x1 then
   some false
    else
   (J 0 3 0 (s26_1 x0 x2) (e26 J m [1, 1] [] (s26_1 x0 x2)))) := fun J => by kernel_rfl
  exact (h jn).trans (by
    simp only [jn_eq, ref01_formed_j1_eq m]
    rfl)
theorem ref01_formed_eq (m : Nat) (a0 : Dt) (a1 : Bool) : e26 jn m [] [] ⟨[(.dat 25 a0), (.dat 4 (.bool a1))], [], 0⟩ = ref01_formed (m + 1) a0 a1 := by
  have h : ∀ J, e26 J m [] [] ⟨[(.dat 25 a0), (.dat 4 (.bool a1))], [], 0⟩ =
    (bif ((Dt.I a0 0) != 6) then
   (bif (decide (0 < (List.length (Dt.L a0 3) : Int))) then
   (J 0 2 0 (s26_0 a1 true a0) (e26 J m [1, 0, 1] [] (s26_0 a1 true a0)))
   else
   (bif ((Dt.I a0 0) != 5) then
   (J 0 2 0 (s26_0 a1 (decide (0 < (List.length (Dt.L a0 4) : Int))) a0) (e26 J m [1, 0, 1] [] (s26_0 a1 (decide (0 < (List.length (Dt.L a0 4) : Int))) a0)))
   else
   (J 0 2 0 (s26_0 a1 false a0) (e26 J m [1, 0, 1] [] (s26_0 a1 false a0)))))
    else
   (bif ((Dt.I a0 0) != 5) then
   (J 0 2 0 (s26_0 a1 (decide (0 < (List.length (Dt.L a0 4) : Int))) a0) (e26 J m [1, 0, 1] [] (s26_0 a1 (decide (0 < (List.length (Dt.L a0 4) : Int))) a0)))
   else
   (J 0 2 0 (s26_0 a1 false a0) (e26 J m [1, 0, 1] [] (s26_0 a1 false a0))))) := fun J => by kernel_rfl
  refine (h jn).trans ?_
  simp only [jn_eq, ref01_formed_j0_eq m]
  rfl
noncomputable def d35 (q : Res) : Option Bool := match q with
  | (.dat T0 x0, []) => bif Nat.beq T0 4 then some x0.toBool else none
  | _ => none
theorem d35_sim {b : Res} {r : Bool} (h : d35 b = some r) : Sim Tryd.prog b ((.dat 4 (.bool r)), []) := by
  unfold d35 at h
  split at h
  · obtain ⟨hc, h2⟩ := bif_some h
    cases h2
    have e0 := beq_eq hc
    subst e0
    exact Sim.of (.of (.dat (.bool Tryd.underlying4)) rfl rfl) .nil
  · cases h
noncomputable def e35 (J : Nat → Nat → Nat → St → Option Bool → Option Bool) (m : Nat) (p ms : List Nat) (σ : St) := evAt Tryd.prog env (ct m) J (m + 1) 36 58 Tryd.f36 d35 p ms σ
noncomputable def l35 (J : Nat → Nat → Nat → St → Option Bool → Option Bool) (m : Nat) (p ms : List Nat) (M : Nat) (σ : St) := loopAt Tryd.prog env (ct m) J (m + 1) 36 58 Tryd.f36 d35 p ms M σ
noncomputable def s35_8 (x0 : Bool) (x1 x2 : Int) (x3 x4 : Dt) : St := ⟨tsOf [(1, (.dat 4 (.bool x0))), (2, (.ptr 0 [] 0)), (5, (.dat 3 (.int x1))), (6, (.ptr 1 [] 0)), (7, (.dat 3 (.int x2)))], [(.box 25 (.dat 25 x3)), (.box 56 (.dat 56 x4))], 0⟩
noncomputable def s35_7 (x0 : Bool) (x1 x2 : Int) (x3 x4 : Dt) : St := ⟨tsOf [(1, (.dat 4 (.bool x0))), (2, (.ptr 0 [] 0)), (5, (.dat 3 (.int x1))), (6, (.ptr 1 [] 0)), (7, (.dat 3 (.int x2)))], [(.box 25 (.dat 25 x3)), (.box 56 (.dat 56 x4))], 0⟩
noncomputable def s35_9 (x0 : Bool) (x1 : Int) (x2 : Dt) : St := ⟨tsOf [(1, (.dat 4 (.bool x0))), (2, (.ptr 0 [] 0)), (5, (.dat 3 (.int x1)))], [(.box 25 (.dat 25 x2))], 0⟩
noncomputable def s35_6 (x0 : Bool) (x1 x2 : Int) (x3 x4 : Dt) : St := ⟨tsOf [(1, (.dat 4 (.bool x0))), (2, (.ptr 0 [] 0)), (5, (.dat 3 (.int x1))), (6, (.ptr 1 [] 0)), (7, (.dat 3 (.int x2)))], [(.box 25 (.dat 25 x3)), (.box 56 (.dat 56 x4))], 0⟩
noncomputable def s35_5 (x0 : Bool) (x1 x2 : Int) (x3 x4 : Dt) : St := ⟨tsOf [(1, (.dat 4 (.bool x0))), (2, (.ptr 0 [] 0)), (5, (.dat 3 (.int x1))), (6, (.ptr 1 [] 0)), (7, (.dat 3 (.int x2)))], [(.box 25 (.dat 25 x3)), (.box 56 (.dat 56 x4))], 0⟩
noncomputable def s35_4 (x0 : Bool) (x1 : Int) (x2 x3 : Dt) : St := ⟨tsOf [(1, (.dat 4 (.bool x0))), (2, (.ptr 0 [] 0)), (5, (.dat 3 (.int x1))), (6, (.ptr 1 [] 0))], [(.box 25 (.dat 25 x2)), (.box 56 (.dat 56 x3))], 0⟩
noncomputable def s35_3 (x0 : Bool) (x1 : Int) (x2 : Bool) (x3 x4 : Dt) : St := ⟨tsOf [(1, (.dat 4 (.bool x0))), (2, (.ptr 0 [] 0)), (5, (.dat 3 (.int x1))), (6, (.ptr 1 [] 0)), (43, (.dat 4 (.bool x2)))], [(.box 25 (.dat 25 x3)), (.box 56 (.dat 56 x4))], 0⟩
noncomputable def s35_2 (x0 : Bool) (x1 : Int) (x2 : Dt) : St := ⟨tsOf [(1, (.dat 4 (.bool x0))), (2, (.ptr 0 [] 0)), (5, (.dat 3 (.int x1)))], [(.box 25 (.dat 25 x2))], 0⟩
noncomputable def s35_10 : St := ⟨tsOf [], [], 0⟩
noncomputable def s35_1 (x0 : Bool) (x1 : Int) (x2 : Dt) : St := ⟨tsOf [(1, (.dat 4 (.bool x0))), (2, (.ptr 0 [] 0)), (5, (.dat 3 (.int x1)))], [(.box 25 (.dat 25 x2))], 0⟩
noncomputable def s35_0 (x0 : Bool) (x1 : Int) (x2 : Dt) : St := ⟨tsOf [(1, (.dat 4 (.bool x0))), (2, (.ptr 0 [] 0)), (5, (.dat 3 (.int x1)))], [(.box 25 (.dat 25 x2))], 0⟩
theorem ref01_fields_j8_eq (m : Nat) (M1 : Nat) (rec1 : Bool → Int → Dt → Option Bool) (h1 : ∀ (x0 : Bool) (x1 : Int) (x2 : Dt), l35 jn m [1, 0, 1, 0] [] M1 (s35_1 x0 x1 x2) = rec1 x0 x1 x2) (M6 : Nat) (rec6 : Bool → Int → Int → Dt → Dt → Option Bool) (h6 : ∀ (x0 : Bool) (x1 x2 : Int) (x3 x4 : Dt), l35 jn m [1, 0, 1, 0, 0, 1, 0, 0, 1, 1, 1, 0] [M1] M6 (s35_6 x0 x1 x2 x3 x4) = rec6 x0 x1 x2 x3 x4) (x0 : Bool) (x1 x2 : Int) (x3 x4 : Dt) : e35 jn m [1, 0, 1, 0, 0, 1, 0, 0, 1, 1, 1, 0, 0, 1, 1] [M1, M6] (s35_8 x0 x1 x2 x3 x4) = ref01_fields_j8 m (ref01_formed m) rec1 rec6 x0 x1 x2 x3 x4 := by
  have h : ∀ J, e35 J m [1, 0, 1, 0, 0, 1, 0, 0, 1, 1, 1, 0, 0, 1, 1] [M1, M6] (s35_8 x0 x1 x2 x3 x4) =
    (J 1 8 M6 (s35_6 x0 x1 (IntKind.wrap .i64 (x2 + 1)) x3 x4) (l35 J m [1, 0, 1, 0, 0, 1, 0, 0, 1, 1, 1, 0] [M1] M6 (s35_6 x0 x1 (IntKind.wrap .i64 (x2 + 1)) x3 x4))) := fun J => by kernel_rfl
  exact (h jn).trans (by
    simp only [jn_eq, h6]
    rfl)
theorem ref01_fields_j7_eq (m : Nat) (M1 : Nat) (rec1 : Bool → Int → Dt → Option Bool) (h1 : ∀ (x0 : Bool) (x1 : Int) (x2 : Dt), l35 jn m [1, 0, 1, 0] [] M1 (s35_1 x0 x1 x2) = rec1 x0 x1 x2) (M6 : Nat) (rec6 : Bool → Int → Int → Dt → Dt → Option Bool) (h6 : ∀ (x0 : Bool) (x1 x2 : Int) (x3 x4 : Dt), l35 jn m [1, 0, 1, 0, 0, 1, 0, 0, 1, 1, 1, 0] [M1] M6 (s35_6 x0 x1 x2 x3 x4) = rec6 x0 x1 x2 x3 x4) (x0 : Bool) (x1 x2 : Int) (x3 x4 : Dt) : e35 jn m [1, 0, 1, 0, 0, 1, 0, 0, 1, 1, 1, 0, 0, 1] [M1, M6] (s35_7 x0 x1 x2 x3 x4) = ref01_fields_j7 m (ref01_formed m) rec1 rec6 x0 x1 x2 x3 x4 := by
  have h : ∀ J, e35 J m [1, 0, 1, 0, 0, 1, 0, 0, 1, 1, 1, 0, 0, 1] [M1, M6] (s35_7 x0 x1 x2 x3 x4) =
    ((idx (Dt.L x3 4) x2).bind fun v2 =>
   (bif ((ByteArray.toList (Dt.S v2 0)) == (ByteArray.toList (Dt.S x4 0))) then
   some false
   else
   (J 0 9 0 (s35_8 x0 x1 x2 x3 x4) (e35 J m [1, 0, 1, 0, 0, 1, 0, 0, 1, 1, 1, 0, 0, 1, 1] [M1, M6] (s35_8 x0 x1 x2 x3 x4))))) := fun J => by kernel_rfl
  exact (h jn).trans (by
    simp only [jn_eq, ref01_fields_j8_eq m M1 rec1 h1 M6 rec6 h6]
    rfl)
theorem ref01_fields_j9_eq (m : Nat) (M1 : Nat) (rec1 : Bool → Int → Dt → Option Bool) (h1 : ∀ (x0 : Bool) (x1 : Int) (x2 : Dt), l35 jn m [1, 0, 1, 0] [] M1 (s35_1 x0 x1 x2) = rec1 x0 x1 x2) (x0 : Bool) (x1 : Int) (x2 : Dt) : e35 jn m [1, 0, 1, 0, 0, 1, 1] [M1] (s35_9 x0 x1 x2) = ref01_fields_j9 m (ref01_formed m) rec1 x0 x1 x2 := by
  have h : ∀ J, e35 J m [1, 0, 1, 0, 0, 1, 1] [M1] (s35_9 x0 x1 x2) =
    (J 1 2 M1 (s35_1 x0 (IntKind.wrap .i64 (x1 + 1)) x2) (l35 J m [1, 0, 1, 0] [] M1 (s35_1 x0 (IntKind.wrap .i64 (x1 + 1)) x2))) := fun J => by kernel_rfl
  exact (h jn).trans (by
    simp only [jn_eq, h1]
    rfl)
theorem ref01_fields_l6_eq (m : Nat) (M1 : Nat) (rec1 : Bool → Int → Dt → Option Bool) (h1 : ∀ (x0 : Bool) (x1 : Int) (x2 : Dt), l35 jn m [1, 0, 1, 0] [] M1 (s35_1 x0 x1 x2) = rec1 x0 x1 x2) : ∀ (M6 : Nat) (x0 : Bool) (x1 x2 : Int) (x3 x4 : Dt), l35 jn m [1, 0, 1, 0, 0, 1, 0, 0, 1, 1, 1, 0] [M1] M6 (s35_6 x0 x1 x2 x3 x4) = ref01_fields_l6 m (ref01_formed m) rec1 M6 x0 x1 x2 x3 x4
  | 0, _, _, _, _, _ => rfl
  | M6 + 1, x0, x1, x2, x3, x4 => by
    have h : ∀ J, l35 J m [1, 0, 1, 0, 0, 1, 0, 0, 1, 1, 1, 0] [M1] (M6 + 1) (s35_6 x0 x1 x2 x3 x4) =
    (bif (decide (x2 < x1)) then
   (J 0 10 0 (s35_7 x0 x1 x2 x3 x4) (e35 J m [1, 0, 1, 0, 0, 1, 0, 0, 1, 1, 1, 0, 0, 1] [M1, M6] (s35_7 x0 x1 x2 x3 x4)))
    else
   (J 0 3 0 (s35_9 x0 x1 x3) (e35 J m [1, 0, 1, 0, 0, 1, 1] [M1] (s35_9 x0 x1 x3)))) := fun J => by kernel_rfl
    refine (h jn).trans ?_
    simp only [jn_eq, ref01_fields_j7_eq m M1 rec1 h1 M6 (ref01_fields_l6 m (ref01_formed m) rec1 M6) (fun x0 x1 x2 x3 x4 => ref01_fields_l6_eq m M1 rec1 h1 M6 x0 x1 x2 x3 x4), ref01_fields_j9_eq m M1 rec1 h1]
    rfl
theorem ref01_fields_j5_eq (m : Nat) (M1 : Nat) (rec1 : Bool → Int → Dt → Option Bool) (h1 : ∀ (x0 : Bool) (x1 : Int) (x2 : Dt), l35 jn m [1, 0, 1, 0] [] M1 (s35_1 x0 x1 x2) = rec1 x0 x1 x2) (x0 : Bool) (x1 x2 : Int) (x3 x4 : Dt) : e35 jn m [1, 0, 1, 0, 0, 1, 0, 0, 1, 1, 1] [M1] (s35_5 x0 x1 x2 x3 x4) = ref01_fields_j5 m (ref01_formed m) rec1 x0 x1 x2 x3 x4 := by
  have h : ∀ J, e35 J m [1, 0, 1, 0, 0, 1, 0, 0, 1, 1, 1] [M1] (s35_5 x0 x1 x2 x3 x4) =
    (J 1 8 (Nat.succ m) (s35_6 x0 x1 x2 x3 x4) (l35 J m [1, 0, 1, 0, 0, 1, 0, 0, 1, 1, 1, 0] [M1] (Nat.succ m) (s35_6 x0 x1 x2 x3 x4))) := fun J => by kernel_rfl
  exact (h jn).trans (by
    simp only [jn_eq, ref01_fields_l6_eq m M1 rec1 h1]
    rfl)
theorem ref01_fields_j4_eq (m : Nat) (M1 : Nat) (rec1 : Bool → Int → Dt → Option Bool) (h1 : ∀ (x0 : Bool) (x1 : Int) (x2 : Dt), l35 jn m [1, 0, 1, 0] [] M1 (s35_1 x0 x1 x2) = rec1 x0 x1 x2) (x0 : Bool) (x1 : Int) (x2 x3 : Dt) : e35 jn m [1, 0, 1, 0, 0, 1, 0, 0, 1, 1] [M1] (s35_4 x0 x1 x2 x3) = ref01_fields_j4 m (ref01_formed m) rec1 x0 x1 x2 x3 := by
  have h : ∀ J, e35 J m [1, 0, 1, 0, 0, 1, 0, 0, 1, 1] [M1] (s35_4 x0 x1 x2 x3) =
    (J 0 8 0 (s35_5 x0 x1 0 x2 x3) (e35 J m [1, 0, 1, 0, 0, 1, 0, 0, 1, 1, 1] [M1] (s35_5 x0 x1 0 x2 x3))) := fun J => by kernel_rfl
  exact (h jn).trans (by
    simp only [jn_eq, ref01_fields_j5_eq m M1 rec1 h1]
    rfl)
theorem ref01_fields_j3_eq (m : Nat) (M1 : Nat) (rec1 : Bool → Int → Dt → Option Bool) (h1 : ∀ (x0 : Bool) (x1 : Int) (x2 : Dt), l35 jn m [1, 0, 1, 0] [] M1 (s35_1 x0 x1 x2) = rec1 x0 x1 x2) (x0 : Bool) (x1 : Int) (x2 : Bool) (x3 x4 : Dt) : e35 jn m [1, 0, 1, 0, 0, 1, 0, 0, 1, 0, 1] [M1] (s35_3 x0 x1 x2 x3 x4) = ref01_fields_j3 m (ref01_formed m) rec1 x0 x1 x2 x3 x4 := by
  have h : ∀ J, e35 J m [1, 0, 1, 0, 0, 1, 0, 0, 1, 0, 1] [M1] (s35_3 x0 x1 x2 x3 x4) =
    (bif x2 then
   some false
    else
   (J 0 7 0 (s35_4 x0 x1 x3 x4) (e35 J m [1, 0, 1, 0, 0, 1, 0, 0, 1, 1] [M1] (s35_4 x0 x1 x3 x4)))) := fun J => by kernel_rfl
  exact (h jn).trans (by
    simp only [jn_eq, ref01_fields_j4_eq m M1 rec1 h1]
    rfl)
theorem ref01_fields_j2_eq (m : Nat) (M1 : Nat) (rec1 : Bool → Int → Dt → Option Bool) (h1 : ∀ (x0 : Bool) (x1 : Int) (x2 : Dt), l35 jn m [1, 0, 1, 0] [] M1 (s35_1 x0 x1 x2) = rec1 x0 x1 x2) (x0 : Bool) (x1 : Int) (x2 : Dt) : e35 jn m [1, 0, 1, 0, 0, 1] [M1] (s35_2 x0 x1 x2) = ref01_fields_j2 m (ref01_formed m) rec1 x0 x1 x2 := by
  have h : ∀ J, e35 J m [1, 0, 1, 0, 0, 1] [M1] (s35_2 x0 x1 x2) =
    ((idx (Dt.L x2 4) x1).bind fun v0 =>
   (bif x0 then
   ((ref01_Name m (Dt.S v0 0)).bind fun r1 =>
   (bif (Bool.not r1) then
   (J 0 6 0 (s35_3 x0 x1 true x2 v0) (e35 J m [1, 0, 1, 0, 0, 1, 0, 0, 1, 0, 1] [M1] (s35_3 x0 x1 true x2 v0)))
   else
   (bif (Bool.not x0) then
   ((ref01_wide m (Dt.S v0 0)).bind fun r3 =>
   (bif (Bool.not r3) then
   (J 0 6 0 (s35_3 x0 x1 true x2 v0) (e35 J m [1, 0, 1, 0, 0, 1, 0, 0, 1, 0, 1] [M1] (s35_3 x0 x1 true x2 v0)))
   else
   ((ref01_formed m (Dt.fld v0 1) x0).bind fun r4 =>
   (J 0 6 0 (s35_3 x0 x1 (Bool.not r4) x2 v0) (e35 J m [1, 0, 1, 0, 0, 1, 0, 0, 1, 0, 1] [M1] (s35_3 x0 x1 (Bool.not r4) x2 v0))))))
   else
   ((ref01_formed m (Dt.fld v0 1) x0).bind fun r5 =>
   (J 0 6 0 (s35_3 x0 x1 (Bool.not r5) x2 v0) (e35 J m [1, 0, 1, 0, 0, 1, 0, 0, 1, 0, 1] [M1] (s35_3 x0 x1 (Bool.not r5) x2 v0)))))))
   else
   (bif (Bool.not x0) then
   ((ref01_wide m (Dt.S v0 0)).bind fun r6 =>
   (bif (Bool.not r6) then
   (J 0 6 0 (s35_3 x0 x1 true x2 v0) (e35 J m [1, 0, 1, 0, 0, 1, 0, 0, 1, 0, 1] [M1] (s35_3 x0 x1 true x2 v0)))
   else
   ((ref01_formed m (Dt.fld v0 1) x0).bind fun r7 =>
   (J 0 6 0 (s35_3 x0 x1 (Bool.not r7) x2 v0) (e35 J m [1, 0, 1, 0, 0, 1, 0, 0, 1, 0, 1] [M1] (s35_3 x0 x1 (Bool.not r7) x2 v0))))))
   else
   ((ref01_formed m (Dt.fld v0 1) x0).bind fun r8 =>
   (J 0 6 0 (s35_3 x0 x1 (Bool.not r8) x2 v0) (e35 J m [1, 0, 1, 0, 0, 1, 0, 0, 1, 0, 1] [M1] (s35_3 x0 x1 (Bool.not r8) x2 v0))))))) := fun J => by kernel_rfl
  exact (h jn).trans (by
    simp only [jn_eq, ref01_fields_j3_eq m M1 rec1 h1]
    rfl)
theorem ref01_fields_j10_eq (m : Nat) : e35 jn m [1, 1] [] s35_10 = ref01_fields_j10 m (ref01_formed m) := by
  have h : ∀ J, e35 J m [1, 1] [] s35_10 =
    some true := fun J => by kernel_rfl
  exact (h jn).trans (rfl)
theorem ref01_fields_l1_eq (m : Nat) : ∀ (M1 : Nat) (x0 : Bool) (x1 : Int) (x2 : Dt), l35 jn m [1, 0, 1, 0] [] M1 (s35_1 x0 x1 x2) = ref01_fields_l1 m (ref01_formed m) M1 x0 x1 x2
  | 0, _, _, _ => rfl
  | M1 + 1, x0, x1, x2 => by
    have h : ∀ J, l35 J m [1, 0, 1, 0] [] (M1 + 1) (s35_1 x0 x1 x2) =
    (bif (decide (x1 < (List.length (Dt.L x2 4) : Int))) then
   (J 0 4 0 (s35_2 x0 x1 x2) (e35 J m [1, 0, 1, 0, 0, 1] [M1] (s35_2 x0 x1 x2)))
    else
   (J 0 12 0 s35_10 (e35 J m [1, 1] [] s35_10))) := fun J => by kernel_rfl
    refine (h jn).trans ?_
    simp only [jn_eq, ref01_fields_j2_eq m M1 (ref01_fields_l1 m (ref01_formed m) M1) (fun x0 x1 x2 => ref01_fields_l1_eq m M1 x0 x1 x2), ref01_fields_j10_eq m]
    rfl
theorem ref01_fields_j0_eq (m : Nat) (x0 : Bool) (x1 : Int) (x2 : Dt) : e35 jn m [1, 0, 1] [] (s35_0 x0 x1 x2) = ref01_fields_j0 m (ref01_formed m) x0 x1 x2 := by
  have h : ∀ J, e35 J m [1, 0, 1] [] (s35_0 x0 x1 x2) =
    (J 1 2 (Nat.succ m) (s35_1 x0 x1 x2) (l35 J m [1, 0, 1, 0] [] (Nat.succ m) (s35_1 x0 x1 x2))) := fun J => by kernel_rfl
  exact (h jn).trans (by
    simp only [jn_eq, ref01_fields_l1_eq m]
    rfl)
theorem ref01_fields_eq (m : Nat) (a0 : Dt) (a1 : Bool) : e35 jn m [] [] ⟨[(.dat 25 a0), (.dat 4 (.bool a1))], [], 0⟩ = ref01_fields (m + 1) a0 a1 := by
  have h : ∀ J, e35 J m [] [] ⟨[(.dat 25 a0), (.dat 4 (.bool a1))], [], 0⟩ =
    (J 0 2 0 (s35_0 a1 0 a0) (e35 J m [1, 0, 1] [] (s35_0 a1 0 a0))) := fun J => by kernel_rfl
  refine (h jn).trans ?_
  simp only [jn_eq, ref01_fields_j0_eq m]
  rfl
noncomputable def d17 (q : Res) : Option Bool := match q with
  | (.dat T0 x0, []) => bif Nat.beq T0 4 then some x0.toBool else none
  | _ => none
theorem d17_sim {b : Res} {r : Bool} (h : d17 b = some r) : Sim Tryd.prog b ((.dat 4 (.bool r)), []) := by
  unfold d17 at h
  split at h
  · obtain ⟨hc, h2⟩ := bif_some h
    cases h2
    have e0 := beq_eq hc
    subst e0
    exact Sim.of (.of (.dat (.bool Tryd.underlying4)) rfl rfl) .nil
  · cases h
noncomputable def e17 (J : Nat → Nat → Nat → St → Option Bool → Option Bool) (m : Nat) (p ms : List Nat) (σ : St) := evAt Tryd.prog env (ct m) J (m + 1) 12 15 Tryd.f12 d17 p ms σ
noncomputable def l17 (J : Nat → Nat → Nat → St → Option Bool → Option Bool) (m : Nat) (p ms : List Nat) (M : Nat) (σ : St) := loopAt Tryd.prog env (ct m) J (m + 1) 12 15 Tryd.f12 d17 p ms M σ
theorem ref01_Valid_eq (m : Nat) (a0 : Dt) : e17 jn m [] [] ⟨[(.dat 25 a0)], [], 0⟩ = ref01_Valid (m + 1) a0 := by
  have h : ∀ J, e17 J m [] [] ⟨[(.dat 25 a0)], [], 0⟩ =
    ((ref01_Depth m a0).bind fun r0 =>
   (bif (decide (r0 ≤ 16)) then
   ((ref01_Nodes m a0).bind fun r1 =>
   (bif (decide (r1 ≤ 1024)) then
   ((ref01_formed m a0 true).bind fun r2 =>
   some r2)
   else
   some false))
   else
   some false)) := fun J => by kernel_rfl
  refine (h jn).trans ?_
  
  rfl
noncomputable def d16 (q : Res) : Option Bool := match q with
  | (.dat T0 x0, []) => bif Nat.beq T0 4 then some x0.toBool else none
  | _ => none
theorem d16_sim {b : Res} {r : Bool} (h : d16 b = some r) : Sim Tryd.prog b ((.dat 4 (.bool r)), []) := by
  unfold d16 at h
  split at h
  · obtain ⟨hc, h2⟩ := bif_some h
    cases h2
    have e0 := beq_eq hc
    subst e0
    exact Sim.of (.of (.dat (.bool Tryd.underlying4)) rfl rfl) .nil
  · cases h
noncomputable def e16 (J : Nat → Nat → Nat → St → Option Bool → Option Bool) (m : Nat) (p ms : List Nat) (σ : St) := evAt Tryd.prog env (ct m) J (m + 1) 59 21 Tryd.f59 d16 p ms σ
noncomputable def l16 (J : Nat → Nat → Nat → St → Option Bool → Option Bool) (m : Nat) (p ms : List Nat) (M : Nat) (σ : St) := loopAt Tryd.prog env (ct m) J (m + 1) 59 21 Tryd.f59 d16 p ms M σ
theorem ref14_unused_eq (m : Nat) (a0 : Bool) (a1 : Dt) : e16 jn m [] [] ⟨[(.dat 4 (.bool a0)), (.dat 25 a1)], [], 0⟩ = ref14_unused (m + 1) a0 a1 := by
  have h : ∀ J, e16 J m [] [] ⟨[(.dat 4 (.bool a0)), (.dat 25 a1)], [], 0⟩ =
    (bif a0 then
   ((ref01_Valid m a1).bind fun r0 =>
   (bif (Bool.not r0) then
   some true
   else
   (bif (Bool.not a0) then
   ((ref01_Same m a1 kza2373).bind fun r1 =>
   some (Bool.not r1))
   else
   some false)))
    else
   (bif (Bool.not a0) then
   ((ref01_Same m a1 kza2373).bind fun r2 =>
   some (Bool.not r2))
   else
   some false)) := fun J => by kernel_rfl
  refine (h jn).trans ?_
  
  rfl
noncomputable def d11 (q : Res) : Option Int := match q with
  | (.dat T0 x0, []) => bif Nat.beq T0 33 then some x0.toInt else none
  | _ => none
theorem d11_sim {b : Res} {r : Int} (h : d11 b = some r) : Sim Tryd.prog b ((.dat 33 (.int r)), []) := by
  unfold d11 at h
  split at h
  · obtain ⟨hc, h2⟩ := bif_some h
    cases h2
    have e0 := beq_eq hc
    subst e0
    exact Sim.of (.of (.dat (.int Tryd.underlying33)) rfl rfl) .nil
  · cases h
noncomputable def e11 (J : Nat → Nat → Nat → St → Option Int → Option Int) (m : Nat) (p ms : List Nat) (σ : St) := evAt Tryd.prog env (ct m) J (m + 1) 32 87 Tryd.f32 d11 p ms σ
noncomputable def l11 (J : Nat → Nat → Nat → St → Option Int → Option Int) (m : Nat) (p ms : List Nat) (M : Nat) (σ : St) := loopAt Tryd.prog env (ct m) J (m + 1) 32 87 Tryd.f32 d11 p ms M σ
noncomputable def s11_3 (x0 : Int) (x1 : Dt) (x2 : List Dt) : St := ⟨tsOf [(1, (.ptr 0 [] 0)), (3, (.row 1)), (4, (.dat 3 (.int x0)))], [(.box 30 (.dat 30 x1)), (.row 26 x2)], 0⟩
noncomputable def s11_2 (x0 : Int) (x1 : Dt) (x2 : List Dt) : St := ⟨tsOf [(1, (.ptr 0 [] 0)), (3, (.row 1)), (4, (.dat 3 (.int x0)))], [(.box 30 (.dat 30 x1)), (.row 26 x2)], 0⟩
noncomputable def s11_14 (x0 : Int) (x1 : Dt) : St := ⟨tsOf [(1, (.ptr 0 [] 0)), (5, (.dat 3 (.int x0)))], [(.box 30 (.dat 30 x1))], 0⟩
noncomputable def s11_13 (x0 : Int) (x1 : Dt) : St := ⟨tsOf [(1, (.ptr 0 [] 0)), (5, (.dat 3 (.int x0)))], [(.box 30 (.dat 30 x1))], 0⟩
noncomputable def s11_15 : St := ⟨tsOf [], [], 0⟩
noncomputable def s11_12 (x0 : Int) (x1 : Dt) : St := ⟨tsOf [(1, (.ptr 0 [] 0)), (5, (.dat 3 (.int x0)))], [(.box 30 (.dat 30 x1))], 0⟩
noncomputable def s11_11 (x0 : Int) (x1 : Dt) : St := ⟨tsOf [(1, (.ptr 0 [] 0)), (5, (.dat 3 (.int x0)))], [(.box 30 (.dat 30 x1))], 0⟩
noncomputable def s11_10 (x0 : Dt) : St := ⟨tsOf [(1, (.ptr 0 [] 0))], [(.box 30 (.dat 30 x0))], 0⟩
noncomputable def s11_9 (x0 : Bool) (x1 : Dt) : St := ⟨tsOf [(1, (.ptr 0 [] 0)), (72, (.dat 4 (.bool x0)))], [(.box 30 (.dat 30 x1))], 0⟩
noncomputable def s11_8 (x0 : Dt) : St := ⟨tsOf [(1, (.ptr 0 [] 0))], [(.box 30 (.dat 30 x0))], 0⟩
noncomputable def s11_7 (x0 : Bool) (x1 : Dt) : St := ⟨tsOf [(1, (.ptr 0 [] 0)), (60, (.dat 4 (.bool x0)))], [(.box 30 (.dat 30 x1))], 0⟩
noncomputable def s11_6 (x0 : Dt) : St := ⟨tsOf [(1, (.ptr 0 [] 0))], [(.box 30 (.dat 30 x0))], 0⟩
noncomputable def s11_5 (x0 : Bool) (x1 : Dt) : St := ⟨tsOf [(1, (.ptr 0 [] 0)), (30, (.dat 4 (.bool x0)))], [(.box 30 (.dat 30 x1))], 0⟩
noncomputable def s11_4 (x0 : Dt) (x1 : List Dt) : St := ⟨tsOf [(1, (.ptr 0 [] 0)), (3, (.row 1))], [(.box 30 (.dat 30 x0)), (.row 26 x1)], 0⟩
noncomputable def s11_1 (x0 : Int) (x1 : Dt) (x2 : List Dt) : St := ⟨tsOf [(1, (.ptr 0 [] 0)), (3, (.row 1)), (4, (.dat 3 (.int x0)))], [(.box 30 (.dat 30 x1)), (.row 26 x2)], 0⟩
noncomputable def s11_0 (x0 : Int) (x1 : Dt) (x2 : List Dt) : St := ⟨tsOf [(1, (.ptr 0 [] 0)), (3, (.row 1)), (4, (.dat 3 (.int x0)))], [(.box 30 (.dat 30 x1)), (.row 26 x2)], 0⟩
theorem ref14_single_j3_eq (m : Nat) (M1 : Nat) (rec1 : Int → Dt → List Dt → Option Int) (h1 : ∀ (x0 : Int) (x1 : Dt) (x2 : List Dt), l11 jn m [1, 1, 0, 1, 0] [] M1 (s11_1 x0 x1 x2) = rec1 x0 x1 x2) (x0 : Int) (x1 : Dt) (x2 : List Dt) : e11 jn m [1, 1, 0, 1, 0, 0, 1, 1] [M1] (s11_3 x0 x1 x2) = ref14_single_j3 m rec1 x0 x1 x2 := by
  have h : ∀ J, e11 J m [1, 1, 0, 1, 0, 0, 1, 1] [M1] (s11_3 x0 x1 x2) =
    (J 1 3 M1 (s11_1 (IntKind.wrap .i64 (x0 + 1)) x1 x2) (l11 J m [1, 1, 0, 1, 0] [] M1 (s11_1 (IntKind.wrap .i64 (x0 + 1)) x1 x2))) := fun J => by kernel_rfl
  exact (h jn).trans (by
    simp only [jn_eq, h1]
    rfl)
theorem ref14_single_j2_eq (m : Nat) (M1 : Nat) (rec1 : Int → Dt → List Dt → Option Int) (h1 : ∀ (x0 : Int) (x1 : Dt) (x2 : List Dt), l11 jn m [1, 1, 0, 1, 0] [] M1 (s11_1 x0 x1 x2) = rec1 x0 x1 x2) (x0 : Int) (x1 : Dt) (x2 : List Dt) : e11 jn m [1, 1, 0, 1, 0, 0, 1] [M1] (s11_2 x0 x1 x2) = ref14_single_j2 m rec1 x0 x1 x2 := by
  have h : ∀ J, e11 J m [1, 1, 0, 1, 0, 0, 1] [M1] (s11_2 x0 x1 x2) =
    ((idx (Dt.L x1 9) x0).bind fun v0 =>
   ((app x2 [(Dt.str (Dt.S v0 0))]).bind fun v1 =>
   (J 0 4 0 (s11_3 x0 x1 v1) (e11 J m [1, 1, 0, 1, 0, 0, 1, 1] [M1] (s11_3 x0 x1 v1))))) := fun J => by kernel_rfl
  exact (h jn).trans (by
    simp only [jn_eq, ref14_single_j3_eq m M1 rec1 h1]
    rfl)
theorem ref14_single_j14_eq (m : Nat) (M12 : Nat) (rec12 : Int → Dt → Option Int) (h12 : ∀ (x0 : Int) (x1 : Dt), l11 jn m [1, 1, 1, 1, 1, 1, 0, 1, 0] [] M12 (s11_12 x0 x1) = rec12 x0 x1) (x0 : Int) (x1 : Dt) : e11 jn m [1, 1, 1, 1, 1, 1, 0, 1, 0, 0, 1, 1] [M12] (s11_14 x0 x1) = ref14_single_j14 m rec12 x0 x1 := by
  have h : ∀ J, e11 J m [1, 1, 1, 1, 1, 1, 0, 1, 0, 0, 1, 1] [M12] (s11_14 x0 x1) =
    (J 1 13 M12 (s11_12 (IntKind.wrap .i64 (x0 + 1)) x1) (l11 J m [1, 1, 1, 1, 1, 1, 0, 1, 0] [] M12 (s11_12 (IntKind.wrap .i64 (x0 + 1)) x1))) := fun J => by kernel_rfl
  exact (h jn).trans (by
    simp only [jn_eq, h12]
    rfl)
theorem ref14_single_j13_eq (m : Nat) (M12 : Nat) (rec12 : Int → Dt → Option Int) (h12 : ∀ (x0 : Int) (x1 : Dt), l11 jn m [1, 1, 1, 1, 1, 1, 0, 1, 0] [] M12 (s11_12 x0 x1) = rec12 x0 x1) (x0 : Int) (x1 : Dt) : e11 jn m [1, 1, 1, 1, 1, 1, 0, 1, 0, 0, 1] [M12] (s11_13 x0 x1) = ref14_single_j13 m rec12 x0 x1 := by
  have h : ∀ J, e11 J m [1, 1, 1, 1, 1, 1, 0, 1, 0, 0, 1] [M12] (s11_13 x0 x1) =
    ((idx (Dt.L x1 5) x0).bind fun v4 =>
   ((ref01_Valid m v4).bind fun r5 =>
   (bif (Bool.not r5) then
   some 8
   else
   (J 0 14 0 (s11_14 x0 x1) (e11 J m [1, 1, 1, 1, 1, 1, 0, 1, 0, 0, 1, 1] [M12] (s11_14 x0 x1)))))) := fun J => by kernel_rfl
  exact (h jn).trans (by
    simp only [jn_eq, ref14_single_j14_eq m M12 rec12 h12]
    rfl)
theorem ref14_single_j15_eq (m : Nat) : e11 jn m [1, 1, 1, 1, 1, 1, 1] [] s11_15 = ref14_single_j15 m := by
  have h : ∀ J, e11 J m [1, 1, 1, 1, 1, 1, 1] [] s11_15 =
    some 0 := fun J => by kernel_rfl
  exact (h jn).trans (rfl)
theorem ref14_single_l12_eq (m : Nat) : ∀ (M12 : Nat) (x0 : Int) (x1 : Dt), l11 jn m [1, 1, 1, 1, 1, 1, 0, 1, 0] [] M12 (s11_12 x0 x1) = ref14_single_l12 m M12 x0 x1
  | 0, _, _ => rfl
  | M12 + 1, x0, x1 => by
    have h : ∀ J, l11 J m [1, 1, 1, 1, 1, 1, 0, 1, 0] [] (M12 + 1) (s11_12 x0 x1) =
    (bif (decide (x0 < (List.length (Dt.L x1 5) : Int))) then
   (J 0 15 0 (s11_13 x0 x1) (e11 J m [1, 1, 1, 1, 1, 1, 0, 1, 0, 0, 1] [M12] (s11_13 x0 x1)))
    else
   (J 0 17 0 s11_15 (e11 J m [1, 1, 1, 1, 1, 1, 1] [] s11_15))) := fun J => by kernel_rfl
    refine (h jn).trans ?_
    simp only [jn_eq, ref14_single_j13_eq m M12 (ref14_single_l12 m M12) (fun x0 x1 => ref14_single_l12_eq m M12 x0 x1), ref14_single_j15_eq m]
    rfl
theorem ref14_single_j11_eq (m : Nat) (x0 : Int) (x1 : Dt) : e11 jn m [1, 1, 1, 1, 1, 1, 0, 1] [] (s11_11 x0 x1) = ref14_single_j11 m x0 x1 := by
  have h : ∀ J, e11 J m [1, 1, 1, 1, 1, 1, 0, 1] [] (s11_11 x0 x1) =
    (J 1 13 (Nat.succ m) (s11_12 x0 x1) (l11 J m [1, 1, 1, 1, 1, 1, 0, 1, 0] [] (Nat.succ m) (s11_12 x0 x1))) := fun J => by kernel_rfl
  exact (h jn).trans (by
    simp only [jn_eq, ref14_single_l12_eq m]
    rfl)
theorem ref14_single_j10_eq (m : Nat) (x0 : Dt) : e11 jn m [1, 1, 1, 1, 1, 1] [] (s11_10 x0) = ref14_single_j10 m x0 := by
  have h : ∀ J, e11 J m [1, 1, 1, 1, 1, 1] [] (s11_10 x0) =
    (J 0 13 0 (s11_11 0 x0) (e11 J m [1, 1, 1, 1, 1, 1, 0, 1] [] (s11_11 0 x0))) := fun J => by kernel_rfl
  exact (h jn).trans (by
    simp only [jn_eq, ref14_single_j11_eq m]
    rfl)
theorem ref14_single_j9_eq (m : Nat) (x0 : Bool) (x1 : Dt) : e11 jn m [1, 1, 1, 1, 1, 0, 1] [] (s11_9 x0 x1) = ref14_single_j9 m x0 x1 := by
  have h : ∀ J, e11 J m [1, 1, 1, 1, 1, 0, 1] [] (s11_9 x0 x1) =
    (bif x0 then
   some 8
    else
   (J 0 12 0 (s11_10 x1) (e11 J m [1, 1, 1, 1, 1, 1] [] (s11_10 x1)))) := fun J => by kernel_rfl
  exact (h jn).trans (by
    simp only [jn_eq, ref14_single_j10_eq m]
    rfl)
theorem ref14_single_j8_eq (m : Nat) (x0 : Dt) : e11 jn m [1, 1, 1, 1, 1] [] (s11_8 x0) = ref14_single_j8 m x0 := by
  have h : ∀ J, e11 J m [1, 1, 1, 1, 1] [] (s11_8 x0) =
    ((ref14_unused m (Dt.B x0 1) (Dt.fld x0 2)).bind fun r3 =>
   (bif r3 then
   (J 0 11 0 (s11_9 true x0) (e11 J m [1, 1, 1, 1, 1, 0, 1] [] (s11_9 true x0)))
   else
   ((ref14_unused m (Dt.B x0 3) (Dt.fld x0 4)).bind fun r6 =>
   (J 0 11 0 (s11_9 r6 x0) (e11 J m [1, 1, 1, 1, 1, 0, 1] [] (s11_9 r6 x0)))))) := fun J => by kernel_rfl
  exact (h jn).trans (by
    simp only [jn_eq, ref14_single_j9_eq m]
    rfl)
theorem ref14_single_j7_eq (m : Nat) (x0 : Bool) (x1 : Dt) : e11 jn m [1, 1, 1, 1, 0, 1] [] (s11_7 x0 x1) = ref14_single_j7 m x0 x1 := by
  have h : ∀ J, e11 J m [1, 1, 1, 1, 0, 1] [] (s11_7 x0 x1) =
    (bif x0 then
   some 1
    else
   (J 0 10 0 (s11_8 x1) (e11 J m [1, 1, 1, 1, 1] [] (s11_8 x1)))) := fun J => by kernel_rfl
  exact (h jn).trans (by
    simp only [jn_eq, ref14_single_j8_eq m]
    rfl)
theorem ref14_single_j6_eq (m : Nat) (x0 : Dt) : e11 jn m [1, 1, 1, 1] [] (s11_6 x0) = ref14_single_j6 m x0 := by
  have h : ∀ J, e11 J m [1, 1, 1, 1] [] (s11_6 x0) =
    (bif (decide ((Dt.I x0 0) < 0)) then
   (J 0 9 0 (s11_7 true x0) (e11 J m [1, 1, 1, 1, 0, 1] [] (s11_7 true x0)))
    else
   (bif ((Int.tmod (Dt.I x0 0) 2) == 1) then
   (J 0 9 0 (s11_7 true x0) (e11 J m [1, 1, 1, 1, 0, 1] [] (s11_7 true x0)))
   else
   (bif (decide (4096 ≤ (Dt.I x0 0))) then
   (J 0 9 0 (s11_7 true x0) (e11 J m [1, 1, 1, 1, 0, 1] [] (s11_7 true x0)))
   else
   (bif (decide ((Dt.I x0 6) < 0)) then
   (J 0 9 0 (s11_7 true x0) (e11 J m [1, 1, 1, 1, 0, 1] [] (s11_7 true x0)))
   else
   (bif (decide ((Dt.I x0 7) < (-1))) then
   (J 0 9 0 (s11_7 true x0) (e11 J m [1, 1, 1, 1, 0, 1] [] (s11_7 true x0)))
   else
   (J 0 9 0 (s11_7 (decide (1 < (List.length (Dt.L x0 11) : Int))) x0) (e11 J m [1, 1, 1, 1, 0, 1] [] (s11_7 (decide (1 < (List.length (Dt.L x0 11) : Int))) x0)))))))) := fun J => by kernel_rfl
  exact (h jn).trans (by
    simp only [jn_eq, ref14_single_j7_eq m]
    rfl)
theorem ref14_single_j5_eq (m : Nat) (x0 : Bool) (x1 : Dt) : e11 jn m [1, 1, 1, 0, 1] [] (s11_5 x0 x1) = ref14_single_j5 m x0 x1 := by
  have h : ∀ J, e11 J m [1, 1, 1, 0, 1] [] (s11_5 x0 x1) =
    (bif x0 then
   some 9
    else
   (J 0 8 0 (s11_6 x1) (e11 J m [1, 1, 1, 1] [] (s11_6 x1)))) := fun J => by kernel_rfl
  exact (h jn).trans (by
    simp only [jn_eq, ref14_single_j6_eq m]
    rfl)
theorem ref14_single_j4_eq (m : Nat) (x0 : Dt) (x1 : List Dt) : e11 jn m [1, 1, 1] [] (s11_4 x0 x1) = ref14_single_j4 m x0 x1 := by
  have h : ∀ J, e11 J m [1, 1, 1] [] (s11_4 x0 x1) =
    ((ref14_different m (Dt.L x0 8)).bind fun r2 =>
   (bif (Bool.not r2) then
   (J 0 7 0 (s11_5 true x0) (e11 J m [1, 1, 1, 0, 1] [] (s11_5 true x0)))
   else
   ((ref14_different m x1).bind fun r7 =>
   (J 0 7 0 (s11_5 (Bool.not r7) x0) (e11 J m [1, 1, 1, 0, 1] [] (s11_5 (Bool.not r7) x0)))))) := fun J => by kernel_rfl
  exact (h jn).trans (by
    simp only [jn_eq, ref14_single_j5_eq m]
    rfl)
theorem ref14_single_l1_eq (m : Nat) : ∀ (M1 : Nat) (x0 : Int) (x1 : Dt) (x2 : List Dt), l11 jn m [1, 1, 0, 1, 0] [] M1 (s11_1 x0 x1 x2) = ref14_single_l1 m M1 x0 x1 x2
  | 0, _, _, _ => rfl
  | M1 + 1, x0, x1, x2 => by
    have h : ∀ J, l11 J m [1, 1, 0, 1, 0] [] (M1 + 1) (s11_1 x0 x1 x2) =
    (bif (decide (x0 < (List.length (Dt.L x1 9) : Int))) then
   (J 0 5 0 (s11_2 x0 x1 x2) (e11 J m [1, 1, 0, 1, 0, 0, 1] [M1] (s11_2 x0 x1 x2)))
    else
   (J 0 6 0 (s11_4 x1 x2) (e11 J m [1, 1, 1] [] (s11_4 x1 x2)))) := fun J => by kernel_rfl
    refine (h jn).trans ?_
    simp only [jn_eq, ref14_single_j2_eq m M1 (ref14_single_l1 m M1) (fun x0 x1 x2 => ref14_single_l1_eq m M1 x0 x1 x2), ref14_single_j4_eq m]
    rfl
theorem ref14_single_j0_eq (m : Nat) (x0 : Int) (x1 : Dt) (x2 : List Dt) : e11 jn m [1, 1, 0, 1] [] (s11_0 x0 x1 x2) = ref14_single_j0 m x0 x1 x2 := by
  have h : ∀ J, e11 J m [1, 1, 0, 1] [] (s11_0 x0 x1 x2) =
    (J 1 3 (Nat.succ m) (s11_1 x0 x1 x2) (l11 J m [1, 1, 0, 1, 0] [] (Nat.succ m) (s11_1 x0 x1 x2))) := fun J => by kernel_rfl
  exact (h jn).trans (by
    simp only [jn_eq, ref14_single_l1_eq m]
    rfl)
theorem ref14_single_eq (m : Nat) (a0 : Dt) : e11 jn m [] [] ⟨[(.dat 30 a0)], [], 0⟩ = ref14_single (m + 1) a0 := by
  have h : ∀ J, e11 J m [] [] ⟨[(.dat 30 a0)], [], 0⟩ =
    (J 0 3 0 (s11_0 0 a0 []) (e11 J m [1, 1, 0, 1] [] (s11_0 0 a0 []))) := fun J => by kernel_rfl
  refine (h jn).trans ?_
  simp only [jn_eq, ref14_single_j0_eq m]
  rfl
noncomputable def d7 (q : Res) : Option (Int × Int) := match q with
  | (.tup [.dat T0 x0, .dat T1 x1], []) => bif (Nat.beq T0 3 && Nat.beq T1 33) then some (x0.toInt, x1.toInt) else none
  | _ => none
theorem d7_sim {b : Res} {r : Int × Int} (h : d7 b = some r) : Sim Tryd.prog b ((.tup [(.dat 3 (.int r.1)), (.dat 33 (.int r.2))]), []) := by
  unfold d7 at h
  split at h
  · obtain ⟨hc, h2⟩ := bif_some h
    cases h2
    have e0 := beq_eq (and_l hc)
    have e1 := beq_eq (and_r hc)
    subst e0 e1
    exact Sim.of (.tup (.cons (.dat (.int Tryd.underlying3)) (.cons (.dat (.int Tryd.underlying33)) .nil))) .nil
  · cases h
noncomputable def e7 (J : Nat → Nat → Nat → St → Option (Int × Int) → Option (Int × Int)) (m : Nat) (p ms : List Nat) (σ : St) := evAt Tryd.prog env (ct m) J (m + 1) 21 72 Tryd.f21 d7 p ms σ
noncomputable def l7 (J : Nat → Nat → Nat → St → Option (Int × Int) → Option (Int × Int)) (m : Nat) (p ms : List Nat) (M : Nat) (σ : St) := loopAt Tryd.prog env (ct m) J (m + 1) 21 72 Tryd.f21 d7 p ms M σ
noncomputable def s7_8 (x0 x1 x2 : Int) (x3 : Dt) : St := ⟨tsOf [(1, (.dat 3 (.int x0))), (2, (.dat 3 (.int x1))), (3, (.ptr 0 [] 0)), (9, (.dat 3 (.int x2)))], [(.box 30 (.dat 30 x3))], 0⟩
noncomputable def s7_7 (x0 x1 x2 : Int) (x3 : Dt) : St := ⟨tsOf [(2, (.dat 3 (.int x0))), (3, (.ptr 0 [] 0)), (9, (.dat 3 (.int x1))), (11, (.dat 3 (.int x2)))], [(.box 30 (.dat 30 x3))], 0⟩
noncomputable def s7_6 (x0 x1 x2 : Int) (x3 x4 : Dt) : St := ⟨tsOf [(1, (.dat 3 (.int x0))), (2, (.dat 3 (.int x1))), (3, (.ptr 0 [] 0)), (9, (.dat 3 (.int x2))), (10, (.ptr 1 [] 0))], [(.box 30 (.dat 30 x3)), (.box 30 (.dat 30 x4))], 0⟩
noncomputable def s7_5 (x0 x1 x2 : Int) (x3 : Dt) : St := ⟨tsOf [(1, (.dat 3 (.int x0))), (2, (.dat 3 (.int x1))), (3, (.ptr 0 [] 0)), (9, (.dat 3 (.int x2)))], [(.box 30 (.dat 30 x3))], 0⟩
noncomputable def s7_9 (x0 : Int) : St := ⟨tsOf [(1, (.dat 3 (.int x0)))], [], 0⟩
noncomputable def s7_4 (x0 x1 x2 : Int) (x3 : Dt) : St := ⟨tsOf [(1, (.dat 3 (.int x0))), (2, (.dat 3 (.int x1))), (3, (.ptr 0 [] 0)), (9, (.dat 3 (.int x2)))], [(.box 30 (.dat 30 x3))], 0⟩
noncomputable def s7_3 (x0 x1 x2 : Int) (x3 : Dt) : St := ⟨tsOf [(1, (.dat 3 (.int x0))), (2, (.dat 3 (.int x1))), (3, (.ptr 0 [] 0)), (9, (.dat 3 (.int x2)))], [(.box 30 (.dat 30 x3))], 0⟩
noncomputable def s7_2 (x0 x1 : Int) (x2 : Dt) : St := ⟨tsOf [(1, (.dat 3 (.int x0))), (2, (.dat 3 (.int x1))), (3, (.ptr 0 [] 0))], [(.box 30 (.dat 30 x2))], 0⟩
noncomputable def s7_1 (x0 x1 : Int) (x2 : Dt) : St := ⟨tsOf [(1, (.dat 3 (.int x0))), (2, (.dat 3 (.int x1))), (3, (.ptr 0 [] 0))], [(.box 30 (.dat 30 x2))], 0⟩
noncomputable def s7_0 (x0 x1 : Int) (x2 : Bool) (x3 : Dt) : St := ⟨tsOf [(1, (.dat 3 (.int x0))), (2, (.dat 3 (.int x1))), (3, (.ptr 0 [] 0)), (18, (.dat 4 (.bool x2)))], [(.box 30 (.dat 30 x3))], 0⟩
theorem ref14_check_j8_eq (m : Nat) (M4 : Nat) (rec4 : Int → Int → Int → Dt → Option (Int × Int)) (h4 : ∀ (x0 x1 x2 : Int) (x3 : Dt), l7 jn m [1, 1, 1, 0, 1, 0] [] M4 (s7_4 x0 x1 x2 x3) = rec4 x0 x1 x2 x3) (x0 x1 x2 : Int) (x3 : Dt) : e7 jn m [1, 1, 1, 0, 1, 0, 0, 1, 1] [M4] (s7_8 x0 x1 x2 x3) = ref14_check_j8 m (ref14_check m) rec4 x0 x1 x2 x3 := by
  have h : ∀ J, e7 J m [1, 1, 1, 0, 1, 0, 0, 1, 1] [M4] (s7_8 x0 x1 x2 x3) =
    (J 1 7 M4 (s7_4 x0 x1 (IntKind.wrap .i64 (x2 + 1)) x3) (l7 J m [1, 1, 1, 0, 1, 0] [] M4 (s7_4 x0 x1 (IntKind.wrap .i64 (x2 + 1)) x3))) := fun J => by kernel_rfl
  exact (h jn).trans (by
    simp only [jn_eq, h4]
    rfl)
theorem ref14_check_j7_eq (m : Nat) (M4 : Nat) (rec4 : Int → Int → Int → Dt → Option (Int × Int)) (h4 : ∀ (x0 x1 x2 : Int) (x3 : Dt), l7 jn m [1, 1, 1, 0, 1, 0] [] M4 (s7_4 x0 x1 x2 x3) = rec4 x0 x1 x2 x3) (x0 x1 x2 : Int) (x3 : Dt) : e7 jn m [1, 1, 1, 0, 1, 0, 0, 1, 0, 0, 1, 1, 1, 1] [M4] (s7_7 x0 x1 x2 x3) = ref14_check_j7 m (ref14_check m) rec4 x0 x1 x2 x3 := by
  have h : ∀ J, e7 J m [1, 1, 1, 0, 1, 0, 0, 1, 0, 0, 1, 1, 1, 1] [M4] (s7_7 x0 x1 x2 x3) =
    (J 0 8 0 (s7_8 x2 x0 x1 x3) (e7 J m [1, 1, 1, 0, 1, 0, 0, 1, 1] [M4] (s7_8 x2 x0 x1 x3))) := fun J => by kernel_rfl
  exact (h jn).trans (by
    simp only [jn_eq, ref14_check_j8_eq m M4 rec4 h4]
    rfl)
theorem ref14_check_j6_eq (m : Nat) (M4 : Nat) (rec4 : Int → Int → Int → Dt → Option (Int × Int)) (h4 : ∀ (x0 x1 x2 : Int) (x3 : Dt), l7 jn m [1, 1, 1, 0, 1, 0] [] M4 (s7_4 x0 x1 x2 x3) = rec4 x0 x1 x2 x3) (x0 x1 x2 : Int) (x3 x4 : Dt) : e7 jn m [1, 1, 1, 0, 1, 0, 0, 1, 0, 0, 1, 1] [M4] (s7_6 x0 x1 x2 x3 x4) = ref14_check_j6 m (ref14_check m) rec4 x0 x1 x2 x3 x4 := by
  have h : ∀ J, e7 J m [1, 1, 1, 0, 1, 0, 0, 1, 0, 0, 1, 1] [M4] (s7_6 x0 x1 x2 x3 x4) =
    ((ref14_check m x4 (IntKind.wrap .i64 (x0 + 1)) (IntKind.wrap .i64 (x1 + 1))).bind fun r2 =>
   (bif (r2.2 != 0) then
   some (r2.1, r2.2)
   else
   (J 0 16 0 (s7_7 x1 x2 r2.1 x3) (e7 J m [1, 1, 1, 0, 1, 0, 0, 1, 0, 0, 1, 1, 1, 1] [M4] (s7_7 x1 x2 r2.1 x3))))) := fun J => by kernel_rfl
  exact (h jn).trans (by
    simp only [jn_eq, ref14_check_j7_eq m M4 rec4 h4]
    rfl)
theorem ref14_check_j5_eq (m : Nat) (M4 : Nat) (rec4 : Int → Int → Int → Dt → Option (Int × Int)) (h4 : ∀ (x0 x1 x2 : Int) (x3 : Dt), l7 jn m [1, 1, 1, 0, 1, 0] [] M4 (s7_4 x0 x1 x2 x3) = rec4 x0 x1 x2 x3) (x0 x1 x2 : Int) (x3 : Dt) : e7 jn m [1, 1, 1, 0, 1, 0, 0, 1] [M4] (s7_5 x0 x1 x2 x3) = ref14_check_j5 m (ref14_check m) rec4 x0 x1 x2 x3 := by
  have h : ∀ J, e7 J m [1, 1, 1, 0, 1, 0, 0, 1] [M4] (s7_5 x0 x1 x2 x3) =
    (bif (decide (x2 < (List.length (Dt.L x3 9) : Int))) then
   ((idx (Dt.L x3 9) x2).bind fun v1 =>
   (J 0 13 0 (s7_6 x0 x1 x2 x3 (Dt.fld v1 1)) (e7 J m [1, 1, 1, 0, 1, 0, 0, 1, 0, 0, 1, 1] [M4] (s7_6 x0 x1 x2 x3 (Dt.fld v1 1)))))
    else
   ((idx (Dt.L x3 11) (IntKind.wrap .i64 (x2 - (List.length (Dt.L x3 9) : Int)))).bind fun v3 =>
   (J 0 13 0 (s7_6 x0 x1 x2 x3 v3) (e7 J m [1, 1, 1, 0, 1, 0, 0, 1, 0, 0, 1, 1] [M4] (s7_6 x0 x1 x2 x3 v3))))) := fun J => by kernel_rfl
  exact (h jn).trans (by
    simp only [jn_eq, ref14_check_j6_eq m M4 rec4 h4]
    rfl)
theorem ref14_check_j9_eq (m : Nat) (x0 : Int) : e7 jn m [1, 1, 1, 1] [] (s7_9 x0) = ref14_check_j9 m (ref14_check m) x0 := by
  have h : ∀ J, e7 J m [1, 1, 1, 1] [] (s7_9 x0) =
    some (x0, 0) := fun J => by kernel_rfl
  exact (h jn).trans (rfl)
theorem ref14_check_l4_eq (m : Nat) : ∀ (M4 : Nat) (x0 x1 x2 : Int) (x3 : Dt), l7 jn m [1, 1, 1, 0, 1, 0] [] M4 (s7_4 x0 x1 x2 x3) = ref14_check_l4 m (ref14_check m) M4 x0 x1 x2 x3
  | 0, _, _, _, _ => rfl
  | M4 + 1, x0, x1, x2, x3 => by
    have h : ∀ J, l7 J m [1, 1, 1, 0, 1, 0] [] (M4 + 1) (s7_4 x0 x1 x2 x3) =
    (bif (decide (x2 < (IntKind.wrap .i64 ((List.length (Dt.L x3 9) : Int) + (List.length (Dt.L x3 11) : Int))))) then
   (J 0 9 0 (s7_5 x0 x1 x2 x3) (e7 J m [1, 1, 1, 0, 1, 0, 0, 1] [M4] (s7_5 x0 x1 x2 x3)))
    else
   (J 0 17 0 (s7_9 x0) (e7 J m [1, 1, 1, 1] [] (s7_9 x0)))) := fun J => by kernel_rfl
    refine (h jn).trans ?_
    simp only [jn_eq, ref14_check_j5_eq m M4 (ref14_check_l4 m (ref14_check m) M4) (fun x0 x1 x2 x3 => ref14_check_l4_eq m M4 x0 x1 x2 x3), ref14_check_j9_eq m]
    rfl
theorem ref14_check_j3_eq (m : Nat) (x0 x1 x2 : Int) (x3 : Dt) : e7 jn m [1, 1, 1, 0, 1] [] (s7_3 x0 x1 x2 x3) = ref14_check_j3 m (ref14_check m) x0 x1 x2 x3 := by
  have h : ∀ J, e7 J m [1, 1, 1, 0, 1] [] (s7_3 x0 x1 x2 x3) =
    (J 1 7 (Nat.succ m) (s7_4 x0 x1 x2 x3) (l7 J m [1, 1, 1, 0, 1, 0] [] (Nat.succ m) (s7_4 x0 x1 x2 x3))) := fun J => by kernel_rfl
  exact (h jn).trans (by
    simp only [jn_eq, ref14_check_l4_eq m]
    rfl)
theorem ref14_check_j2_eq (m : Nat) (x0 x1 : Int) (x2 : Dt) : e7 jn m [1, 1, 1] [] (s7_2 x0 x1 x2) = ref14_check_j2 m (ref14_check m) x0 x1 x2 := by
  have h : ∀ J, e7 J m [1, 1, 1] [] (s7_2 x0 x1 x2) =
    (J 0 7 0 (s7_3 x0 x1 0 x2) (e7 J m [1, 1, 1, 0, 1] [] (s7_3 x0 x1 0 x2))) := fun J => by kernel_rfl
  exact (h jn).trans (by
    simp only [jn_eq, ref14_check_j3_eq m]
    rfl)
theorem ref14_check_j1_eq (m : Nat) (x0 x1 : Int) (x2 : Dt) : e7 jn m [1, 1] [] (s7_1 x0 x1 x2) = ref14_check_j1 m (ref14_check m) x0 x1 x2 := by
  have h : ∀ J, e7 J m [1, 1] [] (s7_1 x0 x1 x2) =
    ((ref14_single m x2).bind fun r0 =>
   (bif (r0 != 0) then
   some (x0, r0)
   else
   (J 0 6 0 (s7_2 x0 x1 x2) (e7 J m [1, 1, 1] [] (s7_2 x0 x1 x2))))) := fun J => by kernel_rfl
  exact (h jn).trans (by
    simp only [jn_eq, ref14_check_j2_eq m]
    rfl)
theorem ref14_check_j0_eq (m : Nat) (x0 x1 : Int) (x2 : Bool) (x3 : Dt) : e7 jn m [1, 0, 1] [] (s7_0 x0 x1 x2 x3) = ref14_check_j0 m (ref14_check m) x0 x1 x2 x3 := by
  have h : ∀ J, e7 J m [1, 0, 1] [] (s7_0 x0 x1 x2 x3) =
    (bif x2 then
   some (x0, 2)
    else
   (J 0 3 0 (s7_1 x0 x1 x3) (e7 J m [1, 1] [] (s7_1 x0 x1 x3)))) := fun J => by kernel_rfl
  exact (h jn).trans (by
    simp only [jn_eq, ref14_check_j1_eq m]
    rfl)
theorem ref14_check_eq (m : Nat) (a0 : Dt) (a1 a2 : Int) : e7 jn m [] [] ⟨[(.dat 30 a0), (.dat 3 (.int a1)), (.dat 3 (.int a2))], [], 0⟩ = ref14_check (m + 1) a0 a1 a2 := by
  have h : ∀ J, e7 J m [] [] ⟨[(.dat 30 a0), (.dat 3 (.int a1)), (.dat 3 (.int a2))], [], 0⟩ =
    (bif (decide (16 < a2)) then
   (J 0 2 0 (s7_0 a1 a2 true a0) (e7 J m [1, 0, 1] [] (s7_0 a1 a2 true a0)))
    else
   (J 0 2 0 (s7_0 a1 a2 (decide (64 < a1)) a0) (e7 J m [1, 0, 1] [] (s7_0 a1 a2 (decide (64 < a1)) a0)))) := fun J => by kernel_rfl
  refine (h jn).trans ?_
  simp only [jn_eq, ref14_check_j0_eq m]
  rfl
noncomputable def d4 (q : Res) : Option Int := match q with
  | (.dat T0 x0, []) => bif Nat.beq T0 33 then some x0.toInt else none
  | _ => none
theorem d4_sim {b : Res} {r : Int} (h : d4 b = some r) : Sim Tryd.prog b ((.dat 33 (.int r)), []) := by
  unfold d4 at h
  split at h
  · obtain ⟨hc, h2⟩ := bif_some h
    cases h2
    have e0 := beq_eq hc
    subst e0
    exact Sim.of (.of (.dat (.int Tryd.underlying33)) rfl rfl) .nil
  · cases h
noncomputable def e4 (J : Nat → Nat → Nat → St → Option Int → Option Int) (m : Nat) (p ms : List Nat) (σ : St) := evAt Tryd.prog env (ct m) J (m + 1) 10 11 Tryd.f10 d4 p ms σ
noncomputable def l4 (J : Nat → Nat → Nat → St → Option Int → Option Int) (m : Nat) (p ms : List Nat) (M : Nat) (σ : St) := loopAt Tryd.prog env (ct m) J (m + 1) 10 11 Tryd.f10 d4 p ms M σ
theorem ref14_Valid_eq (m : Nat) (a0 : Dt) : e4 jn m [] [] ⟨[(.dat 30 a0)], [], 0⟩ = ref14_Valid (m + 1) a0 := by
  have h : ∀ J, e4 J m [] [] ⟨[(.dat 30 a0)], [], 0⟩ =
    ((ref14_check m a0 1 1).bind fun r0 =>
   some r0.2) := fun J => by kernel_rfl
  refine (h jn).trans ?_
  
  rfl
noncomputable def d0 (q : Res) : Option Bool := match q with
  | (.dat T0 x0, []) => bif Nat.beq T0 4 then some x0.toBool else none
  | _ => none
theorem d0_sim {b : Res} {r : Bool} (h : d0 b = some r) : Sim Tryd.prog b ((.dat 4 (.bool r)), []) := by
  unfold d0 at h
  split at h
  · obtain ⟨hc, h2⟩ := bif_some h
    cases h2
    have e0 := beq_eq hc
    subst e0
    exact Sim.of (.of (.dat (.bool Tryd.underlying4)) rfl rfl) .nil
  · cases h
noncomputable def e0 (J : Nat → Nat → Nat → St → Option Bool → Option Bool) (m : Nat) (p ms : List Nat) (σ : St) := evAt Tryd.prog env (ct m) J (m + 1) 3 15 Tryd.f3 d0 p ms σ
noncomputable def l0 (J : Nat → Nat → Nat → St → Option Bool → Option Bool) (m : Nat) (p ms : List Nat) (M : Nat) (σ : St) := loopAt Tryd.prog env (ct m) J (m + 1) 3 15 Tryd.f3 d0 p ms M σ
noncomputable def s0_0 (x0 : Dt) : St := ⟨tsOf [(1, (.ptr 0 [] 0))], [(.box 30 (.dat 30 x0))], 0⟩
theorem law14_SchemaValid_j0_eq (m : Nat) (x0 : Dt) : e0 jn m [1, 1] [] (s0_0 x0) = law14_SchemaValid_j0 m x0 := by
  have h : ∀ J, e0 J m [1, 1] [] (s0_0 x0) =
    ((schema_Valid m x0).bind fun r2 =>
   ((ref14_Valid m x0).bind fun r3 =>
   (bif (r2 == r3) then
   ((awakeC).bind fun r4 =>
   some r4)
   else
   some false))) := fun J => by kernel_rfl
  exact (h jn).trans (rfl)
theorem law14_SchemaValid_eq (m : Nat) (a0 : Dt) : e0 jn m [] [] ⟨[(.dat 30 a0)], [], 0⟩ = law14_SchemaValid (m + 1) a0 := by
  have h : ∀ J, e0 J m [] [] ⟨[(.dat 30 a0)], [], 0⟩ =
    ((ref14_Count m a0 201).bind fun r0 =>
   (bif (decide (200 < r0)) then
   ((awakeC).bind fun r1 =>
   some r1)
   else
   (J 0 3 0 (s0_0 a0) (e0 J m [1, 1] [] (s0_0 a0))))) := fun J => by kernel_rfl
  refine (h jn).trans ?_
  simp only [jn_eq, law14_SchemaValid_j0_eq m]
  rfl
end Go.Proofs.YtfneddmmeadacaaDoor
