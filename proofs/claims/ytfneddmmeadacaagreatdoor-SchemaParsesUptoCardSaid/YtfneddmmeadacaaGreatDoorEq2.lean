/- Generated: each function's run in the abstract machine is its shallow function. -/
import Derived.Test.YtfneddmmeadacaaGreatDoorCt
import Derived.Test.YtfneddmmeadacaaGreatDoorAmEnv
import Derived.KernelRfl
set_option linter.unusedVariables false
set_option linter.unusedSimpArgs false
namespace Go.Proofs.YtfneddmmeadacaaGreatDoor
open Go.Am
set_option maxRecDepth 100000
noncomputable def d22 (q : Res) : Option Int := match q with
  | (.dat T0 x0, []) => bif Nat.beq T0 33 then some x0.toInt else none
  | _ => none
theorem d22_sim {b : Res} {r : Int} (h : d22 b = some r) : Sim Tryz.prog b ((.dat 33 (.int r)), []) := by
  unfold d22 at h
  split at h
  · obtain ⟨hc, h2⟩ := bif_some h
    cases h2
    have e0 := beq_eq hc
    subst e0
    exact Sim.of (.of (.dat (.int Tryz.underlying33)) rfl rfl) .nil
  · cases h
noncomputable def e22 (J : Nat → Nat → Nat → St → Option Int → Option Int) (m : Nat) (p ms : List Nat) (σ : St) := evAt Tryz.prog env (ct m) J (m + 1) 61 97 Tryz.f61 d22 p ms σ
noncomputable def l22 (J : Nat → Nat → Nat → St → Option Int → Option Int) (m : Nat) (p ms : List Nat) (M : Nat) (σ : St) := loopAt Tryz.prog env (ct m) J (m + 1) 61 97 Tryz.f61 d22 p ms M σ
noncomputable def s22_5 (x0 : List Dt) (x1 x2 : Int) (x3 : Dt) (x4 : List Dt) : St := ⟨tsOf [(1, (.ptr 0 [] 0)), (3, (.row 1)), (13, (.dat 28 (.lst x0))), (14, (.dat 3 (.int x1))), (15, (.dat 3 (.int x2)))], [(.box 32 (.dat 32 x3)), (.map 93 x4)], 0⟩
noncomputable def s22_4 (x0 : ByteArray) (x1 : List Dt) (x2 x3 : Int) (x4 : Dt) (x5 : List Dt) : St := ⟨tsOf [(1, (.ptr 0 [] 0)), (3, (.row 1)), (5, (.dat 9 (.str x0))), (13, (.dat 28 (.lst x1))), (14, (.dat 3 (.int x2))), (15, (.dat 3 (.int x3)))], [(.box 32 (.dat 32 x4)), (.map 93 x5)], 0⟩
noncomputable def s22_3 (x0 : ByteArray) (x1 : List Dt) (x2 x3 : Int) (x4 : Bool) (x5 : Dt) (x6 : List Dt) : St := ⟨tsOf [(1, (.ptr 0 [] 0)), (3, (.row 1)), (5, (.dat 9 (.str x0))), (13, (.dat 28 (.lst x1))), (14, (.dat 3 (.int x2))), (15, (.dat 3 (.int x3))), (26, (.dat 4 (.bool x4)))], [(.box 32 (.dat 32 x5)), (.map 93 x6)], 0⟩
noncomputable def s22_2 (x0 : List Dt) (x1 x2 : Int) (x3 : Dt) (x4 : List Dt) : St := ⟨tsOf [(1, (.ptr 0 [] 0)), (3, (.row 1)), (13, (.dat 28 (.lst x0))), (14, (.dat 3 (.int x1))), (15, (.dat 3 (.int x2)))], [(.box 32 (.dat 32 x3)), (.map 93 x4)], 0⟩
noncomputable def s22_12 (x0 : List Dt) (x1 x2 : Int) (x3 : Dt) (x4 : List Dt) : St := ⟨tsOf [(1, (.ptr 0 [] 0)), (6, (.row 1)), (32, (.dat 29 (.lst x0))), (33, (.dat 3 (.int x1))), (34, (.dat 3 (.int x2)))], [(.box 32 (.dat 32 x3)), (.map 93 x4)], 0⟩
noncomputable def s22_11 (x0 : List Dt) (x1 x2 : Int) (x3 : Dt) (x4 : List Dt) (x5 : Dt) : St := ⟨tsOf [(1, (.ptr 0 [] 0)), (6, (.row 1)), (8, (.ptr 2 [] 0)), (32, (.dat 29 (.lst x0))), (33, (.dat 3 (.int x1))), (34, (.dat 3 (.int x2)))], [(.box 32 (.dat 32 x3)), (.map 93 x4), (.box 64 (.dat 64 x5))], 0⟩
noncomputable def s22_10 (x0 : List Dt) (x1 x2 : Int) (x3 : Bool) (x4 : Dt) (x5 : List Dt) (x6 : Dt) : St := ⟨tsOf [(1, (.ptr 0 [] 0)), (6, (.row 1)), (8, (.ptr 2 [] 0)), (32, (.dat 29 (.lst x0))), (33, (.dat 3 (.int x1))), (34, (.dat 3 (.int x2))), (47, (.dat 4 (.bool x3)))], [(.box 32 (.dat 32 x4)), (.map 93 x5), (.box 64 (.dat 64 x6))], 0⟩
noncomputable def s22_9 (x0 : List Dt) (x1 x2 : Int) (x3 : Dt) (x4 : List Dt) : St := ⟨tsOf [(1, (.ptr 0 [] 0)), (6, (.row 1)), (32, (.dat 29 (.lst x0))), (33, (.dat 3 (.int x1))), (34, (.dat 3 (.int x2)))], [(.box 32 (.dat 32 x3)), (.map 93 x4)], 0⟩
noncomputable def s22_21 (x0 : List Dt) (x1 x2 : Int) : St := ⟨tsOf [(87, (.dat 22 (.lst x0))), (88, (.dat 3 (.int x1))), (89, (.dat 3 (.int x2)))], [], 0⟩
noncomputable def s22_20 (x0 : List Dt) (x1 x2 : Int) : St := ⟨tsOf [(87, (.dat 22 (.lst x0))), (88, (.dat 3 (.int x1))), (89, (.dat 3 (.int x2)))], [], 0⟩
noncomputable def s22_22 : St := ⟨tsOf [], [], 0⟩
noncomputable def s22_19 (x0 : List Dt) (x1 x2 : Int) : St := ⟨tsOf [(87, (.dat 22 (.lst x0))), (88, (.dat 3 (.int x1))), (89, (.dat 3 (.int x2)))], [], 0⟩
noncomputable def s22_18 (x0 : List Dt) (x1 x2 : Int) : St := ⟨tsOf [(87, (.dat 22 (.lst x0))), (88, (.dat 3 (.int x1))), (89, (.dat 3 (.int x2)))], [], 0⟩
noncomputable def s22_17 (x0 : Dt) : St := ⟨tsOf [(1, (.ptr 0 [] 0))], [(.box 32 (.dat 32 x0))], 0⟩
noncomputable def s22_16 (x0 : Bool) (x1 : Dt) : St := ⟨tsOf [(1, (.ptr 0 [] 0)), (85, (.dat 4 (.bool x0)))], [(.box 32 (.dat 32 x1))], 0⟩
noncomputable def s22_15 (x0 : Dt) : St := ⟨tsOf [(1, (.ptr 0 [] 0))], [(.box 32 (.dat 32 x0))], 0⟩
noncomputable def s22_14 (x0 : Bool) (x1 : Dt) : St := ⟨tsOf [(1, (.ptr 0 [] 0)), (71, (.dat 4 (.bool x0)))], [(.box 32 (.dat 32 x1))], 0⟩
noncomputable def s22_13 (x0 : Dt) : St := ⟨tsOf [(1, (.ptr 0 [] 0))], [(.box 32 (.dat 32 x0))], 0⟩
noncomputable def s22_8 (x0 : List Dt) (x1 x2 : Int) (x3 : Dt) (x4 : List Dt) : St := ⟨tsOf [(1, (.ptr 0 [] 0)), (6, (.row 1)), (32, (.dat 29 (.lst x0))), (33, (.dat 3 (.int x1))), (34, (.dat 3 (.int x2)))], [(.box 32 (.dat 32 x3)), (.map 93 x4)], 0⟩
noncomputable def s22_7 (x0 : List Dt) (x1 x2 : Int) (x3 : Dt) (x4 : List Dt) : St := ⟨tsOf [(1, (.ptr 0 [] 0)), (6, (.row 1)), (32, (.dat 29 (.lst x0))), (33, (.dat 3 (.int x1))), (34, (.dat 3 (.int x2)))], [(.box 32 (.dat 32 x3)), (.map 93 x4)], 0⟩
noncomputable def s22_6 (x0 : Dt) : St := ⟨tsOf [(1, (.ptr 0 [] 0))], [(.box 32 (.dat 32 x0))], 0⟩
noncomputable def s22_1 (x0 : List Dt) (x1 x2 : Int) (x3 : Dt) (x4 : List Dt) : St := ⟨tsOf [(1, (.ptr 0 [] 0)), (3, (.row 1)), (13, (.dat 28 (.lst x0))), (14, (.dat 3 (.int x1))), (15, (.dat 3 (.int x2)))], [(.box 32 (.dat 32 x3)), (.map 93 x4)], 0⟩
noncomputable def s22_0 (x0 : List Dt) (x1 x2 : Int) (x3 : Dt) (x4 : List Dt) : St := ⟨tsOf [(1, (.ptr 0 [] 0)), (3, (.row 1)), (13, (.dat 28 (.lst x0))), (14, (.dat 3 (.int x1))), (15, (.dat 3 (.int x2)))], [(.box 32 (.dat 32 x3)), (.map 93 x4)], 0⟩
theorem schema_checkOne_j5_eq (m : Nat) (M1 : Nat) (rec1 : List Dt → Int → Int → Dt → List Dt → Option Int) (h1 : ∀ (x0 : List Dt) (x1 x2 : Int) (x3 : Dt) (x4 : List Dt), l22 jn m [1, 1, 0, 1, 0] [] M1 (s22_1 x0 x1 x2 x3 x4) = rec1 x0 x1 x2 x3 x4) (x0 : List Dt) (x1 x2 : Int) (x3 : Dt) (x4 : List Dt) : e22 jn m [1, 1, 0, 1, 0, 0, 1, 1, 1] [M1] (s22_5 x0 x1 x2 x3 x4) = schema_checkOne_j5 m rec1 x0 x1 x2 x3 x4 := by
  have h : ∀ J, e22 J m [1, 1, 0, 1, 0, 0, 1, 1, 1] [M1] (s22_5 x0 x1 x2 x3 x4) =
    (J 1 3 M1 (s22_1 x0 x1 (IntKind.wrap .i64 (x2 + 1)) x3 x4) (l22 J m [1, 1, 0, 1, 0] [] M1 (s22_1 x0 x1 (IntKind.wrap .i64 (x2 + 1)) x3 x4))) := fun J => by kernel_rfl
  exact (h jn).trans (by
    simp only [jn_eq, h1]
    rfl)
theorem schema_checkOne_j4_eq (m : Nat) (M1 : Nat) (rec1 : List Dt → Int → Int → Dt → List Dt → Option Int) (h1 : ∀ (x0 : List Dt) (x1 x2 : Int) (x3 : Dt) (x4 : List Dt), l22 jn m [1, 1, 0, 1, 0] [] M1 (s22_1 x0 x1 x2 x3 x4) = rec1 x0 x1 x2 x3 x4) (x0 : ByteArray) (x1 : List Dt) (x2 x3 : Int) (x4 : Dt) (x5 : List Dt) : e22 jn m [1, 1, 0, 1, 0, 0, 1, 1, 0, 0, 1, 1] [M1] (s22_4 x0 x1 x2 x3 x4 x5) = schema_checkOne_j4 m rec1 x0 x1 x2 x3 x4 x5 := by
  have h : ∀ J, e22 J m [1, 1, 0, 1, 0, 0, 1, 1, 0, 0, 1, 1] [M1] (s22_4 x0 x1 x2 x3 x4 x5) =
    (J 0 8 0 (s22_5 x1 x2 x3 x4 (mput x5 x0 (Dt.bool true))) (e22 J m [1, 1, 0, 1, 0, 0, 1, 1, 1] [M1] (s22_5 x1 x2 x3 x4 (mput x5 x0 (Dt.bool true))))) := fun J => by kernel_rfl
  exact (h jn).trans (by
    simp only [jn_eq, schema_checkOne_j5_eq m M1 rec1 h1]
    rfl)
theorem schema_checkOne_j3_eq (m : Nat) (M1 : Nat) (rec1 : List Dt → Int → Int → Dt → List Dt → Option Int) (h1 : ∀ (x0 : List Dt) (x1 x2 : Int) (x3 : Dt) (x4 : List Dt), l22 jn m [1, 1, 0, 1, 0] [] M1 (s22_1 x0 x1 x2 x3 x4) = rec1 x0 x1 x2 x3 x4) (x0 : ByteArray) (x1 : List Dt) (x2 x3 : Int) (x4 : Bool) (x5 : Dt) (x6 : List Dt) : e22 jn m [1, 1, 0, 1, 0, 0, 1, 1, 0, 0, 1, 0, 1] [M1] (s22_3 x0 x1 x2 x3 x4 x5 x6) = schema_checkOne_j3 m rec1 x0 x1 x2 x3 x4 x5 x6 := by
  have h : ∀ J, e22 J m [1, 1, 0, 1, 0, 0, 1, 1, 0, 0, 1, 0, 1] [M1] (s22_3 x0 x1 x2 x3 x4 x5 x6) =
    (bif x4 then
   some 9
    else
   (J 0 7 0 (s22_4 x0 x1 x2 x3 x5 x6) (e22 J m [1, 1, 0, 1, 0, 0, 1, 1, 0, 0, 1, 1] [M1] (s22_4 x0 x1 x2 x3 x5 x6)))) := fun J => by kernel_rfl
  exact (h jn).trans (by
    simp only [jn_eq, schema_checkOne_j4_eq m M1 rec1 h1]
    rfl)
theorem schema_checkOne_j2_eq (m : Nat) (M1 : Nat) (rec1 : List Dt → Int → Int → Dt → List Dt → Option Int) (h1 : ∀ (x0 : List Dt) (x1 x2 : Int) (x3 : Dt) (x4 : List Dt), l22 jn m [1, 1, 0, 1, 0] [] M1 (s22_1 x0 x1 x2 x3 x4) = rec1 x0 x1 x2 x3 x4) (x0 : List Dt) (x1 x2 : Int) (x3 : Dt) (x4 : List Dt) : e22 jn m [1, 1, 0, 1, 0, 0, 1, 1] [M1] (s22_2 x0 x1 x2 x3 x4) = schema_checkOne_j2 m rec1 x0 x1 x2 x3 x4 := by
  have h : ∀ J, e22 J m [1, 1, 0, 1, 0, 0, 1, 1] [M1] (s22_2 x0 x1 x2 x3 x4) =
    ((idx x0 x2).bind fun v0 =>
   ((schema_isName m (Dt.toStr v0)).bind fun r1 =>
   (bif (Bool.not r1) then
   (J 0 6 0 (s22_3 (Dt.toStr v0) x0 x1 x2 true x3 x4) (e22 J m [1, 1, 0, 1, 0, 0, 1, 1, 0, 0, 1, 0, 1] [M1] (s22_3 (Dt.toStr v0) x0 x1 x2 true x3 x4)))
   else
   (J 0 6 0 (s22_3 (Dt.toStr v0) x0 x1 x2 (Dt.toBool (mgetD x4 (Dt.toStr v0) (Dt.bool false))) x3 x4) (e22 J m [1, 1, 0, 1, 0, 0, 1, 1, 0, 0, 1, 0, 1] [M1] (s22_3 (Dt.toStr v0) x0 x1 x2 (Dt.toBool (mgetD x4 (Dt.toStr v0) (Dt.bool false))) x3 x4)))))) := fun J => by kernel_rfl
  exact (h jn).trans (by
    simp only [jn_eq, schema_checkOne_j3_eq m M1 rec1 h1]
    rfl)
theorem schema_checkOne_j12_eq (m : Nat) (M8 : Nat) (rec8 : List Dt → Int → Int → Dt → List Dt → Option Int) (h8 : ∀ (x0 : List Dt) (x1 x2 : Int) (x3 : Dt) (x4 : List Dt), l22 jn m [1, 1, 1, 1, 0, 1, 0] [] M8 (s22_8 x0 x1 x2 x3 x4) = rec8 x0 x1 x2 x3 x4) (x0 : List Dt) (x1 x2 : Int) (x3 : Dt) (x4 : List Dt) : e22 jn m [1, 1, 1, 1, 0, 1, 0, 0, 1, 1, 1] [M8] (s22_12 x0 x1 x2 x3 x4) = schema_checkOne_j12 m rec8 x0 x1 x2 x3 x4 := by
  have h : ∀ J, e22 J m [1, 1, 1, 1, 0, 1, 0, 0, 1, 1, 1] [M8] (s22_12 x0 x1 x2 x3 x4) =
    (J 1 11 M8 (s22_8 x0 x1 (IntKind.wrap .i64 (x2 + 1)) x3 x4) (l22 J m [1, 1, 1, 1, 0, 1, 0] [] M8 (s22_8 x0 x1 (IntKind.wrap .i64 (x2 + 1)) x3 x4))) := fun J => by kernel_rfl
  exact (h jn).trans (by
    simp only [jn_eq, h8]
    rfl)
theorem schema_checkOne_j11_eq (m : Nat) (M8 : Nat) (rec8 : List Dt → Int → Int → Dt → List Dt → Option Int) (h8 : ∀ (x0 : List Dt) (x1 x2 : Int) (x3 : Dt) (x4 : List Dt), l22 jn m [1, 1, 1, 1, 0, 1, 0] [] M8 (s22_8 x0 x1 x2 x3 x4) = rec8 x0 x1 x2 x3 x4) (x0 : List Dt) (x1 x2 : Int) (x3 : Dt) (x4 : List Dt) (x5 : Dt) : e22 jn m [1, 1, 1, 1, 0, 1, 0, 0, 1, 1, 0, 0, 1, 1] [M8] (s22_11 x0 x1 x2 x3 x4 x5) = schema_checkOne_j11 m rec8 x0 x1 x2 x3 x4 x5 := by
  have h : ∀ J, e22 J m [1, 1, 1, 1, 0, 1, 0, 0, 1, 1, 0, 0, 1, 1] [M8] (s22_11 x0 x1 x2 x3 x4 x5) =
    (J 0 16 0 (s22_12 x0 x1 x2 x3 (mput x4 (Dt.S x5 0) (Dt.bool true))) (e22 J m [1, 1, 1, 1, 0, 1, 0, 0, 1, 1, 1] [M8] (s22_12 x0 x1 x2 x3 (mput x4 (Dt.S x5 0) (Dt.bool true))))) := fun J => by kernel_rfl
  exact (h jn).trans (by
    simp only [jn_eq, schema_checkOne_j12_eq m M8 rec8 h8]
    rfl)
theorem schema_checkOne_j10_eq (m : Nat) (M8 : Nat) (rec8 : List Dt → Int → Int → Dt → List Dt → Option Int) (h8 : ∀ (x0 : List Dt) (x1 x2 : Int) (x3 : Dt) (x4 : List Dt), l22 jn m [1, 1, 1, 1, 0, 1, 0] [] M8 (s22_8 x0 x1 x2 x3 x4) = rec8 x0 x1 x2 x3 x4) (x0 : List Dt) (x1 x2 : Int) (x3 : Bool) (x4 : Dt) (x5 : List Dt) (x6 : Dt) : e22 jn m [1, 1, 1, 1, 0, 1, 0, 0, 1, 1, 0, 0, 1, 0, 1] [M8] (s22_10 x0 x1 x2 x3 x4 x5 x6) = schema_checkOne_j10 m rec8 x0 x1 x2 x3 x4 x5 x6 := by
  have h : ∀ J, e22 J m [1, 1, 1, 1, 0, 1, 0, 0, 1, 1, 0, 0, 1, 0, 1] [M8] (s22_10 x0 x1 x2 x3 x4 x5 x6) =
    (bif x3 then
   some 9
    else
   (J 0 15 0 (s22_11 x0 x1 x2 x4 x5 x6) (e22 J m [1, 1, 1, 1, 0, 1, 0, 0, 1, 1, 0, 0, 1, 1] [M8] (s22_11 x0 x1 x2 x4 x5 x6)))) := fun J => by kernel_rfl
  exact (h jn).trans (by
    simp only [jn_eq, schema_checkOne_j11_eq m M8 rec8 h8]
    rfl)
theorem schema_checkOne_j9_eq (m : Nat) (M8 : Nat) (rec8 : List Dt → Int → Int → Dt → List Dt → Option Int) (h8 : ∀ (x0 : List Dt) (x1 x2 : Int) (x3 : Dt) (x4 : List Dt), l22 jn m [1, 1, 1, 1, 0, 1, 0] [] M8 (s22_8 x0 x1 x2 x3 x4) = rec8 x0 x1 x2 x3 x4) (x0 : List Dt) (x1 x2 : Int) (x3 : Dt) (x4 : List Dt) : e22 jn m [1, 1, 1, 1, 0, 1, 0, 0, 1, 1] [M8] (s22_9 x0 x1 x2 x3 x4) = schema_checkOne_j9 m rec8 x0 x1 x2 x3 x4 := by
  have h : ∀ J, e22 J m [1, 1, 1, 1, 0, 1, 0, 0, 1, 1] [M8] (s22_9 x0 x1 x2 x3 x4) =
    ((idx x0 x2).bind fun v2 =>
   ((schema_isName m (Dt.S v2 0)).bind fun r3 =>
   (bif (Bool.not r3) then
   (J 0 14 0 (s22_10 x0 x1 x2 true x3 x4 v2) (e22 J m [1, 1, 1, 1, 0, 1, 0, 0, 1, 1, 0, 0, 1, 0, 1] [M8] (s22_10 x0 x1 x2 true x3 x4 v2)))
   else
   (J 0 14 0 (s22_10 x0 x1 x2 (Dt.toBool (mgetD x4 (Dt.S v2 0) (Dt.bool false))) x3 x4 v2) (e22 J m [1, 1, 1, 1, 0, 1, 0, 0, 1, 1, 0, 0, 1, 0, 1] [M8] (s22_10 x0 x1 x2 (Dt.toBool (mgetD x4 (Dt.S v2 0) (Dt.bool false))) x3 x4 v2)))))) := fun J => by kernel_rfl
  exact (h jn).trans (by
    simp only [jn_eq, schema_checkOne_j10_eq m M8 rec8 h8]
    rfl)
theorem schema_checkOne_j21_eq (m : Nat) (M19 : Nat) (rec19 : List Dt → Int → Int → Option Int) (h19 : ∀ (x0 : List Dt) (x1 x2 : Int), l22 jn m [1, 1, 1, 1, 1, 1, 1, 0, 1, 0] [] M19 (s22_19 x0 x1 x2) = rec19 x0 x1 x2) (x0 : List Dt) (x1 x2 : Int) : e22 jn m [1, 1, 1, 1, 1, 1, 1, 0, 1, 0, 0, 1, 1, 1] [M19] (s22_21 x0 x1 x2) = schema_checkOne_j21 m rec19 x0 x1 x2 := by
  have h : ∀ J, e22 J m [1, 1, 1, 1, 1, 1, 1, 0, 1, 0, 0, 1, 1, 1] [M19] (s22_21 x0 x1 x2) =
    (J 1 22 M19 (s22_19 x0 x1 (IntKind.wrap .i64 (x2 + 1))) (l22 J m [1, 1, 1, 1, 1, 1, 1, 0, 1, 0] [] M19 (s22_19 x0 x1 (IntKind.wrap .i64 (x2 + 1))))) := fun J => by kernel_rfl
  exact (h jn).trans (by
    simp only [jn_eq, h19]
    rfl)
theorem schema_checkOne_j20_eq (m : Nat) (M19 : Nat) (rec19 : List Dt → Int → Int → Option Int) (h19 : ∀ (x0 : List Dt) (x1 x2 : Int), l22 jn m [1, 1, 1, 1, 1, 1, 1, 0, 1, 0] [] M19 (s22_19 x0 x1 x2) = rec19 x0 x1 x2) (x0 : List Dt) (x1 x2 : Int) : e22 jn m [1, 1, 1, 1, 1, 1, 1, 0, 1, 0, 0, 1, 1] [M19] (s22_20 x0 x1 x2) = schema_checkOne_j20 m rec19 x0 x1 x2 := by
  have h : ∀ J, e22 J m [1, 1, 1, 1, 1, 1, 1, 0, 1, 0, 0, 1, 1] [M19] (s22_20 x0 x1 x2) =
    ((idx x0 x2).bind fun v5 =>
   ((value_Valid m v5).bind fun r6 =>
   (bif (Bool.not r6) then
   some 8
   else
   (J 0 26 0 (s22_21 x0 x1 x2) (e22 J m [1, 1, 1, 1, 1, 1, 1, 0, 1, 0, 0, 1, 1, 1] [M19] (s22_21 x0 x1 x2)))))) := fun J => by kernel_rfl
  exact (h jn).trans (by
    simp only [jn_eq, schema_checkOne_j21_eq m M19 rec19 h19]
    rfl)
theorem schema_checkOne_j22_eq (m : Nat) : e22 jn m [1, 1, 1, 1, 1, 1, 1, 1] [] s22_22 = schema_checkOne_j22 m := by
  have h : ∀ J, e22 J m [1, 1, 1, 1, 1, 1, 1, 1] [] s22_22 =
    some 0 := fun J => by kernel_rfl
  exact (h jn).trans (rfl)
theorem schema_checkOne_l19_eq (m : Nat) : ∀ (M19 : Nat) (x0 : List Dt) (x1 x2 : Int), l22 jn m [1, 1, 1, 1, 1, 1, 1, 0, 1, 0] [] M19 (s22_19 x0 x1 x2) = schema_checkOne_l19 m M19 x0 x1 x2
  | 0, _, _, _ => rfl
  | M19 + 1, x0, x1, x2 => by
    have h : ∀ J, l22 J m [1, 1, 1, 1, 1, 1, 1, 0, 1, 0] [] (M19 + 1) (s22_19 x0 x1 x2) =
    (bif (decide (x2 < x1)) then
   (J 0 23 0 (s22_20 x0 x1 x2) (e22 J m [1, 1, 1, 1, 1, 1, 1, 0, 1, 0, 0, 1, 1] [M19] (s22_20 x0 x1 x2)))
    else
   (J 0 27 0 s22_22 (e22 J m [1, 1, 1, 1, 1, 1, 1, 1] [] s22_22))) := fun J => by kernel_rfl
    refine (h jn).trans ?_
    simp only [jn_eq, schema_checkOne_j20_eq m M19 (schema_checkOne_l19 m M19) (fun x0 x1 x2 => schema_checkOne_l19_eq m M19 x0 x1 x2), schema_checkOne_j22_eq m]
    rfl
theorem schema_checkOne_j18_eq (m : Nat) (x0 : List Dt) (x1 x2 : Int) : e22 jn m [1, 1, 1, 1, 1, 1, 1, 0, 1] [] (s22_18 x0 x1 x2) = schema_checkOne_j18 m x0 x1 x2 := by
  have h : ∀ J, e22 J m [1, 1, 1, 1, 1, 1, 1, 0, 1] [] (s22_18 x0 x1 x2) =
    (J 1 22 (Nat.succ m) (s22_19 x0 x1 x2) (l22 J m [1, 1, 1, 1, 1, 1, 1, 0, 1, 0] [] (Nat.succ m) (s22_19 x0 x1 x2))) := fun J => by kernel_rfl
  exact (h jn).trans (by
    simp only [jn_eq, schema_checkOne_l19_eq m]
    rfl)
theorem schema_checkOne_j17_eq (m : Nat) (x0 : Dt) : e22 jn m [1, 1, 1, 1, 1, 1, 1] [] (s22_17 x0) = schema_checkOne_j17 m x0 := by
  have h : ∀ J, e22 J m [1, 1, 1, 1, 1, 1, 1] [] (s22_17 x0) =
    (J 0 22 0 (s22_18 (Dt.L x0 5) (List.length (Dt.L x0 5) : Int) 0) (e22 J m [1, 1, 1, 1, 1, 1, 1, 0, 1] [] (s22_18 (Dt.L x0 5) (List.length (Dt.L x0 5) : Int) 0))) := fun J => by kernel_rfl
  exact (h jn).trans (by
    simp only [jn_eq, schema_checkOne_j18_eq m]
    rfl)
theorem schema_checkOne_j16_eq (m : Nat) (x0 : Bool) (x1 : Dt) : e22 jn m [1, 1, 1, 1, 1, 1, 0, 1] [] (s22_16 x0 x1) = schema_checkOne_j16 m x0 x1 := by
  have h : ∀ J, e22 J m [1, 1, 1, 1, 1, 1, 0, 1] [] (s22_16 x0 x1) =
    (bif x0 then
   some 8
    else
   (J 0 21 0 (s22_17 x1) (e22 J m [1, 1, 1, 1, 1, 1, 1] [] (s22_17 x1)))) := fun J => by kernel_rfl
  exact (h jn).trans (by
    simp only [jn_eq, schema_checkOne_j17_eq m]
    rfl)
theorem schema_checkOne_j15_eq (m : Nat) (x0 : Dt) : e22 jn m [1, 1, 1, 1, 1, 1] [] (s22_15 x0) = schema_checkOne_j15 m x0 := by
  have h : ∀ J, e22 J m [1, 1, 1, 1, 1, 1] [] (s22_15 x0) =
    ((schema_bound m (Dt.B x0 1) (Dt.fld x0 2)).bind fun r4 =>
   (bif (Bool.not r4) then
   (J 0 20 0 (s22_16 true x0) (e22 J m [1, 1, 1, 1, 1, 1, 0, 1] [] (s22_16 true x0)))
   else
   ((schema_bound m (Dt.B x0 3) (Dt.fld x0 4)).bind fun r7 =>
   (J 0 20 0 (s22_16 (Bool.not r7) x0) (e22 J m [1, 1, 1, 1, 1, 1, 0, 1] [] (s22_16 (Bool.not r7) x0)))))) := fun J => by kernel_rfl
  exact (h jn).trans (by
    simp only [jn_eq, schema_checkOne_j16_eq m]
    rfl)
theorem schema_checkOne_j14_eq (m : Nat) (x0 : Bool) (x1 : Dt) : e22 jn m [1, 1, 1, 1, 1, 0, 1] [] (s22_14 x0 x1) = schema_checkOne_j14 m x0 x1 := by
  have h : ∀ J, e22 J m [1, 1, 1, 1, 1, 0, 1] [] (s22_14 x0 x1) =
    (bif x0 then
   some 1
    else
   (J 0 19 0 (s22_15 x1) (e22 J m [1, 1, 1, 1, 1, 1] [] (s22_15 x1)))) := fun J => by kernel_rfl
  exact (h jn).trans (by
    simp only [jn_eq, schema_checkOne_j15_eq m]
    rfl)
theorem schema_checkOne_j13_eq (m : Nat) (x0 : Dt) : e22 jn m [1, 1, 1, 1, 1] [] (s22_13 x0) = schema_checkOne_j13 m x0 := by
  have h : ∀ J, e22 J m [1, 1, 1, 1, 1] [] (s22_13 x0) =
    (bif ((bicI IntKind.i64 (Dt.I x0 0) 4094) != 0) then
   (J 0 18 0 (s22_14 true x0) (e22 J m [1, 1, 1, 1, 1, 0, 1] [] (s22_14 true x0)))
    else
   (bif (decide ((Dt.I x0 6) < 0)) then
   (J 0 18 0 (s22_14 true x0) (e22 J m [1, 1, 1, 1, 1, 0, 1] [] (s22_14 true x0)))
   else
   (bif (decide ((Dt.I x0 7) < (-1))) then
   (J 0 18 0 (s22_14 true x0) (e22 J m [1, 1, 1, 1, 1, 0, 1] [] (s22_14 true x0)))
   else
   (J 0 18 0 (s22_14 (decide (1 < (List.length (Dt.L x0 11) : Int))) x0) (e22 J m [1, 1, 1, 1, 1, 0, 1] [] (s22_14 (decide (1 < (List.length (Dt.L x0 11) : Int))) x0)))))) := fun J => by kernel_rfl
  exact (h jn).trans (by
    simp only [jn_eq, schema_checkOne_j14_eq m]
    rfl)
theorem schema_checkOne_l8_eq (m : Nat) : ∀ (M8 : Nat) (x0 : List Dt) (x1 x2 : Int) (x3 : Dt) (x4 : List Dt), l22 jn m [1, 1, 1, 1, 0, 1, 0] [] M8 (s22_8 x0 x1 x2 x3 x4) = schema_checkOne_l8 m M8 x0 x1 x2 x3 x4
  | 0, _, _, _, _, _ => rfl
  | M8 + 1, x0, x1, x2, x3, x4 => by
    have h : ∀ J, l22 J m [1, 1, 1, 1, 0, 1, 0] [] (M8 + 1) (s22_8 x0 x1 x2 x3 x4) =
    (bif (decide (x2 < x1)) then
   (J 0 12 0 (s22_9 x0 x1 x2 x3 x4) (e22 J m [1, 1, 1, 1, 0, 1, 0, 0, 1, 1] [M8] (s22_9 x0 x1 x2 x3 x4)))
    else
   (J 0 17 0 (s22_13 x3) (e22 J m [1, 1, 1, 1, 1] [] (s22_13 x3)))) := fun J => by kernel_rfl
    refine (h jn).trans ?_
    simp only [jn_eq, schema_checkOne_j9_eq m M8 (schema_checkOne_l8 m M8) (fun x0 x1 x2 x3 x4 => schema_checkOne_l8_eq m M8 x0 x1 x2 x3 x4), schema_checkOne_j13_eq m]
    rfl
theorem schema_checkOne_j7_eq (m : Nat) (x0 : List Dt) (x1 x2 : Int) (x3 : Dt) (x4 : List Dt) : e22 jn m [1, 1, 1, 1, 0, 1] [] (s22_7 x0 x1 x2 x3 x4) = schema_checkOne_j7 m x0 x1 x2 x3 x4 := by
  have h : ∀ J, e22 J m [1, 1, 1, 1, 0, 1] [] (s22_7 x0 x1 x2 x3 x4) =
    (J 1 11 (Nat.succ m) (s22_8 x0 x1 x2 x3 x4) (l22 J m [1, 1, 1, 1, 0, 1, 0] [] (Nat.succ m) (s22_8 x0 x1 x2 x3 x4))) := fun J => by kernel_rfl
  exact (h jn).trans (by
    simp only [jn_eq, schema_checkOne_l8_eq m]
    rfl)
theorem schema_checkOne_j6_eq (m : Nat) (x0 : Dt) : e22 jn m [1, 1, 1] [] (s22_6 x0) = schema_checkOne_j6 m x0 := by
  have h : ∀ J, e22 J m [1, 1, 1] [] (s22_6 x0) =
    (J 0 11 0 (s22_7 (Dt.L x0 9) (List.length (Dt.L x0 9) : Int) 0 x0 []) (e22 J m [1, 1, 1, 1, 0, 1] [] (s22_7 (Dt.L x0 9) (List.length (Dt.L x0 9) : Int) 0 x0 []))) := fun J => by kernel_rfl
  exact (h jn).trans (by
    simp only [jn_eq, schema_checkOne_j7_eq m]
    rfl)
theorem schema_checkOne_l1_eq (m : Nat) : ∀ (M1 : Nat) (x0 : List Dt) (x1 x2 : Int) (x3 : Dt) (x4 : List Dt), l22 jn m [1, 1, 0, 1, 0] [] M1 (s22_1 x0 x1 x2 x3 x4) = schema_checkOne_l1 m M1 x0 x1 x2 x3 x4
  | 0, _, _, _, _, _ => rfl
  | M1 + 1, x0, x1, x2, x3, x4 => by
    have h : ∀ J, l22 J m [1, 1, 0, 1, 0] [] (M1 + 1) (s22_1 x0 x1 x2 x3 x4) =
    (bif (decide (x2 < x1)) then
   (J 0 4 0 (s22_2 x0 x1 x2 x3 x4) (e22 J m [1, 1, 0, 1, 0, 0, 1, 1] [M1] (s22_2 x0 x1 x2 x3 x4)))
    else
   (J 0 9 0 (s22_6 x3) (e22 J m [1, 1, 1] [] (s22_6 x3)))) := fun J => by kernel_rfl
    refine (h jn).trans ?_
    simp only [jn_eq, schema_checkOne_j2_eq m M1 (schema_checkOne_l1 m M1) (fun x0 x1 x2 x3 x4 => schema_checkOne_l1_eq m M1 x0 x1 x2 x3 x4), schema_checkOne_j6_eq m]
    rfl
theorem schema_checkOne_j0_eq (m : Nat) (x0 : List Dt) (x1 x2 : Int) (x3 : Dt) (x4 : List Dt) : e22 jn m [1, 1, 0, 1] [] (s22_0 x0 x1 x2 x3 x4) = schema_checkOne_j0 m x0 x1 x2 x3 x4 := by
  have h : ∀ J, e22 J m [1, 1, 0, 1] [] (s22_0 x0 x1 x2 x3 x4) =
    (J 1 3 (Nat.succ m) (s22_1 x0 x1 x2 x3 x4) (l22 J m [1, 1, 0, 1, 0] [] (Nat.succ m) (s22_1 x0 x1 x2 x3 x4))) := fun J => by kernel_rfl
  exact (h jn).trans (by
    simp only [jn_eq, schema_checkOne_l1_eq m]
    rfl)
theorem schema_checkOne_eq (m : Nat) (a0 : Dt) : e22 jn m [] [] ⟨[(.dat 32 a0)], [], 0⟩ = schema_checkOne (m + 1) a0 := by
  have h : ∀ J, e22 J m [] [] ⟨[(.dat 32 a0)], [], 0⟩ =
    (J 0 3 0 (s22_0 (Dt.L a0 8) (List.length (Dt.L a0 8) : Int) 0 a0 []) (e22 J m [1, 1, 0, 1] [] (s22_0 (Dt.L a0 8) (List.length (Dt.L a0 8) : Int) 0 a0 []))) := fun J => by kernel_rfl
  refine (h jn).trans ?_
  simp only [jn_eq, schema_checkOne_j0_eq m]
  rfl
noncomputable def d21 (q : Res) : Option (Int × Int) := match q with
  | (.dat T0 x0, [.box T1 (.dat T2 x2)]) => bif (Nat.beq T0 33 && (Nat.beq T1 3 && Nat.beq T2 3)) then some (x0.toInt, x2.toInt) else none
  | _ => none
theorem d21_sim {b : Res} {r : Int × Int} (h : d21 b = some r) : Sim Tryz.prog b ((.dat 33 (.int r.1)), [(.box 3 (.dat 3 (.int r.2)))]) := by
  unfold d21 at h
  split at h
  · obtain ⟨hc, h2⟩ := bif_some h
    cases h2
    have e0 := beq_eq (and_l hc)
    have e1 := beq_eq (and_l (and_r hc))
    have e2 := beq_eq (and_r (and_r hc))
    subst e0 e1 e2
    exact Sim.of (.of (.dat (.int Tryz.underlying33)) rfl rfl) (.cons (.box (.dat (.int Tryz.underlying3))) .nil)
  · cases h
noncomputable def e21 (J : Nat → Nat → Nat → St → Option (Int × Int) → Option (Int × Int)) (m : Nat) (p ms : List Nat) (σ : St) := evAt Tryz.prog env (ct m) J (m + 1) 32 65 Tryz.f32 d21 p ms σ
noncomputable def l21 (J : Nat → Nat → Nat → St → Option (Int × Int) → Option (Int × Int)) (m : Nat) (p ms : List Nat) (M : Nat) (σ : St) := loopAt Tryz.prog env (ct m) J (m + 1) 32 65 Tryz.f32 d21 p ms M σ
noncomputable def s21_6 (x0 : Int) (x1 : List Dt) (x2 x3 x4 : Int) (x5 : Dt) : St := ⟨tsOf [(1, (.dat 3 (.int x0))), (2, (.ptr 0 [] 0)), (3, (.ptr 1 [] 0)), (33, (.dat 29 (.lst x1))), (34, (.dat 3 (.int x2))), (35, (.dat 3 (.int x3)))], [(.box 3 (.dat 3 (.int x4))), (.box 32 (.dat 32 x5))], 1⟩
noncomputable def s21_5 (x0 : Int) (x1 : List Dt) (x2 x3 x4 : Int) (x5 : Dt) : St := ⟨tsOf [(1, (.dat 3 (.int x0))), (2, (.ptr 0 [] 0)), (3, (.ptr 1 [] 0)), (33, (.dat 29 (.lst x1))), (34, (.dat 3 (.int x2))), (35, (.dat 3 (.int x3)))], [(.box 3 (.dat 3 (.int x4))), (.box 32 (.dat 32 x5))], 1⟩
noncomputable def s21_11 (x0 : Int) (x1 : List Dt) (x2 x3 x4 : Int) : St := ⟨tsOf [(1, (.dat 3 (.int x0))), (2, (.ptr 0 [] 0)), (50, (.dat 30 (.lst x1))), (51, (.dat 3 (.int x2))), (52, (.dat 3 (.int x3)))], [(.box 3 (.dat 3 (.int x4)))], 1⟩
noncomputable def s21_10 (x0 : Int) (x1 : List Dt) (x2 x3 x4 : Int) : St := ⟨tsOf [(1, (.dat 3 (.int x0))), (2, (.ptr 0 [] 0)), (50, (.dat 30 (.lst x1))), (51, (.dat 3 (.int x2))), (52, (.dat 3 (.int x3)))], [(.box 3 (.dat 3 (.int x4)))], 1⟩
noncomputable def s21_12 (x0 : Int) : St := ⟨tsOf [], [(.box 3 (.dat 3 (.int x0)))], 1⟩
noncomputable def s21_9 (x0 : Int) (x1 : List Dt) (x2 x3 x4 : Int) : St := ⟨tsOf [(1, (.dat 3 (.int x0))), (2, (.ptr 0 [] 0)), (50, (.dat 30 (.lst x1))), (51, (.dat 3 (.int x2))), (52, (.dat 3 (.int x3)))], [(.box 3 (.dat 3 (.int x4)))], 1⟩
noncomputable def s21_8 (x0 : Int) (x1 : List Dt) (x2 x3 x4 : Int) : St := ⟨tsOf [(1, (.dat 3 (.int x0))), (2, (.ptr 0 [] 0)), (50, (.dat 30 (.lst x1))), (51, (.dat 3 (.int x2))), (52, (.dat 3 (.int x3)))], [(.box 3 (.dat 3 (.int x4)))], 1⟩
noncomputable def s21_7 (x0 x1 : Int) (x2 : Dt) : St := ⟨tsOf [(1, (.dat 3 (.int x0))), (2, (.ptr 0 [] 0)), (3, (.ptr 1 [] 0))], [(.box 3 (.dat 3 (.int x1))), (.box 32 (.dat 32 x2))], 1⟩
noncomputable def s21_4 (x0 : Int) (x1 : List Dt) (x2 x3 x4 : Int) (x5 : Dt) : St := ⟨tsOf [(1, (.dat 3 (.int x0))), (2, (.ptr 0 [] 0)), (3, (.ptr 1 [] 0)), (33, (.dat 29 (.lst x1))), (34, (.dat 3 (.int x2))), (35, (.dat 3 (.int x3)))], [(.box 3 (.dat 3 (.int x4))), (.box 32 (.dat 32 x5))], 1⟩
noncomputable def s21_3 (x0 : Int) (x1 : List Dt) (x2 x3 x4 : Int) (x5 : Dt) : St := ⟨tsOf [(1, (.dat 3 (.int x0))), (2, (.ptr 0 [] 0)), (3, (.ptr 1 [] 0)), (33, (.dat 29 (.lst x1))), (34, (.dat 3 (.int x2))), (35, (.dat 3 (.int x3)))], [(.box 3 (.dat 3 (.int x4))), (.box 32 (.dat 32 x5))], 1⟩
noncomputable def s21_2 (x0 x1 : Int) (x2 : Dt) : St := ⟨tsOf [(1, (.dat 3 (.int x0))), (2, (.ptr 0 [] 0)), (3, (.ptr 1 [] 0))], [(.box 3 (.dat 3 (.int x1))), (.box 32 (.dat 32 x2))], 1⟩
noncomputable def s21_1 (x0 x1 : Int) (x2 : Dt) : St := ⟨tsOf [(1, (.dat 3 (.int x0))), (2, (.ptr 0 [] 0)), (3, (.ptr 1 [] 0))], [(.box 3 (.dat 3 (.int x1))), (.box 32 (.dat 32 x2))], 1⟩
noncomputable def s21_0 (x0 : Int) (x1 : Bool) (x2 : Int) (x3 : Dt) : St := ⟨tsOf [(1, (.dat 3 (.int x0))), (2, (.ptr 0 [] 0)), (3, (.ptr 1 [] 0)), (21, (.dat 4 (.bool x1)))], [(.box 3 (.dat 3 (.int x2))), (.box 32 (.dat 32 x3))], 1⟩
theorem i21_j6_eq (m : Nat) (M4 : Nat) (rec4 : Int → List Dt → Int → Int → Int → Dt → Option (Int × Int)) (h4 : ∀ (x0 : Int) (x1 : List Dt) (x2 x3 x4 : Int) (x5 : Dt), l21 jn m [1, 1, 1, 1, 0, 1, 0] [] M4 (s21_4 x0 x1 x2 x3 x4 x5) = rec4 x0 x1 x2 x3 x4 x5) (x0 : Int) (x1 : List Dt) (x2 x3 x4 : Int) (x5 : Dt) : e21 jn m [1, 1, 1, 1, 0, 1, 0, 0, 1, 1, 1] [M4] (s21_6 x0 x1 x2 x3 x4 x5) = i21_j6 m (i21 m) rec4 x0 x1 x2 x3 x4 x5 := by
  have h : ∀ J, e21 J m [1, 1, 1, 1, 0, 1, 0, 0, 1, 1, 1] [M4] (s21_6 x0 x1 x2 x3 x4 x5) =
    (J 1 8 M4 (s21_4 x0 x1 x2 (IntKind.wrap .i64 (x3 + 1)) x4 x5) (l21 J m [1, 1, 1, 1, 0, 1, 0] [] M4 (s21_4 x0 x1 x2 (IntKind.wrap .i64 (x3 + 1)) x4 x5))) := fun J => by kernel_rfl
  exact (h jn).trans (by
    simp only [jn_eq, h4]
    rfl)
theorem i21_j5_eq (m : Nat) (M4 : Nat) (rec4 : Int → List Dt → Int → Int → Int → Dt → Option (Int × Int)) (h4 : ∀ (x0 : Int) (x1 : List Dt) (x2 x3 x4 : Int) (x5 : Dt), l21 jn m [1, 1, 1, 1, 0, 1, 0] [] M4 (s21_4 x0 x1 x2 x3 x4 x5) = rec4 x0 x1 x2 x3 x4 x5) (x0 : Int) (x1 : List Dt) (x2 x3 x4 : Int) (x5 : Dt) : e21 jn m [1, 1, 1, 1, 0, 1, 0, 0, 1, 1] [M4] (s21_5 x0 x1 x2 x3 x4 x5) = i21_j5 m (i21 m) rec4 x0 x1 x2 x3 x4 x5 := by
  have h : ∀ J, e21 J m [1, 1, 1, 1, 0, 1, 0, 0, 1, 1] [M4] (s21_5 x0 x1 x2 x3 x4 x5) =
    ((idx x1 x3).bind fun v1 =>
   ((i21 m (Dt.fld v1 1) (IntKind.wrap .i64 (x0 + 1)) x4).bind fun r2 =>
   (bif (r2.1 != 0) then
   some (r2.1, r2.2)
   else
   (J 0 13 0 (s21_6 x0 x1 x2 x3 r2.2 x5) (e21 J m [1, 1, 1, 1, 0, 1, 0, 0, 1, 1, 1] [M4] (s21_6 x0 x1 x2 x3 r2.2 x5)))))) := fun J => by kernel_rfl
  exact (h jn).trans (by
    simp only [jn_eq, i21_j6_eq m M4 rec4 h4]
    rfl)
theorem i21_j11_eq (m : Nat) (M9 : Nat) (rec9 : Int → List Dt → Int → Int → Int → Option (Int × Int)) (h9 : ∀ (x0 : Int) (x1 : List Dt) (x2 x3 x4 : Int), l21 jn m [1, 1, 1, 1, 1, 0, 1, 0] [] M9 (s21_9 x0 x1 x2 x3 x4) = rec9 x0 x1 x2 x3 x4) (x0 : Int) (x1 : List Dt) (x2 x3 x4 : Int) : e21 jn m [1, 1, 1, 1, 1, 0, 1, 0, 0, 1, 1, 1] [M9] (s21_11 x0 x1 x2 x3 x4) = i21_j11 m (i21 m) rec9 x0 x1 x2 x3 x4 := by
  have h : ∀ J, e21 J m [1, 1, 1, 1, 1, 0, 1, 0, 0, 1, 1, 1] [M9] (s21_11 x0 x1 x2 x3 x4) =
    (J 1 15 M9 (s21_9 x0 x1 x2 (IntKind.wrap .i64 (x3 + 1)) x4) (l21 J m [1, 1, 1, 1, 1, 0, 1, 0] [] M9 (s21_9 x0 x1 x2 (IntKind.wrap .i64 (x3 + 1)) x4))) := fun J => by kernel_rfl
  exact (h jn).trans (by
    simp only [jn_eq, h9]
    rfl)
theorem i21_j10_eq (m : Nat) (M9 : Nat) (rec9 : Int → List Dt → Int → Int → Int → Option (Int × Int)) (h9 : ∀ (x0 : Int) (x1 : List Dt) (x2 x3 x4 : Int), l21 jn m [1, 1, 1, 1, 1, 0, 1, 0] [] M9 (s21_9 x0 x1 x2 x3 x4) = rec9 x0 x1 x2 x3 x4) (x0 : Int) (x1 : List Dt) (x2 x3 x4 : Int) : e21 jn m [1, 1, 1, 1, 1, 0, 1, 0, 0, 1, 1] [M9] (s21_10 x0 x1 x2 x3 x4) = i21_j10 m (i21 m) rec9 x0 x1 x2 x3 x4 := by
  have h : ∀ J, e21 J m [1, 1, 1, 1, 1, 0, 1, 0, 0, 1, 1] [M9] (s21_10 x0 x1 x2 x3 x4) =
    ((idx x1 x3).bind fun v3 =>
   ((i21 m v3 (IntKind.wrap .i64 (x0 + 1)) x4).bind fun r4 =>
   (bif (r4.1 != 0) then
   some (r4.1, r4.2)
   else
   (J 0 20 0 (s21_11 x0 x1 x2 x3 r4.2) (e21 J m [1, 1, 1, 1, 1, 0, 1, 0, 0, 1, 1, 1] [M9] (s21_11 x0 x1 x2 x3 r4.2)))))) := fun J => by kernel_rfl
  exact (h jn).trans (by
    simp only [jn_eq, i21_j11_eq m M9 rec9 h9]
    rfl)
theorem i21_j12_eq (m : Nat) (x0 : Int) : e21 jn m [1, 1, 1, 1, 1, 1] [] (s21_12 x0) = i21_j12 m (i21 m) x0 := by
  have h : ∀ J, e21 J m [1, 1, 1, 1, 1, 1] [] (s21_12 x0) =
    some (0, x0) := fun J => by kernel_rfl
  exact (h jn).trans (rfl)
theorem i21_l9_eq (m : Nat) : ∀ (M9 : Nat) (x0 : Int) (x1 : List Dt) (x2 x3 x4 : Int), l21 jn m [1, 1, 1, 1, 1, 0, 1, 0] [] M9 (s21_9 x0 x1 x2 x3 x4) = i21_l9 m (i21 m) M9 x0 x1 x2 x3 x4
  | 0, _, _, _, _, _ => rfl
  | M9 + 1, x0, x1, x2, x3, x4 => by
    have h : ∀ J, l21 J m [1, 1, 1, 1, 1, 0, 1, 0] [] (M9 + 1) (s21_9 x0 x1 x2 x3 x4) =
    (bif (decide (x3 < x2)) then
   (J 0 16 0 (s21_10 x0 x1 x2 x3 x4) (e21 J m [1, 1, 1, 1, 1, 0, 1, 0, 0, 1, 1] [M9] (s21_10 x0 x1 x2 x3 x4)))
    else
   (J 0 21 0 (s21_12 x4) (e21 J m [1, 1, 1, 1, 1, 1] [] (s21_12 x4)))) := fun J => by kernel_rfl
    refine (h jn).trans ?_
    simp only [jn_eq, i21_j10_eq m M9 (i21_l9 m (i21 m) M9) (fun x0 x1 x2 x3 x4 => i21_l9_eq m M9 x0 x1 x2 x3 x4), i21_j12_eq m]
    rfl
theorem i21_j8_eq (m : Nat) (x0 : Int) (x1 : List Dt) (x2 x3 x4 : Int) : e21 jn m [1, 1, 1, 1, 1, 0, 1] [] (s21_8 x0 x1 x2 x3 x4) = i21_j8 m (i21 m) x0 x1 x2 x3 x4 := by
  have h : ∀ J, e21 J m [1, 1, 1, 1, 1, 0, 1] [] (s21_8 x0 x1 x2 x3 x4) =
    (J 1 15 (Nat.succ m) (s21_9 x0 x1 x2 x3 x4) (l21 J m [1, 1, 1, 1, 1, 0, 1, 0] [] (Nat.succ m) (s21_9 x0 x1 x2 x3 x4))) := fun J => by kernel_rfl
  exact (h jn).trans (by
    simp only [jn_eq, i21_l9_eq m]
    rfl)
theorem i21_j7_eq (m : Nat) (x0 x1 : Int) (x2 : Dt) : e21 jn m [1, 1, 1, 1, 1] [] (s21_7 x0 x1 x2) = i21_j7 m (i21 m) x0 x1 x2 := by
  have h : ∀ J, e21 J m [1, 1, 1, 1, 1] [] (s21_7 x0 x1 x2) =
    (J 0 15 0 (s21_8 x0 (Dt.L x2 11) (List.length (Dt.L x2 11) : Int) 0 x1) (e21 J m [1, 1, 1, 1, 1, 0, 1] [] (s21_8 x0 (Dt.L x2 11) (List.length (Dt.L x2 11) : Int) 0 x1))) := fun J => by kernel_rfl
  exact (h jn).trans (by
    simp only [jn_eq, i21_j8_eq m]
    rfl)
theorem i21_l4_eq (m : Nat) : ∀ (M4 : Nat) (x0 : Int) (x1 : List Dt) (x2 x3 x4 : Int) (x5 : Dt), l21 jn m [1, 1, 1, 1, 0, 1, 0] [] M4 (s21_4 x0 x1 x2 x3 x4 x5) = i21_l4 m (i21 m) M4 x0 x1 x2 x3 x4 x5
  | 0, _, _, _, _, _, _ => rfl
  | M4 + 1, x0, x1, x2, x3, x4, x5 => by
    have h : ∀ J, l21 J m [1, 1, 1, 1, 0, 1, 0] [] (M4 + 1) (s21_4 x0 x1 x2 x3 x4 x5) =
    (bif (decide (x3 < x2)) then
   (J 0 9 0 (s21_5 x0 x1 x2 x3 x4 x5) (e21 J m [1, 1, 1, 1, 0, 1, 0, 0, 1, 1] [M4] (s21_5 x0 x1 x2 x3 x4 x5)))
    else
   (J 0 14 0 (s21_7 x0 x4 x5) (e21 J m [1, 1, 1, 1, 1] [] (s21_7 x0 x4 x5)))) := fun J => by kernel_rfl
    refine (h jn).trans ?_
    simp only [jn_eq, i21_j5_eq m M4 (i21_l4 m (i21 m) M4) (fun x0 x1 x2 x3 x4 x5 => i21_l4_eq m M4 x0 x1 x2 x3 x4 x5), i21_j7_eq m]
    rfl
theorem i21_j3_eq (m : Nat) (x0 : Int) (x1 : List Dt) (x2 x3 x4 : Int) (x5 : Dt) : e21 jn m [1, 1, 1, 1, 0, 1] [] (s21_3 x0 x1 x2 x3 x4 x5) = i21_j3 m (i21 m) x0 x1 x2 x3 x4 x5 := by
  have h : ∀ J, e21 J m [1, 1, 1, 1, 0, 1] [] (s21_3 x0 x1 x2 x3 x4 x5) =
    (J 1 8 (Nat.succ m) (s21_4 x0 x1 x2 x3 x4 x5) (l21 J m [1, 1, 1, 1, 0, 1, 0] [] (Nat.succ m) (s21_4 x0 x1 x2 x3 x4 x5))) := fun J => by kernel_rfl
  exact (h jn).trans (by
    simp only [jn_eq, i21_l4_eq m]
    rfl)
theorem i21_j2_eq (m : Nat) (x0 x1 : Int) (x2 : Dt) : e21 jn m [1, 1, 1, 1] [] (s21_2 x0 x1 x2) = i21_j2 m (i21 m) x0 x1 x2 := by
  have h : ∀ J, e21 J m [1, 1, 1, 1] [] (s21_2 x0 x1 x2) =
    (J 0 8 0 (s21_3 x0 (Dt.L x2 9) (List.length (Dt.L x2 9) : Int) 0 x1 x2) (e21 J m [1, 1, 1, 1, 0, 1] [] (s21_3 x0 (Dt.L x2 9) (List.length (Dt.L x2 9) : Int) 0 x1 x2))) := fun J => by kernel_rfl
  exact (h jn).trans (by
    simp only [jn_eq, i21_j3_eq m]
    rfl)
theorem i21_j1_eq (m : Nat) (x0 x1 : Int) (x2 : Dt) : e21 jn m [1, 1] [] (s21_1 x0 x1 x2) = i21_j1 m (i21 m) x0 x1 x2 := by
  have h : ∀ J, e21 J m [1, 1] [] (s21_1 x0 x1 x2) =
    ((schema_checkOne m x2).bind fun r0 =>
   (bif (r0 != 0) then
   some (r0, (IntKind.wrap .i64 (x1 + 1)))
   else
   (J 0 7 0 (s21_2 x0 (IntKind.wrap .i64 (x1 + 1)) x2) (e21 J m [1, 1, 1, 1] [] (s21_2 x0 (IntKind.wrap .i64 (x1 + 1)) x2))))) := fun J => by kernel_rfl
  exact (h jn).trans (by
    simp only [jn_eq, i21_j2_eq m]
    rfl)
theorem i21_j0_eq (m : Nat) (x0 : Int) (x1 : Bool) (x2 : Int) (x3 : Dt) : e21 jn m [1, 0, 1] [] (s21_0 x0 x1 x2 x3) = i21_j0 m (i21 m) x0 x1 x2 x3 := by
  have h : ∀ J, e21 J m [1, 0, 1] [] (s21_0 x0 x1 x2 x3) =
    (bif x1 then
   some (2, x2)
    else
   (J 0 3 0 (s21_1 x0 x2 x3) (e21 J m [1, 1] [] (s21_1 x0 x2 x3)))) := fun J => by kernel_rfl
  exact (h jn).trans (by
    simp only [jn_eq, i21_j1_eq m]
    rfl)
theorem i21_eq (m : Nat) (a0 : Dt) (a1 a2 : Int) : e21 jn m [] [] ⟨[(.dat 32 a0), (.dat 3 (.int a1)), (.ptr 0 [] 0)], [(.box 3 (.dat 3 (.int a2)))], 1⟩ = i21 (m + 1) a0 a1 a2 := by
  have h : ∀ J, e21 J m [] [] ⟨[(.dat 32 a0), (.dat 3 (.int a1)), (.ptr 0 [] 0)], [(.box 3 (.dat 3 (.int a2)))], 1⟩ =
    (bif (decide (16 < a1)) then
   (J 0 2 0 (s21_0 a1 true a2 a0) (e21 J m [1, 0, 1] [] (s21_0 a1 true a2 a0)))
    else
   (J 0 2 0 (s21_0 a1 (a2 == 64) a2 a0) (e21 J m [1, 0, 1] [] (s21_0 a1 (a2 == 64) a2 a0)))) := fun J => by kernel_rfl
  refine (h jn).trans ?_
  simp only [jn_eq, i21_j0_eq m]
  rfl
noncomputable def d8 (q : Res) : Option Int := match q with
  | (.dat T0 x0, []) => bif Nat.beq T0 33 then some x0.toInt else none
  | _ => none
theorem d8_sim {b : Res} {r : Int} (h : d8 b = some r) : Sim Tryz.prog b ((.dat 33 (.int r)), []) := by
  unfold d8 at h
  split at h
  · obtain ⟨hc, h2⟩ := bif_some h
    cases h2
    have e0 := beq_eq hc
    subst e0
    exact Sim.of (.of (.dat (.int Tryz.underlying33)) rfl rfl) .nil
  · cases h
noncomputable def e8 (J : Nat → Nat → Nat → St → Option Int → Option Int) (m : Nat) (p ms : List Nat) (σ : St) := evAt Tryz.prog env (ct m) J (m + 1) 20 6 Tryz.f20 d8 p ms σ
noncomputable def l8 (J : Nat → Nat → Nat → St → Option Int → Option Int) (m : Nat) (p ms : List Nat) (M : Nat) (σ : St) := loopAt Tryz.prog env (ct m) J (m + 1) 20 6 Tryz.f20 d8 p ms M σ
theorem schema_Valid_eq (m : Nat) (a0 : Dt) : e8 jn m [] [] ⟨[(.dat 32 a0)], [], 0⟩ = schema_Valid (m + 1) a0 := by
  have h : ∀ J, e8 J m [] [] ⟨[(.dat 32 a0)], [], 0⟩ =
    ((i21 m a0 1 0).bind fun r0 =>
   some r0.1) := fun J => by kernel_rfl
  refine (h jn).trans ?_
  
  rfl
noncomputable def d3 (q : Res) : Option (Dt × Int) := match q with
  | (.tup [.dat T0 x0, .dat T1 x1], []) => bif (Nat.beq T0 32 && Nat.beq T1 33) then some (x0, x1.toInt) else none
  | _ => none
theorem d3_sim {b : Res} {r : Dt × Int} (h : d3 b = some r) : Sim Tryz.prog b ((.tup [(.dat 32 r.1), (.dat 33 (.int r.2))]), []) := by
  unfold d3 at h
  split at h
  · obtain ⟨hc, h2⟩ := bif_some h
    cases h2
    have e0 := beq_eq (and_l hc)
    have e1 := beq_eq (and_r hc)
    subst e0 e1
    exact Sim.of (.tup (.cons .same (.cons (.dat (.int Tryz.underlying33)) .nil))) .nil
  · cases h
noncomputable def e3 (J : Nat → Nat → Nat → St → Option (Dt × Int) → Option (Dt × Int)) (m : Nat) (p ms : List Nat) (σ : St) := evAt Tryz.prog env (ct m) J (m + 1) 8 31 Tryz.f8 d3 p ms σ
noncomputable def l3 (J : Nat → Nat → Nat → St → Option (Dt × Int) → Option (Dt × Int)) (m : Nat) (p ms : List Nat) (M : Nat) (σ : St) := loopAt Tryz.prog env (ct m) J (m + 1) 8 31 Tryz.f8 d3 p ms M σ
noncomputable def s3_3 (x0 x1 : Dt) : St := ⟨tsOf [(2, (.ptr 0 [] 0)), (4, (.ptr 1 [] 0))], [(.box 32 (.dat 32 x0)), (.box 32 (.dat 32 x1))], 0⟩
noncomputable def s3_2 (x0 x1 : Dt) : St := ⟨tsOf [(2, (.ptr 0 [] 0)), (4, (.ptr 1 [] 0))], [(.box 32 (.dat 32 x0)), (.box 32 (.dat 32 x1))], 0⟩
noncomputable def s3_1 (x0 x1 : Dt) : St := ⟨tsOf [(1, (.ptr 0 [] 0)), (2, (.ptr 1 [] 0))], [(.box 25 (.dat 25 x0)), (.box 32 (.dat 32 x1))], 0⟩
noncomputable def s3_0 (x0 : Bool) (x1 x2 : Dt) : St := ⟨tsOf [(1, (.ptr 0 [] 0)), (2, (.ptr 1 [] 0)), (14, (.dat 4 (.bool x0)))], [(.box 25 (.dat 25 x1)), (.box 32 (.dat 32 x2))], 0⟩
theorem schema_Parse_j3_eq (m : Nat) (x0 x1 : Dt) : e3 jn m [1, 1, 1, 1, 1] [] (s3_3 x0 x1) = schema_Parse_j3 m x0 x1 := by
  have h : ∀ J, e3 J m [1, 1, 1, 1, 1] [] (s3_3 x0 x1) =
    some (x1, 0) := fun J => by kernel_rfl
  exact (h jn).trans (rfl)
theorem schema_Parse_j2_eq (m : Nat) (x0 x1 : Dt) : e3 jn m [1, 1, 1, 1] [] (s3_2 x0 x1) = schema_Parse_j2 m x0 x1 := by
  have h : ∀ J, e3 J m [1, 1, 1, 1] [] (s3_2 x0 x1) =
    ((schema_Valid m x1).bind fun r1 =>
   (bif (r1 != 0) then
   some (kza2d60, r1)
   else
   (J 0 9 0 (s3_3 x0 x1) (e3 J m [1, 1, 1, 1, 1] [] (s3_3 x0 x1))))) := fun J => by kernel_rfl
  exact (h jn).trans (by
    simp only [jn_eq, schema_Parse_j3_eq m]
    rfl)
theorem schema_Parse_j1_eq (m : Nat) (x0 x1 : Dt) : e3 jn m [1, 1] [] (s3_1 x0 x1) = schema_Parse_j1 m x0 x1 := by
  have h : ∀ J, e3 J m [1, 1] [] (s3_1 x0 x1) =
    ((schema_parse m x0).bind fun r0 =>
   (bif (Bool.not r0.2) then
   some (kza2d60, 4)
   else
   (J 0 6 0 (s3_2 x1 r0.1) (e3 J m [1, 1, 1, 1] [] (s3_2 x1 r0.1))))) := fun J => by kernel_rfl
  exact (h jn).trans (by
    simp only [jn_eq, schema_Parse_j2_eq m]
    rfl)
theorem schema_Parse_j0_eq (m : Nat) (x0 : Bool) (x1 x2 : Dt) : e3 jn m [1, 0, 1] [] (s3_0 x0 x1 x2) = schema_Parse_j0 m x0 x1 x2 := by
  have h : ∀ J, e3 J m [1, 0, 1] [] (s3_0 x0 x1 x2) =
    (bif x0 then
   some (kza2d60, 8)
    else
   (J 0 3 0 (s3_1 x1 x2) (e3 J m [1, 1] [] (s3_1 x1 x2)))) := fun J => by kernel_rfl
  exact (h jn).trans (by
    simp only [jn_eq, schema_Parse_j1_eq m]
    rfl)
theorem schema_Parse_eq (m : Nat) (a0 : Dt) : e3 jn m [] [] ⟨[(.dat 25 a0)], [], 0⟩ = schema_Parse (m + 1) a0 := by
  have h : ∀ J, e3 J m [] [] ⟨[(.dat 25 a0)], [], 0⟩ =
    (bif ((Dt.I a0 0) != 5) then
   (J 0 2 0 (s3_0 true a0 kza2d60) (e3 J m [1, 0, 1] [] (s3_0 true a0 kza2d60)))
    else
   ((schema_wellFormed m a0).bind fun r2 =>
   (J 0 2 0 (s3_0 (Bool.not r2) a0 kza2d60) (e3 J m [1, 0, 1] [] (s3_0 (Bool.not r2) a0 kza2d60))))) := fun J => by kernel_rfl
  refine (h jn).trans ?_
  simp only [jn_eq, schema_Parse_j0_eq m]
  rfl
noncomputable def d0 (q : Res) : Option Bool := match q with
  | (.dat T0 x0, []) => bif Nat.beq T0 4 then some x0.toBool else none
  | _ => none
theorem d0_sim {b : Res} {r : Bool} (h : d0 b = some r) : Sim Tryz.prog b ((.dat 4 (.bool r)), []) := by
  unfold d0 at h
  split at h
  · obtain ⟨hc, h2⟩ := bif_some h
    cases h2
    have e0 := beq_eq hc
    subst e0
    exact Sim.of (.of (.dat (.bool Tryz.underlying4)) rfl rfl) .nil
  · cases h
noncomputable def e0 (J : Nat → Nat → Nat → St → Option Bool → Option Bool) (m : Nat) (p ms : List Nat) (σ : St) := evAt Tryz.prog env (ct m) J (m + 1) 3 32 Tryz.f3 d0 p ms σ
noncomputable def l0 (J : Nat → Nat → Nat → St → Option Bool → Option Bool) (m : Nat) (p ms : List Nat) (M : Nat) (σ : St) := loopAt Tryz.prog env (ct m) J (m + 1) 3 32 Tryz.f3 d0 p ms M σ
noncomputable def s0_0 (x0 : Dt) : St := ⟨tsOf [(1, (.ptr 0 [] 0))], [(.box 25 (.dat 25 x0))], 0⟩
theorem law14_SchemaParses_j0_eq (m : Nat) (x0 : Dt) : e0 jn m [1, 1] [] (s0_0 x0) = law14_SchemaParses_j0 m x0 := by
  have h : ∀ J, e0 J m [1, 1] [] (s0_0 x0) =
    ((schema_Parse m x0).bind fun r2 =>
   ((ref14_Parse m x0).bind fun r3 =>
   ((ref14_Same m r2.1 r3.1).bind fun r4 =>
   (bif r4 then
   (bif (r2.2 == r3.2) then
   ((awakeC).bind fun r5 =>
   some r5)
   else
   some false)
   else
   some false)))) := fun J => by kernel_rfl
  exact (h jn).trans (rfl)
theorem law14_SchemaParses_eq (m : Nat) (a0 : Dt) : e0 jn m [] [] ⟨[(.dat 25 a0)], [], 0⟩ = law14_SchemaParses (m + 1) a0 := by
  have h : ∀ J, e0 J m [] [] ⟨[(.dat 25 a0)], [], 0⟩ =
    ((ref02_Few m a0 2000).bind fun r0 =>
   (bif (Bool.not r0) then
   ((awakeC).bind fun r1 =>
   some r1)
   else
   (J 0 3 0 (s0_0 a0) (e0 J m [1, 1] [] (s0_0 a0))))) := fun J => by kernel_rfl
  refine (h jn).trans ?_
  simp only [jn_eq, law14_SchemaParses_j0_eq m]
  rfl
end Go.Proofs.YtfneddmmeadacaaGreatDoor
