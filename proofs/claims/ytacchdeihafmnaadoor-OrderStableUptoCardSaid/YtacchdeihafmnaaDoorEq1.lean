/- Generated: each function's run in the abstract machine is its shallow function. -/
import Derived.Test.YtacchdeihafmnaaDoorCt
import Derived.Test.YtacchdeihafmnaaDoorAmEnv
import Derived.KernelRfl
set_option linter.unusedVariables false
set_option linter.unusedSimpArgs false
namespace Go.Proofs.YtacchdeihafmnaaDoor
open Go.Am
set_option maxRecDepth 100000
noncomputable def d49 (q : Res) : Option (Dt) := match q with
  | (.dat T0 x0, []) => bif Nat.beq T0 30 then some x0 else none
  | _ => none
theorem d49_sim {b : Res} {r : Dt} (h : d49 b = some r) : Sim Tryd.prog b ((.dat 30 r), []) := by
  unfold d49 at h
  split at h
  · obtain ⟨hc, h2⟩ := bif_some h
    cases h2
    have e0 := beq_eq hc
    subst e0
    exact Sim.of (.of .same rfl rfl) .nil
  · cases h
noncomputable def e49 (J : Nat → Nat → Nat → St → Option (Dt) → Option (Dt)) (m : Nat) (p ms : List Nat) (σ : St) := evAt Tryd.prog env (ct m) J (m + 1) 65 68 Tryd.f65 d49 p ms σ
noncomputable def l49 (J : Nat → Nat → Nat → St → Option (Dt) → Option (Dt)) (m : Nat) (p ms : List Nat) (M : Nat) (σ : St) := loopAt Tryd.prog env (ct m) J (m + 1) 65 68 Tryd.f65 d49 p ms M σ
noncomputable def s49_3 (x0 : List Dt) (x1 x2 : Int) (x3 x4 : Dt) (x5 x6 : Int) (x7 : ByteArray) (x8 : List Dt) : St := ⟨tsOf [(1, (.ptr 0 [] 0)), (2, (.ptr 1 [] 0)), (3, (.ptr 2 [] 0)), (25, (.dat 27 (.lst x0))), (26, (.dat 3 (.int x1))), (27, (.dat 3 (.int x2)))], [(.box 30 (.dat 30 x3)), (.box 30 (.dat 30 x4)), (.box 30 (.agg 30 [(.dat 3 (.int x5)), (.dat 3 (.int x6)), (.dat 9 (.str x7)), (.row 3), (.nils 28)])), (.row 27 x8)], 0⟩
noncomputable def s49_2 (x0 : List Dt) (x1 x2 : Int) (x3 x4 : Dt) (x5 x6 : Int) (x7 : ByteArray) (x8 : List Dt) : St := ⟨tsOf [(1, (.ptr 0 [] 0)), (2, (.ptr 1 [] 0)), (3, (.ptr 2 [] 0)), (25, (.dat 27 (.lst x0))), (26, (.dat 3 (.int x1))), (27, (.dat 3 (.int x2)))], [(.box 30 (.dat 30 x3)), (.box 30 (.dat 30 x4)), (.box 30 (.agg 30 [(.dat 3 (.int x5)), (.dat 3 (.int x6)), (.dat 9 (.str x7)), (.row 3), (.nils 28)])), (.row 27 x8)], 0⟩
noncomputable def s49_8 (x0 : List Dt) (x1 x2 : Int) (x3 : Dt) (x4 x5 : Int) (x6 : ByteArray) (x7 x8 : List Dt) : St := ⟨tsOf [(2, (.ptr 0 [] 0)), (3, (.ptr 1 [] 0)), (49, (.dat 28 (.lst x0))), (50, (.dat 3 (.int x1))), (51, (.dat 3 (.int x2)))], [(.box 30 (.dat 30 x3)), (.box 30 (.agg 30 [(.dat 3 (.int x4)), (.dat 3 (.int x5)), (.dat 9 (.str x6)), (.row 2), (.row 3)])), (.row 27 x7), (.row 28 x8)], 0⟩
noncomputable def s49_7 (x0 : List Dt) (x1 x2 : Int) (x3 : Dt) (x4 x5 : Int) (x6 : ByteArray) (x7 x8 : List Dt) : St := ⟨tsOf [(2, (.ptr 0 [] 0)), (3, (.ptr 1 [] 0)), (49, (.dat 28 (.lst x0))), (50, (.dat 3 (.int x1))), (51, (.dat 3 (.int x2)))], [(.box 30 (.dat 30 x3)), (.box 30 (.agg 30 [(.dat 3 (.int x4)), (.dat 3 (.int x5)), (.dat 9 (.str x6)), (.row 2), (.row 3)])), (.row 27 x7), (.row 28 x8)], 0⟩
noncomputable def s49_9 (x0 : Dt) (x1 x2 : Int) (x3 : ByteArray) (x4 x5 : List Dt) : St := ⟨tsOf [(2, (.ptr 0 [] 0)), (3, (.ptr 1 [] 0))], [(.box 30 (.dat 30 x0)), (.box 30 (.agg 30 [(.dat 3 (.int x1)), (.dat 3 (.int x2)), (.dat 9 (.str x3)), (.row 2), (.row 3)])), (.row 27 x4), (.row 28 x5)], 0⟩
noncomputable def s49_6 (x0 : List Dt) (x1 x2 : Int) (x3 : Dt) (x4 x5 : Int) (x6 : ByteArray) (x7 x8 : List Dt) : St := ⟨tsOf [(2, (.ptr 0 [] 0)), (3, (.ptr 1 [] 0)), (49, (.dat 28 (.lst x0))), (50, (.dat 3 (.int x1))), (51, (.dat 3 (.int x2)))], [(.box 30 (.dat 30 x3)), (.box 30 (.agg 30 [(.dat 3 (.int x4)), (.dat 3 (.int x5)), (.dat 9 (.str x6)), (.row 2), (.row 3)])), (.row 27 x7), (.row 28 x8)], 0⟩
noncomputable def s49_5 (x0 : List Dt) (x1 x2 : Int) (x3 : Dt) (x4 x5 : Int) (x6 : ByteArray) (x7 x8 : List Dt) : St := ⟨tsOf [(2, (.ptr 0 [] 0)), (3, (.ptr 1 [] 0)), (49, (.dat 28 (.lst x0))), (50, (.dat 3 (.int x1))), (51, (.dat 3 (.int x2)))], [(.box 30 (.dat 30 x3)), (.box 30 (.agg 30 [(.dat 3 (.int x4)), (.dat 3 (.int x5)), (.dat 9 (.str x6)), (.row 2), (.row 3)])), (.row 27 x7), (.row 28 x8)], 0⟩
noncomputable def s49_10 (x0 : Dt) (x1 x2 : Int) (x3 : ByteArray) (x4 : List Dt) : St := ⟨tsOf [(2, (.ptr 0 [] 0)), (3, (.ptr 1 [] 0))], [(.box 30 (.dat 30 x0)), (.box 30 (.agg 30 [(.dat 3 (.int x1)), (.dat 3 (.int x2)), (.dat 9 (.str x3)), (.row 2), (.nils 28)])), (.row 27 x4)], 0⟩
noncomputable def s49_4 (x0 x1 : Dt) (x2 x3 : Int) (x4 : ByteArray) (x5 : List Dt) : St := ⟨tsOf [(1, (.ptr 0 [] 0)), (2, (.ptr 1 [] 0)), (3, (.ptr 2 [] 0))], [(.box 30 (.dat 30 x0)), (.box 30 (.dat 30 x1)), (.box 30 (.agg 30 [(.dat 3 (.int x2)), (.dat 3 (.int x3)), (.dat 9 (.str x4)), (.row 3), (.nils 28)])), (.row 27 x5)], 0⟩
noncomputable def s49_1 (x0 : List Dt) (x1 x2 : Int) (x3 x4 : Dt) (x5 x6 : Int) (x7 : ByteArray) (x8 : List Dt) : St := ⟨tsOf [(1, (.ptr 0 [] 0)), (2, (.ptr 1 [] 0)), (3, (.ptr 2 [] 0)), (25, (.dat 27 (.lst x0))), (26, (.dat 3 (.int x1))), (27, (.dat 3 (.int x2)))], [(.box 30 (.dat 30 x3)), (.box 30 (.dat 30 x4)), (.box 30 (.agg 30 [(.dat 3 (.int x5)), (.dat 3 (.int x6)), (.dat 9 (.str x7)), (.row 3), (.nils 28)])), (.row 27 x8)], 0⟩
noncomputable def s49_0 (x0 : List Dt) (x1 x2 : Int) (x3 x4 : Dt) (x5 x6 : Int) (x7 : ByteArray) (x8 : List Dt) : St := ⟨tsOf [(1, (.ptr 0 [] 0)), (2, (.ptr 1 [] 0)), (3, (.ptr 2 [] 0)), (25, (.dat 27 (.lst x0))), (26, (.dat 3 (.int x1))), (27, (.dat 3 (.int x2)))], [(.box 30 (.dat 30 x3)), (.box 30 (.dat 30 x4)), (.box 30 (.agg 30 [(.dat 3 (.int x5)), (.dat 3 (.int x6)), (.dat 9 (.str x7)), (.row 3), (.nils 28)])), (.row 27 x8)], 0⟩
noncomputable def s49_15 (x0 : List Dt) (x1 x2 : Int) (x3 : Dt) (x4 x5 : Int) (x6 : ByteArray) (x7 x8 : List Dt) : St := ⟨tsOf [(2, (.ptr 0 [] 0)), (3, (.ptr 1 [] 0)), (49, (.dat 28 (.lst x0))), (50, (.dat 3 (.int x1))), (51, (.dat 3 (.int x2)))], [(.box 30 (.dat 30 x3)), (.box 30 (.agg 30 [(.dat 3 (.int x4)), (.dat 3 (.int x5)), (.dat 9 (.str x6)), (.dat 27 (.lst x7)), (.row 2)])), (.row 28 x8)], 0⟩
noncomputable def s49_14 (x0 : List Dt) (x1 x2 : Int) (x3 : Dt) (x4 x5 : Int) (x6 : ByteArray) (x7 x8 : List Dt) : St := ⟨tsOf [(2, (.ptr 0 [] 0)), (3, (.ptr 1 [] 0)), (49, (.dat 28 (.lst x0))), (50, (.dat 3 (.int x1))), (51, (.dat 3 (.int x2)))], [(.box 30 (.dat 30 x3)), (.box 30 (.agg 30 [(.dat 3 (.int x4)), (.dat 3 (.int x5)), (.dat 9 (.str x6)), (.dat 27 (.lst x7)), (.row 2)])), (.row 28 x8)], 0⟩
noncomputable def s49_16 (x0 : Dt) (x1 x2 : Int) (x3 : ByteArray) (x4 x5 : List Dt) : St := ⟨tsOf [(2, (.ptr 0 [] 0)), (3, (.ptr 1 [] 0))], [(.box 30 (.dat 30 x0)), (.box 30 (.agg 30 [(.dat 3 (.int x1)), (.dat 3 (.int x2)), (.dat 9 (.str x3)), (.dat 27 (.lst x4)), (.row 2)])), (.row 28 x5)], 0⟩
noncomputable def s49_13 (x0 : List Dt) (x1 x2 : Int) (x3 : Dt) (x4 x5 : Int) (x6 : ByteArray) (x7 x8 : List Dt) : St := ⟨tsOf [(2, (.ptr 0 [] 0)), (3, (.ptr 1 [] 0)), (49, (.dat 28 (.lst x0))), (50, (.dat 3 (.int x1))), (51, (.dat 3 (.int x2)))], [(.box 30 (.dat 30 x3)), (.box 30 (.agg 30 [(.dat 3 (.int x4)), (.dat 3 (.int x5)), (.dat 9 (.str x6)), (.dat 27 (.lst x7)), (.row 2)])), (.row 28 x8)], 0⟩
noncomputable def s49_12 (x0 : List Dt) (x1 x2 : Int) (x3 : Dt) (x4 x5 : Int) (x6 : ByteArray) (x7 x8 : List Dt) : St := ⟨tsOf [(2, (.ptr 0 [] 0)), (3, (.ptr 1 [] 0)), (49, (.dat 28 (.lst x0))), (50, (.dat 3 (.int x1))), (51, (.dat 3 (.int x2)))], [(.box 30 (.dat 30 x3)), (.box 30 (.agg 30 [(.dat 3 (.int x4)), (.dat 3 (.int x5)), (.dat 9 (.str x6)), (.dat 27 (.lst x7)), (.row 2)])), (.row 28 x8)], 0⟩
noncomputable def s49_17 (x0 x1 : Dt) : St := ⟨tsOf [(2, (.ptr 0 [] 0)), (3, (.ptr 1 [] 0))], [(.box 30 (.dat 30 x0)), (.box 30 (.dat 30 x1))], 0⟩
noncomputable def s49_11 (x0 x1 x2 : Dt) : St := ⟨tsOf [(1, (.ptr 0 [] 0)), (2, (.ptr 1 [] 0)), (3, (.ptr 2 [] 0))], [(.box 30 (.dat 30 x0)), (.box 30 (.dat 30 x1)), (.box 30 (.dat 30 x2))], 0⟩
theorem path_clone_j3_eq (m : Nat) (M1 : Nat) (rec1 : List Dt → Int → Int → Dt → Dt → Int → Int → ByteArray → List Dt → Option (Dt)) (h1 : ∀ (x0 : List Dt) (x1 x2 : Int) (x3 x4 : Dt) (x5 x6 : Int) (x7 : ByteArray) (x8 : List Dt), l49 jn m [1, 1, 0, 1, 0, 1, 1, 0] [] M1 (s49_1 x0 x1 x2 x3 x4 x5 x6 x7 x8) = rec1 x0 x1 x2 x3 x4 x5 x6 x7 x8) (x0 : List Dt) (x1 x2 : Int) (x3 x4 : Dt) (x5 x6 : Int) (x7 : ByteArray) (x8 : List Dt) : e49 jn m [1, 1, 0, 1, 0, 1, 1, 0, 0, 1, 1, 1] [M1] (s49_3 x0 x1 x2 x3 x4 x5 x6 x7 x8) = path_clone_j3 m (path_clone m) rec1 x0 x1 x2 x3 x4 x5 x6 x7 x8 := by
  have h : ∀ J, e49 J m [1, 1, 0, 1, 0, 1, 1, 0, 0, 1, 1, 1] [M1] (s49_3 x0 x1 x2 x3 x4 x5 x6 x7 x8) =
    (J 1 5 M1 (s49_1 x0 x1 (IntKind.wrap IntKind.i64 (x2 + (1 : Int))) x3 x4 x5 x6 x7 x8) (l49 J m [1, 1, 0, 1, 0, 1, 1, 0] [] M1 (s49_1 x0 x1 (IntKind.wrap IntKind.i64 (x2 + (1 : Int))) x3 x4 x5 x6 x7 x8))) := fun J => by kernel_rfl
  exact (h jn).trans (by
    simp only [jn_eq, h1]
    rfl)
theorem path_clone_j2_eq (m : Nat) (M1 : Nat) (rec1 : List Dt → Int → Int → Dt → Dt → Int → Int → ByteArray → List Dt → Option (Dt)) (h1 : ∀ (x0 : List Dt) (x1 x2 : Int) (x3 x4 : Dt) (x5 x6 : Int) (x7 : ByteArray) (x8 : List Dt), l49 jn m [1, 1, 0, 1, 0, 1, 1, 0] [] M1 (s49_1 x0 x1 x2 x3 x4 x5 x6 x7 x8) = rec1 x0 x1 x2 x3 x4 x5 x6 x7 x8) (x0 : List Dt) (x1 x2 : Int) (x3 x4 : Dt) (x5 x6 : Int) (x7 : ByteArray) (x8 : List Dt) : e49 jn m [1, 1, 0, 1, 0, 1, 1, 0, 0, 1, 1] [M1] (s49_2 x0 x1 x2 x3 x4 x5 x6 x7 x8) = path_clone_j2 m (path_clone m) rec1 x0 x1 x2 x3 x4 x5 x6 x7 x8 := by
  have h : ∀ J, e49 J m [1, 1, 0, 1, 0, 1, 1, 0, 0, 1, 1] [M1] (s49_2 x0 x1 x2 x3 x4 x5 x6 x7 x8) =
    ((idx x0 x2).bind fun v1 =>
     ((path_clone m v1).bind fun r2 =>
     ((inL x8 x2).bind fun v3 =>
     ((x8[(Int.toNat x2)]?).bind fun v4 =>
     (J 0 8 0 (s49_3 x0 x1 x2 x3 x4 x5 x6 x7 (List.set x8 (Int.toNat x2) r2)) (e49 J m [1, 1, 0, 1, 0, 1, 1, 0, 0, 1, 1, 1] [M1] (s49_3 x0 x1 x2 x3 x4 x5 x6 x7 (List.set x8 (Int.toNat x2) r2)))))))) := fun J => by kernel_rfl
  exact (h jn).trans (by
    simp only [jn_eq, path_clone_j3_eq m M1 rec1 h1]
    rfl)
theorem path_clone_j8_eq (m : Nat) (M6 : Nat) (rec6 : List Dt → Int → Int → Dt → Int → Int → ByteArray → List Dt → List Dt → Option (Dt)) (h6 : ∀ (x0 : List Dt) (x1 x2 : Int) (x3 : Dt) (x4 x5 : Int) (x6 : ByteArray) (x7 x8 : List Dt), l49 jn m [1, 1, 1, 0, 1, 0, 1, 1, 0] [] M6 (s49_6 x0 x1 x2 x3 x4 x5 x6 x7 x8) = rec6 x0 x1 x2 x3 x4 x5 x6 x7 x8) (x0 : List Dt) (x1 x2 : Int) (x3 : Dt) (x4 x5 : Int) (x6 : ByteArray) (x7 x8 : List Dt) : e49 jn m [1, 1, 1, 0, 1, 0, 1, 1, 0, 0, 1, 1, 1] [M6] (s49_8 x0 x1 x2 x3 x4 x5 x6 x7 x8) = path_clone_j8 m (path_clone m) rec6 x0 x1 x2 x3 x4 x5 x6 x7 x8 := by
  have h : ∀ J, e49 J m [1, 1, 1, 0, 1, 0, 1, 1, 0, 0, 1, 1, 1] [M6] (s49_8 x0 x1 x2 x3 x4 x5 x6 x7 x8) =
    (J 1 12 M6 (s49_6 x0 x1 (IntKind.wrap IntKind.i64 (x2 + (1 : Int))) x3 x4 x5 x6 x7 x8) (l49 J m [1, 1, 1, 0, 1, 0, 1, 1, 0] [] M6 (s49_6 x0 x1 (IntKind.wrap IntKind.i64 (x2 + (1 : Int))) x3 x4 x5 x6 x7 x8))) := fun J => by kernel_rfl
  exact (h jn).trans (by
    simp only [jn_eq, h6]
    rfl)
theorem path_clone_j7_eq (m : Nat) (M6 : Nat) (rec6 : List Dt → Int → Int → Dt → Int → Int → ByteArray → List Dt → List Dt → Option (Dt)) (h6 : ∀ (x0 : List Dt) (x1 x2 : Int) (x3 : Dt) (x4 x5 : Int) (x6 : ByteArray) (x7 x8 : List Dt), l49 jn m [1, 1, 1, 0, 1, 0, 1, 1, 0] [] M6 (s49_6 x0 x1 x2 x3 x4 x5 x6 x7 x8) = rec6 x0 x1 x2 x3 x4 x5 x6 x7 x8) (x0 : List Dt) (x1 x2 : Int) (x3 : Dt) (x4 x5 : Int) (x6 : ByteArray) (x7 x8 : List Dt) : e49 jn m [1, 1, 1, 0, 1, 0, 1, 1, 0, 0, 1, 1] [M6] (s49_7 x0 x1 x2 x3 x4 x5 x6 x7 x8) = path_clone_j7 m (path_clone m) rec6 x0 x1 x2 x3 x4 x5 x6 x7 x8 := by
  have h : ∀ J, e49 J m [1, 1, 1, 0, 1, 0, 1, 1, 0, 0, 1, 1] [M6] (s49_7 x0 x1 x2 x3 x4 x5 x6 x7 x8) =
    ((idx x0 x2).bind fun v6 =>
     ((path_clone m (Dt.fld v6 1)).bind fun r7 =>
     ((inL x8 x2).bind fun v8 =>
     ((x8[(Int.toNat x2)]?).bind fun v9 =>
     (J 0 15 0 (s49_8 x0 x1 x2 x3 x4 x5 x6 x7 (List.set x8 (Int.toNat x2) (Dt.agg [(Dt.str (Dt.S v6 0)), r7]))) (e49 J m [1, 1, 1, 0, 1, 0, 1, 1, 0, 0, 1, 1, 1] [M6] (s49_8 x0 x1 x2 x3 x4 x5 x6 x7 (List.set x8 (Int.toNat x2) (Dt.agg [(Dt.str (Dt.S v6 0)), r7]))))))))) := fun J => by kernel_rfl
  exact (h jn).trans (by
    simp only [jn_eq, path_clone_j8_eq m M6 rec6 h6]
    rfl)
theorem path_clone_j9_eq (m : Nat) (x0 : Dt) (x1 x2 : Int) (x3 : ByteArray) (x4 x5 : List Dt) : e49 jn m [1, 1, 1, 1] [] (s49_9 x0 x1 x2 x3 x4 x5) = path_clone_j9 m (path_clone m) x0 x1 x2 x3 x4 x5 := by
  have h : ∀ J, e49 J m [1, 1, 1, 1] [] (s49_9 x0 x1 x2 x3 x4 x5) =
    some (Dt.agg [(Dt.int x1), (Dt.int x2), (Dt.str x3), (Dt.lst x4), (Dt.lst x5)]) := fun J => by kernel_rfl
  exact (h jn).trans (rfl)
theorem path_clone_l6_eq (m : Nat) : ∀ (M6 : Nat) (x0 : List Dt) (x1 x2 : Int) (x3 : Dt) (x4 x5 : Int) (x6 : ByteArray) (x7 x8 : List Dt), l49 jn m [1, 1, 1, 0, 1, 0, 1, 1, 0] [] M6 (s49_6 x0 x1 x2 x3 x4 x5 x6 x7 x8) = path_clone_l6 m (path_clone m) M6 x0 x1 x2 x3 x4 x5 x6 x7 x8
  | 0, _, _, _, _, _, _, _, _, _ => rfl
  | M6 + 1, x0, x1, x2, x3, x4, x5, x6, x7, x8 => by
    have h : ∀ J, l49 J m [1, 1, 1, 0, 1, 0, 1, 1, 0] [] (M6 + 1) (s49_6 x0 x1 x2 x3 x4 x5 x6 x7 x8) =
    (bif (decide (x2 < x1)) then
     (J 0 13 0 (s49_7 x0 x1 x2 x3 x4 x5 x6 x7 x8) (e49 J m [1, 1, 1, 0, 1, 0, 1, 1, 0, 0, 1, 1] [M6] (s49_7 x0 x1 x2 x3 x4 x5 x6 x7 x8)))
    else
     (J 0 16 0 (s49_9 x3 x4 x5 x6 x7 x8) (e49 J m [1, 1, 1, 1] [] (s49_9 x3 x4 x5 x6 x7 x8)))) := fun J => by kernel_rfl
    refine (h jn).trans ?_
    simp only [jn_eq, path_clone_j7_eq m M6 (path_clone_l6 m (path_clone m) M6) (fun x0 x1 x2 x3 x4 x5 x6 x7 x8 => path_clone_l6_eq m M6 x0 x1 x2 x3 x4 x5 x6 x7 x8), path_clone_j9_eq m]
    rfl
theorem path_clone_j5_eq (m : Nat) (x0 : List Dt) (x1 x2 : Int) (x3 : Dt) (x4 x5 : Int) (x6 : ByteArray) (x7 x8 : List Dt) : e49 jn m [1, 1, 1, 0, 1, 0, 1, 1] [] (s49_5 x0 x1 x2 x3 x4 x5 x6 x7 x8) = path_clone_j5 m (path_clone m) x0 x1 x2 x3 x4 x5 x6 x7 x8 := by
  have h : ∀ J, e49 J m [1, 1, 1, 0, 1, 0, 1, 1] [] (s49_5 x0 x1 x2 x3 x4 x5 x6 x7 x8) =
    (J 1 12 (Nat.succ m) (s49_6 x0 x1 x2 x3 x4 x5 x6 x7 x8) (l49 J m [1, 1, 1, 0, 1, 0, 1, 1, 0] [] (Nat.succ m) (s49_6 x0 x1 x2 x3 x4 x5 x6 x7 x8))) := fun J => by kernel_rfl
  exact (h jn).trans (by
    simp only [jn_eq, path_clone_l6_eq m]
    rfl)
theorem path_clone_j10_eq (m : Nat) (x0 : Dt) (x1 x2 : Int) (x3 : ByteArray) (x4 : List Dt) : e49 jn m [1, 1, 1, 1] [] (s49_10 x0 x1 x2 x3 x4) = path_clone_j10 m (path_clone m) x0 x1 x2 x3 x4 := by
  have h : ∀ J, e49 J m [1, 1, 1, 1] [] (s49_10 x0 x1 x2 x3 x4) =
    some (Dt.agg [(Dt.int x1), (Dt.int x2), (Dt.str x3), (Dt.lst x4), (Dt.lst [])]) := fun J => by kernel_rfl
  exact (h jn).trans (rfl)
theorem path_clone_j4_eq (m : Nat) (x0 x1 : Dt) (x2 x3 : Int) (x4 : ByteArray) (x5 : List Dt) : e49 jn m [1, 1, 1] [] (s49_4 x0 x1 x2 x3 x4 x5) = path_clone_j4 m (path_clone m) x0 x1 x2 x3 x4 x5 := by
  have h : ∀ J, e49 J m [1, 1, 1] [] (s49_4 x0 x1 x2 x3 x4 x5) =
    (bif (decide ((0 : Int) < (((List.length (Dt.L x0 4)) : Nat) : Int))) then
     ((mkL (((List.length (Dt.L x0 4)) : Nat) : Int) (((List.length (Dt.L x0 4)) : Nat) : Int) (Dt.agg [(Dt.str (ByteArray.mk (List.toArray []))), (Dt.agg [(Dt.int (0 : Int)), (Dt.int (0 : Int)), (Dt.str (ByteArray.mk (List.toArray []))), (Dt.lst []), (Dt.lst [])])])).bind fun v5 =>
     (J 0 12 0 (s49_5 (Dt.L x0 4) (((List.length (Dt.L x0 4)) : Nat) : Int) (0 : Int) x1 x2 x3 x4 x5 v5) (e49 J m [1, 1, 1, 0, 1, 0, 1, 1] [] (s49_5 (Dt.L x0 4) (((List.length (Dt.L x0 4)) : Nat) : Int) (0 : Int) x1 x2 x3 x4 x5 v5))))
    else
     (J 0 16 0 (s49_10 x1 x2 x3 x4 x5) (e49 J m [1, 1, 1, 1] [] (s49_10 x1 x2 x3 x4 x5)))) := fun J => by kernel_rfl
  exact (h jn).trans (by
    simp only [jn_eq, path_clone_j5_eq m, path_clone_j10_eq m]
    rfl)
theorem path_clone_l1_eq (m : Nat) : ∀ (M1 : Nat) (x0 : List Dt) (x1 x2 : Int) (x3 x4 : Dt) (x5 x6 : Int) (x7 : ByteArray) (x8 : List Dt), l49 jn m [1, 1, 0, 1, 0, 1, 1, 0] [] M1 (s49_1 x0 x1 x2 x3 x4 x5 x6 x7 x8) = path_clone_l1 m (path_clone m) M1 x0 x1 x2 x3 x4 x5 x6 x7 x8
  | 0, _, _, _, _, _, _, _, _, _ => rfl
  | M1 + 1, x0, x1, x2, x3, x4, x5, x6, x7, x8 => by
    have h : ∀ J, l49 J m [1, 1, 0, 1, 0, 1, 1, 0] [] (M1 + 1) (s49_1 x0 x1 x2 x3 x4 x5 x6 x7 x8) =
    (bif (decide (x2 < x1)) then
     (J 0 6 0 (s49_2 x0 x1 x2 x3 x4 x5 x6 x7 x8) (e49 J m [1, 1, 0, 1, 0, 1, 1, 0, 0, 1, 1] [M1] (s49_2 x0 x1 x2 x3 x4 x5 x6 x7 x8)))
    else
     (J 0 9 0 (s49_4 x3 x4 x5 x6 x7 x8) (e49 J m [1, 1, 1] [] (s49_4 x3 x4 x5 x6 x7 x8)))) := fun J => by kernel_rfl
    refine (h jn).trans ?_
    simp only [jn_eq, path_clone_j2_eq m M1 (path_clone_l1 m (path_clone m) M1) (fun x0 x1 x2 x3 x4 x5 x6 x7 x8 => path_clone_l1_eq m M1 x0 x1 x2 x3 x4 x5 x6 x7 x8), path_clone_j4_eq m]
    rfl
theorem path_clone_j0_eq (m : Nat) (x0 : List Dt) (x1 x2 : Int) (x3 x4 : Dt) (x5 x6 : Int) (x7 : ByteArray) (x8 : List Dt) : e49 jn m [1, 1, 0, 1, 0, 1, 1] [] (s49_0 x0 x1 x2 x3 x4 x5 x6 x7 x8) = path_clone_j0 m (path_clone m) x0 x1 x2 x3 x4 x5 x6 x7 x8 := by
  have h : ∀ J, e49 J m [1, 1, 0, 1, 0, 1, 1] [] (s49_0 x0 x1 x2 x3 x4 x5 x6 x7 x8) =
    (J 1 5 (Nat.succ m) (s49_1 x0 x1 x2 x3 x4 x5 x6 x7 x8) (l49 J m [1, 1, 0, 1, 0, 1, 1, 0] [] (Nat.succ m) (s49_1 x0 x1 x2 x3 x4 x5 x6 x7 x8))) := fun J => by kernel_rfl
  exact (h jn).trans (by
    simp only [jn_eq, path_clone_l1_eq m]
    rfl)
theorem path_clone_j15_eq (m : Nat) (M13 : Nat) (rec13 : List Dt → Int → Int → Dt → Int → Int → ByteArray → List Dt → List Dt → Option (Dt)) (h13 : ∀ (x0 : List Dt) (x1 x2 : Int) (x3 : Dt) (x4 x5 : Int) (x6 : ByteArray) (x7 x8 : List Dt), l49 jn m [1, 1, 1, 0, 1, 0, 1, 1, 0] [] M13 (s49_13 x0 x1 x2 x3 x4 x5 x6 x7 x8) = rec13 x0 x1 x2 x3 x4 x5 x6 x7 x8) (x0 : List Dt) (x1 x2 : Int) (x3 : Dt) (x4 x5 : Int) (x6 : ByteArray) (x7 x8 : List Dt) : e49 jn m [1, 1, 1, 0, 1, 0, 1, 1, 0, 0, 1, 1, 1] [M13] (s49_15 x0 x1 x2 x3 x4 x5 x6 x7 x8) = path_clone_j15 m (path_clone m) rec13 x0 x1 x2 x3 x4 x5 x6 x7 x8 := by
  have h : ∀ J, e49 J m [1, 1, 1, 0, 1, 0, 1, 1, 0, 0, 1, 1, 1] [M13] (s49_15 x0 x1 x2 x3 x4 x5 x6 x7 x8) =
    (J 1 12 M13 (s49_13 x0 x1 (IntKind.wrap IntKind.i64 (x2 + (1 : Int))) x3 x4 x5 x6 x7 x8) (l49 J m [1, 1, 1, 0, 1, 0, 1, 1, 0] [] M13 (s49_13 x0 x1 (IntKind.wrap IntKind.i64 (x2 + (1 : Int))) x3 x4 x5 x6 x7 x8))) := fun J => by kernel_rfl
  exact (h jn).trans (by
    simp only [jn_eq, h13]
    rfl)
theorem path_clone_j14_eq (m : Nat) (M13 : Nat) (rec13 : List Dt → Int → Int → Dt → Int → Int → ByteArray → List Dt → List Dt → Option (Dt)) (h13 : ∀ (x0 : List Dt) (x1 x2 : Int) (x3 : Dt) (x4 x5 : Int) (x6 : ByteArray) (x7 x8 : List Dt), l49 jn m [1, 1, 1, 0, 1, 0, 1, 1, 0] [] M13 (s49_13 x0 x1 x2 x3 x4 x5 x6 x7 x8) = rec13 x0 x1 x2 x3 x4 x5 x6 x7 x8) (x0 : List Dt) (x1 x2 : Int) (x3 : Dt) (x4 x5 : Int) (x6 : ByteArray) (x7 x8 : List Dt) : e49 jn m [1, 1, 1, 0, 1, 0, 1, 1, 0, 0, 1, 1] [M13] (s49_14 x0 x1 x2 x3 x4 x5 x6 x7 x8) = path_clone_j14 m (path_clone m) rec13 x0 x1 x2 x3 x4 x5 x6 x7 x8 := by
  have h : ∀ J, e49 J m [1, 1, 1, 0, 1, 0, 1, 1, 0, 0, 1, 1] [M13] (s49_14 x0 x1 x2 x3 x4 x5 x6 x7 x8) =
    ((idx x0 x2).bind fun v11 =>
     ((path_clone m (Dt.fld v11 1)).bind fun r12 =>
     ((inL x8 x2).bind fun v13 =>
     ((x8[(Int.toNat x2)]?).bind fun v14 =>
     (J 0 15 0 (s49_15 x0 x1 x2 x3 x4 x5 x6 x7 (List.set x8 (Int.toNat x2) (Dt.agg [(Dt.str (Dt.S v11 0)), r12]))) (e49 J m [1, 1, 1, 0, 1, 0, 1, 1, 0, 0, 1, 1, 1] [M13] (s49_15 x0 x1 x2 x3 x4 x5 x6 x7 (List.set x8 (Int.toNat x2) (Dt.agg [(Dt.str (Dt.S v11 0)), r12]))))))))) := fun J => by kernel_rfl
  exact (h jn).trans (by
    simp only [jn_eq, path_clone_j15_eq m M13 rec13 h13]
    rfl)
theorem path_clone_j16_eq (m : Nat) (x0 : Dt) (x1 x2 : Int) (x3 : ByteArray) (x4 x5 : List Dt) : e49 jn m [1, 1, 1, 1] [] (s49_16 x0 x1 x2 x3 x4 x5) = path_clone_j16 m (path_clone m) x0 x1 x2 x3 x4 x5 := by
  have h : ∀ J, e49 J m [1, 1, 1, 1] [] (s49_16 x0 x1 x2 x3 x4 x5) =
    some (Dt.agg [(Dt.int x1), (Dt.int x2), (Dt.str x3), (Dt.lst x4), (Dt.lst x5)]) := fun J => by kernel_rfl
  exact (h jn).trans (rfl)
theorem path_clone_l13_eq (m : Nat) : ∀ (M13 : Nat) (x0 : List Dt) (x1 x2 : Int) (x3 : Dt) (x4 x5 : Int) (x6 : ByteArray) (x7 x8 : List Dt), l49 jn m [1, 1, 1, 0, 1, 0, 1, 1, 0] [] M13 (s49_13 x0 x1 x2 x3 x4 x5 x6 x7 x8) = path_clone_l13 m (path_clone m) M13 x0 x1 x2 x3 x4 x5 x6 x7 x8
  | 0, _, _, _, _, _, _, _, _, _ => rfl
  | M13 + 1, x0, x1, x2, x3, x4, x5, x6, x7, x8 => by
    have h : ∀ J, l49 J m [1, 1, 1, 0, 1, 0, 1, 1, 0] [] (M13 + 1) (s49_13 x0 x1 x2 x3 x4 x5 x6 x7 x8) =
    (bif (decide (x2 < x1)) then
     (J 0 13 0 (s49_14 x0 x1 x2 x3 x4 x5 x6 x7 x8) (e49 J m [1, 1, 1, 0, 1, 0, 1, 1, 0, 0, 1, 1] [M13] (s49_14 x0 x1 x2 x3 x4 x5 x6 x7 x8)))
    else
     (J 0 16 0 (s49_16 x3 x4 x5 x6 x7 x8) (e49 J m [1, 1, 1, 1] [] (s49_16 x3 x4 x5 x6 x7 x8)))) := fun J => by kernel_rfl
    refine (h jn).trans ?_
    simp only [jn_eq, path_clone_j14_eq m M13 (path_clone_l13 m (path_clone m) M13) (fun x0 x1 x2 x3 x4 x5 x6 x7 x8 => path_clone_l13_eq m M13 x0 x1 x2 x3 x4 x5 x6 x7 x8), path_clone_j16_eq m]
    rfl
theorem path_clone_j12_eq (m : Nat) (x0 : List Dt) (x1 x2 : Int) (x3 : Dt) (x4 x5 : Int) (x6 : ByteArray) (x7 x8 : List Dt) : e49 jn m [1, 1, 1, 0, 1, 0, 1, 1] [] (s49_12 x0 x1 x2 x3 x4 x5 x6 x7 x8) = path_clone_j12 m (path_clone m) x0 x1 x2 x3 x4 x5 x6 x7 x8 := by
  have h : ∀ J, e49 J m [1, 1, 1, 0, 1, 0, 1, 1] [] (s49_12 x0 x1 x2 x3 x4 x5 x6 x7 x8) =
    (J 1 12 (Nat.succ m) (s49_13 x0 x1 x2 x3 x4 x5 x6 x7 x8) (l49 J m [1, 1, 1, 0, 1, 0, 1, 1, 0] [] (Nat.succ m) (s49_13 x0 x1 x2 x3 x4 x5 x6 x7 x8))) := fun J => by kernel_rfl
  exact (h jn).trans (by
    simp only [jn_eq, path_clone_l13_eq m]
    rfl)
theorem path_clone_j17_eq (m : Nat) (x0 x1 : Dt) : e49 jn m [1, 1, 1, 1] [] (s49_17 x0 x1) = path_clone_j17 m (path_clone m) x0 x1 := by
  have h : ∀ J, e49 J m [1, 1, 1, 1] [] (s49_17 x0 x1) =
    some x1 := fun J => by kernel_rfl
  exact (h jn).trans (rfl)
theorem path_clone_j11_eq (m : Nat) (x0 x1 x2 : Dt) : e49 jn m [1, 1, 1] [] (s49_11 x0 x1 x2) = path_clone_j11 m (path_clone m) x0 x1 x2 := by
  have h : ∀ J, e49 J m [1, 1, 1] [] (s49_11 x0 x1 x2) =
    (bif (decide ((0 : Int) < (((List.length (Dt.L x0 4)) : Nat) : Int))) then
     ((mkL (((List.length (Dt.L x0 4)) : Nat) : Int) (((List.length (Dt.L x0 4)) : Nat) : Int) (Dt.agg [(Dt.str (ByteArray.mk (List.toArray []))), (Dt.agg [(Dt.int (0 : Int)), (Dt.int (0 : Int)), (Dt.str (ByteArray.mk (List.toArray []))), (Dt.lst []), (Dt.lst [])])])).bind fun v10 =>
     (J 0 12 0 (s49_12 (Dt.L x0 4) (((List.length (Dt.L x0 4)) : Nat) : Int) (0 : Int) x1 (Dt.I x2 0) (Dt.I x2 1) (Dt.S x2 2) (Dt.L x2 3) v10) (e49 J m [1, 1, 1, 0, 1, 0, 1, 1] [] (s49_12 (Dt.L x0 4) (((List.length (Dt.L x0 4)) : Nat) : Int) (0 : Int) x1 (Dt.I x2 0) (Dt.I x2 1) (Dt.S x2 2) (Dt.L x2 3) v10))))
    else
     (J 0 16 0 (s49_17 x1 x2) (e49 J m [1, 1, 1, 1] [] (s49_17 x1 x2)))) := fun J => by kernel_rfl
  exact (h jn).trans (by
    simp only [jn_eq, path_clone_j12_eq m, path_clone_j17_eq m]
    rfl)
theorem path_clone_eq (m : Nat) (a0 : Dt) : e49 jn m [] [] ⟨[(.dat 30 a0)], [], 0⟩ = path_clone (m + 1) a0 := by
  have h : ∀ J, e49 J m [] [] ⟨[(.dat 30 a0)], [], 0⟩ =
    (bif (decide ((0 : Int) < (((List.length (Dt.L a0 3)) : Nat) : Int))) then
     ((mkL (((List.length (Dt.L a0 3)) : Nat) : Int) (((List.length (Dt.L a0 3)) : Nat) : Int) (Dt.agg [(Dt.int (0 : Int)), (Dt.int (0 : Int)), (Dt.str (ByteArray.mk (List.toArray []))), (Dt.lst []), (Dt.lst [])])).bind fun v0 =>
     (J 0 5 0 (s49_0 (Dt.L a0 3) (((List.length (Dt.L a0 3)) : Nat) : Int) (0 : Int) a0 (Dt.agg [(Dt.int (0 : Int)), (Dt.int (0 : Int)), (Dt.str (ByteArray.mk (List.toArray []))), (Dt.lst []), (Dt.lst [])]) (Dt.I a0 0) (Dt.I a0 1) (Dt.S a0 2) v0) (e49 J m [1, 1, 0, 1, 0, 1, 1] [] (s49_0 (Dt.L a0 3) (((List.length (Dt.L a0 3)) : Nat) : Int) (0 : Int) a0 (Dt.agg [(Dt.int (0 : Int)), (Dt.int (0 : Int)), (Dt.str (ByteArray.mk (List.toArray []))), (Dt.lst []), (Dt.lst [])]) (Dt.I a0 0) (Dt.I a0 1) (Dt.S a0 2) v0))))
    else
     (J 0 9 0 (s49_11 a0 (Dt.agg [(Dt.int (0 : Int)), (Dt.int (0 : Int)), (Dt.str (ByteArray.mk (List.toArray []))), (Dt.lst []), (Dt.lst [])]) (Dt.agg [(Dt.int (Dt.I a0 0)), (Dt.int (Dt.I a0 1)), (Dt.str (Dt.S a0 2)), (Dt.lst []), (Dt.lst [])])) (e49 J m [1, 1, 1] [] (s49_11 a0 (Dt.agg [(Dt.int (0 : Int)), (Dt.int (0 : Int)), (Dt.str (ByteArray.mk (List.toArray []))), (Dt.lst []), (Dt.lst [])]) (Dt.agg [(Dt.int (Dt.I a0 0)), (Dt.int (Dt.I a0 1)), (Dt.str (Dt.S a0 2)), (Dt.lst []), (Dt.lst [])]))))) := fun J => by kernel_rfl
  refine (h jn).trans ?_
  simp only [jn_eq, path_clone_j0_eq m, path_clone_j11_eq m]
  rfl
noncomputable def d38 (q : Res) : Option (List Dt) := match q with
  | (.dat T0 x0, []) => bif Nat.beq T0 27 then some x0.toLst else none
  | _ => none
theorem d38_sim {b : Res} {r : List Dt} (h : d38 b = some r) : Sim Tryd.prog b ((.dat 27 (.lst r)), []) := by
  unfold d38 at h
  split at h
  · obtain ⟨hc, h2⟩ := bif_some h
    cases h2
    have e0 := beq_eq hc
    subst e0
    exact Sim.of (.of (.dat (.lst Tryd.underlying27)) rfl rfl) .nil
  · cases h
noncomputable def e38 (J : Nat → Nat → Nat → St → Option (List Dt) → Option (List Dt)) (m : Nat) (p ms : List Nat) (σ : St) := evAt Tryd.prog env (ct m) J (m + 1) 50 30 Tryd.f50 d38 p ms σ
noncomputable def l38 (J : Nat → Nat → Nat → St → Option (List Dt) → Option (List Dt)) (m : Nat) (p ms : List Nat) (M : Nat) (σ : St) := loopAt Tryd.prog env (ct m) J (m + 1) 50 30 Tryd.f50 d38 p ms M σ
noncomputable def s38_4 (x0 x1 : Int) (x2 : List Dt) : St := ⟨tsOf [(5, (.row 0)), (16, (.row 0)), (17, (.dat 3 (.int x0))), (18, (.dat 3 (.int x1)))], [(.row 27 x2)], 0⟩
noncomputable def s38_3 (x0 x1 : Int) (x2 : List Dt) : St := ⟨tsOf [(5, (.row 0)), (16, (.row 0)), (17, (.dat 3 (.int x0))), (18, (.dat 3 (.int x1)))], [(.row 27 x2)], 0⟩
noncomputable def s38_5 (x0 : List Dt) : St := ⟨tsOf [(5, (.row 0))], [(.row 27 x0)], 0⟩
noncomputable def s38_2 (x0 x1 : Int) (x2 : List Dt) : St := ⟨tsOf [(5, (.row 0)), (16, (.row 0)), (17, (.dat 3 (.int x0))), (18, (.dat 3 (.int x1)))], [(.row 27 x2)], 0⟩
noncomputable def s38_1 (x0 x1 : Int) (x2 : List Dt) : St := ⟨tsOf [(5, (.row 0)), (16, (.row 0)), (17, (.dat 3 (.int x0))), (18, (.dat 3 (.int x1)))], [(.row 27 x2)], 0⟩
noncomputable def s38_0 (x0 : List Dt) : St := ⟨tsOf [(5, (.row 0))], [(.row 27 x0)], 0⟩
theorem path_Reach_j4_eq (m : Nat) (M2 : Nat) (rec2 : Int → Int → List Dt → Option (List Dt)) (h2 : ∀ (x0 x1 : Int) (x2 : List Dt), l38 jn m [1, 1, 1, 0, 1, 0] [] M2 (s38_2 x0 x1 x2) = rec2 x0 x1 x2) (x0 x1 : Int) (x2 : List Dt) : e38 jn m [1, 1, 1, 0, 1, 0, 0, 1, 1, 1] [M2] (s38_4 x0 x1 x2) = path_Reach_j4 m rec2 x0 x1 x2 := by
  have h : ∀ J, e38 J m [1, 1, 1, 0, 1, 0, 0, 1, 1, 1] [M2] (s38_4 x0 x1 x2) =
    (J 1 5 M2 (s38_2 x0 (IntKind.wrap IntKind.i64 (x1 + (1 : Int))) x2) (l38 J m [1, 1, 1, 0, 1, 0] [] M2 (s38_2 x0 (IntKind.wrap IntKind.i64 (x1 + (1 : Int))) x2))) := fun J => by kernel_rfl
  exact (h jn).trans (by
    simp only [jn_eq, h2]
    rfl)
theorem path_Reach_j3_eq (m : Nat) (M2 : Nat) (rec2 : Int → Int → List Dt → Option (List Dt)) (h2 : ∀ (x0 x1 : Int) (x2 : List Dt), l38 jn m [1, 1, 1, 0, 1, 0] [] M2 (s38_2 x0 x1 x2) = rec2 x0 x1 x2) (x0 x1 : Int) (x2 : List Dt) : e38 jn m [1, 1, 1, 0, 1, 0, 0, 1, 1] [M2] (s38_3 x0 x1 x2) = path_Reach_j3 m rec2 x0 x1 x2 := by
  have h : ∀ J, e38 J m [1, 1, 1, 0, 1, 0, 0, 1, 1] [M2] (s38_3 x0 x1 x2) =
    ((inL x2 x1).bind fun v1 =>
     ((x2[(Int.toNat x1)]?).bind fun v2 =>
     ((path_clone m v2).bind fun r3 =>
     ((inL x2 x1).bind fun v4 =>
     ((x2[(Int.toNat x1)]?).bind fun v5 =>
     (J 0 8 0 (s38_4 x0 x1 (List.set x2 (Int.toNat x1) r3)) (e38 J m [1, 1, 1, 0, 1, 0, 0, 1, 1, 1] [M2] (s38_4 x0 x1 (List.set x2 (Int.toNat x1) r3))))))))) := fun J => by kernel_rfl
  exact (h jn).trans (by
    simp only [jn_eq, path_Reach_j4_eq m M2 rec2 h2]
    rfl)
theorem path_Reach_j5_eq (m : Nat) (x0 : List Dt) : e38 jn m [1, 1, 1, 1] [] (s38_5 x0) = path_Reach_j5 m x0 := by
  have h : ∀ J, e38 J m [1, 1, 1, 1] [] (s38_5 x0) =
    some x0 := fun J => by kernel_rfl
  exact (h jn).trans (rfl)
theorem path_Reach_l2_eq (m : Nat) : ∀ (M2 : Nat) (x0 x1 : Int) (x2 : List Dt), l38 jn m [1, 1, 1, 0, 1, 0] [] M2 (s38_2 x0 x1 x2) = path_Reach_l2 m M2 x0 x1 x2
  | 0, _, _, _ => rfl
  | M2 + 1, x0, x1, x2 => by
    have h : ∀ J, l38 J m [1, 1, 1, 0, 1, 0] [] (M2 + 1) (s38_2 x0 x1 x2) =
    (bif (decide (x1 < x0)) then
     (J 0 6 0 (s38_3 x0 x1 x2) (e38 J m [1, 1, 1, 0, 1, 0, 0, 1, 1] [M2] (s38_3 x0 x1 x2)))
    else
     (J 0 9 0 (s38_5 x2) (e38 J m [1, 1, 1, 1] [] (s38_5 x2)))) := fun J => by kernel_rfl
    refine (h jn).trans ?_
    simp only [jn_eq, path_Reach_j3_eq m M2 (path_Reach_l2 m M2) (fun x0 x1 x2 => path_Reach_l2_eq m M2 x0 x1 x2), path_Reach_j5_eq m]
    rfl
theorem path_Reach_j1_eq (m : Nat) (x0 x1 : Int) (x2 : List Dt) : e38 jn m [1, 1, 1, 0, 1] [] (s38_1 x0 x1 x2) = path_Reach_j1 m x0 x1 x2 := by
  have h : ∀ J, e38 J m [1, 1, 1, 0, 1] [] (s38_1 x0 x1 x2) =
    (J 1 5 (Nat.succ m) (s38_2 x0 x1 x2) (l38 J m [1, 1, 1, 0, 1, 0] [] (Nat.succ m) (s38_2 x0 x1 x2))) := fun J => by kernel_rfl
  exact (h jn).trans (by
    simp only [jn_eq, path_Reach_l2_eq m]
    rfl)
theorem path_Reach_j0_eq (m : Nat) (x0 : List Dt) : e38 jn m [1, 1, 1] [] (s38_0 x0) = path_Reach_j0 m x0 := by
  have h : ∀ J, e38 J m [1, 1, 1] [] (s38_0 x0) =
    (J 0 5 0 (s38_1 (((List.length x0) : Nat) : Int) (0 : Int) x0) (e38 J m [1, 1, 1, 0, 1] [] (s38_1 (((List.length x0) : Nat) : Int) (0 : Int) x0))) := fun J => by kernel_rfl
  exact (h jn).trans (by
    simp only [jn_eq, path_Reach_j1_eq m]
    rfl)
theorem path_Reach_eq (m : Nat) (a0 : Dt) (a1 : List Dt) : e38 jn m [] [] ⟨[(.dat 30 a0), (.dat 45 (.lst a1))], [], 0⟩ = path_Reach (m + 1) a0 a1 := by
  have h : ∀ J, e38 J m [] [] ⟨[(.dat 30 a0), (.dat 45 (.lst a1))], [], 0⟩ =
    ((i46 m a0 a1 []).bind fun r0 =>
     (bif ((((List.length r0) : Nat) : Int) == (0 : Int)) then
     some [(Dt.agg [(Dt.int (0 : Int)), (Dt.int (0 : Int)), (Dt.str (ByteArray.mk (List.toArray []))), (Dt.lst []), (Dt.lst [])])]
     else
     (J 0 4 0 (s38_0 r0) (e38 J m [1, 1, 1] [] (s38_0 r0))))) := fun J => by kernel_rfl
  refine (h jn).trans ?_
  simp only [jn_eq, path_Reach_j0_eq m]
  rfl
noncomputable def d50 (q : Res) : Option (Bool) := match q with
  | (.dat T0 x0, []) => bif Nat.beq T0 4 then some x0.toBool else none
  | _ => none
theorem d50_sim {b : Res} {r : Bool} (h : d50 b = some r) : Sim Tryd.prog b ((.dat 4 (.bool r)), []) := by
  unfold d50 at h
  split at h
  · obtain ⟨hc, h2⟩ := bif_some h
    cases h2
    have e0 := beq_eq hc
    subst e0
    exact Sim.of (.of (.dat (.bool Tryd.underlying4)) rfl rfl) .nil
  · cases h
noncomputable def e50 (J : Nat → Nat → Nat → St → Option (Bool) → Option (Bool)) (m : Nat) (p ms : List Nat) (σ : St) := evAt Tryd.prog env (ct m) J (m + 1) 78 6 Tryd.f78 d50 p ms σ
noncomputable def l50 (J : Nat → Nat → Nat → St → Option (Bool) → Option (Bool)) (m : Nat) (p ms : List Nat) (M : Nat) (σ : St) := loopAt Tryd.prog env (ct m) J (m + 1) 78 6 Tryd.f78 d50 p ms M σ
theorem cmp_isNaN_eq (m : Nat) (a0 : Int) : e50 jn m [] [] ⟨[(.dat 3 (.int a0))], [], 0⟩ = cmp_isNaN (m + 1) a0 := by
  have h : ∀ J, e50 J m [] [] ⟨[(.dat 3 (.int a0))], [], 0⟩ =
    some (a0 != a0) := fun J => by kernel_rfl
  refine (h jn).trans ?_
  
  rfl
noncomputable def d39 (q : Res) : Option (Int) := match q with
  | (.dat T0 x0, []) => bif Nat.beq T0 3 then some x0.toInt else none
  | _ => none
theorem d39_sim {b : Res} {r : Int} (h : d39 b = some r) : Sim Tryd.prog b ((.dat 3 (.int r)), []) := by
  unfold d39 at h
  split at h
  · obtain ⟨hc, h2⟩ := bif_some h
    cases h2
    have e0 := beq_eq hc
    subst e0
    exact Sim.of (.of (.dat (.int Tryd.underlying3)) rfl rfl) .nil
  · cases h
noncomputable def e39 (J : Nat → Nat → Nat → St → Option (Int) → Option (Int)) (m : Nat) (p ms : List Nat) (σ : St) := evAt Tryd.prog env (ct m) J (m + 1) 66 20 Tryd.f66 d39 p ms σ
noncomputable def l39 (J : Nat → Nat → Nat → St → Option (Int) → Option (Int)) (m : Nat) (p ms : List Nat) (M : Nat) (σ : St) := loopAt Tryd.prog env (ct m) J (m + 1) 66 20 Tryd.f66 d39 p ms M σ
noncomputable def s39_0 : St := ⟨tsOf [], [], 0⟩
noncomputable def s39_4 : St := ⟨tsOf [], [], 0⟩
noncomputable def s39_3 (x0 x1 : Int) : St := ⟨tsOf [(0, (.dat 3 (.int x0))), (1, (.dat 3 (.int x1)))], [], 0⟩
noncomputable def s39_2 (x0 x1 : Int) : St := ⟨tsOf [(0, (.dat 3 (.int x0))), (1, (.dat 3 (.int x1)))], [], 0⟩
noncomputable def s39_1 (x0 x1 : Int) (x2 : Bool) : St := ⟨tsOf [(0, (.dat 3 (.int x0))), (1, (.dat 3 (.int x1))), (6, (.dat 4 (.bool x2)))], [], 0⟩
theorem cmp_Compare_j0_eq (m : Nat) : e39 jn m [1, 1, 1, 0, 1, 0, 1] [] s39_0 = cmp_Compare_j0 m := by
  have h : ∀ J, e39 J m [1, 1, 1, 0, 1, 0, 1] [] s39_0 =
    some (-1 : Int) := fun J => by kernel_rfl
  exact (h jn).trans (rfl)
theorem cmp_Compare_j4_eq (m : Nat) : e39 jn m [1, 1, 1, 1, 1, 1, 1] [] s39_4 = cmp_Compare_j4 m := by
  have h : ∀ J, e39 J m [1, 1, 1, 1, 1, 1, 1] [] s39_4 =
    some (0 : Int) := fun J => by kernel_rfl
  exact (h jn).trans (rfl)
theorem cmp_Compare_j3_eq (m : Nat) (x0 x1 : Int) : e39 jn m [1, 1, 1, 1, 1, 1] [] (s39_3 x0 x1) = cmp_Compare_j3 m x0 x1 := by
  have h : ∀ J, e39 J m [1, 1, 1, 1, 1, 1] [] (s39_3 x0 x1) =
    (bif (decide (x1 < x0)) then
     some (1 : Int)
    else
     (J 0 13 0 s39_4 (e39 J m [1, 1, 1, 1, 1, 1, 1] [] s39_4))) := fun J => by kernel_rfl
  exact (h jn).trans (by
    simp only [jn_eq, cmp_Compare_j4_eq m]
    rfl)
theorem cmp_Compare_j2_eq (m : Nat) (x0 x1 : Int) : e39 jn m [1, 1, 1, 1, 1] [] (s39_2 x0 x1) = cmp_Compare_j2 m x0 x1 := by
  have h : ∀ J, e39 J m [1, 1, 1, 1, 1] [] (s39_2 x0 x1) =
    (bif (decide (x0 < x1)) then
     some (-1 : Int)
    else
     (J 0 11 0 (s39_3 x0 x1) (e39 J m [1, 1, 1, 1, 1, 1] [] (s39_3 x0 x1)))) := fun J => by kernel_rfl
  exact (h jn).trans (by
    simp only [jn_eq, cmp_Compare_j3_eq m]
    rfl)
theorem cmp_Compare_j1_eq (m : Nat) (x0 x1 : Int) (x2 : Bool) : e39 jn m [1, 1, 1, 1] [] (s39_1 x0 x1 x2) = cmp_Compare_j1 m x0 x1 x2 := by
  have h : ∀ J, e39 J m [1, 1, 1, 1] [] (s39_1 x0 x1 x2) =
    (bif x2 then
     some (1 : Int)
    else
     (J 0 9 0 (s39_2 x0 x1) (e39 J m [1, 1, 1, 1, 1] [] (s39_2 x0 x1)))) := fun J => by kernel_rfl
  exact (h jn).trans (by
    simp only [jn_eq, cmp_Compare_j2_eq m]
    rfl)
theorem cmp_Compare_eq (m : Nat) (a0 a1 : Int) : e39 jn m [] [] ⟨[(.dat 3 (.int a0)), (.dat 3 (.int a1))], [], 0⟩ = cmp_Compare (m + 1) a0 a1 := by
  have h : ∀ J, e39 J m [] [] ⟨[(.dat 3 (.int a0)), (.dat 3 (.int a1))], [], 0⟩ =
    ((cmp_isNaN m a0).bind fun r0 =>
     ((cmp_isNaN m a1).bind fun r1 =>
     (bif r0 then
     (bif r1 then
     some (0 : Int)
     else
     (J 0 6 0 s39_0 (e39 J m [1, 1, 1, 0, 1, 0, 1] [] s39_0)))
     else
     (J 0 7 0 (s39_1 a0 a1 r1) (e39 J m [1, 1, 1, 1] [] (s39_1 a0 a1 r1)))))) := fun J => by kernel_rfl
  refine (h jn).trans ?_
  simp only [jn_eq, cmp_Compare_j0_eq m, cmp_Compare_j1_eq m]
  rfl
noncomputable def d30 (q : Res) : Option (Int) := match q with
  | (.dat T0 x0, []) => bif Nat.beq T0 3 then some x0.toInt else none
  | _ => none
theorem d30_sim {b : Res} {r : Int} (h : d30 b = some r) : Sim Tryd.prog b ((.dat 3 (.int r)), []) := by
  unfold d30 at h
  split at h
  · obtain ⟨hc, h2⟩ := bif_some h
    cases h2
    have e0 := beq_eq hc
    subst e0
    exact Sim.of (.of (.dat (.int Tryd.underlying3)) rfl rfl) .nil
  · cases h
noncomputable def e30 (J : Nat → Nat → Nat → St → Option (Int) → Option (Int)) (m : Nat) (p ms : List Nat) (σ : St) := evAt Tryd.prog env (ct m) J (m + 1) 51 126 Tryd.f51 d30 p ms σ
noncomputable def l30 (J : Nat → Nat → Nat → St → Option (Int) → Option (Int)) (m : Nat) (p ms : List Nat) (M : Nat) (σ : St) := loopAt Tryd.prog env (ct m) J (m + 1) 51 126 Tryd.f51 d30 p ms M σ
noncomputable def s30_4 (x0 x1 : Int) (x2 x3 : Dt) : St := ⟨tsOf [(2, (.ptr 0 [] 0)), (3, (.ptr 1 [] 0)), (48, (.dat 3 (.int x0))), (49, (.dat 3 (.int x1)))], [(.box 30 (.dat 30 x2)), (.box 30 (.dat 30 x3))], 0⟩
noncomputable def s30_3 (x0 x1 : Int) (x2 x3 : Dt) : St := ⟨tsOf [(2, (.ptr 0 [] 0)), (3, (.ptr 1 [] 0)), (48, (.dat 3 (.int x0))), (49, (.dat 3 (.int x1)))], [(.box 30 (.dat 30 x2)), (.box 30 (.dat 30 x3))], 0⟩
noncomputable def s30_5 (x0 x1 : Dt) : St := ⟨tsOf [(2, (.ptr 0 [] 0)), (3, (.ptr 1 [] 0))], [(.box 30 (.dat 30 x0)), (.box 30 (.dat 30 x1))], 0⟩
noncomputable def s30_2 (x0 x1 : Int) (x2 x3 : Dt) : St := ⟨tsOf [(2, (.ptr 0 [] 0)), (3, (.ptr 1 [] 0)), (48, (.dat 3 (.int x0))), (49, (.dat 3 (.int x1)))], [(.box 30 (.dat 30 x2)), (.box 30 (.dat 30 x3))], 0⟩
noncomputable def s30_1 (x0 x1 : Int) (x2 x3 : Dt) : St := ⟨tsOf [(2, (.ptr 0 [] 0)), (3, (.ptr 1 [] 0)), (48, (.dat 3 (.int x0))), (49, (.dat 3 (.int x1)))], [(.box 30 (.dat 30 x2)), (.box 30 (.dat 30 x3))], 0⟩
noncomputable def s30_10 (x0 x1 : Int) (x2 x3 : Dt) : St := ⟨tsOf [(2, (.ptr 0 [] 0)), (3, (.ptr 1 [] 0)), (82, (.dat 3 (.int x0))), (83, (.dat 3 (.int x1)))], [(.box 30 (.dat 30 x2)), (.box 30 (.dat 30 x3))], 0⟩
noncomputable def s30_9 (x0 x1 x2 : Int) (x3 x4 : Dt) : St := ⟨tsOf [(2, (.ptr 0 [] 0)), (3, (.ptr 1 [] 0)), (7, (.dat 3 (.int x0))), (82, (.dat 3 (.int x1))), (83, (.dat 3 (.int x2)))], [(.box 30 (.dat 30 x3)), (.box 30 (.dat 30 x4))], 0⟩
noncomputable def s30_8 (x0 x1 : Int) (x2 x3 : Dt) : St := ⟨tsOf [(2, (.ptr 0 [] 0)), (3, (.ptr 1 [] 0)), (82, (.dat 3 (.int x0))), (83, (.dat 3 (.int x1)))], [(.box 30 (.dat 30 x2)), (.box 30 (.dat 30 x3))], 0⟩
noncomputable def s30_11 (x0 x1 : Dt) : St := ⟨tsOf [(2, (.ptr 0 [] 0)), (3, (.ptr 1 [] 0))], [(.box 30 (.dat 30 x0)), (.box 30 (.dat 30 x1))], 0⟩
noncomputable def s30_7 (x0 x1 : Int) (x2 x3 : Dt) : St := ⟨tsOf [(2, (.ptr 0 [] 0)), (3, (.ptr 1 [] 0)), (82, (.dat 3 (.int x0))), (83, (.dat 3 (.int x1)))], [(.box 30 (.dat 30 x2)), (.box 30 (.dat 30 x3))], 0⟩
noncomputable def s30_6 (x0 x1 : Int) (x2 x3 : Dt) : St := ⟨tsOf [(2, (.ptr 0 [] 0)), (3, (.ptr 1 [] 0)), (82, (.dat 3 (.int x0))), (83, (.dat 3 (.int x1)))], [(.box 30 (.dat 30 x2)), (.box 30 (.dat 30 x3))], 0⟩
noncomputable def s30_12 : St := ⟨tsOf [], [], 0⟩
noncomputable def s30_0 (x0 x1 : Dt) : St := ⟨tsOf [(2, (.ptr 0 [] 0)), (3, (.ptr 1 [] 0))], [(.box 30 (.dat 30 x0)), (.box 30 (.dat 30 x1))], 0⟩
theorem value_Compare_j4_eq (m : Nat) (M2 : Nat) (rec2 : Int → Int → Dt → Dt → Option (Int)) (h2 : ∀ (x0 x1 : Int) (x2 x3 : Dt), l30 jn m [1, 1, 0, 1, 0, 1, 1, 1, 1, 1, 0, 0, 1, 0] [] M2 (s30_2 x0 x1 x2 x3) = rec2 x0 x1 x2 x3) (x0 x1 : Int) (x2 x3 : Dt) : e30 jn m [1, 1, 0, 1, 0, 1, 1, 1, 1, 1, 0, 0, 1, 0, 0, 1, 1, 1] [M2] (s30_4 x0 x1 x2 x3) = value_Compare_j4 m (value_Compare m) rec2 x0 x1 x2 x3 := by
  have h : ∀ J, e30 J m [1, 1, 0, 1, 0, 1, 1, 1, 1, 1, 0, 0, 1, 0, 0, 1, 1, 1] [M2] (s30_4 x0 x1 x2 x3) =
    (J 1 14 M2 (s30_2 x0 (IntKind.wrap IntKind.i64 (x1 + (1 : Int))) x2 x3) (l30 J m [1, 1, 0, 1, 0, 1, 1, 1, 1, 1, 0, 0, 1, 0] [] M2 (s30_2 x0 (IntKind.wrap IntKind.i64 (x1 + (1 : Int))) x2 x3))) := fun J => by kernel_rfl
  exact (h jn).trans (by
    simp only [jn_eq, h2]
    rfl)
theorem value_Compare_j3_eq (m : Nat) (M2 : Nat) (rec2 : Int → Int → Dt → Dt → Option (Int)) (h2 : ∀ (x0 x1 : Int) (x2 x3 : Dt), l30 jn m [1, 1, 0, 1, 0, 1, 1, 1, 1, 1, 0, 0, 1, 0] [] M2 (s30_2 x0 x1 x2 x3) = rec2 x0 x1 x2 x3) (x0 x1 : Int) (x2 x3 : Dt) : e30 jn m [1, 1, 0, 1, 0, 1, 1, 1, 1, 1, 0, 0, 1, 0, 0, 1, 1] [M2] (s30_3 x0 x1 x2 x3) = value_Compare_j3 m (value_Compare m) rec2 x0 x1 x2 x3 := by
  have h : ∀ J, e30 J m [1, 1, 0, 1, 0, 1, 1, 1, 1, 1, 0, 0, 1, 0, 0, 1, 1] [M2] (s30_3 x0 x1 x2 x3) =
    ((idx (Dt.L x2 3) x1).bind fun v3 =>
     ((idx (Dt.L x3 3) x1).bind fun v4 =>
     ((value_Compare m v3 v4).bind fun r5 =>
     (bif (r5 != (0 : Int)) then
     some r5
     else
     (J 0 19 0 (s30_4 x0 x1 x2 x3) (e30 J m [1, 1, 0, 1, 0, 1, 1, 1, 1, 1, 0, 0, 1, 0, 0, 1, 1, 1] [M2] (s30_4 x0 x1 x2 x3))))))) := fun J => by kernel_rfl
  exact (h jn).trans (by
    simp only [jn_eq, value_Compare_j4_eq m M2 rec2 h2]
    rfl)
theorem value_Compare_j5_eq (m : Nat) (x0 x1 : Dt) : e30 jn m [1, 1, 0, 1, 0, 1, 1, 1, 1, 1, 0, 1] [] (s30_5 x0 x1) = value_Compare_j5 m (value_Compare m) x0 x1 := by
  have h : ∀ J, e30 J m [1, 1, 0, 1, 0, 1, 1, 1, 1, 1, 0, 1] [] (s30_5 x0 x1) =
    ((cmp_Compare m (((List.length (Dt.L x0 3)) : Nat) : Int) (((List.length (Dt.L x1 3)) : Nat) : Int)).bind fun r6 =>
     some r6) := fun J => by kernel_rfl
  exact (h jn).trans (rfl)
theorem value_Compare_l2_eq (m : Nat) : ∀ (M2 : Nat) (x0 x1 : Int) (x2 x3 : Dt), l30 jn m [1, 1, 0, 1, 0, 1, 1, 1, 1, 1, 0, 0, 1, 0] [] M2 (s30_2 x0 x1 x2 x3) = value_Compare_l2 m (value_Compare m) M2 x0 x1 x2 x3
  | 0, _, _, _, _ => rfl
  | M2 + 1, x0, x1, x2, x3 => by
    have h : ∀ J, l30 J m [1, 1, 0, 1, 0, 1, 1, 1, 1, 1, 0, 0, 1, 0] [] (M2 + 1) (s30_2 x0 x1 x2 x3) =
    (bif (decide (x1 < x0)) then
     (J 0 15 0 (s30_3 x0 x1 x2 x3) (e30 J m [1, 1, 0, 1, 0, 1, 1, 1, 1, 1, 0, 0, 1, 0, 0, 1, 1] [M2] (s30_3 x0 x1 x2 x3)))
    else
     (J 0 20 0 (s30_5 x2 x3) (e30 J m [1, 1, 0, 1, 0, 1, 1, 1, 1, 1, 0, 1] [] (s30_5 x2 x3)))) := fun J => by kernel_rfl
    refine (h jn).trans ?_
    simp only [jn_eq, value_Compare_j3_eq m M2 (value_Compare_l2 m (value_Compare m) M2) (fun x0 x1 x2 x3 => value_Compare_l2_eq m M2 x0 x1 x2 x3), value_Compare_j5_eq m]
    rfl
theorem value_Compare_j1_eq (m : Nat) (x0 x1 : Int) (x2 x3 : Dt) : e30 jn m [1, 1, 0, 1, 0, 1, 1, 1, 1, 1, 0, 0, 1] [] (s30_1 x0 x1 x2 x3) = value_Compare_j1 m (value_Compare m) x0 x1 x2 x3 := by
  have h : ∀ J, e30 J m [1, 1, 0, 1, 0, 1, 1, 1, 1, 1, 0, 0, 1] [] (s30_1 x0 x1 x2 x3) =
    (J 1 14 (Nat.succ m) (s30_2 x0 x1 x2 x3) (l30 J m [1, 1, 0, 1, 0, 1, 1, 1, 1, 1, 0, 0, 1, 0] [] (Nat.succ m) (s30_2 x0 x1 x2 x3))) := fun J => by kernel_rfl
  exact (h jn).trans (by
    simp only [jn_eq, value_Compare_l2_eq m]
    rfl)
theorem value_Compare_j10_eq (m : Nat) (M7 : Nat) (rec7 : Int → Int → Dt → Dt → Option (Int)) (h7 : ∀ (x0 x1 : Int) (x2 x3 : Dt), l30 jn m [1, 1, 0, 1, 0, 1, 1, 1, 1, 1, 1, 1, 0, 0, 1, 0] [] M7 (s30_7 x0 x1 x2 x3) = rec7 x0 x1 x2 x3) (x0 x1 : Int) (x2 x3 : Dt) : e30 jn m [1, 1, 0, 1, 0, 1, 1, 1, 1, 1, 1, 1, 0, 0, 1, 0, 0, 1, 1, 1] [M7] (s30_10 x0 x1 x2 x3) = value_Compare_j10 m (value_Compare m) rec7 x0 x1 x2 x3 := by
  have h : ∀ J, e30 J m [1, 1, 0, 1, 0, 1, 1, 1, 1, 1, 1, 1, 0, 0, 1, 0, 0, 1, 1, 1] [M7] (s30_10 x0 x1 x2 x3) =
    (J 1 23 M7 (s30_7 x0 (IntKind.wrap IntKind.i64 (x1 + (1 : Int))) x2 x3) (l30 J m [1, 1, 0, 1, 0, 1, 1, 1, 1, 1, 1, 1, 0, 0, 1, 0] [] M7 (s30_7 x0 (IntKind.wrap IntKind.i64 (x1 + (1 : Int))) x2 x3))) := fun J => by kernel_rfl
  exact (h jn).trans (by
    simp only [jn_eq, h7]
    rfl)
theorem value_Compare_j9_eq (m : Nat) (M7 : Nat) (rec7 : Int → Int → Dt → Dt → Option (Int)) (h7 : ∀ (x0 x1 : Int) (x2 x3 : Dt), l30 jn m [1, 1, 0, 1, 0, 1, 1, 1, 1, 1, 1, 1, 0, 0, 1, 0] [] M7 (s30_7 x0 x1 x2 x3) = rec7 x0 x1 x2 x3) (x0 x1 x2 : Int) (x3 x4 : Dt) : e30 jn m [1, 1, 0, 1, 0, 1, 1, 1, 1, 1, 1, 1, 0, 0, 1, 0, 0, 1, 1, 0, 0, 1, 1] [M7] (s30_9 x0 x1 x2 x3 x4) = value_Compare_j9 m (value_Compare m) rec7 x0 x1 x2 x3 x4 := by
  have h : ∀ J, e30 J m [1, 1, 0, 1, 0, 1, 1, 1, 1, 1, 1, 1, 0, 0, 1, 0, 0, 1, 1, 0, 0, 1, 1] [M7] (s30_9 x0 x1 x2 x3 x4) =
    ((idx (Dt.L x3 4) x0).bind fun v10 =>
     ((idx (Dt.L x4 4) x0).bind fun v11 =>
     ((value_Compare m (Dt.fld v10 1) (Dt.fld v11 1)).bind fun r12 =>
     (bif (r12 != (0 : Int)) then
     some r12
     else
     (J 0 31 0 (s30_10 x1 x2 x3 x4) (e30 J m [1, 1, 0, 1, 0, 1, 1, 1, 1, 1, 1, 1, 0, 0, 1, 0, 0, 1, 1, 1] [M7] (s30_10 x1 x2 x3 x4))))))) := fun J => by kernel_rfl
  exact (h jn).trans (by
    simp only [jn_eq, value_Compare_j10_eq m M7 rec7 h7]
    rfl)
theorem value_Compare_j8_eq (m : Nat) (M7 : Nat) (rec7 : Int → Int → Dt → Dt → Option (Int)) (h7 : ∀ (x0 x1 : Int) (x2 x3 : Dt), l30 jn m [1, 1, 0, 1, 0, 1, 1, 1, 1, 1, 1, 1, 0, 0, 1, 0] [] M7 (s30_7 x0 x1 x2 x3) = rec7 x0 x1 x2 x3) (x0 x1 : Int) (x2 x3 : Dt) : e30 jn m [1, 1, 0, 1, 0, 1, 1, 1, 1, 1, 1, 1, 0, 0, 1, 0, 0, 1, 1] [M7] (s30_8 x0 x1 x2 x3) = value_Compare_j8 m (value_Compare m) rec7 x0 x1 x2 x3 := by
  have h : ∀ J, e30 J m [1, 1, 0, 1, 0, 1, 1, 1, 1, 1, 1, 1, 0, 0, 1, 0, 0, 1, 1] [M7] (s30_8 x0 x1 x2 x3) =
    ((idx (Dt.L x2 4) x1).bind fun v7 =>
     ((idx (Dt.L x3 4) x1).bind fun v8 =>
     ((strings_Compare (Dt.S v7 0) (Dt.S v8 0)).bind fun r9 =>
     (bif (r9 != (0 : Int)) then
     some r9
     else
     (J 0 28 0 (s30_9 x1 x0 x1 x2 x3) (e30 J m [1, 1, 0, 1, 0, 1, 1, 1, 1, 1, 1, 1, 0, 0, 1, 0, 0, 1, 1, 0, 0, 1, 1] [M7] (s30_9 x1 x0 x1 x2 x3))))))) := fun J => by kernel_rfl
  exact (h jn).trans (by
    simp only [jn_eq, value_Compare_j9_eq m M7 rec7 h7]
    rfl)
theorem value_Compare_j11_eq (m : Nat) (x0 x1 : Dt) : e30 jn m [1, 1, 0, 1, 0, 1, 1, 1, 1, 1, 1, 1, 0, 1] [] (s30_11 x0 x1) = value_Compare_j11 m (value_Compare m) x0 x1 := by
  have h : ∀ J, e30 J m [1, 1, 0, 1, 0, 1, 1, 1, 1, 1, 1, 1, 0, 1] [] (s30_11 x0 x1) =
    ((cmp_Compare m (((List.length (Dt.L x0 4)) : Nat) : Int) (((List.length (Dt.L x1 4)) : Nat) : Int)).bind fun r13 =>
     some r13) := fun J => by kernel_rfl
  exact (h jn).trans (rfl)
theorem value_Compare_l7_eq (m : Nat) : ∀ (M7 : Nat) (x0 x1 : Int) (x2 x3 : Dt), l30 jn m [1, 1, 0, 1, 0, 1, 1, 1, 1, 1, 1, 1, 0, 0, 1, 0] [] M7 (s30_7 x0 x1 x2 x3) = value_Compare_l7 m (value_Compare m) M7 x0 x1 x2 x3
  | 0, _, _, _, _ => rfl
  | M7 + 1, x0, x1, x2, x3 => by
    have h : ∀ J, l30 J m [1, 1, 0, 1, 0, 1, 1, 1, 1, 1, 1, 1, 0, 0, 1, 0] [] (M7 + 1) (s30_7 x0 x1 x2 x3) =
    (bif (decide (x1 < x0)) then
     (J 0 24 0 (s30_8 x0 x1 x2 x3) (e30 J m [1, 1, 0, 1, 0, 1, 1, 1, 1, 1, 1, 1, 0, 0, 1, 0, 0, 1, 1] [M7] (s30_8 x0 x1 x2 x3)))
    else
     (J 0 32 0 (s30_11 x2 x3) (e30 J m [1, 1, 0, 1, 0, 1, 1, 1, 1, 1, 1, 1, 0, 1] [] (s30_11 x2 x3)))) := fun J => by kernel_rfl
    refine (h jn).trans ?_
    simp only [jn_eq, value_Compare_j8_eq m M7 (value_Compare_l7 m (value_Compare m) M7) (fun x0 x1 x2 x3 => value_Compare_l7_eq m M7 x0 x1 x2 x3), value_Compare_j11_eq m]
    rfl
theorem value_Compare_j6_eq (m : Nat) (x0 x1 : Int) (x2 x3 : Dt) : e30 jn m [1, 1, 0, 1, 0, 1, 1, 1, 1, 1, 1, 1, 0, 0, 1] [] (s30_6 x0 x1 x2 x3) = value_Compare_j6 m (value_Compare m) x0 x1 x2 x3 := by
  have h : ∀ J, e30 J m [1, 1, 0, 1, 0, 1, 1, 1, 1, 1, 1, 1, 0, 0, 1] [] (s30_6 x0 x1 x2 x3) =
    (J 1 23 (Nat.succ m) (s30_7 x0 x1 x2 x3) (l30 J m [1, 1, 0, 1, 0, 1, 1, 1, 1, 1, 1, 1, 0, 0, 1, 0] [] (Nat.succ m) (s30_7 x0 x1 x2 x3))) := fun J => by kernel_rfl
  exact (h jn).trans (by
    simp only [jn_eq, value_Compare_l7_eq m]
    rfl)
theorem value_Compare_j12_eq (m : Nat) : e30 jn m [1, 1, 1] [] s30_12 = value_Compare_j12 m (value_Compare m) := by
  have h : ∀ J, e30 J m [1, 1, 1] [] s30_12 =
    some (0 : Int) := fun J => by kernel_rfl
  exact (h jn).trans (rfl)
theorem value_Compare_j0_eq (m : Nat) (x0 x1 : Dt) : e30 jn m [1, 1] [] (s30_0 x0 x1) = value_Compare_j0 m (value_Compare m) x0 x1 := by
  have h : ∀ J, e30 J m [1, 1] [] (s30_0 x0 x1) =
    (bif ((Dt.I x0 0) == (3 : Int)) then
     (bif ((Dt.I x0 0) == (3 : Int)) then
     ((cmp_Compare m (Dt.I x0 1) (Dt.I x1 1)).bind fun r1 =>
     some r1)
     else
     (bif ((Dt.I x0 0) == (4 : Int)) then
     (bif ((Dt.I x0 0) == (4 : Int)) then
     ((strings_Compare (Dt.S x0 2) (Dt.S x1 2)).bind fun r2 =>
     some r2)
     else
     (bif ((Dt.I x0 0) == (6 : Int)) then
     (J 0 14 0 (s30_1 (bif (decide ((((List.length (Dt.L x1 3)) : Nat) : Int) < (((List.length (Dt.L x0 3)) : Nat) : Int))) then (((List.length (Dt.L x1 3)) : Nat) : Int) else (((List.length (Dt.L x0 3)) : Nat) : Int)) (0 : Int) x0 x1) (e30 J m [1, 1, 0, 1, 0, 1, 1, 1, 1, 1, 0, 0, 1] [] (s30_1 (bif (decide ((((List.length (Dt.L x1 3)) : Nat) : Int) < (((List.length (Dt.L x0 3)) : Nat) : Int))) then (((List.length (Dt.L x1 3)) : Nat) : Int) else (((List.length (Dt.L x0 3)) : Nat) : Int)) (0 : Int) x0 x1)))
     else
     (bif ((Dt.I x0 0) == (5 : Int)) then
     (J 0 23 0 (s30_6 (bif (decide ((((List.length (Dt.L x1 4)) : Nat) : Int) < (((List.length (Dt.L x0 4)) : Nat) : Int))) then (((List.length (Dt.L x1 4)) : Nat) : Int) else (((List.length (Dt.L x0 4)) : Nat) : Int)) (0 : Int) x0 x1) (e30 J m [1, 1, 0, 1, 0, 1, 1, 1, 1, 1, 1, 1, 0, 0, 1] [] (s30_6 (bif (decide ((((List.length (Dt.L x1 4)) : Nat) : Int) < (((List.length (Dt.L x0 4)) : Nat) : Int))) then (((List.length (Dt.L x1 4)) : Nat) : Int) else (((List.length (Dt.L x0 4)) : Nat) : Int)) (0 : Int) x0 x1)))
     else
     (J 0 33 0 s30_12 (e30 J m [1, 1, 1] [] s30_12)))))
     else
     (bif ((Dt.I x0 0) == (7 : Int)) then
     (bif ((Dt.I x0 0) == (7 : Int)) then
     ((strings_Compare (Dt.S x0 2) (Dt.S x1 2)).bind fun r14 =>
     some r14)
     else
     (bif ((Dt.I x0 0) == (6 : Int)) then
     (J 0 14 0 (s30_1 (bif (decide ((((List.length (Dt.L x1 3)) : Nat) : Int) < (((List.length (Dt.L x0 3)) : Nat) : Int))) then (((List.length (Dt.L x1 3)) : Nat) : Int) else (((List.length (Dt.L x0 3)) : Nat) : Int)) (0 : Int) x0 x1) (e30 J m [1, 1, 0, 1, 0, 1, 1, 1, 1, 1, 0, 0, 1] [] (s30_1 (bif (decide ((((List.length (Dt.L x1 3)) : Nat) : Int) < (((List.length (Dt.L x0 3)) : Nat) : Int))) then (((List.length (Dt.L x1 3)) : Nat) : Int) else (((List.length (Dt.L x0 3)) : Nat) : Int)) (0 : Int) x0 x1)))
     else
     (bif ((Dt.I x0 0) == (5 : Int)) then
     (J 0 23 0 (s30_6 (bif (decide ((((List.length (Dt.L x1 4)) : Nat) : Int) < (((List.length (Dt.L x0 4)) : Nat) : Int))) then (((List.length (Dt.L x1 4)) : Nat) : Int) else (((List.length (Dt.L x0 4)) : Nat) : Int)) (0 : Int) x0 x1) (e30 J m [1, 1, 0, 1, 0, 1, 1, 1, 1, 1, 1, 1, 0, 0, 1] [] (s30_6 (bif (decide ((((List.length (Dt.L x1 4)) : Nat) : Int) < (((List.length (Dt.L x0 4)) : Nat) : Int))) then (((List.length (Dt.L x1 4)) : Nat) : Int) else (((List.length (Dt.L x0 4)) : Nat) : Int)) (0 : Int) x0 x1)))
     else
     (J 0 33 0 s30_12 (e30 J m [1, 1, 1] [] s30_12)))))
     else
     (bif ((Dt.I x0 0) == (8 : Int)) then
     ((strings_Compare (Dt.S x0 2) (Dt.S x1 2)).bind fun r15 =>
     some r15)
     else
     (bif ((Dt.I x0 0) == (6 : Int)) then
     (J 0 14 0 (s30_1 (bif (decide ((((List.length (Dt.L x1 3)) : Nat) : Int) < (((List.length (Dt.L x0 3)) : Nat) : Int))) then (((List.length (Dt.L x1 3)) : Nat) : Int) else (((List.length (Dt.L x0 3)) : Nat) : Int)) (0 : Int) x0 x1) (e30 J m [1, 1, 0, 1, 0, 1, 1, 1, 1, 1, 0, 0, 1] [] (s30_1 (bif (decide ((((List.length (Dt.L x1 3)) : Nat) : Int) < (((List.length (Dt.L x0 3)) : Nat) : Int))) then (((List.length (Dt.L x1 3)) : Nat) : Int) else (((List.length (Dt.L x0 3)) : Nat) : Int)) (0 : Int) x0 x1)))
     else
     (bif ((Dt.I x0 0) == (5 : Int)) then
     (J 0 23 0 (s30_6 (bif (decide ((((List.length (Dt.L x1 4)) : Nat) : Int) < (((List.length (Dt.L x0 4)) : Nat) : Int))) then (((List.length (Dt.L x1 4)) : Nat) : Int) else (((List.length (Dt.L x0 4)) : Nat) : Int)) (0 : Int) x0 x1) (e30 J m [1, 1, 0, 1, 0, 1, 1, 1, 1, 1, 1, 1, 0, 0, 1] [] (s30_6 (bif (decide ((((List.length (Dt.L x1 4)) : Nat) : Int) < (((List.length (Dt.L x0 4)) : Nat) : Int))) then (((List.length (Dt.L x1 4)) : Nat) : Int) else (((List.length (Dt.L x0 4)) : Nat) : Int)) (0 : Int) x0 x1)))
     else
     (J 0 33 0 s30_12 (e30 J m [1, 1, 1] [] s30_12))))))))
    else
     (bif ((Dt.I x0 0) == (9 : Int)) then
     (bif ((Dt.I x0 0) == (9 : Int)) then
     ((cmp_Compare m (Dt.I x0 1) (Dt.I x1 1)).bind fun r16 =>
     some r16)
     else
     (bif ((Dt.I x0 0) == (4 : Int)) then
     (bif ((Dt.I x0 0) == (4 : Int)) then
     ((strings_Compare (Dt.S x0 2) (Dt.S x1 2)).bind fun r17 =>
     some r17)
     else
     (bif ((Dt.I x0 0) == (6 : Int)) then
     (J 0 14 0 (s30_1 (bif (decide ((((List.length (Dt.L x1 3)) : Nat) : Int) < (((List.length (Dt.L x0 3)) : Nat) : Int))) then (((List.length (Dt.L x1 3)) : Nat) : Int) else (((List.length (Dt.L x0 3)) : Nat) : Int)) (0 : Int) x0 x1) (e30 J m [1, 1, 0, 1, 0, 1, 1, 1, 1, 1, 0, 0, 1] [] (s30_1 (bif (decide ((((List.length (Dt.L x1 3)) : Nat) : Int) < (((List.length (Dt.L x0 3)) : Nat) : Int))) then (((List.length (Dt.L x1 3)) : Nat) : Int) else (((List.length (Dt.L x0 3)) : Nat) : Int)) (0 : Int) x0 x1)))
     else
     (bif ((Dt.I x0 0) == (5 : Int)) then
     (J 0 23 0 (s30_6 (bif (decide ((((List.length (Dt.L x1 4)) : Nat) : Int) < (((List.length (Dt.L x0 4)) : Nat) : Int))) then (((List.length (Dt.L x1 4)) : Nat) : Int) else (((List.length (Dt.L x0 4)) : Nat) : Int)) (0 : Int) x0 x1) (e30 J m [1, 1, 0, 1, 0, 1, 1, 1, 1, 1, 1, 1, 0, 0, 1] [] (s30_6 (bif (decide ((((List.length (Dt.L x1 4)) : Nat) : Int) < (((List.length (Dt.L x0 4)) : Nat) : Int))) then (((List.length (Dt.L x1 4)) : Nat) : Int) else (((List.length (Dt.L x0 4)) : Nat) : Int)) (0 : Int) x0 x1)))
     else
     (J 0 33 0 s30_12 (e30 J m [1, 1, 1] [] s30_12)))))
     else
     (bif ((Dt.I x0 0) == (7 : Int)) then
     (bif ((Dt.I x0 0) == (7 : Int)) then
     ((strings_Compare (Dt.S x0 2) (Dt.S x1 2)).bind fun r18 =>
     some r18)
     else
     (bif ((Dt.I x0 0) == (6 : Int)) then
     (J 0 14 0 (s30_1 (bif (decide ((((List.length (Dt.L x1 3)) : Nat) : Int) < (((List.length (Dt.L x0 3)) : Nat) : Int))) then (((List.length (Dt.L x1 3)) : Nat) : Int) else (((List.length (Dt.L x0 3)) : Nat) : Int)) (0 : Int) x0 x1) (e30 J m [1, 1, 0, 1, 0, 1, 1, 1, 1, 1, 0, 0, 1] [] (s30_1 (bif (decide ((((List.length (Dt.L x1 3)) : Nat) : Int) < (((List.length (Dt.L x0 3)) : Nat) : Int))) then (((List.length (Dt.L x1 3)) : Nat) : Int) else (((List.length (Dt.L x0 3)) : Nat) : Int)) (0 : Int) x0 x1)))
     else
     (bif ((Dt.I x0 0) == (5 : Int)) then
     (J 0 23 0 (s30_6 (bif (decide ((((List.length (Dt.L x1 4)) : Nat) : Int) < (((List.length (Dt.L x0 4)) : Nat) : Int))) then (((List.length (Dt.L x1 4)) : Nat) : Int) else (((List.length (Dt.L x0 4)) : Nat) : Int)) (0 : Int) x0 x1) (e30 J m [1, 1, 0, 1, 0, 1, 1, 1, 1, 1, 1, 1, 0, 0, 1] [] (s30_6 (bif (decide ((((List.length (Dt.L x1 4)) : Nat) : Int) < (((List.length (Dt.L x0 4)) : Nat) : Int))) then (((List.length (Dt.L x1 4)) : Nat) : Int) else (((List.length (Dt.L x0 4)) : Nat) : Int)) (0 : Int) x0 x1)))
     else
     (J 0 33 0 s30_12 (e30 J m [1, 1, 1] [] s30_12)))))
     else
     (bif ((Dt.I x0 0) == (8 : Int)) then
     ((strings_Compare (Dt.S x0 2) (Dt.S x1 2)).bind fun r19 =>
     some r19)
     else
     (bif ((Dt.I x0 0) == (6 : Int)) then
     (J 0 14 0 (s30_1 (bif (decide ((((List.length (Dt.L x1 3)) : Nat) : Int) < (((List.length (Dt.L x0 3)) : Nat) : Int))) then (((List.length (Dt.L x1 3)) : Nat) : Int) else (((List.length (Dt.L x0 3)) : Nat) : Int)) (0 : Int) x0 x1) (e30 J m [1, 1, 0, 1, 0, 1, 1, 1, 1, 1, 0, 0, 1] [] (s30_1 (bif (decide ((((List.length (Dt.L x1 3)) : Nat) : Int) < (((List.length (Dt.L x0 3)) : Nat) : Int))) then (((List.length (Dt.L x1 3)) : Nat) : Int) else (((List.length (Dt.L x0 3)) : Nat) : Int)) (0 : Int) x0 x1)))
     else
     (bif ((Dt.I x0 0) == (5 : Int)) then
     (J 0 23 0 (s30_6 (bif (decide ((((List.length (Dt.L x1 4)) : Nat) : Int) < (((List.length (Dt.L x0 4)) : Nat) : Int))) then (((List.length (Dt.L x1 4)) : Nat) : Int) else (((List.length (Dt.L x0 4)) : Nat) : Int)) (0 : Int) x0 x1) (e30 J m [1, 1, 0, 1, 0, 1, 1, 1, 1, 1, 1, 1, 0, 0, 1] [] (s30_6 (bif (decide ((((List.length (Dt.L x1 4)) : Nat) : Int) < (((List.length (Dt.L x0 4)) : Nat) : Int))) then (((List.length (Dt.L x1 4)) : Nat) : Int) else (((List.length (Dt.L x0 4)) : Nat) : Int)) (0 : Int) x0 x1)))
     else
     (J 0 33 0 s30_12 (e30 J m [1, 1, 1] [] s30_12))))))))
     else
     (bif ((Dt.I x0 0) == (10 : Int)) then
     ((cmp_Compare m (Dt.I x0 1) (Dt.I x1 1)).bind fun r20 =>
     some r20)
     else
     (bif ((Dt.I x0 0) == (4 : Int)) then
     (bif ((Dt.I x0 0) == (4 : Int)) then
     ((strings_Compare (Dt.S x0 2) (Dt.S x1 2)).bind fun r21 =>
     some r21)
     else
     (bif ((Dt.I x0 0) == (6 : Int)) then
     (J 0 14 0 (s30_1 (bif (decide ((((List.length (Dt.L x1 3)) : Nat) : Int) < (((List.length (Dt.L x0 3)) : Nat) : Int))) then (((List.length (Dt.L x1 3)) : Nat) : Int) else (((List.length (Dt.L x0 3)) : Nat) : Int)) (0 : Int) x0 x1) (e30 J m [1, 1, 0, 1, 0, 1, 1, 1, 1, 1, 0, 0, 1] [] (s30_1 (bif (decide ((((List.length (Dt.L x1 3)) : Nat) : Int) < (((List.length (Dt.L x0 3)) : Nat) : Int))) then (((List.length (Dt.L x1 3)) : Nat) : Int) else (((List.length (Dt.L x0 3)) : Nat) : Int)) (0 : Int) x0 x1)))
     else
     (bif ((Dt.I x0 0) == (5 : Int)) then
     (J 0 23 0 (s30_6 (bif (decide ((((List.length (Dt.L x1 4)) : Nat) : Int) < (((List.length (Dt.L x0 4)) : Nat) : Int))) then (((List.length (Dt.L x1 4)) : Nat) : Int) else (((List.length (Dt.L x0 4)) : Nat) : Int)) (0 : Int) x0 x1) (e30 J m [1, 1, 0, 1, 0, 1, 1, 1, 1, 1, 1, 1, 0, 0, 1] [] (s30_6 (bif (decide ((((List.length (Dt.L x1 4)) : Nat) : Int) < (((List.length (Dt.L x0 4)) : Nat) : Int))) then (((List.length (Dt.L x1 4)) : Nat) : Int) else (((List.length (Dt.L x0 4)) : Nat) : Int)) (0 : Int) x0 x1)))
     else
     (J 0 33 0 s30_12 (e30 J m [1, 1, 1] [] s30_12)))))
     else
     (bif ((Dt.I x0 0) == (7 : Int)) then
     (bif ((Dt.I x0 0) == (7 : Int)) then
     ((strings_Compare (Dt.S x0 2) (Dt.S x1 2)).bind fun r22 =>
     some r22)
     else
     (bif ((Dt.I x0 0) == (6 : Int)) then
     (J 0 14 0 (s30_1 (bif (decide ((((List.length (Dt.L x1 3)) : Nat) : Int) < (((List.length (Dt.L x0 3)) : Nat) : Int))) then (((List.length (Dt.L x1 3)) : Nat) : Int) else (((List.length (Dt.L x0 3)) : Nat) : Int)) (0 : Int) x0 x1) (e30 J m [1, 1, 0, 1, 0, 1, 1, 1, 1, 1, 0, 0, 1] [] (s30_1 (bif (decide ((((List.length (Dt.L x1 3)) : Nat) : Int) < (((List.length (Dt.L x0 3)) : Nat) : Int))) then (((List.length (Dt.L x1 3)) : Nat) : Int) else (((List.length (Dt.L x0 3)) : Nat) : Int)) (0 : Int) x0 x1)))
     else
     (bif ((Dt.I x0 0) == (5 : Int)) then
     (J 0 23 0 (s30_6 (bif (decide ((((List.length (Dt.L x1 4)) : Nat) : Int) < (((List.length (Dt.L x0 4)) : Nat) : Int))) then (((List.length (Dt.L x1 4)) : Nat) : Int) else (((List.length (Dt.L x0 4)) : Nat) : Int)) (0 : Int) x0 x1) (e30 J m [1, 1, 0, 1, 0, 1, 1, 1, 1, 1, 1, 1, 0, 0, 1] [] (s30_6 (bif (decide ((((List.length (Dt.L x1 4)) : Nat) : Int) < (((List.length (Dt.L x0 4)) : Nat) : Int))) then (((List.length (Dt.L x1 4)) : Nat) : Int) else (((List.length (Dt.L x0 4)) : Nat) : Int)) (0 : Int) x0 x1)))
     else
     (J 0 33 0 s30_12 (e30 J m [1, 1, 1] [] s30_12)))))
     else
     (bif ((Dt.I x0 0) == (8 : Int)) then
     ((strings_Compare (Dt.S x0 2) (Dt.S x1 2)).bind fun r23 =>
     some r23)
     else
     (bif ((Dt.I x0 0) == (6 : Int)) then
     (J 0 14 0 (s30_1 (bif (decide ((((List.length (Dt.L x1 3)) : Nat) : Int) < (((List.length (Dt.L x0 3)) : Nat) : Int))) then (((List.length (Dt.L x1 3)) : Nat) : Int) else (((List.length (Dt.L x0 3)) : Nat) : Int)) (0 : Int) x0 x1) (e30 J m [1, 1, 0, 1, 0, 1, 1, 1, 1, 1, 0, 0, 1] [] (s30_1 (bif (decide ((((List.length (Dt.L x1 3)) : Nat) : Int) < (((List.length (Dt.L x0 3)) : Nat) : Int))) then (((List.length (Dt.L x1 3)) : Nat) : Int) else (((List.length (Dt.L x0 3)) : Nat) : Int)) (0 : Int) x0 x1)))
     else
     (bif ((Dt.I x0 0) == (5 : Int)) then
     (J 0 23 0 (s30_6 (bif (decide ((((List.length (Dt.L x1 4)) : Nat) : Int) < (((List.length (Dt.L x0 4)) : Nat) : Int))) then (((List.length (Dt.L x1 4)) : Nat) : Int) else (((List.length (Dt.L x0 4)) : Nat) : Int)) (0 : Int) x0 x1) (e30 J m [1, 1, 0, 1, 0, 1, 1, 1, 1, 1, 1, 1, 0, 0, 1] [] (s30_6 (bif (decide ((((List.length (Dt.L x1 4)) : Nat) : Int) < (((List.length (Dt.L x0 4)) : Nat) : Int))) then (((List.length (Dt.L x1 4)) : Nat) : Int) else (((List.length (Dt.L x0 4)) : Nat) : Int)) (0 : Int) x0 x1)))
     else
     (J 0 33 0 s30_12 (e30 J m [1, 1, 1] [] s30_12)))))))))) := fun J => by kernel_rfl
  exact (h jn).trans (by
    simp only [jn_eq, value_Compare_j1_eq m, value_Compare_j6_eq m, value_Compare_j12_eq m]
    rfl)
theorem value_Compare_eq (m : Nat) (a0 a1 : Dt) : e30 jn m [] [] ⟨[(.dat 30 a0), (.dat 30 a1)], [], 0⟩ = value_Compare (m + 1) a0 a1 := by
  have h : ∀ J, e30 J m [] [] ⟨[(.dat 30 a0), (.dat 30 a1)], [], 0⟩ =
    (bif ((Dt.I a0 0) != (Dt.I a1 0)) then
     ((cmp_Compare m (Dt.I a0 0) (Dt.I a1 0)).bind fun r0 =>
     some r0)
    else
     (J 0 3 0 (s30_0 a0 a1) (e30 J m [1, 1] [] (s30_0 a0 a1)))) := fun J => by kernel_rfl
  refine (h jn).trans ?_
  simp only [jn_eq, value_Compare_j0_eq m]
  rfl
noncomputable def d15 (q : Res) : Option (Int) := match q with
  | (.dat T0 x0, []) => bif Nat.beq T0 3 then some x0.toInt else none
  | _ => none
theorem d15_sim {b : Res} {r : Int} (h : d15 b = some r) : Sim Tryd.prog b ((.dat 3 (.int r)), []) := by
  unfold d15 at h
  split at h
  · obtain ⟨hc, h2⟩ := bif_some h
    cases h2
    have e0 := beq_eq hc
    subst e0
    exact Sim.of (.of (.dat (.int Tryd.underlying3)) rfl rfl) .nil
  · cases h
noncomputable def e15 (J : Nat → Nat → Nat → St → Option (Int) → Option (Int)) (m : Nat) (p ms : List Nat) (σ : St) := evAt Tryd.prog env (ct m) J (m + 1) 39 34 Tryd.f39 d15 p ms σ
noncomputable def l15 (J : Nat → Nat → Nat → St → Option (Int) → Option (Int)) (m : Nat) (p ms : List Nat) (M : Nat) (σ : St) := loopAt Tryd.prog env (ct m) J (m + 1) 39 34 Tryd.f39 d15 p ms M σ
noncomputable def s15_4 (x0 x1 x2 : List Dt) (x3 x4 : Int) : St := ⟨tsOf [(1, (.dat 27 (.lst x0))), (2, (.dat 27 (.lst x1))), (10, (.dat 22 (.lst x2))), (11, (.dat 3 (.int x3))), (12, (.dat 3 (.int x4)))], [], 0⟩
noncomputable def s15_3 (x0 x1 : List Dt) (x2 : Int) (x3 : List Dt) (x4 x5 : Int) : St := ⟨tsOf [(1, (.dat 27 (.lst x0))), (2, (.dat 27 (.lst x1))), (9, (.dat 3 (.int x2))), (10, (.dat 22 (.lst x3))), (11, (.dat 3 (.int x4))), (12, (.dat 3 (.int x5)))], [], 0⟩
noncomputable def s15_2 (x0 x1 x2 : List Dt) (x3 x4 : Int) : St := ⟨tsOf [(1, (.dat 27 (.lst x0))), (2, (.dat 27 (.lst x1))), (10, (.dat 22 (.lst x2))), (11, (.dat 3 (.int x3))), (12, (.dat 3 (.int x4)))], [], 0⟩
noncomputable def s15_5 : St := ⟨tsOf [], [], 0⟩
noncomputable def s15_1 (x0 x1 x2 : List Dt) (x3 x4 : Int) : St := ⟨tsOf [(1, (.dat 27 (.lst x0))), (2, (.dat 27 (.lst x1))), (10, (.dat 22 (.lst x2))), (11, (.dat 3 (.int x3))), (12, (.dat 3 (.int x4)))], [], 0⟩
noncomputable def s15_0 (x0 x1 x2 : List Dt) (x3 x4 : Int) : St := ⟨tsOf [(1, (.dat 27 (.lst x0))), (2, (.dat 27 (.lst x1))), (10, (.dat 22 (.lst x2))), (11, (.dat 3 (.int x3))), (12, (.dat 3 (.int x4)))], [], 0⟩
theorem order_compare_j4_eq (m : Nat) (M1 : Nat) (rec1 : List Dt → List Dt → List Dt → Int → Int → Option (Int)) (h1 : ∀ (x0 x1 x2 : List Dt) (x3 x4 : Int), l15 jn m [1, 0, 1, 0] [] M1 (s15_1 x0 x1 x2 x3 x4) = rec1 x0 x1 x2 x3 x4) (x0 x1 x2 : List Dt) (x3 x4 : Int) : e15 jn m [1, 0, 1, 0, 0, 1, 1, 1] [M1] (s15_4 x0 x1 x2 x3 x4) = order_compare_j4 m rec1 x0 x1 x2 x3 x4 := by
  have h : ∀ J, e15 J m [1, 0, 1, 0, 0, 1, 1, 1] [M1] (s15_4 x0 x1 x2 x3 x4) =
    (J 1 2 M1 (s15_1 x0 x1 x2 x3 (IntKind.wrap IntKind.i64 (x4 + (1 : Int)))) (l15 J m [1, 0, 1, 0] [] M1 (s15_1 x0 x1 x2 x3 (IntKind.wrap IntKind.i64 (x4 + (1 : Int)))))) := fun J => by kernel_rfl
  exact (h jn).trans (by
    simp only [jn_eq, h1]
    rfl)
theorem order_compare_j3_eq (m : Nat) (M1 : Nat) (rec1 : List Dt → List Dt → List Dt → Int → Int → Option (Int)) (h1 : ∀ (x0 x1 x2 : List Dt) (x3 x4 : Int), l15 jn m [1, 0, 1, 0] [] M1 (s15_1 x0 x1 x2 x3 x4) = rec1 x0 x1 x2 x3 x4) (x0 x1 : List Dt) (x2 : Int) (x3 : List Dt) (x4 x5 : Int) : e15 jn m [1, 0, 1, 0, 0, 1, 1, 0, 0, 1, 1, 1] [M1] (s15_3 x0 x1 x2 x3 x4 x5) = order_compare_j3 m rec1 x0 x1 x2 x3 x4 x5 := by
  have h : ∀ J, e15 J m [1, 0, 1, 0, 0, 1, 1, 0, 0, 1, 1, 1] [M1] (s15_3 x0 x1 x2 x3 x4 x5) =
    (bif (x2 != (0 : Int)) then
     some x2
    else
     (J 0 9 0 (s15_4 x0 x1 x3 x4 x5) (e15 J m [1, 0, 1, 0, 0, 1, 1, 1] [M1] (s15_4 x0 x1 x3 x4 x5)))) := fun J => by kernel_rfl
  exact (h jn).trans (by
    simp only [jn_eq, order_compare_j4_eq m M1 rec1 h1]
    rfl)
theorem order_compare_j2_eq (m : Nat) (M1 : Nat) (rec1 : List Dt → List Dt → List Dt → Int → Int → Option (Int)) (h1 : ∀ (x0 x1 x2 : List Dt) (x3 x4 : Int), l15 jn m [1, 0, 1, 0] [] M1 (s15_1 x0 x1 x2 x3 x4) = rec1 x0 x1 x2 x3 x4) (x0 x1 x2 : List Dt) (x3 x4 : Int) : e15 jn m [1, 0, 1, 0, 0, 1, 1] [M1] (s15_2 x0 x1 x2 x3 x4) = order_compare_j2 m rec1 x0 x1 x2 x3 x4 := by
  have h : ∀ J, e15 J m [1, 0, 1, 0, 0, 1, 1] [M1] (s15_2 x0 x1 x2 x3 x4) =
    ((idx x2 x4).bind fun v0 =>
     ((idx x0 x4).bind fun v1 =>
     ((idx x1 x4).bind fun v2 =>
     ((value_Compare m v1 v2).bind fun r3 =>
     (bif (Dt.B v0 1) then
     (J 0 7 0 (s15_3 x0 x1 (IntKind.wrap IntKind.i64 ((0 : Int) - r3)) x2 x3 x4) (e15 J m [1, 0, 1, 0, 0, 1, 1, 0, 0, 1, 1, 1] [M1] (s15_3 x0 x1 (IntKind.wrap IntKind.i64 ((0 : Int) - r3)) x2 x3 x4)))
     else
     (J 0 7 0 (s15_3 x0 x1 r3 x2 x3 x4) (e15 J m [1, 0, 1, 0, 0, 1, 1, 0, 0, 1, 1, 1] [M1] (s15_3 x0 x1 r3 x2 x3 x4)))))))) := fun J => by kernel_rfl
  exact (h jn).trans (by
    simp only [jn_eq, order_compare_j3_eq m M1 rec1 h1]
    rfl)
theorem order_compare_j5_eq (m : Nat) : e15 jn m [1, 1] [] s15_5 = order_compare_j5 m := by
  have h : ∀ J, e15 J m [1, 1] [] s15_5 =
    some (0 : Int) := fun J => by kernel_rfl
  exact (h jn).trans (rfl)
theorem order_compare_l1_eq (m : Nat) : ∀ (M1 : Nat) (x0 x1 x2 : List Dt) (x3 x4 : Int), l15 jn m [1, 0, 1, 0] [] M1 (s15_1 x0 x1 x2 x3 x4) = order_compare_l1 m M1 x0 x1 x2 x3 x4
  | 0, _, _, _, _, _ => rfl
  | M1 + 1, x0, x1, x2, x3, x4 => by
    have h : ∀ J, l15 J m [1, 0, 1, 0] [] (M1 + 1) (s15_1 x0 x1 x2 x3 x4) =
    (bif (decide (x4 < x3)) then
     (J 0 3 0 (s15_2 x0 x1 x2 x3 x4) (e15 J m [1, 0, 1, 0, 0, 1, 1] [M1] (s15_2 x0 x1 x2 x3 x4)))
    else
     (J 0 10 0 s15_5 (e15 J m [1, 1] [] s15_5))) := fun J => by kernel_rfl
    refine (h jn).trans ?_
    simp only [jn_eq, order_compare_j2_eq m M1 (order_compare_l1 m M1) (fun x0 x1 x2 x3 x4 => order_compare_l1_eq m M1 x0 x1 x2 x3 x4), order_compare_j5_eq m]
    rfl
theorem order_compare_j0_eq (m : Nat) (x0 x1 x2 : List Dt) (x3 x4 : Int) : e15 jn m [1, 0, 1] [] (s15_0 x0 x1 x2 x3 x4) = order_compare_j0 m x0 x1 x2 x3 x4 := by
  have h : ∀ J, e15 J m [1, 0, 1] [] (s15_0 x0 x1 x2 x3 x4) =
    (J 1 2 (Nat.succ m) (s15_1 x0 x1 x2 x3 x4) (l15 J m [1, 0, 1, 0] [] (Nat.succ m) (s15_1 x0 x1 x2 x3 x4))) := fun J => by kernel_rfl
  exact (h jn).trans (by
    simp only [jn_eq, order_compare_l1_eq m]
    rfl)
theorem order_compare_eq (m : Nat) (a0 a1 a2 : List Dt) : e15 jn m [] [] ⟨[(.dat 22 (.lst a0)), (.dat 27 (.lst a1)), (.dat 27 (.lst a2))], [], 0⟩ = order_compare (m + 1) a0 a1 a2 := by
  have h : ∀ J, e15 J m [] [] ⟨[(.dat 22 (.lst a0)), (.dat 27 (.lst a1)), (.dat 27 (.lst a2))], [], 0⟩ =
    (J 0 2 0 (s15_0 a1 a2 a0 (((List.length a0) : Nat) : Int) (0 : Int)) (e15 J m [1, 0, 1] [] (s15_0 a1 a2 a0 (((List.length a0) : Nat) : Int) (0 : Int)))) := fun J => by kernel_rfl
  refine (h jn).trans ?_
  simp only [jn_eq, order_compare_j0_eq m]
  rfl
noncomputable def d22 (q : Res) : Option (Int × List Dt) := match q with
  | (.dat T0 x0, [.box T1 (.dat T2 x2)]) => bif (Nat.beq T0 3 && (Nat.beq T1 22 && Nat.beq T2 22)) then some (x0.toInt, x2.toLst) else none
  | _ => none
theorem d22_sim {b : Res} {r : Int × List Dt} (h : d22 b = some r) : Sim Tryd.prog b ((.dat 3 (.int r.1)), [(.box 22 (.dat 22 (.lst r.2)))]) := by
  unfold d22 at h
  split at h
  · obtain ⟨hc, h2⟩ := bif_some h
    cases h2
    have e0 := beq_eq (and_l hc)
    have e1 := beq_eq (and_l (and_r hc))
    have e2 := beq_eq (and_r (and_r hc))
    subst e0 e1 e2
    exact Sim.of (.of (.dat (.int Tryd.underlying3)) rfl rfl) (.cons (.box (.dat (.lst Tryd.underlying22))) .nil)
  · cases h
noncomputable def e22 (J : Nat → Nat → Nat → St → Option (Int × List Dt) → Option (Int × List Dt)) (m : Nat) (p ms : List Nat) (σ : St) := evAt Tryd.prog env (ct m) J (m + 1) 56 12 Tryd.f56 d22 p ms σ
noncomputable def l22 (J : Nat → Nat → Nat → St → Option (Int × List Dt) → Option (Int × List Dt)) (m : Nat) (p ms : List Nat) (M : Nat) (σ : St) := loopAt Tryd.prog env (ct m) J (m + 1) 56 12 Tryd.f56 d22 p ms M σ
theorem i22_eq (m : Nat) (a0 a1 : Dt) (a2 : List Dt) : e22 jn m [] [] ⟨[(.dat 70 a0), (.dat 70 a1), (.ptr 0 [] 0)], [(.box 22 (.dat 22 (.lst a2)))], 1⟩ = i22 (m + 1) a0 a1 a2 := by
  have h : ∀ J, e22 J m [] [] ⟨[(.dat 70 a0), (.dat 70 a1), (.ptr 0 [] 0)], [(.box 22 (.dat 22 (.lst a2)))], 1⟩ =
    ((order_compare m a2 (Dt.L a0 1) (Dt.L a1 1)).bind fun r0 =>
     some (r0, a2)) := fun J => by kernel_rfl
  refine (h jn).trans ?_
  
  rfl
noncomputable def d21 (q : Res) : Option (List Dt × List Dt) := match q with
  | (.tup [], [.row T0 x0, .box T1 (.dat T2 x2)]) => bif (Nat.beq T0 68 && (Nat.beq T1 22 && Nat.beq T2 22)) then some (x0, x2.toLst) else none
  | _ => none
theorem d21_sim {b : Res} {r : List Dt × List Dt} (h : d21 b = some r) : Sim Tryd.prog b ((.tup []), [(.row 68 r.1), (.box 22 (.dat 22 (.lst r.2)))]) := by
  unfold d21 at h
  split at h
  · obtain ⟨hc, h2⟩ := bif_some h
    cases h2
    have e0 := beq_eq (and_l hc)
    have e1 := beq_eq (and_l (and_r hc))
    have e2 := beq_eq (and_r (and_r hc))
    subst e0 e1 e2
    exact Sim.of (.tup .nil) (.cons .same (.cons (.box (.dat (.lst Tryd.underlying22))) .nil))
  · cases h
noncomputable def e21 (J : Nat → Nat → Nat → St → Option (List Dt × List Dt) → Option (List Dt × List Dt)) (m : Nat) (p ms : List Nat) (σ : St) := evAt Tryd.prog env (ct m) J (m + 1) 81 53 Tryd.f81 d21 p ms σ
noncomputable def l21 (J : Nat → Nat → Nat → St → Option (List Dt × List Dt) → Option (List Dt × List Dt)) (m : Nat) (p ms : List Nat) (M : Nat) (σ : St) := loopAt Tryd.prog env (ct m) J (m + 1) 81 53 Tryd.f81 d21 p ms M σ
noncomputable def s21_6 (x0 x1 x2 x3 : Int) (x4 x5 : List Dt) : St := ⟨tsOf [(0, (.row 0)), (1, (.dat 3 (.int x0))), (2, (.dat 3 (.int x1))), (3, (.fn 56 [(.ptr 1 [] 0)])), (8, (.dat 3 (.int x2))), (9, (.dat 3 (.int x3)))], [(.row 68 x4), (.box 22 (.dat 22 (.lst x5)))], 2⟩
noncomputable def s21_5 (x0 x1 x2 x3 : Int) (x4 x5 : List Dt) : St := ⟨tsOf [(0, (.row 0)), (1, (.dat 3 (.int x0))), (2, (.dat 3 (.int x1))), (3, (.fn 56 [(.ptr 1 [] 0)])), (8, (.dat 3 (.int x2))), (9, (.dat 3 (.int x3)))], [(.row 68 x4), (.box 22 (.dat 22 (.lst x5)))], 2⟩
noncomputable def s21_7 (x0 x1 x2 : Int) (x3 x4 : List Dt) : St := ⟨tsOf [(0, (.row 0)), (1, (.dat 3 (.int x0))), (2, (.dat 3 (.int x1))), (3, (.fn 56 [(.ptr 1 [] 0)])), (8, (.dat 3 (.int x2)))], [(.row 68 x3), (.box 22 (.dat 22 (.lst x4)))], 2⟩
noncomputable def s21_4 (x0 x1 x2 x3 : Int) (x4 x5 : List Dt) : St := ⟨tsOf [(0, (.row 0)), (1, (.dat 3 (.int x0))), (2, (.dat 3 (.int x1))), (3, (.fn 56 [(.ptr 1 [] 0)])), (8, (.dat 3 (.int x2))), (9, (.dat 3 (.int x3)))], [(.row 68 x4), (.box 22 (.dat 22 (.lst x5)))], 2⟩
noncomputable def s21_3 (x0 x1 x2 x3 : Int) (x4 x5 : List Dt) : St := ⟨tsOf [(0, (.row 0)), (1, (.dat 3 (.int x0))), (2, (.dat 3 (.int x1))), (3, (.fn 56 [(.ptr 1 [] 0)])), (8, (.dat 3 (.int x2))), (9, (.dat 3 (.int x3)))], [(.row 68 x4), (.box 22 (.dat 22 (.lst x5)))], 2⟩
noncomputable def s21_2 (x0 x1 x2 : Int) (x3 x4 : List Dt) : St := ⟨tsOf [(0, (.row 0)), (1, (.dat 3 (.int x0))), (2, (.dat 3 (.int x1))), (3, (.fn 56 [(.ptr 1 [] 0)])), (8, (.dat 3 (.int x2)))], [(.row 68 x3), (.box 22 (.dat 22 (.lst x4)))], 2⟩
noncomputable def s21_1 (x0 x1 x2 : Int) (x3 x4 : List Dt) : St := ⟨tsOf [(0, (.row 0)), (1, (.dat 3 (.int x0))), (2, (.dat 3 (.int x1))), (3, (.fn 56 [(.ptr 1 [] 0)])), (8, (.dat 3 (.int x2)))], [(.row 68 x3), (.box 22 (.dat 22 (.lst x4)))], 2⟩
noncomputable def s21_0 (x0 x1 x2 : Int) (x3 x4 : List Dt) : St := ⟨tsOf [(0, (.row 0)), (1, (.dat 3 (.int x0))), (2, (.dat 3 (.int x1))), (3, (.fn 56 [(.ptr 1 [] 0)])), (8, (.dat 3 (.int x2)))], [(.row 68 x3), (.box 22 (.dat 22 (.lst x4)))], 2⟩
theorem i21_j6_eq (m : Nat) (M1 : Nat) (rec1 : Int → Int → Int → List Dt → List Dt → Option (List Dt × List Dt)) (h1 : ∀ (x0 x1 x2 : Int) (x3 x4 : List Dt), l21 jn m [1, 0] [] M1 (s21_1 x0 x1 x2 x3 x4) = rec1 x0 x1 x2 x3 x4) (M4 : Nat) (rec4 : Int → Int → Int → Int → List Dt → List Dt → Option (List Dt × List Dt)) (h4 : ∀ (x0 x1 x2 x3 : Int) (x4 x5 : List Dt), l21 jn m [1, 0, 0, 1, 0, 0, 1, 0] [M1] M4 (s21_4 x0 x1 x2 x3 x4 x5) = rec4 x0 x1 x2 x3 x4 x5) (x0 x1 x2 x3 : Int) (x4 x5 : List Dt) : e21 jn m [1, 0, 0, 1, 0, 0, 1, 0, 0, 1, 1] [M1, M4] (s21_6 x0 x1 x2 x3 x4 x5) = i21_j6 m rec1 rec4 x0 x1 x2 x3 x4 x5 := by
  have h : ∀ J, e21 J m [1, 0, 0, 1, 0, 0, 1, 0, 0, 1, 1] [M1, M4] (s21_6 x0 x1 x2 x3 x4 x5) =
    (J 1 4 M4 (s21_4 x0 x1 x2 (IntKind.wrap IntKind.i64 (x3 - (1 : Int))) x4 x5) (l21 J m [1, 0, 0, 1, 0, 0, 1, 0] [M1] M4 (s21_4 x0 x1 x2 (IntKind.wrap IntKind.i64 (x3 - (1 : Int))) x4 x5))) := fun J => by kernel_rfl
  exact (h jn).trans (by
    simp only [jn_eq, h4]
    rfl)
theorem i21_j5_eq (m : Nat) (M1 : Nat) (rec1 : Int → Int → Int → List Dt → List Dt → Option (List Dt × List Dt)) (h1 : ∀ (x0 x1 x2 : Int) (x3 x4 : List Dt), l21 jn m [1, 0] [] M1 (s21_1 x0 x1 x2 x3 x4) = rec1 x0 x1 x2 x3 x4) (M4 : Nat) (rec4 : Int → Int → Int → Int → List Dt → List Dt → Option (List Dt × List Dt)) (h4 : ∀ (x0 x1 x2 x3 : Int) (x4 x5 : List Dt), l21 jn m [1, 0, 0, 1, 0, 0, 1, 0] [M1] M4 (s21_4 x0 x1 x2 x3 x4 x5) = rec4 x0 x1 x2 x3 x4 x5) (x0 x1 x2 x3 : Int) (x4 x5 : List Dt) : e21 jn m [1, 0, 0, 1, 0, 0, 1, 0, 0, 1] [M1, M4] (s21_5 x0 x1 x2 x3 x4 x5) = i21_j5 m rec1 rec4 x0 x1 x2 x3 x4 x5 := by
  have h : ∀ J, e21 J m [1, 0, 0, 1, 0, 0, 1, 0, 0, 1] [M1, M4] (s21_5 x0 x1 x2 x3 x4 x5) =
    ((inL x4 (IntKind.wrap IntKind.i64 (x3 - (1 : Int)))).bind fun v5 =>
     ((x4[(Int.toNat (IntKind.wrap IntKind.i64 (x3 - (1 : Int))))]?).bind fun v6 =>
     ((inL x4 x3).bind fun v7 =>
     ((x4[(Int.toNat x3)]?).bind fun v8 =>
     ((inL x4 x3).bind fun v9 =>
     ((x4[(Int.toNat x3)]?).bind fun v10 =>
     ((inL (List.set x4 (Int.toNat x3) v6) (IntKind.wrap IntKind.i64 (x3 - (1 : Int)))).bind fun v11 =>
     (((List.set x4 (Int.toNat x3) v6)[(Int.toNat (IntKind.wrap IntKind.i64 (x3 - (1 : Int))))]?).bind fun v12 =>
     (J 0 5 0 (s21_6 x0 x1 x2 x3 (List.set (List.set x4 (Int.toNat x3) v6) (Int.toNat (IntKind.wrap IntKind.i64 (x3 - (1 : Int)))) v8) x5) (e21 J m [1, 0, 0, 1, 0, 0, 1, 0, 0, 1, 1] [M1, M4] (s21_6 x0 x1 x2 x3 (List.set (List.set x4 (Int.toNat x3) v6) (Int.toNat (IntKind.wrap IntKind.i64 (x3 - (1 : Int)))) v8) x5))))))))))) := fun J => by kernel_rfl
  exact (h jn).trans (by
    simp only [jn_eq, i21_j6_eq m M1 rec1 h1 M4 rec4 h4]
    rfl)
theorem i21_j7_eq (m : Nat) (M1 : Nat) (rec1 : Int → Int → Int → List Dt → List Dt → Option (List Dt × List Dt)) (h1 : ∀ (x0 x1 x2 : Int) (x3 x4 : List Dt), l21 jn m [1, 0] [] M1 (s21_1 x0 x1 x2 x3 x4) = rec1 x0 x1 x2 x3 x4) (x0 x1 x2 : Int) (x3 x4 : List Dt) : e21 jn m [1, 0, 0, 1, 1] [M1] (s21_7 x0 x1 x2 x3 x4) = i21_j7 m rec1 x0 x1 x2 x3 x4 := by
  have h : ∀ J, e21 J m [1, 0, 0, 1, 1] [M1] (s21_7 x0 x1 x2 x3 x4) =
    (J 1 1 M1 (s21_1 x0 x1 (IntKind.wrap IntKind.i64 (x2 + (1 : Int))) x3 x4) (l21 J m [1, 0] [] M1 (s21_1 x0 x1 (IntKind.wrap IntKind.i64 (x2 + (1 : Int))) x3 x4))) := fun J => by kernel_rfl
  exact (h jn).trans (by
    simp only [jn_eq, h1]
    rfl)
theorem i21_l4_eq (m : Nat) (M1 : Nat) (rec1 : Int → Int → Int → List Dt → List Dt → Option (List Dt × List Dt)) (h1 : ∀ (x0 x1 x2 : Int) (x3 x4 : List Dt), l21 jn m [1, 0] [] M1 (s21_1 x0 x1 x2 x3 x4) = rec1 x0 x1 x2 x3 x4) : ∀ (M4 : Nat) (x0 x1 x2 x3 : Int) (x4 x5 : List Dt), l21 jn m [1, 0, 0, 1, 0, 0, 1, 0] [M1] M4 (s21_4 x0 x1 x2 x3 x4 x5) = i21_l4 m rec1 M4 x0 x1 x2 x3 x4 x5
  | 0, _, _, _, _, _, _ => rfl
  | M4 + 1, x0, x1, x2, x3, x4, x5 => by
    have h : ∀ J, l21 J m [1, 0, 0, 1, 0, 0, 1, 0] [M1] (M4 + 1) (s21_4 x0 x1 x2 x3 x4 x5) =
    (bif (decide (x0 < x3)) then
     ((inL x4 x3).bind fun v0 =>
     ((x4[(Int.toNat x3)]?).bind fun v1 =>
     ((inL x4 (IntKind.wrap IntKind.i64 (x3 - (1 : Int)))).bind fun v2 =>
     ((x4[(Int.toNat (IntKind.wrap IntKind.i64 (x3 - (1 : Int))))]?).bind fun v3 =>
     ((i22 m v1 v3 x5).bind fun r4 =>
     (bif (decide ((Prod.fst r4) < (0 : Int))) then
     (J 0 6 0 (s21_5 x0 x1 x2 x3 x4 (Prod.snd r4)) (e21 J m [1, 0, 0, 1, 0, 0, 1, 0, 0, 1] [M1, M4] (s21_5 x0 x1 x2 x3 x4 (Prod.snd r4))))
     else
     (J 0 2 0 (s21_7 x0 x1 x2 x4 (Prod.snd r4)) (e21 J m [1, 0, 0, 1, 1] [M1] (s21_7 x0 x1 x2 x4 (Prod.snd r4))))))))))
    else
     (J 0 2 0 (s21_7 x0 x1 x2 x4 x5) (e21 J m [1, 0, 0, 1, 1] [M1] (s21_7 x0 x1 x2 x4 x5)))) := fun J => by kernel_rfl
    refine (h jn).trans ?_
    simp only [jn_eq, i21_j5_eq m M1 rec1 h1 M4 (i21_l4 m rec1 M4) (fun x0 x1 x2 x3 x4 x5 => i21_l4_eq m M1 rec1 h1 M4 x0 x1 x2 x3 x4 x5), i21_j7_eq m M1 rec1 h1]
    rfl
theorem i21_j3_eq (m : Nat) (M1 : Nat) (rec1 : Int → Int → Int → List Dt → List Dt → Option (List Dt × List Dt)) (h1 : ∀ (x0 x1 x2 : Int) (x3 x4 : List Dt), l21 jn m [1, 0] [] M1 (s21_1 x0 x1 x2 x3 x4) = rec1 x0 x1 x2 x3 x4) (x0 x1 x2 x3 : Int) (x4 x5 : List Dt) : e21 jn m [1, 0, 0, 1, 0, 0, 1] [M1] (s21_3 x0 x1 x2 x3 x4 x5) = i21_j3 m rec1 x0 x1 x2 x3 x4 x5 := by
  have h : ∀ J, e21 J m [1, 0, 0, 1, 0, 0, 1] [M1] (s21_3 x0 x1 x2 x3 x4 x5) =
    (J 1 4 (Nat.succ m) (s21_4 x0 x1 x2 x3 x4 x5) (l21 J m [1, 0, 0, 1, 0, 0, 1, 0] [M1] (Nat.succ m) (s21_4 x0 x1 x2 x3 x4 x5))) := fun J => by kernel_rfl
  exact (h jn).trans (by
    simp only [jn_eq, i21_l4_eq m M1 rec1 h1]
    rfl)
theorem i21_j2_eq (m : Nat) (M1 : Nat) (rec1 : Int → Int → Int → List Dt → List Dt → Option (List Dt × List Dt)) (h1 : ∀ (x0 x1 x2 : Int) (x3 x4 : List Dt), l21 jn m [1, 0] [] M1 (s21_1 x0 x1 x2 x3 x4) = rec1 x0 x1 x2 x3 x4) (x0 x1 x2 : Int) (x3 x4 : List Dt) : e21 jn m [1, 0, 0, 1] [M1] (s21_2 x0 x1 x2 x3 x4) = i21_j2 m rec1 x0 x1 x2 x3 x4 := by
  have h : ∀ J, e21 J m [1, 0, 0, 1] [M1] (s21_2 x0 x1 x2 x3 x4) =
    (J 0 4 0 (s21_3 x0 x1 x2 x2 x3 x4) (e21 J m [1, 0, 0, 1, 0, 0, 1] [M1] (s21_3 x0 x1 x2 x2 x3 x4))) := fun J => by kernel_rfl
  exact (h jn).trans (by
    simp only [jn_eq, i21_j3_eq m M1 rec1 h1]
    rfl)
theorem i21_l1_eq (m : Nat) : ∀ (M1 : Nat) (x0 x1 x2 : Int) (x3 x4 : List Dt), l21 jn m [1, 0] [] M1 (s21_1 x0 x1 x2 x3 x4) = i21_l1 m M1 x0 x1 x2 x3 x4
  | 0, _, _, _, _, _ => rfl
  | M1 + 1, x0, x1, x2, x3, x4 => by
    have h : ∀ J, l21 J m [1, 0] [] (M1 + 1) (s21_1 x0 x1 x2 x3 x4) =
    (bif (decide (x2 < x1)) then
     (J 0 3 0 (s21_2 x0 x1 x2 x3 x4) (e21 J m [1, 0, 0, 1] [M1] (s21_2 x0 x1 x2 x3 x4)))
    else
     some (x3, x4)) := fun J => by kernel_rfl
    refine (h jn).trans ?_
    simp only [jn_eq, i21_j2_eq m M1 (i21_l1 m M1) (fun x0 x1 x2 x3 x4 => i21_l1_eq m M1 x0 x1 x2 x3 x4)]
    rfl
theorem i21_j0_eq (m : Nat) (x0 x1 x2 : Int) (x3 x4 : List Dt) : e21 jn m [1] [] (s21_0 x0 x1 x2 x3 x4) = i21_j0 m x0 x1 x2 x3 x4 := by
  have h : ∀ J, e21 J m [1] [] (s21_0 x0 x1 x2 x3 x4) =
    (J 1 1 (Nat.succ m) (s21_1 x0 x1 x2 x3 x4) (l21 J m [1, 0] [] (Nat.succ m) (s21_1 x0 x1 x2 x3 x4))) := fun J => by kernel_rfl
  exact (h jn).trans (by
    simp only [jn_eq, i21_l1_eq m]
    rfl)
theorem i21_eq (m : Nat) (a0 a1 : Int) (a2 a3 : List Dt) : e21 jn m [] [] ⟨[(.row 0), (.dat 3 (.int a0)), (.dat 3 (.int a1)), (.fn 56 [(.ptr 1 [] 0)])], [(.row 68 a2), (.box 22 (.dat 22 (.lst a3)))], 2⟩ = i21 (m + 1) a0 a1 a2 a3 := by
  have h : ∀ J, e21 J m [] [] ⟨[(.row 0), (.dat 3 (.int a0)), (.dat 3 (.int a1)), (.fn 56 [(.ptr 1 [] 0)])], [(.row 68 a2), (.box 22 (.dat 22 (.lst a3)))], 2⟩ =
    (J 0 1 0 (s21_0 a0 a1 (IntKind.wrap IntKind.i64 (a0 + (1 : Int))) a2 a3) (e21 J m [1] [] (s21_0 a0 a1 (IntKind.wrap IntKind.i64 (a0 + (1 : Int))) a2 a3))) := fun J => by kernel_rfl
  refine (h jn).trans ?_
  simp only [jn_eq, i21_j0_eq m]
  rfl
noncomputable def d23 (q : Res) : Option (List Dt × List Dt) := match q with
  | (.tup [], [.row T0 x0, .box T1 (.dat T2 x2)]) => bif (Nat.beq T0 68 && (Nat.beq T1 22 && Nat.beq T2 22)) then some (x0, x2.toLst) else none
  | _ => none
theorem d23_sim {b : Res} {r : List Dt × List Dt} (h : d23 b = some r) : Sim Tryd.prog b ((.tup []), [(.row 68 r.1), (.box 22 (.dat 22 (.lst r.2)))]) := by
  unfold d23 at h
  split at h
  · obtain ⟨hc, h2⟩ := bif_some h
    cases h2
    have e0 := beq_eq (and_l hc)
    have e1 := beq_eq (and_l (and_r hc))
    have e2 := beq_eq (and_r (and_r hc))
    subst e0 e1 e2
    exact Sim.of (.tup .nil) (.cons .same (.cons (.box (.dat (.lst Tryd.underlying22))) .nil))
  · cases h
noncomputable def e23 (J : Nat → Nat → Nat → St → Option (List Dt × List Dt) → Option (List Dt × List Dt)) (m : Nat) (p ms : List Nat) (σ : St) := evAt Tryd.prog env (ct m) J (m + 1) 82 220 Tryd.f82 d23 p ms σ
noncomputable def l23 (J : Nat → Nat → Nat → St → Option (List Dt × List Dt) → Option (List Dt × List Dt)) (m : Nat) (p ms : List Nat) (M : Nat) (σ : St) := loopAt Tryd.prog env (ct m) J (m + 1) 82 220 Tryd.f82 d23 p ms M σ
noncomputable def s23_2 (x0 x1 x2 : Int) (x3 x4 : List Dt) : St := ⟨tsOf [(0, (.row 0)), (1, (.dat 3 (.int x0))), (4, (.fn 56 [(.ptr 1 [] 0)])), (10, (.dat 3 (.int x1))), (11, (.dat 3 (.int x2)))], [(.row 68 x3), (.box 22 (.dat 22 (.lst x4)))], 2⟩
noncomputable def s23_7 (x0 x1 : Int) (x2 x3 : List Dt) : St := ⟨tsOf [(0, (.row 0)), (10, (.dat 3 (.int x0))), (13, (.dat 3 (.int x1)))], [(.row 68 x2), (.box 22 (.dat 22 (.lst x3)))], 2⟩
noncomputable def s23_6 (x0 x1 : Int) (x2 x3 : List Dt) : St := ⟨tsOf [(0, (.row 0)), (10, (.dat 3 (.int x0))), (13, (.dat 3 (.int x1)))], [(.row 68 x2), (.box 22 (.dat 22 (.lst x3)))], 2⟩
noncomputable def s23_5 (x0 x1 : Int) (x2 x3 : List Dt) : St := ⟨tsOf [(0, (.row 0)), (10, (.dat 3 (.int x0))), (13, (.dat 3 (.int x1)))], [(.row 68 x2), (.box 22 (.dat 22 (.lst x3)))], 2⟩
noncomputable def s23_4 (x0 x1 : Int) (x2 x3 : List Dt) : St := ⟨tsOf [(0, (.row 0)), (10, (.dat 3 (.int x0))), (13, (.dat 3 (.int x1)))], [(.row 68 x2), (.box 22 (.dat 22 (.lst x3)))], 2⟩
noncomputable def s23_3 (x0 x1 : Int) (x2 x3 : List Dt) : St := ⟨tsOf [(0, (.row 0)), (1, (.dat 3 (.int x0))), (10, (.dat 3 (.int x1)))], [(.row 68 x2), (.box 22 (.dat 22 (.lst x3)))], 2⟩
noncomputable def s23_1 (x0 x1 x2 : Int) (x3 x4 : List Dt) : St := ⟨tsOf [(0, (.row 0)), (1, (.dat 3 (.int x0))), (4, (.fn 56 [(.ptr 1 [] 0)])), (10, (.dat 3 (.int x1))), (11, (.dat 3 (.int x2)))], [(.row 68 x3), (.box 22 (.dat 22 (.lst x4)))], 2⟩
noncomputable def s23_0 (x0 x1 x2 : Int) (x3 x4 : List Dt) : St := ⟨tsOf [(0, (.row 0)), (1, (.dat 3 (.int x0))), (4, (.fn 56 [(.ptr 1 [] 0)])), (10, (.dat 3 (.int x1))), (11, (.dat 3 (.int x2)))], [(.row 68 x3), (.box 22 (.dat 22 (.lst x4)))], 2⟩
noncomputable def s23_11 (x0 x1 x2 : Int) (x3 x4 : List Dt) : St := ⟨tsOf [(0, (.row 0)), (2, (.dat 3 (.int x0))), (4, (.fn 56 [(.ptr 1 [] 0)])), (14, (.dat 3 (.int x1))), (15, (.dat 3 (.int x2)))], [(.row 68 x3), (.box 22 (.dat 22 (.lst x4)))], 2⟩
noncomputable def s23_16 (x0 x1 : Int) (x2 x3 : List Dt) : St := ⟨tsOf [(0, (.row 0)), (14, (.dat 3 (.int x0))), (17, (.dat 3 (.int x1)))], [(.row 68 x2), (.box 22 (.dat 22 (.lst x3)))], 2⟩
noncomputable def s23_15 (x0 x1 : Int) (x2 x3 : List Dt) : St := ⟨tsOf [(0, (.row 0)), (14, (.dat 3 (.int x0))), (17, (.dat 3 (.int x1)))], [(.row 68 x2), (.box 22 (.dat 22 (.lst x3)))], 2⟩
noncomputable def s23_14 (x0 x1 : Int) (x2 x3 : List Dt) : St := ⟨tsOf [(0, (.row 0)), (14, (.dat 3 (.int x0))), (17, (.dat 3 (.int x1)))], [(.row 68 x2), (.box 22 (.dat 22 (.lst x3)))], 2⟩
noncomputable def s23_13 (x0 x1 : Int) (x2 x3 : List Dt) : St := ⟨tsOf [(0, (.row 0)), (14, (.dat 3 (.int x0))), (17, (.dat 3 (.int x1)))], [(.row 68 x2), (.box 22 (.dat 22 (.lst x3)))], 2⟩
noncomputable def s23_12 (x0 x1 : Int) (x2 x3 : List Dt) : St := ⟨tsOf [(0, (.row 0)), (2, (.dat 3 (.int x0))), (14, (.dat 3 (.int x1)))], [(.row 68 x2), (.box 22 (.dat 22 (.lst x3)))], 2⟩
noncomputable def s23_10 (x0 x1 x2 : Int) (x3 x4 : List Dt) : St := ⟨tsOf [(0, (.row 0)), (2, (.dat 3 (.int x0))), (4, (.fn 56 [(.ptr 1 [] 0)])), (14, (.dat 3 (.int x1))), (15, (.dat 3 (.int x2)))], [(.row 68 x3), (.box 22 (.dat 22 (.lst x4)))], 2⟩
noncomputable def s23_9 (x0 x1 x2 : Int) (x3 x4 : List Dt) : St := ⟨tsOf [(0, (.row 0)), (2, (.dat 3 (.int x0))), (4, (.fn 56 [(.ptr 1 [] 0)])), (14, (.dat 3 (.int x1))), (15, (.dat 3 (.int x2)))], [(.row 68 x3), (.box 22 (.dat 22 (.lst x4)))], 2⟩
noncomputable def s23_21 (x0 x1 x2 x3 x4 x5 x6 x7 : Int) (x8 x9 : List Dt) : St := ⟨tsOf [(0, (.row 0)), (1, (.dat 3 (.int x0))), (2, (.dat 3 (.int x1))), (3, (.dat 3 (.int x2))), (4, (.fn 56 [(.ptr 1 [] 0)])), (18, (.dat 3 (.int x3))), (19, (.dat 3 (.int x4))), (20, (.dat 3 (.int x5))), (21, (.dat 3 (.int x6))), (22, (.dat 3 (.int x7)))], [(.row 68 x8), (.box 22 (.dat 22 (.lst x9)))], 2⟩
noncomputable def s23_24 (x0 x1 x2 : Int) (x3 x4 : List Dt) : St := ⟨tsOf [(0, (.row 0)), (3, (.dat 3 (.int x0))), (4, (.fn 56 [(.ptr 1 [] 0)])), (18, (.dat 3 (.int x1))), (24, (.dat 3 (.int x2)))], [(.row 68 x3), (.box 22 (.dat 22 (.lst x4)))], 2⟩
noncomputable def s23_23 (x0 x1 x2 x3 x4 : Int) (x5 x6 : List Dt) : St := ⟨tsOf [(0, (.row 0)), (1, (.dat 3 (.int x0))), (3, (.dat 3 (.int x1))), (4, (.fn 56 [(.ptr 1 [] 0)])), (18, (.dat 3 (.int x2))), (20, (.dat 3 (.int x3))), (24, (.dat 3 (.int x4)))], [(.row 68 x5), (.box 22 (.dat 22 (.lst x6)))], 2⟩
noncomputable def s23_22 (x0 x1 x2 x3 x4 x5 : Int) (x6 x7 : List Dt) : St := ⟨tsOf [(0, (.row 0)), (1, (.dat 3 (.int x0))), (2, (.dat 3 (.int x1))), (3, (.dat 3 (.int x2))), (4, (.fn 56 [(.ptr 1 [] 0)])), (18, (.dat 3 (.int x3))), (19, (.dat 3 (.int x4))), (20, (.dat 3 (.int x5)))], [(.row 68 x6), (.box 22 (.dat 22 (.lst x7)))], 2⟩
noncomputable def s23_20 (x0 x1 x2 x3 x4 x5 x6 x7 : Int) (x8 x9 : List Dt) : St := ⟨tsOf [(0, (.row 0)), (1, (.dat 3 (.int x0))), (2, (.dat 3 (.int x1))), (3, (.dat 3 (.int x2))), (4, (.fn 56 [(.ptr 1 [] 0)])), (18, (.dat 3 (.int x3))), (19, (.dat 3 (.int x4))), (20, (.dat 3 (.int x5))), (21, (.dat 3 (.int x6))), (22, (.dat 3 (.int x7)))], [(.row 68 x8), (.box 22 (.dat 22 (.lst x9)))], 2⟩
noncomputable def s23_19 (x0 x1 x2 x3 x4 x5 x6 x7 : Int) (x8 x9 : List Dt) : St := ⟨tsOf [(0, (.row 0)), (1, (.dat 3 (.int x0))), (2, (.dat 3 (.int x1))), (3, (.dat 3 (.int x2))), (4, (.fn 56 [(.ptr 1 [] 0)])), (18, (.dat 3 (.int x3))), (19, (.dat 3 (.int x4))), (20, (.dat 3 (.int x5))), (21, (.dat 3 (.int x6))), (22, (.dat 3 (.int x7)))], [(.row 68 x8), (.box 22 (.dat 22 (.lst x9)))], 2⟩
noncomputable def s23_18 (x0 x1 x2 x3 x4 x5 x6 : Int) (x7 x8 : List Dt) : St := ⟨tsOf [(0, (.row 0)), (1, (.dat 3 (.int x0))), (2, (.dat 3 (.int x1))), (3, (.dat 3 (.int x2))), (4, (.fn 56 [(.ptr 1 [] 0)])), (18, (.dat 3 (.int x3))), (19, (.dat 3 (.int x4))), (20, (.dat 3 (.int x5))), (21, (.dat 3 (.int x6)))], [(.row 68 x7), (.box 22 (.dat 22 (.lst x8)))], 2⟩
noncomputable def s23_17 (x0 x1 x2 : Int) (x3 x4 : List Dt) : St := ⟨tsOf [(0, (.row 0)), (1, (.dat 3 (.int x0))), (2, (.dat 3 (.int x1))), (3, (.dat 3 (.int x2))), (4, (.fn 56 [(.ptr 1 [] 0)]))], [(.row 68 x3), (.box 22 (.dat 22 (.lst x4)))], 2⟩
noncomputable def s23_8 (x0 x1 x2 : Int) (x3 x4 : List Dt) : St := ⟨tsOf [(0, (.row 0)), (1, (.dat 3 (.int x0))), (2, (.dat 3 (.int x1))), (3, (.dat 3 (.int x2))), (4, (.fn 56 [(.ptr 1 [] 0)]))], [(.row 68 x3), (.box 22 (.dat 22 (.lst x4)))], 2⟩
theorem i23_j2_eq (m : Nat) (M1 : Nat) (rec1 : Int → Int → Int → List Dt → List Dt → Option (List Dt × List Dt)) (h1 : ∀ (x0 x1 x2 : Int) (x3 x4 : List Dt), l23 jn m [0, 1, 0, 1, 1, 0, 0] [] M1 (s23_1 x0 x1 x2 x3 x4) = rec1 x0 x1 x2 x3 x4) (x0 x1 x2 : Int) (x3 x4 : List Dt) : e23 jn m [0, 1, 0, 1, 1, 0, 0, 0, 1] [M1] (s23_2 x0 x1 x2 x3 x4) = i23_j2 m (i23 m) rec1 x0 x1 x2 x3 x4 := by
  have h : ∀ J, e23 J m [0, 1, 0, 1, 1, 0, 0, 0, 1] [M1] (s23_2 x0 x1 x2 x3 x4) =
    ((inL x3 (IntKind.wrap IntKind.i64 (shrI IntKind.u64 (IntKind.wrap IntKind.u64 (IntKind.wrap IntKind.i64 (x1 + x2))) (1 : Int)))).bind fun v0 =>
     ((x3[(Int.toNat (IntKind.wrap IntKind.i64 (shrI IntKind.u64 (IntKind.wrap IntKind.u64 (IntKind.wrap IntKind.i64 (x1 + x2))) (1 : Int))))]?).bind fun v1 =>
     ((inL x3 x0).bind fun v2 =>
     ((x3[(Int.toNat x0)]?).bind fun v3 =>
     ((i22 m v1 v3 x4).bind fun r4 =>
     (bif (decide ((Prod.fst r4) < (0 : Int))) then
     (J 1 3 M1 (s23_1 x0 (IntKind.wrap IntKind.i64 ((IntKind.wrap IntKind.i64 (shrI IntKind.u64 (IntKind.wrap IntKind.u64 (IntKind.wrap IntKind.i64 (x1 + x2))) (1 : Int))) + (1 : Int))) x2 x3 (Prod.snd r4)) (l23 J m [0, 1, 0, 1, 1, 0, 0] [] M1 (s23_1 x0 (IntKind.wrap IntKind.i64 ((IntKind.wrap IntKind.i64 (shrI IntKind.u64 (IntKind.wrap IntKind.u64 (IntKind.wrap IntKind.i64 (x1 + x2))) (1 : Int))) + (1 : Int))) x2 x3 (Prod.snd r4))))
     else
     (J 1 3 M1 (s23_1 x0 x1 (IntKind.wrap IntKind.i64 (shrI IntKind.u64 (IntKind.wrap IntKind.u64 (IntKind.wrap IntKind.i64 (x1 + x2))) (1 : Int))) x3 (Prod.snd r4)) (l23 J m [0, 1, 0, 1, 1, 0, 0] [] M1 (s23_1 x0 x1 (IntKind.wrap IntKind.i64 (shrI IntKind.u64 (IntKind.wrap IntKind.u64 (IntKind.wrap IntKind.i64 (x1 + x2))) (1 : Int))) x3 (Prod.snd r4)))))))))) := fun J => by kernel_rfl
  exact (h jn).trans (by
    simp only [jn_eq, h1]
    rfl)
theorem i23_j7_eq (m : Nat) (M5 : Nat) (rec5 : Int → Int → List Dt → List Dt → Option (List Dt × List Dt)) (h5 : ∀ (x0 x1 : Int) (x2 x3 : List Dt), l23 jn m [0, 1, 0, 1, 1, 1, 0, 1, 0] [] M5 (s23_5 x0 x1 x2 x3) = rec5 x0 x1 x2 x3) (x0 x1 : Int) (x2 x3 : List Dt) : e23 jn m [0, 1, 0, 1, 1, 1, 0, 1, 0, 0, 1, 1] [M5] (s23_7 x0 x1 x2 x3) = i23_j7 m (i23 m) rec5 x0 x1 x2 x3 := by
  have h : ∀ J, e23 J m [0, 1, 0, 1, 1, 1, 0, 1, 0, 0, 1, 1] [M5] (s23_7 x0 x1 x2 x3) =
    (J 1 9 M5 (s23_5 x0 (IntKind.wrap IntKind.i64 (x1 + (1 : Int))) x2 x3) (l23 J m [0, 1, 0, 1, 1, 1, 0, 1, 0] [] M5 (s23_5 x0 (IntKind.wrap IntKind.i64 (x1 + (1 : Int))) x2 x3))) := fun J => by kernel_rfl
  exact (h jn).trans (by
    simp only [jn_eq, h5]
    rfl)
theorem i23_j6_eq (m : Nat) (M5 : Nat) (rec5 : Int → Int → List Dt → List Dt → Option (List Dt × List Dt)) (h5 : ∀ (x0 x1 : Int) (x2 x3 : List Dt), l23 jn m [0, 1, 0, 1, 1, 1, 0, 1, 0] [] M5 (s23_5 x0 x1 x2 x3) = rec5 x0 x1 x2 x3) (x0 x1 : Int) (x2 x3 : List Dt) : e23 jn m [0, 1, 0, 1, 1, 1, 0, 1, 0, 0, 1] [M5] (s23_6 x0 x1 x2 x3) = i23_j6 m (i23 m) rec5 x0 x1 x2 x3 := by
  have h : ∀ J, e23 J m [0, 1, 0, 1, 1, 1, 0, 1, 0, 0, 1] [M5] (s23_6 x0 x1 x2 x3) =
    ((inL x2 (IntKind.wrap IntKind.i64 (x1 + (1 : Int)))).bind fun v5 =>
     ((x2[(Int.toNat (IntKind.wrap IntKind.i64 (x1 + (1 : Int))))]?).bind fun v6 =>
     ((inL x2 x1).bind fun v7 =>
     ((x2[(Int.toNat x1)]?).bind fun v8 =>
     ((inL x2 x1).bind fun v9 =>
     ((x2[(Int.toNat x1)]?).bind fun v10 =>
     ((inL (List.set x2 (Int.toNat x1) v6) (IntKind.wrap IntKind.i64 (x1 + (1 : Int)))).bind fun v11 =>
     (((List.set x2 (Int.toNat x1) v6)[(Int.toNat (IntKind.wrap IntKind.i64 (x1 + (1 : Int))))]?).bind fun v12 =>
     (J 0 10 0 (s23_7 x0 x1 (List.set (List.set x2 (Int.toNat x1) v6) (Int.toNat (IntKind.wrap IntKind.i64 (x1 + (1 : Int)))) v8) x3) (e23 J m [0, 1, 0, 1, 1, 1, 0, 1, 0, 0, 1, 1] [M5] (s23_7 x0 x1 (List.set (List.set x2 (Int.toNat x1) v6) (Int.toNat (IntKind.wrap IntKind.i64 (x1 + (1 : Int)))) v8) x3))))))))))) := fun J => by kernel_rfl
  exact (h jn).trans (by
    simp only [jn_eq, i23_j7_eq m M5 rec5 h5]
    rfl)
theorem i23_l5_eq (m : Nat) : ∀ (M5 : Nat) (x0 x1 : Int) (x2 x3 : List Dt), l23 jn m [0, 1, 0, 1, 1, 1, 0, 1, 0] [] M5 (s23_5 x0 x1 x2 x3) = i23_l5 m (i23 m) M5 x0 x1 x2 x3
  | 0, _, _, _, _ => rfl
  | M5 + 1, x0, x1, x2, x3 => by
    have h : ∀ J, l23 J m [0, 1, 0, 1, 1, 1, 0, 1, 0] [] (M5 + 1) (s23_5 x0 x1 x2 x3) =
    (bif (decide (x1 < (IntKind.wrap IntKind.i64 (x0 - (1 : Int))))) then
     (J 0 11 0 (s23_6 x0 x1 x2 x3) (e23 J m [0, 1, 0, 1, 1, 1, 0, 1, 0, 0, 1] [M5] (s23_6 x0 x1 x2 x3)))
    else
     some (x2, x3)) := fun J => by kernel_rfl
    refine (h jn).trans ?_
    simp only [jn_eq, i23_j6_eq m M5 (i23_l5 m (i23 m) M5) (fun x0 x1 x2 x3 => i23_l5_eq m M5 x0 x1 x2 x3)]
    rfl
theorem i23_j4_eq (m : Nat) (x0 x1 : Int) (x2 x3 : List Dt) : e23 jn m [0, 1, 0, 1, 1, 1, 0, 1] [] (s23_4 x0 x1 x2 x3) = i23_j4 m (i23 m) x0 x1 x2 x3 := by
  have h : ∀ J, e23 J m [0, 1, 0, 1, 1, 1, 0, 1] [] (s23_4 x0 x1 x2 x3) =
    (J 1 9 (Nat.succ m) (s23_5 x0 x1 x2 x3) (l23 J m [0, 1, 0, 1, 1, 1, 0, 1, 0] [] (Nat.succ m) (s23_5 x0 x1 x2 x3))) := fun J => by kernel_rfl
  exact (h jn).trans (by
    simp only [jn_eq, i23_l5_eq m]
    rfl)
theorem i23_j3_eq (m : Nat) (x0 x1 : Int) (x2 x3 : List Dt) : e23 jn m [0, 1, 0, 1, 1, 1] [] (s23_3 x0 x1 x2 x3) = i23_j3 m (i23 m) x0 x1 x2 x3 := by
  have h : ∀ J, e23 J m [0, 1, 0, 1, 1, 1] [] (s23_3 x0 x1 x2 x3) =
    (J 0 9 0 (s23_4 x1 x0 x2 x3) (e23 J m [0, 1, 0, 1, 1, 1, 0, 1] [] (s23_4 x1 x0 x2 x3))) := fun J => by kernel_rfl
  exact (h jn).trans (by
    simp only [jn_eq, i23_j4_eq m]
    rfl)
theorem i23_l1_eq (m : Nat) : ∀ (M1 : Nat) (x0 x1 x2 : Int) (x3 x4 : List Dt), l23 jn m [0, 1, 0, 1, 1, 0, 0] [] M1 (s23_1 x0 x1 x2 x3 x4) = i23_l1 m (i23 m) M1 x0 x1 x2 x3 x4
  | 0, _, _, _, _, _ => rfl
  | M1 + 1, x0, x1, x2, x3, x4 => by
    have h : ∀ J, l23 J m [0, 1, 0, 1, 1, 0, 0] [] (M1 + 1) (s23_1 x0 x1 x2 x3 x4) =
    (bif (decide (x1 < x2)) then
     (J 0 4 0 (s23_2 x0 x1 x2 x3 x4) (e23 J m [0, 1, 0, 1, 1, 0, 0, 0, 1] [M1] (s23_2 x0 x1 x2 x3 x4)))
    else
     (J 0 8 0 (s23_3 x0 x1 x3 x4) (e23 J m [0, 1, 0, 1, 1, 1] [] (s23_3 x0 x1 x3 x4)))) := fun J => by kernel_rfl
    refine (h jn).trans ?_
    simp only [jn_eq, i23_j2_eq m M1 (i23_l1 m (i23 m) M1) (fun x0 x1 x2 x3 x4 => i23_l1_eq m M1 x0 x1 x2 x3 x4), i23_j3_eq m]
    rfl
theorem i23_j0_eq (m : Nat) (x0 x1 x2 : Int) (x3 x4 : List Dt) : e23 jn m [0, 1, 0, 1, 1] [] (s23_0 x0 x1 x2 x3 x4) = i23_j0 m (i23 m) x0 x1 x2 x3 x4 := by
  have h : ∀ J, e23 J m [0, 1, 0, 1, 1] [] (s23_0 x0 x1 x2 x3 x4) =
    (J 1 3 (Nat.succ m) (s23_1 x0 x1 x2 x3 x4) (l23 J m [0, 1, 0, 1, 1, 0, 0] [] (Nat.succ m) (s23_1 x0 x1 x2 x3 x4))) := fun J => by kernel_rfl
  exact (h jn).trans (by
    simp only [jn_eq, i23_l1_eq m]
    rfl)
theorem i23_j11_eq (m : Nat) (M10 : Nat) (rec10 : Int → Int → Int → List Dt → List Dt → Option (List Dt × List Dt)) (h10 : ∀ (x0 x1 x2 : Int) (x3 x4 : List Dt), l23 jn m [1, 0, 1, 0, 1, 1, 0, 0] [] M10 (s23_10 x0 x1 x2 x3 x4) = rec10 x0 x1 x2 x3 x4) (x0 x1 x2 : Int) (x3 x4 : List Dt) : e23 jn m [1, 0, 1, 0, 1, 1, 0, 0, 0, 1] [M10] (s23_11 x0 x1 x2 x3 x4) = i23_j11 m (i23 m) rec10 x0 x1 x2 x3 x4 := by
  have h : ∀ J, e23 J m [1, 0, 1, 0, 1, 1, 0, 0, 0, 1] [M10] (s23_11 x0 x1 x2 x3 x4) =
    ((inL x3 x0).bind fun v13 =>
     ((x3[(Int.toNat x0)]?).bind fun v14 =>
     ((inL x3 (IntKind.wrap IntKind.i64 (shrI IntKind.u64 (IntKind.wrap IntKind.u64 (IntKind.wrap IntKind.i64 (x1 + x2))) (1 : Int)))).bind fun v15 =>
     ((x3[(Int.toNat (IntKind.wrap IntKind.i64 (shrI IntKind.u64 (IntKind.wrap IntKind.u64 (IntKind.wrap IntKind.i64 (x1 + x2))) (1 : Int))))]?).bind fun v16 =>
     ((i22 m v14 v16 x4).bind fun r17 =>
     (bif (Bool.not (decide ((Prod.fst r17) < (0 : Int)))) then
     (J 1 15 M10 (s23_10 x0 (IntKind.wrap IntKind.i64 ((IntKind.wrap IntKind.i64 (shrI IntKind.u64 (IntKind.wrap IntKind.u64 (IntKind.wrap IntKind.i64 (x1 + x2))) (1 : Int))) + (1 : Int))) x2 x3 (Prod.snd r17)) (l23 J m [1, 0, 1, 0, 1, 1, 0, 0] [] M10 (s23_10 x0 (IntKind.wrap IntKind.i64 ((IntKind.wrap IntKind.i64 (shrI IntKind.u64 (IntKind.wrap IntKind.u64 (IntKind.wrap IntKind.i64 (x1 + x2))) (1 : Int))) + (1 : Int))) x2 x3 (Prod.snd r17))))
     else
     (J 1 15 M10 (s23_10 x0 x1 (IntKind.wrap IntKind.i64 (shrI IntKind.u64 (IntKind.wrap IntKind.u64 (IntKind.wrap IntKind.i64 (x1 + x2))) (1 : Int))) x3 (Prod.snd r17)) (l23 J m [1, 0, 1, 0, 1, 1, 0, 0] [] M10 (s23_10 x0 x1 (IntKind.wrap IntKind.i64 (shrI IntKind.u64 (IntKind.wrap IntKind.u64 (IntKind.wrap IntKind.i64 (x1 + x2))) (1 : Int))) x3 (Prod.snd r17)))))))))) := fun J => by kernel_rfl
  exact (h jn).trans (by
    simp only [jn_eq, h10]
    rfl)
theorem i23_j16_eq (m : Nat) (M14 : Nat) (rec14 : Int → Int → List Dt → List Dt → Option (List Dt × List Dt)) (h14 : ∀ (x0 x1 : Int) (x2 x3 : List Dt), l23 jn m [1, 0, 1, 0, 1, 1, 1, 0, 1, 0] [] M14 (s23_14 x0 x1 x2 x3) = rec14 x0 x1 x2 x3) (x0 x1 : Int) (x2 x3 : List Dt) : e23 jn m [1, 0, 1, 0, 1, 1, 1, 0, 1, 0, 0, 1, 1] [M14] (s23_16 x0 x1 x2 x3) = i23_j16 m (i23 m) rec14 x0 x1 x2 x3 := by
  have h : ∀ J, e23 J m [1, 0, 1, 0, 1, 1, 1, 0, 1, 0, 0, 1, 1] [M14] (s23_16 x0 x1 x2 x3) =
    (J 1 21 M14 (s23_14 x0 (IntKind.wrap IntKind.i64 (x1 - (1 : Int))) x2 x3) (l23 J m [1, 0, 1, 0, 1, 1, 1, 0, 1, 0] [] M14 (s23_14 x0 (IntKind.wrap IntKind.i64 (x1 - (1 : Int))) x2 x3))) := fun J => by kernel_rfl
  exact (h jn).trans (by
    simp only [jn_eq, h14]
    rfl)
theorem i23_j15_eq (m : Nat) (M14 : Nat) (rec14 : Int → Int → List Dt → List Dt → Option (List Dt × List Dt)) (h14 : ∀ (x0 x1 : Int) (x2 x3 : List Dt), l23 jn m [1, 0, 1, 0, 1, 1, 1, 0, 1, 0] [] M14 (s23_14 x0 x1 x2 x3) = rec14 x0 x1 x2 x3) (x0 x1 : Int) (x2 x3 : List Dt) : e23 jn m [1, 0, 1, 0, 1, 1, 1, 0, 1, 0, 0, 1] [M14] (s23_15 x0 x1 x2 x3) = i23_j15 m (i23 m) rec14 x0 x1 x2 x3 := by
  have h : ∀ J, e23 J m [1, 0, 1, 0, 1, 1, 1, 0, 1, 0, 0, 1] [M14] (s23_15 x0 x1 x2 x3) =
    ((inL x2 (IntKind.wrap IntKind.i64 (x1 - (1 : Int)))).bind fun v18 =>
     ((x2[(Int.toNat (IntKind.wrap IntKind.i64 (x1 - (1 : Int))))]?).bind fun v19 =>
     ((inL x2 x1).bind fun v20 =>
     ((x2[(Int.toNat x1)]?).bind fun v21 =>
     ((inL x2 x1).bind fun v22 =>
     ((x2[(Int.toNat x1)]?).bind fun v23 =>
     ((inL (List.set x2 (Int.toNat x1) v19) (IntKind.wrap IntKind.i64 (x1 - (1 : Int)))).bind fun v24 =>
     (((List.set x2 (Int.toNat x1) v19)[(Int.toNat (IntKind.wrap IntKind.i64 (x1 - (1 : Int))))]?).bind fun v25 =>
     (J 0 22 0 (s23_16 x0 x1 (List.set (List.set x2 (Int.toNat x1) v19) (Int.toNat (IntKind.wrap IntKind.i64 (x1 - (1 : Int)))) v21) x3) (e23 J m [1, 0, 1, 0, 1, 1, 1, 0, 1, 0, 0, 1, 1] [M14] (s23_16 x0 x1 (List.set (List.set x2 (Int.toNat x1) v19) (Int.toNat (IntKind.wrap IntKind.i64 (x1 - (1 : Int)))) v21) x3))))))))))) := fun J => by kernel_rfl
  exact (h jn).trans (by
    simp only [jn_eq, i23_j16_eq m M14 rec14 h14]
    rfl)
theorem i23_l14_eq (m : Nat) : ∀ (M14 : Nat) (x0 x1 : Int) (x2 x3 : List Dt), l23 jn m [1, 0, 1, 0, 1, 1, 1, 0, 1, 0] [] M14 (s23_14 x0 x1 x2 x3) = i23_l14 m (i23 m) M14 x0 x1 x2 x3
  | 0, _, _, _, _ => rfl
  | M14 + 1, x0, x1, x2, x3 => by
    have h : ∀ J, l23 J m [1, 0, 1, 0, 1, 1, 1, 0, 1, 0] [] (M14 + 1) (s23_14 x0 x1 x2 x3) =
    (bif (decide (x0 < x1)) then
     (J 0 23 0 (s23_15 x0 x1 x2 x3) (e23 J m [1, 0, 1, 0, 1, 1, 1, 0, 1, 0, 0, 1] [M14] (s23_15 x0 x1 x2 x3)))
    else
     some (x2, x3)) := fun J => by kernel_rfl
    refine (h jn).trans ?_
    simp only [jn_eq, i23_j15_eq m M14 (i23_l14 m (i23 m) M14) (fun x0 x1 x2 x3 => i23_l14_eq m M14 x0 x1 x2 x3)]
    rfl
theorem i23_j13_eq (m : Nat) (x0 x1 : Int) (x2 x3 : List Dt) : e23 jn m [1, 0, 1, 0, 1, 1, 1, 0, 1] [] (s23_13 x0 x1 x2 x3) = i23_j13 m (i23 m) x0 x1 x2 x3 := by
  have h : ∀ J, e23 J m [1, 0, 1, 0, 1, 1, 1, 0, 1] [] (s23_13 x0 x1 x2 x3) =
    (J 1 21 (Nat.succ m) (s23_14 x0 x1 x2 x3) (l23 J m [1, 0, 1, 0, 1, 1, 1, 0, 1, 0] [] (Nat.succ m) (s23_14 x0 x1 x2 x3))) := fun J => by kernel_rfl
  exact (h jn).trans (by
    simp only [jn_eq, i23_l14_eq m]
    rfl)
theorem i23_j12_eq (m : Nat) (x0 x1 : Int) (x2 x3 : List Dt) : e23 jn m [1, 0, 1, 0, 1, 1, 1] [] (s23_12 x0 x1 x2 x3) = i23_j12 m (i23 m) x0 x1 x2 x3 := by
  have h : ∀ J, e23 J m [1, 0, 1, 0, 1, 1, 1] [] (s23_12 x0 x1 x2 x3) =
    (J 0 21 0 (s23_13 x1 x0 x2 x3) (e23 J m [1, 0, 1, 0, 1, 1, 1, 0, 1] [] (s23_13 x1 x0 x2 x3))) := fun J => by kernel_rfl
  exact (h jn).trans (by
    simp only [jn_eq, i23_j13_eq m]
    rfl)
theorem i23_l10_eq (m : Nat) : ∀ (M10 : Nat) (x0 x1 x2 : Int) (x3 x4 : List Dt), l23 jn m [1, 0, 1, 0, 1, 1, 0, 0] [] M10 (s23_10 x0 x1 x2 x3 x4) = i23_l10 m (i23 m) M10 x0 x1 x2 x3 x4
  | 0, _, _, _, _, _ => rfl
  | M10 + 1, x0, x1, x2, x3, x4 => by
    have h : ∀ J, l23 J m [1, 0, 1, 0, 1, 1, 0, 0] [] (M10 + 1) (s23_10 x0 x1 x2 x3 x4) =
    (bif (decide (x1 < x2)) then
     (J 0 16 0 (s23_11 x0 x1 x2 x3 x4) (e23 J m [1, 0, 1, 0, 1, 1, 0, 0, 0, 1] [M10] (s23_11 x0 x1 x2 x3 x4)))
    else
     (J 0 20 0 (s23_12 x0 x1 x3 x4) (e23 J m [1, 0, 1, 0, 1, 1, 1] [] (s23_12 x0 x1 x3 x4)))) := fun J => by kernel_rfl
    refine (h jn).trans ?_
    simp only [jn_eq, i23_j11_eq m M10 (i23_l10 m (i23 m) M10) (fun x0 x1 x2 x3 x4 => i23_l10_eq m M10 x0 x1 x2 x3 x4), i23_j12_eq m]
    rfl
theorem i23_j9_eq (m : Nat) (x0 x1 x2 : Int) (x3 x4 : List Dt) : e23 jn m [1, 0, 1, 0, 1, 1] [] (s23_9 x0 x1 x2 x3 x4) = i23_j9 m (i23 m) x0 x1 x2 x3 x4 := by
  have h : ∀ J, e23 J m [1, 0, 1, 0, 1, 1] [] (s23_9 x0 x1 x2 x3 x4) =
    (J 1 15 (Nat.succ m) (s23_10 x0 x1 x2 x3 x4) (l23 J m [1, 0, 1, 0, 1, 1, 0, 0] [] (Nat.succ m) (s23_10 x0 x1 x2 x3 x4))) := fun J => by kernel_rfl
  exact (h jn).trans (by
    simp only [jn_eq, i23_l10_eq m]
    rfl)
theorem i23_j21_eq (m : Nat) (M20 : Nat) (rec20 : Int → Int → Int → Int → Int → Int → Int → Int → List Dt → List Dt → Option (List Dt × List Dt)) (h20 : ∀ (x0 x1 x2 x3 x4 x5 x6 x7 : Int) (x8 x9 : List Dt), l23 jn m [1, 1, 1, 1, 1, 1, 1, 0, 0] [] M20 (s23_20 x0 x1 x2 x3 x4 x5 x6 x7 x8 x9) = rec20 x0 x1 x2 x3 x4 x5 x6 x7 x8 x9) (x0 x1 x2 x3 x4 x5 x6 x7 : Int) (x8 x9 : List Dt) : e23 jn m [1, 1, 1, 1, 1, 1, 1, 0, 0, 0, 1] [M20] (s23_21 x0 x1 x2 x3 x4 x5 x6 x7 x8 x9) = i23_j21 m (i23 m) rec20 x0 x1 x2 x3 x4 x5 x6 x7 x8 x9 := by
  have h : ∀ J, e23 J m [1, 1, 1, 1, 1, 1, 1, 0, 0, 0, 1] [M20] (s23_21 x0 x1 x2 x3 x4 x5 x6 x7 x8 x9) =
    ((inL x8 (IntKind.wrap IntKind.i64 (x7 - (IntKind.wrap IntKind.i64 (shrI IntKind.u64 (IntKind.wrap IntKind.u64 (IntKind.wrap IntKind.i64 (x5 + x6))) (1 : Int)))))).bind fun v26 =>
     ((x8[(Int.toNat (IntKind.wrap IntKind.i64 (x7 - (IntKind.wrap IntKind.i64 (shrI IntKind.u64 (IntKind.wrap IntKind.u64 (IntKind.wrap IntKind.i64 (x5 + x6))) (1 : Int))))))]?).bind fun v27 =>
     ((inL x8 (IntKind.wrap IntKind.i64 (shrI IntKind.u64 (IntKind.wrap IntKind.u64 (IntKind.wrap IntKind.i64 (x5 + x6))) (1 : Int)))).bind fun v28 =>
     ((x8[(Int.toNat (IntKind.wrap IntKind.i64 (shrI IntKind.u64 (IntKind.wrap IntKind.u64 (IntKind.wrap IntKind.i64 (x5 + x6))) (1 : Int))))]?).bind fun v29 =>
     ((i22 m v27 v29 x9).bind fun r30 =>
     (bif (Bool.not (decide ((Prod.fst r30) < (0 : Int)))) then
     (J 1 33 M20 (s23_20 x0 x1 x2 x3 x4 (IntKind.wrap IntKind.i64 ((IntKind.wrap IntKind.i64 (shrI IntKind.u64 (IntKind.wrap IntKind.u64 (IntKind.wrap IntKind.i64 (x5 + x6))) (1 : Int))) + (1 : Int))) x6 x7 x8 (Prod.snd r30)) (l23 J m [1, 1, 1, 1, 1, 1, 1, 0, 0] [] M20 (s23_20 x0 x1 x2 x3 x4 (IntKind.wrap IntKind.i64 ((IntKind.wrap IntKind.i64 (shrI IntKind.u64 (IntKind.wrap IntKind.u64 (IntKind.wrap IntKind.i64 (x5 + x6))) (1 : Int))) + (1 : Int))) x6 x7 x8 (Prod.snd r30))))
     else
     (J 1 33 M20 (s23_20 x0 x1 x2 x3 x4 x5 (IntKind.wrap IntKind.i64 (shrI IntKind.u64 (IntKind.wrap IntKind.u64 (IntKind.wrap IntKind.i64 (x5 + x6))) (1 : Int))) x7 x8 (Prod.snd r30)) (l23 J m [1, 1, 1, 1, 1, 1, 1, 0, 0] [] M20 (s23_20 x0 x1 x2 x3 x4 x5 (IntKind.wrap IntKind.i64 (shrI IntKind.u64 (IntKind.wrap IntKind.u64 (IntKind.wrap IntKind.i64 (x5 + x6))) (1 : Int))) x7 x8 (Prod.snd r30)))))))))) := fun J => by kernel_rfl
  exact (h jn).trans (by
    simp only [jn_eq, h20]
    rfl)
theorem i23_j24_eq (m : Nat) (x0 x1 x2 : Int) (x3 x4 : List Dt) : e23 jn m [1, 1, 1, 1, 1, 1, 1, 1, 1, 1, 1] [] (s23_24 x0 x1 x2 x3 x4) = i23_j24 m (i23 m) x0 x1 x2 x3 x4 := by
  have h : ∀ J, e23 J m [1, 1, 1, 1, 1, 1, 1, 1, 1, 1, 1] [] (s23_24 x0 x1 x2 x3 x4) =
    (bif (decide (x1 < x2)) then
     (bif (decide (x2 < x0)) then
     ((i23 m x1 x2 x0 x3 x4).bind fun r33 =>
     some ((Prod.fst r33), (Prod.snd r33)))
     else
     some (x3, x4))
    else
     some (x3, x4)) := fun J => by kernel_rfl
  exact (h jn).trans (rfl)
theorem i23_j23_eq (m : Nat) (x0 x1 x2 x3 x4 : Int) (x5 x6 : List Dt) : e23 jn m [1, 1, 1, 1, 1, 1, 1, 1, 1, 1] [] (s23_23 x0 x1 x2 x3 x4 x5 x6) = i23_j23 m (i23 m) x0 x1 x2 x3 x4 x5 x6 := by
  have h : ∀ J, e23 J m [1, 1, 1, 1, 1, 1, 1, 1, 1, 1] [] (s23_23 x0 x1 x2 x3 x4 x5 x6) =
    (bif (decide (x0 < x3)) then
     (bif (decide (x3 < x2)) then
     ((i23 m x0 x3 x2 x5 x6).bind fun r32 =>
     (J 0 43 0 (s23_24 x1 x2 x4 (Prod.fst r32) (Prod.snd r32)) (e23 J m [1, 1, 1, 1, 1, 1, 1, 1, 1, 1, 1] [] (s23_24 x1 x2 x4 (Prod.fst r32) (Prod.snd r32)))))
     else
     (J 0 43 0 (s23_24 x1 x2 x4 x5 x6) (e23 J m [1, 1, 1, 1, 1, 1, 1, 1, 1, 1, 1] [] (s23_24 x1 x2 x4 x5 x6))))
    else
     (J 0 43 0 (s23_24 x1 x2 x4 x5 x6) (e23 J m [1, 1, 1, 1, 1, 1, 1, 1, 1, 1, 1] [] (s23_24 x1 x2 x4 x5 x6)))) := fun J => by kernel_rfl
  exact (h jn).trans (by
    simp only [jn_eq, i23_j24_eq m]
    rfl)
theorem i23_j22_eq (m : Nat) (x0 x1 x2 x3 x4 x5 : Int) (x6 x7 : List Dt) : e23 jn m [1, 1, 1, 1, 1, 1, 1, 1] [] (s23_22 x0 x1 x2 x3 x4 x5 x6 x7) = i23_j22 m (i23 m) x0 x1 x2 x3 x4 x5 x6 x7 := by
  have h : ∀ J, e23 J m [1, 1, 1, 1, 1, 1, 1, 1] [] (s23_22 x0 x1 x2 x3 x4 x5 x6 x7) =
    (bif (decide (x5 < x1)) then
     (bif (decide (x1 < (IntKind.wrap IntKind.i64 (x4 - x5)))) then
     ((i24 m x5 x1 (IntKind.wrap IntKind.i64 (x4 - x5)) x6 x7).bind fun r31 =>
     (J 0 41 0 (s23_23 x0 x2 x3 x5 (IntKind.wrap IntKind.i64 (x4 - x5)) (Prod.fst r31) (Prod.snd r31)) (e23 J m [1, 1, 1, 1, 1, 1, 1, 1, 1, 1] [] (s23_23 x0 x2 x3 x5 (IntKind.wrap IntKind.i64 (x4 - x5)) (Prod.fst r31) (Prod.snd r31)))))
     else
     (J 0 41 0 (s23_23 x0 x2 x3 x5 (IntKind.wrap IntKind.i64 (x4 - x5)) x6 x7) (e23 J m [1, 1, 1, 1, 1, 1, 1, 1, 1, 1] [] (s23_23 x0 x2 x3 x5 (IntKind.wrap IntKind.i64 (x4 - x5)) x6 x7))))
    else
     (J 0 41 0 (s23_23 x0 x2 x3 x5 (IntKind.wrap IntKind.i64 (x4 - x5)) x6 x7) (e23 J m [1, 1, 1, 1, 1, 1, 1, 1, 1, 1] [] (s23_23 x0 x2 x3 x5 (IntKind.wrap IntKind.i64 (x4 - x5)) x6 x7)))) := fun J => by kernel_rfl
  exact (h jn).trans (by
    simp only [jn_eq, i23_j23_eq m]
    rfl)
theorem i23_l20_eq (m : Nat) : ∀ (M20 : Nat) (x0 x1 x2 x3 x4 x5 x6 x7 : Int) (x8 x9 : List Dt), l23 jn m [1, 1, 1, 1, 1, 1, 1, 0, 0] [] M20 (s23_20 x0 x1 x2 x3 x4 x5 x6 x7 x8 x9) = i23_l20 m (i23 m) M20 x0 x1 x2 x3 x4 x5 x6 x7 x8 x9
  | 0, _, _, _, _, _, _, _, _, _, _ => rfl
  | M20 + 1, x0, x1, x2, x3, x4, x5, x6, x7, x8, x9 => by
    have h : ∀ J, l23 J m [1, 1, 1, 1, 1, 1, 1, 0, 0] [] (M20 + 1) (s23_20 x0 x1 x2 x3 x4 x5 x6 x7 x8 x9) =
    (bif (decide (x5 < x6)) then
     (J 0 34 0 (s23_21 x0 x1 x2 x3 x4 x5 x6 x7 x8 x9) (e23 J m [1, 1, 1, 1, 1, 1, 1, 0, 0, 0, 1] [M20] (s23_21 x0 x1 x2 x3 x4 x5 x6 x7 x8 x9)))
    else
     (J 0 38 0 (s23_22 x0 x1 x2 x3 x4 x5 x8 x9) (e23 J m [1, 1, 1, 1, 1, 1, 1, 1] [] (s23_22 x0 x1 x2 x3 x4 x5 x8 x9)))) := fun J => by kernel_rfl
    refine (h jn).trans ?_
    simp only [jn_eq, i23_j21_eq m M20 (i23_l20 m (i23 m) M20) (fun x0 x1 x2 x3 x4 x5 x6 x7 x8 x9 => i23_l20_eq m M20 x0 x1 x2 x3 x4 x5 x6 x7 x8 x9), i23_j22_eq m]
    rfl
theorem i23_j19_eq (m : Nat) (x0 x1 x2 x3 x4 x5 x6 x7 : Int) (x8 x9 : List Dt) : e23 jn m [1, 1, 1, 1, 1, 1, 1] [] (s23_19 x0 x1 x2 x3 x4 x5 x6 x7 x8 x9) = i23_j19 m (i23 m) x0 x1 x2 x3 x4 x5 x6 x7 x8 x9 := by
  have h : ∀ J, e23 J m [1, 1, 1, 1, 1, 1, 1] [] (s23_19 x0 x1 x2 x3 x4 x5 x6 x7 x8 x9) =
    (J 1 33 (Nat.succ m) (s23_20 x0 x1 x2 x3 x4 x5 x6 x7 x8 x9) (l23 J m [1, 1, 1, 1, 1, 1, 1, 0, 0] [] (Nat.succ m) (s23_20 x0 x1 x2 x3 x4 x5 x6 x7 x8 x9))) := fun J => by kernel_rfl
  exact (h jn).trans (by
    simp only [jn_eq, i23_l20_eq m]
    rfl)
theorem i23_j18_eq (m : Nat) (x0 x1 x2 x3 x4 x5 x6 : Int) (x7 x8 : List Dt) : e23 jn m [1, 1, 1, 1, 1, 1] [] (s23_18 x0 x1 x2 x3 x4 x5 x6 x7 x8) = i23_j18 m (i23 m) x0 x1 x2 x3 x4 x5 x6 x7 x8 := by
  have h : ∀ J, e23 J m [1, 1, 1, 1, 1, 1] [] (s23_18 x0 x1 x2 x3 x4 x5 x6 x7 x8) =
    (J 0 33 0 (s23_19 x0 x1 x2 x3 x4 x5 x6 (IntKind.wrap IntKind.i64 (x4 - (1 : Int))) x7 x8) (e23 J m [1, 1, 1, 1, 1, 1, 1] [] (s23_19 x0 x1 x2 x3 x4 x5 x6 (IntKind.wrap IntKind.i64 (x4 - (1 : Int))) x7 x8))) := fun J => by kernel_rfl
  exact (h jn).trans (by
    simp only [jn_eq, i23_j19_eq m]
    rfl)
theorem i23_j17_eq (m : Nat) (x0 x1 x2 : Int) (x3 x4 : List Dt) : e23 jn m [1, 1] [] (s23_17 x0 x1 x2 x3 x4) = i23_j17 m (i23 m) x0 x1 x2 x3 x4 := by
  have h : ∀ J, e23 J m [1, 1] [] (s23_17 x0 x1 x2 x3 x4) =
    (bif (decide ((IntKind.wrap IntKind.i64 (shrI IntKind.u64 (IntKind.wrap IntKind.u64 (IntKind.wrap IntKind.i64 (x0 + x2))) (1 : Int))) < x1)) then
     (J 0 32 0 (s23_18 x0 x1 x2 (IntKind.wrap IntKind.i64 (shrI IntKind.u64 (IntKind.wrap IntKind.u64 (IntKind.wrap IntKind.i64 (x0 + x2))) (1 : Int))) (IntKind.wrap IntKind.i64 ((IntKind.wrap IntKind.i64 (shrI IntKind.u64 (IntKind.wrap IntKind.u64 (IntKind.wrap IntKind.i64 (x0 + x2))) (1 : Int))) + x1)) (IntKind.wrap IntKind.i64 ((IntKind.wrap IntKind.i64 ((IntKind.wrap IntKind.i64 (shrI IntKind.u64 (IntKind.wrap IntKind.u64 (IntKind.wrap IntKind.i64 (x0 + x2))) (1 : Int))) + x1)) - x2)) (IntKind.wrap IntKind.i64 (shrI IntKind.u64 (IntKind.wrap IntKind.u64 (IntKind.wrap IntKind.i64 (x0 + x2))) (1 : Int))) x3 x4) (e23 J m [1, 1, 1, 1, 1, 1] [] (s23_18 x0 x1 x2 (IntKind.wrap IntKind.i64 (shrI IntKind.u64 (IntKind.wrap IntKind.u64 (IntKind.wrap IntKind.i64 (x0 + x2))) (1 : Int))) (IntKind.wrap IntKind.i64 ((IntKind.wrap IntKind.i64 (shrI IntKind.u64 (IntKind.wrap IntKind.u64 (IntKind.wrap IntKind.i64 (x0 + x2))) (1 : Int))) + x1)) (IntKind.wrap IntKind.i64 ((IntKind.wrap IntKind.i64 ((IntKind.wrap IntKind.i64 (shrI IntKind.u64 (IntKind.wrap IntKind.u64 (IntKind.wrap IntKind.i64 (x0 + x2))) (1 : Int))) + x1)) - x2)) (IntKind.wrap IntKind.i64 (shrI IntKind.u64 (IntKind.wrap IntKind.u64 (IntKind.wrap IntKind.i64 (x0 + x2))) (1 : Int))) x3 x4)))
    else
     (J 0 32 0 (s23_18 x0 x1 x2 (IntKind.wrap IntKind.i64 (shrI IntKind.u64 (IntKind.wrap IntKind.u64 (IntKind.wrap IntKind.i64 (x0 + x2))) (1 : Int))) (IntKind.wrap IntKind.i64 ((IntKind.wrap IntKind.i64 (shrI IntKind.u64 (IntKind.wrap IntKind.u64 (IntKind.wrap IntKind.i64 (x0 + x2))) (1 : Int))) + x1)) x0 x1 x3 x4) (e23 J m [1, 1, 1, 1, 1, 1] [] (s23_18 x0 x1 x2 (IntKind.wrap IntKind.i64 (shrI IntKind.u64 (IntKind.wrap IntKind.u64 (IntKind.wrap IntKind.i64 (x0 + x2))) (1 : Int))) (IntKind.wrap IntKind.i64 ((IntKind.wrap IntKind.i64 (shrI IntKind.u64 (IntKind.wrap IntKind.u64 (IntKind.wrap IntKind.i64 (x0 + x2))) (1 : Int))) + x1)) x0 x1 x3 x4)))) := fun J => by kernel_rfl
  exact (h jn).trans (by
    simp only [jn_eq, i23_j18_eq m]
    rfl)
theorem i23_j8_eq (m : Nat) (x0 x1 x2 : Int) (x3 x4 : List Dt) : e23 jn m [1] [] (s23_8 x0 x1 x2 x3 x4) = i23_j8 m (i23 m) x0 x1 x2 x3 x4 := by
  have h : ∀ J, e23 J m [1] [] (s23_8 x0 x1 x2 x3 x4) =
    (bif ((IntKind.wrap IntKind.i64 (x2 - x1)) == (1 : Int)) then
     (J 0 15 0 (s23_9 x1 x0 x1 x3 x4) (e23 J m [1, 0, 1, 0, 1, 1] [] (s23_9 x1 x0 x1 x3 x4)))
    else
     (J 0 24 0 (s23_17 x0 x1 x2 x3 x4) (e23 J m [1, 1] [] (s23_17 x0 x1 x2 x3 x4)))) := fun J => by kernel_rfl
  exact (h jn).trans (by
    simp only [jn_eq, i23_j9_eq m, i23_j17_eq m]
    rfl)
theorem i23_eq (m : Nat) (a0 a1 a2 : Int) (a3 a4 : List Dt) : e23 jn m [] [] ⟨[(.row 0), (.dat 3 (.int a0)), (.dat 3 (.int a1)), (.dat 3 (.int a2)), (.fn 56 [(.ptr 1 [] 0)])], [(.row 68 a3), (.box 22 (.dat 22 (.lst a4)))], 2⟩ = i23 (m + 1) a0 a1 a2 a3 a4 := by
  have h : ∀ J, e23 J m [] [] ⟨[(.row 0), (.dat 3 (.int a0)), (.dat 3 (.int a1)), (.dat 3 (.int a2)), (.fn 56 [(.ptr 1 [] 0)])], [(.row 68 a3), (.box 22 (.dat 22 (.lst a4)))], 2⟩ =
    (bif ((IntKind.wrap IntKind.i64 (a1 - a0)) == (1 : Int)) then
     (J 0 3 0 (s23_0 a0 a1 a2 a3 a4) (e23 J m [0, 1, 0, 1, 1] [] (s23_0 a0 a1 a2 a3 a4)))
    else
     (J 0 12 0 (s23_8 a0 a1 a2 a3 a4) (e23 J m [1] [] (s23_8 a0 a1 a2 a3 a4)))) := fun J => by kernel_rfl
  refine (h jn).trans ?_
  simp only [jn_eq, i23_j0_eq m, i23_j8_eq m]
  rfl
noncomputable def d20 (q : Res) : Option (List Dt × List Dt) := match q with
  | (.tup [], [.row T0 x0, .box T1 (.dat T2 x2)]) => bif (Nat.beq T0 68 && (Nat.beq T1 22 && Nat.beq T2 22)) then some (x0, x2.toLst) else none
  | _ => none
theorem d20_sim {b : Res} {r : List Dt × List Dt} (h : d20 b = some r) : Sim Tryd.prog b ((.tup []), [(.row 68 r.1), (.box 22 (.dat 22 (.lst r.2)))]) := by
  unfold d20 at h
  split at h
  · obtain ⟨hc, h2⟩ := bif_some h
    cases h2
    have e0 := beq_eq (and_l hc)
    have e1 := beq_eq (and_l (and_r hc))
    have e2 := beq_eq (and_r (and_r hc))
    subst e0 e1 e2
    exact Sim.of (.tup .nil) (.cons .same (.cons (.box (.dat (.lst Tryd.underlying22))) .nil))
  · cases h
noncomputable def e20 (J : Nat → Nat → Nat → St → Option (List Dt × List Dt) → Option (List Dt × List Dt)) (m : Nat) (p ms : List Nat) (σ : St) := evAt Tryd.prog env (ct m) J (m + 1) 69 63 Tryd.f69 d20 p ms σ
noncomputable def l20 (J : Nat → Nat → Nat → St → Option (List Dt × List Dt) → Option (List Dt × List Dt)) (m : Nat) (p ms : List Nat) (M : Nat) (σ : St) := loopAt Tryd.prog env (ct m) J (m + 1) 69 63 Tryd.f69 d20 p ms M σ
noncomputable def s20_2 (x0 x1 x2 x3 : Int) (x4 x5 : List Dt) : St := ⟨tsOf [(0, (.row 0)), (1, (.dat 3 (.int x0))), (2, (.fn 56 [(.ptr 1 [] 0)])), (6, (.dat 3 (.int x1))), (7, (.dat 3 (.int x2))), (8, (.dat 3 (.int x3)))], [(.row 68 x4), (.box 22 (.dat 22 (.lst x5)))], 2⟩
noncomputable def s20_9 (x0 x1 x2 x3 : Int) (x4 x5 : List Dt) : St := ⟨tsOf [(0, (.row 0)), (1, (.dat 3 (.int x0))), (2, (.fn 56 [(.ptr 1 [] 0)])), (6, (.dat 3 (.int x1))), (7, (.dat 3 (.int x2))), (8, (.dat 3 (.int x3)))], [(.row 68 x4), (.box 22 (.dat 22 (.lst x5)))], 2⟩
noncomputable def s20_11 (x0 x1 : Int) (x2 x3 : List Dt) : St := ⟨tsOf [(0, (.row 0)), (1, (.dat 3 (.int x0))), (2, (.fn 56 [(.ptr 1 [] 0)])), (6, (.dat 3 (.int x1)))], [(.row 68 x2), (.box 22 (.dat 22 (.lst x3)))], 2⟩
noncomputable def s20_10 (x0 x1 x2 : Int) (x3 x4 : List Dt) : St := ⟨tsOf [(0, (.row 0)), (1, (.dat 3 (.int x0))), (2, (.fn 56 [(.ptr 1 [] 0)])), (6, (.dat 3 (.int x1))), (7, (.dat 3 (.int x2)))], [(.row 68 x3), (.box 22 (.dat 22 (.lst x4)))], 2⟩
noncomputable def s20_8 (x0 x1 x2 x3 : Int) (x4 x5 : List Dt) : St := ⟨tsOf [(0, (.row 0)), (1, (.dat 3 (.int x0))), (2, (.fn 56 [(.ptr 1 [] 0)])), (6, (.dat 3 (.int x1))), (7, (.dat 3 (.int x2))), (8, (.dat 3 (.int x3)))], [(.row 68 x4), (.box 22 (.dat 22 (.lst x5)))], 2⟩
noncomputable def s20_7 (x0 x1 x2 x3 : Int) (x4 x5 : List Dt) : St := ⟨tsOf [(0, (.row 0)), (1, (.dat 3 (.int x0))), (2, (.fn 56 [(.ptr 1 [] 0)])), (6, (.dat 3 (.int x1))), (7, (.dat 3 (.int x2))), (8, (.dat 3 (.int x3)))], [(.row 68 x4), (.box 22 (.dat 22 (.lst x5)))], 2⟩
noncomputable def s20_6 (x0 x1 : Int) (x2 x3 : List Dt) : St := ⟨tsOf [(0, (.row 0)), (1, (.dat 3 (.int x0))), (2, (.fn 56 [(.ptr 1 [] 0)])), (6, (.dat 3 (.int x1)))], [(.row 68 x2), (.box 22 (.dat 22 (.lst x3)))], 2⟩
noncomputable def s20_5 (x0 x1 : Int) (x2 x3 : List Dt) : St := ⟨tsOf [(0, (.row 0)), (1, (.dat 3 (.int x0))), (2, (.fn 56 [(.ptr 1 [] 0)])), (6, (.dat 3 (.int x1)))], [(.row 68 x2), (.box 22 (.dat 22 (.lst x3)))], 2⟩
noncomputable def s20_4 (x0 x1 : Int) (x2 x3 : List Dt) : St := ⟨tsOf [(0, (.row 0)), (1, (.dat 3 (.int x0))), (2, (.fn 56 [(.ptr 1 [] 0)])), (6, (.dat 3 (.int x1)))], [(.row 68 x2), (.box 22 (.dat 22 (.lst x3)))], 2⟩
noncomputable def s20_3 (x0 x1 x2 : Int) (x3 x4 : List Dt) : St := ⟨tsOf [(0, (.row 0)), (1, (.dat 3 (.int x0))), (2, (.fn 56 [(.ptr 1 [] 0)])), (6, (.dat 3 (.int x1))), (7, (.dat 3 (.int x2)))], [(.row 68 x3), (.box 22 (.dat 22 (.lst x4)))], 2⟩
noncomputable def s20_1 (x0 x1 x2 x3 : Int) (x4 x5 : List Dt) : St := ⟨tsOf [(0, (.row 0)), (1, (.dat 3 (.int x0))), (2, (.fn 56 [(.ptr 1 [] 0)])), (6, (.dat 3 (.int x1))), (7, (.dat 3 (.int x2))), (8, (.dat 3 (.int x3)))], [(.row 68 x4), (.box 22 (.dat 22 (.lst x5)))], 2⟩
noncomputable def s20_0 (x0 x1 x2 x3 : Int) (x4 x5 : List Dt) : St := ⟨tsOf [(0, (.row 0)), (1, (.dat 3 (.int x0))), (2, (.fn 56 [(.ptr 1 [] 0)])), (6, (.dat 3 (.int x1))), (7, (.dat 3 (.int x2))), (8, (.dat 3 (.int x3)))], [(.row 68 x4), (.box 22 (.dat 22 (.lst x5)))], 2⟩
theorem i20_j2_eq (m : Nat) (M1 : Nat) (rec1 : Int → Int → Int → Int → List Dt → List Dt → Option (List Dt × List Dt)) (h1 : ∀ (x0 x1 x2 x3 : Int) (x4 x5 : List Dt), l20 jn m [1, 1, 0, 0] [] M1 (s20_1 x0 x1 x2 x3 x4 x5) = rec1 x0 x1 x2 x3 x4 x5) (x0 x1 x2 x3 : Int) (x4 x5 : List Dt) : e20 jn m [1, 1, 0, 0, 0, 1] [M1] (s20_2 x0 x1 x2 x3 x4 x5) = i20_j2 m rec1 x0 x1 x2 x3 x4 x5 := by
  have h : ∀ J, e20 J m [1, 1, 0, 0, 0, 1] [M1] (s20_2 x0 x1 x2 x3 x4 x5) =
    ((i21 m x2 x3 x4 x5).bind fun r0 =>
     (J 1 2 M1 (s20_1 x0 x1 x3 (IntKind.wrap IntKind.i64 (x3 + x1)) (Prod.fst r0) (Prod.snd r0)) (l20 J m [1, 1, 0, 0] [] M1 (s20_1 x0 x1 x3 (IntKind.wrap IntKind.i64 (x3 + x1)) (Prod.fst r0) (Prod.snd r0))))) := fun J => by kernel_rfl
  exact (h jn).trans (by
    simp only [jn_eq, h1]
    rfl)
theorem i20_j9_eq (m : Nat) (M5 : Nat) (rec5 : Int → Int → List Dt → List Dt → Option (List Dt × List Dt)) (h5 : ∀ (x0 x1 : Int) (x2 x3 : List Dt), l20 jn m [1, 1, 1, 1, 0] [] M5 (s20_5 x0 x1 x2 x3) = rec5 x0 x1 x2 x3) (M8 : Nat) (rec8 : Int → Int → Int → Int → List Dt → List Dt → Option (List Dt × List Dt)) (h8 : ∀ (x0 x1 x2 x3 : Int) (x4 x5 : List Dt), l20 jn m [1, 1, 1, 1, 0, 0, 1, 0, 1, 0, 0] [M5] M8 (s20_8 x0 x1 x2 x3 x4 x5) = rec8 x0 x1 x2 x3 x4 x5) (x0 x1 x2 x3 : Int) (x4 x5 : List Dt) : e20 jn m [1, 1, 1, 1, 0, 0, 1, 0, 1, 0, 0, 0, 1] [M5, M8] (s20_9 x0 x1 x2 x3 x4 x5) = i20_j9 m rec5 rec8 x0 x1 x2 x3 x4 x5 := by
  have h : ∀ J, e20 J m [1, 1, 1, 1, 0, 0, 1, 0, 1, 0, 0, 0, 1] [M5, M8] (s20_9 x0 x1 x2 x3 x4 x5) =
    ((i23 m x2 (IntKind.wrap IntKind.i64 (x2 + x1)) x3 x4 x5).bind fun r2 =>
     (J 1 9 M8 (s20_8 x0 x1 x3 (IntKind.wrap IntKind.i64 (x3 + (IntKind.wrap IntKind.i64 ((2 : Int) * x1)))) (Prod.fst r2) (Prod.snd r2)) (l20 J m [1, 1, 1, 1, 0, 0, 1, 0, 1, 0, 0] [M5] M8 (s20_8 x0 x1 x3 (IntKind.wrap IntKind.i64 (x3 + (IntKind.wrap IntKind.i64 ((2 : Int) * x1)))) (Prod.fst r2) (Prod.snd r2))))) := fun J => by kernel_rfl
  exact (h jn).trans (by
    simp only [jn_eq, h8]
    rfl)
theorem i20_j11_eq (m : Nat) (M5 : Nat) (rec5 : Int → Int → List Dt → List Dt → Option (List Dt × List Dt)) (h5 : ∀ (x0 x1 : Int) (x2 x3 : List Dt), l20 jn m [1, 1, 1, 1, 0] [] M5 (s20_5 x0 x1 x2 x3) = rec5 x0 x1 x2 x3) (x0 x1 : Int) (x2 x3 : List Dt) : e20 jn m [1, 1, 1, 1, 0, 0, 1, 0, 1, 1, 1] [M5] (s20_11 x0 x1 x2 x3) = i20_j11 m rec5 x0 x1 x2 x3 := by
  have h : ∀ J, e20 J m [1, 1, 1, 1, 0, 0, 1, 0, 1, 1, 1] [M5] (s20_11 x0 x1 x2 x3) =
    (J 1 7 M5 (s20_5 x0 (IntKind.wrap IntKind.i64 (x1 * (2 : Int))) x2 x3) (l20 J m [1, 1, 1, 1, 0] [] M5 (s20_5 x0 (IntKind.wrap IntKind.i64 (x1 * (2 : Int))) x2 x3))) := fun J => by kernel_rfl
  exact (h jn).trans (by
    simp only [jn_eq, h5]
    rfl)
theorem i20_j10_eq (m : Nat) (M5 : Nat) (rec5 : Int → Int → List Dt → List Dt → Option (List Dt × List Dt)) (h5 : ∀ (x0 x1 : Int) (x2 x3 : List Dt), l20 jn m [1, 1, 1, 1, 0] [] M5 (s20_5 x0 x1 x2 x3) = rec5 x0 x1 x2 x3) (x0 x1 x2 : Int) (x3 x4 : List Dt) : e20 jn m [1, 1, 1, 1, 0, 0, 1, 0, 1, 1] [M5] (s20_10 x0 x1 x2 x3 x4) = i20_j10 m rec5 x0 x1 x2 x3 x4 := by
  have h : ∀ J, e20 J m [1, 1, 1, 1, 0, 0, 1, 0, 1, 1] [M5] (s20_10 x0 x1 x2 x3 x4) =
    (bif (decide ((IntKind.wrap IntKind.i64 (x2 + x1)) < x0)) then
     ((i23 m x2 (IntKind.wrap IntKind.i64 (x2 + x1)) x0 x3 x4).bind fun r3 =>
     (J 0 16 0 (s20_11 x0 x1 (Prod.fst r3) (Prod.snd r3)) (e20 J m [1, 1, 1, 1, 0, 0, 1, 0, 1, 1, 1] [M5] (s20_11 x0 x1 (Prod.fst r3) (Prod.snd r3)))))
    else
     (J 0 16 0 (s20_11 x0 x1 x3 x4) (e20 J m [1, 1, 1, 1, 0, 0, 1, 0, 1, 1, 1] [M5] (s20_11 x0 x1 x3 x4)))) := fun J => by kernel_rfl
  exact (h jn).trans (by
    simp only [jn_eq, i20_j11_eq m M5 rec5 h5]
    rfl)
theorem i20_l8_eq (m : Nat) (M5 : Nat) (rec5 : Int → Int → List Dt → List Dt → Option (List Dt × List Dt)) (h5 : ∀ (x0 x1 : Int) (x2 x3 : List Dt), l20 jn m [1, 1, 1, 1, 0] [] M5 (s20_5 x0 x1 x2 x3) = rec5 x0 x1 x2 x3) : ∀ (M8 : Nat) (x0 x1 x2 x3 : Int) (x4 x5 : List Dt), l20 jn m [1, 1, 1, 1, 0, 0, 1, 0, 1, 0, 0] [M5] M8 (s20_8 x0 x1 x2 x3 x4 x5) = i20_l8 m rec5 M8 x0 x1 x2 x3 x4 x5
  | 0, _, _, _, _, _, _ => rfl
  | M8 + 1, x0, x1, x2, x3, x4, x5 => by
    have h : ∀ J, l20 J m [1, 1, 1, 1, 0, 0, 1, 0, 1, 0, 0] [M5] (M8 + 1) (s20_8 x0 x1 x2 x3 x4 x5) =
    (bif (decide (x3 ≤ x0)) then
     (J 0 10 0 (s20_9 x0 x1 x2 x3 x4 x5) (e20 J m [1, 1, 1, 1, 0, 0, 1, 0, 1, 0, 0, 0, 1] [M5, M8] (s20_9 x0 x1 x2 x3 x4 x5)))
    else
     (J 0 13 0 (s20_10 x0 x1 x2 x4 x5) (e20 J m [1, 1, 1, 1, 0, 0, 1, 0, 1, 1] [M5] (s20_10 x0 x1 x2 x4 x5)))) := fun J => by kernel_rfl
    refine (h jn).trans ?_
    simp only [jn_eq, i20_j9_eq m M5 rec5 h5 M8 (i20_l8 m rec5 M8) (fun x0 x1 x2 x3 x4 x5 => i20_l8_eq m M5 rec5 h5 M8 x0 x1 x2 x3 x4 x5), i20_j10_eq m M5 rec5 h5]
    rfl
theorem i20_j7_eq (m : Nat) (M5 : Nat) (rec5 : Int → Int → List Dt → List Dt → Option (List Dt × List Dt)) (h5 : ∀ (x0 x1 : Int) (x2 x3 : List Dt), l20 jn m [1, 1, 1, 1, 0] [] M5 (s20_5 x0 x1 x2 x3) = rec5 x0 x1 x2 x3) (x0 x1 x2 x3 : Int) (x4 x5 : List Dt) : e20 jn m [1, 1, 1, 1, 0, 0, 1, 0, 1] [M5] (s20_7 x0 x1 x2 x3 x4 x5) = i20_j7 m rec5 x0 x1 x2 x3 x4 x5 := by
  have h : ∀ J, e20 J m [1, 1, 1, 1, 0, 0, 1, 0, 1] [M5] (s20_7 x0 x1 x2 x3 x4 x5) =
    (J 1 9 (Nat.succ m) (s20_8 x0 x1 x2 x3 x4 x5) (l20 J m [1, 1, 1, 1, 0, 0, 1, 0, 1, 0, 0] [M5] (Nat.succ m) (s20_8 x0 x1 x2 x3 x4 x5))) := fun J => by kernel_rfl
  exact (h jn).trans (by
    simp only [jn_eq, i20_l8_eq m M5 rec5 h5]
    rfl)
theorem i20_j6_eq (m : Nat) (M5 : Nat) (rec5 : Int → Int → List Dt → List Dt → Option (List Dt × List Dt)) (h5 : ∀ (x0 x1 : Int) (x2 x3 : List Dt), l20 jn m [1, 1, 1, 1, 0] [] M5 (s20_5 x0 x1 x2 x3) = rec5 x0 x1 x2 x3) (x0 x1 : Int) (x2 x3 : List Dt) : e20 jn m [1, 1, 1, 1, 0, 0, 1] [M5] (s20_6 x0 x1 x2 x3) = i20_j6 m rec5 x0 x1 x2 x3 := by
  have h : ∀ J, e20 J m [1, 1, 1, 1, 0, 0, 1] [M5] (s20_6 x0 x1 x2 x3) =
    (J 0 9 0 (s20_7 x0 x1 (0 : Int) (IntKind.wrap IntKind.i64 ((2 : Int) * x1)) x2 x3) (e20 J m [1, 1, 1, 1, 0, 0, 1, 0, 1] [M5] (s20_7 x0 x1 (0 : Int) (IntKind.wrap IntKind.i64 ((2 : Int) * x1)) x2 x3))) := fun J => by kernel_rfl
  exact (h jn).trans (by
    simp only [jn_eq, i20_j7_eq m M5 rec5 h5]
    rfl)
theorem i20_l5_eq (m : Nat) : ∀ (M5 : Nat) (x0 x1 : Int) (x2 x3 : List Dt), l20 jn m [1, 1, 1, 1, 0] [] M5 (s20_5 x0 x1 x2 x3) = i20_l5 m M5 x0 x1 x2 x3
  | 0, _, _, _, _ => rfl
  | M5 + 1, x0, x1, x2, x3 => by
    have h : ∀ J, l20 J m [1, 1, 1, 1, 0] [] (M5 + 1) (s20_5 x0 x1 x2 x3) =
    (bif (decide (x1 < x0)) then
     (J 0 8 0 (s20_6 x0 x1 x2 x3) (e20 J m [1, 1, 1, 1, 0, 0, 1] [M5] (s20_6 x0 x1 x2 x3)))
    else
     some (x2, x3)) := fun J => by kernel_rfl
    refine (h jn).trans ?_
    simp only [jn_eq, i20_j6_eq m M5 (i20_l5 m M5) (fun x0 x1 x2 x3 => i20_l5_eq m M5 x0 x1 x2 x3)]
    rfl
theorem i20_j4_eq (m : Nat) (x0 x1 : Int) (x2 x3 : List Dt) : e20 jn m [1, 1, 1, 1] [] (s20_4 x0 x1 x2 x3) = i20_j4 m x0 x1 x2 x3 := by
  have h : ∀ J, e20 J m [1, 1, 1, 1] [] (s20_4 x0 x1 x2 x3) =
    (J 1 7 (Nat.succ m) (s20_5 x0 x1 x2 x3) (l20 J m [1, 1, 1, 1, 0] [] (Nat.succ m) (s20_5 x0 x1 x2 x3))) := fun J => by kernel_rfl
  exact (h jn).trans (by
    simp only [jn_eq, i20_l5_eq m]
    rfl)
theorem i20_j3_eq (m : Nat) (x0 x1 x2 : Int) (x3 x4 : List Dt) : e20 jn m [1, 1, 1] [] (s20_3 x0 x1 x2 x3 x4) = i20_j3 m x0 x1 x2 x3 x4 := by
  have h : ∀ J, e20 J m [1, 1, 1] [] (s20_3 x0 x1 x2 x3 x4) =
    ((i21 m x2 x0 x3 x4).bind fun r1 =>
     (J 0 7 0 (s20_4 x0 x1 (Prod.fst r1) (Prod.snd r1)) (e20 J m [1, 1, 1, 1] [] (s20_4 x0 x1 (Prod.fst r1) (Prod.snd r1))))) := fun J => by kernel_rfl
  exact (h jn).trans (by
    simp only [jn_eq, i20_j4_eq m]
    rfl)
theorem i20_l1_eq (m : Nat) : ∀ (M1 : Nat) (x0 x1 x2 x3 : Int) (x4 x5 : List Dt), l20 jn m [1, 1, 0, 0] [] M1 (s20_1 x0 x1 x2 x3 x4 x5) = i20_l1 m M1 x0 x1 x2 x3 x4 x5
  | 0, _, _, _, _, _, _ => rfl
  | M1 + 1, x0, x1, x2, x3, x4, x5 => by
    have h : ∀ J, l20 J m [1, 1, 0, 0] [] (M1 + 1) (s20_1 x0 x1 x2 x3 x4 x5) =
    (bif (decide (x3 ≤ x0)) then
     (J 0 3 0 (s20_2 x0 x1 x2 x3 x4 x5) (e20 J m [1, 1, 0, 0, 0, 1] [M1] (s20_2 x0 x1 x2 x3 x4 x5)))
    else
     (J 0 6 0 (s20_3 x0 x1 x2 x4 x5) (e20 J m [1, 1, 1] [] (s20_3 x0 x1 x2 x4 x5)))) := fun J => by kernel_rfl
    refine (h jn).trans ?_
    simp only [jn_eq, i20_j2_eq m M1 (i20_l1 m M1) (fun x0 x1 x2 x3 x4 x5 => i20_l1_eq m M1 x0 x1 x2 x3 x4 x5), i20_j3_eq m]
    rfl
theorem i20_j0_eq (m : Nat) (x0 x1 x2 x3 : Int) (x4 x5 : List Dt) : e20 jn m [1, 1] [] (s20_0 x0 x1 x2 x3 x4 x5) = i20_j0 m x0 x1 x2 x3 x4 x5 := by
  have h : ∀ J, e20 J m [1, 1] [] (s20_0 x0 x1 x2 x3 x4 x5) =
    (J 1 2 (Nat.succ m) (s20_1 x0 x1 x2 x3 x4 x5) (l20 J m [1, 1, 0, 0] [] (Nat.succ m) (s20_1 x0 x1 x2 x3 x4 x5))) := fun J => by kernel_rfl
  exact (h jn).trans (by
    simp only [jn_eq, i20_l1_eq m]
    rfl)
theorem i20_eq (m : Nat) (a0 : Int) (a1 a2 : List Dt) : e20 jn m [] [] ⟨[(.row 0), (.dat 3 (.int a0)), (.fn 56 [(.ptr 1 [] 0)])], [(.row 68 a1), (.box 22 (.dat 22 (.lst a2)))], 2⟩ = i20 (m + 1) a0 a1 a2 := by
  have h : ∀ J, e20 J m [] [] ⟨[(.row 0), (.dat 3 (.int a0)), (.fn 56 [(.ptr 1 [] 0)])], [(.row 68 a1), (.box 22 (.dat 22 (.lst a2)))], 2⟩ =
    (J 0 2 0 (s20_0 a0 (20 : Int) (0 : Int) (20 : Int) a1 a2) (e20 J m [1, 1] [] (s20_0 a0 (20 : Int) (0 : Int) (20 : Int) a1 a2))) := fun J => by kernel_rfl
  refine (h jn).trans ?_
  simp only [jn_eq, i20_j0_eq m]
  rfl
noncomputable def d19 (q : Res) : Option (List Dt × List Dt) := match q with
  | (.tup [], [.row T0 x0, .box T1 (.dat T2 x2)]) => bif (Nat.beq T0 68 && (Nat.beq T1 22 && Nat.beq T2 22)) then some (x0, x2.toLst) else none
  | _ => none
theorem d19_sim {b : Res} {r : List Dt × List Dt} (h : d19 b = some r) : Sim Tryd.prog b ((.tup []), [(.row 68 r.1), (.box 22 (.dat 22 (.lst r.2)))]) := by
  unfold d19 at h
  split at h
  · obtain ⟨hc, h2⟩ := bif_some h
    cases h2
    have e0 := beq_eq (and_l hc)
    have e1 := beq_eq (and_l (and_r hc))
    have e2 := beq_eq (and_r (and_r hc))
    subst e0 e1 e2
    exact Sim.of (.tup .nil) (.cons .same (.cons (.box (.dat (.lst Tryd.underlying22))) .nil))
  · cases h
noncomputable def e19 (J : Nat → Nat → Nat → St → Option (List Dt × List Dt) → Option (List Dt × List Dt)) (m : Nat) (p ms : List Nat) (σ : St) := evAt Tryd.prog env (ct m) J (m + 1) 55 9 Tryd.f55 d19 p ms σ
noncomputable def l19 (J : Nat → Nat → Nat → St → Option (List Dt × List Dt) → Option (List Dt × List Dt)) (m : Nat) (p ms : List Nat) (M : Nat) (σ : St) := loopAt Tryd.prog env (ct m) J (m + 1) 55 9 Tryd.f55 d19 p ms M σ
theorem i19_eq (m : Nat) (a0 a1 : List Dt) : e19 jn m [] [] ⟨[(.row 0), (.fn 56 [(.ptr 1 [] 0)])], [(.row 68 a0), (.box 22 (.dat 22 (.lst a1)))], 2⟩ = i19 (m + 1) a0 a1 := by
  have h : ∀ J, e19 J m [] [] ⟨[(.row 0), (.fn 56 [(.ptr 1 [] 0)])], [(.row 68 a0), (.box 22 (.dat 22 (.lst a1)))], 2⟩ =
    ((i20 m (((List.length a0) : Nat) : Int) a0 a1).bind fun r0 =>
     some ((Prod.fst r0), (Prod.snd r0))) := fun J => by kernel_rfl
  refine (h jn).trans ?_
  
  rfl
noncomputable def d29 (q : Res) : Option (Dt) := match q with
  | (.dat T0 x0, []) => bif Nat.beq T0 30 then some x0 else none
  | _ => none
theorem d29_sim {b : Res} {r : Dt} (h : d29 b = some r) : Sim Tryd.prog b ((.dat 30 r), []) := by
  unfold d29 at h
  split at h
  · obtain ⟨hc, h2⟩ := bif_some h
    cases h2
    have e0 := beq_eq hc
    subst e0
    exact Sim.of (.of .same rfl rfl) .nil
  · cases h
noncomputable def e29 (J : Nat → Nat → Nat → St → Option (Dt) → Option (Dt)) (m : Nat) (p ms : List Nat) (σ : St) := evAt Tryd.prog env (ct m) J (m + 1) 37 79 Tryd.f37 d29 p ms σ
noncomputable def l29 (J : Nat → Nat → Nat → St → Option (Dt) → Option (Dt)) (m : Nat) (p ms : List Nat) (M : Nat) (σ : St) := loopAt Tryd.prog env (ct m) J (m + 1) 37 79 Tryd.f37 d29 p ms M σ
noncomputable def s29_3 (x0 : List Dt) (x1 x2 : Int) (x3 x4 : Dt) (x5 : List Dt) : St := ⟨tsOf [(2, (.ptr 0 [] 0)), (4, (.ptr 1 [] 0)), (5, (.row 2)), (15, (.dat 27 (.lst x0))), (16, (.dat 3 (.int x1))), (17, (.dat 3 (.int x2)))], [(.box 47 (.dat 47 x3)), (.box 30 (.dat 30 x4)), (.row 27 x5)], 0⟩
noncomputable def s29_2 (x0 : List Dt) (x1 x2 : Int) (x3 x4 : Dt) (x5 : List Dt) : St := ⟨tsOf [(2, (.ptr 0 [] 0)), (4, (.ptr 1 [] 0)), (5, (.row 2)), (15, (.dat 27 (.lst x0))), (16, (.dat 3 (.int x1))), (17, (.dat 3 (.int x2)))], [(.box 47 (.dat 47 x3)), (.box 30 (.dat 30 x4)), (.row 27 x5)], 0⟩
noncomputable def s29_8 (x0 : List Dt) (x1 x2 : Int) (x3 x4 x5 : Dt) : St := ⟨tsOf [(2, (.ptr 0 [] 0)), (4, (.ptr 1 [] 0)), (8, (.ptr 2 [] 0)), (52, (.dat 27 (.lst x0))), (53, (.dat 3 (.int x1))), (54, (.dat 3 (.int x2)))], [(.box 47 (.dat 47 x3)), (.box 30 (.dat 30 x4)), (.box 30 (.dat 30 x5))], 0⟩
noncomputable def s29_7 (x0 : List Dt) (x1 x2 : Int) (x3 x4 x5 : Dt) : St := ⟨tsOf [(2, (.ptr 0 [] 0)), (4, (.ptr 1 [] 0)), (8, (.ptr 2 [] 0)), (52, (.dat 27 (.lst x0))), (53, (.dat 3 (.int x1))), (54, (.dat 3 (.int x2)))], [(.box 47 (.dat 47 x3)), (.box 30 (.dat 30 x4)), (.box 30 (.dat 30 x5))], 0⟩
noncomputable def s29_9 (x0 x1 : Dt) : St := ⟨tsOf [(4, (.ptr 0 [] 0)), (8, (.ptr 1 [] 0))], [(.box 30 (.dat 30 x0)), (.box 30 (.dat 30 x1))], 0⟩
noncomputable def s29_6 (x0 : List Dt) (x1 x2 : Int) (x3 x4 x5 : Dt) : St := ⟨tsOf [(2, (.ptr 0 [] 0)), (4, (.ptr 1 [] 0)), (8, (.ptr 2 [] 0)), (52, (.dat 27 (.lst x0))), (53, (.dat 3 (.int x1))), (54, (.dat 3 (.int x2)))], [(.box 47 (.dat 47 x3)), (.box 30 (.dat 30 x4)), (.box 30 (.dat 30 x5))], 0⟩
noncomputable def s29_5 (x0 : List Dt) (x1 x2 : Int) (x3 x4 x5 : Dt) : St := ⟨tsOf [(2, (.ptr 0 [] 0)), (4, (.ptr 1 [] 0)), (8, (.ptr 2 [] 0)), (52, (.dat 27 (.lst x0))), (53, (.dat 3 (.int x1))), (54, (.dat 3 (.int x2)))], [(.box 47 (.dat 47 x3)), (.box 30 (.dat 30 x4)), (.box 30 (.dat 30 x5))], 0⟩
noncomputable def s29_4 (x0 x1 : Dt) (x2 : List Dt) : St := ⟨tsOf [(2, (.ptr 0 [] 0)), (4, (.ptr 1 [] 0)), (5, (.row 2))], [(.box 47 (.dat 47 x0)), (.box 30 (.dat 30 x1)), (.row 27 x2)], 0⟩
noncomputable def s29_1 (x0 : List Dt) (x1 x2 : Int) (x3 x4 : Dt) (x5 : List Dt) : St := ⟨tsOf [(2, (.ptr 0 [] 0)), (4, (.ptr 1 [] 0)), (5, (.row 2)), (15, (.dat 27 (.lst x0))), (16, (.dat 3 (.int x1))), (17, (.dat 3 (.int x2)))], [(.box 47 (.dat 47 x3)), (.box 30 (.dat 30 x4)), (.row 27 x5)], 0⟩
noncomputable def s29_0 (x0 : List Dt) (x1 x2 : Int) (x3 x4 : Dt) (x5 : List Dt) : St := ⟨tsOf [(2, (.ptr 0 [] 0)), (4, (.ptr 1 [] 0)), (5, (.row 2)), (15, (.dat 27 (.lst x0))), (16, (.dat 3 (.int x1))), (17, (.dat 3 (.int x2)))], [(.box 47 (.dat 47 x3)), (.box 30 (.dat 30 x4)), (.row 27 x5)], 0⟩
theorem order_key_j3_eq (m : Nat) (M1 : Nat) (rec1 : List Dt → Int → Int → Dt → Dt → List Dt → Option (Dt)) (h1 : ∀ (x0 : List Dt) (x1 x2 : Int) (x3 x4 : Dt) (x5 : List Dt), l29 jn m [1, 1, 0, 1, 0] [] M1 (s29_1 x0 x1 x2 x3 x4 x5) = rec1 x0 x1 x2 x3 x4 x5) (x0 : List Dt) (x1 x2 : Int) (x3 x4 : Dt) (x5 : List Dt) : e29 jn m [1, 1, 0, 1, 0, 0, 1, 1, 1] [M1] (s29_3 x0 x1 x2 x3 x4 x5) = order_key_j3 m rec1 x0 x1 x2 x3 x4 x5 := by
  have h : ∀ J, e29 J m [1, 1, 0, 1, 0, 0, 1, 1, 1] [M1] (s29_3 x0 x1 x2 x3 x4 x5) =
    (J 1 3 M1 (s29_1 x0 x1 (IntKind.wrap IntKind.i64 (x2 + (1 : Int))) x3 x4 x5) (l29 J m [1, 1, 0, 1, 0] [] M1 (s29_1 x0 x1 (IntKind.wrap IntKind.i64 (x2 + (1 : Int))) x3 x4 x5))) := fun J => by kernel_rfl
  exact (h jn).trans (by
    simp only [jn_eq, h1]
    rfl)
theorem order_key_j2_eq (m : Nat) (M1 : Nat) (rec1 : List Dt → Int → Int → Dt → Dt → List Dt → Option (Dt)) (h1 : ∀ (x0 : List Dt) (x1 x2 : Int) (x3 x4 : Dt) (x5 : List Dt), l29 jn m [1, 1, 0, 1, 0] [] M1 (s29_1 x0 x1 x2 x3 x4 x5) = rec1 x0 x1 x2 x3 x4 x5) (x0 : List Dt) (x1 x2 : Int) (x3 x4 : Dt) (x5 : List Dt) : e29 jn m [1, 1, 0, 1, 0, 0, 1, 1] [M1] (s29_2 x0 x1 x2 x3 x4 x5) = order_key_j2 m rec1 x0 x1 x2 x3 x4 x5 := by
  have h : ∀ J, e29 J m [1, 1, 0, 1, 0, 0, 1, 1] [M1] (s29_2 x0 x1 x2 x3 x4 x5) =
    ((idx x0 x2).bind fun v1 =>
     (bif ((Dt.I v1 0) == (0 : Int)) then
     ((app x5 [(Dt.agg [(Dt.int (2 : Int)), (Dt.int (0 : Int)), (Dt.str (ByteArray.mk (List.toArray []))), (Dt.lst []), (Dt.lst [])])]).bind fun v2 =>
     (J 0 10 0 (s29_3 x0 x1 x2 x3 x4 v2) (e29 J m [1, 1, 0, 1, 0, 0, 1, 1, 1] [M1] (s29_3 x0 x1 x2 x3 x4 v2))))
     else
     (bif ((Dt.I v1 0) == (6 : Int)) then
     (bif (decide ((0 : Int) < (((List.length (Dt.L v1 3)) : Nat) : Int))) then
     ((app x5 (Dt.L v1 3)).bind fun v3 =>
     (J 0 10 0 (s29_3 x0 x1 x2 x3 x4 v3) (e29 J m [1, 1, 0, 1, 0, 0, 1, 1, 1] [M1] (s29_3 x0 x1 x2 x3 x4 v3))))
     else
     ((app x5 [v1]).bind fun v4 =>
     (J 0 10 0 (s29_3 x0 x1 x2 x3 x4 v4) (e29 J m [1, 1, 0, 1, 0, 0, 1, 1, 1] [M1] (s29_3 x0 x1 x2 x3 x4 v4)))))
     else
     ((app x5 [v1]).bind fun v5 =>
     (J 0 10 0 (s29_3 x0 x1 x2 x3 x4 v5) (e29 J m [1, 1, 0, 1, 0, 0, 1, 1, 1] [M1] (s29_3 x0 x1 x2 x3 x4 v5))))))) := fun J => by kernel_rfl
  exact (h jn).trans (by
    simp only [jn_eq, order_key_j3_eq m M1 rec1 h1]
    rfl)
theorem order_key_j8_eq (m : Nat) (M6 : Nat) (rec6 : List Dt → Int → Int → Dt → Dt → Dt → Option (Dt)) (h6 : ∀ (x0 : List Dt) (x1 x2 : Int) (x3 x4 x5 : Dt), l29 jn m [1, 1, 1, 1, 0, 1, 0] [] M6 (s29_6 x0 x1 x2 x3 x4 x5) = rec6 x0 x1 x2 x3 x4 x5) (x0 : List Dt) (x1 x2 : Int) (x3 x4 x5 : Dt) : e29 jn m [1, 1, 1, 1, 0, 1, 0, 0, 1, 1, 1] [M6] (s29_8 x0 x1 x2 x3 x4 x5) = order_key_j8 m rec6 x0 x1 x2 x3 x4 x5 := by
  have h : ∀ J, e29 J m [1, 1, 1, 1, 0, 1, 0, 0, 1, 1, 1] [M6] (s29_8 x0 x1 x2 x3 x4 x5) =
    (J 1 13 M6 (s29_6 x0 x1 (IntKind.wrap IntKind.i64 (x2 + (1 : Int))) x3 x4 x5) (l29 J m [1, 1, 1, 1, 0, 1, 0] [] M6 (s29_6 x0 x1 (IntKind.wrap IntKind.i64 (x2 + (1 : Int))) x3 x4 x5))) := fun J => by kernel_rfl
  exact (h jn).trans (by
    simp only [jn_eq, h6]
    rfl)
theorem order_key_j7_eq (m : Nat) (M6 : Nat) (rec6 : List Dt → Int → Int → Dt → Dt → Dt → Option (Dt)) (h6 : ∀ (x0 : List Dt) (x1 x2 : Int) (x3 x4 x5 : Dt), l29 jn m [1, 1, 1, 1, 0, 1, 0] [] M6 (s29_6 x0 x1 x2 x3 x4 x5) = rec6 x0 x1 x2 x3 x4 x5) (x0 : List Dt) (x1 x2 : Int) (x3 x4 x5 : Dt) : e29 jn m [1, 1, 1, 1, 0, 1, 0, 0, 1, 1] [M6] (s29_7 x0 x1 x2 x3 x4 x5) = order_key_j7 m rec6 x0 x1 x2 x3 x4 x5 := by
  have h : ∀ J, e29 J m [1, 1, 1, 1, 0, 1, 0, 0, 1, 1] [M6] (s29_7 x0 x1 x2 x3 x4 x5) =
    ((idx x0 x2).bind fun v9 =>
     ((value_Compare m v9 x5).bind fun r10 =>
     (bif (decide (r10 < (0 : Int))) then
     (bif (Bool.not (Dt.B x3 1)) then
     (J 0 18 0 (s29_8 x0 x1 x2 x3 x4 v9) (e29 J m [1, 1, 1, 1, 0, 1, 0, 0, 1, 1, 1] [M6] (s29_8 x0 x1 x2 x3 x4 v9)))
     else
     (bif (decide ((0 : Int) < r10)) then
     (bif (Dt.B x3 1) then
     (J 0 18 0 (s29_8 x0 x1 x2 x3 x4 v9) (e29 J m [1, 1, 1, 1, 0, 1, 0, 0, 1, 1, 1] [M6] (s29_8 x0 x1 x2 x3 x4 v9)))
     else
     (J 0 18 0 (s29_8 x0 x1 x2 x3 x4 x5) (e29 J m [1, 1, 1, 1, 0, 1, 0, 0, 1, 1, 1] [M6] (s29_8 x0 x1 x2 x3 x4 x5))))
     else
     (J 0 18 0 (s29_8 x0 x1 x2 x3 x4 x5) (e29 J m [1, 1, 1, 1, 0, 1, 0, 0, 1, 1, 1] [M6] (s29_8 x0 x1 x2 x3 x4 x5)))))
     else
     (bif (decide ((0 : Int) < r10)) then
     (bif (Dt.B x3 1) then
     (J 0 18 0 (s29_8 x0 x1 x2 x3 x4 v9) (e29 J m [1, 1, 1, 1, 0, 1, 0, 0, 1, 1, 1] [M6] (s29_8 x0 x1 x2 x3 x4 v9)))
     else
     (J 0 18 0 (s29_8 x0 x1 x2 x3 x4 x5) (e29 J m [1, 1, 1, 1, 0, 1, 0, 0, 1, 1, 1] [M6] (s29_8 x0 x1 x2 x3 x4 x5))))
     else
     (J 0 18 0 (s29_8 x0 x1 x2 x3 x4 x5) (e29 J m [1, 1, 1, 1, 0, 1, 0, 0, 1, 1, 1] [M6] (s29_8 x0 x1 x2 x3 x4 x5))))))) := fun J => by kernel_rfl
  exact (h jn).trans (by
    simp only [jn_eq, order_key_j8_eq m M6 rec6 h6]
    rfl)
theorem order_key_j9_eq (m : Nat) (x0 x1 : Dt) : e29 jn m [1, 1, 1, 1, 1] [] (s29_9 x0 x1) = order_key_j9 m x0 x1 := by
  have h : ∀ J, e29 J m [1, 1, 1, 1, 1] [] (s29_9 x0 x1) =
    some x1 := fun J => by kernel_rfl
  exact (h jn).trans (rfl)
theorem order_key_l6_eq (m : Nat) : ∀ (M6 : Nat) (x0 : List Dt) (x1 x2 : Int) (x3 x4 x5 : Dt), l29 jn m [1, 1, 1, 1, 0, 1, 0] [] M6 (s29_6 x0 x1 x2 x3 x4 x5) = order_key_l6 m M6 x0 x1 x2 x3 x4 x5
  | 0, _, _, _, _, _, _ => rfl
  | M6 + 1, x0, x1, x2, x3, x4, x5 => by
    have h : ∀ J, l29 J m [1, 1, 1, 1, 0, 1, 0] [] (M6 + 1) (s29_6 x0 x1 x2 x3 x4 x5) =
    (bif (decide (x2 < x1)) then
     (J 0 14 0 (s29_7 x0 x1 x2 x3 x4 x5) (e29 J m [1, 1, 1, 1, 0, 1, 0, 0, 1, 1] [M6] (s29_7 x0 x1 x2 x3 x4 x5)))
    else
     (J 0 19 0 (s29_9 x4 x5) (e29 J m [1, 1, 1, 1, 1] [] (s29_9 x4 x5)))) := fun J => by kernel_rfl
    refine (h jn).trans ?_
    simp only [jn_eq, order_key_j7_eq m M6 (order_key_l6 m M6) (fun x0 x1 x2 x3 x4 x5 => order_key_l6_eq m M6 x0 x1 x2 x3 x4 x5), order_key_j9_eq m]
    rfl
theorem order_key_j5_eq (m : Nat) (x0 : List Dt) (x1 x2 : Int) (x3 x4 x5 : Dt) : e29 jn m [1, 1, 1, 1, 0, 1] [] (s29_5 x0 x1 x2 x3 x4 x5) = order_key_j5 m x0 x1 x2 x3 x4 x5 := by
  have h : ∀ J, e29 J m [1, 1, 1, 1, 0, 1] [] (s29_5 x0 x1 x2 x3 x4 x5) =
    (J 1 13 (Nat.succ m) (s29_6 x0 x1 x2 x3 x4 x5) (l29 J m [1, 1, 1, 1, 0, 1, 0] [] (Nat.succ m) (s29_6 x0 x1 x2 x3 x4 x5))) := fun J => by kernel_rfl
  exact (h jn).trans (by
    simp only [jn_eq, order_key_l6_eq m]
    rfl)
theorem order_key_j4_eq (m : Nat) (x0 x1 : Dt) (x2 : List Dt) : e29 jn m [1, 1, 1] [] (s29_4 x0 x1 x2) = order_key_j4 m x0 x1 x2 := by
  have h : ∀ J, e29 J m [1, 1, 1] [] (s29_4 x0 x1 x2) =
    ((inL x2 (0 : Int)).bind fun v6 =>
     ((x2[0]?).bind fun v7 =>
     ((cutL x2 (1 : Int) (((List.length x2) : Nat) : Int)).bind fun v8 =>
     (J 0 13 0 (s29_5 v8 (((List.length v8) : Nat) : Int) (0 : Int) x0 x1 v7) (e29 J m [1, 1, 1, 1, 0, 1] [] (s29_5 v8 (((List.length v8) : Nat) : Int) (0 : Int) x0 x1 v7)))))) := fun J => by kernel_rfl
  exact (h jn).trans (by
    simp only [jn_eq, order_key_j5_eq m]
    rfl)
theorem order_key_l1_eq (m : Nat) : ∀ (M1 : Nat) (x0 : List Dt) (x1 x2 : Int) (x3 x4 : Dt) (x5 : List Dt), l29 jn m [1, 1, 0, 1, 0] [] M1 (s29_1 x0 x1 x2 x3 x4 x5) = order_key_l1 m M1 x0 x1 x2 x3 x4 x5
  | 0, _, _, _, _, _, _ => rfl
  | M1 + 1, x0, x1, x2, x3, x4, x5 => by
    have h : ∀ J, l29 J m [1, 1, 0, 1, 0] [] (M1 + 1) (s29_1 x0 x1 x2 x3 x4 x5) =
    (bif (decide (x2 < x1)) then
     (J 0 4 0 (s29_2 x0 x1 x2 x3 x4 x5) (e29 J m [1, 1, 0, 1, 0, 0, 1, 1] [M1] (s29_2 x0 x1 x2 x3 x4 x5)))
    else
     (J 0 11 0 (s29_4 x3 x4 x5) (e29 J m [1, 1, 1] [] (s29_4 x3 x4 x5)))) := fun J => by kernel_rfl
    refine (h jn).trans ?_
    simp only [jn_eq, order_key_j2_eq m M1 (order_key_l1 m M1) (fun x0 x1 x2 x3 x4 x5 => order_key_l1_eq m M1 x0 x1 x2 x3 x4 x5), order_key_j4_eq m]
    rfl
theorem order_key_j0_eq (m : Nat) (x0 : List Dt) (x1 x2 : Int) (x3 x4 : Dt) (x5 : List Dt) : e29 jn m [1, 1, 0, 1] [] (s29_0 x0 x1 x2 x3 x4 x5) = order_key_j0 m x0 x1 x2 x3 x4 x5 := by
  have h : ∀ J, e29 J m [1, 1, 0, 1] [] (s29_0 x0 x1 x2 x3 x4 x5) =
    (J 1 3 (Nat.succ m) (s29_1 x0 x1 x2 x3 x4 x5) (l29 J m [1, 1, 0, 1, 0] [] (Nat.succ m) (s29_1 x0 x1 x2 x3 x4 x5))) := fun J => by kernel_rfl
  exact (h jn).trans (by
    simp only [jn_eq, order_key_l1_eq m]
    rfl)
theorem order_key_eq (m : Nat) (a0 a1 : Dt) : e29 jn m [] [] ⟨[(.dat 47 a0), (.dat 30 a1)], [], 0⟩ = order_key (m + 1) a0 a1 := by
  have h : ∀ J, e29 J m [] [] ⟨[(.dat 47 a0), (.dat 30 a1)], [], 0⟩ =
    ((path_Reach m a1 (Dt.L a0 0)).bind fun r0 =>
     (J 0 3 0 (s29_0 r0 (((List.length r0) : Nat) : Int) (0 : Int) a0 (Dt.agg [(Dt.int (0 : Int)), (Dt.int (0 : Int)), (Dt.str (ByteArray.mk (List.toArray []))), (Dt.lst []), (Dt.lst [])]) []) (e29 J m [1, 1, 0, 1] [] (s29_0 r0 (((List.length r0) : Nat) : Int) (0 : Int) a0 (Dt.agg [(Dt.int (0 : Int)), (Dt.int (0 : Int)), (Dt.str (ByteArray.mk (List.toArray []))), (Dt.lst []), (Dt.lst [])]) [])))) := fun J => by kernel_rfl
  refine (h jn).trans ?_
  simp only [jn_eq, order_key_j0_eq m]
  rfl
noncomputable def d14 (q : Res) : Option (List Dt) := match q with
  | (.dat T0 x0, []) => bif Nat.beq T0 27 then some x0.toLst else none
  | _ => none
theorem d14_sim {b : Res} {r : List Dt} (h : d14 b = some r) : Sim Tryd.prog b ((.dat 27 (.lst r)), []) := by
  unfold d14 at h
  split at h
  · obtain ⟨hc, h2⟩ := bif_some h
    cases h2
    have e0 := beq_eq hc
    subst e0
    exact Sim.of (.of (.dat (.lst Tryd.underlying27)) rfl rfl) .nil
  · cases h
noncomputable def e14 (J : Nat → Nat → Nat → St → Option (List Dt) → Option (List Dt)) (m : Nat) (p ms : List Nat) (σ : St) := evAt Tryd.prog env (ct m) J (m + 1) 18 22 Tryd.f18 d14 p ms σ
noncomputable def l14 (J : Nat → Nat → Nat → St → Option (List Dt) → Option (List Dt)) (m : Nat) (p ms : List Nat) (M : Nat) (σ : St) := loopAt Tryd.prog env (ct m) J (m + 1) 18 22 Tryd.f18 d14 p ms M σ
noncomputable def s14_3 (x0 : List Dt) (x1 x2 : Int) (x3 : Dt) (x4 : List Dt) : St := ⟨tsOf [(3, (.ptr 0 [] 0)), (5, (.row 1)), (8, (.dat 22 (.lst x0))), (9, (.dat 3 (.int x1))), (10, (.dat 3 (.int x2)))], [(.box 30 (.dat 30 x3)), (.row 27 x4)], 0⟩
noncomputable def s14_2 (x0 : List Dt) (x1 x2 : Int) (x3 : Dt) (x4 : List Dt) : St := ⟨tsOf [(3, (.ptr 0 [] 0)), (5, (.row 1)), (8, (.dat 22 (.lst x0))), (9, (.dat 3 (.int x1))), (10, (.dat 3 (.int x2)))], [(.box 30 (.dat 30 x3)), (.row 27 x4)], 0⟩
noncomputable def s14_4 (x0 : List Dt) : St := ⟨tsOf [(5, (.row 0))], [(.row 27 x0)], 0⟩
noncomputable def s14_1 (x0 : List Dt) (x1 x2 : Int) (x3 : Dt) (x4 : List Dt) : St := ⟨tsOf [(3, (.ptr 0 [] 0)), (5, (.row 1)), (8, (.dat 22 (.lst x0))), (9, (.dat 3 (.int x1))), (10, (.dat 3 (.int x2)))], [(.box 30 (.dat 30 x3)), (.row 27 x4)], 0⟩
noncomputable def s14_0 (x0 : List Dt) (x1 x2 : Int) (x3 : Dt) (x4 : List Dt) : St := ⟨tsOf [(3, (.ptr 0 [] 0)), (5, (.row 1)), (8, (.dat 22 (.lst x0))), (9, (.dat 3 (.int x1))), (10, (.dat 3 (.int x2)))], [(.box 30 (.dat 30 x3)), (.row 27 x4)], 0⟩
theorem order_Keys_j3_eq (m : Nat) (M1 : Nat) (rec1 : List Dt → Int → Int → Dt → List Dt → Option (List Dt)) (h1 : ∀ (x0 : List Dt) (x1 x2 : Int) (x3 : Dt) (x4 : List Dt), l14 jn m [1, 1, 0, 1, 0] [] M1 (s14_1 x0 x1 x2 x3 x4) = rec1 x0 x1 x2 x3 x4) (x0 : List Dt) (x1 x2 : Int) (x3 : Dt) (x4 : List Dt) : e14 jn m [1, 1, 0, 1, 0, 0, 1, 1, 1] [M1] (s14_3 x0 x1 x2 x3 x4) = order_Keys_j3 m rec1 x0 x1 x2 x3 x4 := by
  have h : ∀ J, e14 J m [1, 1, 0, 1, 0, 0, 1, 1, 1] [M1] (s14_3 x0 x1 x2 x3 x4) =
    (J 1 3 M1 (s14_1 x0 x1 (IntKind.wrap IntKind.i64 (x2 + (1 : Int))) x3 x4) (l14 J m [1, 1, 0, 1, 0] [] M1 (s14_1 x0 x1 (IntKind.wrap IntKind.i64 (x2 + (1 : Int))) x3 x4))) := fun J => by kernel_rfl
  exact (h jn).trans (by
    simp only [jn_eq, h1]
    rfl)
theorem order_Keys_j2_eq (m : Nat) (M1 : Nat) (rec1 : List Dt → Int → Int → Dt → List Dt → Option (List Dt)) (h1 : ∀ (x0 : List Dt) (x1 x2 : Int) (x3 : Dt) (x4 : List Dt), l14 jn m [1, 1, 0, 1, 0] [] M1 (s14_1 x0 x1 x2 x3 x4) = rec1 x0 x1 x2 x3 x4) (x0 : List Dt) (x1 x2 : Int) (x3 : Dt) (x4 : List Dt) : e14 jn m [1, 1, 0, 1, 0, 0, 1, 1] [M1] (s14_2 x0 x1 x2 x3 x4) = order_Keys_j2 m rec1 x0 x1 x2 x3 x4 := by
  have h : ∀ J, e14 J m [1, 1, 0, 1, 0, 0, 1, 1] [M1] (s14_2 x0 x1 x2 x3 x4) =
    ((idx x0 x2).bind fun v0 =>
     ((order_key m v0 x3).bind fun r1 =>
     ((app x4 [r1]).bind fun v2 =>
     (J 0 6 0 (s14_3 x0 x1 x2 x3 v2) (e14 J m [1, 1, 0, 1, 0, 0, 1, 1, 1] [M1] (s14_3 x0 x1 x2 x3 v2)))))) := fun J => by kernel_rfl
  exact (h jn).trans (by
    simp only [jn_eq, order_Keys_j3_eq m M1 rec1 h1]
    rfl)
theorem order_Keys_j4_eq (m : Nat) (x0 : List Dt) : e14 jn m [1, 1, 1] [] (s14_4 x0) = order_Keys_j4 m x0 := by
  have h : ∀ J, e14 J m [1, 1, 1] [] (s14_4 x0) =
    some x0 := fun J => by kernel_rfl
  exact (h jn).trans (rfl)
theorem order_Keys_l1_eq (m : Nat) : ∀ (M1 : Nat) (x0 : List Dt) (x1 x2 : Int) (x3 : Dt) (x4 : List Dt), l14 jn m [1, 1, 0, 1, 0] [] M1 (s14_1 x0 x1 x2 x3 x4) = order_Keys_l1 m M1 x0 x1 x2 x3 x4
  | 0, _, _, _, _, _ => rfl
  | M1 + 1, x0, x1, x2, x3, x4 => by
    have h : ∀ J, l14 J m [1, 1, 0, 1, 0] [] (M1 + 1) (s14_1 x0 x1 x2 x3 x4) =
    (bif (decide (x2 < x1)) then
     (J 0 4 0 (s14_2 x0 x1 x2 x3 x4) (e14 J m [1, 1, 0, 1, 0, 0, 1, 1] [M1] (s14_2 x0 x1 x2 x3 x4)))
    else
     (J 0 7 0 (s14_4 x4) (e14 J m [1, 1, 1] [] (s14_4 x4)))) := fun J => by kernel_rfl
    refine (h jn).trans ?_
    simp only [jn_eq, order_Keys_j2_eq m M1 (order_Keys_l1 m M1) (fun x0 x1 x2 x3 x4 => order_Keys_l1_eq m M1 x0 x1 x2 x3 x4), order_Keys_j4_eq m]
    rfl
theorem order_Keys_j0_eq (m : Nat) (x0 : List Dt) (x1 x2 : Int) (x3 : Dt) (x4 : List Dt) : e14 jn m [1, 1, 0, 1] [] (s14_0 x0 x1 x2 x3 x4) = order_Keys_j0 m x0 x1 x2 x3 x4 := by
  have h : ∀ J, e14 J m [1, 1, 0, 1] [] (s14_0 x0 x1 x2 x3 x4) =
    (J 1 3 (Nat.succ m) (s14_1 x0 x1 x2 x3 x4) (l14 J m [1, 1, 0, 1, 0] [] (Nat.succ m) (s14_1 x0 x1 x2 x3 x4))) := fun J => by kernel_rfl
  exact (h jn).trans (by
    simp only [jn_eq, order_Keys_l1_eq m]
    rfl)
theorem order_Keys_eq (m : Nat) (a0 : List Dt) (a1 : Dt) : e14 jn m [] [] ⟨[(.dat 22 (.lst a0)), (.dat 30 a1)], [], 0⟩ = order_Keys (m + 1) a0 a1 := by
  have h : ∀ J, e14 J m [] [] ⟨[(.dat 22 (.lst a0)), (.dat 30 a1)], [], 0⟩ =
    (J 0 3 0 (s14_0 a0 (((List.length a0) : Nat) : Int) (0 : Int) a1 []) (e14 J m [1, 1, 0, 1] [] (s14_0 a0 (((List.length a0) : Nat) : Int) (0 : Int) a1 []))) := fun J => by kernel_rfl
  refine (h jn).trans ?_
  simp only [jn_eq, order_Keys_j0_eq m]
  rfl
noncomputable def d9 (q : Res) : Option (Int) := match q with
  | (.dat T0 x0, []) => bif Nat.beq T0 3 then some x0.toInt else none
  | _ => none
theorem d9_sim {b : Res} {r : Int} (h : d9 b = some r) : Sim Tryd.prog b ((.dat 3 (.int r)), []) := by
  unfold d9 at h
  split at h
  · obtain ⟨hc, h2⟩ := bif_some h
    cases h2
    have e0 := beq_eq hc
    subst e0
    exact Sim.of (.of (.dat (.int Tryd.underlying3)) rfl rfl) .nil
  · cases h
noncomputable def e9 (J : Nat → Nat → Nat → St → Option (Int) → Option (Int)) (m : Nat) (p ms : List Nat) (σ : St) := evAt Tryd.prog env (ct m) J (m + 1) 20 15 Tryd.f20 d9 p ms σ
noncomputable def l9 (J : Nat → Nat → Nat → St → Option (Int) → Option (Int)) (m : Nat) (p ms : List Nat) (M : Nat) (σ : St) := loopAt Tryd.prog env (ct m) J (m + 1) 20 15 Tryd.f20 d9 p ms M σ
theorem order_Compare_eq (m : Nat) (a0 : List Dt) (a1 a2 : Dt) : e9 jn m [] [] ⟨[(.dat 22 (.lst a0)), (.dat 30 a1), (.dat 30 a2)], [], 0⟩ = order_Compare (m + 1) a0 a1 a2 := by
  have h : ∀ J, e9 J m [] [] ⟨[(.dat 22 (.lst a0)), (.dat 30 a1), (.dat 30 a2)], [], 0⟩ =
    ((order_Keys m a0 a1).bind fun r0 =>
     ((order_Keys m a0 a2).bind fun r1 =>
     ((order_compare m a0 r0 r1).bind fun r2 =>
     some r2))) := fun J => by kernel_rfl
  refine (h jn).trans ?_
  
  rfl
noncomputable def d11 (q : Res) : Option (List Dt) := match q with
  | (.dat T0 x0, []) => bif Nat.beq T0 27 then some x0.toLst else none
  | _ => none
theorem d11_sim {b : Res} {r : List Dt} (h : d11 b = some r) : Sim Tryd.prog b ((.dat 27 (.lst r)), []) := by
  unfold d11 at h
  split at h
  · obtain ⟨hc, h2⟩ := bif_some h
    cases h2
    have e0 := beq_eq hc
    subst e0
    exact Sim.of (.of (.dat (.lst Tryd.underlying27)) rfl rfl) .nil
  · cases h
noncomputable def e11 (J : Nat → Nat → Nat → St → Option (List Dt) → Option (List Dt)) (m : Nat) (p ms : List Nat) (σ : St) := evAt Tryd.prog env (ct m) J (m + 1) 41 51 Tryd.f41 d11 p ms σ
noncomputable def l11 (J : Nat → Nat → Nat → St → Option (List Dt) → Option (List Dt)) (m : Nat) (p ms : List Nat) (M : Nat) (σ : St) := loopAt Tryd.prog env (ct m) J (m + 1) 41 51 Tryd.f41 d11 p ms M σ
noncomputable def s11_3 (x0 : Int) (x1 : List Dt) (x2 x3 : Int) (x4 x5 : List Dt) : St := ⟨tsOf [(2, (.dat 3 (.int x0))), (3, (.ptr 0 [] 0)), (7, (.row 1)), (16, (.dat 27 (.lst x1))), (17, (.dat 3 (.int x2))), (18, (.dat 3 (.int x3)))], [(.box 22 (.dat 22 (.lst x4))), (.row 68 x5)], 0⟩
noncomputable def s11_2 (x0 : Int) (x1 : List Dt) (x2 x3 : Int) (x4 x5 : List Dt) : St := ⟨tsOf [(2, (.dat 3 (.int x0))), (3, (.ptr 0 [] 0)), (7, (.row 1)), (16, (.dat 27 (.lst x1))), (17, (.dat 3 (.int x2))), (18, (.dat 3 (.int x3)))], [(.box 22 (.dat 22 (.lst x4))), (.row 68 x5)], 0⟩
noncomputable def s11_8 (x0 : List Dt) (x1 x2 : Int) (x3 : List Dt) : St := ⟨tsOf [(10, (.row 0)), (37, (.dat 68 (.lst x0))), (38, (.dat 3 (.int x1))), (39, (.dat 3 (.int x2)))], [(.row 27 x3)], 0⟩
noncomputable def s11_7 (x0 : List Dt) (x1 x2 : Int) (x3 : List Dt) : St := ⟨tsOf [(10, (.row 0)), (37, (.dat 68 (.lst x0))), (38, (.dat 3 (.int x1))), (39, (.dat 3 (.int x2)))], [(.row 27 x3)], 0⟩
noncomputable def s11_9 (x0 : List Dt) : St := ⟨tsOf [(10, (.row 0))], [(.row 27 x0)], 0⟩
noncomputable def s11_6 (x0 : List Dt) (x1 x2 : Int) (x3 : List Dt) : St := ⟨tsOf [(10, (.row 0)), (37, (.dat 68 (.lst x0))), (38, (.dat 3 (.int x1))), (39, (.dat 3 (.int x2)))], [(.row 27 x3)], 0⟩
noncomputable def s11_5 (x0 : List Dt) (x1 x2 : Int) (x3 : List Dt) : St := ⟨tsOf [(10, (.row 0)), (37, (.dat 68 (.lst x0))), (38, (.dat 3 (.int x1))), (39, (.dat 3 (.int x2)))], [(.row 27 x3)], 0⟩
noncomputable def s11_4 (x0 : Int) (x1 x2 : List Dt) : St := ⟨tsOf [(2, (.dat 3 (.int x0))), (3, (.ptr 0 [] 0)), (7, (.row 1))], [(.box 22 (.dat 22 (.lst x1))), (.row 68 x2)], 0⟩
noncomputable def s11_1 (x0 : Int) (x1 : List Dt) (x2 x3 : Int) (x4 x5 : List Dt) : St := ⟨tsOf [(2, (.dat 3 (.int x0))), (3, (.ptr 0 [] 0)), (7, (.row 1)), (16, (.dat 27 (.lst x1))), (17, (.dat 3 (.int x2))), (18, (.dat 3 (.int x3)))], [(.box 22 (.dat 22 (.lst x4))), (.row 68 x5)], 0⟩
noncomputable def s11_0 (x0 : Int) (x1 : List Dt) (x2 x3 : Int) (x4 x5 : List Dt) : St := ⟨tsOf [(2, (.dat 3 (.int x0))), (3, (.ptr 0 [] 0)), (7, (.row 1)), (16, (.dat 27 (.lst x1))), (17, (.dat 3 (.int x2))), (18, (.dat 3 (.int x3)))], [(.box 22 (.dat 22 (.lst x4))), (.row 68 x5)], 0⟩
theorem order_first_j3_eq (m : Nat) (M1 : Nat) (rec1 : Int → List Dt → Int → Int → List Dt → List Dt → Option (List Dt)) (h1 : ∀ (x0 : Int) (x1 : List Dt) (x2 x3 : Int) (x4 x5 : List Dt), l11 jn m [1, 1, 0, 1, 0] [] M1 (s11_1 x0 x1 x2 x3 x4 x5) = rec1 x0 x1 x2 x3 x4 x5) (x0 : Int) (x1 : List Dt) (x2 x3 : Int) (x4 x5 : List Dt) : e11 jn m [1, 1, 0, 1, 0, 0, 1, 1, 1] [M1] (s11_3 x0 x1 x2 x3 x4 x5) = order_first_j3 m rec1 x0 x1 x2 x3 x4 x5 := by
  have h : ∀ J, e11 J m [1, 1, 0, 1, 0, 0, 1, 1, 1] [M1] (s11_3 x0 x1 x2 x3 x4 x5) =
    (J 1 3 M1 (s11_1 x0 x1 x2 (IntKind.wrap IntKind.i64 (x3 + (1 : Int))) x4 x5) (l11 J m [1, 1, 0, 1, 0] [] M1 (s11_1 x0 x1 x2 (IntKind.wrap IntKind.i64 (x3 + (1 : Int))) x4 x5))) := fun J => by kernel_rfl
  exact (h jn).trans (by
    simp only [jn_eq, h1]
    rfl)
theorem order_first_j2_eq (m : Nat) (M1 : Nat) (rec1 : Int → List Dt → Int → Int → List Dt → List Dt → Option (List Dt)) (h1 : ∀ (x0 : Int) (x1 : List Dt) (x2 x3 : Int) (x4 x5 : List Dt), l11 jn m [1, 1, 0, 1, 0] [] M1 (s11_1 x0 x1 x2 x3 x4 x5) = rec1 x0 x1 x2 x3 x4 x5) (x0 : Int) (x1 : List Dt) (x2 x3 : Int) (x4 x5 : List Dt) : e11 jn m [1, 1, 0, 1, 0, 0, 1, 1] [M1] (s11_2 x0 x1 x2 x3 x4 x5) = order_first_j2 m rec1 x0 x1 x2 x3 x4 x5 := by
  have h : ∀ J, e11 J m [1, 1, 0, 1, 0, 0, 1, 1] [M1] (s11_2 x0 x1 x2 x3 x4 x5) =
    ((idx x1 x3).bind fun v1 =>
     ((order_Keys m x4 v1).bind fun r2 =>
     ((inL x5 x3).bind fun v3 =>
     ((x5[(Int.toNat x3)]?).bind fun v4 =>
     (J 0 6 0 (s11_3 x0 x1 x2 x3 x4 (List.set x5 (Int.toNat x3) (Dt.agg [v1, (Dt.lst r2)]))) (e11 J m [1, 1, 0, 1, 0, 0, 1, 1, 1] [M1] (s11_3 x0 x1 x2 x3 x4 (List.set x5 (Int.toNat x3) (Dt.agg [v1, (Dt.lst r2)]))))))))) := fun J => by kernel_rfl
  exact (h jn).trans (by
    simp only [jn_eq, order_first_j3_eq m M1 rec1 h1]
    rfl)
theorem order_first_j8_eq (m : Nat) (M6 : Nat) (rec6 : List Dt → Int → Int → List Dt → Option (List Dt)) (h6 : ∀ (x0 : List Dt) (x1 x2 : Int) (x3 : List Dt), l11 jn m [1, 1, 1, 1, 1, 0, 1, 0] [] M6 (s11_6 x0 x1 x2 x3) = rec6 x0 x1 x2 x3) (x0 : List Dt) (x1 x2 : Int) (x3 : List Dt) : e11 jn m [1, 1, 1, 1, 1, 0, 1, 0, 0, 1, 1, 1] [M6] (s11_8 x0 x1 x2 x3) = order_first_j8 m rec6 x0 x1 x2 x3 := by
  have h : ∀ J, e11 J m [1, 1, 1, 1, 1, 0, 1, 0, 0, 1, 1, 1] [M6] (s11_8 x0 x1 x2 x3) =
    (J 1 10 M6 (s11_6 x0 x1 (IntKind.wrap IntKind.i64 (x2 + (1 : Int))) x3) (l11 J m [1, 1, 1, 1, 1, 0, 1, 0] [] M6 (s11_6 x0 x1 (IntKind.wrap IntKind.i64 (x2 + (1 : Int))) x3))) := fun J => by kernel_rfl
  exact (h jn).trans (by
    simp only [jn_eq, h6]
    rfl)
theorem order_first_j7_eq (m : Nat) (M6 : Nat) (rec6 : List Dt → Int → Int → List Dt → Option (List Dt)) (h6 : ∀ (x0 : List Dt) (x1 x2 : Int) (x3 : List Dt), l11 jn m [1, 1, 1, 1, 1, 0, 1, 0] [] M6 (s11_6 x0 x1 x2 x3) = rec6 x0 x1 x2 x3) (x0 : List Dt) (x1 x2 : Int) (x3 : List Dt) : e11 jn m [1, 1, 1, 1, 1, 0, 1, 0, 0, 1, 1] [M6] (s11_7 x0 x1 x2 x3) = order_first_j7 m rec6 x0 x1 x2 x3 := by
  have h : ∀ J, e11 J m [1, 1, 1, 1, 1, 0, 1, 0, 0, 1, 1] [M6] (s11_7 x0 x1 x2 x3) =
    ((idx x0 x2).bind fun v7 =>
     ((order_clone m (Dt.fld v7 0)).bind fun r8 =>
     ((app x3 [r8]).bind fun v9 =>
     (J 0 13 0 (s11_8 x0 x1 x2 v9) (e11 J m [1, 1, 1, 1, 1, 0, 1, 0, 0, 1, 1, 1] [M6] (s11_8 x0 x1 x2 v9)))))) := fun J => by kernel_rfl
  exact (h jn).trans (by
    simp only [jn_eq, order_first_j8_eq m M6 rec6 h6]
    rfl)
theorem order_first_j9_eq (m : Nat) (x0 : List Dt) : e11 jn m [1, 1, 1, 1, 1, 1] [] (s11_9 x0) = order_first_j9 m x0 := by
  have h : ∀ J, e11 J m [1, 1, 1, 1, 1, 1] [] (s11_9 x0) =
    some x0 := fun J => by kernel_rfl
  exact (h jn).trans (rfl)
theorem order_first_l6_eq (m : Nat) : ∀ (M6 : Nat) (x0 : List Dt) (x1 x2 : Int) (x3 : List Dt), l11 jn m [1, 1, 1, 1, 1, 0, 1, 0] [] M6 (s11_6 x0 x1 x2 x3) = order_first_l6 m M6 x0 x1 x2 x3
  | 0, _, _, _, _ => rfl
  | M6 + 1, x0, x1, x2, x3 => by
    have h : ∀ J, l11 J m [1, 1, 1, 1, 1, 0, 1, 0] [] (M6 + 1) (s11_6 x0 x1 x2 x3) =
    (bif (decide (x2 < x1)) then
     (J 0 11 0 (s11_7 x0 x1 x2 x3) (e11 J m [1, 1, 1, 1, 1, 0, 1, 0, 0, 1, 1] [M6] (s11_7 x0 x1 x2 x3)))
    else
     (J 0 14 0 (s11_9 x3) (e11 J m [1, 1, 1, 1, 1, 1] [] (s11_9 x3)))) := fun J => by kernel_rfl
    refine (h jn).trans ?_
    simp only [jn_eq, order_first_j7_eq m M6 (order_first_l6 m M6) (fun x0 x1 x2 x3 => order_first_l6_eq m M6 x0 x1 x2 x3), order_first_j9_eq m]
    rfl
theorem order_first_j5_eq (m : Nat) (x0 : List Dt) (x1 x2 : Int) (x3 : List Dt) : e11 jn m [1, 1, 1, 1, 1, 0, 1] [] (s11_5 x0 x1 x2 x3) = order_first_j5 m x0 x1 x2 x3 := by
  have h : ∀ J, e11 J m [1, 1, 1, 1, 1, 0, 1] [] (s11_5 x0 x1 x2 x3) =
    (J 1 10 (Nat.succ m) (s11_6 x0 x1 x2 x3) (l11 J m [1, 1, 1, 1, 1, 0, 1, 0] [] (Nat.succ m) (s11_6 x0 x1 x2 x3))) := fun J => by kernel_rfl
  exact (h jn).trans (by
    simp only [jn_eq, order_first_l6_eq m]
    rfl)
theorem order_first_j4_eq (m : Nat) (x0 : Int) (x1 x2 : List Dt) : e11 jn m [1, 1, 1] [] (s11_4 x0 x1 x2) = order_first_j4 m x0 x1 x2 := by
  have h : ∀ J, e11 J m [1, 1, 1] [] (s11_4 x0 x1 x2) =
    ((i19 m x2 x1).bind fun r5 =>
     ((cutL (Prod.fst r5) (0 : Int) x0).bind fun v6 =>
     (J 0 10 0 (s11_5 v6 (((List.length v6) : Nat) : Int) (0 : Int) []) (e11 J m [1, 1, 1, 1, 1, 0, 1] [] (s11_5 v6 (((List.length v6) : Nat) : Int) (0 : Int) []))))) := fun J => by kernel_rfl
  exact (h jn).trans (by
    simp only [jn_eq, order_first_j5_eq m]
    rfl)
theorem order_first_l1_eq (m : Nat) : ∀ (M1 : Nat) (x0 : Int) (x1 : List Dt) (x2 x3 : Int) (x4 x5 : List Dt), l11 jn m [1, 1, 0, 1, 0] [] M1 (s11_1 x0 x1 x2 x3 x4 x5) = order_first_l1 m M1 x0 x1 x2 x3 x4 x5
  | 0, _, _, _, _, _, _ => rfl
  | M1 + 1, x0, x1, x2, x3, x4, x5 => by
    have h : ∀ J, l11 J m [1, 1, 0, 1, 0] [] (M1 + 1) (s11_1 x0 x1 x2 x3 x4 x5) =
    (bif (decide (x3 < x2)) then
     (J 0 4 0 (s11_2 x0 x1 x2 x3 x4 x5) (e11 J m [1, 1, 0, 1, 0, 0, 1, 1] [M1] (s11_2 x0 x1 x2 x3 x4 x5)))
    else
     (J 0 7 0 (s11_4 x0 x4 x5) (e11 J m [1, 1, 1] [] (s11_4 x0 x4 x5)))) := fun J => by kernel_rfl
    refine (h jn).trans ?_
    simp only [jn_eq, order_first_j2_eq m M1 (order_first_l1 m M1) (fun x0 x1 x2 x3 x4 x5 => order_first_l1_eq m M1 x0 x1 x2 x3 x4 x5), order_first_j4_eq m]
    rfl
theorem order_first_j0_eq (m : Nat) (x0 : Int) (x1 : List Dt) (x2 x3 : Int) (x4 x5 : List Dt) : e11 jn m [1, 1, 0, 1] [] (s11_0 x0 x1 x2 x3 x4 x5) = order_first_j0 m x0 x1 x2 x3 x4 x5 := by
  have h : ∀ J, e11 J m [1, 1, 0, 1] [] (s11_0 x0 x1 x2 x3 x4 x5) =
    (J 1 3 (Nat.succ m) (s11_1 x0 x1 x2 x3 x4 x5) (l11 J m [1, 1, 0, 1, 0] [] (Nat.succ m) (s11_1 x0 x1 x2 x3 x4 x5))) := fun J => by kernel_rfl
  exact (h jn).trans (by
    simp only [jn_eq, order_first_l1_eq m]
    rfl)
theorem order_first_eq (m : Nat) (a0 a1 : List Dt) (a2 : Int) : e11 jn m [] [] ⟨[(.dat 22 (.lst a0)), (.dat 27 (.lst a1)), (.dat 3 (.int a2))], [], 0⟩ = order_first (m + 1) a0 a1 a2 := by
  have h : ∀ J, e11 J m [] [] ⟨[(.dat 22 (.lst a0)), (.dat 27 (.lst a1)), (.dat 3 (.int a2))], [], 0⟩ =
    ((mkL (((List.length a1) : Nat) : Int) (((List.length a1) : Nat) : Int) (Dt.agg [(Dt.agg [(Dt.int (0 : Int)), (Dt.int (0 : Int)), (Dt.str (ByteArray.mk (List.toArray []))), (Dt.lst []), (Dt.lst [])]), (Dt.lst [])])).bind fun v0 =>
     (J 0 3 0 (s11_0 a2 a1 (((List.length a1) : Nat) : Int) (0 : Int) a0 v0) (e11 J m [1, 1, 0, 1] [] (s11_0 a2 a1 (((List.length a1) : Nat) : Int) (0 : Int) a0 v0)))) := fun J => by kernel_rfl
  refine (h jn).trans ?_
  simp only [jn_eq, order_first_j0_eq m]
  rfl
noncomputable def d4 (q : Res) : Option (List Dt) := match q with
  | (.dat T0 x0, []) => bif Nat.beq T0 27 then some x0.toLst else none
  | _ => none
theorem d4_sim {b : Res} {r : List Dt} (h : d4 b = some r) : Sim Tryd.prog b ((.dat 27 (.lst r)), []) := by
  unfold d4 at h
  split at h
  · obtain ⟨hc, h2⟩ := bif_some h
    cases h2
    have e0 := beq_eq hc
    subst e0
    exact Sim.of (.of (.dat (.lst Tryd.underlying27)) rfl rfl) .nil
  · cases h
noncomputable def e4 (J : Nat → Nat → Nat → St → Option (List Dt) → Option (List Dt)) (m : Nat) (p ms : List Nat) (σ : St) := evAt Tryd.prog env (ct m) J (m + 1) 22 10 Tryd.f22 d4 p ms σ
noncomputable def l4 (J : Nat → Nat → Nat → St → Option (List Dt) → Option (List Dt)) (m : Nat) (p ms : List Nat) (M : Nat) (σ : St) := loopAt Tryd.prog env (ct m) J (m + 1) 22 10 Tryd.f22 d4 p ms M σ
theorem order_Sort_eq (m : Nat) (a0 a1 : List Dt) : e4 jn m [] [] ⟨[(.dat 22 (.lst a0)), (.dat 27 (.lst a1))], [], 0⟩ = order_Sort (m + 1) a0 a1 := by
  have h : ∀ J, e4 J m [] [] ⟨[(.dat 22 (.lst a0)), (.dat 27 (.lst a1))], [], 0⟩ =
    ((order_first m a0 a1 (((List.length a1) : Nat) : Int)).bind fun r0 =>
     some r0) := fun J => by kernel_rfl
  refine (h jn).trans ?_
  
  rfl
noncomputable def d1 (q : Res) : Option (Bool) := match q with
  | (.dat T0 x0, []) => bif Nat.beq T0 4 then some x0.toBool else none
  | _ => none
theorem d1_sim {b : Res} {r : Bool} (h : d1 b = some r) : Sim Tryd.prog b ((.dat 4 (.bool r)), []) := by
  unfold d1 at h
  split at h
  · obtain ⟨hc, h2⟩ := bif_some h
    cases h2
    have e0 := beq_eq hc
    subst e0
    exact Sim.of (.of (.dat (.bool Tryd.underlying4)) rfl rfl) .nil
  · cases h
noncomputable def e1 (J : Nat → Nat → Nat → St → Option (Bool) → Option (Bool)) (m : Nat) (p ms : List Nat) (σ : St) := evAt Tryd.prog env (ct m) J (m + 1) 8 99 Tryd.f8 d1 p ms σ
noncomputable def l1 (J : Nat → Nat → Nat → St → Option (Bool) → Option (Bool)) (m : Nat) (p ms : List Nat) (M : Nat) (σ : St) := loopAt Tryd.prog env (ct m) J (m + 1) 8 99 Tryd.f8 d1 p ms M σ
noncomputable def s1_5 (x0 x1 x2 : List Dt) (x3 x4 : Int) : St := ⟨tsOf [(0, (.dat 22 (.lst x0))), (1, (.dat 27 (.lst x1))), (5, (.dat 27 (.lst x2))), (25, (.dat 3 (.int x3))), (26, (.dat 3 (.int x4)))], [], 0⟩
noncomputable def s1_4 (x0 x1 x2 : List Dt) (x3 x4 : Int) : St := ⟨tsOf [(0, (.dat 22 (.lst x0))), (1, (.dat 27 (.lst x1))), (5, (.dat 27 (.lst x2))), (25, (.dat 3 (.int x3))), (26, (.dat 3 (.int x4)))], [], 0⟩
noncomputable def s1_14 (x0 x1 x2 : List Dt) (x3 x4 x5 x6 x7 : Int) (x8 x9 : List Dt) : St := ⟨tsOf [(0, (.dat 22 (.lst x0))), (1, (.dat 27 (.lst x1))), (5, (.dat 27 (.lst x2))), (7, (.dat 3 (.int x3))), (8, (.row 0)), (9, (.row 1)), (47, (.dat 3 (.int x4))), (48, (.dat 3 (.int x5))), (52, (.dat 3 (.int x6))), (53, (.dat 3 (.int x7)))], [(.row 27 x8), (.row 27 x9)], 0⟩
noncomputable def s1_13 (x0 x1 x2 : List Dt) (x3 x4 x5 x6 x7 x8 : Int) (x9 x10 : List Dt) : St := ⟨tsOf [(0, (.dat 22 (.lst x0))), (1, (.dat 27 (.lst x1))), (5, (.dat 27 (.lst x2))), (7, (.dat 3 (.int x3))), (8, (.row 0)), (9, (.row 1)), (10, (.dat 3 (.int x4))), (47, (.dat 3 (.int x5))), (48, (.dat 3 (.int x6))), (52, (.dat 3 (.int x7))), (53, (.dat 3 (.int x8)))], [(.row 27 x9), (.row 27 x10)], 0⟩
noncomputable def s1_12 (x0 x1 x2 : List Dt) (x3 x4 x5 x6 x7 : Int) (x8 x9 : List Dt) : St := ⟨tsOf [(0, (.dat 22 (.lst x0))), (1, (.dat 27 (.lst x1))), (5, (.dat 27 (.lst x2))), (7, (.dat 3 (.int x3))), (8, (.row 0)), (9, (.row 1)), (47, (.dat 3 (.int x4))), (48, (.dat 3 (.int x5))), (52, (.dat 3 (.int x6))), (53, (.dat 3 (.int x7)))], [(.row 27 x8), (.row 27 x9)], 0⟩
noncomputable def s1_16 (x0 x1 x2 : List Dt) (x3 x4 : Int) : St := ⟨tsOf [(0, (.dat 22 (.lst x0))), (1, (.dat 27 (.lst x1))), (5, (.dat 27 (.lst x2))), (47, (.dat 3 (.int x3))), (48, (.dat 3 (.int x4)))], [], 0⟩
noncomputable def s1_15 (x0 x1 x2 : List Dt) (x3 x4 : Int) (x5 x6 : List Dt) : St := ⟨tsOf [(0, (.dat 22 (.lst x0))), (1, (.dat 27 (.lst x1))), (5, (.dat 27 (.lst x2))), (8, (.row 0)), (9, (.row 1)), (47, (.dat 3 (.int x3))), (48, (.dat 3 (.int x4)))], [(.row 27 x5), (.row 27 x6)], 0⟩
noncomputable def s1_11 (x0 x1 x2 : List Dt) (x3 x4 x5 x6 x7 : Int) (x8 x9 : List Dt) : St := ⟨tsOf [(0, (.dat 22 (.lst x0))), (1, (.dat 27 (.lst x1))), (5, (.dat 27 (.lst x2))), (7, (.dat 3 (.int x3))), (8, (.row 0)), (9, (.row 1)), (47, (.dat 3 (.int x4))), (48, (.dat 3 (.int x5))), (52, (.dat 3 (.int x6))), (53, (.dat 3 (.int x7)))], [(.row 27 x8), (.row 27 x9)], 0⟩
noncomputable def s1_10 (x0 x1 x2 : List Dt) (x3 x4 x5 x6 x7 : Int) (x8 x9 : List Dt) : St := ⟨tsOf [(0, (.dat 22 (.lst x0))), (1, (.dat 27 (.lst x1))), (5, (.dat 27 (.lst x2))), (7, (.dat 3 (.int x3))), (8, (.row 0)), (9, (.row 1)), (47, (.dat 3 (.int x4))), (48, (.dat 3 (.int x5))), (52, (.dat 3 (.int x6))), (53, (.dat 3 (.int x7)))], [(.row 27 x8), (.row 27 x9)], 0⟩
noncomputable def s1_9 (x0 x1 x2 : List Dt) (x3 x4 : Int) : St := ⟨tsOf [(0, (.dat 22 (.lst x0))), (1, (.dat 27 (.lst x1))), (5, (.dat 27 (.lst x2))), (47, (.dat 3 (.int x3))), (48, (.dat 3 (.int x4)))], [], 0⟩
noncomputable def s1_17 : St := ⟨tsOf [], [], 0⟩
noncomputable def s1_8 (x0 x1 x2 : List Dt) (x3 x4 : Int) : St := ⟨tsOf [(0, (.dat 22 (.lst x0))), (1, (.dat 27 (.lst x1))), (5, (.dat 27 (.lst x2))), (47, (.dat 3 (.int x3))), (48, (.dat 3 (.int x4)))], [], 0⟩
noncomputable def s1_7 (x0 x1 x2 : List Dt) (x3 x4 : Int) : St := ⟨tsOf [(0, (.dat 22 (.lst x0))), (1, (.dat 27 (.lst x1))), (5, (.dat 27 (.lst x2))), (47, (.dat 3 (.int x3))), (48, (.dat 3 (.int x4)))], [], 0⟩
noncomputable def s1_6 (x0 x1 x2 : List Dt) : St := ⟨tsOf [(0, (.dat 22 (.lst x0))), (1, (.dat 27 (.lst x1))), (5, (.dat 27 (.lst x2)))], [], 0⟩
noncomputable def s1_3 (x0 x1 x2 : List Dt) (x3 x4 : Int) : St := ⟨tsOf [(0, (.dat 22 (.lst x0))), (1, (.dat 27 (.lst x1))), (5, (.dat 27 (.lst x2))), (25, (.dat 3 (.int x3))), (26, (.dat 3 (.int x4)))], [], 0⟩
noncomputable def s1_2 (x0 x1 x2 : List Dt) (x3 x4 : Int) : St := ⟨tsOf [(0, (.dat 22 (.lst x0))), (1, (.dat 27 (.lst x1))), (5, (.dat 27 (.lst x2))), (25, (.dat 3 (.int x3))), (26, (.dat 3 (.int x4)))], [], 0⟩
noncomputable def s1_1 (x0 x1 x2 : List Dt) : St := ⟨tsOf [(0, (.dat 22 (.lst x0))), (1, (.dat 27 (.lst x1))), (5, (.dat 27 (.lst x2)))], [], 0⟩
noncomputable def s1_0 (x0 x1 : List Dt) : St := ⟨tsOf [(0, (.dat 22 (.lst x0))), (1, (.dat 27 (.lst x1)))], [], 0⟩
theorem law12_OrderStable_j5_eq (m : Nat) (M3 : Nat) (rec3 : List Dt → List Dt → List Dt → Int → Int → Option (Bool)) (h3 : ∀ (x0 x1 x2 : List Dt) (x3 x4 : Int), l1 jn m [1, 1, 1, 1, 0, 1, 0] [] M3 (s1_3 x0 x1 x2 x3 x4) = rec3 x0 x1 x2 x3 x4) (x0 x1 x2 : List Dt) (x3 x4 : Int) : e1 jn m [1, 1, 1, 1, 0, 1, 0, 0, 1, 1, 1] [M3] (s1_5 x0 x1 x2 x3 x4) = law12_OrderStable_j5 m rec3 x0 x1 x2 x3 x4 := by
  have h : ∀ J, e1 J m [1, 1, 1, 1, 0, 1, 0, 0, 1, 1, 1] [M3] (s1_5 x0 x1 x2 x3 x4) =
    (J 1 7 M3 (s1_3 x0 x1 x2 x3 (IntKind.wrap IntKind.i64 (x4 + (1 : Int)))) (l1 J m [1, 1, 1, 1, 0, 1, 0] [] M3 (s1_3 x0 x1 x2 x3 (IntKind.wrap IntKind.i64 (x4 + (1 : Int)))))) := fun J => by kernel_rfl
  exact (h jn).trans (by
    simp only [jn_eq, h3]
    rfl)
theorem law12_OrderStable_j4_eq (m : Nat) (M3 : Nat) (rec3 : List Dt → List Dt → List Dt → Int → Int → Option (Bool)) (h3 : ∀ (x0 x1 x2 : List Dt) (x3 x4 : Int), l1 jn m [1, 1, 1, 1, 0, 1, 0] [] M3 (s1_3 x0 x1 x2 x3 x4) = rec3 x0 x1 x2 x3 x4) (x0 x1 x2 : List Dt) (x3 x4 : Int) : e1 jn m [1, 1, 1, 1, 0, 1, 0, 0, 1, 1] [M3] (s1_4 x0 x1 x2 x3 x4) = law12_OrderStable_j4 m rec3 x0 x1 x2 x3 x4 := by
  have h : ∀ J, e1 J m [1, 1, 1, 1, 0, 1, 0, 0, 1, 1] [M3] (s1_4 x0 x1 x2 x3 x4) =
    (bif (decide ((0 : Int) < x4)) then
     ((idx x2 (IntKind.wrap IntKind.i64 (x4 - (1 : Int)))).bind fun v3 =>
     ((idx x2 x4).bind fun v4 =>
     ((order_Compare m x0 v3 v4).bind fun r5 =>
     (bif (decide ((0 : Int) < r5)) then
     some Bool.false
     else
     (J 0 11 0 (s1_5 x0 x1 x2 x3 x4) (e1 J m [1, 1, 1, 1, 0, 1, 0, 0, 1, 1, 1] [M3] (s1_5 x0 x1 x2 x3 x4)))))))
    else
     (J 0 11 0 (s1_5 x0 x1 x2 x3 x4) (e1 J m [1, 1, 1, 1, 0, 1, 0, 0, 1, 1, 1] [M3] (s1_5 x0 x1 x2 x3 x4)))) := fun J => by kernel_rfl
  exact (h jn).trans (by
    simp only [jn_eq, law12_OrderStable_j5_eq m M3 rec3 h3]
    rfl)
theorem law12_OrderStable_j14_eq (m : Nat) (M8 : Nat) (rec8 : List Dt → List Dt → List Dt → Int → Int → Option (Bool)) (h8 : ∀ (x0 x1 x2 : List Dt) (x3 x4 : Int), l1 jn m [1, 1, 1, 1, 1, 0, 1, 0] [] M8 (s1_8 x0 x1 x2 x3 x4) = rec8 x0 x1 x2 x3 x4) (M11 : Nat) (rec11 : List Dt → List Dt → List Dt → Int → Int → Int → Int → Int → List Dt → List Dt → Option (Bool)) (h11 : ∀ (x0 x1 x2 : List Dt) (x3 x4 x5 x6 x7 : Int) (x8 x9 : List Dt), l1 jn m [1, 1, 1, 1, 1, 0, 1, 0, 0, 1, 1, 0, 0, 1, 1, 0, 1, 0] [M8] M11 (s1_11 x0 x1 x2 x3 x4 x5 x6 x7 x8 x9) = rec11 x0 x1 x2 x3 x4 x5 x6 x7 x8 x9) (x0 x1 x2 : List Dt) (x3 x4 x5 x6 x7 : Int) (x8 x9 : List Dt) : e1 jn m [1, 1, 1, 1, 1, 0, 1, 0, 0, 1, 1, 0, 0, 1, 1, 0, 1, 0, 0, 1, 1, 1] [M8, M11] (s1_14 x0 x1 x2 x3 x4 x5 x6 x7 x8 x9) = law12_OrderStable_j14 m rec8 rec11 x0 x1 x2 x3 x4 x5 x6 x7 x8 x9 := by
  have h : ∀ J, e1 J m [1, 1, 1, 1, 1, 0, 1, 0, 0, 1, 1, 0, 0, 1, 1, 0, 1, 0, 0, 1, 1, 1] [M8, M11] (s1_14 x0 x1 x2 x3 x4 x5 x6 x7 x8 x9) =
    (J 1 17 M11 (s1_11 x0 x1 x2 x3 x4 x5 x6 (IntKind.wrap IntKind.i64 (x7 + (1 : Int))) x8 x9) (l1 J m [1, 1, 1, 1, 1, 0, 1, 0, 0, 1, 1, 0, 0, 1, 1, 0, 1, 0] [M8] M11 (s1_11 x0 x1 x2 x3 x4 x5 x6 (IntKind.wrap IntKind.i64 (x7 + (1 : Int))) x8 x9))) := fun J => by kernel_rfl
  exact (h jn).trans (by
    simp only [jn_eq, h11]
    rfl)
theorem law12_OrderStable_j13_eq (m : Nat) (M8 : Nat) (rec8 : List Dt → List Dt → List Dt → Int → Int → Option (Bool)) (h8 : ∀ (x0 x1 x2 : List Dt) (x3 x4 : Int), l1 jn m [1, 1, 1, 1, 1, 0, 1, 0] [] M8 (s1_8 x0 x1 x2 x3 x4) = rec8 x0 x1 x2 x3 x4) (M11 : Nat) (rec11 : List Dt → List Dt → List Dt → Int → Int → Int → Int → Int → List Dt → List Dt → Option (Bool)) (h11 : ∀ (x0 x1 x2 : List Dt) (x3 x4 x5 x6 x7 : Int) (x8 x9 : List Dt), l1 jn m [1, 1, 1, 1, 1, 0, 1, 0, 0, 1, 1, 0, 0, 1, 1, 0, 1, 0] [M8] M11 (s1_11 x0 x1 x2 x3 x4 x5 x6 x7 x8 x9) = rec11 x0 x1 x2 x3 x4 x5 x6 x7 x8 x9) (x0 x1 x2 : List Dt) (x3 x4 x5 x6 x7 x8 : Int) (x9 x10 : List Dt) : e1 jn m [1, 1, 1, 1, 1, 0, 1, 0, 0, 1, 1, 0, 0, 1, 1, 0, 1, 0, 0, 1, 1, 0, 0, 1, 1] [M8, M11] (s1_13 x0 x1 x2 x3 x4 x5 x6 x7 x8 x9 x10) = law12_OrderStable_j13 m rec8 rec11 x0 x1 x2 x3 x4 x5 x6 x7 x8 x9 x10 := by
  have h : ∀ J, e1 J m [1, 1, 1, 1, 1, 0, 1, 0, 0, 1, 1, 0, 0, 1, 1, 0, 1, 0, 0, 1, 1, 0, 0, 1, 1] [M8, M11] (s1_13 x0 x1 x2 x3 x4 x5 x6 x7 x8 x9 x10) =
    ((idx x2 x4).bind fun v11 =>
     ((idx x1 x3).bind fun v12 =>
     ((order_Compare m x0 v11 v12).bind fun r13 =>
     (bif (r13 == (0 : Int)) then
     ((idx x2 x4).bind fun v14 =>
     ((app x10 [v14]).bind fun v15 =>
     (J 0 23 0 (s1_14 x0 x1 x2 x3 x5 x6 x7 x8 x9 v15) (e1 J m [1, 1, 1, 1, 1, 0, 1, 0, 0, 1, 1, 0, 0, 1, 1, 0, 1, 0, 0, 1, 1, 1] [M8, M11] (s1_14 x0 x1 x2 x3 x5 x6 x7 x8 x9 v15)))))
     else
     (J 0 23 0 (s1_14 x0 x1 x2 x3 x5 x6 x7 x8 x9 x10) (e1 J m [1, 1, 1, 1, 1, 0, 1, 0, 0, 1, 1, 0, 0, 1, 1, 0, 1, 0, 0, 1, 1, 1] [M8, M11] (s1_14 x0 x1 x2 x3 x5 x6 x7 x8 x9 x10))))))) := fun J => by kernel_rfl
  exact (h jn).trans (by
    simp only [jn_eq, law12_OrderStable_j14_eq m M8 rec8 h8 M11 rec11 h11]
    rfl)
theorem law12_OrderStable_j12_eq (m : Nat) (M8 : Nat) (rec8 : List Dt → List Dt → List Dt → Int → Int → Option (Bool)) (h8 : ∀ (x0 x1 x2 : List Dt) (x3 x4 : Int), l1 jn m [1, 1, 1, 1, 1, 0, 1, 0] [] M8 (s1_8 x0 x1 x2 x3 x4) = rec8 x0 x1 x2 x3 x4) (M11 : Nat) (rec11 : List Dt → List Dt → List Dt → Int → Int → Int → Int → Int → List Dt → List Dt → Option (Bool)) (h11 : ∀ (x0 x1 x2 : List Dt) (x3 x4 x5 x6 x7 : Int) (x8 x9 : List Dt), l1 jn m [1, 1, 1, 1, 1, 0, 1, 0, 0, 1, 1, 0, 0, 1, 1, 0, 1, 0] [M8] M11 (s1_11 x0 x1 x2 x3 x4 x5 x6 x7 x8 x9) = rec11 x0 x1 x2 x3 x4 x5 x6 x7 x8 x9) (x0 x1 x2 : List Dt) (x3 x4 x5 x6 x7 : Int) (x8 x9 : List Dt) : e1 jn m [1, 1, 1, 1, 1, 0, 1, 0, 0, 1, 1, 0, 0, 1, 1, 0, 1, 0, 0, 1, 1] [M8, M11] (s1_12 x0 x1 x2 x3 x4 x5 x6 x7 x8 x9) = law12_OrderStable_j12 m rec8 rec11 x0 x1 x2 x3 x4 x5 x6 x7 x8 x9 := by
  have h : ∀ J, e1 J m [1, 1, 1, 1, 1, 0, 1, 0, 0, 1, 1, 0, 0, 1, 1, 0, 1, 0, 0, 1, 1] [M8, M11] (s1_12 x0 x1 x2 x3 x4 x5 x6 x7 x8 x9) =
    ((idx x1 x7).bind fun v6 =>
     ((idx x1 x3).bind fun v7 =>
     ((order_Compare m x0 v6 v7).bind fun r8 =>
     (bif (r8 == (0 : Int)) then
     ((idx x1 x7).bind fun v9 =>
     ((app x8 [v9]).bind fun v10 =>
     (J 0 21 0 (s1_13 x0 x1 x2 x3 x7 x4 x5 x6 x7 v10 x9) (e1 J m [1, 1, 1, 1, 1, 0, 1, 0, 0, 1, 1, 0, 0, 1, 1, 0, 1, 0, 0, 1, 1, 0, 0, 1, 1] [M8, M11] (s1_13 x0 x1 x2 x3 x7 x4 x5 x6 x7 v10 x9)))))
     else
     (J 0 21 0 (s1_13 x0 x1 x2 x3 x7 x4 x5 x6 x7 x8 x9) (e1 J m [1, 1, 1, 1, 1, 0, 1, 0, 0, 1, 1, 0, 0, 1, 1, 0, 1, 0, 0, 1, 1, 0, 0, 1, 1] [M8, M11] (s1_13 x0 x1 x2 x3 x7 x4 x5 x6 x7 x8 x9))))))) := fun J => by kernel_rfl
  exact (h jn).trans (by
    simp only [jn_eq, law12_OrderStable_j13_eq m M8 rec8 h8 M11 rec11 h11]
    rfl)
theorem law12_OrderStable_j16_eq (m : Nat) (M8 : Nat) (rec8 : List Dt → List Dt → List Dt → Int → Int → Option (Bool)) (h8 : ∀ (x0 x1 x2 : List Dt) (x3 x4 : Int), l1 jn m [1, 1, 1, 1, 1, 0, 1, 0] [] M8 (s1_8 x0 x1 x2 x3 x4) = rec8 x0 x1 x2 x3 x4) (x0 x1 x2 : List Dt) (x3 x4 : Int) : e1 jn m [1, 1, 1, 1, 1, 0, 1, 0, 0, 1, 1, 1] [M8] (s1_16 x0 x1 x2 x3 x4) = law12_OrderStable_j16 m rec8 x0 x1 x2 x3 x4 := by
  have h : ∀ J, e1 J m [1, 1, 1, 1, 1, 0, 1, 0, 0, 1, 1, 1] [M8] (s1_16 x0 x1 x2 x3 x4) =
    (J 1 13 M8 (s1_8 x0 x1 x2 x3 (IntKind.wrap IntKind.i64 (x4 + (1 : Int)))) (l1 J m [1, 1, 1, 1, 1, 0, 1, 0] [] M8 (s1_8 x0 x1 x2 x3 (IntKind.wrap IntKind.i64 (x4 + (1 : Int)))))) := fun J => by kernel_rfl
  exact (h jn).trans (by
    simp only [jn_eq, h8]
    rfl)
theorem law12_OrderStable_j15_eq (m : Nat) (M8 : Nat) (rec8 : List Dt → List Dt → List Dt → Int → Int → Option (Bool)) (h8 : ∀ (x0 x1 x2 : List Dt) (x3 x4 : Int), l1 jn m [1, 1, 1, 1, 1, 0, 1, 0] [] M8 (s1_8 x0 x1 x2 x3 x4) = rec8 x0 x1 x2 x3 x4) (x0 x1 x2 : List Dt) (x3 x4 : Int) (x5 x6 : List Dt) : e1 jn m [1, 1, 1, 1, 1, 0, 1, 0, 0, 1, 1, 0, 0, 1, 1, 1] [M8] (s1_15 x0 x1 x2 x3 x4 x5 x6) = law12_OrderStable_j15 m rec8 x0 x1 x2 x3 x4 x5 x6 := by
  have h : ∀ J, e1 J m [1, 1, 1, 1, 1, 0, 1, 0, 0, 1, 1, 0, 0, 1, 1, 1] [M8] (s1_15 x0 x1 x2 x3 x4 x5 x6) =
    ((law03_SameList m x5 x6).bind fun r16 =>
     (bif (Bool.not r16) then
     some Bool.false
     else
     (J 0 26 0 (s1_16 x0 x1 x2 x3 x4) (e1 J m [1, 1, 1, 1, 1, 0, 1, 0, 0, 1, 1, 1] [M8] (s1_16 x0 x1 x2 x3 x4))))) := fun J => by kernel_rfl
  exact (h jn).trans (by
    simp only [jn_eq, law12_OrderStable_j16_eq m M8 rec8 h8]
    rfl)
theorem law12_OrderStable_l11_eq (m : Nat) (M8 : Nat) (rec8 : List Dt → List Dt → List Dt → Int → Int → Option (Bool)) (h8 : ∀ (x0 x1 x2 : List Dt) (x3 x4 : Int), l1 jn m [1, 1, 1, 1, 1, 0, 1, 0] [] M8 (s1_8 x0 x1 x2 x3 x4) = rec8 x0 x1 x2 x3 x4) : ∀ (M11 : Nat) (x0 x1 x2 : List Dt) (x3 x4 x5 x6 x7 : Int) (x8 x9 : List Dt), l1 jn m [1, 1, 1, 1, 1, 0, 1, 0, 0, 1, 1, 0, 0, 1, 1, 0, 1, 0] [M8] M11 (s1_11 x0 x1 x2 x3 x4 x5 x6 x7 x8 x9) = law12_OrderStable_l11 m rec8 M11 x0 x1 x2 x3 x4 x5 x6 x7 x8 x9
  | 0, _, _, _, _, _, _, _, _, _, _ => rfl
  | M11 + 1, x0, x1, x2, x3, x4, x5, x6, x7, x8, x9 => by
    have h : ∀ J, l1 J m [1, 1, 1, 1, 1, 0, 1, 0, 0, 1, 1, 0, 0, 1, 1, 0, 1, 0] [M8] (M11 + 1) (s1_11 x0 x1 x2 x3 x4 x5 x6 x7 x8 x9) =
    (bif (decide (x7 < x6)) then
     (J 0 18 0 (s1_12 x0 x1 x2 x3 x4 x5 x6 x7 x8 x9) (e1 J m [1, 1, 1, 1, 1, 0, 1, 0, 0, 1, 1, 0, 0, 1, 1, 0, 1, 0, 0, 1, 1] [M8, M11] (s1_12 x0 x1 x2 x3 x4 x5 x6 x7 x8 x9)))
    else
     (J 0 24 0 (s1_15 x0 x1 x2 x4 x5 x8 x9) (e1 J m [1, 1, 1, 1, 1, 0, 1, 0, 0, 1, 1, 0, 0, 1, 1, 1] [M8] (s1_15 x0 x1 x2 x4 x5 x8 x9)))) := fun J => by kernel_rfl
    refine (h jn).trans ?_
    simp only [jn_eq, law12_OrderStable_j12_eq m M8 rec8 h8 M11 (law12_OrderStable_l11 m rec8 M11) (fun x0 x1 x2 x3 x4 x5 x6 x7 x8 x9 => law12_OrderStable_l11_eq m M8 rec8 h8 M11 x0 x1 x2 x3 x4 x5 x6 x7 x8 x9), law12_OrderStable_j15_eq m M8 rec8 h8]
    rfl
theorem law12_OrderStable_j10_eq (m : Nat) (M8 : Nat) (rec8 : List Dt → List Dt → List Dt → Int → Int → Option (Bool)) (h8 : ∀ (x0 x1 x2 : List Dt) (x3 x4 : Int), l1 jn m [1, 1, 1, 1, 1, 0, 1, 0] [] M8 (s1_8 x0 x1 x2 x3 x4) = rec8 x0 x1 x2 x3 x4) (x0 x1 x2 : List Dt) (x3 x4 x5 x6 x7 : Int) (x8 x9 : List Dt) : e1 jn m [1, 1, 1, 1, 1, 0, 1, 0, 0, 1, 1, 0, 0, 1, 1, 0, 1] [M8] (s1_10 x0 x1 x2 x3 x4 x5 x6 x7 x8 x9) = law12_OrderStable_j10 m rec8 x0 x1 x2 x3 x4 x5 x6 x7 x8 x9 := by
  have h : ∀ J, e1 J m [1, 1, 1, 1, 1, 0, 1, 0, 0, 1, 1, 0, 0, 1, 1, 0, 1] [M8] (s1_10 x0 x1 x2 x3 x4 x5 x6 x7 x8 x9) =
    (J 1 17 (Nat.succ m) (s1_11 x0 x1 x2 x3 x4 x5 x6 x7 x8 x9) (l1 J m [1, 1, 1, 1, 1, 0, 1, 0, 0, 1, 1, 0, 0, 1, 1, 0, 1, 0] [M8] (Nat.succ m) (s1_11 x0 x1 x2 x3 x4 x5 x6 x7 x8 x9))) := fun J => by kernel_rfl
  exact (h jn).trans (by
    simp only [jn_eq, law12_OrderStable_l11_eq m M8 rec8 h8]
    rfl)
theorem law12_OrderStable_j9_eq (m : Nat) (M8 : Nat) (rec8 : List Dt → List Dt → List Dt → Int → Int → Option (Bool)) (h8 : ∀ (x0 x1 x2 : List Dt) (x3 x4 : Int), l1 jn m [1, 1, 1, 1, 1, 0, 1, 0] [] M8 (s1_8 x0 x1 x2 x3 x4) = rec8 x0 x1 x2 x3 x4) (x0 x1 x2 : List Dt) (x3 x4 : Int) : e1 jn m [1, 1, 1, 1, 1, 0, 1, 0, 0, 1, 1] [M8] (s1_9 x0 x1 x2 x3 x4) = law12_OrderStable_j9 m rec8 x0 x1 x2 x3 x4 := by
  have h : ∀ J, e1 J m [1, 1, 1, 1, 1, 0, 1, 0, 0, 1, 1] [M8] (s1_9 x0 x1 x2 x3 x4) =
    (J 0 17 0 (s1_10 x0 x1 x2 x4 x3 x4 (((List.length x1) : Nat) : Int) (0 : Int) [] []) (e1 J m [1, 1, 1, 1, 1, 0, 1, 0, 0, 1, 1, 0, 0, 1, 1, 0, 1] [M8] (s1_10 x0 x1 x2 x4 x3 x4 (((List.length x1) : Nat) : Int) (0 : Int) [] []))) := fun J => by kernel_rfl
  exact (h jn).trans (by
    simp only [jn_eq, law12_OrderStable_j10_eq m M8 rec8 h8]
    rfl)
theorem law12_OrderStable_j17_eq (m : Nat) : e1 jn m [1, 1, 1, 1, 1, 1] [] s1_17 = law12_OrderStable_j17 m := by
  have h : ∀ J, e1 J m [1, 1, 1, 1, 1, 1] [] s1_17 =
    ((awakeC).bind fun r17 =>
     some r17) := fun J => by kernel_rfl
  exact (h jn).trans (rfl)
theorem law12_OrderStable_l8_eq (m : Nat) : ∀ (M8 : Nat) (x0 x1 x2 : List Dt) (x3 x4 : Int), l1 jn m [1, 1, 1, 1, 1, 0, 1, 0] [] M8 (s1_8 x0 x1 x2 x3 x4) = law12_OrderStable_l8 m M8 x0 x1 x2 x3 x4
  | 0, _, _, _, _, _ => rfl
  | M8 + 1, x0, x1, x2, x3, x4 => by
    have h : ∀ J, l1 J m [1, 1, 1, 1, 1, 0, 1, 0] [] (M8 + 1) (s1_8 x0 x1 x2 x3 x4) =
    (bif (decide (x4 < x3)) then
     (J 0 14 0 (s1_9 x0 x1 x2 x3 x4) (e1 J m [1, 1, 1, 1, 1, 0, 1, 0, 0, 1, 1] [M8] (s1_9 x0 x1 x2 x3 x4)))
    else
     (J 0 27 0 s1_17 (e1 J m [1, 1, 1, 1, 1, 1] [] s1_17))) := fun J => by kernel_rfl
    refine (h jn).trans ?_
    simp only [jn_eq, law12_OrderStable_j9_eq m M8 (law12_OrderStable_l8 m M8) (fun x0 x1 x2 x3 x4 => law12_OrderStable_l8_eq m M8 x0 x1 x2 x3 x4), law12_OrderStable_j17_eq m]
    rfl
theorem law12_OrderStable_j7_eq (m : Nat) (x0 x1 x2 : List Dt) (x3 x4 : Int) : e1 jn m [1, 1, 1, 1, 1, 0, 1] [] (s1_7 x0 x1 x2 x3 x4) = law12_OrderStable_j7 m x0 x1 x2 x3 x4 := by
  have h : ∀ J, e1 J m [1, 1, 1, 1, 1, 0, 1] [] (s1_7 x0 x1 x2 x3 x4) =
    (J 1 13 (Nat.succ m) (s1_8 x0 x1 x2 x3 x4) (l1 J m [1, 1, 1, 1, 1, 0, 1, 0] [] (Nat.succ m) (s1_8 x0 x1 x2 x3 x4))) := fun J => by kernel_rfl
  exact (h jn).trans (by
    simp only [jn_eq, law12_OrderStable_l8_eq m]
    rfl)
theorem law12_OrderStable_j6_eq (m : Nat) (x0 x1 x2 : List Dt) : e1 jn m [1, 1, 1, 1, 1] [] (s1_6 x0 x1 x2) = law12_OrderStable_j6 m x0 x1 x2 := by
  have h : ∀ J, e1 J m [1, 1, 1, 1, 1] [] (s1_6 x0 x1 x2) =
    (J 0 13 0 (s1_7 x0 x1 x2 (((List.length x1) : Nat) : Int) (0 : Int)) (e1 J m [1, 1, 1, 1, 1, 0, 1] [] (s1_7 x0 x1 x2 (((List.length x1) : Nat) : Int) (0 : Int)))) := fun J => by kernel_rfl
  exact (h jn).trans (by
    simp only [jn_eq, law12_OrderStable_j7_eq m]
    rfl)
theorem law12_OrderStable_l3_eq (m : Nat) : ∀ (M3 : Nat) (x0 x1 x2 : List Dt) (x3 x4 : Int), l1 jn m [1, 1, 1, 1, 0, 1, 0] [] M3 (s1_3 x0 x1 x2 x3 x4) = law12_OrderStable_l3 m M3 x0 x1 x2 x3 x4
  | 0, _, _, _, _, _ => rfl
  | M3 + 1, x0, x1, x2, x3, x4 => by
    have h : ∀ J, l1 J m [1, 1, 1, 1, 0, 1, 0] [] (M3 + 1) (s1_3 x0 x1 x2 x3 x4) =
    (bif (decide (x4 < x3)) then
     (J 0 8 0 (s1_4 x0 x1 x2 x3 x4) (e1 J m [1, 1, 1, 1, 0, 1, 0, 0, 1, 1] [M3] (s1_4 x0 x1 x2 x3 x4)))
    else
     (J 0 12 0 (s1_6 x0 x1 x2) (e1 J m [1, 1, 1, 1, 1] [] (s1_6 x0 x1 x2)))) := fun J => by kernel_rfl
    refine (h jn).trans ?_
    simp only [jn_eq, law12_OrderStable_j4_eq m M3 (law12_OrderStable_l3 m M3) (fun x0 x1 x2 x3 x4 => law12_OrderStable_l3_eq m M3 x0 x1 x2 x3 x4), law12_OrderStable_j6_eq m]
    rfl
theorem law12_OrderStable_j2_eq (m : Nat) (x0 x1 x2 : List Dt) (x3 x4 : Int) : e1 jn m [1, 1, 1, 1, 0, 1] [] (s1_2 x0 x1 x2 x3 x4) = law12_OrderStable_j2 m x0 x1 x2 x3 x4 := by
  have h : ∀ J, e1 J m [1, 1, 1, 1, 0, 1] [] (s1_2 x0 x1 x2 x3 x4) =
    (J 1 7 (Nat.succ m) (s1_3 x0 x1 x2 x3 x4) (l1 J m [1, 1, 1, 1, 0, 1, 0] [] (Nat.succ m) (s1_3 x0 x1 x2 x3 x4))) := fun J => by kernel_rfl
  exact (h jn).trans (by
    simp only [jn_eq, law12_OrderStable_l3_eq m]
    rfl)
theorem law12_OrderStable_j1_eq (m : Nat) (x0 x1 x2 : List Dt) : e1 jn m [1, 1, 1, 1] [] (s1_1 x0 x1 x2) = law12_OrderStable_j1 m x0 x1 x2 := by
  have h : ∀ J, e1 J m [1, 1, 1, 1] [] (s1_1 x0 x1 x2) =
    (J 0 7 0 (s1_2 x0 x1 x2 (((List.length x2) : Nat) : Int) (0 : Int)) (e1 J m [1, 1, 1, 1, 0, 1] [] (s1_2 x0 x1 x2 (((List.length x2) : Nat) : Int) (0 : Int)))) := fun J => by kernel_rfl
  exact (h jn).trans (by
    simp only [jn_eq, law12_OrderStable_j2_eq m]
    rfl)
theorem law12_OrderStable_j0_eq (m : Nat) (x0 x1 : List Dt) : e1 jn m [1, 1] [] (s1_0 x0 x1) = law12_OrderStable_j0 m x0 x1 := by
  have h : ∀ J, e1 J m [1, 1] [] (s1_0 x0 x1) =
    ((order_Sort m x0 x1).bind fun r2 =>
     (bif ((((List.length r2) : Nat) : Int) != (((List.length x1) : Nat) : Int)) then
     some Bool.false
     else
     (J 0 6 0 (s1_1 x0 x1 r2) (e1 J m [1, 1, 1, 1] [] (s1_1 x0 x1 r2))))) := fun J => by kernel_rfl
  exact (h jn).trans (by
    simp only [jn_eq, law12_OrderStable_j1_eq m]
    rfl)
theorem law12_OrderStable_eq (m : Nat) (a0 a1 : List Dt) : e1 jn m [] [] ⟨[(.dat 22 (.lst a0)), (.dat 27 (.lst a1))], [], 0⟩ = law12_OrderStable (m + 1) a0 a1 := by
  have h : ∀ J, e1 J m [] [] ⟨[(.dat 22 (.lst a0)), (.dat 27 (.lst a1))], [], 0⟩ =
    ((law12_Small m a0 a1).bind fun r0 =>
     (bif (Bool.not r0) then
     ((awakeC).bind fun r1 =>
     some r1)
     else
     (J 0 3 0 (s1_0 a0 a1) (e1 J m [1, 1] [] (s1_0 a0 a1))))) := fun J => by kernel_rfl
  refine (h jn).trans ?_
  simp only [jn_eq, law12_OrderStable_j0_eq m]
  rfl
noncomputable def d7 (q : Res) : Option (List Dt) := match q with
  | (.dat T0 x0, []) => bif Nat.beq T0 27 then some x0.toLst else none
  | _ => none
theorem d7_sim {b : Res} {r : List Dt} (h : d7 b = some r) : Sim Tryd.prog b ((.dat 27 (.lst r)), []) := by
  unfold d7 at h
  split at h
  · obtain ⟨hc, h2⟩ := bif_some h
    cases h2
    have e0 := beq_eq hc
    subst e0
    exact Sim.of (.of (.dat (.lst Tryd.underlying27)) rfl rfl) .nil
  · cases h
noncomputable def e7 (J : Nat → Nat → Nat → St → Option (List Dt) → Option (List Dt)) (m : Nat) (p ms : List Nat) (σ : St) := evAt Tryd.prog env (ct m) J (m + 1) 24 15 Tryd.f24 d7 p ms σ
noncomputable def l7 (J : Nat → Nat → Nat → St → Option (List Dt) → Option (List Dt)) (m : Nat) (p ms : List Nat) (M : Nat) (σ : St) := loopAt Tryd.prog env (ct m) J (m + 1) 24 15 Tryd.f24 d7 p ms M σ
theorem order_Top_eq (m : Nat) (a0 a1 : List Dt) (a2 : Int) : e7 jn m [] [] ⟨[(.dat 22 (.lst a0)), (.dat 27 (.lst a1)), (.dat 3 (.int a2))], [], 0⟩ = order_Top (m + 1) a0 a1 a2 := by
  have h : ∀ J, e7 J m [] [] ⟨[(.dat 22 (.lst a0)), (.dat 27 (.lst a1)), (.dat 3 (.int a2))], [], 0⟩ =
    ((order_first m a0 a1 (bif (decide ((0 : Int) < (bif (decide ((((List.length a1) : Nat) : Int) < a2)) then (((List.length a1) : Nat) : Int) else a2))) then (bif (decide ((((List.length a1) : Nat) : Int) < a2)) then (((List.length a1) : Nat) : Int) else a2) else (0 : Int))).bind fun r0 =>
     some r0) := fun J => by kernel_rfl
  refine (h jn).trans ?_
  
  rfl
end Go.Proofs.YtacchdeihafmnaaDoor
