/- Generated: each function's run in the abstract machine is its shallow function. -/
import Derived.Test.YtfneddmmeadacaaDoorCt
import Derived.Test.YtfneddmmeadacaaDoorAmEnv
import Derived.KernelRfl
set_option linter.unusedVariables false
set_option linter.unusedSimpArgs false
namespace Go.Proofs.YtfneddmmeadacaaDoor
open Go.Am
set_option maxRecDepth 100000
noncomputable def d7 (q : Res) : Option (List Dt × List Dt) := match q with
  | (.row n0, [.gone, .frz T1 x1, .row T2 x2]) => bif (Nat.beq n0 2 && (Nat.beq T1 26 && Nat.beq T2 38)) then some (x1, x2) else none
  | _ => none
theorem d7_sim {b : Res} {r : List Dt × List Dt} (h : d7 b = some r) : Sim Tryd.prog b ((.row 2), [.gone, (.frz 26 r.1), (.row 38 r.2)]) := by
  unfold d7 at h
  split at h
  · obtain ⟨hc, h2⟩ := bif_some h
    cases h2
    have e0 := beq_eq (and_l hc)
    have e1 := beq_eq (and_l (and_r hc))
    have e2 := beq_eq (and_r (and_r hc))
    subst e0 e1 e2
    exact Sim.of (.of .same rfl rfl) (.cons .same (.cons .same (.cons .same .nil)))
  · cases h
noncomputable def e7 (J : Nat → Nat → Nat → St → Option (List Dt × List Dt) → Option (List Dt × List Dt)) (m : Nat) (p ms : List Nat) (σ : St) := evAt Tryd.prog env (ct m) J (m + 1) 25 211 Tryd.f25 d7 p ms σ
noncomputable def l7 (J : Nat → Nat → Nat → St → Option (List Dt × List Dt) → Option (List Dt × List Dt)) (m : Nat) (p ms : List Nat) (M : Nat) (σ : St) := loopAt Tryd.prog env (ct m) J (m + 1) 25 211 Tryd.f25 d7 p ms M σ
noncomputable def s7_7 (x0 : List Dt) (x1 x2 : Int) (x3 x4 : List Dt) (x5 x6 : Dt) (x7 : List Dt) : St := ⟨tsOf [(4, (.ptr 2 [] 0)), (5, (.ptr 4 [] 0)), (6, (.ptr 5 [] 0)), (7, (.ptr 6 [] 0)), (9, (.fn 37 [(.ptr 2 [] 0), (.ptr 6 [] 0)])), (102, (.dat 26 (.lst x0))), (103, (.dat 3 (.int x1))), (104, (.dat 3 (.int x2)))], [.gone, (.frz 26 x3), (.box 38 (.row 3)), (.row 38 x4), (.box 30 (.dat 30 x5)), (.box 25 (.dat 25 x6)), (.box 26 (.dat 26 (.lst x7)))], 2⟩
noncomputable def s7_6 (x0 : List Dt) (x1 x2 : Int) (x3 x4 : List Dt) (x5 x6 : Dt) (x7 : List Dt) : St := ⟨tsOf [(4, (.ptr 2 [] 0)), (5, (.ptr 4 [] 0)), (6, (.ptr 5 [] 0)), (7, (.ptr 6 [] 0)), (9, (.fn 37 [(.ptr 2 [] 0), (.ptr 6 [] 0)])), (102, (.dat 26 (.lst x0))), (103, (.dat 3 (.int x1))), (104, (.dat 3 (.int x2)))], [.gone, (.frz 26 x3), (.box 38 (.row 3)), (.row 38 x4), (.box 30 (.dat 30 x5)), (.box 25 (.dat 25 x6)), (.box 26 (.dat 26 (.lst x7)))], 2⟩
noncomputable def s7_12 (x0 : List Dt) (x1 x2 : Int) (x3 x4 : List Dt) (x5 x6 : Dt) (x7 : List Dt) : St := ⟨tsOf [(4, (.ptr 2 [] 0)), (5, (.ptr 4 [] 0)), (6, (.ptr 5 [] 0)), (7, (.ptr 6 [] 0)), (9, (.fn 37 [(.ptr 2 [] 0), (.ptr 6 [] 0)])), (122, (.dat 23 (.lst x0))), (123, (.dat 3 (.int x1))), (124, (.dat 3 (.int x2)))], [.gone, (.frz 26 x3), (.box 38 (.row 3)), (.row 38 x4), (.box 30 (.dat 30 x5)), (.box 25 (.dat 25 x6)), (.box 26 (.dat 26 (.lst x7)))], 2⟩
noncomputable def s7_11 (x0 : List Dt) (x1 x2 : Int) (x3 x4 : List Dt) (x5 x6 : Dt) (x7 : List Dt) : St := ⟨tsOf [(4, (.ptr 2 [] 0)), (5, (.ptr 4 [] 0)), (6, (.ptr 5 [] 0)), (7, (.ptr 6 [] 0)), (9, (.fn 37 [(.ptr 2 [] 0), (.ptr 6 [] 0)])), (122, (.dat 23 (.lst x0))), (123, (.dat 3 (.int x1))), (124, (.dat 3 (.int x2)))], [.gone, (.frz 26 x3), (.box 38 (.row 3)), (.row 38 x4), (.box 30 (.dat 30 x5)), (.box 25 (.dat 25 x6)), (.box 26 (.dat 26 (.lst x7)))], 2⟩
noncomputable def s7_17 (x0 : List Dt) (x1 x2 : Int) (x3 x4 : List Dt) (x5 x6 : Dt) (x7 : List Dt) : St := ⟨tsOf [(4, (.ptr 2 [] 0)), (5, (.ptr 4 [] 0)), (6, (.ptr 5 [] 0)), (7, (.ptr 6 [] 0)), (9, (.fn 37 [(.ptr 2 [] 0), (.ptr 6 [] 0)])), (145, (.dat 27 (.lst x0))), (146, (.dat 3 (.int x1))), (147, (.dat 3 (.int x2)))], [.gone, (.frz 26 x3), (.box 38 (.row 3)), (.row 38 x4), (.box 30 (.dat 30 x5)), (.box 25 (.dat 25 x6)), (.box 26 (.dat 26 (.lst x7)))], 2⟩
noncomputable def s7_16 (x0 : List Dt) (x1 x2 : Int) (x3 x4 : List Dt) (x5 x6 : Dt) (x7 : List Dt) : St := ⟨tsOf [(4, (.ptr 2 [] 0)), (5, (.ptr 4 [] 0)), (6, (.ptr 5 [] 0)), (7, (.ptr 6 [] 0)), (9, (.fn 37 [(.ptr 2 [] 0), (.ptr 6 [] 0)])), (145, (.dat 27 (.lst x0))), (146, (.dat 3 (.int x1))), (147, (.dat 3 (.int x2)))], [.gone, (.frz 26 x3), (.box 38 (.row 3)), (.row 38 x4), (.box 30 (.dat 30 x5)), (.box 25 (.dat 25 x6)), (.box 26 (.dat 26 (.lst x7)))], 2⟩
noncomputable def s7_26 (x0 : List Dt) (x1 x2 : Int) (x3 : List Dt) (x4 x5 : Int) (x6 x7 : List Dt) (x8 : Dt) (x9 : List Dt) (x10 : Dt) : St := ⟨tsOf [(4, (.ptr 2 [] 0)), (6, (.ptr 4 [] 0)), (7, (.ptr 5 [] 0)), (25, (.ptr 6 [] 0)), (184, (.dat 28 (.lst x0))), (185, (.dat 3 (.int x1))), (186, (.dat 3 (.int x2))), (191, (.dat 22 (.lst x3))), (192, (.dat 3 (.int x4))), (193, (.dat 3 (.int x5)))], [.gone, (.frz 26 x6), (.box 38 (.row 3)), (.row 38 x7), (.box 25 (.dat 25 x8)), (.box 26 (.dat 26 (.lst x9))), (.box 30 (.dat 30 x10))], 2⟩
noncomputable def s7_25 (x0 : List Dt) (x1 x2 : Int) (x3 : List Dt) (x4 x5 : Int) (x6 x7 : List Dt) (x8 : Dt) (x9 : List Dt) (x10 : Dt) : St := ⟨tsOf [(4, (.ptr 2 [] 0)), (6, (.ptr 4 [] 0)), (7, (.ptr 5 [] 0)), (25, (.ptr 6 [] 0)), (184, (.dat 28 (.lst x0))), (185, (.dat 3 (.int x1))), (186, (.dat 3 (.int x2))), (191, (.dat 22 (.lst x3))), (192, (.dat 3 (.int x4))), (193, (.dat 3 (.int x5)))], [.gone, (.frz 26 x6), (.box 38 (.row 3)), (.row 38 x7), (.box 25 (.dat 25 x8)), (.box 26 (.dat 26 (.lst x9))), (.box 30 (.dat 30 x10))], 2⟩
noncomputable def s7_27 (x0 : List Dt) (x1 x2 : Int) (x3 x4 : List Dt) (x5 : Dt) (x6 : List Dt) : St := ⟨tsOf [(4, (.ptr 2 [] 0)), (6, (.ptr 4 [] 0)), (7, (.ptr 5 [] 0)), (184, (.dat 28 (.lst x0))), (185, (.dat 3 (.int x1))), (186, (.dat 3 (.int x2)))], [.gone, (.frz 26 x3), (.box 38 (.row 3)), (.row 38 x4), (.box 25 (.dat 25 x5)), (.box 26 (.dat 26 (.lst x6)))], 2⟩
noncomputable def s7_24 (x0 : List Dt) (x1 x2 : Int) (x3 : List Dt) (x4 x5 : Int) (x6 x7 : List Dt) (x8 : Dt) (x9 : List Dt) (x10 : Dt) : St := ⟨tsOf [(4, (.ptr 2 [] 0)), (6, (.ptr 4 [] 0)), (7, (.ptr 5 [] 0)), (25, (.ptr 6 [] 0)), (184, (.dat 28 (.lst x0))), (185, (.dat 3 (.int x1))), (186, (.dat 3 (.int x2))), (191, (.dat 22 (.lst x3))), (192, (.dat 3 (.int x4))), (193, (.dat 3 (.int x5)))], [.gone, (.frz 26 x6), (.box 38 (.row 3)), (.row 38 x7), (.box 25 (.dat 25 x8)), (.box 26 (.dat 26 (.lst x9))), (.box 30 (.dat 30 x10))], 2⟩
noncomputable def s7_23 (x0 : List Dt) (x1 x2 : Int) (x3 : List Dt) (x4 x5 : Int) (x6 x7 : List Dt) (x8 : Dt) (x9 : List Dt) (x10 : Dt) : St := ⟨tsOf [(4, (.ptr 2 [] 0)), (6, (.ptr 4 [] 0)), (7, (.ptr 5 [] 0)), (25, (.ptr 6 [] 0)), (184, (.dat 28 (.lst x0))), (185, (.dat 3 (.int x1))), (186, (.dat 3 (.int x2))), (191, (.dat 22 (.lst x3))), (192, (.dat 3 (.int x4))), (193, (.dat 3 (.int x5)))], [.gone, (.frz 26 x6), (.box 38 (.row 3)), (.row 38 x7), (.box 25 (.dat 25 x8)), (.box 26 (.dat 26 (.lst x9))), (.box 30 (.dat 30 x10))], 2⟩
noncomputable def s7_22 (x0 : List Dt) (x1 x2 : Int) (x3 x4 : List Dt) (x5 : Dt) (x6 : List Dt) : St := ⟨tsOf [(4, (.ptr 2 [] 0)), (6, (.ptr 4 [] 0)), (7, (.ptr 5 [] 0)), (184, (.dat 28 (.lst x0))), (185, (.dat 3 (.int x1))), (186, (.dat 3 (.int x2)))], [.gone, (.frz 26 x3), (.box 38 (.row 3)), (.row 38 x4), (.box 25 (.dat 25 x5)), (.box 26 (.dat 26 (.lst x6)))], 2⟩
noncomputable def s7_28 (x0 x1 : List Dt) : St := ⟨tsOf [(4, (.ptr 2 [] 0))], [.gone, (.frz 26 x0), (.box 38 (.row 3)), (.row 38 x1)], 2⟩
noncomputable def s7_21 (x0 : List Dt) (x1 x2 : Int) (x3 x4 : List Dt) (x5 : Dt) (x6 : List Dt) : St := ⟨tsOf [(4, (.ptr 2 [] 0)), (6, (.ptr 4 [] 0)), (7, (.ptr 5 [] 0)), (184, (.dat 28 (.lst x0))), (185, (.dat 3 (.int x1))), (186, (.dat 3 (.int x2)))], [.gone, (.frz 26 x3), (.box 38 (.row 3)), (.row 38 x4), (.box 25 (.dat 25 x5)), (.box 26 (.dat 26 (.lst x6)))], 2⟩
noncomputable def s7_20 (x0 : List Dt) (x1 x2 : Int) (x3 x4 : List Dt) (x5 : Dt) (x6 : List Dt) : St := ⟨tsOf [(4, (.ptr 2 [] 0)), (6, (.ptr 4 [] 0)), (7, (.ptr 5 [] 0)), (184, (.dat 28 (.lst x0))), (185, (.dat 3 (.int x1))), (186, (.dat 3 (.int x2)))], [.gone, (.frz 26 x3), (.box 38 (.row 3)), (.row 38 x4), (.box 25 (.dat 25 x5)), (.box 26 (.dat 26 (.lst x6)))], 2⟩
noncomputable def s7_19 (x0 x1 : List Dt) (x2 x3 : Dt) (x4 : List Dt) : St := ⟨tsOf [(4, (.ptr 2 [] 0)), (5, (.ptr 4 [] 0)), (6, (.ptr 5 [] 0)), (7, (.ptr 6 [] 0))], [.gone, (.frz 26 x0), (.box 38 (.row 3)), (.row 38 x1), (.box 30 (.dat 30 x2)), (.box 25 (.dat 25 x3)), (.box 26 (.dat 26 (.lst x4)))], 2⟩
noncomputable def s7_18 (x0 x1 : List Dt) (x2 x3 : Dt) (x4 : List Dt) : St := ⟨tsOf [(4, (.ptr 2 [] 0)), (5, (.ptr 4 [] 0)), (6, (.ptr 5 [] 0)), (7, (.ptr 6 [] 0)), (9, (.fn 37 [(.ptr 2 [] 0), (.ptr 6 [] 0)]))], [.gone, (.frz 26 x0), (.box 38 (.row 3)), (.row 38 x1), (.box 30 (.dat 30 x2)), (.box 25 (.dat 25 x3)), (.box 26 (.dat 26 (.lst x4)))], 2⟩
noncomputable def s7_15 (x0 : List Dt) (x1 x2 : Int) (x3 x4 : List Dt) (x5 x6 : Dt) (x7 : List Dt) : St := ⟨tsOf [(4, (.ptr 2 [] 0)), (5, (.ptr 4 [] 0)), (6, (.ptr 5 [] 0)), (7, (.ptr 6 [] 0)), (9, (.fn 37 [(.ptr 2 [] 0), (.ptr 6 [] 0)])), (145, (.dat 27 (.lst x0))), (146, (.dat 3 (.int x1))), (147, (.dat 3 (.int x2)))], [.gone, (.frz 26 x3), (.box 38 (.row 3)), (.row 38 x4), (.box 30 (.dat 30 x5)), (.box 25 (.dat 25 x6)), (.box 26 (.dat 26 (.lst x7)))], 2⟩
noncomputable def s7_14 (x0 : List Dt) (x1 x2 : Int) (x3 x4 : List Dt) (x5 x6 : Dt) (x7 : List Dt) : St := ⟨tsOf [(4, (.ptr 2 [] 0)), (5, (.ptr 4 [] 0)), (6, (.ptr 5 [] 0)), (7, (.ptr 6 [] 0)), (9, (.fn 37 [(.ptr 2 [] 0), (.ptr 6 [] 0)])), (145, (.dat 27 (.lst x0))), (146, (.dat 3 (.int x1))), (147, (.dat 3 (.int x2)))], [.gone, (.frz 26 x3), (.box 38 (.row 3)), (.row 38 x4), (.box 30 (.dat 30 x5)), (.box 25 (.dat 25 x6)), (.box 26 (.dat 26 (.lst x7)))], 2⟩
noncomputable def s7_13 (x0 x1 : List Dt) (x2 x3 : Dt) (x4 : List Dt) : St := ⟨tsOf [(4, (.ptr 2 [] 0)), (5, (.ptr 4 [] 0)), (6, (.ptr 5 [] 0)), (7, (.ptr 6 [] 0)), (9, (.fn 37 [(.ptr 2 [] 0), (.ptr 6 [] 0)]))], [.gone, (.frz 26 x0), (.box 38 (.row 3)), (.row 38 x1), (.box 30 (.dat 30 x2)), (.box 25 (.dat 25 x3)), (.box 26 (.dat 26 (.lst x4)))], 2⟩
noncomputable def s7_10 (x0 : List Dt) (x1 x2 : Int) (x3 x4 : List Dt) (x5 x6 : Dt) (x7 : List Dt) : St := ⟨tsOf [(4, (.ptr 2 [] 0)), (5, (.ptr 4 [] 0)), (6, (.ptr 5 [] 0)), (7, (.ptr 6 [] 0)), (9, (.fn 37 [(.ptr 2 [] 0), (.ptr 6 [] 0)])), (122, (.dat 23 (.lst x0))), (123, (.dat 3 (.int x1))), (124, (.dat 3 (.int x2)))], [.gone, (.frz 26 x3), (.box 38 (.row 3)), (.row 38 x4), (.box 30 (.dat 30 x5)), (.box 25 (.dat 25 x6)), (.box 26 (.dat 26 (.lst x7)))], 2⟩
noncomputable def s7_9 (x0 : List Dt) (x1 x2 : Int) (x3 x4 : List Dt) (x5 x6 : Dt) (x7 : List Dt) : St := ⟨tsOf [(4, (.ptr 2 [] 0)), (5, (.ptr 4 [] 0)), (6, (.ptr 5 [] 0)), (7, (.ptr 6 [] 0)), (9, (.fn 37 [(.ptr 2 [] 0), (.ptr 6 [] 0)])), (122, (.dat 23 (.lst x0))), (123, (.dat 3 (.int x1))), (124, (.dat 3 (.int x2)))], [.gone, (.frz 26 x3), (.box 38 (.row 3)), (.row 38 x4), (.box 30 (.dat 30 x5)), (.box 25 (.dat 25 x6)), (.box 26 (.dat 26 (.lst x7)))], 2⟩
noncomputable def s7_8 (x0 x1 : List Dt) (x2 x3 : Dt) (x4 : List Dt) : St := ⟨tsOf [(4, (.ptr 2 [] 0)), (5, (.ptr 4 [] 0)), (6, (.ptr 5 [] 0)), (7, (.ptr 6 [] 0)), (9, (.fn 37 [(.ptr 2 [] 0), (.ptr 6 [] 0)]))], [.gone, (.frz 26 x0), (.box 38 (.row 3)), (.row 38 x1), (.box 30 (.dat 30 x2)), (.box 25 (.dat 25 x3)), (.box 26 (.dat 26 (.lst x4)))], 2⟩
noncomputable def s7_5 (x0 : List Dt) (x1 x2 : Int) (x3 x4 : List Dt) (x5 x6 : Dt) (x7 : List Dt) : St := ⟨tsOf [(4, (.ptr 2 [] 0)), (5, (.ptr 4 [] 0)), (6, (.ptr 5 [] 0)), (7, (.ptr 6 [] 0)), (9, (.fn 37 [(.ptr 2 [] 0), (.ptr 6 [] 0)])), (102, (.dat 26 (.lst x0))), (103, (.dat 3 (.int x1))), (104, (.dat 3 (.int x2)))], [.gone, (.frz 26 x3), (.box 38 (.row 3)), (.row 38 x4), (.box 30 (.dat 30 x5)), (.box 25 (.dat 25 x6)), (.box 26 (.dat 26 (.lst x7)))], 2⟩
noncomputable def s7_4 (x0 : List Dt) (x1 x2 : Int) (x3 x4 : List Dt) (x5 x6 : Dt) (x7 : List Dt) : St := ⟨tsOf [(4, (.ptr 2 [] 0)), (5, (.ptr 4 [] 0)), (6, (.ptr 5 [] 0)), (7, (.ptr 6 [] 0)), (9, (.fn 37 [(.ptr 2 [] 0), (.ptr 6 [] 0)])), (102, (.dat 26 (.lst x0))), (103, (.dat 3 (.int x1))), (104, (.dat 3 (.int x2)))], [.gone, (.frz 26 x3), (.box 38 (.row 3)), (.row 38 x4), (.box 30 (.dat 30 x5)), (.box 25 (.dat 25 x6)), (.box 26 (.dat 26 (.lst x7)))], 2⟩
noncomputable def s7_3 (x0 x1 : List Dt) (x2 x3 : Dt) (x4 : List Dt) : St := ⟨tsOf [(4, (.ptr 2 [] 0)), (5, (.ptr 4 [] 0)), (6, (.ptr 5 [] 0)), (7, (.ptr 6 [] 0)), (9, (.fn 37 [(.ptr 2 [] 0), (.ptr 6 [] 0)]))], [.gone, (.frz 26 x0), (.box 38 (.row 3)), (.row 38 x1), (.box 30 (.dat 30 x2)), (.box 25 (.dat 25 x3)), (.box 26 (.dat 26 (.lst x4)))], 2⟩
noncomputable def s7_2 (x0 x1 : List Dt) (x2 x3 : Dt) (x4 : List Dt) : St := ⟨tsOf [(4, (.ptr 2 [] 0)), (5, (.ptr 4 [] 0)), (6, (.ptr 5 [] 0)), (7, (.ptr 6 [] 0)), (9, (.fn 37 [(.ptr 2 [] 0), (.ptr 6 [] 0)]))], [.gone, (.frz 26 x0), (.box 38 (.row 3)), (.row 38 x1), (.box 30 (.dat 30 x2)), (.box 25 (.dat 25 x3)), (.box 26 (.dat 26 (.lst x4)))], 2⟩
noncomputable def s7_1 (x0 x1 : List Dt) (x2 x3 : Dt) (x4 : List Dt) : St := ⟨tsOf [(4, (.ptr 2 [] 0)), (5, (.ptr 4 [] 0)), (6, (.ptr 5 [] 0)), (7, (.ptr 6 [] 0)), (9, (.fn 37 [(.ptr 2 [] 0), (.ptr 6 [] 0)]))], [.gone, (.frz 26 x0), (.box 38 (.row 3)), (.row 38 x1), (.box 30 (.dat 30 x2)), (.box 25 (.dat 25 x3)), (.box 26 (.dat 26 (.lst x4)))], 2⟩
noncomputable def s7_0 (x0 x1 : List Dt) (x2 x3 : Dt) (x4 : List Dt) : St := ⟨tsOf [(4, (.ptr 2 [] 0)), (5, (.ptr 4 [] 0)), (6, (.ptr 5 [] 0)), (7, (.ptr 6 [] 0)), (9, (.fn 37 [(.ptr 2 [] 0), (.ptr 6 [] 0)]))], [.gone, (.frz 26 x0), (.box 38 (.row 3)), (.row 38 x1), (.box 30 (.dat 30 x2)), (.box 25 (.dat 25 x3)), (.box 26 (.dat 26 (.lst x4)))], 2⟩
theorem i7_j7_eq (m : Nat) (M5 : Nat) (rec5 : List Dt → Int → Int → List Dt → List Dt → Dt → Dt → List Dt → Option (List Dt × List Dt)) (h5 : ∀ (x0 : List Dt) (x1 x2 : Int) (x3 x4 : List Dt) (x5 x6 : Dt) (x7 : List Dt), l7 jn m [1, 1, 1, 1, 1, 1, 1, 1, 1, 0, 1, 0, 0, 1, 0] [] M5 (s7_5 x0 x1 x2 x3 x4 x5 x6 x7) = rec5 x0 x1 x2 x3 x4 x5 x6 x7) (x0 : List Dt) (x1 x2 : Int) (x3 x4 : List Dt) (x5 x6 : Dt) (x7 : List Dt) : e7 jn m [1, 1, 1, 1, 1, 1, 1, 1, 1, 0, 1, 0, 0, 1, 0, 0, 1, 1, 1] [M5] (s7_7 x0 x1 x2 x3 x4 x5 x6 x7) = i7_j7 m rec5 x0 x1 x2 x3 x4 x5 x6 x7 := by
  have h : ∀ J, e7 J m [1, 1, 1, 1, 1, 1, 1, 1, 1, 0, 1, 0, 0, 1, 0, 0, 1, 1, 1] [M5] (s7_7 x0 x1 x2 x3 x4 x5 x6 x7) =
    (J 1 11 M5 (s7_5 x0 x1 (IntKind.wrap .i64 (x2 + 1)) x3 x4 x5 x6 x7) (l7 J m [1, 1, 1, 1, 1, 1, 1, 1, 1, 0, 1, 0, 0, 1, 0] [] M5 (s7_5 x0 x1 (IntKind.wrap .i64 (x2 + 1)) x3 x4 x5 x6 x7))) := fun J => by kernel_rfl
  exact (h jn).trans (by
    simp only [jn_eq, h5]
    rfl)
theorem i7_j6_eq (m : Nat) (M5 : Nat) (rec5 : List Dt → Int → Int → List Dt → List Dt → Dt → Dt → List Dt → Option (List Dt × List Dt)) (h5 : ∀ (x0 : List Dt) (x1 x2 : Int) (x3 x4 : List Dt) (x5 x6 : Dt) (x7 : List Dt), l7 jn m [1, 1, 1, 1, 1, 1, 1, 1, 1, 0, 1, 0, 0, 1, 0] [] M5 (s7_5 x0 x1 x2 x3 x4 x5 x6 x7) = rec5 x0 x1 x2 x3 x4 x5 x6 x7) (x0 : List Dt) (x1 x2 : Int) (x3 x4 : List Dt) (x5 x6 : Dt) (x7 : List Dt) : e7 jn m [1, 1, 1, 1, 1, 1, 1, 1, 1, 0, 1, 0, 0, 1, 0, 0, 1, 1] [M5] (s7_6 x0 x1 x2 x3 x4 x5 x6 x7) = i7_j6 m rec5 x0 x1 x2 x3 x4 x5 x6 x7 := by
  have h : ∀ J, e7 J m [1, 1, 1, 1, 1, 1, 1, 1, 1, 0, 1, 0, 0, 1, 0, 0, 1, 1] [M5] (s7_6 x0 x1 x2 x3 x4 x5 x6 x7) =
    ((idx x0 x2).bind fun v10 =>
   ((schema_field m x6 (Dt.toStr v10)).bind fun r11 =>
   ((i15 m (Bool.not r11.2) 6 [(Dt.str (Dt.toStr v10))] x4 x7).bind fun r12 =>
   (J 0 15 0 (s7_7 x0 x1 x2 x3 r12.2 x5 x6 r12.1) (e7 J m [1, 1, 1, 1, 1, 1, 1, 1, 1, 0, 1, 0, 0, 1, 0, 0, 1, 1, 1] [M5] (s7_7 x0 x1 x2 x3 r12.2 x5 x6 r12.1)))))) := fun J => by kernel_rfl
  exact (h jn).trans (by
    simp only [jn_eq, i7_j7_eq m M5 rec5 h5]
    rfl)
theorem i7_j12_eq (m : Nat) (M10 : Nat) (rec10 : List Dt → Int → Int → List Dt → List Dt → Dt → Dt → List Dt → Option (List Dt × List Dt)) (h10 : ∀ (x0 : List Dt) (x1 x2 : Int) (x3 x4 : List Dt) (x5 x6 : Dt) (x7 : List Dt), l7 jn m [1, 1, 1, 1, 1, 1, 1, 1, 1, 0, 1, 0, 1, 0, 1, 0] [] M10 (s7_10 x0 x1 x2 x3 x4 x5 x6 x7) = rec10 x0 x1 x2 x3 x4 x5 x6 x7) (x0 : List Dt) (x1 x2 : Int) (x3 x4 : List Dt) (x5 x6 : Dt) (x7 : List Dt) : e7 jn m [1, 1, 1, 1, 1, 1, 1, 1, 1, 0, 1, 0, 1, 0, 1, 0, 0, 1, 1, 1] [M10] (s7_12 x0 x1 x2 x3 x4 x5 x6 x7) = i7_j12 m rec10 x0 x1 x2 x3 x4 x5 x6 x7 := by
  have h : ∀ J, e7 J m [1, 1, 1, 1, 1, 1, 1, 1, 1, 0, 1, 0, 1, 0, 1, 0, 0, 1, 1, 1] [M10] (s7_12 x0 x1 x2 x3 x4 x5 x6 x7) =
    (J 1 17 M10 (s7_10 x0 x1 (IntKind.wrap .i64 (x2 + 1)) x3 x4 x5 x6 x7) (l7 J m [1, 1, 1, 1, 1, 1, 1, 1, 1, 0, 1, 0, 1, 0, 1, 0] [] M10 (s7_10 x0 x1 (IntKind.wrap .i64 (x2 + 1)) x3 x4 x5 x6 x7))) := fun J => by kernel_rfl
  exact (h jn).trans (by
    simp only [jn_eq, h10]
    rfl)
theorem i7_j11_eq (m : Nat) (M10 : Nat) (rec10 : List Dt → Int → Int → List Dt → List Dt → Dt → Dt → List Dt → Option (List Dt × List Dt)) (h10 : ∀ (x0 : List Dt) (x1 x2 : Int) (x3 x4 : List Dt) (x5 x6 : Dt) (x7 : List Dt), l7 jn m [1, 1, 1, 1, 1, 1, 1, 1, 1, 0, 1, 0, 1, 0, 1, 0] [] M10 (s7_10 x0 x1 x2 x3 x4 x5 x6 x7) = rec10 x0 x1 x2 x3 x4 x5 x6 x7) (x0 : List Dt) (x1 x2 : Int) (x3 x4 : List Dt) (x5 x6 : Dt) (x7 : List Dt) : e7 jn m [1, 1, 1, 1, 1, 1, 1, 1, 1, 0, 1, 0, 1, 0, 1, 0, 0, 1, 1] [M10] (s7_11 x0 x1 x2 x3 x4 x5 x6 x7) = i7_j11 m rec10 x0 x1 x2 x3 x4 x5 x6 x7 := by
  have h : ∀ J, e7 J m [1, 1, 1, 1, 1, 1, 1, 1, 1, 0, 1, 0, 1, 0, 1, 0, 0, 1, 1] [M10] (s7_11 x0 x1 x2 x3 x4 x5 x6 x7) =
    ((idx x0 x2).bind fun v13 =>
   (bif (Dt.B x5 10) then
   ((i19 m (Dt.L x5 9) v13).bind fun r14 =>
   ((i15 m (Bool.not r14) 7 [(Dt.str (Dt.S v13 0))] x4 x7).bind fun r15 =>
   (J 0 21 0 (s7_12 x0 x1 x2 x3 r15.2 x5 x6 r15.1) (e7 J m [1, 1, 1, 1, 1, 1, 1, 1, 1, 0, 1, 0, 1, 0, 1, 0, 0, 1, 1, 1] [M10] (s7_12 x0 x1 x2 x3 r15.2 x5 x6 r15.1)))))
   else
   ((i15 m false 7 [(Dt.str (Dt.S v13 0))] x4 x7).bind fun r16 =>
   (J 0 21 0 (s7_12 x0 x1 x2 x3 r16.2 x5 x6 r16.1) (e7 J m [1, 1, 1, 1, 1, 1, 1, 1, 1, 0, 1, 0, 1, 0, 1, 0, 0, 1, 1, 1] [M10] (s7_12 x0 x1 x2 x3 r16.2 x5 x6 r16.1)))))) := fun J => by kernel_rfl
  exact (h jn).trans (by
    simp only [jn_eq, i7_j12_eq m M10 rec10 h10]
    rfl)
theorem i7_j17_eq (m : Nat) (M15 : Nat) (rec15 : List Dt → Int → Int → List Dt → List Dt → Dt → Dt → List Dt → Option (List Dt × List Dt)) (h15 : ∀ (x0 : List Dt) (x1 x2 : Int) (x3 x4 : List Dt) (x5 x6 : Dt) (x7 : List Dt), l7 jn m [1, 1, 1, 1, 1, 1, 1, 1, 1, 0, 1, 0, 1, 1, 1, 0] [] M15 (s7_15 x0 x1 x2 x3 x4 x5 x6 x7) = rec15 x0 x1 x2 x3 x4 x5 x6 x7) (x0 : List Dt) (x1 x2 : Int) (x3 x4 : List Dt) (x5 x6 : Dt) (x7 : List Dt) : e7 jn m [1, 1, 1, 1, 1, 1, 1, 1, 1, 0, 1, 0, 1, 1, 1, 0, 0, 1, 1, 1] [M15] (s7_17 x0 x1 x2 x3 x4 x5 x6 x7) = i7_j17 m rec15 x0 x1 x2 x3 x4 x5 x6 x7 := by
  have h : ∀ J, e7 J m [1, 1, 1, 1, 1, 1, 1, 1, 1, 0, 1, 0, 1, 1, 1, 0, 0, 1, 1, 1] [M15] (s7_17 x0 x1 x2 x3 x4 x5 x6 x7) =
    (J 1 23 M15 (s7_15 x0 x1 (IntKind.wrap .i64 (x2 + 1)) x3 x4 x5 x6 x7) (l7 J m [1, 1, 1, 1, 1, 1, 1, 1, 1, 0, 1, 0, 1, 1, 1, 0] [] M15 (s7_15 x0 x1 (IntKind.wrap .i64 (x2 + 1)) x3 x4 x5 x6 x7))) := fun J => by kernel_rfl
  exact (h jn).trans (by
    simp only [jn_eq, h15]
    rfl)
theorem i7_j16_eq (m : Nat) (M15 : Nat) (rec15 : List Dt → Int → Int → List Dt → List Dt → Dt → Dt → List Dt → Option (List Dt × List Dt)) (h15 : ∀ (x0 : List Dt) (x1 x2 : Int) (x3 x4 : List Dt) (x5 x6 : Dt) (x7 : List Dt), l7 jn m [1, 1, 1, 1, 1, 1, 1, 1, 1, 0, 1, 0, 1, 1, 1, 0] [] M15 (s7_15 x0 x1 x2 x3 x4 x5 x6 x7) = rec15 x0 x1 x2 x3 x4 x5 x6 x7) (x0 : List Dt) (x1 x2 : Int) (x3 x4 : List Dt) (x5 x6 : Dt) (x7 : List Dt) : e7 jn m [1, 1, 1, 1, 1, 1, 1, 1, 1, 0, 1, 0, 1, 1, 1, 0, 0, 1, 1] [M15] (s7_16 x0 x1 x2 x3 x4 x5 x6 x7) = i7_j16 m rec15 x0 x1 x2 x3 x4 x5 x6 x7 := by
  have h : ∀ J, e7 J m [1, 1, 1, 1, 1, 1, 1, 1, 1, 0, 1, 0, 1, 1, 1, 0, 0, 1, 1] [M15] (s7_16 x0 x1 x2 x3 x4 x5 x6 x7) =
    ((idx x0 x2).bind fun v17 =>
   ((schema_field m x6 (Dt.S v17 0)).bind fun r18 =>
   (bif r18.2 then
   ((slices_Concat m [(Dt.lst x7), (Dt.lst [(Dt.str (Dt.S v17 0))])]).bind fun r19 =>
   ((i22 m (Dt.fld v17 1) r18.1 r19 x4).bind fun r20 =>
   (J 0 28 0 (s7_17 x0 x1 x2 x3 r20 x5 x6 x7) (e7 J m [1, 1, 1, 1, 1, 1, 1, 1, 1, 0, 1, 0, 1, 1, 1, 0, 0, 1, 1, 1] [M15] (s7_17 x0 x1 x2 x3 r20 x5 x6 x7)))))
   else
   (J 0 28 0 (s7_17 x0 x1 x2 x3 x4 x5 x6 x7) (e7 J m [1, 1, 1, 1, 1, 1, 1, 1, 1, 0, 1, 0, 1, 1, 1, 0, 0, 1, 1, 1] [M15] (s7_17 x0 x1 x2 x3 x4 x5 x6 x7)))))) := fun J => by kernel_rfl
  exact (h jn).trans (by
    simp only [jn_eq, i7_j17_eq m M15 rec15 h15]
    rfl)
theorem i7_j26_eq (m : Nat) (M21 : Nat) (rec21 : List Dt → Int → Int → List Dt → List Dt → Dt → List Dt → Option (List Dt × List Dt)) (h21 : ∀ (x0 : List Dt) (x1 x2 : Int) (x3 x4 : List Dt) (x5 : Dt) (x6 : List Dt), l7 jn m [1, 1, 1, 1, 1, 1, 1, 1, 1, 1, 0, 1, 0, 1, 1, 0] [] M21 (s7_21 x0 x1 x2 x3 x4 x5 x6) = rec21 x0 x1 x2 x3 x4 x5 x6) (M24 : Nat) (rec24 : List Dt → Int → Int → List Dt → Int → Int → List Dt → List Dt → Dt → List Dt → Dt → Option (List Dt × List Dt)) (h24 : ∀ (x0 : List Dt) (x1 x2 : Int) (x3 : List Dt) (x4 x5 : Int) (x6 x7 : List Dt) (x8 : Dt) (x9 : List Dt) (x10 : Dt), l7 jn m [1, 1, 1, 1, 1, 1, 1, 1, 1, 1, 0, 1, 0, 1, 1, 0, 0, 1, 1, 0, 0, 1, 1, 0] [M21] M24 (s7_24 x0 x1 x2 x3 x4 x5 x6 x7 x8 x9 x10) = rec24 x0 x1 x2 x3 x4 x5 x6 x7 x8 x9 x10) (x0 : List Dt) (x1 x2 : Int) (x3 : List Dt) (x4 x5 : Int) (x6 x7 : List Dt) (x8 : Dt) (x9 : List Dt) (x10 : Dt) : e7 jn m [1, 1, 1, 1, 1, 1, 1, 1, 1, 1, 0, 1, 0, 1, 1, 0, 0, 1, 1, 0, 0, 1, 1, 0, 0, 1, 1, 1] [M21, M24] (s7_26 x0 x1 x2 x3 x4 x5 x6 x7 x8 x9 x10) = i7_j26 m rec21 rec24 x0 x1 x2 x3 x4 x5 x6 x7 x8 x9 x10 := by
  have h : ∀ J, e7 J m [1, 1, 1, 1, 1, 1, 1, 1, 1, 1, 0, 1, 0, 1, 1, 0, 0, 1, 1, 0, 0, 1, 1, 0, 0, 1, 1, 1] [M21, M24] (s7_26 x0 x1 x2 x3 x4 x5 x6 x7 x8 x9 x10) =
    (J 1 35 M24 (s7_24 x0 x1 x2 x3 x4 (IntKind.wrap .i64 (x5 + 1)) x6 x7 x8 x9 x10) (l7 J m [1, 1, 1, 1, 1, 1, 1, 1, 1, 1, 0, 1, 0, 1, 1, 0, 0, 1, 1, 0, 0, 1, 1, 0] [M21] M24 (s7_24 x0 x1 x2 x3 x4 (IntKind.wrap .i64 (x5 + 1)) x6 x7 x8 x9 x10))) := fun J => by kernel_rfl
  exact (h jn).trans (by
    simp only [jn_eq, h24]
    rfl)
theorem i7_j25_eq (m : Nat) (M21 : Nat) (rec21 : List Dt → Int → Int → List Dt → List Dt → Dt → List Dt → Option (List Dt × List Dt)) (h21 : ∀ (x0 : List Dt) (x1 x2 : Int) (x3 x4 : List Dt) (x5 : Dt) (x6 : List Dt), l7 jn m [1, 1, 1, 1, 1, 1, 1, 1, 1, 1, 0, 1, 0, 1, 1, 0] [] M21 (s7_21 x0 x1 x2 x3 x4 x5 x6) = rec21 x0 x1 x2 x3 x4 x5 x6) (M24 : Nat) (rec24 : List Dt → Int → Int → List Dt → Int → Int → List Dt → List Dt → Dt → List Dt → Dt → Option (List Dt × List Dt)) (h24 : ∀ (x0 : List Dt) (x1 x2 : Int) (x3 : List Dt) (x4 x5 : Int) (x6 x7 : List Dt) (x8 : Dt) (x9 : List Dt) (x10 : Dt), l7 jn m [1, 1, 1, 1, 1, 1, 1, 1, 1, 1, 0, 1, 0, 1, 1, 0, 0, 1, 1, 0, 0, 1, 1, 0] [M21] M24 (s7_24 x0 x1 x2 x3 x4 x5 x6 x7 x8 x9 x10) = rec24 x0 x1 x2 x3 x4 x5 x6 x7 x8 x9 x10) (x0 : List Dt) (x1 x2 : Int) (x3 : List Dt) (x4 x5 : Int) (x6 x7 : List Dt) (x8 : Dt) (x9 : List Dt) (x10 : Dt) : e7 jn m [1, 1, 1, 1, 1, 1, 1, 1, 1, 1, 0, 1, 0, 1, 1, 0, 0, 1, 1, 0, 0, 1, 1, 0, 0, 1, 1] [M21, M24] (s7_25 x0 x1 x2 x3 x4 x5 x6 x7 x8 x9 x10) = i7_j25 m rec21 rec24 x0 x1 x2 x3 x4 x5 x6 x7 x8 x9 x10 := by
  have h : ∀ J, e7 J m [1, 1, 1, 1, 1, 1, 1, 1, 1, 1, 0, 1, 0, 1, 1, 0, 0, 1, 1, 0, 0, 1, 1, 0, 0, 1, 1] [M21, M24] (s7_25 x0 x1 x2 x3 x4 x5 x6 x7 x8 x9 x10) =
    ((idx x3 x5).bind fun v24 =>
   ((strconv_Itoa x5).bind fun r25 =>
   ((slices_Concat m [(Dt.lst x9), (Dt.lst [(Dt.str r25)])]).bind fun r26 =>
   ((i22 m x10 v24 r26 x7).bind fun r27 =>
   (J 0 38 0 (s7_26 x0 x1 x2 x3 x4 x5 x6 r27 x8 x9 x10) (e7 J m [1, 1, 1, 1, 1, 1, 1, 1, 1, 1, 0, 1, 0, 1, 1, 0, 0, 1, 1, 0, 0, 1, 1, 0, 0, 1, 1, 1] [M21, M24] (s7_26 x0 x1 x2 x3 x4 x5 x6 r27 x8 x9 x10))))))) := fun J => by kernel_rfl
  exact (h jn).trans (by
    simp only [jn_eq, i7_j26_eq m M21 rec21 h21 M24 rec24 h24]
    rfl)
theorem i7_j27_eq (m : Nat) (M21 : Nat) (rec21 : List Dt → Int → Int → List Dt → List Dt → Dt → List Dt → Option (List Dt × List Dt)) (h21 : ∀ (x0 : List Dt) (x1 x2 : Int) (x3 x4 : List Dt) (x5 : Dt) (x6 : List Dt), l7 jn m [1, 1, 1, 1, 1, 1, 1, 1, 1, 1, 0, 1, 0, 1, 1, 0] [] M21 (s7_21 x0 x1 x2 x3 x4 x5 x6) = rec21 x0 x1 x2 x3 x4 x5 x6) (x0 : List Dt) (x1 x2 : Int) (x3 x4 : List Dt) (x5 : Dt) (x6 : List Dt) : e7 jn m [1, 1, 1, 1, 1, 1, 1, 1, 1, 1, 0, 1, 0, 1, 1, 0, 0, 1, 1, 1] [M21] (s7_27 x0 x1 x2 x3 x4 x5 x6) = i7_j27 m rec21 x0 x1 x2 x3 x4 x5 x6 := by
  have h : ∀ J, e7 J m [1, 1, 1, 1, 1, 1, 1, 1, 1, 1, 0, 1, 0, 1, 1, 0, 0, 1, 1, 1] [M21] (s7_27 x0 x1 x2 x3 x4 x5 x6) =
    (J 1 32 M21 (s7_21 x0 x1 (IntKind.wrap .i64 (x2 + 1)) x3 x4 x5 x6) (l7 J m [1, 1, 1, 1, 1, 1, 1, 1, 1, 1, 0, 1, 0, 1, 1, 0] [] M21 (s7_21 x0 x1 (IntKind.wrap .i64 (x2 + 1)) x3 x4 x5 x6))) := fun J => by kernel_rfl
  exact (h jn).trans (by
    simp only [jn_eq, h21]
    rfl)
theorem i7_l24_eq (m : Nat) (M21 : Nat) (rec21 : List Dt → Int → Int → List Dt → List Dt → Dt → List Dt → Option (List Dt × List Dt)) (h21 : ∀ (x0 : List Dt) (x1 x2 : Int) (x3 x4 : List Dt) (x5 : Dt) (x6 : List Dt), l7 jn m [1, 1, 1, 1, 1, 1, 1, 1, 1, 1, 0, 1, 0, 1, 1, 0] [] M21 (s7_21 x0 x1 x2 x3 x4 x5 x6) = rec21 x0 x1 x2 x3 x4 x5 x6) : ∀ (M24 : Nat) (x0 : List Dt) (x1 x2 : Int) (x3 : List Dt) (x4 x5 : Int) (x6 x7 : List Dt) (x8 : Dt) (x9 : List Dt) (x10 : Dt), l7 jn m [1, 1, 1, 1, 1, 1, 1, 1, 1, 1, 0, 1, 0, 1, 1, 0, 0, 1, 1, 0, 0, 1, 1, 0] [M21] M24 (s7_24 x0 x1 x2 x3 x4 x5 x6 x7 x8 x9 x10) = i7_l24 m rec21 M24 x0 x1 x2 x3 x4 x5 x6 x7 x8 x9 x10
  | 0, _, _, _, _, _, _, _, _, _, _, _ => rfl
  | M24 + 1, x0, x1, x2, x3, x4, x5, x6, x7, x8, x9, x10 => by
    have h : ∀ J, l7 J m [1, 1, 1, 1, 1, 1, 1, 1, 1, 1, 0, 1, 0, 1, 1, 0, 0, 1, 1, 0, 0, 1, 1, 0] [M21] (M24 + 1) (s7_24 x0 x1 x2 x3 x4 x5 x6 x7 x8 x9 x10) =
    (bif (decide (x5 < x4)) then
   (J 0 36 0 (s7_25 x0 x1 x2 x3 x4 x5 x6 x7 x8 x9 x10) (e7 J m [1, 1, 1, 1, 1, 1, 1, 1, 1, 1, 0, 1, 0, 1, 1, 0, 0, 1, 1, 0, 0, 1, 1, 0, 0, 1, 1] [M21, M24] (s7_25 x0 x1 x2 x3 x4 x5 x6 x7 x8 x9 x10)))
    else
   (J 0 39 0 (s7_27 x0 x1 x2 x6 x7 x8 x9) (e7 J m [1, 1, 1, 1, 1, 1, 1, 1, 1, 1, 0, 1, 0, 1, 1, 0, 0, 1, 1, 1] [M21] (s7_27 x0 x1 x2 x6 x7 x8 x9)))) := fun J => by kernel_rfl
    refine (h jn).trans ?_
    simp only [jn_eq, i7_j25_eq m M21 rec21 h21 M24 (i7_l24 m rec21 M24) (fun x0 x1 x2 x3 x4 x5 x6 x7 x8 x9 x10 => i7_l24_eq m M21 rec21 h21 M24 x0 x1 x2 x3 x4 x5 x6 x7 x8 x9 x10), i7_j27_eq m M21 rec21 h21]
    rfl
theorem i7_j23_eq (m : Nat) (M21 : Nat) (rec21 : List Dt → Int → Int → List Dt → List Dt → Dt → List Dt → Option (List Dt × List Dt)) (h21 : ∀ (x0 : List Dt) (x1 x2 : Int) (x3 x4 : List Dt) (x5 : Dt) (x6 : List Dt), l7 jn m [1, 1, 1, 1, 1, 1, 1, 1, 1, 1, 0, 1, 0, 1, 1, 0] [] M21 (s7_21 x0 x1 x2 x3 x4 x5 x6) = rec21 x0 x1 x2 x3 x4 x5 x6) (x0 : List Dt) (x1 x2 : Int) (x3 : List Dt) (x4 x5 : Int) (x6 x7 : List Dt) (x8 : Dt) (x9 : List Dt) (x10 : Dt) : e7 jn m [1, 1, 1, 1, 1, 1, 1, 1, 1, 1, 0, 1, 0, 1, 1, 0, 0, 1, 1, 0, 0, 1, 1] [M21] (s7_23 x0 x1 x2 x3 x4 x5 x6 x7 x8 x9 x10) = i7_j23 m rec21 x0 x1 x2 x3 x4 x5 x6 x7 x8 x9 x10 := by
  have h : ∀ J, e7 J m [1, 1, 1, 1, 1, 1, 1, 1, 1, 1, 0, 1, 0, 1, 1, 0, 0, 1, 1, 0, 0, 1, 1] [M21] (s7_23 x0 x1 x2 x3 x4 x5 x6 x7 x8 x9 x10) =
    (J 1 35 (Nat.succ m) (s7_24 x0 x1 x2 x3 x4 x5 x6 x7 x8 x9 x10) (l7 J m [1, 1, 1, 1, 1, 1, 1, 1, 1, 1, 0, 1, 0, 1, 1, 0, 0, 1, 1, 0, 0, 1, 1, 0] [M21] (Nat.succ m) (s7_24 x0 x1 x2 x3 x4 x5 x6 x7 x8 x9 x10))) := fun J => by kernel_rfl
  exact (h jn).trans (by
    simp only [jn_eq, i7_l24_eq m M21 rec21 h21]
    rfl)
theorem i7_j22_eq (m : Nat) (M21 : Nat) (rec21 : List Dt → Int → Int → List Dt → List Dt → Dt → List Dt → Option (List Dt × List Dt)) (h21 : ∀ (x0 : List Dt) (x1 x2 : Int) (x3 x4 : List Dt) (x5 : Dt) (x6 : List Dt), l7 jn m [1, 1, 1, 1, 1, 1, 1, 1, 1, 1, 0, 1, 0, 1, 1, 0] [] M21 (s7_21 x0 x1 x2 x3 x4 x5 x6) = rec21 x0 x1 x2 x3 x4 x5 x6) (x0 : List Dt) (x1 x2 : Int) (x3 x4 : List Dt) (x5 : Dt) (x6 : List Dt) : e7 jn m [1, 1, 1, 1, 1, 1, 1, 1, 1, 1, 0, 1, 0, 1, 1, 0, 0, 1, 1] [M21] (s7_22 x0 x1 x2 x3 x4 x5 x6) = i7_j22 m rec21 x0 x1 x2 x3 x4 x5 x6 := by
  have h : ∀ J, e7 J m [1, 1, 1, 1, 1, 1, 1, 1, 1, 1, 0, 1, 0, 1, 1, 0, 0, 1, 1] [M21] (s7_22 x0 x1 x2 x3 x4 x5 x6) =
    ((idx x0 x2).bind fun v23 =>
   (J 0 35 0 (s7_23 x0 x1 x2 (Dt.L x5 3) (List.length (Dt.L x5 3) : Int) 0 x3 x4 x5 x6 v23) (e7 J m [1, 1, 1, 1, 1, 1, 1, 1, 1, 1, 0, 1, 0, 1, 1, 0, 0, 1, 1, 0, 0, 1, 1] [M21] (s7_23 x0 x1 x2 (Dt.L x5 3) (List.length (Dt.L x5 3) : Int) 0 x3 x4 x5 x6 v23)))) := fun J => by kernel_rfl
  exact (h jn).trans (by
    simp only [jn_eq, i7_j23_eq m M21 rec21 h21]
    rfl)
theorem i7_j28_eq (m : Nat) (x0 x1 : List Dt) : e7 jn m [1, 1, 1, 1, 1, 1, 1, 1, 1, 1, 1] [] (s7_28 x0 x1) = i7_j28 m x0 x1 := by
  have h : ∀ J, e7 J m [1, 1, 1, 1, 1, 1, 1, 1, 1, 1, 1] [] (s7_28 x0 x1) =
    some (x0, x1) := fun J => by kernel_rfl
  exact (h jn).trans (rfl)
theorem i7_l21_eq (m : Nat) : ∀ (M21 : Nat) (x0 : List Dt) (x1 x2 : Int) (x3 x4 : List Dt) (x5 : Dt) (x6 : List Dt), l7 jn m [1, 1, 1, 1, 1, 1, 1, 1, 1, 1, 0, 1, 0, 1, 1, 0] [] M21 (s7_21 x0 x1 x2 x3 x4 x5 x6) = i7_l21 m M21 x0 x1 x2 x3 x4 x5 x6
  | 0, _, _, _, _, _, _, _ => rfl
  | M21 + 1, x0, x1, x2, x3, x4, x5, x6 => by
    have h : ∀ J, l7 J m [1, 1, 1, 1, 1, 1, 1, 1, 1, 1, 0, 1, 0, 1, 1, 0] [] (M21 + 1) (s7_21 x0 x1 x2 x3 x4 x5 x6) =
    (bif (decide (x2 < x1)) then
   (J 0 33 0 (s7_22 x0 x1 x2 x3 x4 x5 x6) (e7 J m [1, 1, 1, 1, 1, 1, 1, 1, 1, 1, 0, 1, 0, 1, 1, 0, 0, 1, 1] [M21] (s7_22 x0 x1 x2 x3 x4 x5 x6)))
    else
   (J 0 40 0 (s7_28 x3 x4) (e7 J m [1, 1, 1, 1, 1, 1, 1, 1, 1, 1, 1] [] (s7_28 x3 x4)))) := fun J => by kernel_rfl
    refine (h jn).trans ?_
    simp only [jn_eq, i7_j22_eq m M21 (i7_l21 m M21) (fun x0 x1 x2 x3 x4 x5 x6 => i7_l21_eq m M21 x0 x1 x2 x3 x4 x5 x6), i7_j28_eq m]
    rfl
theorem i7_j20_eq (m : Nat) (x0 : List Dt) (x1 x2 : Int) (x3 x4 : List Dt) (x5 : Dt) (x6 : List Dt) : e7 jn m [1, 1, 1, 1, 1, 1, 1, 1, 1, 1, 0, 1, 0, 1, 1] [] (s7_20 x0 x1 x2 x3 x4 x5 x6) = i7_j20 m x0 x1 x2 x3 x4 x5 x6 := by
  have h : ∀ J, e7 J m [1, 1, 1, 1, 1, 1, 1, 1, 1, 1, 0, 1, 0, 1, 1] [] (s7_20 x0 x1 x2 x3 x4 x5 x6) =
    (J 1 32 (Nat.succ m) (s7_21 x0 x1 x2 x3 x4 x5 x6) (l7 J m [1, 1, 1, 1, 1, 1, 1, 1, 1, 1, 0, 1, 0, 1, 1, 0] [] (Nat.succ m) (s7_21 x0 x1 x2 x3 x4 x5 x6))) := fun J => by kernel_rfl
  exact (h jn).trans (by
    simp only [jn_eq, i7_l21_eq m]
    rfl)
theorem i7_j19_eq (m : Nat) (x0 x1 : List Dt) (x2 x3 : Dt) (x4 : List Dt) : e7 jn m [1, 1, 1, 1, 1, 1, 1, 1, 1, 1, 0, 1, 0, 1] [] (s7_19 x0 x1 x2 x3 x4) = i7_j19 m x0 x1 x2 x3 x4 := by
  have h : ∀ J, e7 J m [1, 1, 1, 1, 1, 1, 1, 1, 1, 1, 0, 1, 0, 1] [] (s7_19 x0 x1 x2 x3 x4) =
    (J 0 32 0 (s7_20 (Dt.L x2 11) (List.length (Dt.L x2 11) : Int) 0 x0 x1 x3 x4) (e7 J m [1, 1, 1, 1, 1, 1, 1, 1, 1, 1, 0, 1, 0, 1, 1] [] (s7_20 (Dt.L x2 11) (List.length (Dt.L x2 11) : Int) 0 x0 x1 x3 x4))) := fun J => by kernel_rfl
  exact (h jn).trans (by
    simp only [jn_eq, i7_j20_eq m]
    rfl)
theorem i7_j18_eq (m : Nat) (x0 x1 : List Dt) (x2 x3 : Dt) (x4 : List Dt) : e7 jn m [1, 1, 1, 1, 1, 1, 1, 1, 1, 1] [] (s7_18 x0 x1 x2 x3 x4) = i7_j18 m x0 x1 x2 x3 x4 := by
  have h : ∀ J, e7 J m [1, 1, 1, 1, 1, 1, 1, 1, 1, 1] [] (s7_18 x0 x1 x2 x3 x4) =
    (bif ((Dt.I x3 0) == 6) then
   (bif (Dt.B x2 12) then
   ((schema_repeats m (Dt.L x3 3)).bind fun r21 =>
   ((i15 m r21 8 [] x1 x4).bind fun r22 =>
   (J 0 31 0 (s7_19 x0 r22.2 x2 x3 r22.1) (e7 J m [1, 1, 1, 1, 1, 1, 1, 1, 1, 1, 0, 1, 0, 1] [] (s7_19 x0 r22.2 x2 x3 r22.1)))))
   else
   ((i15 m false 8 [] x1 x4).bind fun r28 =>
   (J 0 31 0 (s7_19 x0 r28.2 x2 x3 r28.1) (e7 J m [1, 1, 1, 1, 1, 1, 1, 1, 1, 1, 0, 1, 0, 1] [] (s7_19 x0 r28.2 x2 x3 r28.1)))))
    else
   (J 0 40 0 (s7_28 x0 x1) (e7 J m [1, 1, 1, 1, 1, 1, 1, 1, 1, 1, 1] [] (s7_28 x0 x1)))) := fun J => by kernel_rfl
  exact (h jn).trans (by
    simp only [jn_eq, i7_j19_eq m, i7_j28_eq m]
    rfl)
theorem i7_l15_eq (m : Nat) : ∀ (M15 : Nat) (x0 : List Dt) (x1 x2 : Int) (x3 x4 : List Dt) (x5 x6 : Dt) (x7 : List Dt), l7 jn m [1, 1, 1, 1, 1, 1, 1, 1, 1, 0, 1, 0, 1, 1, 1, 0] [] M15 (s7_15 x0 x1 x2 x3 x4 x5 x6 x7) = i7_l15 m M15 x0 x1 x2 x3 x4 x5 x6 x7
  | 0, _, _, _, _, _, _, _, _ => rfl
  | M15 + 1, x0, x1, x2, x3, x4, x5, x6, x7 => by
    have h : ∀ J, l7 J m [1, 1, 1, 1, 1, 1, 1, 1, 1, 0, 1, 0, 1, 1, 1, 0] [] (M15 + 1) (s7_15 x0 x1 x2 x3 x4 x5 x6 x7) =
    (bif (decide (x2 < x1)) then
   (J 0 24 0 (s7_16 x0 x1 x2 x3 x4 x5 x6 x7) (e7 J m [1, 1, 1, 1, 1, 1, 1, 1, 1, 0, 1, 0, 1, 1, 1, 0, 0, 1, 1] [M15] (s7_16 x0 x1 x2 x3 x4 x5 x6 x7)))
    else
   (J 0 29 0 (s7_18 x3 x4 x5 x6 x7) (e7 J m [1, 1, 1, 1, 1, 1, 1, 1, 1, 1] [] (s7_18 x3 x4 x5 x6 x7)))) := fun J => by kernel_rfl
    refine (h jn).trans ?_
    simp only [jn_eq, i7_j16_eq m M15 (i7_l15 m M15) (fun x0 x1 x2 x3 x4 x5 x6 x7 => i7_l15_eq m M15 x0 x1 x2 x3 x4 x5 x6 x7), i7_j18_eq m]
    rfl
theorem i7_j14_eq (m : Nat) (x0 : List Dt) (x1 x2 : Int) (x3 x4 : List Dt) (x5 x6 : Dt) (x7 : List Dt) : e7 jn m [1, 1, 1, 1, 1, 1, 1, 1, 1, 0, 1, 0, 1, 1, 1] [] (s7_14 x0 x1 x2 x3 x4 x5 x6 x7) = i7_j14 m x0 x1 x2 x3 x4 x5 x6 x7 := by
  have h : ∀ J, e7 J m [1, 1, 1, 1, 1, 1, 1, 1, 1, 0, 1, 0, 1, 1, 1] [] (s7_14 x0 x1 x2 x3 x4 x5 x6 x7) =
    (J 1 23 (Nat.succ m) (s7_15 x0 x1 x2 x3 x4 x5 x6 x7) (l7 J m [1, 1, 1, 1, 1, 1, 1, 1, 1, 0, 1, 0, 1, 1, 1, 0] [] (Nat.succ m) (s7_15 x0 x1 x2 x3 x4 x5 x6 x7))) := fun J => by kernel_rfl
  exact (h jn).trans (by
    simp only [jn_eq, i7_l15_eq m]
    rfl)
theorem i7_j13_eq (m : Nat) (x0 x1 : List Dt) (x2 x3 : Dt) (x4 : List Dt) : e7 jn m [1, 1, 1, 1, 1, 1, 1, 1, 1, 0, 1, 0, 1, 1] [] (s7_13 x0 x1 x2 x3 x4) = i7_j13 m x0 x1 x2 x3 x4 := by
  have h : ∀ J, e7 J m [1, 1, 1, 1, 1, 1, 1, 1, 1, 0, 1, 0, 1, 1] [] (s7_13 x0 x1 x2 x3 x4) =
    (J 0 23 0 (s7_14 (Dt.L x2 9) (List.length (Dt.L x2 9) : Int) 0 x0 x1 x2 x3 x4) (e7 J m [1, 1, 1, 1, 1, 1, 1, 1, 1, 0, 1, 0, 1, 1, 1] [] (s7_14 (Dt.L x2 9) (List.length (Dt.L x2 9) : Int) 0 x0 x1 x2 x3 x4))) := fun J => by kernel_rfl
  exact (h jn).trans (by
    simp only [jn_eq, i7_j14_eq m]
    rfl)
theorem i7_l10_eq (m : Nat) : ∀ (M10 : Nat) (x0 : List Dt) (x1 x2 : Int) (x3 x4 : List Dt) (x5 x6 : Dt) (x7 : List Dt), l7 jn m [1, 1, 1, 1, 1, 1, 1, 1, 1, 0, 1, 0, 1, 0, 1, 0] [] M10 (s7_10 x0 x1 x2 x3 x4 x5 x6 x7) = i7_l10 m M10 x0 x1 x2 x3 x4 x5 x6 x7
  | 0, _, _, _, _, _, _, _, _ => rfl
  | M10 + 1, x0, x1, x2, x3, x4, x5, x6, x7 => by
    have h : ∀ J, l7 J m [1, 1, 1, 1, 1, 1, 1, 1, 1, 0, 1, 0, 1, 0, 1, 0] [] (M10 + 1) (s7_10 x0 x1 x2 x3 x4 x5 x6 x7) =
    (bif (decide (x2 < x1)) then
   (J 0 18 0 (s7_11 x0 x1 x2 x3 x4 x5 x6 x7) (e7 J m [1, 1, 1, 1, 1, 1, 1, 1, 1, 0, 1, 0, 1, 0, 1, 0, 0, 1, 1] [M10] (s7_11 x0 x1 x2 x3 x4 x5 x6 x7)))
    else
   (J 0 22 0 (s7_13 x3 x4 x5 x6 x7) (e7 J m [1, 1, 1, 1, 1, 1, 1, 1, 1, 0, 1, 0, 1, 1] [] (s7_13 x3 x4 x5 x6 x7)))) := fun J => by kernel_rfl
    refine (h jn).trans ?_
    simp only [jn_eq, i7_j11_eq m M10 (i7_l10 m M10) (fun x0 x1 x2 x3 x4 x5 x6 x7 => i7_l10_eq m M10 x0 x1 x2 x3 x4 x5 x6 x7), i7_j13_eq m]
    rfl
theorem i7_j9_eq (m : Nat) (x0 : List Dt) (x1 x2 : Int) (x3 x4 : List Dt) (x5 x6 : Dt) (x7 : List Dt) : e7 jn m [1, 1, 1, 1, 1, 1, 1, 1, 1, 0, 1, 0, 1, 0, 1] [] (s7_9 x0 x1 x2 x3 x4 x5 x6 x7) = i7_j9 m x0 x1 x2 x3 x4 x5 x6 x7 := by
  have h : ∀ J, e7 J m [1, 1, 1, 1, 1, 1, 1, 1, 1, 0, 1, 0, 1, 0, 1] [] (s7_9 x0 x1 x2 x3 x4 x5 x6 x7) =
    (J 1 17 (Nat.succ m) (s7_10 x0 x1 x2 x3 x4 x5 x6 x7) (l7 J m [1, 1, 1, 1, 1, 1, 1, 1, 1, 0, 1, 0, 1, 0, 1, 0] [] (Nat.succ m) (s7_10 x0 x1 x2 x3 x4 x5 x6 x7))) := fun J => by kernel_rfl
  exact (h jn).trans (by
    simp only [jn_eq, i7_l10_eq m]
    rfl)
theorem i7_j8_eq (m : Nat) (x0 x1 : List Dt) (x2 x3 : Dt) (x4 : List Dt) : e7 jn m [1, 1, 1, 1, 1, 1, 1, 1, 1, 0, 1, 0, 1] [] (s7_8 x0 x1 x2 x3 x4) = i7_j8 m x0 x1 x2 x3 x4 := by
  have h : ∀ J, e7 J m [1, 1, 1, 1, 1, 1, 1, 1, 1, 0, 1, 0, 1] [] (s7_8 x0 x1 x2 x3 x4) =
    (J 0 17 0 (s7_9 (Dt.L x3 4) (List.length (Dt.L x3 4) : Int) 0 x0 x1 x2 x3 x4) (e7 J m [1, 1, 1, 1, 1, 1, 1, 1, 1, 0, 1, 0, 1, 0, 1] [] (s7_9 (Dt.L x3 4) (List.length (Dt.L x3 4) : Int) 0 x0 x1 x2 x3 x4))) := fun J => by kernel_rfl
  exact (h jn).trans (by
    simp only [jn_eq, i7_j9_eq m]
    rfl)
theorem i7_l5_eq (m : Nat) : ∀ (M5 : Nat) (x0 : List Dt) (x1 x2 : Int) (x3 x4 : List Dt) (x5 x6 : Dt) (x7 : List Dt), l7 jn m [1, 1, 1, 1, 1, 1, 1, 1, 1, 0, 1, 0, 0, 1, 0] [] M5 (s7_5 x0 x1 x2 x3 x4 x5 x6 x7) = i7_l5 m M5 x0 x1 x2 x3 x4 x5 x6 x7
  | 0, _, _, _, _, _, _, _, _ => rfl
  | M5 + 1, x0, x1, x2, x3, x4, x5, x6, x7 => by
    have h : ∀ J, l7 J m [1, 1, 1, 1, 1, 1, 1, 1, 1, 0, 1, 0, 0, 1, 0] [] (M5 + 1) (s7_5 x0 x1 x2 x3 x4 x5 x6 x7) =
    (bif (decide (x2 < x1)) then
   (J 0 12 0 (s7_6 x0 x1 x2 x3 x4 x5 x6 x7) (e7 J m [1, 1, 1, 1, 1, 1, 1, 1, 1, 0, 1, 0, 0, 1, 0, 0, 1, 1] [M5] (s7_6 x0 x1 x2 x3 x4 x5 x6 x7)))
    else
   (J 0 16 0 (s7_8 x3 x4 x5 x6 x7) (e7 J m [1, 1, 1, 1, 1, 1, 1, 1, 1, 0, 1, 0, 1] [] (s7_8 x3 x4 x5 x6 x7)))) := fun J => by kernel_rfl
    refine (h jn).trans ?_
    simp only [jn_eq, i7_j6_eq m M5 (i7_l5 m M5) (fun x0 x1 x2 x3 x4 x5 x6 x7 => i7_l5_eq m M5 x0 x1 x2 x3 x4 x5 x6 x7), i7_j8_eq m]
    rfl
theorem i7_j4_eq (m : Nat) (x0 : List Dt) (x1 x2 : Int) (x3 x4 : List Dt) (x5 x6 : Dt) (x7 : List Dt) : e7 jn m [1, 1, 1, 1, 1, 1, 1, 1, 1, 0, 1, 0, 0, 1] [] (s7_4 x0 x1 x2 x3 x4 x5 x6 x7) = i7_j4 m x0 x1 x2 x3 x4 x5 x6 x7 := by
  have h : ∀ J, e7 J m [1, 1, 1, 1, 1, 1, 1, 1, 1, 0, 1, 0, 0, 1] [] (s7_4 x0 x1 x2 x3 x4 x5 x6 x7) =
    (J 1 11 (Nat.succ m) (s7_5 x0 x1 x2 x3 x4 x5 x6 x7) (l7 J m [1, 1, 1, 1, 1, 1, 1, 1, 1, 0, 1, 0, 0, 1, 0] [] (Nat.succ m) (s7_5 x0 x1 x2 x3 x4 x5 x6 x7))) := fun J => by kernel_rfl
  exact (h jn).trans (by
    simp only [jn_eq, i7_l5_eq m]
    rfl)
theorem i7_j3_eq (m : Nat) (x0 x1 : List Dt) (x2 x3 : Dt) (x4 : List Dt) : e7 jn m [1, 1, 1, 1, 1, 1, 1, 1, 1] [] (s7_3 x0 x1 x2 x3 x4) = i7_j3 m x0 x1 x2 x3 x4 := by
  have h : ∀ J, e7 J m [1, 1, 1, 1, 1, 1, 1, 1, 1] [] (s7_3 x0 x1 x2 x3 x4) =
    (bif ((Dt.I x3 0) == 5) then
   (J 0 11 0 (s7_4 (Dt.L x2 8) (List.length (Dt.L x2 8) : Int) 0 x0 x1 x2 x3 x4) (e7 J m [1, 1, 1, 1, 1, 1, 1, 1, 1, 0, 1, 0, 0, 1] [] (s7_4 (Dt.L x2 8) (List.length (Dt.L x2 8) : Int) 0 x0 x1 x2 x3 x4)))
    else
   (J 0 29 0 (s7_18 x0 x1 x2 x3 x4) (e7 J m [1, 1, 1, 1, 1, 1, 1, 1, 1, 1] [] (s7_18 x0 x1 x2 x3 x4)))) := fun J => by kernel_rfl
  exact (h jn).trans (by
    simp only [jn_eq, i7_j4_eq m, i7_j18_eq m]
    rfl)
theorem i7_j2_eq (m : Nat) (x0 x1 : List Dt) (x2 x3 : Dt) (x4 : List Dt) : e7 jn m [1, 1, 1, 1, 1, 1, 1] [] (s7_2 x0 x1 x2 x3 x4) = i7_j2 m x0 x1 x2 x3 x4 := by
  have h : ∀ J, e7 J m [1, 1, 1, 1, 1, 1, 1] [] (s7_2 x0 x1 x2 x3 x4) =
    ((schema_length m x3).bind fun r8 =>
   (bif r8.2 then
   (bif (decide (r8.1 < (Dt.I x2 6))) then
   ((i15 m true 5 [] x1 x4).bind fun r9 =>
   (J 0 9 0 (s7_3 x0 r9.2 x2 x3 r9.1) (e7 J m [1, 1, 1, 1, 1, 1, 1, 1, 1] [] (s7_3 x0 r9.2 x2 x3 r9.1))))
   else
   (bif (decide (0 ≤ (Dt.I x2 7))) then
   ((i15 m (decide ((Dt.I x2 7) < r8.1)) 5 [] x1 x4).bind fun r29 =>
   (J 0 9 0 (s7_3 x0 r29.2 x2 x3 r29.1) (e7 J m [1, 1, 1, 1, 1, 1, 1, 1, 1] [] (s7_3 x0 r29.2 x2 x3 r29.1))))
   else
   ((i15 m false 5 [] x1 x4).bind fun r30 =>
   (J 0 9 0 (s7_3 x0 r30.2 x2 x3 r30.1) (e7 J m [1, 1, 1, 1, 1, 1, 1, 1, 1] [] (s7_3 x0 r30.2 x2 x3 r30.1))))))
   else
   ((i15 m false 5 [] x1 x4).bind fun r31 =>
   (J 0 9 0 (s7_3 x0 r31.2 x2 x3 r31.1) (e7 J m [1, 1, 1, 1, 1, 1, 1, 1, 1] [] (s7_3 x0 r31.2 x2 x3 r31.1)))))) := fun J => by kernel_rfl
  exact (h jn).trans (by
    simp only [jn_eq, i7_j3_eq m]
    rfl)
theorem i7_j1_eq (m : Nat) (x0 x1 : List Dt) (x2 x3 : Dt) (x4 : List Dt) : e7 jn m [1, 1, 1, 1, 1, 1] [] (s7_1 x0 x1 x2 x3 x4) = i7_j1 m x0 x1 x2 x3 x4 := by
  have h : ∀ J, e7 J m [1, 1, 1, 1, 1, 1] [] (s7_1 x0 x1 x2 x3 x4) =
    (bif (Dt.B x2 3) then
   ((value_Compare m x3 (Dt.fld x2 4)).bind fun r6 =>
   ((i15 m (decide (0 < r6)) 4 [] x1 x4).bind fun r7 =>
   (J 0 7 0 (s7_2 x0 r7.2 x2 x3 r7.1) (e7 J m [1, 1, 1, 1, 1, 1, 1] [] (s7_2 x0 r7.2 x2 x3 r7.1)))))
    else
   ((i15 m false 4 [] x1 x4).bind fun r32 =>
   (J 0 7 0 (s7_2 x0 r32.2 x2 x3 r32.1) (e7 J m [1, 1, 1, 1, 1, 1, 1] [] (s7_2 x0 r32.2 x2 x3 r32.1))))) := fun J => by kernel_rfl
  exact (h jn).trans (by
    simp only [jn_eq, i7_j2_eq m]
    rfl)
theorem i7_j0_eq (m : Nat) (x0 x1 : List Dt) (x2 x3 : Dt) (x4 : List Dt) : e7 jn m [1, 1, 1, 1, 1] [] (s7_0 x0 x1 x2 x3 x4) = i7_j0 m x0 x1 x2 x3 x4 := by
  have h : ∀ J, e7 J m [1, 1, 1, 1, 1] [] (s7_0 x0 x1 x2 x3 x4) =
    (bif (Dt.B x2 1) then
   ((value_Compare m x3 (Dt.fld x2 2)).bind fun r4 =>
   ((i15 m (decide (r4 < 0)) 3 [] x1 x4).bind fun r5 =>
   (J 0 6 0 (s7_1 x0 r5.2 x2 x3 r5.1) (e7 J m [1, 1, 1, 1, 1, 1] [] (s7_1 x0 r5.2 x2 x3 r5.1)))))
    else
   ((i15 m false 3 [] x1 x4).bind fun r33 =>
   (J 0 6 0 (s7_1 x0 r33.2 x2 x3 r33.1) (e7 J m [1, 1, 1, 1, 1, 1] [] (s7_1 x0 r33.2 x2 x3 r33.1))))) := fun J => by kernel_rfl
  exact (h jn).trans (by
    simp only [jn_eq, i7_j1_eq m]
    rfl)
theorem i7_eq (m : Nat) (a0 a1 : Dt) (a2 a3 : List Dt) : e7 jn m [] [] ⟨[(.row 0), (.dat 30 a0), (.dat 25 a1), (.row 1)], [(.row 38 a2), (.row 26 a3)], 2⟩ = i7 (m + 1) a0 a1 a2 a3 := by
  have h : ∀ J, e7 J m [] [] ⟨[(.row 0), (.dat 30 a0), (.dat 25 a1), (.row 1)], [(.row 38 a2), (.row 26 a3)], 2⟩ =
    ((schema_hasKind m (Dt.I a0 0) (Dt.I a1 0)).bind fun r0 =>
   ((i9 m (Bool.not r0) 1 [] a2 a3).bind fun r1 =>
   (bif (decide (0 < (List.length (Dt.L a0 5) : Int))) then
   ((i11 m (Dt.L a0 5) a1).bind fun r2 =>
   ((i15 m (Bool.not r2) 2 [] r1.2.2 r1.1).bind fun r3 =>
   (J 0 5 0 (s7_0 r1.2.1 r3.2 a0 a1 r3.1) (e7 J m [1, 1, 1, 1, 1] [] (s7_0 r1.2.1 r3.2 a0 a1 r3.1)))))
   else
   ((i15 m false 2 [] r1.2.2 r1.1).bind fun r34 =>
   (J 0 5 0 (s7_0 r1.2.1 r34.2 a0 a1 r34.1) (e7 J m [1, 1, 1, 1, 1] [] (s7_0 r1.2.1 r34.2 a0 a1 r34.1))))))) := fun J => by kernel_rfl
  refine (h jn).trans ?_
  simp only [jn_eq, i7_j0_eq m]
  rfl
noncomputable def d45 (q : Res) : Option Int := match q with
  | (.dat T0 x0, []) => bif Nat.beq T0 3 then some x0.toInt else none
  | _ => none
theorem d45_sim {b : Res} {r : Int} (h : d45 b = some r) : Sim Tryd.prog b ((.dat 3 (.int r)), []) := by
  unfold d45 at h
  split at h
  · obtain ⟨hc, h2⟩ := bif_some h
    cases h2
    have e0 := beq_eq hc
    subst e0
    exact Sim.of (.of (.dat (.int Tryd.underlying3)) rfl rfl) .nil
  · cases h
noncomputable def e45 (J : Nat → Nat → Nat → St → Option Int → Option Int) (m : Nat) (p ms : List Nat) (σ : St) := evAt Tryd.prog env (ct m) J (m + 1) 72 14 Tryd.f72 d45 p ms σ
noncomputable def l45 (J : Nat → Nat → Nat → St → Option Int → Option Int) (m : Nat) (p ms : List Nat) (M : Nat) (σ : St) := loopAt Tryd.prog env (ct m) J (m + 1) 72 14 Tryd.f72 d45 p ms M σ
noncomputable def s45_0 (x0 : Dt) (x1 x2 : Int) : St := ⟨tsOf [(2, (.ptr 0 [] 0)), (3, (.ptr 1 [] 0)), (5, (.ptr 2 [] 0))], [(.box 25 (.dat 25 x0)), (.box 3 (.dat 3 (.int x1))), (.box 3 (.dat 3 (.int x2)))], 0⟩
theorem value_nodes_j0_eq (m : Nat) (x0 : Dt) (x1 x2 : Int) : e45 jn m [1, 1, 1] [] (s45_0 x0 x1 x2) = value_nodes_j0 m (i49 m) x0 x1 x2 := by
  have h : ∀ J, e45 J m [1, 1, 1] [] (s45_0 x0 x1 x2) =
    ((i49 m x0 x2 x1).bind fun r0 =>
   some r0.1) := fun J => by kernel_rfl
  exact (h jn).trans (rfl)
theorem value_nodes_eq (m : Nat) (a0 : Dt) (a1 : Int) : e45 jn m [] [] ⟨[(.dat 25 a0), (.dat 3 (.int a1))], [], 0⟩ = value_nodes (m + 1) a0 a1 := by
  have h : ∀ J, e45 J m [] [] ⟨[(.dat 25 a0), (.dat 3 (.int a1))], [], 0⟩ =
    (bif (1 == a1) then
   some 1
    else
   (J 0 4 0 (s45_0 a0 a1 1) (e45 J m [1, 1, 1] [] (s45_0 a0 a1 1)))) := fun J => by kernel_rfl
  refine (h jn).trans ?_
  simp only [jn_eq, value_nodes_j0_eq m]
  rfl
noncomputable def d49 (q : Res) : Option (Int × Int) := match q with
  | (.tup [], [.box T0 (.dat T1 x1), .box T2 (.dat T3 x3)]) => bif (Nat.beq T0 3 && (Nat.beq T1 3 && (Nat.beq T2 3 && Nat.beq T3 3))) then some (x1.toInt, x3.toInt) else none
  | _ => none
theorem d49_sim {b : Res} {r : Int × Int} (h : d49 b = some r) : Sim Tryd.prog b ((.tup []), [(.box 3 (.dat 3 (.int r.1))), (.box 3 (.dat 3 (.int r.2)))]) := by
  unfold d49 at h
  split at h
  · obtain ⟨hc, h2⟩ := bif_some h
    cases h2
    have e0 := beq_eq (and_l hc)
    have e1 := beq_eq (and_l (and_r hc))
    have e2 := beq_eq (and_l (and_r (and_r hc)))
    have e3 := beq_eq (and_r (and_r (and_r hc)))
    subst e0 e1 e2 e3
    exact Sim.of (.tup .nil) (.cons (.box (.dat (.int Tryd.underlying3))) (.cons (.box (.dat (.int Tryd.underlying3))) .nil))
  · cases h
noncomputable def e49 (J : Nat → Nat → Nat → St → Option (Int × Int) → Option (Int × Int)) (m : Nat) (p ms : List Nat) (σ : St) := evAt Tryd.prog env (ct m) J (m + 1) 85 39 Tryd.f85 d49 p ms σ
noncomputable def l49 (J : Nat → Nat → Nat → St → Option (Int × Int) → Option (Int × Int)) (m : Nat) (p ms : List Nat) (M : Nat) (σ : St) := loopAt Tryd.prog env (ct m) J (m + 1) 85 39 Tryd.f85 d49 p ms M σ
noncomputable def s49_3 (x0 : List Dt) (x1 x2 x3 x4 : Int) : St := ⟨tsOf [(1, (.fn 86 [(.ptr 0 [] 0), (.ptr 1 [] 0)])), (13, (.dat 22 (.lst x0))), (14, (.dat 3 (.int x1))), (15, (.dat 3 (.int x2)))], [(.box 3 (.dat 3 (.int x3))), (.box 3 (.dat 3 (.int x4)))], 2⟩
noncomputable def s49_2 (x0 : List Dt) (x1 x2 x3 x4 : Int) : St := ⟨tsOf [(1, (.fn 86 [(.ptr 0 [] 0), (.ptr 1 [] 0)])), (13, (.dat 22 (.lst x0))), (14, (.dat 3 (.int x1))), (15, (.dat 3 (.int x2)))], [(.box 3 (.dat 3 (.int x3))), (.box 3 (.dat 3 (.int x4)))], 2⟩
noncomputable def s49_1 (x0 : List Dt) (x1 x2 x3 x4 : Int) : St := ⟨tsOf [(1, (.fn 86 [(.ptr 0 [] 0), (.ptr 1 [] 0)])), (13, (.dat 22 (.lst x0))), (14, (.dat 3 (.int x1))), (15, (.dat 3 (.int x2)))], [(.box 3 (.dat 3 (.int x3))), (.box 3 (.dat 3 (.int x4)))], 2⟩
noncomputable def s49_0 (x0 : List Dt) (x1 x2 x3 x4 : Int) : St := ⟨tsOf [(1, (.fn 86 [(.ptr 0 [] 0), (.ptr 1 [] 0)])), (13, (.dat 22 (.lst x0))), (14, (.dat 3 (.int x1))), (15, (.dat 3 (.int x2)))], [(.box 3 (.dat 3 (.int x3))), (.box 3 (.dat 3 (.int x4)))], 2⟩
noncomputable def s49_7 (x0 : List Dt) (x1 x2 x3 x4 : Int) : St := ⟨tsOf [(1, (.fn 86 [(.ptr 0 [] 0), (.ptr 1 [] 0)])), (27, (.dat 23 (.lst x0))), (28, (.dat 3 (.int x1))), (29, (.dat 3 (.int x2)))], [(.box 3 (.dat 3 (.int x3))), (.box 3 (.dat 3 (.int x4)))], 2⟩
noncomputable def s49_6 (x0 : List Dt) (x1 x2 x3 x4 : Int) : St := ⟨tsOf [(1, (.fn 86 [(.ptr 0 [] 0), (.ptr 1 [] 0)])), (27, (.dat 23 (.lst x0))), (28, (.dat 3 (.int x1))), (29, (.dat 3 (.int x2)))], [(.box 3 (.dat 3 (.int x3))), (.box 3 (.dat 3 (.int x4)))], 2⟩
noncomputable def s49_5 (x0 : List Dt) (x1 x2 x3 x4 : Int) : St := ⟨tsOf [(1, (.fn 86 [(.ptr 0 [] 0), (.ptr 1 [] 0)])), (27, (.dat 23 (.lst x0))), (28, (.dat 3 (.int x1))), (29, (.dat 3 (.int x2)))], [(.box 3 (.dat 3 (.int x3))), (.box 3 (.dat 3 (.int x4)))], 2⟩
noncomputable def s49_4 (x0 : List Dt) (x1 x2 x3 x4 : Int) : St := ⟨tsOf [(1, (.fn 86 [(.ptr 0 [] 0), (.ptr 1 [] 0)])), (27, (.dat 23 (.lst x0))), (28, (.dat 3 (.int x1))), (29, (.dat 3 (.int x2)))], [(.box 3 (.dat 3 (.int x3))), (.box 3 (.dat 3 (.int x4)))], 2⟩
theorem i49_j3_eq (m : Nat) (M1 : Nat) (rec1 : List Dt → Int → Int → Int → Int → Option (Int × Int)) (h1 : ∀ (x0 : List Dt) (x1 x2 x3 x4 : Int), l49 jn m [1, 1, 0, 1, 0, 1, 0] [] M1 (s49_1 x0 x1 x2 x3 x4) = rec1 x0 x1 x2 x3 x4) (x0 : List Dt) (x1 x2 x3 x4 : Int) : e49 jn m [1, 1, 0, 1, 0, 1, 0, 0, 1, 1, 1] [M1] (s49_3 x0 x1 x2 x3 x4) = i49_j3 m (i50 m) rec1 x0 x1 x2 x3 x4 := by
  have h : ∀ J, e49 J m [1, 1, 0, 1, 0, 1, 0, 0, 1, 1, 1] [M1] (s49_3 x0 x1 x2 x3 x4) =
    (J 1 4 M1 (s49_1 x0 x1 (IntKind.wrap .i64 (x2 + 1)) x3 x4) (l49 J m [1, 1, 0, 1, 0, 1, 0] [] M1 (s49_1 x0 x1 (IntKind.wrap .i64 (x2 + 1)) x3 x4))) := fun J => by kernel_rfl
  exact (h jn).trans (by
    simp only [jn_eq, h1]
    rfl)
theorem i49_j2_eq (m : Nat) (M1 : Nat) (rec1 : List Dt → Int → Int → Int → Int → Option (Int × Int)) (h1 : ∀ (x0 : List Dt) (x1 x2 x3 x4 : Int), l49 jn m [1, 1, 0, 1, 0, 1, 0] [] M1 (s49_1 x0 x1 x2 x3 x4) = rec1 x0 x1 x2 x3 x4) (x0 : List Dt) (x1 x2 x3 x4 : Int) : e49 jn m [1, 1, 0, 1, 0, 1, 0, 0, 1, 1] [M1] (s49_2 x0 x1 x2 x3 x4) = i49_j2 m (i50 m) rec1 x0 x1 x2 x3 x4 := by
  have h : ∀ J, e49 J m [1, 1, 0, 1, 0, 1, 0, 0, 1, 1] [M1] (s49_2 x0 x1 x2 x3 x4) =
    ((idx x0 x2).bind fun v0 =>
   ((i50 m v0 x3 x4).bind fun r1 =>
   (bif (Bool.not r1.1) then
   some (r1.2.1, r1.2.2)
   else
   (J 0 7 0 (s49_3 x0 x1 x2 r1.2.1 r1.2.2) (e49 J m [1, 1, 0, 1, 0, 1, 0, 0, 1, 1, 1] [M1] (s49_3 x0 x1 x2 r1.2.1 r1.2.2)))))) := fun J => by kernel_rfl
  exact (h jn).trans (by
    simp only [jn_eq, i49_j3_eq m M1 rec1 h1]
    rfl)
theorem i49_l1_eq (m : Nat) : ∀ (M1 : Nat) (x0 : List Dt) (x1 x2 x3 x4 : Int), l49 jn m [1, 1, 0, 1, 0, 1, 0] [] M1 (s49_1 x0 x1 x2 x3 x4) = i49_l1 m (i50 m) M1 x0 x1 x2 x3 x4
  | 0, _, _, _, _, _ => rfl
  | M1 + 1, x0, x1, x2, x3, x4 => by
    have h : ∀ J, l49 J m [1, 1, 0, 1, 0, 1, 0] [] (M1 + 1) (s49_1 x0 x1 x2 x3 x4) =
    (bif (decide (x2 < x1)) then
   (J 0 5 0 (s49_2 x0 x1 x2 x3 x4) (e49 J m [1, 1, 0, 1, 0, 1, 0, 0, 1, 1] [M1] (s49_2 x0 x1 x2 x3 x4)))
    else
   some (x3, x4)) := fun J => by kernel_rfl
    refine (h jn).trans ?_
    simp only [jn_eq, i49_j2_eq m M1 (i49_l1 m (i50 m) M1) (fun x0 x1 x2 x3 x4 => i49_l1_eq m M1 x0 x1 x2 x3 x4)]
    rfl
theorem i49_j0_eq (m : Nat) (x0 : List Dt) (x1 x2 x3 x4 : Int) : e49 jn m [1, 1, 0, 1, 0, 1] [] (s49_0 x0 x1 x2 x3 x4) = i49_j0 m (i50 m) x0 x1 x2 x3 x4 := by
  have h : ∀ J, e49 J m [1, 1, 0, 1, 0, 1] [] (s49_0 x0 x1 x2 x3 x4) =
    (J 1 4 (Nat.succ m) (s49_1 x0 x1 x2 x3 x4) (l49 J m [1, 1, 0, 1, 0, 1, 0] [] (Nat.succ m) (s49_1 x0 x1 x2 x3 x4))) := fun J => by kernel_rfl
  exact (h jn).trans (by
    simp only [jn_eq, i49_l1_eq m]
    rfl)
theorem i49_j7_eq (m : Nat) (M5 : Nat) (rec5 : List Dt → Int → Int → Int → Int → Option (Int × Int)) (h5 : ∀ (x0 : List Dt) (x1 x2 x3 x4 : Int), l49 jn m [1, 1, 0, 1, 1, 1, 0, 1, 0] [] M5 (s49_5 x0 x1 x2 x3 x4) = rec5 x0 x1 x2 x3 x4) (x0 : List Dt) (x1 x2 x3 x4 : Int) : e49 jn m [1, 1, 0, 1, 1, 1, 0, 1, 0, 0, 1, 1, 1] [M5] (s49_7 x0 x1 x2 x3 x4) = i49_j7 m (i50 m) rec5 x0 x1 x2 x3 x4 := by
  have h : ∀ J, e49 J m [1, 1, 0, 1, 1, 1, 0, 1, 0, 0, 1, 1, 1] [M5] (s49_7 x0 x1 x2 x3 x4) =
    (J 1 10 M5 (s49_5 x0 x1 (IntKind.wrap .i64 (x2 + 1)) x3 x4) (l49 J m [1, 1, 0, 1, 1, 1, 0, 1, 0] [] M5 (s49_5 x0 x1 (IntKind.wrap .i64 (x2 + 1)) x3 x4))) := fun J => by kernel_rfl
  exact (h jn).trans (by
    simp only [jn_eq, h5]
    rfl)
theorem i49_j6_eq (m : Nat) (M5 : Nat) (rec5 : List Dt → Int → Int → Int → Int → Option (Int × Int)) (h5 : ∀ (x0 : List Dt) (x1 x2 x3 x4 : Int), l49 jn m [1, 1, 0, 1, 1, 1, 0, 1, 0] [] M5 (s49_5 x0 x1 x2 x3 x4) = rec5 x0 x1 x2 x3 x4) (x0 : List Dt) (x1 x2 x3 x4 : Int) : e49 jn m [1, 1, 0, 1, 1, 1, 0, 1, 0, 0, 1, 1] [M5] (s49_6 x0 x1 x2 x3 x4) = i49_j6 m (i50 m) rec5 x0 x1 x2 x3 x4 := by
  have h : ∀ J, e49 J m [1, 1, 0, 1, 1, 1, 0, 1, 0, 0, 1, 1] [M5] (s49_6 x0 x1 x2 x3 x4) =
    ((idx x0 x2).bind fun v2 =>
   ((i50 m (Dt.fld v2 1) x3 x4).bind fun r3 =>
   (bif (Bool.not r3.1) then
   some (r3.2.1, r3.2.2)
   else
   (J 0 13 0 (s49_7 x0 x1 x2 r3.2.1 r3.2.2) (e49 J m [1, 1, 0, 1, 1, 1, 0, 1, 0, 0, 1, 1, 1] [M5] (s49_7 x0 x1 x2 r3.2.1 r3.2.2)))))) := fun J => by kernel_rfl
  exact (h jn).trans (by
    simp only [jn_eq, i49_j7_eq m M5 rec5 h5]
    rfl)
theorem i49_l5_eq (m : Nat) : ∀ (M5 : Nat) (x0 : List Dt) (x1 x2 x3 x4 : Int), l49 jn m [1, 1, 0, 1, 1, 1, 0, 1, 0] [] M5 (s49_5 x0 x1 x2 x3 x4) = i49_l5 m (i50 m) M5 x0 x1 x2 x3 x4
  | 0, _, _, _, _, _ => rfl
  | M5 + 1, x0, x1, x2, x3, x4 => by
    have h : ∀ J, l49 J m [1, 1, 0, 1, 1, 1, 0, 1, 0] [] (M5 + 1) (s49_5 x0 x1 x2 x3 x4) =
    (bif (decide (x2 < x1)) then
   (J 0 11 0 (s49_6 x0 x1 x2 x3 x4) (e49 J m [1, 1, 0, 1, 1, 1, 0, 1, 0, 0, 1, 1] [M5] (s49_6 x0 x1 x2 x3 x4)))
    else
   some (x3, x4)) := fun J => by kernel_rfl
    refine (h jn).trans ?_
    simp only [jn_eq, i49_j6_eq m M5 (i49_l5 m (i50 m) M5) (fun x0 x1 x2 x3 x4 => i49_l5_eq m M5 x0 x1 x2 x3 x4)]
    rfl
theorem i49_j4_eq (m : Nat) (x0 : List Dt) (x1 x2 x3 x4 : Int) : e49 jn m [1, 1, 0, 1, 1, 1, 0, 1] [] (s49_4 x0 x1 x2 x3 x4) = i49_j4 m (i50 m) x0 x1 x2 x3 x4 := by
  have h : ∀ J, e49 J m [1, 1, 0, 1, 1, 1, 0, 1] [] (s49_4 x0 x1 x2 x3 x4) =
    (J 1 10 (Nat.succ m) (s49_5 x0 x1 x2 x3 x4) (l49 J m [1, 1, 0, 1, 1, 1, 0, 1, 0] [] (Nat.succ m) (s49_5 x0 x1 x2 x3 x4))) := fun J => by kernel_rfl
  exact (h jn).trans (by
    simp only [jn_eq, i49_l5_eq m]
    rfl)
theorem i49_eq (m : Nat) (a0 : Dt) (a1 a2 : Int) : e49 jn m [] [] ⟨[(.dat 25 a0), (.fn 86 [(.ptr 0 [] 0), (.ptr 1 [] 0)])], [(.box 3 (.dat 3 (.int a1))), (.box 3 (.dat 3 (.int a2)))], 2⟩ = i49 (m + 1) a0 a1 a2 := by
  have h : ∀ J, e49 J m [] [] ⟨[(.dat 25 a0), (.fn 86 [(.ptr 0 [] 0), (.ptr 1 [] 0)])], [(.box 3 (.dat 3 (.int a1))), (.box 3 (.dat 3 (.int a2)))], 2⟩ =
    (bif ((Dt.I a0 0) == 6) then
   (J 0 4 0 (s49_0 (Dt.L a0 3) (List.length (Dt.L a0 3) : Int) 0 a1 a2) (e49 J m [1, 1, 0, 1, 0, 1] [] (s49_0 (Dt.L a0 3) (List.length (Dt.L a0 3) : Int) 0 a1 a2)))
    else
   (bif ((Dt.I a0 0) == 5) then
   (J 0 10 0 (s49_4 (Dt.L a0 4) (List.length (Dt.L a0 4) : Int) 0 a1 a2) (e49 J m [1, 1, 0, 1, 1, 1, 0, 1] [] (s49_4 (Dt.L a0 4) (List.length (Dt.L a0 4) : Int) 0 a1 a2)))
   else
   some (a1, a2))) := fun J => by kernel_rfl
  refine (h jn).trans ?_
  simp only [jn_eq, i49_j0_eq m, i49_j4_eq m]
  rfl
noncomputable def d50 (q : Res) : Option (Bool × Int × Int) := match q with
  | (.dat T0 x0, [.box T1 (.dat T2 x2), .box T3 (.dat T4 x4)]) => bif (Nat.beq T0 4 && (Nat.beq T1 3 && (Nat.beq T2 3 && (Nat.beq T3 3 && Nat.beq T4 3)))) then some (x0.toBool, x2.toInt, x4.toInt) else none
  | _ => none
theorem d50_sim {b : Res} {r : Bool × Int × Int} (h : d50 b = some r) : Sim Tryd.prog b ((.dat 4 (.bool r.1)), [(.box 3 (.dat 3 (.int r.2.1))), (.box 3 (.dat 3 (.int r.2.2)))]) := by
  unfold d50 at h
  split at h
  · obtain ⟨hc, h2⟩ := bif_some h
    cases h2
    have e0 := beq_eq (and_l hc)
    have e1 := beq_eq (and_l (and_r hc))
    have e2 := beq_eq (and_l (and_r (and_r hc)))
    have e3 := beq_eq (and_l (and_r (and_r (and_r hc))))
    have e4 := beq_eq (and_r (and_r (and_r (and_r hc))))
    subst e0 e1 e2 e3 e4
    exact Sim.of (.of (.dat (.bool Tryd.underlying4)) rfl rfl) (.cons (.box (.dat (.int Tryd.underlying3))) (.cons (.box (.dat (.int Tryd.underlying3))) .nil))
  · cases h
noncomputable def e50 (J : Nat → Nat → Nat → St → Option (Bool × Int × Int) → Option (Bool × Int × Int)) (m : Nat) (p ms : List Nat) (σ : St) := evAt Tryd.prog env (ct m) J (m + 1) 86 15 Tryd.f86 d50 p ms σ
noncomputable def l50 (J : Nat → Nat → Nat → St → Option (Bool × Int × Int) → Option (Bool × Int × Int)) (m : Nat) (p ms : List Nat) (M : Nat) (σ : St) := loopAt Tryd.prog env (ct m) J (m + 1) 86 15 Tryd.f86 d50 p ms M σ
theorem i50_eq (m : Nat) (a0 : Dt) (a1 a2 : Int) : e50 jn m [] [] ⟨[(.dat 25 a0), (.ptr 0 [] 0), (.ptr 1 [] 0)], [(.box 3 (.dat 3 (.int a1))), (.box 3 (.dat 3 (.int a2)))], 2⟩ = i50 (m + 1) a0 a1 a2 := by
  have h : ∀ J, e50 J m [] [] ⟨[(.dat 25 a0), (.ptr 0 [] 0), (.ptr 1 [] 0)], [(.box 3 (.dat 3 (.int a1))), (.box 3 (.dat 3 (.int a2)))], 2⟩ =
    ((value_nodes m a0 (IntKind.wrap .i64 (a2 - a1))).bind fun r0 =>
   some ((decide ((IntKind.wrap .i64 (a1 + r0)) < a2)), (IntKind.wrap .i64 (a1 + r0)), a2)) := fun J => by kernel_rfl
  refine (h jn).trans ?_
  
  rfl
noncomputable def d42 (q : Res) : Option Int := match q with
  | (.dat T0 x0, []) => bif Nat.beq T0 3 then some x0.toInt else none
  | _ => none
theorem d42_sim {b : Res} {r : Int} (h : d42 b = some r) : Sim Tryd.prog b ((.dat 3 (.int r)), []) := by
  unfold d42 at h
  split at h
  · obtain ⟨hc, h2⟩ := bif_some h
    cases h2
    have e0 := beq_eq hc
    subst e0
    exact Sim.of (.of (.dat (.int Tryd.underlying3)) rfl rfl) .nil
  · cases h
noncomputable def e42 (J : Nat → Nat → Nat → St → Option Int → Option Int) (m : Nat) (p ms : List Nat) (σ : St) := evAt Tryd.prog env (ct m) J (m + 1) 51 5 Tryd.f51 d42 p ms σ
noncomputable def l42 (J : Nat → Nat → Nat → St → Option Int → Option Int) (m : Nat) (p ms : List Nat) (M : Nat) (σ : St) := loopAt Tryd.prog env (ct m) J (m + 1) 51 5 Tryd.f51 d42 p ms M σ
theorem value_Nodes_eq (m : Nat) (a0 : Dt) : e42 jn m [] [] ⟨[(.dat 25 a0)], [], 0⟩ = value_Nodes (m + 1) a0 := by
  have h : ∀ J, e42 J m [] [] ⟨[(.dat 25 a0)], [], 0⟩ =
    ((value_nodes m a0 1025).bind fun r0 =>
   some r0) := fun J => by kernel_rfl
  refine (h jn).trans ?_
  
  rfl
noncomputable def d46 (q : Res) : Option Int := match q with
  | (.dat T0 x0, []) => bif Nat.beq T0 3 then some x0.toInt else none
  | _ => none
theorem d46_sim {b : Res} {r : Int} (h : d46 b = some r) : Sim Tryd.prog b ((.dat 3 (.int r)), []) := by
  unfold d46 at h
  split at h
  · obtain ⟨hc, h2⟩ := bif_some h
    cases h2
    have e0 := beq_eq hc
    subst e0
    exact Sim.of (.of (.dat (.int Tryd.underlying3)) rfl rfl) .nil
  · cases h
noncomputable def e46 (J : Nat → Nat → Nat → St → Option Int → Option Int) (m : Nat) (p ms : List Nat) (σ : St) := evAt Tryd.prog env (ct m) J (m + 1) 73 13 Tryd.f73 d46 p ms σ
noncomputable def l46 (J : Nat → Nat → Nat → St → Option Int → Option Int) (m : Nat) (p ms : List Nat) (M : Nat) (σ : St) := loopAt Tryd.prog env (ct m) J (m + 1) 73 13 Tryd.f73 d46 p ms M σ
noncomputable def s46_0 (x0 : Dt) (x1 : Int) : St := ⟨tsOf [(2, (.ptr 0 [] 0)), (3, (.ptr 1 [] 0))], [(.box 25 (.dat 25 x0)), (.box 3 (.dat 3 (.int x1)))], 0⟩
theorem value_depth_j0_eq (m : Nat) (x0 : Dt) (x1 : Int) : e46 jn m [1, 1] [] (s46_0 x0 x1) = value_depth_j0 m (i51 m) x0 x1 := by
  have h : ∀ J, e46 J m [1, 1] [] (s46_0 x0 x1) =
    ((i51 m x0 0 x1).bind fun r0 =>
   some (IntKind.wrap .i64 (1 + r0.1))) := fun J => by kernel_rfl
  exact (h jn).trans (rfl)
theorem value_depth_eq (m : Nat) (a0 : Dt) (a1 : Int) : e46 jn m [] [] ⟨[(.dat 25 a0), (.dat 3 (.int a1))], [], 0⟩ = value_depth (m + 1) a0 a1 := by
  have h : ∀ J, e46 J m [] [] ⟨[(.dat 25 a0), (.dat 3 (.int a1))], [], 0⟩ =
    (bif (a1 == 1) then
   some 1
    else
   (J 0 3 0 (s46_0 a0 a1) (e46 J m [1, 1] [] (s46_0 a0 a1)))) := fun J => by kernel_rfl
  refine (h jn).trans ?_
  simp only [jn_eq, value_depth_j0_eq m]
  rfl
noncomputable def d51 (q : Res) : Option (Int × Int) := match q with
  | (.tup [], [.box T0 (.dat T1 x1), .box T2 (.dat T3 x3)]) => bif (Nat.beq T0 3 && (Nat.beq T1 3 && (Nat.beq T2 3 && Nat.beq T3 3))) then some (x1.toInt, x3.toInt) else none
  | _ => none
theorem d51_sim {b : Res} {r : Int × Int} (h : d51 b = some r) : Sim Tryd.prog b ((.tup []), [(.box 3 (.dat 3 (.int r.1))), (.box 3 (.dat 3 (.int r.2)))]) := by
  unfold d51 at h
  split at h
  · obtain ⟨hc, h2⟩ := bif_some h
    cases h2
    have e0 := beq_eq (and_l hc)
    have e1 := beq_eq (and_l (and_r hc))
    have e2 := beq_eq (and_l (and_r (and_r hc)))
    have e3 := beq_eq (and_r (and_r (and_r hc)))
    subst e0 e1 e2 e3
    exact Sim.of (.tup .nil) (.cons (.box (.dat (.int Tryd.underlying3))) (.cons (.box (.dat (.int Tryd.underlying3))) .nil))
  · cases h
noncomputable def e51 (J : Nat → Nat → Nat → St → Option (Int × Int) → Option (Int × Int)) (m : Nat) (p ms : List Nat) (σ : St) := evAt Tryd.prog env (ct m) J (m + 1) 85 39 Tryd.f85 d51 p ms σ
noncomputable def l51 (J : Nat → Nat → Nat → St → Option (Int × Int) → Option (Int × Int)) (m : Nat) (p ms : List Nat) (M : Nat) (σ : St) := loopAt Tryd.prog env (ct m) J (m + 1) 85 39 Tryd.f85 d51 p ms M σ
noncomputable def s51_3 (x0 : List Dt) (x1 x2 x3 x4 : Int) : St := ⟨tsOf [(1, (.fn 87 [(.ptr 0 [] 0), (.ptr 1 [] 0)])), (13, (.dat 22 (.lst x0))), (14, (.dat 3 (.int x1))), (15, (.dat 3 (.int x2)))], [(.box 3 (.dat 3 (.int x3))), (.box 3 (.dat 3 (.int x4)))], 2⟩
noncomputable def s51_2 (x0 : List Dt) (x1 x2 x3 x4 : Int) : St := ⟨tsOf [(1, (.fn 87 [(.ptr 0 [] 0), (.ptr 1 [] 0)])), (13, (.dat 22 (.lst x0))), (14, (.dat 3 (.int x1))), (15, (.dat 3 (.int x2)))], [(.box 3 (.dat 3 (.int x3))), (.box 3 (.dat 3 (.int x4)))], 2⟩
noncomputable def s51_1 (x0 : List Dt) (x1 x2 x3 x4 : Int) : St := ⟨tsOf [(1, (.fn 87 [(.ptr 0 [] 0), (.ptr 1 [] 0)])), (13, (.dat 22 (.lst x0))), (14, (.dat 3 (.int x1))), (15, (.dat 3 (.int x2)))], [(.box 3 (.dat 3 (.int x3))), (.box 3 (.dat 3 (.int x4)))], 2⟩
noncomputable def s51_0 (x0 : List Dt) (x1 x2 x3 x4 : Int) : St := ⟨tsOf [(1, (.fn 87 [(.ptr 0 [] 0), (.ptr 1 [] 0)])), (13, (.dat 22 (.lst x0))), (14, (.dat 3 (.int x1))), (15, (.dat 3 (.int x2)))], [(.box 3 (.dat 3 (.int x3))), (.box 3 (.dat 3 (.int x4)))], 2⟩
noncomputable def s51_7 (x0 : List Dt) (x1 x2 x3 x4 : Int) : St := ⟨tsOf [(1, (.fn 87 [(.ptr 0 [] 0), (.ptr 1 [] 0)])), (27, (.dat 23 (.lst x0))), (28, (.dat 3 (.int x1))), (29, (.dat 3 (.int x2)))], [(.box 3 (.dat 3 (.int x3))), (.box 3 (.dat 3 (.int x4)))], 2⟩
noncomputable def s51_6 (x0 : List Dt) (x1 x2 x3 x4 : Int) : St := ⟨tsOf [(1, (.fn 87 [(.ptr 0 [] 0), (.ptr 1 [] 0)])), (27, (.dat 23 (.lst x0))), (28, (.dat 3 (.int x1))), (29, (.dat 3 (.int x2)))], [(.box 3 (.dat 3 (.int x3))), (.box 3 (.dat 3 (.int x4)))], 2⟩
noncomputable def s51_5 (x0 : List Dt) (x1 x2 x3 x4 : Int) : St := ⟨tsOf [(1, (.fn 87 [(.ptr 0 [] 0), (.ptr 1 [] 0)])), (27, (.dat 23 (.lst x0))), (28, (.dat 3 (.int x1))), (29, (.dat 3 (.int x2)))], [(.box 3 (.dat 3 (.int x3))), (.box 3 (.dat 3 (.int x4)))], 2⟩
noncomputable def s51_4 (x0 : List Dt) (x1 x2 x3 x4 : Int) : St := ⟨tsOf [(1, (.fn 87 [(.ptr 0 [] 0), (.ptr 1 [] 0)])), (27, (.dat 23 (.lst x0))), (28, (.dat 3 (.int x1))), (29, (.dat 3 (.int x2)))], [(.box 3 (.dat 3 (.int x3))), (.box 3 (.dat 3 (.int x4)))], 2⟩
theorem i51_j3_eq (m : Nat) (M1 : Nat) (rec1 : List Dt → Int → Int → Int → Int → Option (Int × Int)) (h1 : ∀ (x0 : List Dt) (x1 x2 x3 x4 : Int), l51 jn m [1, 1, 0, 1, 0, 1, 0] [] M1 (s51_1 x0 x1 x2 x3 x4) = rec1 x0 x1 x2 x3 x4) (x0 : List Dt) (x1 x2 x3 x4 : Int) : e51 jn m [1, 1, 0, 1, 0, 1, 0, 0, 1, 1, 1] [M1] (s51_3 x0 x1 x2 x3 x4) = i51_j3 m (i52 m) rec1 x0 x1 x2 x3 x4 := by
  have h : ∀ J, e51 J m [1, 1, 0, 1, 0, 1, 0, 0, 1, 1, 1] [M1] (s51_3 x0 x1 x2 x3 x4) =
    (J 1 4 M1 (s51_1 x0 x1 (IntKind.wrap .i64 (x2 + 1)) x3 x4) (l51 J m [1, 1, 0, 1, 0, 1, 0] [] M1 (s51_1 x0 x1 (IntKind.wrap .i64 (x2 + 1)) x3 x4))) := fun J => by kernel_rfl
  exact (h jn).trans (by
    simp only [jn_eq, h1]
    rfl)
theorem i51_j2_eq (m : Nat) (M1 : Nat) (rec1 : List Dt → Int → Int → Int → Int → Option (Int × Int)) (h1 : ∀ (x0 : List Dt) (x1 x2 x3 x4 : Int), l51 jn m [1, 1, 0, 1, 0, 1, 0] [] M1 (s51_1 x0 x1 x2 x3 x4) = rec1 x0 x1 x2 x3 x4) (x0 : List Dt) (x1 x2 x3 x4 : Int) : e51 jn m [1, 1, 0, 1, 0, 1, 0, 0, 1, 1] [M1] (s51_2 x0 x1 x2 x3 x4) = i51_j2 m (i52 m) rec1 x0 x1 x2 x3 x4 := by
  have h : ∀ J, e51 J m [1, 1, 0, 1, 0, 1, 0, 0, 1, 1] [M1] (s51_2 x0 x1 x2 x3 x4) =
    ((idx x0 x2).bind fun v0 =>
   ((i52 m v0 x3 x4).bind fun r1 =>
   (bif (Bool.not r1.1) then
   some (r1.2.1, r1.2.2)
   else
   (J 0 7 0 (s51_3 x0 x1 x2 r1.2.1 r1.2.2) (e51 J m [1, 1, 0, 1, 0, 1, 0, 0, 1, 1, 1] [M1] (s51_3 x0 x1 x2 r1.2.1 r1.2.2)))))) := fun J => by kernel_rfl
  exact (h jn).trans (by
    simp only [jn_eq, i51_j3_eq m M1 rec1 h1]
    rfl)
theorem i51_l1_eq (m : Nat) : ∀ (M1 : Nat) (x0 : List Dt) (x1 x2 x3 x4 : Int), l51 jn m [1, 1, 0, 1, 0, 1, 0] [] M1 (s51_1 x0 x1 x2 x3 x4) = i51_l1 m (i52 m) M1 x0 x1 x2 x3 x4
  | 0, _, _, _, _, _ => rfl
  | M1 + 1, x0, x1, x2, x3, x4 => by
    have h : ∀ J, l51 J m [1, 1, 0, 1, 0, 1, 0] [] (M1 + 1) (s51_1 x0 x1 x2 x3 x4) =
    (bif (decide (x2 < x1)) then
   (J 0 5 0 (s51_2 x0 x1 x2 x3 x4) (e51 J m [1, 1, 0, 1, 0, 1, 0, 0, 1, 1] [M1] (s51_2 x0 x1 x2 x3 x4)))
    else
   some (x3, x4)) := fun J => by kernel_rfl
    refine (h jn).trans ?_
    simp only [jn_eq, i51_j2_eq m M1 (i51_l1 m (i52 m) M1) (fun x0 x1 x2 x3 x4 => i51_l1_eq m M1 x0 x1 x2 x3 x4)]
    rfl
theorem i51_j0_eq (m : Nat) (x0 : List Dt) (x1 x2 x3 x4 : Int) : e51 jn m [1, 1, 0, 1, 0, 1] [] (s51_0 x0 x1 x2 x3 x4) = i51_j0 m (i52 m) x0 x1 x2 x3 x4 := by
  have h : ∀ J, e51 J m [1, 1, 0, 1, 0, 1] [] (s51_0 x0 x1 x2 x3 x4) =
    (J 1 4 (Nat.succ m) (s51_1 x0 x1 x2 x3 x4) (l51 J m [1, 1, 0, 1, 0, 1, 0] [] (Nat.succ m) (s51_1 x0 x1 x2 x3 x4))) := fun J => by kernel_rfl
  exact (h jn).trans (by
    simp only [jn_eq, i51_l1_eq m]
    rfl)
theorem i51_j7_eq (m : Nat) (M5 : Nat) (rec5 : List Dt → Int → Int → Int → Int → Option (Int × Int)) (h5 : ∀ (x0 : List Dt) (x1 x2 x3 x4 : Int), l51 jn m [1, 1, 0, 1, 1, 1, 0, 1, 0] [] M5 (s51_5 x0 x1 x2 x3 x4) = rec5 x0 x1 x2 x3 x4) (x0 : List Dt) (x1 x2 x3 x4 : Int) : e51 jn m [1, 1, 0, 1, 1, 1, 0, 1, 0, 0, 1, 1, 1] [M5] (s51_7 x0 x1 x2 x3 x4) = i51_j7 m (i52 m) rec5 x0 x1 x2 x3 x4 := by
  have h : ∀ J, e51 J m [1, 1, 0, 1, 1, 1, 0, 1, 0, 0, 1, 1, 1] [M5] (s51_7 x0 x1 x2 x3 x4) =
    (J 1 10 M5 (s51_5 x0 x1 (IntKind.wrap .i64 (x2 + 1)) x3 x4) (l51 J m [1, 1, 0, 1, 1, 1, 0, 1, 0] [] M5 (s51_5 x0 x1 (IntKind.wrap .i64 (x2 + 1)) x3 x4))) := fun J => by kernel_rfl
  exact (h jn).trans (by
    simp only [jn_eq, h5]
    rfl)
theorem i51_j6_eq (m : Nat) (M5 : Nat) (rec5 : List Dt → Int → Int → Int → Int → Option (Int × Int)) (h5 : ∀ (x0 : List Dt) (x1 x2 x3 x4 : Int), l51 jn m [1, 1, 0, 1, 1, 1, 0, 1, 0] [] M5 (s51_5 x0 x1 x2 x3 x4) = rec5 x0 x1 x2 x3 x4) (x0 : List Dt) (x1 x2 x3 x4 : Int) : e51 jn m [1, 1, 0, 1, 1, 1, 0, 1, 0, 0, 1, 1] [M5] (s51_6 x0 x1 x2 x3 x4) = i51_j6 m (i52 m) rec5 x0 x1 x2 x3 x4 := by
  have h : ∀ J, e51 J m [1, 1, 0, 1, 1, 1, 0, 1, 0, 0, 1, 1] [M5] (s51_6 x0 x1 x2 x3 x4) =
    ((idx x0 x2).bind fun v2 =>
   ((i52 m (Dt.fld v2 1) x3 x4).bind fun r3 =>
   (bif (Bool.not r3.1) then
   some (r3.2.1, r3.2.2)
   else
   (J 0 13 0 (s51_7 x0 x1 x2 r3.2.1 r3.2.2) (e51 J m [1, 1, 0, 1, 1, 1, 0, 1, 0, 0, 1, 1, 1] [M5] (s51_7 x0 x1 x2 r3.2.1 r3.2.2)))))) := fun J => by kernel_rfl
  exact (h jn).trans (by
    simp only [jn_eq, i51_j7_eq m M5 rec5 h5]
    rfl)
theorem i51_l5_eq (m : Nat) : ∀ (M5 : Nat) (x0 : List Dt) (x1 x2 x3 x4 : Int), l51 jn m [1, 1, 0, 1, 1, 1, 0, 1, 0] [] M5 (s51_5 x0 x1 x2 x3 x4) = i51_l5 m (i52 m) M5 x0 x1 x2 x3 x4
  | 0, _, _, _, _, _ => rfl
  | M5 + 1, x0, x1, x2, x3, x4 => by
    have h : ∀ J, l51 J m [1, 1, 0, 1, 1, 1, 0, 1, 0] [] (M5 + 1) (s51_5 x0 x1 x2 x3 x4) =
    (bif (decide (x2 < x1)) then
   (J 0 11 0 (s51_6 x0 x1 x2 x3 x4) (e51 J m [1, 1, 0, 1, 1, 1, 0, 1, 0, 0, 1, 1] [M5] (s51_6 x0 x1 x2 x3 x4)))
    else
   some (x3, x4)) := fun J => by kernel_rfl
    refine (h jn).trans ?_
    simp only [jn_eq, i51_j6_eq m M5 (i51_l5 m (i52 m) M5) (fun x0 x1 x2 x3 x4 => i51_l5_eq m M5 x0 x1 x2 x3 x4)]
    rfl
theorem i51_j4_eq (m : Nat) (x0 : List Dt) (x1 x2 x3 x4 : Int) : e51 jn m [1, 1, 0, 1, 1, 1, 0, 1] [] (s51_4 x0 x1 x2 x3 x4) = i51_j4 m (i52 m) x0 x1 x2 x3 x4 := by
  have h : ∀ J, e51 J m [1, 1, 0, 1, 1, 1, 0, 1] [] (s51_4 x0 x1 x2 x3 x4) =
    (J 1 10 (Nat.succ m) (s51_5 x0 x1 x2 x3 x4) (l51 J m [1, 1, 0, 1, 1, 1, 0, 1, 0] [] (Nat.succ m) (s51_5 x0 x1 x2 x3 x4))) := fun J => by kernel_rfl
  exact (h jn).trans (by
    simp only [jn_eq, i51_l5_eq m]
    rfl)
theorem i51_eq (m : Nat) (a0 : Dt) (a1 a2 : Int) : e51 jn m [] [] ⟨[(.dat 25 a0), (.fn 87 [(.ptr 0 [] 0), (.ptr 1 [] 0)])], [(.box 3 (.dat 3 (.int a1))), (.box 3 (.dat 3 (.int a2)))], 2⟩ = i51 (m + 1) a0 a1 a2 := by
  have h : ∀ J, e51 J m [] [] ⟨[(.dat 25 a0), (.fn 87 [(.ptr 0 [] 0), (.ptr 1 [] 0)])], [(.box 3 (.dat 3 (.int a1))), (.box 3 (.dat 3 (.int a2)))], 2⟩ =
    (bif ((Dt.I a0 0) == 6) then
   (J 0 4 0 (s51_0 (Dt.L a0 3) (List.length (Dt.L a0 3) : Int) 0 a1 a2) (e51 J m [1, 1, 0, 1, 0, 1] [] (s51_0 (Dt.L a0 3) (List.length (Dt.L a0 3) : Int) 0 a1 a2)))
    else
   (bif ((Dt.I a0 0) == 5) then
   (J 0 10 0 (s51_4 (Dt.L a0 4) (List.length (Dt.L a0 4) : Int) 0 a1 a2) (e51 J m [1, 1, 0, 1, 1, 1, 0, 1] [] (s51_4 (Dt.L a0 4) (List.length (Dt.L a0 4) : Int) 0 a1 a2)))
   else
   some (a1, a2))) := fun J => by kernel_rfl
  refine (h jn).trans ?_
  simp only [jn_eq, i51_j0_eq m, i51_j4_eq m]
  rfl
noncomputable def d52 (q : Res) : Option (Bool × Int × Int) := match q with
  | (.dat T0 x0, [.box T1 (.dat T2 x2), .box T3 (.dat T4 x4)]) => bif (Nat.beq T0 4 && (Nat.beq T1 3 && (Nat.beq T2 3 && (Nat.beq T3 3 && Nat.beq T4 3)))) then some (x0.toBool, x2.toInt, x4.toInt) else none
  | _ => none
theorem d52_sim {b : Res} {r : Bool × Int × Int} (h : d52 b = some r) : Sim Tryd.prog b ((.dat 4 (.bool r.1)), [(.box 3 (.dat 3 (.int r.2.1))), (.box 3 (.dat 3 (.int r.2.2)))]) := by
  unfold d52 at h
  split at h
  · obtain ⟨hc, h2⟩ := bif_some h
    cases h2
    have e0 := beq_eq (and_l hc)
    have e1 := beq_eq (and_l (and_r hc))
    have e2 := beq_eq (and_l (and_r (and_r hc)))
    have e3 := beq_eq (and_l (and_r (and_r (and_r hc))))
    have e4 := beq_eq (and_r (and_r (and_r (and_r hc))))
    subst e0 e1 e2 e3 e4
    exact Sim.of (.of (.dat (.bool Tryd.underlying4)) rfl rfl) (.cons (.box (.dat (.int Tryd.underlying3))) (.cons (.box (.dat (.int Tryd.underlying3))) .nil))
  · cases h
noncomputable def e52 (J : Nat → Nat → Nat → St → Option (Bool × Int × Int) → Option (Bool × Int × Int)) (m : Nat) (p ms : List Nat) (σ : St) := evAt Tryd.prog env (ct m) J (m + 1) 87 15 Tryd.f87 d52 p ms σ
noncomputable def l52 (J : Nat → Nat → Nat → St → Option (Bool × Int × Int) → Option (Bool × Int × Int)) (m : Nat) (p ms : List Nat) (M : Nat) (σ : St) := loopAt Tryd.prog env (ct m) J (m + 1) 87 15 Tryd.f87 d52 p ms M σ
theorem i52_eq (m : Nat) (a0 : Dt) (a1 a2 : Int) : e52 jn m [] [] ⟨[(.dat 25 a0), (.ptr 0 [] 0), (.ptr 1 [] 0)], [(.box 3 (.dat 3 (.int a1))), (.box 3 (.dat 3 (.int a2)))], 2⟩ = i52 (m + 1) a0 a1 a2 := by
  have h : ∀ J, e52 J m [] [] ⟨[(.dat 25 a0), (.ptr 0 [] 0), (.ptr 1 [] 0)], [(.box 3 (.dat 3 (.int a1))), (.box 3 (.dat 3 (.int a2)))], 2⟩ =
    ((value_depth m a0 (IntKind.wrap .i64 (a2 - 1))).bind fun r0 =>
   some ((decide ((bif (decide (a1 < r0)) then r0 else a1) < (IntKind.wrap .i64 (a2 - 1)))), (bif (decide (a1 < r0)) then r0 else a1), a2)) := fun J => by kernel_rfl
  refine (h jn).trans ?_
  
  rfl
noncomputable def d43 (q : Res) : Option Int := match q with
  | (.dat T0 x0, []) => bif Nat.beq T0 3 then some x0.toInt else none
  | _ => none
theorem d43_sim {b : Res} {r : Int} (h : d43 b = some r) : Sim Tryd.prog b ((.dat 3 (.int r)), []) := by
  unfold d43 at h
  split at h
  · obtain ⟨hc, h2⟩ := bif_some h
    cases h2
    have e0 := beq_eq hc
    subst e0
    exact Sim.of (.of (.dat (.int Tryd.underlying3)) rfl rfl) .nil
  · cases h
noncomputable def e43 (J : Nat → Nat → Nat → St → Option Int → Option Int) (m : Nat) (p ms : List Nat) (σ : St) := evAt Tryd.prog env (ct m) J (m + 1) 52 5 Tryd.f52 d43 p ms σ
noncomputable def l43 (J : Nat → Nat → Nat → St → Option Int → Option Int) (m : Nat) (p ms : List Nat) (M : Nat) (σ : St) := loopAt Tryd.prog env (ct m) J (m + 1) 52 5 Tryd.f52 d43 p ms M σ
theorem value_Depth_eq (m : Nat) (a0 : Dt) : e43 jn m [] [] ⟨[(.dat 25 a0)], [], 0⟩ = value_Depth (m + 1) a0 := by
  have h : ∀ J, e43 J m [] [] ⟨[(.dat 25 a0)], [], 0⟩ =
    ((value_depth m a0 17).bind fun r0 =>
   some r0) := fun J => by kernel_rfl
  refine (h jn).trans ?_
  
  rfl
noncomputable def d53 (q : Res) : Option Bool := match q with
  | (.dat T0 x0, []) => bif Nat.beq T0 4 then some x0.toBool else none
  | _ => none
theorem d53_sim {b : Res} {r : Bool} (h : d53 b = some r) : Sim Tryd.prog b ((.dat 4 (.bool r)), []) := by
  unfold d53 at h
  split at h
  · obtain ⟨hc, h2⟩ := bif_some h
    cases h2
    have e0 := beq_eq hc
    subst e0
    exact Sim.of (.of (.dat (.bool Tryd.underlying4)) rfl rfl) .nil
  · cases h
noncomputable def e53 (J : Nat → Nat → Nat → St → Option Bool → Option Bool) (m : Nat) (p ms : List Nat) (σ : St) := evAt Tryd.prog env (ct m) J (m + 1) 99 39 Tryd.f99 d53 p ms σ
noncomputable def l53 (J : Nat → Nat → Nat → St → Option Bool → Option Bool) (m : Nat) (p ms : List Nat) (M : Nat) (σ : St) := loopAt Tryd.prog env (ct m) J (m + 1) 99 39 Tryd.f99 d53 p ms M σ
noncomputable def s53_6 (x0 : ByteArray) (x1 x2 : Int) : St := ⟨tsOf [(0, (.dat 9 (.str x0))), (18, (.dat 3 (.int x1))), (19, (.dat 3 (.int x2)))], [], 0⟩
noncomputable def s53_5 (x0 : ByteArray) (x1 x2 : Int) (x3 : Bool) : St := ⟨tsOf [(0, (.dat 9 (.str x0))), (18, (.dat 3 (.int x1))), (19, (.dat 3 (.int x2))), (37, (.dat 4 (.bool x3)))], [], 0⟩
noncomputable def s53_4 (x0 : ByteArray) (x1 x2 : Int) : St := ⟨tsOf [(0, (.dat 9 (.str x0))), (18, (.dat 3 (.int x1))), (19, (.dat 3 (.int x2)))], [], 0⟩
noncomputable def s53_7 : St := ⟨tsOf [], [], 0⟩
noncomputable def s53_3 (x0 : ByteArray) (x1 x2 : Int) : St := ⟨tsOf [(0, (.dat 9 (.str x0))), (18, (.dat 3 (.int x1))), (19, (.dat 3 (.int x2)))], [], 0⟩
noncomputable def s53_2 (x0 : ByteArray) (x1 x2 : Int) : St := ⟨tsOf [(0, (.dat 9 (.str x0))), (18, (.dat 3 (.int x1))), (19, (.dat 3 (.int x2)))], [], 0⟩
noncomputable def s53_1 (x0 : ByteArray) : St := ⟨tsOf [(0, (.dat 9 (.str x0)))], [], 0⟩
noncomputable def s53_0 (x0 : ByteArray) (x1 : Bool) : St := ⟨tsOf [(0, (.dat 9 (.str x0))), (16, (.dat 4 (.bool x1)))], [], 0⟩
theorem value_isName_j6_eq (m : Nat) (M3 : Nat) (rec3 : ByteArray → Int → Int → Option Bool) (h3 : ∀ (x0 : ByteArray) (x1 x2 : Int), l53 jn m [1, 1, 0, 1, 0] [] M3 (s53_3 x0 x1 x2) = rec3 x0 x1 x2) (x0 : ByteArray) (x1 x2 : Int) : e53 jn m [1, 1, 0, 1, 0, 0, 1, 1, 1] [M3] (s53_6 x0 x1 x2) = value_isName_j6 m rec3 x0 x1 x2 := by
  have h : ∀ J, e53 J m [1, 1, 0, 1, 0, 0, 1, 1, 1] [M3] (s53_6 x0 x1 x2) =
    (J 1 4 M3 (s53_3 x0 x1 (IntKind.wrap .i64 (x2 + 1))) (l53 J m [1, 1, 0, 1, 0] [] M3 (s53_3 x0 x1 (IntKind.wrap .i64 (x2 + 1))))) := fun J => by kernel_rfl
  exact (h jn).trans (by
    simp only [jn_eq, h3]
    rfl)
theorem value_isName_j5_eq (m : Nat) (M3 : Nat) (rec3 : ByteArray → Int → Int → Option Bool) (h3 : ∀ (x0 : ByteArray) (x1 x2 : Int), l53 jn m [1, 1, 0, 1, 0] [] M3 (s53_3 x0 x1 x2) = rec3 x0 x1 x2) (x0 : ByteArray) (x1 x2 : Int) (x3 : Bool) : e53 jn m [1, 1, 0, 1, 0, 0, 1, 1, 0, 0, 1, 1] [M3] (s53_5 x0 x1 x2 x3) = value_isName_j5 m rec3 x0 x1 x2 x3 := by
  have h : ∀ J, e53 J m [1, 1, 0, 1, 0, 0, 1, 1, 0, 0, 1, 1] [M3] (s53_5 x0 x1 x2 x3) =
    (bif x3 then
   some false
    else
   (J 0 8 0 (s53_6 x0 x1 x2) (e53 J m [1, 1, 0, 1, 0, 0, 1, 1, 1] [M3] (s53_6 x0 x1 x2)))) := fun J => by kernel_rfl
  exact (h jn).trans (by
    simp only [jn_eq, value_isName_j6_eq m M3 rec3 h3]
    rfl)
theorem value_isName_j4_eq (m : Nat) (M3 : Nat) (rec3 : ByteArray → Int → Int → Option Bool) (h3 : ∀ (x0 : ByteArray) (x1 x2 : Int), l53 jn m [1, 1, 0, 1, 0] [] M3 (s53_3 x0 x1 x2) = rec3 x0 x1 x2) (x0 : ByteArray) (x1 x2 : Int) : e53 jn m [1, 1, 0, 1, 0, 0, 1, 1] [M3] (s53_4 x0 x1 x2) = value_isName_j4 m rec3 x0 x1 x2 := by
  have h : ∀ J, e53 J m [1, 1, 0, 1, 0, 0, 1, 1] [M3] (s53_4 x0 x1 x2) =
    ((idxS x0 x2).bind fun v0 =>
   (bif (decide (v0 < 33)) then
   (J 0 7 0 (s53_5 x0 x1 x2 true) (e53 J m [1, 1, 0, 1, 0, 0, 1, 1, 0, 0, 1, 1] [M3] (s53_5 x0 x1 x2 true)))
   else
   ((idxS x0 x2).bind fun v1 =>
   (bif (decide (126 < v1)) then
   (J 0 7 0 (s53_5 x0 x1 x2 true) (e53 J m [1, 1, 0, 1, 0, 0, 1, 1, 0, 0, 1, 1] [M3] (s53_5 x0 x1 x2 true)))
   else
   ((idxS x0 x2).bind fun v2 =>
   (J 0 7 0 (s53_5 x0 x1 x2 (v2 == 46)) (e53 J m [1, 1, 0, 1, 0, 0, 1, 1, 0, 0, 1, 1] [M3] (s53_5 x0 x1 x2 (v2 == 46))))))))) := fun J => by kernel_rfl
  exact (h jn).trans (by
    simp only [jn_eq, value_isName_j5_eq m M3 rec3 h3]
    rfl)
theorem value_isName_j7_eq (m : Nat) : e53 jn m [1, 1, 1] [] s53_7 = value_isName_j7 m := by
  have h : ∀ J, e53 J m [1, 1, 1] [] s53_7 =
    some true := fun J => by kernel_rfl
  exact (h jn).trans (rfl)
theorem value_isName_l3_eq (m : Nat) : ∀ (M3 : Nat) (x0 : ByteArray) (x1 x2 : Int), l53 jn m [1, 1, 0, 1, 0] [] M3 (s53_3 x0 x1 x2) = value_isName_l3 m M3 x0 x1 x2
  | 0, _, _, _ => rfl
  | M3 + 1, x0, x1, x2 => by
    have h : ∀ J, l53 J m [1, 1, 0, 1, 0] [] (M3 + 1) (s53_3 x0 x1 x2) =
    (bif (decide (x2 < x1)) then
   (J 0 5 0 (s53_4 x0 x1 x2) (e53 J m [1, 1, 0, 1, 0, 0, 1, 1] [M3] (s53_4 x0 x1 x2)))
    else
   (J 0 9 0 s53_7 (e53 J m [1, 1, 1] [] s53_7))) := fun J => by kernel_rfl
    refine (h jn).trans ?_
    simp only [jn_eq, value_isName_j4_eq m M3 (value_isName_l3 m M3) (fun x0 x1 x2 => value_isName_l3_eq m M3 x0 x1 x2), value_isName_j7_eq m]
    rfl
theorem value_isName_j2_eq (m : Nat) (x0 : ByteArray) (x1 x2 : Int) : e53 jn m [1, 1, 0, 1] [] (s53_2 x0 x1 x2) = value_isName_j2 m x0 x1 x2 := by
  have h : ∀ J, e53 J m [1, 1, 0, 1] [] (s53_2 x0 x1 x2) =
    (J 1 4 (Nat.succ m) (s53_3 x0 x1 x2) (l53 J m [1, 1, 0, 1, 0] [] (Nat.succ m) (s53_3 x0 x1 x2))) := fun J => by kernel_rfl
  exact (h jn).trans (by
    simp only [jn_eq, value_isName_l3_eq m]
    rfl)
theorem value_isName_j1_eq (m : Nat) (x0 : ByteArray) : e53 jn m [1, 1] [] (s53_1 x0) = value_isName_j1 m x0 := by
  have h : ∀ J, e53 J m [1, 1] [] (s53_1 x0) =
    (J 0 4 0 (s53_2 x0 (ByteArray.size x0 : Int) 0) (e53 J m [1, 1, 0, 1] [] (s53_2 x0 (ByteArray.size x0 : Int) 0))) := fun J => by kernel_rfl
  exact (h jn).trans (by
    simp only [jn_eq, value_isName_j2_eq m]
    rfl)
theorem value_isName_j0_eq (m : Nat) (x0 : ByteArray) (x1 : Bool) : e53 jn m [1, 0, 1] [] (s53_0 x0 x1) = value_isName_j0 m x0 x1 := by
  have h : ∀ J, e53 J m [1, 0, 1] [] (s53_0 x0 x1) =
    (bif x1 then
   some false
    else
   (J 0 3 0 (s53_1 x0) (e53 J m [1, 1] [] (s53_1 x0)))) := fun J => by kernel_rfl
  exact (h jn).trans (by
    simp only [jn_eq, value_isName_j1_eq m]
    rfl)
theorem value_isName_eq (m : Nat) (a0 : ByteArray) : e53 jn m [] [] ⟨[(.dat 9 (.str a0))], [], 0⟩ = value_isName (m + 1) a0 := by
  have h : ∀ J, e53 J m [] [] ⟨[(.dat 9 (.str a0))], [], 0⟩ =
    (bif (decide ((ByteArray.size a0 : Int) < 1)) then
   (J 0 2 0 (s53_0 a0 true) (e53 J m [1, 0, 1] [] (s53_0 a0 true)))
    else
   (bif (decide (32 < (ByteArray.size a0 : Int))) then
   (J 0 2 0 (s53_0 a0 true) (e53 J m [1, 0, 1] [] (s53_0 a0 true)))
   else
   ((idxS a0 0).bind fun v3 =>
   (J 0 2 0 (s53_0 a0 (v3 == 36)) (e53 J m [1, 0, 1] [] (s53_0 a0 (v3 == 36))))))) := fun J => by kernel_rfl
  refine (h jn).trans ?_
  simp only [jn_eq, value_isName_j0_eq m]
  rfl
noncomputable def d44 (q : Res) : Option Bool := match q with
  | (.dat T0 x0, []) => bif Nat.beq T0 4 then some x0.toBool else none
  | _ => none
theorem d44_sim {b : Res} {r : Bool} (h : d44 b = some r) : Sim Tryd.prog b ((.dat 4 (.bool r)), []) := by
  unfold d44 at h
  split at h
  · obtain ⟨hc, h2⟩ := bif_some h
    cases h2
    have e0 := beq_eq hc
    subst e0
    exact Sim.of (.of (.dat (.bool Tryd.underlying4)) rfl rfl) .nil
  · cases h
noncomputable def e44 (J : Nat → Nat → Nat → St → Option Bool → Option Bool) (m : Nat) (p ms : List Nat) (σ : St) := evAt Tryd.prog env (ct m) J (m + 1) 75 132 Tryd.f75 d44 p ms σ
noncomputable def l44 (J : Nat → Nat → Nat → St → Option Bool → Option Bool) (m : Nat) (p ms : List Nat) (M : Nat) (σ : St) := loopAt Tryd.prog env (ct m) J (m + 1) 75 132 Tryd.f75 d44 p ms M σ
noncomputable def s44_10 (x0 : List Dt) (x1 x2 : Int) : St := ⟨tsOf [(117, (.dat 22 (.lst x0))), (118, (.dat 3 (.int x1))), (119, (.dat 3 (.int x2)))], [], 0⟩
noncomputable def s44_9 (x0 : List Dt) (x1 x2 : Int) : St := ⟨tsOf [(117, (.dat 22 (.lst x0))), (118, (.dat 3 (.int x1))), (119, (.dat 3 (.int x2)))], [], 0⟩
noncomputable def s44_11 : St := ⟨tsOf [], [], 0⟩
noncomputable def s44_8 (x0 : List Dt) (x1 x2 : Int) : St := ⟨tsOf [(117, (.dat 22 (.lst x0))), (118, (.dat 3 (.int x1))), (119, (.dat 3 (.int x2)))], [], 0⟩
noncomputable def s44_7 (x0 : List Dt) (x1 x2 : Int) : St := ⟨tsOf [(117, (.dat 22 (.lst x0))), (118, (.dat 3 (.int x1))), (119, (.dat 3 (.int x2)))], [], 0⟩
noncomputable def s44_12 : St := ⟨tsOf [], [], 0⟩
noncomputable def s44_6 (x0 : Int) (x1 : Bool) (x2 : Dt) : St := ⟨tsOf [(1, (.ptr 0 [] 0)), (70, (.dat 3 (.int x0))), (71, (.dat 4 (.bool x1)))], [(.box 25 (.dat 25 x2))], 0⟩
noncomputable def s44_5 (x0 : Dt) : St := ⟨tsOf [(1, (.ptr 0 [] 0))], [(.box 25 (.dat 25 x0))], 0⟩
noncomputable def s44_4 (x0 : Bool) (x1 : Dt) : St := ⟨tsOf [(1, (.ptr 0 [] 0)), (68, (.dat 4 (.bool x0)))], [(.box 25 (.dat 25 x1))], 0⟩
noncomputable def s44_3 (x0 : Dt) : St := ⟨tsOf [(1, (.ptr 0 [] 0))], [(.box 25 (.dat 25 x0))], 0⟩
noncomputable def s44_2 (x0 : Bool) (x1 : Dt) : St := ⟨tsOf [(1, (.ptr 0 [] 0)), (48, (.dat 4 (.bool x0)))], [(.box 25 (.dat 25 x1))], 0⟩
noncomputable def s44_1 (x0 x1 : Bool) (x2 : Dt) : St := ⟨tsOf [(1, (.ptr 0 [] 0)), (3, (.dat 4 (.bool x0))), (4, (.dat 4 (.bool x1)))], [(.box 25 (.dat 25 x2))], 0⟩
noncomputable def s44_0 (x0 : Bool) (x1 : Dt) : St := ⟨tsOf [(1, (.ptr 0 [] 0)), (3, (.dat 4 (.bool x0)))], [(.box 25 (.dat 25 x1))], 0⟩
theorem value_sound_j10_eq (m : Nat) (M8 : Nat) (rec8 : List Dt → Int → Int → Option Bool) (h8 : ∀ (x0 : List Dt) (x1 x2 : Int), l44 jn m [1, 1, 1, 1, 1, 0, 1, 0, 1, 1, 1, 1, 1, 1, 1, 1, 1, 1, 1, 1, 1, 0, 0, 1, 0] [] M8 (s44_8 x0 x1 x2) = rec8 x0 x1 x2) (x0 : List Dt) (x1 x2 : Int) : e44 jn m [1, 1, 1, 1, 1, 0, 1, 0, 1, 1, 1, 1, 1, 1, 1, 1, 1, 1, 1, 1, 1, 0, 0, 1, 0, 0, 1, 1, 1] [M8] (s44_10 x0 x1 x2) = value_sound_j10 m (value_sound m) (value_soundFields m) rec8 x0 x1 x2 := by
  have h : ∀ J, e44 J m [1, 1, 1, 1, 1, 0, 1, 0, 1, 1, 1, 1, 1, 1, 1, 1, 1, 1, 1, 1, 1, 0, 0, 1, 0, 0, 1, 1, 1] [M8] (s44_10 x0 x1 x2) =
    (J 1 25 M8 (s44_8 x0 x1 (IntKind.wrap .i64 (x2 + 1))) (l44 J m [1, 1, 1, 1, 1, 0, 1, 0, 1, 1, 1, 1, 1, 1, 1, 1, 1, 1, 1, 1, 1, 0, 0, 1, 0] [] M8 (s44_8 x0 x1 (IntKind.wrap .i64 (x2 + 1))))) := fun J => by kernel_rfl
  exact (h jn).trans (by
    simp only [jn_eq, h8]
    rfl)
theorem value_sound_j9_eq (m : Nat) (M8 : Nat) (rec8 : List Dt → Int → Int → Option Bool) (h8 : ∀ (x0 : List Dt) (x1 x2 : Int), l44 jn m [1, 1, 1, 1, 1, 0, 1, 0, 1, 1, 1, 1, 1, 1, 1, 1, 1, 1, 1, 1, 1, 0, 0, 1, 0] [] M8 (s44_8 x0 x1 x2) = rec8 x0 x1 x2) (x0 : List Dt) (x1 x2 : Int) : e44 jn m [1, 1, 1, 1, 1, 0, 1, 0, 1, 1, 1, 1, 1, 1, 1, 1, 1, 1, 1, 1, 1, 0, 0, 1, 0, 0, 1, 1] [M8] (s44_9 x0 x1 x2) = value_sound_j9 m (value_sound m) (value_soundFields m) rec8 x0 x1 x2 := by
  have h : ∀ J, e44 J m [1, 1, 1, 1, 1, 0, 1, 0, 1, 1, 1, 1, 1, 1, 1, 1, 1, 1, 1, 1, 1, 0, 0, 1, 0, 0, 1, 1] [M8] (s44_9 x0 x1 x2) =
    ((idx x0 x2).bind fun v1 =>
   ((value_sound m v1).bind fun r2 =>
   (bif (Bool.not r2) then
   some false
   else
   (J 0 29 0 (s44_10 x0 x1 x2) (e44 J m [1, 1, 1, 1, 1, 0, 1, 0, 1, 1, 1, 1, 1, 1, 1, 1, 1, 1, 1, 1, 1, 0, 0, 1, 0, 0, 1, 1, 1] [M8] (s44_10 x0 x1 x2)))))) := fun J => by kernel_rfl
  exact (h jn).trans (by
    simp only [jn_eq, value_sound_j10_eq m M8 rec8 h8]
    rfl)
theorem value_sound_j11_eq (m : Nat) : e44 jn m [1, 1, 1, 1, 1, 0, 1, 0, 1, 1, 1, 1, 1, 1, 1, 1, 1, 1, 1, 1, 1, 0, 1] [] s44_11 = value_sound_j11 m (value_sound m) (value_soundFields m) := by
  have h : ∀ J, e44 J m [1, 1, 1, 1, 1, 0, 1, 0, 1, 1, 1, 1, 1, 1, 1, 1, 1, 1, 1, 1, 1, 0, 1] [] s44_11 =
    some true := fun J => by kernel_rfl
  exact (h jn).trans (rfl)
theorem value_sound_l8_eq (m : Nat) : ∀ (M8 : Nat) (x0 : List Dt) (x1 x2 : Int), l44 jn m [1, 1, 1, 1, 1, 0, 1, 0, 1, 1, 1, 1, 1, 1, 1, 1, 1, 1, 1, 1, 1, 0, 0, 1, 0] [] M8 (s44_8 x0 x1 x2) = value_sound_l8 m (value_sound m) (value_soundFields m) M8 x0 x1 x2
  | 0, _, _, _ => rfl
  | M8 + 1, x0, x1, x2 => by
    have h : ∀ J, l44 J m [1, 1, 1, 1, 1, 0, 1, 0, 1, 1, 1, 1, 1, 1, 1, 1, 1, 1, 1, 1, 1, 0, 0, 1, 0] [] (M8 + 1) (s44_8 x0 x1 x2) =
    (bif (decide (x2 < x1)) then
   (J 0 26 0 (s44_9 x0 x1 x2) (e44 J m [1, 1, 1, 1, 1, 0, 1, 0, 1, 1, 1, 1, 1, 1, 1, 1, 1, 1, 1, 1, 1, 0, 0, 1, 0, 0, 1, 1] [M8] (s44_9 x0 x1 x2)))
    else
   (J 0 30 0 s44_11 (e44 J m [1, 1, 1, 1, 1, 0, 1, 0, 1, 1, 1, 1, 1, 1, 1, 1, 1, 1, 1, 1, 1, 0, 1] [] s44_11))) := fun J => by kernel_rfl
    refine (h jn).trans ?_
    simp only [jn_eq, value_sound_j9_eq m M8 (value_sound_l8 m (value_sound m) (value_soundFields m) M8) (fun x0 x1 x2 => value_sound_l8_eq m M8 x0 x1 x2), value_sound_j11_eq m]
    rfl
theorem value_sound_j7_eq (m : Nat) (x0 : List Dt) (x1 x2 : Int) : e44 jn m [1, 1, 1, 1, 1, 0, 1, 0, 1, 1, 1, 1, 1, 1, 1, 1, 1, 1, 1, 1, 1, 0, 0, 1] [] (s44_7 x0 x1 x2) = value_sound_j7 m (value_sound m) (value_soundFields m) x0 x1 x2 := by
  have h : ∀ J, e44 J m [1, 1, 1, 1, 1, 0, 1, 0, 1, 1, 1, 1, 1, 1, 1, 1, 1, 1, 1, 1, 1, 0, 0, 1] [] (s44_7 x0 x1 x2) =
    (J 1 25 (Nat.succ m) (s44_8 x0 x1 x2) (l44 J m [1, 1, 1, 1, 1, 0, 1, 0, 1, 1, 1, 1, 1, 1, 1, 1, 1, 1, 1, 1, 1, 0, 0, 1, 0] [] (Nat.succ m) (s44_8 x0 x1 x2))) := fun J => by kernel_rfl
  exact (h jn).trans (by
    simp only [jn_eq, value_sound_l8_eq m]
    rfl)
theorem value_sound_j12_eq (m : Nat) : e44 jn m [1, 1, 1, 1, 1, 1] [] s44_12 = value_sound_j12 m (value_sound m) (value_soundFields m) := by
  have h : ∀ J, e44 J m [1, 1, 1, 1, 1, 1] [] s44_12 =
    some false := fun J => by kernel_rfl
  exact (h jn).trans (rfl)
theorem value_sound_j6_eq (m : Nat) (x0 : Int) (x1 : Bool) (x2 : Dt) : e44 jn m [1, 1, 1, 1, 1, 0, 1, 0, 1] [] (s44_6 x0 x1 x2) = value_sound_j6 m (value_sound m) (value_soundFields m) x0 x1 x2 := by
  have h : ∀ J, e44 J m [1, 1, 1, 1, 1, 0, 1, 0, 1] [] (s44_6 x0 x1 x2) =
    (bif x1 then
   some true
    else
   (bif (x0 == 9) then
   (bif ((Dt.I x2 1) == 0) then
   some true
   else
   some ((Dt.I x2 1) == 1))
   else
   (bif (x0 == 10) then
   some (decide (0 ≤ (Dt.I x2 1)))
   else
   (bif (x0 == 4) then
   (bif (decide ((ByteArray.size (Dt.S x2 2) : Int) ≤ 4096)) then
   ((utf8_ValidString (Dt.S x2 2)).bind fun r0 =>
   some r0)
   else
   some false)
   else
   (bif (x0 == 7) then
   some (decide ((ByteArray.size (Dt.S x2 2) : Int) ≤ 4096))
   else
   (bif (x0 == 8) then
   some ((ByteArray.size (Dt.S x2 2) : Int) == 12)
   else
   (bif (x0 == 6) then
   (J 0 25 0 (s44_7 (Dt.L x2 3) (List.length (Dt.L x2 3) : Int) 0) (e44 J m [1, 1, 1, 1, 1, 0, 1, 0, 1, 1, 1, 1, 1, 1, 1, 1, 1, 1, 1, 1, 1, 0, 0, 1] [] (s44_7 (Dt.L x2 3) (List.length (Dt.L x2 3) : Int) 0)))
   else
   (bif (x0 == 5) then
   ((value_soundFields m (Dt.L x2 4)).bind fun r3 =>
   some r3)
   else
   (J 0 33 0 s44_12 (e44 J m [1, 1, 1, 1, 1, 1] [] s44_12)))))))))) := fun J => by kernel_rfl
  exact (h jn).trans (by
    simp only [jn_eq, value_sound_j7_eq m, value_sound_j12_eq m]
    rfl)
theorem value_sound_j5_eq (m : Nat) (x0 : Dt) : e44 jn m [1, 1, 1, 1, 1] [] (s44_5 x0) = value_sound_j5 m (value_sound m) (value_soundFields m) x0 := by
  have h : ∀ J, e44 J m [1, 1, 1, 1, 1] [] (s44_5 x0) =
    (bif ((Dt.I x0 0) == 1) then
   (J 0 12 0 (s44_6 (Dt.I x0 0) ((Dt.I x0 0) == 1) x0) (e44 J m [1, 1, 1, 1, 1, 0, 1, 0, 1] [] (s44_6 (Dt.I x0 0) ((Dt.I x0 0) == 1) x0)))
    else
   (bif ((Dt.I x0 0) == 2) then
   (J 0 12 0 (s44_6 (Dt.I x0 0) ((Dt.I x0 0) == 2) x0) (e44 J m [1, 1, 1, 1, 1, 0, 1, 0, 1] [] (s44_6 (Dt.I x0 0) ((Dt.I x0 0) == 2) x0)))
   else
   (bif ((Dt.I x0 0) == 11) then
   (J 0 12 0 (s44_6 (Dt.I x0 0) ((Dt.I x0 0) == 11) x0) (e44 J m [1, 1, 1, 1, 1, 0, 1, 0, 1] [] (s44_6 (Dt.I x0 0) ((Dt.I x0 0) == 11) x0)))
   else
   (J 0 12 0 (s44_6 (Dt.I x0 0) ((Dt.I x0 0) == 3) x0) (e44 J m [1, 1, 1, 1, 1, 0, 1, 0, 1] [] (s44_6 (Dt.I x0 0) ((Dt.I x0 0) == 3) x0)))))) := fun J => by kernel_rfl
  exact (h jn).trans (by
    simp only [jn_eq, value_sound_j6_eq m]
    rfl)
theorem value_sound_j4_eq (m : Nat) (x0 : Bool) (x1 : Dt) : e44 jn m [1, 1, 1, 1, 0, 1] [] (s44_4 x0 x1) = value_sound_j4 m (value_sound m) (value_soundFields m) x0 x1 := by
  have h : ∀ J, e44 J m [1, 1, 1, 1, 0, 1] [] (s44_4 x0 x1) =
    (bif x0 then
   some false
    else
   (J 0 7 0 (s44_5 x1) (e44 J m [1, 1, 1, 1, 1] [] (s44_5 x1)))) := fun J => by kernel_rfl
  exact (h jn).trans (by
    simp only [jn_eq, value_sound_j5_eq m]
    rfl)
theorem value_sound_j3_eq (m : Nat) (x0 : Dt) : e44 jn m [1, 1, 1, 1] [] (s44_3 x0) = value_sound_j3 m (value_sound m) (value_soundFields m) x0 := by
  have h : ∀ J, e44 J m [1, 1, 1, 1] [] (s44_3 x0) =
    (bif ((Dt.I x0 0) != 6) then
   (bif (decide (0 < (List.length (Dt.L x0 3) : Int))) then
   (J 0 6 0 (s44_4 true x0) (e44 J m [1, 1, 1, 1, 0, 1] [] (s44_4 true x0)))
   else
   (bif ((Dt.I x0 0) != 5) then
   (J 0 6 0 (s44_4 (decide (0 < (List.length (Dt.L x0 4) : Int))) x0) (e44 J m [1, 1, 1, 1, 0, 1] [] (s44_4 (decide (0 < (List.length (Dt.L x0 4) : Int))) x0)))
   else
   (J 0 6 0 (s44_4 false x0) (e44 J m [1, 1, 1, 1, 0, 1] [] (s44_4 false x0)))))
    else
   (bif ((Dt.I x0 0) != 5) then
   (J 0 6 0 (s44_4 (decide (0 < (List.length (Dt.L x0 4) : Int))) x0) (e44 J m [1, 1, 1, 1, 0, 1] [] (s44_4 (decide (0 < (List.length (Dt.L x0 4) : Int))) x0)))
   else
   (J 0 6 0 (s44_4 false x0) (e44 J m [1, 1, 1, 1, 0, 1] [] (s44_4 false x0))))) := fun J => by kernel_rfl
  exact (h jn).trans (by
    simp only [jn_eq, value_sound_j4_eq m]
    rfl)
theorem value_sound_j2_eq (m : Nat) (x0 : Bool) (x1 : Dt) : e44 jn m [1, 1, 1, 0, 1] [] (s44_2 x0 x1) = value_sound_j2 m (value_sound m) (value_soundFields m) x0 x1 := by
  have h : ∀ J, e44 J m [1, 1, 1, 0, 1] [] (s44_2 x0 x1) =
    (bif x0 then
   some false
    else
   (J 0 5 0 (s44_3 x1) (e44 J m [1, 1, 1, 1] [] (s44_3 x1)))) := fun J => by kernel_rfl
  exact (h jn).trans (by
    simp only [jn_eq, value_sound_j3_eq m]
    rfl)
theorem value_sound_j1_eq (m : Nat) (x0 x1 : Bool) (x2 : Dt) : e44 jn m [1, 1, 1] [] (s44_1 x0 x1 x2) = value_sound_j1 m (value_sound m) (value_soundFields m) x0 x1 x2 := by
  have h : ∀ J, e44 J m [1, 1, 1] [] (s44_1 x0 x1 x2) =
    (bif (Bool.not x0) then
   (bif ((Dt.I x2 1) != 0) then
   (J 0 4 0 (s44_2 true x2) (e44 J m [1, 1, 1, 0, 1] [] (s44_2 true x2)))
   else
   (bif (Bool.not x1) then
   (J 0 4 0 (s44_2 (Bool.not ((ByteArray.toList (Dt.S x2 2)) == [])) x2) (e44 J m [1, 1, 1, 0, 1] [] (s44_2 (Bool.not ((ByteArray.toList (Dt.S x2 2)) == [])) x2)))
   else
   (J 0 4 0 (s44_2 false x2) (e44 J m [1, 1, 1, 0, 1] [] (s44_2 false x2)))))
    else
   (bif (Bool.not x1) then
   (J 0 4 0 (s44_2 (Bool.not ((ByteArray.toList (Dt.S x2 2)) == [])) x2) (e44 J m [1, 1, 1, 0, 1] [] (s44_2 (Bool.not ((ByteArray.toList (Dt.S x2 2)) == [])) x2)))
   else
   (J 0 4 0 (s44_2 false x2) (e44 J m [1, 1, 1, 0, 1] [] (s44_2 false x2))))) := fun J => by kernel_rfl
  exact (h jn).trans (by
    simp only [jn_eq, value_sound_j2_eq m]
    rfl)
theorem value_sound_j0_eq (m : Nat) (x0 : Bool) (x1 : Dt) : e44 jn m [1, 1] [] (s44_0 x0 x1) = value_sound_j0 m (value_sound m) (value_soundFields m) x0 x1 := by
  have h : ∀ J, e44 J m [1, 1] [] (s44_0 x0 x1) =
    (bif ((Dt.I x1 0) == 4) then
   (J 0 3 0 (s44_1 x0 true x1) (e44 J m [1, 1, 1] [] (s44_1 x0 true x1)))
    else
   (bif ((Dt.I x1 0) == 7) then
   (J 0 3 0 (s44_1 x0 true x1) (e44 J m [1, 1, 1] [] (s44_1 x0 true x1)))
   else
   (J 0 3 0 (s44_1 x0 ((Dt.I x1 0) == 8) x1) (e44 J m [1, 1, 1] [] (s44_1 x0 ((Dt.I x1 0) == 8) x1))))) := fun J => by kernel_rfl
  exact (h jn).trans (by
    simp only [jn_eq, value_sound_j1_eq m]
    rfl)
theorem value_sound_eq (m : Nat) (a0 : Dt) : e44 jn m [] [] ⟨[(.dat 25 a0)], [], 0⟩ = value_sound (m + 1) a0 := by
  have h : ∀ J, e44 J m [] [] ⟨[(.dat 25 a0)], [], 0⟩ =
    (bif ((Dt.I a0 0) == 3) then
   (J 0 2 0 (s44_0 true a0) (e44 J m [1, 1] [] (s44_0 true a0)))
    else
   (bif ((Dt.I a0 0) == 9) then
   (J 0 2 0 (s44_0 true a0) (e44 J m [1, 1] [] (s44_0 true a0)))
   else
   (J 0 2 0 (s44_0 ((Dt.I a0 0) == 10) a0) (e44 J m [1, 1] [] (s44_0 ((Dt.I a0 0) == 10) a0))))) := fun J => by kernel_rfl
  refine (h jn).trans ?_
  simp only [jn_eq, value_sound_j0_eq m]
  rfl
noncomputable def d48 (q : Res) : Option Bool := match q with
  | (.dat T0 x0, []) => bif Nat.beq T0 4 then some x0.toBool else none
  | _ => none
theorem d48_sim {b : Res} {r : Bool} (h : d48 b = some r) : Sim Tryd.prog b ((.dat 4 (.bool r)), []) := by
  unfold d48 at h
  split at h
  · obtain ⟨hc, h2⟩ := bif_some h
    cases h2
    have e0 := beq_eq hc
    subst e0
    exact Sim.of (.of (.dat (.bool Tryd.underlying4)) rfl rfl) .nil
  · cases h
noncomputable def e48 (J : Nat → Nat → Nat → St → Option Bool → Option Bool) (m : Nat) (p ms : List Nat) (σ : St) := evAt Tryd.prog env (ct m) J (m + 1) 89 33 Tryd.f89 d48 p ms σ
noncomputable def l48 (J : Nat → Nat → Nat → St → Option Bool → Option Bool) (m : Nat) (p ms : List Nat) (M : Nat) (σ : St) := loopAt Tryd.prog env (ct m) J (m + 1) 89 33 Tryd.f89 d48 p ms M σ
noncomputable def s48_5 (x0 : List Dt) (x1 x2 : Int) (x3 : List Dt) : St := ⟨tsOf [(3, (.row 0)), (7, (.dat 23 (.lst x0))), (8, (.dat 3 (.int x1))), (9, (.dat 3 (.int x2)))], [(.map 89 x3)], 0⟩
noncomputable def s48_4 (x0 : List Dt) (x1 x2 : Int) (x3 : List Dt) (x4 : Dt) : St := ⟨tsOf [(3, (.row 0)), (5, (.ptr 1 [] 0)), (7, (.dat 23 (.lst x0))), (8, (.dat 3 (.int x1))), (9, (.dat 3 (.int x2)))], [(.map 89 x3), (.box 56 (.dat 56 x4))], 0⟩
noncomputable def s48_3 (x0 : List Dt) (x1 x2 : Int) (x3 : Bool) (x4 : List Dt) (x5 : Dt) : St := ⟨tsOf [(3, (.row 0)), (5, (.ptr 1 [] 0)), (7, (.dat 23 (.lst x0))), (8, (.dat 3 (.int x1))), (9, (.dat 3 (.int x2))), (28, (.dat 4 (.bool x3)))], [(.map 89 x4), (.box 56 (.dat 56 x5))], 0⟩
noncomputable def s48_2 (x0 : List Dt) (x1 x2 : Int) (x3 : List Dt) : St := ⟨tsOf [(3, (.row 0)), (7, (.dat 23 (.lst x0))), (8, (.dat 3 (.int x1))), (9, (.dat 3 (.int x2)))], [(.map 89 x3)], 0⟩
noncomputable def s48_6 : St := ⟨tsOf [], [], 0⟩
noncomputable def s48_1 (x0 : List Dt) (x1 x2 : Int) (x3 : List Dt) : St := ⟨tsOf [(3, (.row 0)), (7, (.dat 23 (.lst x0))), (8, (.dat 3 (.int x1))), (9, (.dat 3 (.int x2)))], [(.map 89 x3)], 0⟩
noncomputable def s48_0 (x0 : List Dt) (x1 x2 : Int) (x3 : List Dt) : St := ⟨tsOf [(3, (.row 0)), (7, (.dat 23 (.lst x0))), (8, (.dat 3 (.int x1))), (9, (.dat 3 (.int x2)))], [(.map 89 x3)], 0⟩
theorem value_soundFields_j5_eq (m : Nat) (M1 : Nat) (rec1 : List Dt → Int → Int → List Dt → Option Bool) (h1 : ∀ (x0 : List Dt) (x1 x2 : Int) (x3 : List Dt), l48 jn m [1, 1, 0, 1, 0] [] M1 (s48_1 x0 x1 x2 x3) = rec1 x0 x1 x2 x3) (x0 : List Dt) (x1 x2 : Int) (x3 : List Dt) : e48 jn m [1, 1, 0, 1, 0, 0, 1, 1, 1] [M1] (s48_5 x0 x1 x2 x3) = value_soundFields_j5 m (value_sound m) rec1 x0 x1 x2 x3 := by
  have h : ∀ J, e48 J m [1, 1, 0, 1, 0, 0, 1, 1, 1] [M1] (s48_5 x0 x1 x2 x3) =
    (J 1 3 M1 (s48_1 x0 x1 (IntKind.wrap .i64 (x2 + 1)) x3) (l48 J m [1, 1, 0, 1, 0] [] M1 (s48_1 x0 x1 (IntKind.wrap .i64 (x2 + 1)) x3))) := fun J => by kernel_rfl
  exact (h jn).trans (by
    simp only [jn_eq, h1]
    rfl)
theorem value_soundFields_j4_eq (m : Nat) (M1 : Nat) (rec1 : List Dt → Int → Int → List Dt → Option Bool) (h1 : ∀ (x0 : List Dt) (x1 x2 : Int) (x3 : List Dt), l48 jn m [1, 1, 0, 1, 0] [] M1 (s48_1 x0 x1 x2 x3) = rec1 x0 x1 x2 x3) (x0 : List Dt) (x1 x2 : Int) (x3 : List Dt) (x4 : Dt) : e48 jn m [1, 1, 0, 1, 0, 0, 1, 1, 0, 0, 1, 1] [M1] (s48_4 x0 x1 x2 x3 x4) = value_soundFields_j4 m (value_sound m) rec1 x0 x1 x2 x3 x4 := by
  have h : ∀ J, e48 J m [1, 1, 0, 1, 0, 0, 1, 1, 0, 0, 1, 1] [M1] (s48_4 x0 x1 x2 x3 x4) =
    (J 0 8 0 (s48_5 x0 x1 x2 (mput x3 (Dt.S x4 0) (Dt.bool true))) (e48 J m [1, 1, 0, 1, 0, 0, 1, 1, 1] [M1] (s48_5 x0 x1 x2 (mput x3 (Dt.S x4 0) (Dt.bool true))))) := fun J => by kernel_rfl
  exact (h jn).trans (by
    simp only [jn_eq, value_soundFields_j5_eq m M1 rec1 h1]
    rfl)
theorem value_soundFields_j3_eq (m : Nat) (M1 : Nat) (rec1 : List Dt → Int → Int → List Dt → Option Bool) (h1 : ∀ (x0 : List Dt) (x1 x2 : Int) (x3 : List Dt), l48 jn m [1, 1, 0, 1, 0] [] M1 (s48_1 x0 x1 x2 x3) = rec1 x0 x1 x2 x3) (x0 : List Dt) (x1 x2 : Int) (x3 : Bool) (x4 : List Dt) (x5 : Dt) : e48 jn m [1, 1, 0, 1, 0, 0, 1, 1, 0, 0, 1, 0, 1] [M1] (s48_3 x0 x1 x2 x3 x4 x5) = value_soundFields_j3 m (value_sound m) rec1 x0 x1 x2 x3 x4 x5 := by
  have h : ∀ J, e48 J m [1, 1, 0, 1, 0, 0, 1, 1, 0, 0, 1, 0, 1] [M1] (s48_3 x0 x1 x2 x3 x4 x5) =
    (bif x3 then
   some false
    else
   (J 0 7 0 (s48_4 x0 x1 x2 x4 x5) (e48 J m [1, 1, 0, 1, 0, 0, 1, 1, 0, 0, 1, 1] [M1] (s48_4 x0 x1 x2 x4 x5)))) := fun J => by kernel_rfl
  exact (h jn).trans (by
    simp only [jn_eq, value_soundFields_j4_eq m M1 rec1 h1]
    rfl)
theorem value_soundFields_j2_eq (m : Nat) (M1 : Nat) (rec1 : List Dt → Int → Int → List Dt → Option Bool) (h1 : ∀ (x0 : List Dt) (x1 x2 : Int) (x3 : List Dt), l48 jn m [1, 1, 0, 1, 0] [] M1 (s48_1 x0 x1 x2 x3) = rec1 x0 x1 x2 x3) (x0 : List Dt) (x1 x2 : Int) (x3 : List Dt) : e48 jn m [1, 1, 0, 1, 0, 0, 1, 1] [M1] (s48_2 x0 x1 x2 x3) = value_soundFields_j2 m (value_sound m) rec1 x0 x1 x2 x3 := by
  have h : ∀ J, e48 J m [1, 1, 0, 1, 0, 0, 1, 1] [M1] (s48_2 x0 x1 x2 x3) =
    ((idx x0 x2).bind fun v0 =>
   ((value_isName m (Dt.S v0 0)).bind fun r1 =>
   (bif (Bool.not r1) then
   (J 0 6 0 (s48_3 x0 x1 x2 true x3 v0) (e48 J m [1, 1, 0, 1, 0, 0, 1, 1, 0, 0, 1, 0, 1] [M1] (s48_3 x0 x1 x2 true x3 v0)))
   else
   (bif (Dt.toBool (mgetD x3 (Dt.S v0 0) (Dt.bool false))) then
   (J 0 6 0 (s48_3 x0 x1 x2 true x3 v0) (e48 J m [1, 1, 0, 1, 0, 0, 1, 1, 0, 0, 1, 0, 1] [M1] (s48_3 x0 x1 x2 true x3 v0)))
   else
   ((value_sound m (Dt.fld v0 1)).bind fun r2 =>
   (J 0 6 0 (s48_3 x0 x1 x2 (Bool.not r2) x3 v0) (e48 J m [1, 1, 0, 1, 0, 0, 1, 1, 0, 0, 1, 0, 1] [M1] (s48_3 x0 x1 x2 (Bool.not r2) x3 v0)))))))) := fun J => by kernel_rfl
  exact (h jn).trans (by
    simp only [jn_eq, value_soundFields_j3_eq m M1 rec1 h1]
    rfl)
theorem value_soundFields_j6_eq (m : Nat) : e48 jn m [1, 1, 1] [] s48_6 = value_soundFields_j6 m (value_sound m) := by
  have h : ∀ J, e48 J m [1, 1, 1] [] s48_6 =
    some true := fun J => by kernel_rfl
  exact (h jn).trans (rfl)
theorem value_soundFields_l1_eq (m : Nat) : ∀ (M1 : Nat) (x0 : List Dt) (x1 x2 : Int) (x3 : List Dt), l48 jn m [1, 1, 0, 1, 0] [] M1 (s48_1 x0 x1 x2 x3) = value_soundFields_l1 m (value_sound m) M1 x0 x1 x2 x3
  | 0, _, _, _, _ => rfl
  | M1 + 1, x0, x1, x2, x3 => by
    have h : ∀ J, l48 J m [1, 1, 0, 1, 0] [] (M1 + 1) (s48_1 x0 x1 x2 x3) =
    (bif (decide (x2 < x1)) then
   (J 0 4 0 (s48_2 x0 x1 x2 x3) (e48 J m [1, 1, 0, 1, 0, 0, 1, 1] [M1] (s48_2 x0 x1 x2 x3)))
    else
   (J 0 9 0 s48_6 (e48 J m [1, 1, 1] [] s48_6))) := fun J => by kernel_rfl
    refine (h jn).trans ?_
    simp only [jn_eq, value_soundFields_j2_eq m M1 (value_soundFields_l1 m (value_sound m) M1) (fun x0 x1 x2 x3 => value_soundFields_l1_eq m M1 x0 x1 x2 x3), value_soundFields_j6_eq m]
    rfl
theorem value_soundFields_j0_eq (m : Nat) (x0 : List Dt) (x1 x2 : Int) (x3 : List Dt) : e48 jn m [1, 1, 0, 1] [] (s48_0 x0 x1 x2 x3) = value_soundFields_j0 m (value_sound m) x0 x1 x2 x3 := by
  have h : ∀ J, e48 J m [1, 1, 0, 1] [] (s48_0 x0 x1 x2 x3) =
    (J 1 3 (Nat.succ m) (s48_1 x0 x1 x2 x3) (l48 J m [1, 1, 0, 1, 0] [] (Nat.succ m) (s48_1 x0 x1 x2 x3))) := fun J => by kernel_rfl
  exact (h jn).trans (by
    simp only [jn_eq, value_soundFields_l1_eq m]
    rfl)
theorem value_soundFields_eq (m : Nat) (a0 : List Dt) : e48 jn m [] [] ⟨[(.dat 23 (.lst a0))], [], 0⟩ = value_soundFields (m + 1) a0 := by
  have h : ∀ J, e48 J m [] [] ⟨[(.dat 23 (.lst a0))], [], 0⟩ =
    (J 0 3 0 (s48_0 a0 (List.length a0 : Int) 0 []) (e48 J m [1, 1, 0, 1] [] (s48_0 a0 (List.length a0 : Int) 0 []))) := fun J => by kernel_rfl
  refine (h jn).trans ?_
  simp only [jn_eq, value_soundFields_j0_eq m]
  rfl
noncomputable def d40 (q : Res) : Option Bool := match q with
  | (.dat T0 x0, []) => bif Nat.beq T0 4 then some x0.toBool else none
  | _ => none
theorem d40_sim {b : Res} {r : Bool} (h : d40 b = some r) : Sim Tryd.prog b ((.dat 4 (.bool r)), []) := by
  unfold d40 at h
  split at h
  · obtain ⟨hc, h2⟩ := bif_some h
    cases h2
    have e0 := beq_eq hc
    subst e0
    exact Sim.of (.of (.dat (.bool Tryd.underlying4)) rfl rfl) .nil
  · cases h
noncomputable def e40 (J : Nat → Nat → Nat → St → Option Bool → Option Bool) (m : Nat) (p ms : List Nat) (σ : St) := evAt Tryd.prog env (ct m) J (m + 1) 54 15 Tryd.f54 d40 p ms σ
noncomputable def l40 (J : Nat → Nat → Nat → St → Option Bool → Option Bool) (m : Nat) (p ms : List Nat) (M : Nat) (σ : St) := loopAt Tryd.prog env (ct m) J (m + 1) 54 15 Tryd.f54 d40 p ms M σ
theorem value_Valid_eq (m : Nat) (a0 : Dt) : e40 jn m [] [] ⟨[(.dat 25 a0)], [], 0⟩ = value_Valid (m + 1) a0 := by
  have h : ∀ J, e40 J m [] [] ⟨[(.dat 25 a0)], [], 0⟩ =
    ((value_Nodes m a0).bind fun r0 =>
   (bif (decide (r0 ≤ 1024)) then
   ((value_Depth m a0).bind fun r1 =>
   (bif (decide (r1 ≤ 16)) then
   ((value_sound m a0).bind fun r2 =>
   some r2)
   else
   some false))
   else
   some false)) := fun J => by kernel_rfl
  refine (h jn).trans ?_
  
  rfl
noncomputable def d39 (q : Res) : Option Bool := match q with
  | (.dat T0 x0, []) => bif Nat.beq T0 4 then some x0.toBool else none
  | _ => none
theorem d39_sim {b : Res} {r : Bool} (h : d39 b = some r) : Sim Tryd.prog b ((.dat 4 (.bool r)), []) := by
  unfold d39 at h
  split at h
  · obtain ⟨hc, h2⟩ := bif_some h
    cases h2
    have e0 := beq_eq hc
    subst e0
    exact Sim.of (.of (.dat (.bool Tryd.underlying4)) rfl rfl) .nil
  · cases h
noncomputable def e39 (J : Nat → Nat → Nat → St → Option Bool → Option Bool) (m : Nat) (p ms : List Nat) (σ : St) := evAt Tryd.prog env (ct m) J (m + 1) 57 33 Tryd.f57 d39 p ms σ
noncomputable def l39 (J : Nat → Nat → Nat → St → Option Bool → Option Bool) (m : Nat) (p ms : List Nat) (M : Nat) (σ : St) := loopAt Tryd.prog env (ct m) J (m + 1) 57 33 Tryd.f57 d39 p ms M σ
noncomputable def s39_0 (x0 : Dt) : St := ⟨tsOf [(3, (.ptr 0 [] 0))], [(.box 25 (.dat 25 x0))], 0⟩
theorem schema_bound_j0_eq (m : Nat) (x0 : Dt) : e39 jn m [1, 1] [] (s39_0 x0) = schema_bound_j0 m x0 := by
  have h : ∀ J, e39 J m [1, 1] [] (s39_0 x0) =
    (bif ((Dt.I x0 0) == 0) then
   (bif ((Dt.I x0 1) == 0) then
   (bif ((ByteArray.toList (Dt.S x0 2)) == []) then
   (bif ((List.length (Dt.L x0 3) : Int) == 0) then
   some ((List.length (Dt.L x0 4) : Int) == 0)
   else
   some false)
   else
   some false)
   else
   some false)
    else
   some false) := fun J => by kernel_rfl
  exact (h jn).trans (rfl)
theorem schema_bound_eq (m : Nat) (a0 : Bool) (a1 : Dt) : e39 jn m [] [] ⟨[(.dat 4 (.bool a0)), (.dat 25 a1)], [], 0⟩ = schema_bound (m + 1) a0 a1 := by
  have h : ∀ J, e39 J m [] [] ⟨[(.dat 4 (.bool a0)), (.dat 25 a1)], [], 0⟩ =
    (bif a0 then
   ((value_Valid m a1).bind fun r0 =>
   some r0)
    else
   (J 0 3 0 (s39_0 a1) (e39 J m [1, 1] [] (s39_0 a1)))) := fun J => by kernel_rfl
  refine (h jn).trans ?_
  simp only [jn_eq, schema_bound_j0_eq m]
  rfl
noncomputable def d26 (q : Res) : Option Int := match q with
  | (.dat T0 x0, []) => bif Nat.beq T0 33 then some x0.toInt else none
  | _ => none
theorem d26_sim {b : Res} {r : Int} (h : d26 b = some r) : Sim Tryd.prog b ((.dat 33 (.int r)), []) := by
  unfold d26 at h
  split at h
  · obtain ⟨hc, h2⟩ := bif_some h
    cases h2
    have e0 := beq_eq hc
    subst e0
    exact Sim.of (.of (.dat (.int Tryd.underlying33)) rfl rfl) .nil
  · cases h
noncomputable def e26 (J : Nat → Nat → Nat → St → Option Int → Option Int) (m : Nat) (p ms : List Nat) (σ : St) := evAt Tryd.prog env (ct m) J (m + 1) 31 97 Tryd.f31 d26 p ms σ
noncomputable def l26 (J : Nat → Nat → Nat → St → Option Int → Option Int) (m : Nat) (p ms : List Nat) (M : Nat) (σ : St) := loopAt Tryd.prog env (ct m) J (m + 1) 31 97 Tryd.f31 d26 p ms M σ
noncomputable def s26_5 (x0 : List Dt) (x1 x2 : Int) (x3 : Dt) (x4 : List Dt) : St := ⟨tsOf [(1, (.ptr 0 [] 0)), (3, (.row 1)), (13, (.dat 26 (.lst x0))), (14, (.dat 3 (.int x1))), (15, (.dat 3 (.int x2)))], [(.box 30 (.dat 30 x3)), (.map 89 x4)], 0⟩
noncomputable def s26_4 (x0 : ByteArray) (x1 : List Dt) (x2 x3 : Int) (x4 : Dt) (x5 : List Dt) : St := ⟨tsOf [(1, (.ptr 0 [] 0)), (3, (.row 1)), (5, (.dat 9 (.str x0))), (13, (.dat 26 (.lst x1))), (14, (.dat 3 (.int x2))), (15, (.dat 3 (.int x3)))], [(.box 30 (.dat 30 x4)), (.map 89 x5)], 0⟩
noncomputable def s26_3 (x0 : ByteArray) (x1 : List Dt) (x2 x3 : Int) (x4 : Bool) (x5 : Dt) (x6 : List Dt) : St := ⟨tsOf [(1, (.ptr 0 [] 0)), (3, (.row 1)), (5, (.dat 9 (.str x0))), (13, (.dat 26 (.lst x1))), (14, (.dat 3 (.int x2))), (15, (.dat 3 (.int x3))), (26, (.dat 4 (.bool x4)))], [(.box 30 (.dat 30 x5)), (.map 89 x6)], 0⟩
noncomputable def s26_2 (x0 : List Dt) (x1 x2 : Int) (x3 : Dt) (x4 : List Dt) : St := ⟨tsOf [(1, (.ptr 0 [] 0)), (3, (.row 1)), (13, (.dat 26 (.lst x0))), (14, (.dat 3 (.int x1))), (15, (.dat 3 (.int x2)))], [(.box 30 (.dat 30 x3)), (.map 89 x4)], 0⟩
noncomputable def s26_12 (x0 : List Dt) (x1 x2 : Int) (x3 : Dt) (x4 : List Dt) : St := ⟨tsOf [(1, (.ptr 0 [] 0)), (6, (.row 1)), (32, (.dat 27 (.lst x0))), (33, (.dat 3 (.int x1))), (34, (.dat 3 (.int x2)))], [(.box 30 (.dat 30 x3)), (.map 89 x4)], 0⟩
noncomputable def s26_11 (x0 : List Dt) (x1 x2 : Int) (x3 : Dt) (x4 : List Dt) (x5 : Dt) : St := ⟨tsOf [(1, (.ptr 0 [] 0)), (6, (.row 1)), (8, (.ptr 2 [] 0)), (32, (.dat 27 (.lst x0))), (33, (.dat 3 (.int x1))), (34, (.dat 3 (.int x2)))], [(.box 30 (.dat 30 x3)), (.map 89 x4), (.box 51 (.dat 51 x5))], 0⟩
noncomputable def s26_10 (x0 : List Dt) (x1 x2 : Int) (x3 : Bool) (x4 : Dt) (x5 : List Dt) (x6 : Dt) : St := ⟨tsOf [(1, (.ptr 0 [] 0)), (6, (.row 1)), (8, (.ptr 2 [] 0)), (32, (.dat 27 (.lst x0))), (33, (.dat 3 (.int x1))), (34, (.dat 3 (.int x2))), (47, (.dat 4 (.bool x3)))], [(.box 30 (.dat 30 x4)), (.map 89 x5), (.box 51 (.dat 51 x6))], 0⟩
noncomputable def s26_9 (x0 : List Dt) (x1 x2 : Int) (x3 : Dt) (x4 : List Dt) : St := ⟨tsOf [(1, (.ptr 0 [] 0)), (6, (.row 1)), (32, (.dat 27 (.lst x0))), (33, (.dat 3 (.int x1))), (34, (.dat 3 (.int x2)))], [(.box 30 (.dat 30 x3)), (.map 89 x4)], 0⟩
noncomputable def s26_21 (x0 : List Dt) (x1 x2 : Int) : St := ⟨tsOf [(87, (.dat 22 (.lst x0))), (88, (.dat 3 (.int x1))), (89, (.dat 3 (.int x2)))], [], 0⟩
noncomputable def s26_20 (x0 : List Dt) (x1 x2 : Int) : St := ⟨tsOf [(87, (.dat 22 (.lst x0))), (88, (.dat 3 (.int x1))), (89, (.dat 3 (.int x2)))], [], 0⟩
noncomputable def s26_22 : St := ⟨tsOf [], [], 0⟩
noncomputable def s26_19 (x0 : List Dt) (x1 x2 : Int) : St := ⟨tsOf [(87, (.dat 22 (.lst x0))), (88, (.dat 3 (.int x1))), (89, (.dat 3 (.int x2)))], [], 0⟩
noncomputable def s26_18 (x0 : List Dt) (x1 x2 : Int) : St := ⟨tsOf [(87, (.dat 22 (.lst x0))), (88, (.dat 3 (.int x1))), (89, (.dat 3 (.int x2)))], [], 0⟩
noncomputable def s26_17 (x0 : Dt) : St := ⟨tsOf [(1, (.ptr 0 [] 0))], [(.box 30 (.dat 30 x0))], 0⟩
noncomputable def s26_16 (x0 : Bool) (x1 : Dt) : St := ⟨tsOf [(1, (.ptr 0 [] 0)), (85, (.dat 4 (.bool x0)))], [(.box 30 (.dat 30 x1))], 0⟩
noncomputable def s26_15 (x0 : Dt) : St := ⟨tsOf [(1, (.ptr 0 [] 0))], [(.box 30 (.dat 30 x0))], 0⟩
noncomputable def s26_14 (x0 : Bool) (x1 : Dt) : St := ⟨tsOf [(1, (.ptr 0 [] 0)), (71, (.dat 4 (.bool x0)))], [(.box 30 (.dat 30 x1))], 0⟩
noncomputable def s26_13 (x0 : Dt) : St := ⟨tsOf [(1, (.ptr 0 [] 0))], [(.box 30 (.dat 30 x0))], 0⟩
noncomputable def s26_8 (x0 : List Dt) (x1 x2 : Int) (x3 : Dt) (x4 : List Dt) : St := ⟨tsOf [(1, (.ptr 0 [] 0)), (6, (.row 1)), (32, (.dat 27 (.lst x0))), (33, (.dat 3 (.int x1))), (34, (.dat 3 (.int x2)))], [(.box 30 (.dat 30 x3)), (.map 89 x4)], 0⟩
noncomputable def s26_7 (x0 : List Dt) (x1 x2 : Int) (x3 : Dt) (x4 : List Dt) : St := ⟨tsOf [(1, (.ptr 0 [] 0)), (6, (.row 1)), (32, (.dat 27 (.lst x0))), (33, (.dat 3 (.int x1))), (34, (.dat 3 (.int x2)))], [(.box 30 (.dat 30 x3)), (.map 89 x4)], 0⟩
noncomputable def s26_6 (x0 : Dt) : St := ⟨tsOf [(1, (.ptr 0 [] 0))], [(.box 30 (.dat 30 x0))], 0⟩
noncomputable def s26_1 (x0 : List Dt) (x1 x2 : Int) (x3 : Dt) (x4 : List Dt) : St := ⟨tsOf [(1, (.ptr 0 [] 0)), (3, (.row 1)), (13, (.dat 26 (.lst x0))), (14, (.dat 3 (.int x1))), (15, (.dat 3 (.int x2)))], [(.box 30 (.dat 30 x3)), (.map 89 x4)], 0⟩
noncomputable def s26_0 (x0 : List Dt) (x1 x2 : Int) (x3 : Dt) (x4 : List Dt) : St := ⟨tsOf [(1, (.ptr 0 [] 0)), (3, (.row 1)), (13, (.dat 26 (.lst x0))), (14, (.dat 3 (.int x1))), (15, (.dat 3 (.int x2)))], [(.box 30 (.dat 30 x3)), (.map 89 x4)], 0⟩
theorem schema_checkOne_j5_eq (m : Nat) (M1 : Nat) (rec1 : List Dt → Int → Int → Dt → List Dt → Option Int) (h1 : ∀ (x0 : List Dt) (x1 x2 : Int) (x3 : Dt) (x4 : List Dt), l26 jn m [1, 1, 0, 1, 0] [] M1 (s26_1 x0 x1 x2 x3 x4) = rec1 x0 x1 x2 x3 x4) (x0 : List Dt) (x1 x2 : Int) (x3 : Dt) (x4 : List Dt) : e26 jn m [1, 1, 0, 1, 0, 0, 1, 1, 1] [M1] (s26_5 x0 x1 x2 x3 x4) = schema_checkOne_j5 m rec1 x0 x1 x2 x3 x4 := by
  have h : ∀ J, e26 J m [1, 1, 0, 1, 0, 0, 1, 1, 1] [M1] (s26_5 x0 x1 x2 x3 x4) =
    (J 1 3 M1 (s26_1 x0 x1 (IntKind.wrap .i64 (x2 + 1)) x3 x4) (l26 J m [1, 1, 0, 1, 0] [] M1 (s26_1 x0 x1 (IntKind.wrap .i64 (x2 + 1)) x3 x4))) := fun J => by kernel_rfl
  exact (h jn).trans (by
    simp only [jn_eq, h1]
    rfl)
theorem schema_checkOne_j4_eq (m : Nat) (M1 : Nat) (rec1 : List Dt → Int → Int → Dt → List Dt → Option Int) (h1 : ∀ (x0 : List Dt) (x1 x2 : Int) (x3 : Dt) (x4 : List Dt), l26 jn m [1, 1, 0, 1, 0] [] M1 (s26_1 x0 x1 x2 x3 x4) = rec1 x0 x1 x2 x3 x4) (x0 : ByteArray) (x1 : List Dt) (x2 x3 : Int) (x4 : Dt) (x5 : List Dt) : e26 jn m [1, 1, 0, 1, 0, 0, 1, 1, 0, 0, 1, 1] [M1] (s26_4 x0 x1 x2 x3 x4 x5) = schema_checkOne_j4 m rec1 x0 x1 x2 x3 x4 x5 := by
  have h : ∀ J, e26 J m [1, 1, 0, 1, 0, 0, 1, 1, 0, 0, 1, 1] [M1] (s26_4 x0 x1 x2 x3 x4 x5) =
    (J 0 8 0 (s26_5 x1 x2 x3 x4 (mput x5 x0 (Dt.bool true))) (e26 J m [1, 1, 0, 1, 0, 0, 1, 1, 1] [M1] (s26_5 x1 x2 x3 x4 (mput x5 x0 (Dt.bool true))))) := fun J => by kernel_rfl
  exact (h jn).trans (by
    simp only [jn_eq, schema_checkOne_j5_eq m M1 rec1 h1]
    rfl)
theorem schema_checkOne_j3_eq (m : Nat) (M1 : Nat) (rec1 : List Dt → Int → Int → Dt → List Dt → Option Int) (h1 : ∀ (x0 : List Dt) (x1 x2 : Int) (x3 : Dt) (x4 : List Dt), l26 jn m [1, 1, 0, 1, 0] [] M1 (s26_1 x0 x1 x2 x3 x4) = rec1 x0 x1 x2 x3 x4) (x0 : ByteArray) (x1 : List Dt) (x2 x3 : Int) (x4 : Bool) (x5 : Dt) (x6 : List Dt) : e26 jn m [1, 1, 0, 1, 0, 0, 1, 1, 0, 0, 1, 0, 1] [M1] (s26_3 x0 x1 x2 x3 x4 x5 x6) = schema_checkOne_j3 m rec1 x0 x1 x2 x3 x4 x5 x6 := by
  have h : ∀ J, e26 J m [1, 1, 0, 1, 0, 0, 1, 1, 0, 0, 1, 0, 1] [M1] (s26_3 x0 x1 x2 x3 x4 x5 x6) =
    (bif x4 then
   some 9
    else
   (J 0 7 0 (s26_4 x0 x1 x2 x3 x5 x6) (e26 J m [1, 1, 0, 1, 0, 0, 1, 1, 0, 0, 1, 1] [M1] (s26_4 x0 x1 x2 x3 x5 x6)))) := fun J => by kernel_rfl
  exact (h jn).trans (by
    simp only [jn_eq, schema_checkOne_j4_eq m M1 rec1 h1]
    rfl)
theorem schema_checkOne_j2_eq (m : Nat) (M1 : Nat) (rec1 : List Dt → Int → Int → Dt → List Dt → Option Int) (h1 : ∀ (x0 : List Dt) (x1 x2 : Int) (x3 : Dt) (x4 : List Dt), l26 jn m [1, 1, 0, 1, 0] [] M1 (s26_1 x0 x1 x2 x3 x4) = rec1 x0 x1 x2 x3 x4) (x0 : List Dt) (x1 x2 : Int) (x3 : Dt) (x4 : List Dt) : e26 jn m [1, 1, 0, 1, 0, 0, 1, 1] [M1] (s26_2 x0 x1 x2 x3 x4) = schema_checkOne_j2 m rec1 x0 x1 x2 x3 x4 := by
  have h : ∀ J, e26 J m [1, 1, 0, 1, 0, 0, 1, 1] [M1] (s26_2 x0 x1 x2 x3 x4) =
    ((idx x0 x2).bind fun v0 =>
   ((schema_isName m (Dt.toStr v0)).bind fun r1 =>
   (bif (Bool.not r1) then
   (J 0 6 0 (s26_3 (Dt.toStr v0) x0 x1 x2 true x3 x4) (e26 J m [1, 1, 0, 1, 0, 0, 1, 1, 0, 0, 1, 0, 1] [M1] (s26_3 (Dt.toStr v0) x0 x1 x2 true x3 x4)))
   else
   (J 0 6 0 (s26_3 (Dt.toStr v0) x0 x1 x2 (Dt.toBool (mgetD x4 (Dt.toStr v0) (Dt.bool false))) x3 x4) (e26 J m [1, 1, 0, 1, 0, 0, 1, 1, 0, 0, 1, 0, 1] [M1] (s26_3 (Dt.toStr v0) x0 x1 x2 (Dt.toBool (mgetD x4 (Dt.toStr v0) (Dt.bool false))) x3 x4)))))) := fun J => by kernel_rfl
  exact (h jn).trans (by
    simp only [jn_eq, schema_checkOne_j3_eq m M1 rec1 h1]
    rfl)
theorem schema_checkOne_j12_eq (m : Nat) (M8 : Nat) (rec8 : List Dt → Int → Int → Dt → List Dt → Option Int) (h8 : ∀ (x0 : List Dt) (x1 x2 : Int) (x3 : Dt) (x4 : List Dt), l26 jn m [1, 1, 1, 1, 0, 1, 0] [] M8 (s26_8 x0 x1 x2 x3 x4) = rec8 x0 x1 x2 x3 x4) (x0 : List Dt) (x1 x2 : Int) (x3 : Dt) (x4 : List Dt) : e26 jn m [1, 1, 1, 1, 0, 1, 0, 0, 1, 1, 1] [M8] (s26_12 x0 x1 x2 x3 x4) = schema_checkOne_j12 m rec8 x0 x1 x2 x3 x4 := by
  have h : ∀ J, e26 J m [1, 1, 1, 1, 0, 1, 0, 0, 1, 1, 1] [M8] (s26_12 x0 x1 x2 x3 x4) =
    (J 1 11 M8 (s26_8 x0 x1 (IntKind.wrap .i64 (x2 + 1)) x3 x4) (l26 J m [1, 1, 1, 1, 0, 1, 0] [] M8 (s26_8 x0 x1 (IntKind.wrap .i64 (x2 + 1)) x3 x4))) := fun J => by kernel_rfl
  exact (h jn).trans (by
    simp only [jn_eq, h8]
    rfl)
theorem schema_checkOne_j11_eq (m : Nat) (M8 : Nat) (rec8 : List Dt → Int → Int → Dt → List Dt → Option Int) (h8 : ∀ (x0 : List Dt) (x1 x2 : Int) (x3 : Dt) (x4 : List Dt), l26 jn m [1, 1, 1, 1, 0, 1, 0] [] M8 (s26_8 x0 x1 x2 x3 x4) = rec8 x0 x1 x2 x3 x4) (x0 : List Dt) (x1 x2 : Int) (x3 : Dt) (x4 : List Dt) (x5 : Dt) : e26 jn m [1, 1, 1, 1, 0, 1, 0, 0, 1, 1, 0, 0, 1, 1] [M8] (s26_11 x0 x1 x2 x3 x4 x5) = schema_checkOne_j11 m rec8 x0 x1 x2 x3 x4 x5 := by
  have h : ∀ J, e26 J m [1, 1, 1, 1, 0, 1, 0, 0, 1, 1, 0, 0, 1, 1] [M8] (s26_11 x0 x1 x2 x3 x4 x5) =
    (J 0 16 0 (s26_12 x0 x1 x2 x3 (mput x4 (Dt.S x5 0) (Dt.bool true))) (e26 J m [1, 1, 1, 1, 0, 1, 0, 0, 1, 1, 1] [M8] (s26_12 x0 x1 x2 x3 (mput x4 (Dt.S x5 0) (Dt.bool true))))) := fun J => by kernel_rfl
  exact (h jn).trans (by
    simp only [jn_eq, schema_checkOne_j12_eq m M8 rec8 h8]
    rfl)
theorem schema_checkOne_j10_eq (m : Nat) (M8 : Nat) (rec8 : List Dt → Int → Int → Dt → List Dt → Option Int) (h8 : ∀ (x0 : List Dt) (x1 x2 : Int) (x3 : Dt) (x4 : List Dt), l26 jn m [1, 1, 1, 1, 0, 1, 0] [] M8 (s26_8 x0 x1 x2 x3 x4) = rec8 x0 x1 x2 x3 x4) (x0 : List Dt) (x1 x2 : Int) (x3 : Bool) (x4 : Dt) (x5 : List Dt) (x6 : Dt) : e26 jn m [1, 1, 1, 1, 0, 1, 0, 0, 1, 1, 0, 0, 1, 0, 1] [M8] (s26_10 x0 x1 x2 x3 x4 x5 x6) = schema_checkOne_j10 m rec8 x0 x1 x2 x3 x4 x5 x6 := by
  have h : ∀ J, e26 J m [1, 1, 1, 1, 0, 1, 0, 0, 1, 1, 0, 0, 1, 0, 1] [M8] (s26_10 x0 x1 x2 x3 x4 x5 x6) =
    (bif x3 then
   some 9
    else
   (J 0 15 0 (s26_11 x0 x1 x2 x4 x5 x6) (e26 J m [1, 1, 1, 1, 0, 1, 0, 0, 1, 1, 0, 0, 1, 1] [M8] (s26_11 x0 x1 x2 x4 x5 x6)))) := fun J => by kernel_rfl
  exact (h jn).trans (by
    simp only [jn_eq, schema_checkOne_j11_eq m M8 rec8 h8]
    rfl)
theorem schema_checkOne_j9_eq (m : Nat) (M8 : Nat) (rec8 : List Dt → Int → Int → Dt → List Dt → Option Int) (h8 : ∀ (x0 : List Dt) (x1 x2 : Int) (x3 : Dt) (x4 : List Dt), l26 jn m [1, 1, 1, 1, 0, 1, 0] [] M8 (s26_8 x0 x1 x2 x3 x4) = rec8 x0 x1 x2 x3 x4) (x0 : List Dt) (x1 x2 : Int) (x3 : Dt) (x4 : List Dt) : e26 jn m [1, 1, 1, 1, 0, 1, 0, 0, 1, 1] [M8] (s26_9 x0 x1 x2 x3 x4) = schema_checkOne_j9 m rec8 x0 x1 x2 x3 x4 := by
  have h : ∀ J, e26 J m [1, 1, 1, 1, 0, 1, 0, 0, 1, 1] [M8] (s26_9 x0 x1 x2 x3 x4) =
    ((idx x0 x2).bind fun v2 =>
   ((schema_isName m (Dt.S v2 0)).bind fun r3 =>
   (bif (Bool.not r3) then
   (J 0 14 0 (s26_10 x0 x1 x2 true x3 x4 v2) (e26 J m [1, 1, 1, 1, 0, 1, 0, 0, 1, 1, 0, 0, 1, 0, 1] [M8] (s26_10 x0 x1 x2 true x3 x4 v2)))
   else
   (J 0 14 0 (s26_10 x0 x1 x2 (Dt.toBool (mgetD x4 (Dt.S v2 0) (Dt.bool false))) x3 x4 v2) (e26 J m [1, 1, 1, 1, 0, 1, 0, 0, 1, 1, 0, 0, 1, 0, 1] [M8] (s26_10 x0 x1 x2 (Dt.toBool (mgetD x4 (Dt.S v2 0) (Dt.bool false))) x3 x4 v2)))))) := fun J => by kernel_rfl
  exact (h jn).trans (by
    simp only [jn_eq, schema_checkOne_j10_eq m M8 rec8 h8]
    rfl)
theorem schema_checkOne_j21_eq (m : Nat) (M19 : Nat) (rec19 : List Dt → Int → Int → Option Int) (h19 : ∀ (x0 : List Dt) (x1 x2 : Int), l26 jn m [1, 1, 1, 1, 1, 1, 1, 0, 1, 0] [] M19 (s26_19 x0 x1 x2) = rec19 x0 x1 x2) (x0 : List Dt) (x1 x2 : Int) : e26 jn m [1, 1, 1, 1, 1, 1, 1, 0, 1, 0, 0, 1, 1, 1] [M19] (s26_21 x0 x1 x2) = schema_checkOne_j21 m rec19 x0 x1 x2 := by
  have h : ∀ J, e26 J m [1, 1, 1, 1, 1, 1, 1, 0, 1, 0, 0, 1, 1, 1] [M19] (s26_21 x0 x1 x2) =
    (J 1 22 M19 (s26_19 x0 x1 (IntKind.wrap .i64 (x2 + 1))) (l26 J m [1, 1, 1, 1, 1, 1, 1, 0, 1, 0] [] M19 (s26_19 x0 x1 (IntKind.wrap .i64 (x2 + 1))))) := fun J => by kernel_rfl
  exact (h jn).trans (by
    simp only [jn_eq, h19]
    rfl)
theorem schema_checkOne_j20_eq (m : Nat) (M19 : Nat) (rec19 : List Dt → Int → Int → Option Int) (h19 : ∀ (x0 : List Dt) (x1 x2 : Int), l26 jn m [1, 1, 1, 1, 1, 1, 1, 0, 1, 0] [] M19 (s26_19 x0 x1 x2) = rec19 x0 x1 x2) (x0 : List Dt) (x1 x2 : Int) : e26 jn m [1, 1, 1, 1, 1, 1, 1, 0, 1, 0, 0, 1, 1] [M19] (s26_20 x0 x1 x2) = schema_checkOne_j20 m rec19 x0 x1 x2 := by
  have h : ∀ J, e26 J m [1, 1, 1, 1, 1, 1, 1, 0, 1, 0, 0, 1, 1] [M19] (s26_20 x0 x1 x2) =
    ((idx x0 x2).bind fun v5 =>
   ((value_Valid m v5).bind fun r6 =>
   (bif (Bool.not r6) then
   some 8
   else
   (J 0 26 0 (s26_21 x0 x1 x2) (e26 J m [1, 1, 1, 1, 1, 1, 1, 0, 1, 0, 0, 1, 1, 1] [M19] (s26_21 x0 x1 x2)))))) := fun J => by kernel_rfl
  exact (h jn).trans (by
    simp only [jn_eq, schema_checkOne_j21_eq m M19 rec19 h19]
    rfl)
theorem schema_checkOne_j22_eq (m : Nat) : e26 jn m [1, 1, 1, 1, 1, 1, 1, 1] [] s26_22 = schema_checkOne_j22 m := by
  have h : ∀ J, e26 J m [1, 1, 1, 1, 1, 1, 1, 1] [] s26_22 =
    some 0 := fun J => by kernel_rfl
  exact (h jn).trans (rfl)
theorem schema_checkOne_l19_eq (m : Nat) : ∀ (M19 : Nat) (x0 : List Dt) (x1 x2 : Int), l26 jn m [1, 1, 1, 1, 1, 1, 1, 0, 1, 0] [] M19 (s26_19 x0 x1 x2) = schema_checkOne_l19 m M19 x0 x1 x2
  | 0, _, _, _ => rfl
  | M19 + 1, x0, x1, x2 => by
    have h : ∀ J, l26 J m [1, 1, 1, 1, 1, 1, 1, 0, 1, 0] [] (M19 + 1) (s26_19 x0 x1 x2) =
    (bif (decide (x2 < x1)) then
   (J 0 23 0 (s26_20 x0 x1 x2) (e26 J m [1, 1, 1, 1, 1, 1, 1, 0, 1, 0, 0, 1, 1] [M19] (s26_20 x0 x1 x2)))
    else
   (J 0 27 0 s26_22 (e26 J m [1, 1, 1, 1, 1, 1, 1, 1] [] s26_22))) := fun J => by kernel_rfl
    refine (h jn).trans ?_
    simp only [jn_eq, schema_checkOne_j20_eq m M19 (schema_checkOne_l19 m M19) (fun x0 x1 x2 => schema_checkOne_l19_eq m M19 x0 x1 x2), schema_checkOne_j22_eq m]
    rfl
theorem schema_checkOne_j18_eq (m : Nat) (x0 : List Dt) (x1 x2 : Int) : e26 jn m [1, 1, 1, 1, 1, 1, 1, 0, 1] [] (s26_18 x0 x1 x2) = schema_checkOne_j18 m x0 x1 x2 := by
  have h : ∀ J, e26 J m [1, 1, 1, 1, 1, 1, 1, 0, 1] [] (s26_18 x0 x1 x2) =
    (J 1 22 (Nat.succ m) (s26_19 x0 x1 x2) (l26 J m [1, 1, 1, 1, 1, 1, 1, 0, 1, 0] [] (Nat.succ m) (s26_19 x0 x1 x2))) := fun J => by kernel_rfl
  exact (h jn).trans (by
    simp only [jn_eq, schema_checkOne_l19_eq m]
    rfl)
theorem schema_checkOne_j17_eq (m : Nat) (x0 : Dt) : e26 jn m [1, 1, 1, 1, 1, 1, 1] [] (s26_17 x0) = schema_checkOne_j17 m x0 := by
  have h : ∀ J, e26 J m [1, 1, 1, 1, 1, 1, 1] [] (s26_17 x0) =
    (J 0 22 0 (s26_18 (Dt.L x0 5) (List.length (Dt.L x0 5) : Int) 0) (e26 J m [1, 1, 1, 1, 1, 1, 1, 0, 1] [] (s26_18 (Dt.L x0 5) (List.length (Dt.L x0 5) : Int) 0))) := fun J => by kernel_rfl
  exact (h jn).trans (by
    simp only [jn_eq, schema_checkOne_j18_eq m]
    rfl)
theorem schema_checkOne_j16_eq (m : Nat) (x0 : Bool) (x1 : Dt) : e26 jn m [1, 1, 1, 1, 1, 1, 0, 1] [] (s26_16 x0 x1) = schema_checkOne_j16 m x0 x1 := by
  have h : ∀ J, e26 J m [1, 1, 1, 1, 1, 1, 0, 1] [] (s26_16 x0 x1) =
    (bif x0 then
   some 8
    else
   (J 0 21 0 (s26_17 x1) (e26 J m [1, 1, 1, 1, 1, 1, 1] [] (s26_17 x1)))) := fun J => by kernel_rfl
  exact (h jn).trans (by
    simp only [jn_eq, schema_checkOne_j17_eq m]
    rfl)
theorem schema_checkOne_j15_eq (m : Nat) (x0 : Dt) : e26 jn m [1, 1, 1, 1, 1, 1] [] (s26_15 x0) = schema_checkOne_j15 m x0 := by
  have h : ∀ J, e26 J m [1, 1, 1, 1, 1, 1] [] (s26_15 x0) =
    ((schema_bound m (Dt.B x0 1) (Dt.fld x0 2)).bind fun r4 =>
   (bif (Bool.not r4) then
   (J 0 20 0 (s26_16 true x0) (e26 J m [1, 1, 1, 1, 1, 1, 0, 1] [] (s26_16 true x0)))
   else
   ((schema_bound m (Dt.B x0 3) (Dt.fld x0 4)).bind fun r7 =>
   (J 0 20 0 (s26_16 (Bool.not r7) x0) (e26 J m [1, 1, 1, 1, 1, 1, 0, 1] [] (s26_16 (Bool.not r7) x0)))))) := fun J => by kernel_rfl
  exact (h jn).trans (by
    simp only [jn_eq, schema_checkOne_j16_eq m]
    rfl)
theorem schema_checkOne_j14_eq (m : Nat) (x0 : Bool) (x1 : Dt) : e26 jn m [1, 1, 1, 1, 1, 0, 1] [] (s26_14 x0 x1) = schema_checkOne_j14 m x0 x1 := by
  have h : ∀ J, e26 J m [1, 1, 1, 1, 1, 0, 1] [] (s26_14 x0 x1) =
    (bif x0 then
   some 1
    else
   (J 0 19 0 (s26_15 x1) (e26 J m [1, 1, 1, 1, 1, 1] [] (s26_15 x1)))) := fun J => by kernel_rfl
  exact (h jn).trans (by
    simp only [jn_eq, schema_checkOne_j15_eq m]
    rfl)
theorem schema_checkOne_j13_eq (m : Nat) (x0 : Dt) : e26 jn m [1, 1, 1, 1, 1] [] (s26_13 x0) = schema_checkOne_j13 m x0 := by
  have h : ∀ J, e26 J m [1, 1, 1, 1, 1] [] (s26_13 x0) =
    (bif ((bicI IntKind.i64 (Dt.I x0 0) 4094) != 0) then
   (J 0 18 0 (s26_14 true x0) (e26 J m [1, 1, 1, 1, 1, 0, 1] [] (s26_14 true x0)))
    else
   (bif (decide ((Dt.I x0 6) < 0)) then
   (J 0 18 0 (s26_14 true x0) (e26 J m [1, 1, 1, 1, 1, 0, 1] [] (s26_14 true x0)))
   else
   (bif (decide ((Dt.I x0 7) < (-1))) then
   (J 0 18 0 (s26_14 true x0) (e26 J m [1, 1, 1, 1, 1, 0, 1] [] (s26_14 true x0)))
   else
   (J 0 18 0 (s26_14 (decide (1 < (List.length (Dt.L x0 11) : Int))) x0) (e26 J m [1, 1, 1, 1, 1, 0, 1] [] (s26_14 (decide (1 < (List.length (Dt.L x0 11) : Int))) x0)))))) := fun J => by kernel_rfl
  exact (h jn).trans (by
    simp only [jn_eq, schema_checkOne_j14_eq m]
    rfl)
theorem schema_checkOne_l8_eq (m : Nat) : ∀ (M8 : Nat) (x0 : List Dt) (x1 x2 : Int) (x3 : Dt) (x4 : List Dt), l26 jn m [1, 1, 1, 1, 0, 1, 0] [] M8 (s26_8 x0 x1 x2 x3 x4) = schema_checkOne_l8 m M8 x0 x1 x2 x3 x4
  | 0, _, _, _, _, _ => rfl
  | M8 + 1, x0, x1, x2, x3, x4 => by
    have h : ∀ J, l26 J m [1, 1, 1, 1, 0, 1, 0] [] (M8 + 1) (s26_8 x0 x1 x2 x3 x4) =
    (bif (decide (x2 < x1)) then
   (J 0 12 0 (s26_9 x0 x1 x2 x3 x4) (e26 J m [1, 1, 1, 1, 0, 1, 0, 0, 1, 1] [M8] (s26_9 x0 x1 x2 x3 x4)))
    else
   (J 0 17 0 (s26_13 x3) (e26 J m [1, 1, 1, 1, 1] [] (s26_13 x3)))) := fun J => by kernel_rfl
    refine (h jn).trans ?_
    simp only [jn_eq, schema_checkOne_j9_eq m M8 (schema_checkOne_l8 m M8) (fun x0 x1 x2 x3 x4 => schema_checkOne_l8_eq m M8 x0 x1 x2 x3 x4), schema_checkOne_j13_eq m]
    rfl
theorem schema_checkOne_j7_eq (m : Nat) (x0 : List Dt) (x1 x2 : Int) (x3 : Dt) (x4 : List Dt) : e26 jn m [1, 1, 1, 1, 0, 1] [] (s26_7 x0 x1 x2 x3 x4) = schema_checkOne_j7 m x0 x1 x2 x3 x4 := by
  have h : ∀ J, e26 J m [1, 1, 1, 1, 0, 1] [] (s26_7 x0 x1 x2 x3 x4) =
    (J 1 11 (Nat.succ m) (s26_8 x0 x1 x2 x3 x4) (l26 J m [1, 1, 1, 1, 0, 1, 0] [] (Nat.succ m) (s26_8 x0 x1 x2 x3 x4))) := fun J => by kernel_rfl
  exact (h jn).trans (by
    simp only [jn_eq, schema_checkOne_l8_eq m]
    rfl)
theorem schema_checkOne_j6_eq (m : Nat) (x0 : Dt) : e26 jn m [1, 1, 1] [] (s26_6 x0) = schema_checkOne_j6 m x0 := by
  have h : ∀ J, e26 J m [1, 1, 1] [] (s26_6 x0) =
    (J 0 11 0 (s26_7 (Dt.L x0 9) (List.length (Dt.L x0 9) : Int) 0 x0 []) (e26 J m [1, 1, 1, 1, 0, 1] [] (s26_7 (Dt.L x0 9) (List.length (Dt.L x0 9) : Int) 0 x0 []))) := fun J => by kernel_rfl
  exact (h jn).trans (by
    simp only [jn_eq, schema_checkOne_j7_eq m]
    rfl)
theorem schema_checkOne_l1_eq (m : Nat) : ∀ (M1 : Nat) (x0 : List Dt) (x1 x2 : Int) (x3 : Dt) (x4 : List Dt), l26 jn m [1, 1, 0, 1, 0] [] M1 (s26_1 x0 x1 x2 x3 x4) = schema_checkOne_l1 m M1 x0 x1 x2 x3 x4
  | 0, _, _, _, _, _ => rfl
  | M1 + 1, x0, x1, x2, x3, x4 => by
    have h : ∀ J, l26 J m [1, 1, 0, 1, 0] [] (M1 + 1) (s26_1 x0 x1 x2 x3 x4) =
    (bif (decide (x2 < x1)) then
   (J 0 4 0 (s26_2 x0 x1 x2 x3 x4) (e26 J m [1, 1, 0, 1, 0, 0, 1, 1] [M1] (s26_2 x0 x1 x2 x3 x4)))
    else
   (J 0 9 0 (s26_6 x3) (e26 J m [1, 1, 1] [] (s26_6 x3)))) := fun J => by kernel_rfl
    refine (h jn).trans ?_
    simp only [jn_eq, schema_checkOne_j2_eq m M1 (schema_checkOne_l1 m M1) (fun x0 x1 x2 x3 x4 => schema_checkOne_l1_eq m M1 x0 x1 x2 x3 x4), schema_checkOne_j6_eq m]
    rfl
theorem schema_checkOne_j0_eq (m : Nat) (x0 : List Dt) (x1 x2 : Int) (x3 : Dt) (x4 : List Dt) : e26 jn m [1, 1, 0, 1] [] (s26_0 x0 x1 x2 x3 x4) = schema_checkOne_j0 m x0 x1 x2 x3 x4 := by
  have h : ∀ J, e26 J m [1, 1, 0, 1] [] (s26_0 x0 x1 x2 x3 x4) =
    (J 1 3 (Nat.succ m) (s26_1 x0 x1 x2 x3 x4) (l26 J m [1, 1, 0, 1, 0] [] (Nat.succ m) (s26_1 x0 x1 x2 x3 x4))) := fun J => by kernel_rfl
  exact (h jn).trans (by
    simp only [jn_eq, schema_checkOne_l1_eq m]
    rfl)
theorem schema_checkOne_eq (m : Nat) (a0 : Dt) : e26 jn m [] [] ⟨[(.dat 30 a0)], [], 0⟩ = schema_checkOne (m + 1) a0 := by
  have h : ∀ J, e26 J m [] [] ⟨[(.dat 30 a0)], [], 0⟩ =
    (J 0 3 0 (s26_0 (Dt.L a0 8) (List.length (Dt.L a0 8) : Int) 0 a0 []) (e26 J m [1, 1, 0, 1] [] (s26_0 (Dt.L a0 8) (List.length (Dt.L a0 8) : Int) 0 a0 []))) := fun J => by kernel_rfl
  refine (h jn).trans ?_
  simp only [jn_eq, schema_checkOne_j0_eq m]
  rfl
noncomputable def d25 (q : Res) : Option (Int × Int) := match q with
  | (.dat T0 x0, [.box T1 (.dat T2 x2)]) => bif (Nat.beq T0 33 && (Nat.beq T1 3 && Nat.beq T2 3)) then some (x0.toInt, x2.toInt) else none
  | _ => none
theorem d25_sim {b : Res} {r : Int × Int} (h : d25 b = some r) : Sim Tryd.prog b ((.dat 33 (.int r.1)), [(.box 3 (.dat 3 (.int r.2)))]) := by
  unfold d25 at h
  split at h
  · obtain ⟨hc, h2⟩ := bif_some h
    cases h2
    have e0 := beq_eq (and_l hc)
    have e1 := beq_eq (and_l (and_r hc))
    have e2 := beq_eq (and_r (and_r hc))
    subst e0 e1 e2
    exact Sim.of (.of (.dat (.int Tryd.underlying33)) rfl rfl) (.cons (.box (.dat (.int Tryd.underlying3))) .nil)
  · cases h
noncomputable def e25 (J : Nat → Nat → Nat → St → Option (Int × Int) → Option (Int × Int)) (m : Nat) (p ms : List Nat) (σ : St) := evAt Tryd.prog env (ct m) J (m + 1) 20 65 Tryd.f20 d25 p ms σ
noncomputable def l25 (J : Nat → Nat → Nat → St → Option (Int × Int) → Option (Int × Int)) (m : Nat) (p ms : List Nat) (M : Nat) (σ : St) := loopAt Tryd.prog env (ct m) J (m + 1) 20 65 Tryd.f20 d25 p ms M σ
noncomputable def s25_6 (x0 : Int) (x1 : List Dt) (x2 x3 x4 : Int) (x5 : Dt) : St := ⟨tsOf [(1, (.dat 3 (.int x0))), (2, (.ptr 0 [] 0)), (3, (.ptr 1 [] 0)), (33, (.dat 27 (.lst x1))), (34, (.dat 3 (.int x2))), (35, (.dat 3 (.int x3)))], [(.box 3 (.dat 3 (.int x4))), (.box 30 (.dat 30 x5))], 1⟩
noncomputable def s25_5 (x0 : Int) (x1 : List Dt) (x2 x3 x4 : Int) (x5 : Dt) : St := ⟨tsOf [(1, (.dat 3 (.int x0))), (2, (.ptr 0 [] 0)), (3, (.ptr 1 [] 0)), (33, (.dat 27 (.lst x1))), (34, (.dat 3 (.int x2))), (35, (.dat 3 (.int x3)))], [(.box 3 (.dat 3 (.int x4))), (.box 30 (.dat 30 x5))], 1⟩
noncomputable def s25_11 (x0 : Int) (x1 : List Dt) (x2 x3 x4 : Int) : St := ⟨tsOf [(1, (.dat 3 (.int x0))), (2, (.ptr 0 [] 0)), (50, (.dat 28 (.lst x1))), (51, (.dat 3 (.int x2))), (52, (.dat 3 (.int x3)))], [(.box 3 (.dat 3 (.int x4)))], 1⟩
noncomputable def s25_10 (x0 : Int) (x1 : List Dt) (x2 x3 x4 : Int) : St := ⟨tsOf [(1, (.dat 3 (.int x0))), (2, (.ptr 0 [] 0)), (50, (.dat 28 (.lst x1))), (51, (.dat 3 (.int x2))), (52, (.dat 3 (.int x3)))], [(.box 3 (.dat 3 (.int x4)))], 1⟩
noncomputable def s25_12 (x0 : Int) : St := ⟨tsOf [], [(.box 3 (.dat 3 (.int x0)))], 1⟩
noncomputable def s25_9 (x0 : Int) (x1 : List Dt) (x2 x3 x4 : Int) : St := ⟨tsOf [(1, (.dat 3 (.int x0))), (2, (.ptr 0 [] 0)), (50, (.dat 28 (.lst x1))), (51, (.dat 3 (.int x2))), (52, (.dat 3 (.int x3)))], [(.box 3 (.dat 3 (.int x4)))], 1⟩
noncomputable def s25_8 (x0 : Int) (x1 : List Dt) (x2 x3 x4 : Int) : St := ⟨tsOf [(1, (.dat 3 (.int x0))), (2, (.ptr 0 [] 0)), (50, (.dat 28 (.lst x1))), (51, (.dat 3 (.int x2))), (52, (.dat 3 (.int x3)))], [(.box 3 (.dat 3 (.int x4)))], 1⟩
noncomputable def s25_7 (x0 x1 : Int) (x2 : Dt) : St := ⟨tsOf [(1, (.dat 3 (.int x0))), (2, (.ptr 0 [] 0)), (3, (.ptr 1 [] 0))], [(.box 3 (.dat 3 (.int x1))), (.box 30 (.dat 30 x2))], 1⟩
noncomputable def s25_4 (x0 : Int) (x1 : List Dt) (x2 x3 x4 : Int) (x5 : Dt) : St := ⟨tsOf [(1, (.dat 3 (.int x0))), (2, (.ptr 0 [] 0)), (3, (.ptr 1 [] 0)), (33, (.dat 27 (.lst x1))), (34, (.dat 3 (.int x2))), (35, (.dat 3 (.int x3)))], [(.box 3 (.dat 3 (.int x4))), (.box 30 (.dat 30 x5))], 1⟩
noncomputable def s25_3 (x0 : Int) (x1 : List Dt) (x2 x3 x4 : Int) (x5 : Dt) : St := ⟨tsOf [(1, (.dat 3 (.int x0))), (2, (.ptr 0 [] 0)), (3, (.ptr 1 [] 0)), (33, (.dat 27 (.lst x1))), (34, (.dat 3 (.int x2))), (35, (.dat 3 (.int x3)))], [(.box 3 (.dat 3 (.int x4))), (.box 30 (.dat 30 x5))], 1⟩
noncomputable def s25_2 (x0 x1 : Int) (x2 : Dt) : St := ⟨tsOf [(1, (.dat 3 (.int x0))), (2, (.ptr 0 [] 0)), (3, (.ptr 1 [] 0))], [(.box 3 (.dat 3 (.int x1))), (.box 30 (.dat 30 x2))], 1⟩
noncomputable def s25_1 (x0 x1 : Int) (x2 : Dt) : St := ⟨tsOf [(1, (.dat 3 (.int x0))), (2, (.ptr 0 [] 0)), (3, (.ptr 1 [] 0))], [(.box 3 (.dat 3 (.int x1))), (.box 30 (.dat 30 x2))], 1⟩
noncomputable def s25_0 (x0 : Int) (x1 : Bool) (x2 : Int) (x3 : Dt) : St := ⟨tsOf [(1, (.dat 3 (.int x0))), (2, (.ptr 0 [] 0)), (3, (.ptr 1 [] 0)), (21, (.dat 4 (.bool x1)))], [(.box 3 (.dat 3 (.int x2))), (.box 30 (.dat 30 x3))], 1⟩
theorem i25_j6_eq (m : Nat) (M4 : Nat) (rec4 : Int → List Dt → Int → Int → Int → Dt → Option (Int × Int)) (h4 : ∀ (x0 : Int) (x1 : List Dt) (x2 x3 x4 : Int) (x5 : Dt), l25 jn m [1, 1, 1, 1, 0, 1, 0] [] M4 (s25_4 x0 x1 x2 x3 x4 x5) = rec4 x0 x1 x2 x3 x4 x5) (x0 : Int) (x1 : List Dt) (x2 x3 x4 : Int) (x5 : Dt) : e25 jn m [1, 1, 1, 1, 0, 1, 0, 0, 1, 1, 1] [M4] (s25_6 x0 x1 x2 x3 x4 x5) = i25_j6 m (i25 m) rec4 x0 x1 x2 x3 x4 x5 := by
  have h : ∀ J, e25 J m [1, 1, 1, 1, 0, 1, 0, 0, 1, 1, 1] [M4] (s25_6 x0 x1 x2 x3 x4 x5) =
    (J 1 8 M4 (s25_4 x0 x1 x2 (IntKind.wrap .i64 (x3 + 1)) x4 x5) (l25 J m [1, 1, 1, 1, 0, 1, 0] [] M4 (s25_4 x0 x1 x2 (IntKind.wrap .i64 (x3 + 1)) x4 x5))) := fun J => by kernel_rfl
  exact (h jn).trans (by
    simp only [jn_eq, h4]
    rfl)
theorem i25_j5_eq (m : Nat) (M4 : Nat) (rec4 : Int → List Dt → Int → Int → Int → Dt → Option (Int × Int)) (h4 : ∀ (x0 : Int) (x1 : List Dt) (x2 x3 x4 : Int) (x5 : Dt), l25 jn m [1, 1, 1, 1, 0, 1, 0] [] M4 (s25_4 x0 x1 x2 x3 x4 x5) = rec4 x0 x1 x2 x3 x4 x5) (x0 : Int) (x1 : List Dt) (x2 x3 x4 : Int) (x5 : Dt) : e25 jn m [1, 1, 1, 1, 0, 1, 0, 0, 1, 1] [M4] (s25_5 x0 x1 x2 x3 x4 x5) = i25_j5 m (i25 m) rec4 x0 x1 x2 x3 x4 x5 := by
  have h : ∀ J, e25 J m [1, 1, 1, 1, 0, 1, 0, 0, 1, 1] [M4] (s25_5 x0 x1 x2 x3 x4 x5) =
    ((idx x1 x3).bind fun v1 =>
   ((i25 m (Dt.fld v1 1) (IntKind.wrap .i64 (x0 + 1)) x4).bind fun r2 =>
   (bif (r2.1 != 0) then
   some (r2.1, r2.2)
   else
   (J 0 13 0 (s25_6 x0 x1 x2 x3 r2.2 x5) (e25 J m [1, 1, 1, 1, 0, 1, 0, 0, 1, 1, 1] [M4] (s25_6 x0 x1 x2 x3 r2.2 x5)))))) := fun J => by kernel_rfl
  exact (h jn).trans (by
    simp only [jn_eq, i25_j6_eq m M4 rec4 h4]
    rfl)
theorem i25_j11_eq (m : Nat) (M9 : Nat) (rec9 : Int → List Dt → Int → Int → Int → Option (Int × Int)) (h9 : ∀ (x0 : Int) (x1 : List Dt) (x2 x3 x4 : Int), l25 jn m [1, 1, 1, 1, 1, 0, 1, 0] [] M9 (s25_9 x0 x1 x2 x3 x4) = rec9 x0 x1 x2 x3 x4) (x0 : Int) (x1 : List Dt) (x2 x3 x4 : Int) : e25 jn m [1, 1, 1, 1, 1, 0, 1, 0, 0, 1, 1, 1] [M9] (s25_11 x0 x1 x2 x3 x4) = i25_j11 m (i25 m) rec9 x0 x1 x2 x3 x4 := by
  have h : ∀ J, e25 J m [1, 1, 1, 1, 1, 0, 1, 0, 0, 1, 1, 1] [M9] (s25_11 x0 x1 x2 x3 x4) =
    (J 1 15 M9 (s25_9 x0 x1 x2 (IntKind.wrap .i64 (x3 + 1)) x4) (l25 J m [1, 1, 1, 1, 1, 0, 1, 0] [] M9 (s25_9 x0 x1 x2 (IntKind.wrap .i64 (x3 + 1)) x4))) := fun J => by kernel_rfl
  exact (h jn).trans (by
    simp only [jn_eq, h9]
    rfl)
theorem i25_j10_eq (m : Nat) (M9 : Nat) (rec9 : Int → List Dt → Int → Int → Int → Option (Int × Int)) (h9 : ∀ (x0 : Int) (x1 : List Dt) (x2 x3 x4 : Int), l25 jn m [1, 1, 1, 1, 1, 0, 1, 0] [] M9 (s25_9 x0 x1 x2 x3 x4) = rec9 x0 x1 x2 x3 x4) (x0 : Int) (x1 : List Dt) (x2 x3 x4 : Int) : e25 jn m [1, 1, 1, 1, 1, 0, 1, 0, 0, 1, 1] [M9] (s25_10 x0 x1 x2 x3 x4) = i25_j10 m (i25 m) rec9 x0 x1 x2 x3 x4 := by
  have h : ∀ J, e25 J m [1, 1, 1, 1, 1, 0, 1, 0, 0, 1, 1] [M9] (s25_10 x0 x1 x2 x3 x4) =
    ((idx x1 x3).bind fun v3 =>
   ((i25 m v3 (IntKind.wrap .i64 (x0 + 1)) x4).bind fun r4 =>
   (bif (r4.1 != 0) then
   some (r4.1, r4.2)
   else
   (J 0 20 0 (s25_11 x0 x1 x2 x3 r4.2) (e25 J m [1, 1, 1, 1, 1, 0, 1, 0, 0, 1, 1, 1] [M9] (s25_11 x0 x1 x2 x3 r4.2)))))) := fun J => by kernel_rfl
  exact (h jn).trans (by
    simp only [jn_eq, i25_j11_eq m M9 rec9 h9]
    rfl)
theorem i25_j12_eq (m : Nat) (x0 : Int) : e25 jn m [1, 1, 1, 1, 1, 1] [] (s25_12 x0) = i25_j12 m (i25 m) x0 := by
  have h : ∀ J, e25 J m [1, 1, 1, 1, 1, 1] [] (s25_12 x0) =
    some (0, x0) := fun J => by kernel_rfl
  exact (h jn).trans (rfl)
theorem i25_l9_eq (m : Nat) : ∀ (M9 : Nat) (x0 : Int) (x1 : List Dt) (x2 x3 x4 : Int), l25 jn m [1, 1, 1, 1, 1, 0, 1, 0] [] M9 (s25_9 x0 x1 x2 x3 x4) = i25_l9 m (i25 m) M9 x0 x1 x2 x3 x4
  | 0, _, _, _, _, _ => rfl
  | M9 + 1, x0, x1, x2, x3, x4 => by
    have h : ∀ J, l25 J m [1, 1, 1, 1, 1, 0, 1, 0] [] (M9 + 1) (s25_9 x0 x1 x2 x3 x4) =
    (bif (decide (x3 < x2)) then
   (J 0 16 0 (s25_10 x0 x1 x2 x3 x4) (e25 J m [1, 1, 1, 1, 1, 0, 1, 0, 0, 1, 1] [M9] (s25_10 x0 x1 x2 x3 x4)))
    else
   (J 0 21 0 (s25_12 x4) (e25 J m [1, 1, 1, 1, 1, 1] [] (s25_12 x4)))) := fun J => by kernel_rfl
    refine (h jn).trans ?_
    simp only [jn_eq, i25_j10_eq m M9 (i25_l9 m (i25 m) M9) (fun x0 x1 x2 x3 x4 => i25_l9_eq m M9 x0 x1 x2 x3 x4), i25_j12_eq m]
    rfl
theorem i25_j8_eq (m : Nat) (x0 : Int) (x1 : List Dt) (x2 x3 x4 : Int) : e25 jn m [1, 1, 1, 1, 1, 0, 1] [] (s25_8 x0 x1 x2 x3 x4) = i25_j8 m (i25 m) x0 x1 x2 x3 x4 := by
  have h : ∀ J, e25 J m [1, 1, 1, 1, 1, 0, 1] [] (s25_8 x0 x1 x2 x3 x4) =
    (J 1 15 (Nat.succ m) (s25_9 x0 x1 x2 x3 x4) (l25 J m [1, 1, 1, 1, 1, 0, 1, 0] [] (Nat.succ m) (s25_9 x0 x1 x2 x3 x4))) := fun J => by kernel_rfl
  exact (h jn).trans (by
    simp only [jn_eq, i25_l9_eq m]
    rfl)
theorem i25_j7_eq (m : Nat) (x0 x1 : Int) (x2 : Dt) : e25 jn m [1, 1, 1, 1, 1] [] (s25_7 x0 x1 x2) = i25_j7 m (i25 m) x0 x1 x2 := by
  have h : ∀ J, e25 J m [1, 1, 1, 1, 1] [] (s25_7 x0 x1 x2) =
    (J 0 15 0 (s25_8 x0 (Dt.L x2 11) (List.length (Dt.L x2 11) : Int) 0 x1) (e25 J m [1, 1, 1, 1, 1, 0, 1] [] (s25_8 x0 (Dt.L x2 11) (List.length (Dt.L x2 11) : Int) 0 x1))) := fun J => by kernel_rfl
  exact (h jn).trans (by
    simp only [jn_eq, i25_j8_eq m]
    rfl)
theorem i25_l4_eq (m : Nat) : ∀ (M4 : Nat) (x0 : Int) (x1 : List Dt) (x2 x3 x4 : Int) (x5 : Dt), l25 jn m [1, 1, 1, 1, 0, 1, 0] [] M4 (s25_4 x0 x1 x2 x3 x4 x5) = i25_l4 m (i25 m) M4 x0 x1 x2 x3 x4 x5
  | 0, _, _, _, _, _, _ => rfl
  | M4 + 1, x0, x1, x2, x3, x4, x5 => by
    have h : ∀ J, l25 J m [1, 1, 1, 1, 0, 1, 0] [] (M4 + 1) (s25_4 x0 x1 x2 x3 x4 x5) =
    (bif (decide (x3 < x2)) then
   (J 0 9 0 (s25_5 x0 x1 x2 x3 x4 x5) (e25 J m [1, 1, 1, 1, 0, 1, 0, 0, 1, 1] [M4] (s25_5 x0 x1 x2 x3 x4 x5)))
    else
   (J 0 14 0 (s25_7 x0 x4 x5) (e25 J m [1, 1, 1, 1, 1] [] (s25_7 x0 x4 x5)))) := fun J => by kernel_rfl
    refine (h jn).trans ?_
    simp only [jn_eq, i25_j5_eq m M4 (i25_l4 m (i25 m) M4) (fun x0 x1 x2 x3 x4 x5 => i25_l4_eq m M4 x0 x1 x2 x3 x4 x5), i25_j7_eq m]
    rfl
theorem i25_j3_eq (m : Nat) (x0 : Int) (x1 : List Dt) (x2 x3 x4 : Int) (x5 : Dt) : e25 jn m [1, 1, 1, 1, 0, 1] [] (s25_3 x0 x1 x2 x3 x4 x5) = i25_j3 m (i25 m) x0 x1 x2 x3 x4 x5 := by
  have h : ∀ J, e25 J m [1, 1, 1, 1, 0, 1] [] (s25_3 x0 x1 x2 x3 x4 x5) =
    (J 1 8 (Nat.succ m) (s25_4 x0 x1 x2 x3 x4 x5) (l25 J m [1, 1, 1, 1, 0, 1, 0] [] (Nat.succ m) (s25_4 x0 x1 x2 x3 x4 x5))) := fun J => by kernel_rfl
  exact (h jn).trans (by
    simp only [jn_eq, i25_l4_eq m]
    rfl)
theorem i25_j2_eq (m : Nat) (x0 x1 : Int) (x2 : Dt) : e25 jn m [1, 1, 1, 1] [] (s25_2 x0 x1 x2) = i25_j2 m (i25 m) x0 x1 x2 := by
  have h : ∀ J, e25 J m [1, 1, 1, 1] [] (s25_2 x0 x1 x2) =
    (J 0 8 0 (s25_3 x0 (Dt.L x2 9) (List.length (Dt.L x2 9) : Int) 0 x1 x2) (e25 J m [1, 1, 1, 1, 0, 1] [] (s25_3 x0 (Dt.L x2 9) (List.length (Dt.L x2 9) : Int) 0 x1 x2))) := fun J => by kernel_rfl
  exact (h jn).trans (by
    simp only [jn_eq, i25_j3_eq m]
    rfl)
theorem i25_j1_eq (m : Nat) (x0 x1 : Int) (x2 : Dt) : e25 jn m [1, 1] [] (s25_1 x0 x1 x2) = i25_j1 m (i25 m) x0 x1 x2 := by
  have h : ∀ J, e25 J m [1, 1] [] (s25_1 x0 x1 x2) =
    ((schema_checkOne m x2).bind fun r0 =>
   (bif (r0 != 0) then
   some (r0, (IntKind.wrap .i64 (x1 + 1)))
   else
   (J 0 7 0 (s25_2 x0 (IntKind.wrap .i64 (x1 + 1)) x2) (e25 J m [1, 1, 1, 1] [] (s25_2 x0 (IntKind.wrap .i64 (x1 + 1)) x2))))) := fun J => by kernel_rfl
  exact (h jn).trans (by
    simp only [jn_eq, i25_j2_eq m]
    rfl)
theorem i25_j0_eq (m : Nat) (x0 : Int) (x1 : Bool) (x2 : Int) (x3 : Dt) : e25 jn m [1, 0, 1] [] (s25_0 x0 x1 x2 x3) = i25_j0 m (i25 m) x0 x1 x2 x3 := by
  have h : ∀ J, e25 J m [1, 0, 1] [] (s25_0 x0 x1 x2 x3) =
    (bif x1 then
   some (2, x2)
    else
   (J 0 3 0 (s25_1 x0 x2 x3) (e25 J m [1, 1] [] (s25_1 x0 x2 x3)))) := fun J => by kernel_rfl
  exact (h jn).trans (by
    simp only [jn_eq, i25_j1_eq m]
    rfl)
theorem i25_eq (m : Nat) (a0 : Dt) (a1 a2 : Int) : e25 jn m [] [] ⟨[(.dat 30 a0), (.dat 3 (.int a1)), (.ptr 0 [] 0)], [(.box 3 (.dat 3 (.int a2)))], 1⟩ = i25 (m + 1) a0 a1 a2 := by
  have h : ∀ J, e25 J m [] [] ⟨[(.dat 30 a0), (.dat 3 (.int a1)), (.ptr 0 [] 0)], [(.box 3 (.dat 3 (.int a2)))], 1⟩ =
    (bif (decide (16 < a1)) then
   (J 0 2 0 (s25_0 a1 true a2 a0) (e25 J m [1, 0, 1] [] (s25_0 a1 true a2 a0)))
    else
   (J 0 2 0 (s25_0 a1 (a2 == 64) a2 a0) (e25 J m [1, 0, 1] [] (s25_0 a1 (a2 == 64) a2 a0)))) := fun J => by kernel_rfl
  refine (h jn).trans ?_
  simp only [jn_eq, i25_j0_eq m]
  rfl
noncomputable def d4 (q : Res) : Option Int := match q with
  | (.dat T0 x0, []) => bif Nat.beq T0 33 then some x0.toInt else none
  | _ => none
theorem d4_sim {b : Res} {r : Int} (h : d4 b = some r) : Sim Tryd.prog b ((.dat 33 (.int r)), []) := by
  unfold d4 at h
  split at h
  · obtain ⟨hc, h2⟩ := bif_some h
    cases h2
    have e0 := beq_eq hc
    subst e0
    exact Sim.of (.of (.dat (.int Tryd.underlying33)) rfl rfl) .nil
  · cases h
noncomputable def e4 (J : Nat → Nat → Nat → St → Option Int → Option Int) (m : Nat) (p ms : List Nat) (σ : St) := evAt Tryd.prog env (ct m) J (m + 1) 9 6 Tryd.f9 d4 p ms σ
noncomputable def l4 (J : Nat → Nat → Nat → St → Option Int → Option Int) (m : Nat) (p ms : List Nat) (M : Nat) (σ : St) := loopAt Tryd.prog env (ct m) J (m + 1) 9 6 Tryd.f9 d4 p ms M σ
theorem schema_Valid_eq (m : Nat) (a0 : Dt) : e4 jn m [] [] ⟨[(.dat 30 a0)], [], 0⟩ = schema_Valid (m + 1) a0 := by
  have h : ∀ J, e4 J m [] [] ⟨[(.dat 30 a0)], [], 0⟩ =
    ((i25 m a0 1 0).bind fun r0 =>
   some r0.1) := fun J => by kernel_rfl
  refine (h jn).trans ?_
  
  rfl
noncomputable def d3 (q : Res) : Option (List Dt) := match q with
  | (.dat T0 x0, []) => bif Nat.beq T0 38 then some x0.toLst else none
  | _ => none
theorem d3_sim {b : Res} {r : List Dt} (h : d3 b = some r) : Sim Tryd.prog b ((.dat 38 (.lst r)), []) := by
  unfold d3 at h
  split at h
  · obtain ⟨hc, h2⟩ := bif_some h
    cases h2
    have e0 := beq_eq hc
    subst e0
    exact Sim.of (.of (.dat (.lst Tryd.underlying38)) rfl rfl) .nil
  · cases h
noncomputable def e3 (J : Nat → Nat → Nat → St → Option (List Dt) → Option (List Dt)) (m : Nat) (p ms : List Nat) (σ : St) := evAt Tryd.prog env (ct m) J (m + 1) 13 11 Tryd.f13 d3 p ms σ
noncomputable def l3 (J : Nat → Nat → Nat → St → Option (List Dt) → Option (List Dt)) (m : Nat) (p ms : List Nat) (M : Nat) (σ : St) := loopAt Tryd.prog env (ct m) J (m + 1) 13 11 Tryd.f13 d3 p ms M σ
noncomputable def s3_0 (x0 x1 : Dt) : St := ⟨tsOf [(2, (.ptr 0 [] 0)), (3, (.ptr 1 [] 0))], [(.box 30 (.dat 30 x0)), (.box 25 (.dat 25 x1))], 0⟩
theorem schema_Check_j0_eq (m : Nat) (x0 x1 : Dt) : e3 jn m [1, 1] [] (s3_0 x0 x1) = schema_Check_j0 m x0 x1 := by
  have h : ∀ J, e3 J m [1, 1] [] (s3_0 x0 x1) =
    ((i7 m x0 x1 [] []).bind fun r1 =>
   some r1.2) := fun J => by kernel_rfl
  exact (h jn).trans (rfl)
theorem schema_Check_eq (m : Nat) (a0 a1 : Dt) : e3 jn m [] [] ⟨[(.dat 30 a0), (.dat 25 a1)], [], 0⟩ = schema_Check (m + 1) a0 a1 := by
  have h : ∀ J, e3 J m [] [] ⟨[(.dat 30 a0), (.dat 25 a1)], [], 0⟩ =
    ((schema_Valid m a0).bind fun r0 =>
   (bif (r0 != 0) then
   some []
   else
   (J 0 3 0 (s3_0 a0 a1) (e3 J m [1, 1] [] (s3_0 a0 a1))))) := fun J => by kernel_rfl
  refine (h jn).trans ?_
  simp only [jn_eq, schema_Check_j0_eq m]
  rfl
noncomputable def d0 (q : Res) : Option Bool := match q with
  | (.dat T0 x0, []) => bif Nat.beq T0 4 then some x0.toBool else none
  | _ => none
theorem d0_sim {b : Res} {r : Bool} (h : d0 b = some r) : Sim Tryd.prog b ((.dat 4 (.bool r)), []) := by
  unfold d0 at h
  split at h
  · obtain ⟨hc, h2⟩ := bif_some h
    cases h2
    have e0 := beq_eq hc
    subst e0
    exact Sim.of (.of (.dat (.bool Tryd.underlying4)) rfl rfl) .nil
  · cases h
noncomputable def e0 (J : Nat → Nat → Nat → St → Option Bool → Option Bool) (m : Nat) (p ms : List Nat) (σ : St) := evAt Tryd.prog env (ct m) J (m + 1) 5 83 Tryd.f5 d0 p ms σ
noncomputable def l0 (J : Nat → Nat → Nat → St → Option Bool → Option Bool) (m : Nat) (p ms : List Nat) (M : Nat) (σ : St) := loopAt Tryd.prog env (ct m) J (m + 1) 5 83 Tryd.f5 d0 p ms M σ
noncomputable def s0_5 (x0 x1 : List Dt) (x2 x3 : Int) : St := ⟨tsOf [(6, (.dat 38 (.lst x0))), (7, (.dat 38 (.lst x1))), (8, (.dat 3 (.int x2))), (9, (.dat 3 (.int x3)))], [], 0⟩
noncomputable def s0_8 (x0 x1 : List Dt) (x2 x3 : Int) : St := ⟨tsOf [(6, (.dat 38 (.lst x0))), (7, (.dat 38 (.lst x1))), (8, (.dat 3 (.int x2))), (9, (.dat 3 (.int x3)))], [], 0⟩
noncomputable def s0_7 (x0 x1 : List Dt) (x2 x3 : Int) (x4 : Bool) : St := ⟨tsOf [(6, (.dat 38 (.lst x0))), (7, (.dat 38 (.lst x1))), (8, (.dat 3 (.int x2))), (9, (.dat 3 (.int x3))), (73, (.dat 4 (.bool x4)))], [], 0⟩
noncomputable def s0_6 (x0 x1 : List Dt) (x2 x3 : Int) : St := ⟨tsOf [(6, (.dat 38 (.lst x0))), (7, (.dat 38 (.lst x1))), (8, (.dat 3 (.int x2))), (9, (.dat 3 (.int x3)))], [], 0⟩
noncomputable def s0_4 (x0 x1 : List Dt) (x2 x3 : Int) : St := ⟨tsOf [(6, (.dat 38 (.lst x0))), (7, (.dat 38 (.lst x1))), (8, (.dat 3 (.int x2))), (9, (.dat 3 (.int x3)))], [], 0⟩
noncomputable def s0_9 (x0 : List Dt) (x1 : Int) : St := ⟨tsOf [(6, (.dat 38 (.lst x0))), (8, (.dat 3 (.int x1)))], [], 0⟩
noncomputable def s0_3 (x0 x1 : List Dt) (x2 x3 : Int) : St := ⟨tsOf [(6, (.dat 38 (.lst x0))), (7, (.dat 38 (.lst x1))), (8, (.dat 3 (.int x2))), (9, (.dat 3 (.int x3)))], [], 0⟩
noncomputable def s0_2 (x0 x1 : List Dt) (x2 x3 : Int) : St := ⟨tsOf [(6, (.dat 38 (.lst x0))), (7, (.dat 38 (.lst x1))), (8, (.dat 3 (.int x2))), (9, (.dat 3 (.int x3)))], [], 0⟩
noncomputable def s0_1 (x0 x1 : Dt) : St := ⟨tsOf [(2, (.ptr 0 [] 0)), (3, (.ptr 1 [] 0))], [(.box 30 (.dat 30 x0)), (.box 25 (.dat 25 x1))], 0⟩
noncomputable def s0_0 (x0 : Bool) (x1 x2 : Dt) : St := ⟨tsOf [(2, (.ptr 0 [] 0)), (3, (.ptr 1 [] 0)), (18, (.dat 4 (.bool x0)))], [(.box 30 (.dat 30 x1)), (.box 25 (.dat 25 x2))], 0⟩
theorem law14_SchemaOwn_j5_eq (m : Nat) (M3 : Nat) (rec3 : List Dt → List Dt → Int → Int → Option Bool) (h3 : ∀ (x0 x1 : List Dt) (x2 x3 : Int), l0 jn m [1, 1, 1, 1, 1, 1, 0, 1, 0] [] M3 (s0_3 x0 x1 x2 x3) = rec3 x0 x1 x2 x3) (x0 x1 : List Dt) (x2 x3 : Int) : e0 jn m [1, 1, 1, 1, 1, 1, 0, 1, 0, 0, 1, 1] [M3] (s0_5 x0 x1 x2 x3) = law14_SchemaOwn_j5 m rec3 x0 x1 x2 x3 := by
  have h : ∀ J, e0 J m [1, 1, 1, 1, 1, 1, 0, 1, 0, 0, 1, 1] [M3] (s0_5 x0 x1 x2 x3) =
    (J 1 8 M3 (s0_3 x0 x1 x2 (IntKind.wrap .i64 (x3 + 1))) (l0 J m [1, 1, 1, 1, 1, 1, 0, 1, 0] [] M3 (s0_3 x0 x1 x2 (IntKind.wrap .i64 (x3 + 1))))) := fun J => by kernel_rfl
  exact (h jn).trans (by
    simp only [jn_eq, h3]
    rfl)
theorem law14_SchemaOwn_j8_eq (m : Nat) (M3 : Nat) (rec3 : List Dt → List Dt → Int → Int → Option Bool) (h3 : ∀ (x0 x1 : List Dt) (x2 x3 : Int), l0 jn m [1, 1, 1, 1, 1, 1, 0, 1, 0] [] M3 (s0_3 x0 x1 x2 x3) = rec3 x0 x1 x2 x3) (x0 x1 : List Dt) (x2 x3 : Int) : e0 jn m [1, 1, 1, 1, 1, 1, 0, 1, 0, 0, 1, 0, 0, 1, 1] [M3] (s0_8 x0 x1 x2 x3) = law14_SchemaOwn_j8 m rec3 x0 x1 x2 x3 := by
  have h : ∀ J, e0 J m [1, 1, 1, 1, 1, 1, 0, 1, 0, 0, 1, 0, 0, 1, 1] [M3] (s0_8 x0 x1 x2 x3) =
    (J 0 9 0 (s0_5 x0 x1 (IntKind.wrap .i64 (x2 + 1)) x3) (e0 J m [1, 1, 1, 1, 1, 1, 0, 1, 0, 0, 1, 1] [M3] (s0_5 x0 x1 (IntKind.wrap .i64 (x2 + 1)) x3))) := fun J => by kernel_rfl
  exact (h jn).trans (by
    simp only [jn_eq, law14_SchemaOwn_j5_eq m M3 rec3 h3]
    rfl)
theorem law14_SchemaOwn_j7_eq (m : Nat) (M3 : Nat) (rec3 : List Dt → List Dt → Int → Int → Option Bool) (h3 : ∀ (x0 x1 : List Dt) (x2 x3 : Int), l0 jn m [1, 1, 1, 1, 1, 1, 0, 1, 0] [] M3 (s0_3 x0 x1 x2 x3) = rec3 x0 x1 x2 x3) (x0 x1 : List Dt) (x2 x3 : Int) (x4 : Bool) : e0 jn m [1, 1, 1, 1, 1, 1, 0, 1, 0, 0, 1, 0, 0, 1, 0, 1] [M3] (s0_7 x0 x1 x2 x3 x4) = law14_SchemaOwn_j7 m rec3 x0 x1 x2 x3 x4 := by
  have h : ∀ J, e0 J m [1, 1, 1, 1, 1, 1, 0, 1, 0, 0, 1, 0, 0, 1, 0, 1] [M3] (s0_7 x0 x1 x2 x3 x4) =
    (bif x4 then
   some false
    else
   (J 0 13 0 (s0_8 x0 x1 x2 x3) (e0 J m [1, 1, 1, 1, 1, 1, 0, 1, 0, 0, 1, 0, 0, 1, 1] [M3] (s0_8 x0 x1 x2 x3)))) := fun J => by kernel_rfl
  exact (h jn).trans (by
    simp only [jn_eq, law14_SchemaOwn_j8_eq m M3 rec3 h3]
    rfl)
theorem law14_SchemaOwn_j6_eq (m : Nat) (M3 : Nat) (rec3 : List Dt → List Dt → Int → Int → Option Bool) (h3 : ∀ (x0 x1 : List Dt) (x2 x3 : Int), l0 jn m [1, 1, 1, 1, 1, 1, 0, 1, 0] [] M3 (s0_3 x0 x1 x2 x3) = rec3 x0 x1 x2 x3) (x0 x1 : List Dt) (x2 x3 : Int) : e0 jn m [1, 1, 1, 1, 1, 1, 0, 1, 0, 0, 1, 0, 0, 1] [M3] (s0_6 x0 x1 x2 x3) = law14_SchemaOwn_j6 m rec3 x0 x1 x2 x3 := by
  have h : ∀ J, e0 J m [1, 1, 1, 1, 1, 1, 0, 1, 0, 0, 1, 0, 0, 1] [M3] (s0_6 x0 x1 x2 x3) =
    ((idx x1 x3).bind fun v5 =>
   ((idx x0 x2).bind fun v6 =>
   (bif ((Dt.I v5 1) != (Dt.I v6 1)) then
   (J 0 12 0 (s0_7 x0 x1 x2 x3 true) (e0 J m [1, 1, 1, 1, 1, 1, 0, 1, 0, 0, 1, 0, 0, 1, 0, 1] [M3] (s0_7 x0 x1 x2 x3 true)))
   else
   ((idx x1 x3).bind fun v7 =>
   ((idx x0 x2).bind fun v8 =>
   (J 0 12 0 (s0_7 x0 x1 x2 x3 ((List.length (Dt.L v7 0) : Int) != (List.length (Dt.L v8 0) : Int))) (e0 J m [1, 1, 1, 1, 1, 1, 0, 1, 0, 0, 1, 0, 0, 1, 0, 1] [M3] (s0_7 x0 x1 x2 x3 ((List.length (Dt.L v7 0) : Int) != (List.length (Dt.L v8 0) : Int)))))))))) := fun J => by kernel_rfl
  exact (h jn).trans (by
    simp only [jn_eq, law14_SchemaOwn_j7_eq m M3 rec3 h3]
    rfl)
theorem law14_SchemaOwn_j4_eq (m : Nat) (M3 : Nat) (rec3 : List Dt → List Dt → Int → Int → Option Bool) (h3 : ∀ (x0 x1 : List Dt) (x2 x3 : Int), l0 jn m [1, 1, 1, 1, 1, 1, 0, 1, 0] [] M3 (s0_3 x0 x1 x2 x3) = rec3 x0 x1 x2 x3) (x0 x1 : List Dt) (x2 x3 : Int) : e0 jn m [1, 1, 1, 1, 1, 1, 0, 1, 0, 0, 1] [M3] (s0_4 x0 x1 x2 x3) = law14_SchemaOwn_j4 m rec3 x0 x1 x2 x3 := by
  have h : ∀ J, e0 J m [1, 1, 1, 1, 1, 1, 0, 1, 0, 0, 1] [M3] (s0_4 x0 x1 x2 x3) =
    ((idx x1 x3).bind fun v4 =>
   (bif ((Dt.I v4 1) == 7) then
   (J 0 9 0 (s0_5 x0 x1 x2 x3) (e0 J m [1, 1, 1, 1, 1, 1, 0, 1, 0, 0, 1, 1] [M3] (s0_5 x0 x1 x2 x3)))
   else
   (J 0 11 0 (s0_6 x0 x1 x2 x3) (e0 J m [1, 1, 1, 1, 1, 1, 0, 1, 0, 0, 1, 0, 0, 1] [M3] (s0_6 x0 x1 x2 x3))))) := fun J => by kernel_rfl
  exact (h jn).trans (by
    simp only [jn_eq, law14_SchemaOwn_j5_eq m M3 rec3 h3, law14_SchemaOwn_j6_eq m M3 rec3 h3]
    rfl)
theorem law14_SchemaOwn_j9_eq (m : Nat) (x0 : List Dt) (x1 : Int) : e0 jn m [1, 1, 1, 1, 1, 1, 1] [] (s0_9 x0 x1) = law14_SchemaOwn_j9 m x0 x1 := by
  have h : ∀ J, e0 J m [1, 1, 1, 1, 1, 1, 1] [] (s0_9 x0 x1) =
    (bif (x1 == (List.length x0 : Int)) then
   ((awakeC).bind fun r9 =>
   some r9)
    else
   some false) := fun J => by kernel_rfl
  exact (h jn).trans (rfl)
theorem law14_SchemaOwn_l3_eq (m : Nat) : ∀ (M3 : Nat) (x0 x1 : List Dt) (x2 x3 : Int), l0 jn m [1, 1, 1, 1, 1, 1, 0, 1, 0] [] M3 (s0_3 x0 x1 x2 x3) = law14_SchemaOwn_l3 m M3 x0 x1 x2 x3
  | 0, _, _, _, _ => rfl
  | M3 + 1, x0, x1, x2, x3 => by
    have h : ∀ J, l0 J m [1, 1, 1, 1, 1, 1, 0, 1, 0] [] (M3 + 1) (s0_3 x0 x1 x2 x3) =
    (bif (decide (x3 < (List.length x1 : Int))) then
   (bif (decide (x2 < (List.length x0 : Int))) then
   (J 0 10 0 (s0_4 x0 x1 x2 x3) (e0 J m [1, 1, 1, 1, 1, 1, 0, 1, 0, 0, 1] [M3] (s0_4 x0 x1 x2 x3)))
   else
   (J 0 14 0 (s0_9 x0 x2) (e0 J m [1, 1, 1, 1, 1, 1, 1] [] (s0_9 x0 x2))))
    else
   (J 0 14 0 (s0_9 x0 x2) (e0 J m [1, 1, 1, 1, 1, 1, 1] [] (s0_9 x0 x2)))) := fun J => by kernel_rfl
    refine (h jn).trans ?_
    simp only [jn_eq, law14_SchemaOwn_j4_eq m M3 (law14_SchemaOwn_l3 m M3) (fun x0 x1 x2 x3 => law14_SchemaOwn_l3_eq m M3 x0 x1 x2 x3), law14_SchemaOwn_j9_eq m]
    rfl
theorem law14_SchemaOwn_j2_eq (m : Nat) (x0 x1 : List Dt) (x2 x3 : Int) : e0 jn m [1, 1, 1, 1, 1, 1, 0, 1] [] (s0_2 x0 x1 x2 x3) = law14_SchemaOwn_j2 m x0 x1 x2 x3 := by
  have h : ∀ J, e0 J m [1, 1, 1, 1, 1, 1, 0, 1] [] (s0_2 x0 x1 x2 x3) =
    (J 1 8 (Nat.succ m) (s0_3 x0 x1 x2 x3) (l0 J m [1, 1, 1, 1, 1, 1, 0, 1, 0] [] (Nat.succ m) (s0_3 x0 x1 x2 x3))) := fun J => by kernel_rfl
  exact (h jn).trans (by
    simp only [jn_eq, law14_SchemaOwn_l3_eq m]
    rfl)
theorem law14_SchemaOwn_j1_eq (m : Nat) (x0 x1 : Dt) : e0 jn m [1, 1] [] (s0_1 x0 x1) = law14_SchemaOwn_j1 m x0 x1 := by
  have h : ∀ J, e0 J m [1, 1] [] (s0_1 x0 x1) =
    ((schema_Check m (Dt.agg [(Dt.int (Dt.I x0 0)), (Dt.bool (Dt.B x0 1)), (Dt.fld x0 2), (Dt.bool (Dt.B x0 3)), (Dt.fld x0 4), (Dt.lst (Dt.L x0 5)), (Dt.int (Dt.I x0 6)), (Dt.int (Dt.I x0 7)), (Dt.lst (Dt.L x0 8)), (Dt.lst []), (Dt.bool false), (Dt.lst []), (Dt.bool (Dt.B x0 12))]) x1).bind fun r2 =>
   ((schema_Check m x0 x1).bind fun r3 =>
   (J 0 8 0 (s0_2 r2 r3 0 0) (e0 J m [1, 1, 1, 1, 1, 1, 0, 1] [] (s0_2 r2 r3 0 0))))) := fun J => by kernel_rfl
  exact (h jn).trans (by
    simp only [jn_eq, law14_SchemaOwn_j2_eq m]
    rfl)
theorem law14_SchemaOwn_j0_eq (m : Nat) (x0 : Bool) (x1 x2 : Dt) : e0 jn m [1, 0, 1] [] (s0_0 x0 x1 x2) = law14_SchemaOwn_j0 m x0 x1 x2 := by
  have h : ∀ J, e0 J m [1, 0, 1] [] (s0_0 x0 x1 x2) =
    (bif x0 then
   ((awakeC).bind fun r1 =>
   some r1)
    else
   (J 0 3 0 (s0_1 x1 x2) (e0 J m [1, 1] [] (s0_1 x1 x2)))) := fun J => by kernel_rfl
  exact (h jn).trans (by
    simp only [jn_eq, law14_SchemaOwn_j1_eq m]
    rfl)
theorem law14_SchemaOwn_eq (m : Nat) (a0 a1 : Dt) : e0 jn m [] [] ⟨[(.dat 30 a0), (.dat 25 a1)], [], 0⟩ = law14_SchemaOwn (m + 1) a0 a1 := by
  have h : ∀ J, e0 J m [] [] ⟨[(.dat 30 a0), (.dat 25 a1)], [], 0⟩ =
    ((law14_few m a0 a1).bind fun r0 =>
   (bif (Bool.not r0) then
   (J 0 2 0 (s0_0 true a0 a1) (e0 J m [1, 0, 1] [] (s0_0 true a0 a1)))
   else
   ((schema_Valid m a0).bind fun r10 =>
   (J 0 2 0 (s0_0 (r10 != 0) a0 a1) (e0 J m [1, 0, 1] [] (s0_0 (r10 != 0) a0 a1)))))) := fun J => by kernel_rfl
  refine (h jn).trans ?_
  simp only [jn_eq, law14_SchemaOwn_j0_eq m]
  rfl
end Go.Proofs.YtfneddmmeadacaaDoor
