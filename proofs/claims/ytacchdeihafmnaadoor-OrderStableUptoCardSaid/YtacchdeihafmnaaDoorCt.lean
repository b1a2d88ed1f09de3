/- Generated: the functions as contracts for their callers. -/
import Derived.Test.YtacchdeihafmnaaDoorSh
import Derived.Test.YtacchdeihafmnaaDoorProg
set_option linter.unusedVariables false
set_option linter.unusedSimpArgs false
namespace Go.Proofs.YtacchdeihafmnaaDoor
open Go.Am
def sel0 (args : List AV) (objs : List Ob) : Option (List Dt × List Dt × Int) := match args, objs with
  | [.dat T0 x0, .dat T1 x1, .dat T2 x2], [] => bif (Nat.beq T0 22 && (Nat.beq T1 27 && Nat.beq T2 3)) then some (x0.toLst, x1.toLst, x2.toInt) else none
  | _, _ => none
theorem sel0_ok {args : List AV} {objs : List Ob} {l : List Dt × List Dt × Int} (h : sel0 args objs = some l) : CnA Tryd.prog args [(.dat 22 (.lst l.1)), (.dat 27 (.lst l.2.1)), (.dat 3 (.int l.2.2))] ∧ CnOL Tryd.prog objs [] := by
  unfold sel0 at h
  split at h
  · obtain ⟨hc, h2⟩ := bif_some h
    cases h2
    have e0 := beq_eq (and_l hc)
    have e1 := beq_eq (and_l (and_r hc))
    have e2 := beq_eq (and_r (and_r hc))
    subst e0 e1 e2
    exact ⟨(.cons (.of (.dat (.lst Tryd.underlying22)) rfl rfl) (.cons (.of (.dat (.lst Tryd.underlying27)) rfl rfl) (.cons (.of (.dat (.int Tryd.underlying3)) rfl rfl) .nil))), .nil⟩
  · cases h
def sel1 (args : List AV) (objs : List Ob) : Option (List Dt × List Dt) := match args, objs with
  | [.dat T0 x0, .dat T1 x1], [] => bif (Nat.beq T0 22 && Nat.beq T1 27) then some (x0.toLst, x1.toLst) else none
  | _, _ => none
theorem sel1_ok {args : List AV} {objs : List Ob} {l : List Dt × List Dt} (h : sel1 args objs = some l) : CnA Tryd.prog args [(.dat 22 (.lst l.1)), (.dat 27 (.lst l.2))] ∧ CnOL Tryd.prog objs [] := by
  unfold sel1 at h
  split at h
  · obtain ⟨hc, h2⟩ := bif_some h
    cases h2
    have e0 := beq_eq (and_l hc)
    have e1 := beq_eq (and_r hc)
    subst e0 e1
    exact ⟨(.cons (.of (.dat (.lst Tryd.underlying22)) rfl rfl) (.cons (.of (.dat (.lst Tryd.underlying27)) rfl rfl) .nil)), .nil⟩
  · cases h
def sel2 (args : List AV) (objs : List Ob) : Option (List Dt × List Dt) := match args, objs with
  | [.dat T0 x0, .dat T1 x1], [] => bif (Nat.beq T0 22 && Nat.beq T1 27) then some (x0.toLst, x1.toLst) else none
  | _, _ => none
theorem sel2_ok {args : List AV} {objs : List Ob} {l : List Dt × List Dt} (h : sel2 args objs = some l) : CnA Tryd.prog args [(.dat 22 (.lst l.1)), (.dat 27 (.lst l.2))] ∧ CnOL Tryd.prog objs [] := by
  unfold sel2 at h
  split at h
  · obtain ⟨hc, h2⟩ := bif_some h
    cases h2
    have e0 := beq_eq (and_l hc)
    have e1 := beq_eq (and_r hc)
    subst e0 e1
    exact ⟨(.cons (.of (.dat (.lst Tryd.underlying22)) rfl rfl) (.cons (.of (.dat (.lst Tryd.underlying27)) rfl rfl) .nil)), .nil⟩
  · cases h
def sel3 (args : List AV) (objs : List Ob) : Option (Unit) := match args, objs with
  | [], [] => bif true then some () else none
  | _, _ => none
theorem sel3_ok {args : List AV} {objs : List Ob} {l : Unit} (h : sel3 args objs = some l) : CnA Tryd.prog args [] ∧ CnOL Tryd.prog objs [] := by
  unfold sel3 at h
  split at h
  · obtain ⟨hc, h2⟩ := bif_some h
    cases h2
    exact ⟨.nil, .nil⟩
  · cases h
def sel4 (args : List AV) (objs : List Ob) : Option (List Dt × List Dt) := match args, objs with
  | [.dat T0 x0, .dat T1 x1], [] => bif (Nat.beq T0 22 && Nat.beq T1 27) then some (x0.toLst, x1.toLst) else none
  | _, _ => none
theorem sel4_ok {args : List AV} {objs : List Ob} {l : List Dt × List Dt} (h : sel4 args objs = some l) : CnA Tryd.prog args [(.dat 22 (.lst l.1)), (.dat 27 (.lst l.2))] ∧ CnOL Tryd.prog objs [] := by
  unfold sel4 at h
  split at h
  · obtain ⟨hc, h2⟩ := bif_some h
    cases h2
    have e0 := beq_eq (and_l hc)
    have e1 := beq_eq (and_r hc)
    subst e0 e1
    exact ⟨(.cons (.of (.dat (.lst Tryd.underlying22)) rfl rfl) (.cons (.of (.dat (.lst Tryd.underlying27)) rfl rfl) .nil)), .nil⟩
  · cases h
def sel5 (args : List AV) (objs : List Ob) : Option (List Dt × List Dt) := match args, objs with
  | [.dat T0 x0, .dat T1 x1], [] => bif (Nat.beq T0 22 && Nat.beq T1 27) then some (x0.toLst, x1.toLst) else none
  | _, _ => none
theorem sel5_ok {args : List AV} {objs : List Ob} {l : List Dt × List Dt} (h : sel5 args objs = some l) : CnA Tryd.prog args [(.dat 22 (.lst l.1)), (.dat 27 (.lst l.2))] ∧ CnOL Tryd.prog objs [] := by
  unfold sel5 at h
  split at h
  · obtain ⟨hc, h2⟩ := bif_some h
    cases h2
    have e0 := beq_eq (and_l hc)
    have e1 := beq_eq (and_r hc)
    subst e0 e1
    exact ⟨(.cons (.of (.dat (.lst Tryd.underlying22)) rfl rfl) (.cons (.of (.dat (.lst Tryd.underlying27)) rfl rfl) .nil)), .nil⟩
  · cases h
def sel6 (args : List AV) (objs : List Ob) : Option (List Dt × List Dt) := match args, objs with
  | [.dat T0 x0, .dat T1 x1], [] => bif (Nat.beq T0 27 && Nat.beq T1 27) then some (x0.toLst, x1.toLst) else none
  | _, _ => none
theorem sel6_ok {args : List AV} {objs : List Ob} {l : List Dt × List Dt} (h : sel6 args objs = some l) : CnA Tryd.prog args [(.dat 27 (.lst l.1)), (.dat 27 (.lst l.2))] ∧ CnOL Tryd.prog objs [] := by
  unfold sel6 at h
  split at h
  · obtain ⟨hc, h2⟩ := bif_some h
    cases h2
    have e0 := beq_eq (and_l hc)
    have e1 := beq_eq (and_r hc)
    subst e0 e1
    exact ⟨(.cons (.of (.dat (.lst Tryd.underlying27)) rfl rfl) (.cons (.of (.dat (.lst Tryd.underlying27)) rfl rfl) .nil)), .nil⟩
  · cases h
def sel7 (args : List AV) (objs : List Ob) : Option (List Dt × List Dt × Int) := match args, objs with
  | [.dat T0 x0, .dat T1 x1, .dat T2 x2], [] => bif (Nat.beq T0 22 && (Nat.beq T1 27 && Nat.beq T2 3)) then some (x0.toLst, x1.toLst, x2.toInt) else none
  | _, _ => none
theorem sel7_ok {args : List AV} {objs : List Ob} {l : List Dt × List Dt × Int} (h : sel7 args objs = some l) : CnA Tryd.prog args [(.dat 22 (.lst l.1)), (.dat 27 (.lst l.2.1)), (.dat 3 (.int l.2.2))] ∧ CnOL Tryd.prog objs [] := by
  unfold sel7 at h
  split at h
  · obtain ⟨hc, h2⟩ := bif_some h
    cases h2
    have e0 := beq_eq (and_l hc)
    have e1 := beq_eq (and_l (and_r hc))
    have e2 := beq_eq (and_r (and_r hc))
    subst e0 e1 e2
    exact ⟨(.cons (.of (.dat (.lst Tryd.underlying22)) rfl rfl) (.cons (.of (.dat (.lst Tryd.underlying27)) rfl rfl) (.cons (.of (.dat (.int Tryd.underlying3)) rfl rfl) .nil))), .nil⟩
  · cases h
def sel8 (args : List AV) (objs : List Ob) : Option (List Dt × List Dt × Int) := match args, objs with
  | [.dat T0 x0, .dat T1 x1, .dat T2 x2], [] => bif (Nat.beq T0 22 && (Nat.beq T1 27 && Nat.beq T2 3)) then some (x0.toLst, x1.toLst, x2.toInt) else none
  | _, _ => none
theorem sel8_ok {args : List AV} {objs : List Ob} {l : List Dt × List Dt × Int} (h : sel8 args objs = some l) : CnA Tryd.prog args [(.dat 22 (.lst l.1)), (.dat 27 (.lst l.2.1)), (.dat 3 (.int l.2.2))] ∧ CnOL Tryd.prog objs [] := by
  unfold sel8 at h
  split at h
  · obtain ⟨hc, h2⟩ := bif_some h
    cases h2
    have e0 := beq_eq (and_l hc)
    have e1 := beq_eq (and_l (and_r hc))
    have e2 := beq_eq (and_r (and_r hc))
    subst e0 e1 e2
    exact ⟨(.cons (.of (.dat (.lst Tryd.underlying22)) rfl rfl) (.cons (.of (.dat (.lst Tryd.underlying27)) rfl rfl) (.cons (.of (.dat (.int Tryd.underlying3)) rfl rfl) .nil))), .nil⟩
  · cases h
def sel9 (args : List AV) (objs : List Ob) : Option (List Dt × Dt × Dt) := match args, objs with
  | [.dat T0 x0, .dat T1 x1, .dat T2 x2], [] => bif (Nat.beq T0 22 && (Nat.beq T1 30 && Nat.beq T2 30)) then some (x0.toLst, x1, x2) else none
  | _, _ => none
theorem sel9_ok {args : List AV} {objs : List Ob} {l : List Dt × Dt × Dt} (h : sel9 args objs = some l) : CnA Tryd.prog args [(.dat 22 (.lst l.1)), (.dat 30 l.2.1), (.dat 30 l.2.2)] ∧ CnOL Tryd.prog objs [] := by
  unfold sel9 at h
  split at h
  · obtain ⟨hc, h2⟩ := bif_some h
    cases h2
    have e0 := beq_eq (and_l hc)
    have e1 := beq_eq (and_l (and_r hc))
    have e2 := beq_eq (and_r (and_r hc))
    subst e0 e1 e2
    exact ⟨(.cons (.of (.dat (.lst Tryd.underlying22)) rfl rfl) (.cons (.of .same rfl rfl) (.cons (.of .same rfl rfl) .nil))), .nil⟩
  · cases h
def sel10 (args : List AV) (objs : List Ob) : Option (Dt) := match args, objs with
  | [.dat T0 x0], [] => bif Nat.beq T0 30 then some x0 else none
  | _, _ => none
theorem sel10_ok {args : List AV} {objs : List Ob} {l : Dt} (h : sel10 args objs = some l) : CnA Tryd.prog args [(.dat 30 l)] ∧ CnOL Tryd.prog objs [] := by
  unfold sel10 at h
  split at h
  · obtain ⟨hc, h2⟩ := bif_some h
    cases h2
    have e0 := beq_eq hc
    subst e0
    exact ⟨(.cons (.of .same rfl rfl) .nil), .nil⟩
  · cases h
def sel11 (args : List AV) (objs : List Ob) : Option (List Dt × List Dt × Int) := match args, objs with
  | [.dat T0 x0, .dat T1 x1, .dat T2 x2], [] => bif (Nat.beq T0 22 && (Nat.beq T1 27 && Nat.beq T2 3)) then some (x0.toLst, x1.toLst, x2.toInt) else none
  | _, _ => none
theorem sel11_ok {args : List AV} {objs : List Ob} {l : List Dt × List Dt × Int} (h : sel11 args objs = some l) : CnA Tryd.prog args [(.dat 22 (.lst l.1)), (.dat 27 (.lst l.2.1)), (.dat 3 (.int l.2.2))] ∧ CnOL Tryd.prog objs [] := by
  unfold sel11 at h
  split at h
  · obtain ⟨hc, h2⟩ := bif_some h
    cases h2
    have e0 := beq_eq (and_l hc)
    have e1 := beq_eq (and_l (and_r hc))
    have e2 := beq_eq (and_r (and_r hc))
    subst e0 e1 e2
    exact ⟨(.cons (.of (.dat (.lst Tryd.underlying22)) rfl rfl) (.cons (.of (.dat (.lst Tryd.underlying27)) rfl rfl) (.cons (.of (.dat (.int Tryd.underlying3)) rfl rfl) .nil))), .nil⟩
  · cases h
def sel12 (args : List AV) (objs : List Ob) : Option (List Dt × Dt × Dt) := match args, objs with
  | [.dat T0 x0, .dat T1 x1, .dat T2 x2], [] => bif (Nat.beq T0 22 && (Nat.beq T1 30 && Nat.beq T2 30)) then some (x0.toLst, x1, x2) else none
  | _, _ => none
theorem sel12_ok {args : List AV} {objs : List Ob} {l : List Dt × Dt × Dt} (h : sel12 args objs = some l) : CnA Tryd.prog args [(.dat 22 (.lst l.1)), (.dat 30 l.2.1), (.dat 30 l.2.2)] ∧ CnOL Tryd.prog objs [] := by
  unfold sel12 at h
  split at h
  · obtain ⟨hc, h2⟩ := bif_some h
    cases h2
    have e0 := beq_eq (and_l hc)
    have e1 := beq_eq (and_l (and_r hc))
    have e2 := beq_eq (and_r (and_r hc))
    subst e0 e1 e2
    exact ⟨(.cons (.of (.dat (.lst Tryd.underlying22)) rfl rfl) (.cons (.of .same rfl rfl) (.cons (.of .same rfl rfl) .nil))), .nil⟩
  · cases h
def sel13 (args : List AV) (objs : List Ob) : Option (Dt × Dt) := match args, objs with
  | [.dat T0 x0, .dat T1 x1], [] => bif (Nat.beq T0 30 && Nat.beq T1 30) then some (x0, x1) else none
  | _, _ => none
theorem sel13_ok {args : List AV} {objs : List Ob} {l : Dt × Dt} (h : sel13 args objs = some l) : CnA Tryd.prog args [(.dat 30 l.1), (.dat 30 l.2)] ∧ CnOL Tryd.prog objs [] := by
  unfold sel13 at h
  split at h
  · obtain ⟨hc, h2⟩ := bif_some h
    cases h2
    have e0 := beq_eq (and_l hc)
    have e1 := beq_eq (and_r hc)
    subst e0 e1
    exact ⟨(.cons (.of .same rfl rfl) (.cons (.of .same rfl rfl) .nil)), .nil⟩
  · cases h
def sel14 (args : List AV) (objs : List Ob) : Option (List Dt × Dt) := match args, objs with
  | [.dat T0 x0, .dat T1 x1], [] => bif (Nat.beq T0 22 && Nat.beq T1 30) then some (x0.toLst, x1) else none
  | _, _ => none
theorem sel14_ok {args : List AV} {objs : List Ob} {l : List Dt × Dt} (h : sel14 args objs = some l) : CnA Tryd.prog args [(.dat 22 (.lst l.1)), (.dat 30 l.2)] ∧ CnOL Tryd.prog objs [] := by
  unfold sel14 at h
  split at h
  · obtain ⟨hc, h2⟩ := bif_some h
    cases h2
    have e0 := beq_eq (and_l hc)
    have e1 := beq_eq (and_r hc)
    subst e0 e1
    exact ⟨(.cons (.of (.dat (.lst Tryd.underlying22)) rfl rfl) (.cons (.of .same rfl rfl) .nil)), .nil⟩
  · cases h
def sel15 (args : List AV) (objs : List Ob) : Option (List Dt × List Dt × List Dt) := match args, objs with
  | [.dat T0 x0, .dat T1 x1, .dat T2 x2], [] => bif (Nat.beq T0 22 && (Nat.beq T1 27 && Nat.beq T2 27)) then some (x0.toLst, x1.toLst, x2.toLst) else none
  | _, _ => none
theorem sel15_ok {args : List AV} {objs : List Ob} {l : List Dt × List Dt × List Dt} (h : sel15 args objs = some l) : CnA Tryd.prog args [(.dat 22 (.lst l.1)), (.dat 27 (.lst l.2.1)), (.dat 27 (.lst l.2.2))] ∧ CnOL Tryd.prog objs [] := by
  unfold sel15 at h
  split at h
  · obtain ⟨hc, h2⟩ := bif_some h
    cases h2
    have e0 := beq_eq (and_l hc)
    have e1 := beq_eq (and_l (and_r hc))
    have e2 := beq_eq (and_r (and_r hc))
    subst e0 e1 e2
    exact ⟨(.cons (.of (.dat (.lst Tryd.underlying22)) rfl rfl) (.cons (.of (.dat (.lst Tryd.underlying27)) rfl rfl) (.cons (.of (.dat (.lst Tryd.underlying27)) rfl rfl) .nil))), .nil⟩
  · cases h
def sel16 (args : List AV) (objs : List Ob) : Option (Dt) := match args, objs with
  | [.dat T0 x0], [] => bif Nat.beq T0 30 then some x0 else none
  | _, _ => none
theorem sel16_ok {args : List AV} {objs : List Ob} {l : Dt} (h : sel16 args objs = some l) : CnA Tryd.prog args [(.dat 30 l)] ∧ CnOL Tryd.prog objs [] := by
  unfold sel16 at h
  split at h
  · obtain ⟨hc, h2⟩ := bif_some h
    cases h2
    have e0 := beq_eq hc
    subst e0
    exact ⟨(.cons (.of .same rfl rfl) .nil), .nil⟩
  · cases h
def sel17 (args : List AV) (objs : List Ob) : Option (Dt) := match args, objs with
  | [.dat T0 x0], [] => bif Nat.beq T0 30 then some x0 else none
  | _, _ => none
theorem sel17_ok {args : List AV} {objs : List Ob} {l : Dt} (h : sel17 args objs = some l) : CnA Tryd.prog args [(.dat 30 l)] ∧ CnOL Tryd.prog objs [] := by
  unfold sel17 at h
  split at h
  · obtain ⟨hc, h2⟩ := bif_some h
    cases h2
    have e0 := beq_eq hc
    subst e0
    exact ⟨(.cons (.of .same rfl rfl) .nil), .nil⟩
  · cases h
def sel18 (args : List AV) (objs : List Ob) : Option (Dt × Bool) := match args, objs with
  | [.dat T0 x0, .dat T1 x1], [] => bif (Nat.beq T0 30 && Nat.beq T1 4) then some (x0, x1.toBool) else none
  | _, _ => none
theorem sel18_ok {args : List AV} {objs : List Ob} {l : Dt × Bool} (h : sel18 args objs = some l) : CnA Tryd.prog args [(.dat 30 l.1), (.dat 4 (.bool l.2))] ∧ CnOL Tryd.prog objs [] := by
  unfold sel18 at h
  split at h
  · obtain ⟨hc, h2⟩ := bif_some h
    cases h2
    have e0 := beq_eq (and_l hc)
    have e1 := beq_eq (and_r hc)
    subst e0 e1
    exact ⟨(.cons (.of .same rfl rfl) (.cons (.of (.dat (.bool Tryd.underlying4)) rfl rfl) .nil)), .nil⟩
  · cases h
def sel19 (args : List AV) (objs : List Ob) : Option (List Dt × List Dt) := match args, objs with
  | [.row n0, .fn T1 [.ptr n2 p2 o2]], [.row T3 x3, .box T4 (.dat T5 x5)] => bif (Nat.beq n0 0 && (Nat.beq T1 56 && (Nat.beq n2 1 && (natsB p2 [] && (Nat.beq o2 0 && (Nat.beq T3 68 && (Nat.beq T4 22 && Nat.beq T5 22))))))) then some (x3, x5.toLst) else none
  | _, _ => none
theorem sel19_ok {args : List AV} {objs : List Ob} {l : List Dt × List Dt} (h : sel19 args objs = some l) : CnA Tryd.prog args [(.row 0), (.fn 56 [(.ptr 1 [] 0)])] ∧ CnOL Tryd.prog objs [(.row 68 l.1), (.box 22 (.dat 22 (.lst l.2)))] := by
  unfold sel19 at h
  split at h
  · obtain ⟨hc, h2⟩ := bif_some h
    cases h2
    have e0 := beq_eq (and_l hc)
    have e1 := beq_eq (and_l (and_r hc))
    have e2 := beq_eq (and_l (and_r (and_r hc)))
    have e3 := natsB_eq (and_l (and_r (and_r (and_r hc))))
    have e4 := beq_eq (and_l (and_r (and_r (and_r (and_r hc)))))
    have e5 := beq_eq (and_l (and_r (and_r (and_r (and_r (and_r hc))))))
    have e6 := beq_eq (and_l (and_r (and_r (and_r (and_r (and_r (and_r hc)))))))
    have e7 := beq_eq (and_r (and_r (and_r (and_r (and_r (and_r (and_r hc)))))))
    subst e0 e1 e2 e3 e4 e5 e6 e7
    exact ⟨(.cons (.of .same rfl rfl) (.cons (.of (.fn (.cons .same .nil)) rfl rfl) .nil)), (.cons .same (.cons (.box (.dat (.lst Tryd.underlying22))) .nil))⟩
  · cases h
def sel20 (args : List AV) (objs : List Ob) : Option (Int × List Dt × List Dt) := match args, objs with
  | [.row n0, .dat T1 x1, .fn T2 [.ptr n3 p3 o3]], [.row T4 x4, .box T5 (.dat T6 x6)] => bif (Nat.beq n0 0 && (Nat.beq T1 3 && (Nat.beq T2 56 && (Nat.beq n3 1 && (natsB p3 [] && (Nat.beq o3 0 && (Nat.beq T4 68 && (Nat.beq T5 22 && Nat.beq T6 22)))))))) then some (x1.toInt, x4, x6.toLst) else none
  | _, _ => none
theorem sel20_ok {args : List AV} {objs : List Ob} {l : Int × List Dt × List Dt} (h : sel20 args objs = some l) : CnA Tryd.prog args [(.row 0), (.dat 3 (.int l.1)), (.fn 56 [(.ptr 1 [] 0)])] ∧ CnOL Tryd.prog objs [(.row 68 l.2.1), (.box 22 (.dat 22 (.lst l.2.2)))] := by
  unfold sel20 at h
  split at h
  · obtain ⟨hc, h2⟩ := bif_some h
    cases h2
    have e0 := beq_eq (and_l hc)
    have e1 := beq_eq (and_l (and_r hc))
    have e2 := beq_eq (and_l (and_r (and_r hc)))
    have e3 := beq_eq (and_l (and_r (and_r (and_r hc))))
    have e4 := natsB_eq (and_l (and_r (and_r (and_r (and_r hc)))))
    have e5 := beq_eq (and_l (and_r (and_r (and_r (and_r (and_r hc))))))
    have e6 := beq_eq (and_l (and_r (and_r (and_r (and_r (and_r (and_r hc)))))))
    have e7 := beq_eq (and_l (and_r (and_r (and_r (and_r (and_r (and_r (and_r hc))))))))
    have e8 := beq_eq (and_r (and_r (and_r (and_r (and_r (and_r (and_r (and_r hc))))))))
    subst e0 e1 e2 e3 e4 e5 e6 e7 e8
    exact ⟨(.cons (.of .same rfl rfl) (.cons (.of (.dat (.int Tryd.underlying3)) rfl rfl) (.cons (.of (.fn (.cons .same .nil)) rfl rfl) .nil))), (.cons .same (.cons (.box (.dat (.lst Tryd.underlying22))) .nil))⟩
  · cases h
def sel21 (args : List AV) (objs : List Ob) : Option (Int × Int × List Dt × List Dt) := match args, objs with
  | [.row n0, .dat T1 x1, .dat T2 x2, .fn T3 [.ptr n4 p4 o4]], [.row T5 x5, .box T6 (.dat T7 x7)] => bif (Nat.beq n0 0 && (Nat.beq T1 3 && (Nat.beq T2 3 && (Nat.beq T3 56 && (Nat.beq n4 1 && (natsB p4 [] && (Nat.beq o4 0 && (Nat.beq T5 68 && (Nat.beq T6 22 && Nat.beq T7 22))))))))) then some (x1.toInt, x2.toInt, x5, x7.toLst) else none
  | _, _ => none
theorem sel21_ok {args : List AV} {objs : List Ob} {l : Int × Int × List Dt × List Dt} (h : sel21 args objs = some l) : CnA Tryd.prog args [(.row 0), (.dat 3 (.int l.1)), (.dat 3 (.int l.2.1)), (.fn 56 [(.ptr 1 [] 0)])] ∧ CnOL Tryd.prog objs [(.row 68 l.2.2.1), (.box 22 (.dat 22 (.lst l.2.2.2)))] := by
  unfold sel21 at h
  split at h
  · obtain ⟨hc, h2⟩ := bif_some h
    cases h2
    have e0 := beq_eq (and_l hc)
    have e1 := beq_eq (and_l (and_r hc))
    have e2 := beq_eq (and_l (and_r (and_r hc)))
    have e3 := beq_eq (and_l (and_r (and_r (and_r hc))))
    have e4 := beq_eq (and_l (and_r (and_r (and_r (and_r hc)))))
    have e5 := natsB_eq (and_l (and_r (and_r (and_r (and_r (and_r hc))))))
    have e6 := beq_eq (and_l (and_r (and_r (and_r (and_r (and_r (and_r hc)))))))
    have e7 := beq_eq (and_l (and_r (and_r (and_r (and_r (and_r (and_r (and_r hc))))))))
    have e8 := beq_eq (and_l (and_r (and_r (and_r (and_r (and_r (and_r (and_r (and_r hc)))))))))
    have e9 := beq_eq (and_r (and_r (and_r (and_r (and_r (and_r (and_r (and_r (and_r hc)))))))))
    subst e0 e1 e2 e3 e4 e5 e6 e7 e8 e9
    exact ⟨(.cons (.of .same rfl rfl) (.cons (.of (.dat (.int Tryd.underlying3)) rfl rfl) (.cons (.of (.dat (.int Tryd.underlying3)) rfl rfl) (.cons (.of (.fn (.cons .same .nil)) rfl rfl) .nil)))), (.cons .same (.cons (.box (.dat (.lst Tryd.underlying22))) .nil))⟩
  · cases h
def sel22 (args : List AV) (objs : List Ob) : Option (Dt × Dt × List Dt) := match args, objs with
  | [.dat T0 x0, .dat T1 x1, .ptr n2 p2 o2], [.box T3 (.dat T4 x4)] => bif (Nat.beq T0 70 && (Nat.beq T1 70 && (Nat.beq n2 0 && (natsB p2 [] && (Nat.beq o2 0 && (Nat.beq T3 22 && Nat.beq T4 22)))))) then some (x0, x1, x4.toLst) else none
  | _, _ => none
theorem sel22_ok {args : List AV} {objs : List Ob} {l : Dt × Dt × List Dt} (h : sel22 args objs = some l) : CnA Tryd.prog args [(.dat 70 l.1), (.dat 70 l.2.1), (.ptr 0 [] 0)] ∧ CnOL Tryd.prog objs [(.box 22 (.dat 22 (.lst l.2.2)))] := by
  unfold sel22 at h
  split at h
  · obtain ⟨hc, h2⟩ := bif_some h
    cases h2
    have e0 := beq_eq (and_l hc)
    have e1 := beq_eq (and_l (and_r hc))
    have e2 := beq_eq (and_l (and_r (and_r hc)))
    have e3 := natsB_eq (and_l (and_r (and_r (and_r hc))))
    have e4 := beq_eq (and_l (and_r (and_r (and_r (and_r hc)))))
    have e5 := beq_eq (and_l (and_r (and_r (and_r (and_r (and_r hc))))))
    have e6 := beq_eq (and_r (and_r (and_r (and_r (and_r (and_r hc))))))
    subst e0 e1 e2 e3 e4 e5 e6
    exact ⟨(.cons (.of .same rfl rfl) (.cons (.of .same rfl rfl) (.cons (.of .same rfl rfl) .nil))), (.cons (.box (.dat (.lst Tryd.underlying22))) .nil)⟩
  · cases h
def sel23 (args : List AV) (objs : List Ob) : Option (Int × Int × Int × List Dt × List Dt) := match args, objs with
  | [.row n0, .dat T1 x1, .dat T2 x2, .dat T3 x3, .fn T4 [.ptr n5 p5 o5]], [.row T6 x6, .box T7 (.dat T8 x8)] => bif (Nat.beq n0 0 && (Nat.beq T1 3 && (Nat.beq T2 3 && (Nat.beq T3 3 && (Nat.beq T4 56 && (Nat.beq n5 1 && (natsB p5 [] && (Nat.beq o5 0 && (Nat.beq T6 68 && (Nat.beq T7 22 && Nat.beq T8 22)))))))))) then some (x1.toInt, x2.toInt, x3.toInt, x6, x8.toLst) else none
  | _, _ => none
theorem sel23_ok {args : List AV} {objs : List Ob} {l : Int × Int × Int × List Dt × List Dt} (h : sel23 args objs = some l) : CnA Tryd.prog args [(.row 0), (.dat 3 (.int l.1)), (.dat 3 (.int l.2.1)), (.dat 3 (.int l.2.2.1)), (.fn 56 [(.ptr 1 [] 0)])] ∧ CnOL Tryd.prog objs [(.row 68 l.2.2.2.1), (.box 22 (.dat 22 (.lst l.2.2.2.2)))] := by
  unfold sel23 at h
  split at h
  · obtain ⟨hc, h2⟩ := bif_some h
    cases h2
    have e0 := beq_eq (and_l hc)
    have e1 := beq_eq (and_l (and_r hc))
    have e2 := beq_eq (and_l (and_r (and_r hc)))
    have e3 := beq_eq (and_l (and_r (and_r (and_r hc))))
    have e4 := beq_eq (and_l (and_r (and_r (and_r (and_r hc)))))
    have e5 := beq_eq (and_l (and_r (and_r (and_r (and_r (and_r hc))))))
    have e6 := natsB_eq (and_l (and_r (and_r (and_r (and_r (and_r (and_r hc)))))))
    have e7 := beq_eq (and_l (and_r (and_r (and_r (and_r (and_r (and_r (and_r hc))))))))
    have e8 := beq_eq (and_l (and_r (and_r (and_r (and_r (and_r (and_r (and_r (and_r hc)))))))))
    have e9 := beq_eq (and_l (and_r (and_r (and_r (and_r (and_r (and_r (and_r (and_r (and_r hc))))))))))
    have e10 := beq_eq (and_r (and_r (and_r (and_r (and_r (and_r (and_r (and_r (and_r (and_r hc))))))))))
    subst e0 e1 e2 e3 e4 e5 e6 e7 e8 e9 e10
    exact ⟨(.cons (.of .same rfl rfl) (.cons (.of (.dat (.int Tryd.underlying3)) rfl rfl) (.cons (.of (.dat (.int Tryd.underlying3)) rfl rfl) (.cons (.of (.dat (.int Tryd.underlying3)) rfl rfl) (.cons (.of (.fn (.cons .same .nil)) rfl rfl) .nil))))), (.cons .same (.cons (.box (.dat (.lst Tryd.underlying22))) .nil))⟩
  · cases h
def sel24 (args : List AV) (objs : List Ob) : Option (Int × Int × Int × List Dt × List Dt) := match args, objs with
  | [.row n0, .dat T1 x1, .dat T2 x2, .dat T3 x3, .fn T4 [.ptr n5 p5 o5]], [.row T6 x6, .box T7 (.dat T8 x8)] => bif (Nat.beq n0 0 && (Nat.beq T1 3 && (Nat.beq T2 3 && (Nat.beq T3 3 && (Nat.beq T4 56 && (Nat.beq n5 1 && (natsB p5 [] && (Nat.beq o5 0 && (Nat.beq T6 68 && (Nat.beq T7 22 && Nat.beq T8 22)))))))))) then some (x1.toInt, x2.toInt, x3.toInt, x6, x8.toLst) else none
  | _, _ => none
theorem sel24_ok {args : List AV} {objs : List Ob} {l : Int × Int × Int × List Dt × List Dt} (h : sel24 args objs = some l) : CnA Tryd.prog args [(.row 0), (.dat 3 (.int l.1)), (.dat 3 (.int l.2.1)), (.dat 3 (.int l.2.2.1)), (.fn 56 [(.ptr 1 [] 0)])] ∧ CnOL Tryd.prog objs [(.row 68 l.2.2.2.1), (.box 22 (.dat 22 (.lst l.2.2.2.2)))] := by
  unfold sel24 at h
  split at h
  · obtain ⟨hc, h2⟩ := bif_some h
    cases h2
    have e0 := beq_eq (and_l hc)
    have e1 := beq_eq (and_l (and_r hc))
    have e2 := beq_eq (and_l (and_r (and_r hc)))
    have e3 := beq_eq (and_l (and_r (and_r (and_r hc))))
    have e4 := beq_eq (and_l (and_r (and_r (and_r (and_r hc)))))
    have e5 := beq_eq (and_l (and_r (and_r (and_r (and_r (and_r hc))))))
    have e6 := natsB_eq (and_l (and_r (and_r (and_r (and_r (and_r (and_r hc)))))))
    have e7 := beq_eq (and_l (and_r (and_r (and_r (and_r (and_r (and_r (and_r hc))))))))
    have e8 := beq_eq (and_l (and_r (and_r (and_r (and_r (and_r (and_r (and_r (and_r hc)))))))))
    have e9 := beq_eq (and_l (and_r (and_r (and_r (and_r (and_r (and_r (and_r (and_r (and_r hc))))))))))
    have e10 := beq_eq (and_r (and_r (and_r (and_r (and_r (and_r (and_r (and_r (and_r (and_r hc))))))))))
    subst e0 e1 e2 e3 e4 e5 e6 e7 e8 e9 e10
    exact ⟨(.cons (.of .same rfl rfl) (.cons (.of (.dat (.int Tryd.underlying3)) rfl rfl) (.cons (.of (.dat (.int Tryd.underlying3)) rfl rfl) (.cons (.of (.dat (.int Tryd.underlying3)) rfl rfl) (.cons (.of (.fn (.cons .same .nil)) rfl rfl) .nil))))), (.cons .same (.cons (.box (.dat (.lst Tryd.underlying22))) .nil))⟩
  · cases h
def sel25 (args : List AV) (objs : List Ob) : Option (Int × Int × Int × List Dt × List Dt) := match args, objs with
  | [.row n0, .dat T1 x1, .dat T2 x2, .dat T3 x3, .fn T4 [.ptr n5 p5 o5]], [.row T6 x6, .box T7 (.dat T8 x8)] => bif (Nat.beq n0 0 && (Nat.beq T1 3 && (Nat.beq T2 3 && (Nat.beq T3 3 && (Nat.beq T4 56 && (Nat.beq n5 1 && (natsB p5 [] && (Nat.beq o5 0 && (Nat.beq T6 68 && (Nat.beq T7 22 && Nat.beq T8 22)))))))))) then some (x1.toInt, x2.toInt, x3.toInt, x6, x8.toLst) else none
  | _, _ => none
theorem sel25_ok {args : List AV} {objs : List Ob} {l : Int × Int × Int × List Dt × List Dt} (h : sel25 args objs = some l) : CnA Tryd.prog args [(.row 0), (.dat 3 (.int l.1)), (.dat 3 (.int l.2.1)), (.dat 3 (.int l.2.2.1)), (.fn 56 [(.ptr 1 [] 0)])] ∧ CnOL Tryd.prog objs [(.row 68 l.2.2.2.1), (.box 22 (.dat 22 (.lst l.2.2.2.2)))] := by
  unfold sel25 at h
  split at h
  · obtain ⟨hc, h2⟩ := bif_some h
    cases h2
    have e0 := beq_eq (and_l hc)
    have e1 := beq_eq (and_l (and_r hc))
    have e2 := beq_eq (and_l (and_r (and_r hc)))
    have e3 := beq_eq (and_l (and_r (and_r (and_r hc))))
    have e4 := beq_eq (and_l (and_r (and_r (and_r (and_r hc)))))
    have e5 := beq_eq (and_l (and_r (and_r (and_r (and_r (and_r hc))))))
    have e6 := natsB_eq (and_l (and_r (and_r (and_r (and_r (and_r (and_r hc)))))))
    have e7 := beq_eq (and_l (and_r (and_r (and_r (and_r (and_r (and_r (and_r hc))))))))
    have e8 := beq_eq (and_l (and_r (and_r (and_r (and_r (and_r (and_r (and_r (and_r hc)))))))))
    have e9 := beq_eq (and_l (and_r (and_r (and_r (and_r (and_r (and_r (and_r (and_r (and_r hc))))))))))
    have e10 := beq_eq (and_r (and_r (and_r (and_r (and_r (and_r (and_r (and_r (and_r (and_r hc))))))))))
    subst e0 e1 e2 e3 e4 e5 e6 e7 e8 e9 e10
    exact ⟨(.cons (.of .same rfl rfl) (.cons (.of (.dat (.int Tryd.underlying3)) rfl rfl) (.cons (.of (.dat (.int Tryd.underlying3)) rfl rfl) (.cons (.of (.dat (.int Tryd.underlying3)) rfl rfl) (.cons (.of (.fn (.cons .same .nil)) rfl rfl) .nil))))), (.cons .same (.cons (.box (.dat (.lst Tryd.underlying22))) .nil))⟩
  · cases h
def sel26 (args : List AV) (objs : List Ob) : Option (Dt) := match args, objs with
  | [.dat T0 x0], [] => bif Nat.beq T0 30 then some x0 else none
  | _, _ => none
theorem sel26_ok {args : List AV} {objs : List Ob} {l : Dt} (h : sel26 args objs = some l) : CnA Tryd.prog args [(.dat 30 l)] ∧ CnOL Tryd.prog objs [] := by
  unfold sel26 at h
  split at h
  · obtain ⟨hc, h2⟩ := bif_some h
    cases h2
    have e0 := beq_eq hc
    subst e0
    exact ⟨(.cons (.of .same rfl rfl) .nil), .nil⟩
  · cases h
def sel27 (args : List AV) (objs : List Ob) : Option (Dt × Dt) := match args, objs with
  | [.dat T0 x0, .dat T1 x1], [] => bif (Nat.beq T0 47 && Nat.beq T1 30) then some (x0, x1) else none
  | _, _ => none
theorem sel27_ok {args : List AV} {objs : List Ob} {l : Dt × Dt} (h : sel27 args objs = some l) : CnA Tryd.prog args [(.dat 47 l.1), (.dat 30 l.2)] ∧ CnOL Tryd.prog objs [] := by
  unfold sel27 at h
  split at h
  · obtain ⟨hc, h2⟩ := bif_some h
    cases h2
    have e0 := beq_eq (and_l hc)
    have e1 := beq_eq (and_r hc)
    subst e0 e1
    exact ⟨(.cons (.of .same rfl rfl) (.cons (.of .same rfl rfl) .nil)), .nil⟩
  · cases h
def sel28 (args : List AV) (objs : List Ob) : Option (Dt × Dt) := match args, objs with
  | [.dat T0 x0, .dat T1 x1], [] => bif (Nat.beq T0 30 && Nat.beq T1 30) then some (x0, x1) else none
  | _, _ => none
theorem sel28_ok {args : List AV} {objs : List Ob} {l : Dt × Dt} (h : sel28 args objs = some l) : CnA Tryd.prog args [(.dat 30 l.1), (.dat 30 l.2)] ∧ CnOL Tryd.prog objs [] := by
  unfold sel28 at h
  split at h
  · obtain ⟨hc, h2⟩ := bif_some h
    cases h2
    have e0 := beq_eq (and_l hc)
    have e1 := beq_eq (and_r hc)
    subst e0 e1
    exact ⟨(.cons (.of .same rfl rfl) (.cons (.of .same rfl rfl) .nil)), .nil⟩
  · cases h
def sel29 (args : List AV) (objs : List Ob) : Option (Dt × Dt) := match args, objs with
  | [.dat T0 x0, .dat T1 x1], [] => bif (Nat.beq T0 47 && Nat.beq T1 30) then some (x0, x1) else none
  | _, _ => none
theorem sel29_ok {args : List AV} {objs : List Ob} {l : Dt × Dt} (h : sel29 args objs = some l) : CnA Tryd.prog args [(.dat 47 l.1), (.dat 30 l.2)] ∧ CnOL Tryd.prog objs [] := by
  unfold sel29 at h
  split at h
  · obtain ⟨hc, h2⟩ := bif_some h
    cases h2
    have e0 := beq_eq (and_l hc)
    have e1 := beq_eq (and_r hc)
    subst e0 e1
    exact ⟨(.cons (.of .same rfl rfl) (.cons (.of .same rfl rfl) .nil)), .nil⟩
  · cases h
def sel30 (args : List AV) (objs : List Ob) : Option (Dt × Dt) := match args, objs with
  | [.dat T0 x0, .dat T1 x1], [] => bif (Nat.beq T0 30 && Nat.beq T1 30) then some (x0, x1) else none
  | _, _ => none
theorem sel30_ok {args : List AV} {objs : List Ob} {l : Dt × Dt} (h : sel30 args objs = some l) : CnA Tryd.prog args [(.dat 30 l.1), (.dat 30 l.2)] ∧ CnOL Tryd.prog objs [] := by
  unfold sel30 at h
  split at h
  · obtain ⟨hc, h2⟩ := bif_some h
    cases h2
    have e0 := beq_eq (and_l hc)
    have e1 := beq_eq (and_r hc)
    subst e0 e1
    exact ⟨(.cons (.of .same rfl rfl) (.cons (.of .same rfl rfl) .nil)), .nil⟩
  · cases h
def sel31 (args : List AV) (objs : List Ob) : Option (Dt × Int) := match args, objs with
  | [.dat T0 x0, .dat T1 x1], [] => bif (Nat.beq T0 30 && Nat.beq T1 3) then some (x0, x1.toInt) else none
  | _, _ => none
theorem sel31_ok {args : List AV} {objs : List Ob} {l : Dt × Int} (h : sel31 args objs = some l) : CnA Tryd.prog args [(.dat 30 l.1), (.dat 3 (.int l.2))] ∧ CnOL Tryd.prog objs [] := by
  unfold sel31 at h
  split at h
  · obtain ⟨hc, h2⟩ := bif_some h
    cases h2
    have e0 := beq_eq (and_l hc)
    have e1 := beq_eq (and_r hc)
    subst e0 e1
    exact ⟨(.cons (.of .same rfl rfl) (.cons (.of (.dat (.int Tryd.underlying3)) rfl rfl) .nil)), .nil⟩
  · cases h
def sel32 (args : List AV) (objs : List Ob) : Option (Dt × Int) := match args, objs with
  | [.dat T0 x0, .dat T1 x1], [] => bif (Nat.beq T0 30 && Nat.beq T1 3) then some (x0, x1.toInt) else none
  | _, _ => none
theorem sel32_ok {args : List AV} {objs : List Ob} {l : Dt × Int} (h : sel32 args objs = some l) : CnA Tryd.prog args [(.dat 30 l.1), (.dat 3 (.int l.2))] ∧ CnOL Tryd.prog objs [] := by
  unfold sel32 at h
  split at h
  · obtain ⟨hc, h2⟩ := bif_some h
    cases h2
    have e0 := beq_eq (and_l hc)
    have e1 := beq_eq (and_r hc)
    subst e0 e1
    exact ⟨(.cons (.of .same rfl rfl) (.cons (.of (.dat (.int Tryd.underlying3)) rfl rfl) .nil)), .nil⟩
  · cases h
def sel33 (args : List AV) (objs : List Ob) : Option (ByteArray) := match args, objs with
  | [.dat T0 x0], [] => bif Nat.beq T0 9 then some x0.toStr else none
  | _, _ => none
theorem sel33_ok {args : List AV} {objs : List Ob} {l : ByteArray} (h : sel33 args objs = some l) : CnA Tryd.prog args [(.dat 9 (.str l))] ∧ CnOL Tryd.prog objs [] := by
  unfold sel33 at h
  split at h
  · obtain ⟨hc, h2⟩ := bif_some h
    cases h2
    have e0 := beq_eq hc
    subst e0
    exact ⟨(.cons (.of (.dat (.str Tryd.underlying9)) rfl rfl) .nil), .nil⟩
  · cases h
def sel34 (args : List AV) (objs : List Ob) : Option (Dt × Bool) := match args, objs with
  | [.dat T0 x0, .dat T1 x1], [] => bif (Nat.beq T0 30 && Nat.beq T1 4) then some (x0, x1.toBool) else none
  | _, _ => none
theorem sel34_ok {args : List AV} {objs : List Ob} {l : Dt × Bool} (h : sel34 args objs = some l) : CnA Tryd.prog args [(.dat 30 l.1), (.dat 4 (.bool l.2))] ∧ CnOL Tryd.prog objs [] := by
  unfold sel34 at h
  split at h
  · obtain ⟨hc, h2⟩ := bif_some h
    cases h2
    have e0 := beq_eq (and_l hc)
    have e1 := beq_eq (and_r hc)
    subst e0 e1
    exact ⟨(.cons (.of .same rfl rfl) (.cons (.of (.dat (.bool Tryd.underlying4)) rfl rfl) .nil)), .nil⟩
  · cases h
def sel35 (args : List AV) (objs : List Ob) : Option (Dt × List Dt) := match args, objs with
  | [.dat T0 x0, .dat T1 x1], [] => bif (Nat.beq T0 30 && Nat.beq T1 45) then some (x0, x1.toLst) else none
  | _, _ => none
theorem sel35_ok {args : List AV} {objs : List Ob} {l : Dt × List Dt} (h : sel35 args objs = some l) : CnA Tryd.prog args [(.dat 30 l.1), (.dat 45 (.lst l.2))] ∧ CnOL Tryd.prog objs [] := by
  unfold sel35 at h
  split at h
  · obtain ⟨hc, h2⟩ := bif_some h
    cases h2
    have e0 := beq_eq (and_l hc)
    have e1 := beq_eq (and_r hc)
    subst e0 e1
    exact ⟨(.cons (.of .same rfl rfl) (.cons (.of (.dat (.lst Tryd.underlying45)) rfl rfl) .nil)), .nil⟩
  · cases h
def sel36 (args : List AV) (objs : List Ob) : Option (Int × Int) := match args, objs with
  | [.dat T0 x0, .dat T1 x1], [] => bif (Nat.beq T0 3 && Nat.beq T1 3) then some (x0.toInt, x1.toInt) else none
  | _, _ => none
theorem sel36_ok {args : List AV} {objs : List Ob} {l : Int × Int} (h : sel36 args objs = some l) : CnA Tryd.prog args [(.dat 3 (.int l.1)), (.dat 3 (.int l.2))] ∧ CnOL Tryd.prog objs [] := by
  unfold sel36 at h
  split at h
  · obtain ⟨hc, h2⟩ := bif_some h
    cases h2
    have e0 := beq_eq (and_l hc)
    have e1 := beq_eq (and_r hc)
    subst e0 e1
    exact ⟨(.cons (.of (.dat (.int Tryd.underlying3)) rfl rfl) (.cons (.of (.dat (.int Tryd.underlying3)) rfl rfl) .nil)), .nil⟩
  · cases h
def sel37 (args : List AV) (objs : List Ob) : Option (ByteArray × ByteArray) := match args, objs with
  | [.dat T0 x0, .dat T1 x1], [] => bif (Nat.beq T0 9 && Nat.beq T1 9) then some (x0.toStr, x1.toStr) else none
  | _, _ => none
theorem sel37_ok {args : List AV} {objs : List Ob} {l : ByteArray × ByteArray} (h : sel37 args objs = some l) : CnA Tryd.prog args [(.dat 9 (.str l.1)), (.dat 9 (.str l.2))] ∧ CnOL Tryd.prog objs [] := by
  unfold sel37 at h
  split at h
  · obtain ⟨hc, h2⟩ := bif_some h
    cases h2
    have e0 := beq_eq (and_l hc)
    have e1 := beq_eq (and_r hc)
    subst e0 e1
    exact ⟨(.cons (.of (.dat (.str Tryd.underlying9)) rfl rfl) (.cons (.of (.dat (.str Tryd.underlying9)) rfl rfl) .nil)), .nil⟩
  · cases h
def sel38 (args : List AV) (objs : List Ob) : Option (Dt × List Dt) := match args, objs with
  | [.dat T0 x0, .dat T1 x1], [] => bif (Nat.beq T0 30 && Nat.beq T1 45) then some (x0, x1.toLst) else none
  | _, _ => none
theorem sel38_ok {args : List AV} {objs : List Ob} {l : Dt × List Dt} (h : sel38 args objs = some l) : CnA Tryd.prog args [(.dat 30 l.1), (.dat 45 (.lst l.2))] ∧ CnOL Tryd.prog objs [] := by
  unfold sel38 at h
  split at h
  · obtain ⟨hc, h2⟩ := bif_some h
    cases h2
    have e0 := beq_eq (and_l hc)
    have e1 := beq_eq (and_r hc)
    subst e0 e1
    exact ⟨(.cons (.of .same rfl rfl) (.cons (.of (.dat (.lst Tryd.underlying45)) rfl rfl) .nil)), .nil⟩
  · cases h
def sel39 (args : List AV) (objs : List Ob) : Option (Int × Int) := match args, objs with
  | [.dat T0 x0, .dat T1 x1], [] => bif (Nat.beq T0 3 && Nat.beq T1 3) then some (x0.toInt, x1.toInt) else none
  | _, _ => none
theorem sel39_ok {args : List AV} {objs : List Ob} {l : Int × Int} (h : sel39 args objs = some l) : CnA Tryd.prog args [(.dat 3 (.int l.1)), (.dat 3 (.int l.2))] ∧ CnOL Tryd.prog objs [] := by
  unfold sel39 at h
  split at h
  · obtain ⟨hc, h2⟩ := bif_some h
    cases h2
    have e0 := beq_eq (and_l hc)
    have e1 := beq_eq (and_r hc)
    subst e0 e1
    exact ⟨(.cons (.of (.dat (.int Tryd.underlying3)) rfl rfl) (.cons (.of (.dat (.int Tryd.underlying3)) rfl rfl) .nil)), .nil⟩
  · cases h
def sel40 (args : List AV) (objs : List Ob) : Option (ByteArray × ByteArray) := match args, objs with
  | [.dat T0 x0, .dat T1 x1], [] => bif (Nat.beq T0 9 && Nat.beq T1 9) then some (x0.toStr, x1.toStr) else none
  | _, _ => none
theorem sel40_ok {args : List AV} {objs : List Ob} {l : ByteArray × ByteArray} (h : sel40 args objs = some l) : CnA Tryd.prog args [(.dat 9 (.str l.1)), (.dat 9 (.str l.2))] ∧ CnOL Tryd.prog objs [] := by
  unfold sel40 at h
  split at h
  · obtain ⟨hc, h2⟩ := bif_some h
    cases h2
    have e0 := beq_eq (and_l hc)
    have e1 := beq_eq (and_r hc)
    subst e0 e1
    exact ⟨(.cons (.of (.dat (.str Tryd.underlying9)) rfl rfl) (.cons (.of (.dat (.str Tryd.underlying9)) rfl rfl) .nil)), .nil⟩
  · cases h
def sel41 (args : List AV) (objs : List Ob) : Option (Dt) := match args, objs with
  | [.dat T0 x0], [] => bif Nat.beq T0 30 then some x0 else none
  | _, _ => none
theorem sel41_ok {args : List AV} {objs : List Ob} {l : Dt} (h : sel41 args objs = some l) : CnA Tryd.prog args [(.dat 30 l)] ∧ CnOL Tryd.prog objs [] := by
  unfold sel41 at h
  split at h
  · obtain ⟨hc, h2⟩ := bif_some h
    cases h2
    have e0 := beq_eq hc
    subst e0
    exact ⟨(.cons (.of .same rfl rfl) .nil), .nil⟩
  · cases h
def sel42 (args : List AV) (objs : List Ob) : Option (ByteArray × Int × Int) := match args, objs with
  | [.dat T0 x0, .dat T1 x1, .dat T2 x2], [] => bif (Nat.beq T0 9 && (Nat.beq T1 3 && Nat.beq T2 3)) then some (x0.toStr, x1.toInt, x2.toInt) else none
  | _, _ => none
theorem sel42_ok {args : List AV} {objs : List Ob} {l : ByteArray × Int × Int} (h : sel42 args objs = some l) : CnA Tryd.prog args [(.dat 9 (.str l.1)), (.dat 3 (.int l.2.1)), (.dat 3 (.int l.2.2))] ∧ CnOL Tryd.prog objs [] := by
  unfold sel42 at h
  split at h
  · obtain ⟨hc, h2⟩ := bif_some h
    cases h2
    have e0 := beq_eq (and_l hc)
    have e1 := beq_eq (and_l (and_r hc))
    have e2 := beq_eq (and_r (and_r hc))
    subst e0 e1 e2
    exact ⟨(.cons (.of (.dat (.str Tryd.underlying9)) rfl rfl) (.cons (.of (.dat (.int Tryd.underlying3)) rfl rfl) (.cons (.of (.dat (.int Tryd.underlying3)) rfl rfl) .nil))), .nil⟩
  · cases h
def sel43 (args : List AV) (objs : List Ob) : Option (ByteArray) := match args, objs with
  | [.dat T0 x0], [] => bif Nat.beq T0 9 then some x0.toStr else none
  | _, _ => none
theorem sel43_ok {args : List AV} {objs : List Ob} {l : ByteArray} (h : sel43 args objs = some l) : CnA Tryd.prog args [(.dat 9 (.str l))] ∧ CnOL Tryd.prog objs [] := by
  unfold sel43 at h
  split at h
  · obtain ⟨hc, h2⟩ := bif_some h
    cases h2
    have e0 := beq_eq hc
    subst e0
    exact ⟨(.cons (.of (.dat (.str Tryd.underlying9)) rfl rfl) .nil), .nil⟩
  · cases h
def sel44 (args : List AV) (objs : List Ob) : Option (ByteArray) := match args, objs with
  | [.dat T0 x0], [] => bif Nat.beq T0 9 then some x0.toStr else none
  | _, _ => none
theorem sel44_ok {args : List AV} {objs : List Ob} {l : ByteArray} (h : sel44 args objs = some l) : CnA Tryd.prog args [(.dat 9 (.str l))] ∧ CnOL Tryd.prog objs [] := by
  unfold sel44 at h
  split at h
  · obtain ⟨hc, h2⟩ := bif_some h
    cases h2
    have e0 := beq_eq hc
    subst e0
    exact ⟨(.cons (.of (.dat (.str Tryd.underlying9)) rfl rfl) .nil), .nil⟩
  · cases h
def sel45 (args : List AV) (objs : List Ob) : Option (Dt × List Dt) := match args, objs with
  | [.dat T0 x0, .dat T1 x1], [] => bif (Nat.beq T0 30 && Nat.beq T1 45) then some (x0, x1.toLst) else none
  | _, _ => none
theorem sel45_ok {args : List AV} {objs : List Ob} {l : Dt × List Dt} (h : sel45 args objs = some l) : CnA Tryd.prog args [(.dat 30 l.1), (.dat 45 (.lst l.2))] ∧ CnOL Tryd.prog objs [] := by
  unfold sel45 at h
  split at h
  · obtain ⟨hc, h2⟩ := bif_some h
    cases h2
    have e0 := beq_eq (and_l hc)
    have e1 := beq_eq (and_r hc)
    subst e0 e1
    exact ⟨(.cons (.of .same rfl rfl) (.cons (.of (.dat (.lst Tryd.underlying45)) rfl rfl) .nil)), .nil⟩
  · cases h
def sel46 (args : List AV) (objs : List Ob) : Option (Dt × List Dt × List Dt) := match args, objs with
  | [.row n0, .dat T1 x1, .dat T2 x2], [.row T3 x3] => bif (Nat.beq n0 0 && (Nat.beq T1 30 && (Nat.beq T2 45 && Nat.beq T3 27))) then some (x1, x2.toLst, x3) else none
  | _, _ => none
theorem sel46_ok {args : List AV} {objs : List Ob} {l : Dt × List Dt × List Dt} (h : sel46 args objs = some l) : CnA Tryd.prog args [(.row 0), (.dat 30 l.1), (.dat 45 (.lst l.2.1))] ∧ CnOL Tryd.prog objs [(.row 27 l.2.2)] := by
  unfold sel46 at h
  split at h
  · obtain ⟨hc, h2⟩ := bif_some h
    cases h2
    have e0 := beq_eq (and_l hc)
    have e1 := beq_eq (and_l (and_r hc))
    have e2 := beq_eq (and_l (and_r (and_r hc)))
    have e3 := beq_eq (and_r (and_r (and_r hc)))
    subst e0 e1 e2 e3
    exact ⟨(.cons (.of .same rfl rfl) (.cons (.of .same rfl rfl) (.cons (.of (.dat (.lst Tryd.underlying45)) rfl rfl) .nil))), (.cons .same .nil)⟩
  · cases h
def sel47 (args : List AV) (objs : List Ob) : Option (List Dt × ByteArray) := match args, objs with
  | [.dat T0 x0, .dat T1 x1], [] => bif (Nat.beq T0 28 && Nat.beq T1 9) then some (x0.toLst, x1.toStr) else none
  | _, _ => none
theorem sel47_ok {args : List AV} {objs : List Ob} {l : List Dt × ByteArray} (h : sel47 args objs = some l) : CnA Tryd.prog args [(.dat 28 (.lst l.1)), (.dat 9 (.str l.2))] ∧ CnOL Tryd.prog objs [] := by
  unfold sel47 at h
  split at h
  · obtain ⟨hc, h2⟩ := bif_some h
    cases h2
    have e0 := beq_eq (and_l hc)
    have e1 := beq_eq (and_r hc)
    subst e0 e1
    exact ⟨(.cons (.of (.dat (.lst Tryd.underlying28)) rfl rfl) (.cons (.of (.dat (.str Tryd.underlying9)) rfl rfl) .nil)), .nil⟩
  · cases h
def sel48 (args : List AV) (objs : List Ob) : Option (ByteArray) := match args, objs with
  | [.dat T0 x0], [] => bif Nat.beq T0 9 then some x0.toStr else none
  | _, _ => none
theorem sel48_ok {args : List AV} {objs : List Ob} {l : ByteArray} (h : sel48 args objs = some l) : CnA Tryd.prog args [(.dat 9 (.str l))] ∧ CnOL Tryd.prog objs [] := by
  unfold sel48 at h
  split at h
  · obtain ⟨hc, h2⟩ := bif_some h
    cases h2
    have e0 := beq_eq hc
    subst e0
    exact ⟨(.cons (.of (.dat (.str Tryd.underlying9)) rfl rfl) .nil), .nil⟩
  · cases h
def sel49 (args : List AV) (objs : List Ob) : Option (Dt) := match args, objs with
  | [.dat T0 x0], [] => bif Nat.beq T0 30 then some x0 else none
  | _, _ => none
theorem sel49_ok {args : List AV} {objs : List Ob} {l : Dt} (h : sel49 args objs = some l) : CnA Tryd.prog args [(.dat 30 l)] ∧ CnOL Tryd.prog objs [] := by
  unfold sel49 at h
  split at h
  · obtain ⟨hc, h2⟩ := bif_some h
    cases h2
    have e0 := beq_eq hc
    subst e0
    exact ⟨(.cons (.of .same rfl rfl) .nil), .nil⟩
  · cases h
def sel50 (args : List AV) (objs : List Ob) : Option (Int) := match args, objs with
  | [.dat T0 x0], [] => bif Nat.beq T0 3 then some x0.toInt else none
  | _, _ => none
theorem sel50_ok {args : List AV} {objs : List Ob} {l : Int} (h : sel50 args objs = some l) : CnA Tryd.prog args [(.dat 3 (.int l))] ∧ CnOL Tryd.prog objs [] := by
  unfold sel50 at h
  split at h
  · obtain ⟨hc, h2⟩ := bif_some h
    cases h2
    have e0 := beq_eq hc
    subst e0
    exact ⟨(.cons (.of (.dat (.int Tryd.underlying3)) rfl rfl) .nil), .nil⟩
  · cases h
def sel51 (args : List AV) (objs : List Ob) : Option (Dt × List Dt) := match args, objs with
  | [.dat T0 x0, .dat T1 x1], [] => bif (Nat.beq T0 30 && Nat.beq T1 45) then some (x0, x1.toLst) else none
  | _, _ => none
theorem sel51_ok {args : List AV} {objs : List Ob} {l : Dt × List Dt} (h : sel51 args objs = some l) : CnA Tryd.prog args [(.dat 30 l.1), (.dat 45 (.lst l.2))] ∧ CnOL Tryd.prog objs [] := by
  unfold sel51 at h
  split at h
  · obtain ⟨hc, h2⟩ := bif_some h
    cases h2
    have e0 := beq_eq (and_l hc)
    have e1 := beq_eq (and_r hc)
    subst e0 e1
    exact ⟨(.cons (.of .same rfl rfl) (.cons (.of (.dat (.lst Tryd.underlying45)) rfl rfl) .nil)), .nil⟩
  · cases h
def sel52 (args : List AV) (objs : List Ob) : Option (Dt × ByteArray) := match args, objs with
  | [.dat T0 x0, .dat T1 x1], [] => bif (Nat.beq T0 30 && Nat.beq T1 9) then some (x0, x1.toStr) else none
  | _, _ => none
theorem sel52_ok {args : List AV} {objs : List Ob} {l : Dt × ByteArray} (h : sel52 args objs = some l) : CnA Tryd.prog args [(.dat 30 l.1), (.dat 9 (.str l.2))] ∧ CnOL Tryd.prog objs [] := by
  unfold sel52 at h
  split at h
  · obtain ⟨hc, h2⟩ := bif_some h
    cases h2
    have e0 := beq_eq (and_l hc)
    have e1 := beq_eq (and_r hc)
    subst e0 e1
    exact ⟨(.cons (.of .same rfl rfl) (.cons (.of (.dat (.str Tryd.underlying9)) rfl rfl) .nil)), .nil⟩
  · cases h
def sel53 (args : List AV) (objs : List Ob) : Option (ByteArray) := match args, objs with
  | [.dat T0 x0], [] => bif Nat.beq T0 9 then some x0.toStr else none
  | _, _ => none
theorem sel53_ok {args : List AV} {objs : List Ob} {l : ByteArray} (h : sel53 args objs = some l) : CnA Tryd.prog args [(.dat 9 (.str l))] ∧ CnOL Tryd.prog objs [] := by
  unfold sel53 at h
  split at h
  · obtain ⟨hc, h2⟩ := bif_some h
    cases h2
    have e0 := beq_eq hc
    subst e0
    exact ⟨(.cons (.of (.dat (.str Tryd.underlying9)) rfl rfl) .nil), .nil⟩
  · cases h
def sel54 (args : List AV) (objs : List Ob) : Option (Dt × ByteArray) := match args, objs with
  | [.dat T0 x0, .dat T1 x1], [] => bif (Nat.beq T0 30 && Nat.beq T1 9) then some (x0, x1.toStr) else none
  | _, _ => none
theorem sel54_ok {args : List AV} {objs : List Ob} {l : Dt × ByteArray} (h : sel54 args objs = some l) : CnA Tryd.prog args [(.dat 30 l.1), (.dat 9 (.str l.2))] ∧ CnOL Tryd.prog objs [] := by
  unfold sel54 at h
  split at h
  · obtain ⟨hc, h2⟩ := bif_some h
    cases h2
    have e0 := beq_eq (and_l hc)
    have e1 := beq_eq (and_r hc)
    subst e0 e1
    exact ⟨(.cons (.of .same rfl rfl) (.cons (.of (.dat (.str Tryd.underlying9)) rfl rfl) .nil)), .nil⟩
  · cases h
noncomputable def ct6 {R : Type} (m : Nat) (args : List AV) (objs : List Ob) (K : Res → Option R) : Option R := match sel0 args objs with
  | some l => (law12_OrderSort m l.1 l.2.1 l.2.2).bind fun r => K ((.dat 4 (.bool r)), [])
  | none => none
noncomputable def ct8 {R : Type} (m : Nat) (args : List AV) (objs : List Ob) (K : Res → Option R) : Option R := match sel1 args objs with
  | some l => (law12_OrderStable m l.1 l.2).bind fun r => K ((.dat 4 (.bool r)), [])
  | none => none
noncomputable def ct16 {R : Type} (m : Nat) (args : List AV) (objs : List Ob) (K : Res → Option R) : Option R := match sel2 args objs with
  | some l => (law12_Small m l.1 l.2).bind fun r => K ((.dat 4 (.bool r)), [])
  | none => none
noncomputable def ct12 {R : Type} (m : Nat) (args : List AV) (objs : List Ob) (K : Res → Option R) : Option R := match sel3 args objs with
  | some l => (awakeC).bind fun r => K ((.dat 4 (.bool r)), [])
  | none => none
noncomputable def ct22 {R : Type} (m : Nat) (args : List AV) (objs : List Ob) (K : Res → Option R) : Option R := match sel4 args objs with
  | some l => (order_Sort m l.1 l.2).bind fun r => K ((.dat 27 (.lst r)), [])
  | none => none
noncomputable def ct23 {R : Type} (m : Nat) (args : List AV) (objs : List Ob) (K : Res → Option R) : Option R := match sel5 args objs with
  | some l => (ref12_Sort m l.1 l.2).bind fun r => K ((.dat 27 (.lst r)), [])
  | none => none
noncomputable def ct17 {R : Type} (m : Nat) (args : List AV) (objs : List Ob) (K : Res → Option R) : Option R := match sel6 args objs with
  | some l => (law03_SameList m l.1 l.2).bind fun r => K ((.dat 4 (.bool r)), [])
  | none => none
noncomputable def ct24 {R : Type} (m : Nat) (args : List AV) (objs : List Ob) (K : Res → Option R) : Option R := match sel7 args objs with
  | some l => (order_Top m l.1 l.2.1 l.2.2).bind fun r => K ((.dat 27 (.lst r)), [])
  | none => none
noncomputable def ct25 {R : Type} (m : Nat) (args : List AV) (objs : List Ob) (K : Res → Option R) : Option R := match sel8 args objs with
  | some l => (ref12_Top m l.1 l.2.1 l.2.2).bind fun r => K ((.dat 27 (.lst r)), [])
  | none => none
noncomputable def ct20 {R : Type} (m : Nat) (args : List AV) (objs : List Ob) (K : Res → Option R) : Option R := match sel9 args objs with
  | some l => (order_Compare m l.1 l.2.1 l.2.2).bind fun r => K ((.dat 3 (.int r)), [])
  | none => none
noncomputable def ct36 {R : Type} (m : Nat) (args : List AV) (objs : List Ob) (K : Res → Option R) : Option R := match sel10 args objs with
  | some l => (ref01_Valid m l).bind fun r => K ((.dat 4 (.bool r)), [])
  | none => none
noncomputable def ct41 {R : Type} (m : Nat) (args : List AV) (objs : List Ob) (K : Res → Option R) : Option R := match sel11 args objs with
  | some l => (order_first m l.1 l.2.1 l.2.2).bind fun r => K ((.dat 27 (.lst r)), [])
  | none => none
noncomputable def ct21 {R : Type} (m : Nat) (args : List AV) (objs : List Ob) (K : Res → Option R) : Option R := match sel12 args objs with
  | some l => (ref12_Compare m l.1 l.2.1 l.2.2).bind fun r => K ((.dat 3 (.int r)), [])
  | none => none
noncomputable def ct33 {R : Type} (m : Nat) (args : List AV) (objs : List Ob) (K : Res → Option R) : Option R := match sel13 args objs with
  | some l => (law03_Same m l.1 l.2).bind fun r => K ((.dat 4 (.bool r)), [])
  | none => none
noncomputable def ct18 {R : Type} (m : Nat) (args : List AV) (objs : List Ob) (K : Res → Option R) : Option R := match sel14 args objs with
  | some l => (order_Keys m l.1 l.2).bind fun r => K ((.dat 27 (.lst r)), [])
  | none => none
noncomputable def ct39 {R : Type} (m : Nat) (args : List AV) (objs : List Ob) (K : Res → Option R) : Option R := match sel15 args objs with
  | some l => (order_compare m l.1 l.2.1 l.2.2).bind fun r => K ((.dat 3 (.int r)), [])
  | none => none
noncomputable def ct47 {R : Type} (m : Nat) (args : List AV) (objs : List Ob) (K : Res → Option R) : Option R := match sel16 args objs with
  | some l => (ref01_Depth m l).bind fun r => K ((.dat 3 (.int r)), [])
  | none => none
noncomputable def ct48 {R : Type} (m : Nat) (args : List AV) (objs : List Ob) (K : Res → Option R) : Option R := match sel17 args objs with
  | some l => (ref01_Nodes m l).bind fun r => K ((.dat 3 (.int r)), [])
  | none => none
noncomputable def ct49 {R : Type} (m : Nat) (args : List AV) (objs : List Ob) (K : Res → Option R) : Option R := match sel18 args objs with
  | some l => (ref01_formed m l.1 l.2).bind fun r => K ((.dat 4 (.bool r)), [])
  | none => none
noncomputable def ct55 {R : Type} (m : Nat) (args : List AV) (objs : List Ob) (K : Res → Option R) : Option R := match sel19 args objs with
  | some l => (i19 m l.1 l.2).bind fun r => K ((.tup []), [(.row 68 r.1), (.box 22 (.dat 22 (.lst r.2)))])
  | none => none
noncomputable def ct69 {R : Type} (m : Nat) (args : List AV) (objs : List Ob) (K : Res → Option R) : Option R := match sel20 args objs with
  | some l => (i20 m l.1 l.2.1 l.2.2).bind fun r => K ((.tup []), [(.row 68 r.1), (.box 22 (.dat 22 (.lst r.2)))])
  | none => none
noncomputable def ct81 {R : Type} (m : Nat) (args : List AV) (objs : List Ob) (K : Res → Option R) : Option R := match sel21 args objs with
  | some l => (i21 m l.1 l.2.1 l.2.2.1 l.2.2.2).bind fun r => K ((.tup []), [(.row 68 r.1), (.box 22 (.dat 22 (.lst r.2)))])
  | none => none
noncomputable def ct56 {R : Type} (m : Nat) (args : List AV) (objs : List Ob) (K : Res → Option R) : Option R := match sel22 args objs with
  | some l => (i22 m l.1 l.2.1 l.2.2).bind fun r => K ((.dat 3 (.int r.1)), [(.box 22 (.dat 22 (.lst r.2)))])
  | none => none
noncomputable def ct82 {R : Type} (m : Nat) (args : List AV) (objs : List Ob) (K : Res → Option R) : Option R := match sel23 args objs with
  | some l => (i23 m l.1 l.2.1 l.2.2.1 l.2.2.2.1 l.2.2.2.2).bind fun r => K ((.tup []), [(.row 68 r.1), (.box 22 (.dat 22 (.lst r.2)))])
  | none => none
noncomputable def ct90 {R : Type} (m : Nat) (args : List AV) (objs : List Ob) (K : Res → Option R) : Option R := match sel24 args objs with
  | some l => (i24 m l.1 l.2.1 l.2.2.1 l.2.2.2.1 l.2.2.2.2).bind fun r => K ((.tup []), [(.row 68 r.1), (.box 22 (.dat 22 (.lst r.2)))])
  | none => none
noncomputable def ct97 {R : Type} (m : Nat) (args : List AV) (objs : List Ob) (K : Res → Option R) : Option R := match sel25 args objs with
  | some l => (i25 m l.1 l.2.1 l.2.2.1 l.2.2.2.1 l.2.2.2.2).bind fun r => K ((.tup []), [(.row 68 r.1), (.box 22 (.dat 22 (.lst r.2)))])
  | none => none
noncomputable def ct57 {R : Type} (m : Nat) (args : List AV) (objs : List Ob) (K : Res → Option R) : Option R := match sel26 args objs with
  | some l => (order_clone m l).bind fun r => K ((.dat 30 r), [])
  | none => none
noncomputable def ct38 {R : Type} (m : Nat) (args : List AV) (objs : List Ob) (K : Res → Option R) : Option R := match sel27 args objs with
  | some l => (ref12_key m l.1 l.2).bind fun r => K ((.dat 30 r), [])
  | none => none
noncomputable def ct40 {R : Type} (m : Nat) (args : List AV) (objs : List Ob) (K : Res → Option R) : Option R := match sel28 args objs with
  | some l => (ref01_Compare m l.1 l.2).bind fun r => K ((.dat 3 (.int r)), [])
  | none => none
noncomputable def ct37 {R : Type} (m : Nat) (args : List AV) (objs : List Ob) (K : Res → Option R) : Option R := match sel29 args objs with
  | some l => (order_key m l.1 l.2).bind fun r => K ((.dat 30 r), [])
  | none => none
noncomputable def ct51 {R : Type} (m : Nat) (args : List AV) (objs : List Ob) (K : Res → Option R) : Option R := match sel30 args objs with
  | some l => (value_Compare m l.1 l.2).bind fun r => K ((.dat 3 (.int r)), [])
  | none => none
noncomputable def ct60 {R : Type} (m : Nat) (args : List AV) (objs : List Ob) (K : Res → Option R) : Option R := match sel31 args objs with
  | some l => (ref01_levels m l.1 l.2).bind fun r => K ((.dat 3 (.int r)), [])
  | none => none
noncomputable def ct61 {R : Type} (m : Nat) (args : List AV) (objs : List Ob) (K : Res → Option R) : Option R := match sel32 args objs with
  | some l => (ref01_count m l.1 l.2).bind fun r => K ((.dat 3 (.int r)), [])
  | none => none
noncomputable def ct62 {R : Type} (m : Nat) (args : List AV) (objs : List Ob) (K : Res → Option R) : Option R := match sel33 args objs with
  | some l => (ref01_UTF8 m l).bind fun r => K ((.dat 4 (.bool r)), [])
  | none => none
noncomputable def ct63 {R : Type} (m : Nat) (args : List AV) (objs : List Ob) (K : Res → Option R) : Option R := match sel34 args objs with
  | some l => (ref01_fields m l.1 l.2).bind fun r => K ((.dat 4 (.bool r)), [])
  | none => none
noncomputable def ct52 {R : Type} (m : Nat) (args : List AV) (objs : List Ob) (K : Res → Option R) : Option R := match sel35 args objs with
  | some l => (ref12_Values m l.1 l.2).bind fun r => K ((.dat 27 (.lst r)), [])
  | none => none
noncomputable def ct53 {R : Type} (m : Nat) (args : List AV) (objs : List Ob) (K : Res → Option R) : Option R := match sel36 args objs with
  | some l => (ref01_Ints m l.1 l.2).bind fun r => K ((.dat 3 (.int r)), [])
  | none => none
noncomputable def ct54 {R : Type} (m : Nat) (args : List AV) (objs : List Ob) (K : Res → Option R) : Option R := match sel37 args objs with
  | some l => (ref01_Texts m l.1 l.2).bind fun r => K ((.dat 3 (.int r)), [])
  | none => none
noncomputable def ct50 {R : Type} (m : Nat) (args : List AV) (objs : List Ob) (K : Res → Option R) : Option R := match sel38 args objs with
  | some l => (path_Reach m l.1 l.2).bind fun r => K ((.dat 27 (.lst r)), [])
  | none => none
noncomputable def ct66 {R : Type} (m : Nat) (args : List AV) (objs : List Ob) (K : Res → Option R) : Option R := match sel39 args objs with
  | some l => (cmp_Compare m l.1 l.2).bind fun r => K ((.dat 3 (.int r)), [])
  | none => none
noncomputable def ct67 {R : Type} (m : Nat) (args : List AV) (objs : List Ob) (K : Res → Option R) : Option R := match sel40 args objs with
  | some l => (strings_Compare l.1 l.2).bind fun r => K ((.dat 3 (.int r)), [])
  | none => none
noncomputable def ct73 {R : Type} (m : Nat) (args : List AV) (objs : List Ob) (K : Res → Option R) : Option R := match sel41 args objs with
  | some l => (ref01_Parts m l).bind fun r => K ((.dat 27 (.lst r)), [])
  | none => none
noncomputable def ct74 {R : Type} (m : Nat) (args : List AV) (objs : List Ob) (K : Res → Option R) : Option R := match sel42 args objs with
  | some l => (ref01_tail m l.1 l.2.1 l.2.2).bind fun r => K ((.dat 4 (.bool r)), [])
  | none => none
noncomputable def ct44 {R : Type} (m : Nat) (args : List AV) (objs : List Ob) (K : Res → Option R) : Option R := match sel43 args objs with
  | some l => (ref01_Name m l).bind fun r => K ((.dat 4 (.bool r)), [])
  | none => none
noncomputable def ct75 {R : Type} (m : Nat) (args : List AV) (objs : List Ob) (K : Res → Option R) : Option R := match sel44 args objs with
  | some l => (ref01_wide m l).bind fun r => K ((.dat 4 (.bool r)), [])
  | none => none
noncomputable def ct68 {R : Type} (m : Nat) (args : List AV) (objs : List Ob) (K : Res → Option R) : Option R := match sel45 args objs with
  | some l => (ref04_Reach m l.1 l.2).bind fun r => K ((.dat 27 (.lst r)), [])
  | none => none
noncomputable def ct64 {R : Type} (m : Nat) (args : List AV) (objs : List Ob) (K : Res → Option R) : Option R := match sel46 args objs with
  | some l => (i46 m l.1 l.2.1 l.2.2).bind fun r => K ((.row 1), [.gone, (.row 27 r)])
  | none => none
noncomputable def ct76 {R : Type} (m : Nat) (args : List AV) (objs : List Ob) (K : Res → Option R) : Option R := match sel47 args objs with
  | some l => (path_field m l.1 l.2).bind fun r => K ((.dat 3 (.int r)), [])
  | none => none
noncomputable def ct77 {R : Type} (m : Nat) (args : List AV) (objs : List Ob) (K : Res → Option R) : Option R := match sel48 args objs with
  | some l => (path_Number m l).bind fun r => K ((.tup [(.dat 3 (.int r.1)), (.dat 4 (.bool r.2))]), [])
  | none => none
noncomputable def ct65 {R : Type} (m : Nat) (args : List AV) (objs : List Ob) (K : Res → Option R) : Option R := match sel49 args objs with
  | some l => (path_clone m l).bind fun r => K ((.dat 30 r), [])
  | none => none
noncomputable def ct78 {R : Type} (m : Nat) (args : List AV) (objs : List Ob) (K : Res → Option R) : Option R := match sel50 args objs with
  | some l => (cmp_isNaN m l).bind fun r => K ((.dat 4 (.bool r)), [])
  | none => none
noncomputable def ct80 {R : Type} (m : Nat) (args : List AV) (objs : List Ob) (K : Res → Option R) : Option R := match sel51 args objs with
  | some l => (ref04_Pass m l.1 l.2).bind fun r => K ((.dat 27 (.lst r)), [])
  | none => none
noncomputable def ct88 {R : Type} (m : Nat) (args : List AV) (objs : List Ob) (K : Res → Option R) : Option R := match sel52 args objs with
  | some l => (ref01_Get m l.1 l.2).bind fun r => K ((.tup [(.dat 30 r.1), (.dat 4 (.bool r.2))]), [])
  | none => none
noncomputable def ct89 {R : Type} (m : Nat) (args : List AV) (objs : List Ob) (K : Res → Option R) : Option R := match sel53 args objs with
  | some l => (ref04_Number m l).bind fun r => K ((.tup [(.dat 3 (.int r.1)), (.dat 4 (.bool r.2))]), [])
  | none => none
noncomputable def ct96 {R : Type} (m : Nat) (args : List AV) (objs : List Ob) (K : Res → Option R) : Option R := match sel54 args objs with
  | some l => (ref01_at m l.1 l.2).bind fun r => K ((.dat 3 (.int r)), [])
  | none => none
noncomputable def ct {R : Type} (m : Nat) (f : FuncId) (args : List AV) (objs : List Ob) (K : Res → Option R) : Option R :=
  bif Nat.beq f 6 then ct6 m args objs K else
  bif Nat.beq f 8 then ct8 m args objs K else
  bif Nat.beq f 16 then ct16 m args objs K else
  bif Nat.beq f 12 then ct12 m args objs K else
  bif Nat.beq f 22 then ct22 m args objs K else
  bif Nat.beq f 23 then ct23 m args objs K else
  bif Nat.beq f 17 then ct17 m args objs K else
  bif Nat.beq f 24 then ct24 m args objs K else
  bif Nat.beq f 25 then ct25 m args objs K else
  bif Nat.beq f 20 then ct20 m args objs K else
  bif Nat.beq f 36 then ct36 m args objs K else
  bif Nat.beq f 41 then ct41 m args objs K else
  bif Nat.beq f 21 then ct21 m args objs K else
  bif Nat.beq f 33 then ct33 m args objs K else
  bif Nat.beq f 18 then ct18 m args objs K else
  bif Nat.beq f 39 then ct39 m args objs K else
  bif Nat.beq f 47 then ct47 m args objs K else
  bif Nat.beq f 48 then ct48 m args objs K else
  bif Nat.beq f 49 then ct49 m args objs K else
  bif Nat.beq f 55 then ct55 m args objs K else
  bif Nat.beq f 69 then ct69 m args objs K else
  bif Nat.beq f 81 then ct81 m args objs K else
  bif Nat.beq f 56 then ct56 m args objs K else
  bif Nat.beq f 82 then ct82 m args objs K else
  bif Nat.beq f 90 then ct90 m args objs K else
  bif Nat.beq f 97 then ct97 m args objs K else
  bif Nat.beq f 57 then ct57 m args objs K else
  bif Nat.beq f 38 then ct38 m args objs K else
  bif Nat.beq f 40 then ct40 m args objs K else
  bif Nat.beq f 37 then ct37 m args objs K else
  bif Nat.beq f 51 then ct51 m args objs K else
  bif Nat.beq f 60 then ct60 m args objs K else
  bif Nat.beq f 61 then ct61 m args objs K else
  bif Nat.beq f 62 then ct62 m args objs K else
  bif Nat.beq f 63 then ct63 m args objs K else
  bif Nat.beq f 52 then ct52 m args objs K else
  bif Nat.beq f 53 then ct53 m args objs K else
  bif Nat.beq f 54 then ct54 m args objs K else
  bif Nat.beq f 50 then ct50 m args objs K else
  bif Nat.beq f 66 then ct66 m args objs K else
  bif Nat.beq f 67 then ct67 m args objs K else
  bif Nat.beq f 73 then ct73 m args objs K else
  bif Nat.beq f 74 then ct74 m args objs K else
  bif Nat.beq f 44 then ct44 m args objs K else
  bif Nat.beq f 75 then ct75 m args objs K else
  bif Nat.beq f 68 then ct68 m args objs K else
  bif Nat.beq f 64 then ct64 m args objs K else
  bif Nat.beq f 76 then ct76 m args objs K else
  bif Nat.beq f 77 then ct77 m args objs K else
  bif Nat.beq f 65 then ct65 m args objs K else
  bif Nat.beq f 78 then ct78 m args objs K else
  bif Nat.beq f 80 then ct80 m args objs K else
  bif Nat.beq f 88 then ct88 m args objs K else
  bif Nat.beq f 89 then ct89 m args objs K else
  bif Nat.beq f 96 then ct96 m args objs K else
  none
end Go.Proofs.YtacchdeihafmnaaDoor
