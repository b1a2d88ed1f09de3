/- Generated: the functions as contracts for their callers. -/
import Derived.Test.YtfneddmmeadacaaGreatDoorSh
import Derived.Test.YtfneddmmeadacaaGreatDoorProg
set_option linter.unusedVariables false
set_option linter.unusedSimpArgs false
namespace Go.Proofs.YtfneddmmeadacaaGreatDoor
open Go.Am
def sel0 (args : List AV) (objs : List Ob) : Option Dt := match args, objs with
  | [.dat T0 x0], [] => bif Nat.beq T0 25 then some x0 else none
  | _, _ => none
theorem sel0_ok {args : List AV} {objs : List Ob} {l : Dt} (h : sel0 args objs = some l) : CnA Tryz.prog args [(.dat 25 l)] ∧ CnOL Tryz.prog objs [] := by
  unfold sel0 at h
  split at h
  · obtain ⟨hc, h2⟩ := bif_some h
    cases h2
    have e0 := beq_eq hc
    subst e0
    exact ⟨(.cons (.of .same rfl rfl) .nil), .nil⟩
  · cases h
def sel1 (args : List AV) (objs : List Ob) : Option (Dt × Int) := match args, objs with
  | [.dat T0 x0, .dat T1 x1], [] => bif (Nat.beq T0 25 && Nat.beq T1 3) then some (x0, x1.toInt) else none
  | _, _ => none
theorem sel1_ok {args : List AV} {objs : List Ob} {l : Dt × Int} (h : sel1 args objs = some l) : CnA Tryz.prog args [(.dat 25 l.1), (.dat 3 (.int l.2))] ∧ CnOL Tryz.prog objs [] := by
  unfold sel1 at h
  split at h
  · obtain ⟨hc, h2⟩ := bif_some h
    cases h2
    have e0 := beq_eq (and_l hc)
    have e1 := beq_eq (and_r hc)
    subst e0 e1
    exact ⟨(.cons (.of .same rfl rfl) (.cons (.of (.dat (.int Tryz.underlying3)) rfl rfl) .nil)), .nil⟩
  · cases h
def sel2 (args : List AV) (objs : List Ob) : Option Unit := match args, objs with
  | [], [] => bif true then some () else none
  | _, _ => none
theorem sel2_ok {args : List AV} {objs : List Ob} {l : Unit} (h : sel2 args objs = some l) : CnA Tryz.prog args [] ∧ CnOL Tryz.prog objs [] := by
  unfold sel2 at h
  split at h
  · obtain ⟨hc, h2⟩ := bif_some h
    cases h2
    exact ⟨.nil, .nil⟩
  · cases h
def sel3 (args : List AV) (objs : List Ob) : Option Dt := match args, objs with
  | [.dat T0 x0], [] => bif Nat.beq T0 25 then some x0 else none
  | _, _ => none
theorem sel3_ok {args : List AV} {objs : List Ob} {l : Dt} (h : sel3 args objs = some l) : CnA Tryz.prog args [(.dat 25 l)] ∧ CnOL Tryz.prog objs [] := by
  unfold sel3 at h
  split at h
  · obtain ⟨hc, h2⟩ := bif_some h
    cases h2
    have e0 := beq_eq hc
    subst e0
    exact ⟨(.cons (.of .same rfl rfl) .nil), .nil⟩
  · cases h
def sel4 (args : List AV) (objs : List Ob) : Option Dt := match args, objs with
  | [.dat T0 x0], [] => bif Nat.beq T0 25 then some x0 else none
  | _, _ => none
theorem sel4_ok {args : List AV} {objs : List Ob} {l : Dt} (h : sel4 args objs = some l) : CnA Tryz.prog args [(.dat 25 l)] ∧ CnOL Tryz.prog objs [] := by
  unfold sel4 at h
  split at h
  · obtain ⟨hc, h2⟩ := bif_some h
    cases h2
    have e0 := beq_eq hc
    subst e0
    exact ⟨(.cons (.of .same rfl rfl) .nil), .nil⟩
  · cases h
def sel5 (args : List AV) (objs : List Ob) : Option (Dt × Dt) := match args, objs with
  | [.dat T0 x0, .dat T1 x1], [] => bif (Nat.beq T0 32 && Nat.beq T1 32) then some (x0, x1) else none
  | _, _ => none
theorem sel5_ok {args : List AV} {objs : List Ob} {l : Dt × Dt} (h : sel5 args objs = some l) : CnA Tryz.prog args [(.dat 32 l.1), (.dat 32 l.2)] ∧ CnOL Tryz.prog objs [] := by
  unfold sel5 at h
  split at h
  · obtain ⟨hc, h2⟩ := bif_some h
    cases h2
    have e0 := beq_eq (and_l hc)
    have e1 := beq_eq (and_r hc)
    subst e0 e1
    exact ⟨(.cons (.of .same rfl rfl) (.cons (.of .same rfl rfl) .nil)), .nil⟩
  · cases h
def sel6 (args : List AV) (objs : List Ob) : Option (Dt × Int × Int) := match args, objs with
  | [.dat T0 x0, .dat T1 x1, .dat T2 x2], [] => bif (Nat.beq T0 25 && (Nat.beq T1 3 && Nat.beq T2 3)) then some (x0, x1.toInt, x2.toInt) else none
  | _, _ => none
theorem sel6_ok {args : List AV} {objs : List Ob} {l : Dt × Int × Int} (h : sel6 args objs = some l) : CnA Tryz.prog args [(.dat 25 l.1), (.dat 3 (.int l.2.1)), (.dat 3 (.int l.2.2))] ∧ CnOL Tryz.prog objs [] := by
  unfold sel6 at h
  split at h
  · obtain ⟨hc, h2⟩ := bif_some h
    cases h2
    have e0 := beq_eq (and_l hc)
    have e1 := beq_eq (and_l (and_r hc))
    have e2 := beq_eq (and_r (and_r hc))
    subst e0 e1 e2
    exact ⟨(.cons (.of .same rfl rfl) (.cons (.of (.dat (.int Tryz.underlying3)) rfl rfl) (.cons (.of (.dat (.int Tryz.underlying3)) rfl rfl) .nil))), .nil⟩
  · cases h
def sel7 (args : List AV) (objs : List Ob) : Option Dt := match args, objs with
  | [.dat T0 x0], [] => bif Nat.beq T0 25 then some x0 else none
  | _, _ => none
theorem sel7_ok {args : List AV} {objs : List Ob} {l : Dt} (h : sel7 args objs = some l) : CnA Tryz.prog args [(.dat 25 l)] ∧ CnOL Tryz.prog objs [] := by
  unfold sel7 at h
  split at h
  · obtain ⟨hc, h2⟩ := bif_some h
    cases h2
    have e0 := beq_eq hc
    subst e0
    exact ⟨(.cons (.of .same rfl rfl) .nil), .nil⟩
  · cases h
def sel8 (args : List AV) (objs : List Ob) : Option Dt := match args, objs with
  | [.dat T0 x0], [] => bif Nat.beq T0 32 then some x0 else none
  | _, _ => none
theorem sel8_ok {args : List AV} {objs : List Ob} {l : Dt} (h : sel8 args objs = some l) : CnA Tryz.prog args [(.dat 32 l)] ∧ CnOL Tryz.prog objs [] := by
  unfold sel8 at h
  split at h
  · obtain ⟨hc, h2⟩ := bif_some h
    cases h2
    have e0 := beq_eq hc
    subst e0
    exact ⟨(.cons (.of .same rfl rfl) .nil), .nil⟩
  · cases h
def sel9 (args : List AV) (objs : List Ob) : Option Dt := match args, objs with
  | [.dat T0 x0], [] => bif Nat.beq T0 25 then some x0 else none
  | _, _ => none
theorem sel9_ok {args : List AV} {objs : List Ob} {l : Dt} (h : sel9 args objs = some l) : CnA Tryz.prog args [(.dat 25 l)] ∧ CnOL Tryz.prog objs [] := by
  unfold sel9 at h
  split at h
  · obtain ⟨hc, h2⟩ := bif_some h
    cases h2
    have e0 := beq_eq hc
    subst e0
    exact ⟨(.cons (.of .same rfl rfl) .nil), .nil⟩
  · cases h
def sel10 (args : List AV) (objs : List Ob) : Option Dt := match args, objs with
  | [.dat T0 x0], [] => bif Nat.beq T0 25 then some x0 else none
  | _, _ => none
theorem sel10_ok {args : List AV} {objs : List Ob} {l : Dt} (h : sel10 args objs = some l) : CnA Tryz.prog args [(.dat 25 l)] ∧ CnOL Tryz.prog objs [] := by
  unfold sel10 at h
  split at h
  · obtain ⟨hc, h2⟩ := bif_some h
    cases h2
    have e0 := beq_eq hc
    subst e0
    exact ⟨(.cons (.of .same rfl rfl) .nil), .nil⟩
  · cases h
def sel11 (args : List AV) (objs : List Ob) : Option Dt := match args, objs with
  | [.dat T0 x0], [] => bif Nat.beq T0 32 then some x0 else none
  | _, _ => none
theorem sel11_ok {args : List AV} {objs : List Ob} {l : Dt} (h : sel11 args objs = some l) : CnA Tryz.prog args [(.dat 32 l)] ∧ CnOL Tryz.prog objs [] := by
  unfold sel11 at h
  split at h
  · obtain ⟨hc, h2⟩ := bif_some h
    cases h2
    have e0 := beq_eq hc
    subst e0
    exact ⟨(.cons (.of .same rfl rfl) .nil), .nil⟩
  · cases h
def sel12 (args : List AV) (objs : List Ob) : Option Dt := match args, objs with
  | [.dat T0 x0], [] => bif Nat.beq T0 25 then some x0 else none
  | _, _ => none
theorem sel12_ok {args : List AV} {objs : List Ob} {l : Dt} (h : sel12 args objs = some l) : CnA Tryz.prog args [(.dat 25 l)] ∧ CnOL Tryz.prog objs [] := by
  unfold sel12 at h
  split at h
  · obtain ⟨hc, h2⟩ := bif_some h
    cases h2
    have e0 := beq_eq hc
    subst e0
    exact ⟨(.cons (.of .same rfl rfl) .nil), .nil⟩
  · cases h
def sel13 (args : List AV) (objs : List Ob) : Option (List Dt × List Dt) := match args, objs with
  | [.dat T0 x0, .dat T1 x1], [] => bif (Nat.beq T0 28 && Nat.beq T1 28) then some (x0.toLst, x1.toLst) else none
  | _, _ => none
theorem sel13_ok {args : List AV} {objs : List Ob} {l : List Dt × List Dt} (h : sel13 args objs = some l) : CnA Tryz.prog args [(.dat 28 (.lst l.1)), (.dat 28 (.lst l.2))] ∧ CnOL Tryz.prog objs [] := by
  unfold sel13 at h
  split at h
  · obtain ⟨hc, h2⟩ := bif_some h
    cases h2
    have e0 := beq_eq (and_l hc)
    have e1 := beq_eq (and_r hc)
    subst e0 e1
    exact ⟨(.cons (.of (.dat (.lst Tryz.underlying28)) rfl rfl) (.cons (.of (.dat (.lst Tryz.underlying28)) rfl rfl) .nil)), .nil⟩
  · cases h
def sel14 (args : List AV) (objs : List Ob) : Option (Dt × Dt) := match args, objs with
  | [.dat T0 x0, .dat T1 x1], [] => bif (Nat.beq T0 25 && Nat.beq T1 25) then some (x0, x1) else none
  | _, _ => none
theorem sel14_ok {args : List AV} {objs : List Ob} {l : Dt × Dt} (h : sel14 args objs = some l) : CnA Tryz.prog args [(.dat 25 l.1), (.dat 25 l.2)] ∧ CnOL Tryz.prog objs [] := by
  unfold sel14 at h
  split at h
  · obtain ⟨hc, h2⟩ := bif_some h
    cases h2
    have e0 := beq_eq (and_l hc)
    have e1 := beq_eq (and_r hc)
    subst e0 e1
    exact ⟨(.cons (.of .same rfl rfl) (.cons (.of .same rfl rfl) .nil)), .nil⟩
  · cases h
def sel15 (args : List AV) (objs : List Ob) : Option (List Dt × List Dt) := match args, objs with
  | [.dat T0 x0, .dat T1 x1], [] => bif (Nat.beq T0 22 && Nat.beq T1 22) then some (x0.toLst, x1.toLst) else none
  | _, _ => none
theorem sel15_ok {args : List AV} {objs : List Ob} {l : List Dt × List Dt} (h : sel15 args objs = some l) : CnA Tryz.prog args [(.dat 22 (.lst l.1)), (.dat 22 (.lst l.2))] ∧ CnOL Tryz.prog objs [] := by
  unfold sel15 at h
  split at h
  · obtain ⟨hc, h2⟩ := bif_some h
    cases h2
    have e0 := beq_eq (and_l hc)
    have e1 := beq_eq (and_r hc)
    subst e0 e1
    exact ⟨(.cons (.of (.dat (.lst Tryz.underlying22)) rfl rfl) (.cons (.of (.dat (.lst Tryz.underlying22)) rfl rfl) .nil)), .nil⟩
  · cases h
def sel16 (args : List AV) (objs : List Ob) : Option (ByteArray × Dt × Dt) := match args, objs with
  | [.ptr n0 p0 o0, .dat T1 x1, .dat T2 x2], [.box T3 (.dat T4 x4)] => bif (Nat.beq n0 0 && (natsB p0 [] && (Nat.beq o0 0 && (Nat.beq T1 9 && (Nat.beq T2 25 && (Nat.beq T3 32 && Nat.beq T4 32)))))) then some (x1.toStr, x2, x4) else none
  | _, _ => none
theorem sel16_ok {args : List AV} {objs : List Ob} {l : ByteArray × Dt × Dt} (h : sel16 args objs = some l) : CnA Tryz.prog args [(.ptr 0 [] 0), (.dat 9 (.str l.1)), (.dat 25 l.2.1)] ∧ CnOL Tryz.prog objs [(.box 32 (.dat 32 l.2.2))] := by
  unfold sel16 at h
  split at h
  · obtain ⟨hc, h2⟩ := bif_some h
    cases h2
    have e0 := beq_eq (and_l hc)
    have e1 := natsB_eq (and_l (and_r hc))
    have e2 := beq_eq (and_l (and_r (and_r hc)))
    have e3 := beq_eq (and_l (and_r (and_r (and_r hc))))
    have e4 := beq_eq (and_l (and_r (and_r (and_r (and_r hc)))))
    have e5 := beq_eq (and_l (and_r (and_r (and_r (and_r (and_r hc))))))
    have e6 := beq_eq (and_r (and_r (and_r (and_r (and_r (and_r hc))))))
    subst e0 e1 e2 e3 e4 e5 e6
    exact ⟨(.cons (.of .same rfl rfl) (.cons (.of (.dat (.str Tryz.underlying9)) rfl rfl) (.cons (.of .same rfl rfl) .nil))), (.cons (.box .same) .nil)⟩
  · cases h
def sel17 (args : List AV) (objs : List Ob) : Option Dt := match args, objs with
  | [.dat T0 x0], [] => bif Nat.beq T0 25 then some x0 else none
  | _, _ => none
theorem sel17_ok {args : List AV} {objs : List Ob} {l : Dt} (h : sel17 args objs = some l) : CnA Tryz.prog args [(.dat 25 l)] ∧ CnOL Tryz.prog objs [] := by
  unfold sel17 at h
  split at h
  · obtain ⟨hc, h2⟩ := bif_some h
    cases h2
    have e0 := beq_eq hc
    subst e0
    exact ⟨(.cons (.of .same rfl rfl) .nil), .nil⟩
  · cases h
def sel18 (args : List AV) (objs : List Ob) : Option Dt := match args, objs with
  | [.dat T0 x0], [] => bif Nat.beq T0 25 then some x0 else none
  | _, _ => none
theorem sel18_ok {args : List AV} {objs : List Ob} {l : Dt} (h : sel18 args objs = some l) : CnA Tryz.prog args [(.dat 25 l)] ∧ CnOL Tryz.prog objs [] := by
  unfold sel18 at h
  split at h
  · obtain ⟨hc, h2⟩ := bif_some h
    cases h2
    have e0 := beq_eq hc
    subst e0
    exact ⟨(.cons (.of .same rfl rfl) .nil), .nil⟩
  · cases h
def sel19 (args : List AV) (objs : List Ob) : Option Dt := match args, objs with
  | [.dat T0 x0], [] => bif Nat.beq T0 25 then some x0 else none
  | _, _ => none
theorem sel19_ok {args : List AV} {objs : List Ob} {l : Dt} (h : sel19 args objs = some l) : CnA Tryz.prog args [(.dat 25 l)] ∧ CnOL Tryz.prog objs [] := by
  unfold sel19 at h
  split at h
  · obtain ⟨hc, h2⟩ := bif_some h
    cases h2
    have e0 := beq_eq hc
    subst e0
    exact ⟨(.cons (.of .same rfl rfl) .nil), .nil⟩
  · cases h
def sel20 (args : List AV) (objs : List Ob) : Option Dt := match args, objs with
  | [.dat T0 x0], [] => bif Nat.beq T0 25 then some x0 else none
  | _, _ => none
theorem sel20_ok {args : List AV} {objs : List Ob} {l : Dt} (h : sel20 args objs = some l) : CnA Tryz.prog args [(.dat 25 l)] ∧ CnOL Tryz.prog objs [] := by
  unfold sel20 at h
  split at h
  · obtain ⟨hc, h2⟩ := bif_some h
    cases h2
    have e0 := beq_eq hc
    subst e0
    exact ⟨(.cons (.of .same rfl rfl) .nil), .nil⟩
  · cases h
def sel21 (args : List AV) (objs : List Ob) : Option (Dt × Int × Int) := match args, objs with
  | [.dat T0 x0, .dat T1 x1, .ptr n2 p2 o2], [.box T3 (.dat T4 x4)] => bif (Nat.beq T0 32 && (Nat.beq T1 3 && (Nat.beq n2 0 && (natsB p2 [] && (Nat.beq o2 0 && (Nat.beq T3 3 && Nat.beq T4 3)))))) then some (x0, x1.toInt, x4.toInt) else none
  | _, _ => none
theorem sel21_ok {args : List AV} {objs : List Ob} {l : Dt × Int × Int} (h : sel21 args objs = some l) : CnA Tryz.prog args [(.dat 32 l.1), (.dat 3 (.int l.2.1)), (.ptr 0 [] 0)] ∧ CnOL Tryz.prog objs [(.box 3 (.dat 3 (.int l.2.2)))] := by
  unfold sel21 at h
  split at h
  · obtain ⟨hc, h2⟩ := bif_some h
    cases h2
    have e0 := beq_eq (and_l hc)
    have e1 := beq_eq (and_l (and_r hc))
    have e2 := beq_eq (and_l (and_r (and_r hc)))
    have e3 := natsB_eq (and_l (and_r (and_r (and_r hc))))
    have e4 := beq_eq (and_l (and_r (and_r (and_r (and_r hc)))))
    have e5 := beq_eq (and_l (and_r (and_r (and_r (and_r (and_r hc))))))
    have e6 := beq_eq (and_r (and_r (and_r (and_r (and_r (and_r hc))))))
    subst e0 e1 e2 e3 e4 e5 e6
    exact ⟨(.cons (.of .same rfl rfl) (.cons (.of (.dat (.int Tryz.underlying3)) rfl rfl) (.cons (.of .same rfl rfl) .nil))), (.cons (.box (.dat (.int Tryz.underlying3))) .nil)⟩
  · cases h
def sel22 (args : List AV) (objs : List Ob) : Option Dt := match args, objs with
  | [.dat T0 x0], [] => bif Nat.beq T0 32 then some x0 else none
  | _, _ => none
theorem sel22_ok {args : List AV} {objs : List Ob} {l : Dt} (h : sel22 args objs = some l) : CnA Tryz.prog args [(.dat 32 l)] ∧ CnOL Tryz.prog objs [] := by
  unfold sel22 at h
  split at h
  · obtain ⟨hc, h2⟩ := bif_some h
    cases h2
    have e0 := beq_eq hc
    subst e0
    exact ⟨(.cons (.of .same rfl rfl) .nil), .nil⟩
  · cases h
def sel23 (args : List AV) (objs : List Ob) : Option Dt := match args, objs with
  | [.dat T0 x0], [] => bif Nat.beq T0 25 then some x0 else none
  | _, _ => none
theorem sel23_ok {args : List AV} {objs : List Ob} {l : Dt} (h : sel23 args objs = some l) : CnA Tryz.prog args [(.dat 25 l)] ∧ CnOL Tryz.prog objs [] := by
  unfold sel23 at h
  split at h
  · obtain ⟨hc, h2⟩ := bif_some h
    cases h2
    have e0 := beq_eq hc
    subst e0
    exact ⟨(.cons (.of .same rfl rfl) .nil), .nil⟩
  · cases h
def sel24 (args : List AV) (objs : List Ob) : Option Dt := match args, objs with
  | [.dat T0 x0], [] => bif Nat.beq T0 25 then some x0 else none
  | _, _ => none
theorem sel24_ok {args : List AV} {objs : List Ob} {l : Dt} (h : sel24 args objs = some l) : CnA Tryz.prog args [(.dat 25 l)] ∧ CnOL Tryz.prog objs [] := by
  unfold sel24 at h
  split at h
  · obtain ⟨hc, h2⟩ := bif_some h
    cases h2
    have e0 := beq_eq hc
    subst e0
    exact ⟨(.cons (.of .same rfl rfl) .nil), .nil⟩
  · cases h
def sel25 (args : List AV) (objs : List Ob) : Option Dt := match args, objs with
  | [.dat T0 x0], [] => bif Nat.beq T0 25 then some x0 else none
  | _, _ => none
theorem sel25_ok {args : List AV} {objs : List Ob} {l : Dt} (h : sel25 args objs = some l) : CnA Tryz.prog args [(.dat 25 l)] ∧ CnOL Tryz.prog objs [] := by
  unfold sel25 at h
  split at h
  · obtain ⟨hc, h2⟩ := bif_some h
    cases h2
    have e0 := beq_eq hc
    subst e0
    exact ⟨(.cons (.of .same rfl rfl) .nil), .nil⟩
  · cases h
def sel26 (args : List AV) (objs : List Ob) : Option Dt := match args, objs with
  | [.dat T0 x0], [] => bif Nat.beq T0 25 then some x0 else none
  | _, _ => none
theorem sel26_ok {args : List AV} {objs : List Ob} {l : Dt} (h : sel26 args objs = some l) : CnA Tryz.prog args [(.dat 25 l)] ∧ CnOL Tryz.prog objs [] := by
  unfold sel26 at h
  split at h
  · obtain ⟨hc, h2⟩ := bif_some h
    cases h2
    have e0 := beq_eq hc
    subst e0
    exact ⟨(.cons (.of .same rfl rfl) .nil), .nil⟩
  · cases h
def sel27 (args : List AV) (objs : List Ob) : Option (Dt × Dt) := match args, objs with
  | [.dat T0 x0, .dat T1 x1], [] => bif (Nat.beq T0 32 && Nat.beq T1 53) then some (x0, x1) else none
  | _, _ => none
theorem sel27_ok {args : List AV} {objs : List Ob} {l : Dt × Dt} (h : sel27 args objs = some l) : CnA Tryz.prog args [(.dat 32 l.1), (.dat 53 l.2)] ∧ CnOL Tryz.prog objs [] := by
  unfold sel27 at h
  split at h
  · obtain ⟨hc, h2⟩ := bif_some h
    cases h2
    have e0 := beq_eq (and_l hc)
    have e1 := beq_eq (and_r hc)
    subst e0 e1
    exact ⟨(.cons (.of .same rfl rfl) (.cons (.of .same rfl rfl) .nil)), .nil⟩
  · cases h
def sel28 (args : List AV) (objs : List Ob) : Option (Dt × Int × Int) := match args, objs with
  | [.dat T0 x0, .dat T1 x1, .dat T2 x2], [] => bif (Nat.beq T0 32 && (Nat.beq T1 3 && Nat.beq T2 3)) then some (x0, x1.toInt, x2.toInt) else none
  | _, _ => none
theorem sel28_ok {args : List AV} {objs : List Ob} {l : Dt × Int × Int} (h : sel28 args objs = some l) : CnA Tryz.prog args [(.dat 32 l.1), (.dat 3 (.int l.2.1)), (.dat 3 (.int l.2.2))] ∧ CnOL Tryz.prog objs [] := by
  unfold sel28 at h
  split at h
  · obtain ⟨hc, h2⟩ := bif_some h
    cases h2
    have e0 := beq_eq (and_l hc)
    have e1 := beq_eq (and_l (and_r hc))
    have e2 := beq_eq (and_r (and_r hc))
    subst e0 e1 e2
    exact ⟨(.cons (.of .same rfl rfl) (.cons (.of (.dat (.int Tryz.underlying3)) rfl rfl) (.cons (.of (.dat (.int Tryz.underlying3)) rfl rfl) .nil))), .nil⟩
  · cases h
def sel29 (args : List AV) (objs : List Ob) : Option Dt := match args, objs with
  | [.dat T0 x0], [] => bif Nat.beq T0 25 then some x0 else none
  | _, _ => none
theorem sel29_ok {args : List AV} {objs : List Ob} {l : Dt} (h : sel29 args objs = some l) : CnA Tryz.prog args [(.dat 25 l)] ∧ CnOL Tryz.prog objs [] := by
  unfold sel29 at h
  split at h
  · obtain ⟨hc, h2⟩ := bif_some h
    cases h2
    have e0 := beq_eq hc
    subst e0
    exact ⟨(.cons (.of .same rfl rfl) .nil), .nil⟩
  · cases h
def sel30 (args : List AV) (objs : List Ob) : Option Dt := match args, objs with
  | [.dat T0 x0], [] => bif Nat.beq T0 25 then some x0 else none
  | _, _ => none
theorem sel30_ok {args : List AV} {objs : List Ob} {l : Dt} (h : sel30 args objs = some l) : CnA Tryz.prog args [(.dat 25 l)] ∧ CnOL Tryz.prog objs [] := by
  unfold sel30 at h
  split at h
  · obtain ⟨hc, h2⟩ := bif_some h
    cases h2
    have e0 := beq_eq hc
    subst e0
    exact ⟨(.cons (.of .same rfl rfl) .nil), .nil⟩
  · cases h
def sel31 (args : List AV) (objs : List Ob) : Option (Dt × Bool) := match args, objs with
  | [.dat T0 x0, .dat T1 x1], [] => bif (Nat.beq T0 25 && Nat.beq T1 4) then some (x0, x1.toBool) else none
  | _, _ => none
theorem sel31_ok {args : List AV} {objs : List Ob} {l : Dt × Bool} (h : sel31 args objs = some l) : CnA Tryz.prog args [(.dat 25 l.1), (.dat 4 (.bool l.2))] ∧ CnOL Tryz.prog objs [] := by
  unfold sel31 at h
  split at h
  · obtain ⟨hc, h2⟩ := bif_some h
    cases h2
    have e0 := beq_eq (and_l hc)
    have e1 := beq_eq (and_r hc)
    subst e0 e1
    exact ⟨(.cons (.of .same rfl rfl) (.cons (.of (.dat (.bool Tryz.underlying4)) rfl rfl) .nil)), .nil⟩
  · cases h
def sel32 (args : List AV) (objs : List Ob) : Option (List Dt × List Dt) := match args, objs with
  | [.dat T0 x0, .dat T1 x1], [] => bif (Nat.beq T0 28 && Nat.beq T1 28) then some (x0.toLst, x1.toLst) else none
  | _, _ => none
theorem sel32_ok {args : List AV} {objs : List Ob} {l : List Dt × List Dt} (h : sel32 args objs = some l) : CnA Tryz.prog args [(.dat 28 (.lst l.1)), (.dat 28 (.lst l.2))] ∧ CnOL Tryz.prog objs [] := by
  unfold sel32 at h
  split at h
  · obtain ⟨hc, h2⟩ := bif_some h
    cases h2
    have e0 := beq_eq (and_l hc)
    have e1 := beq_eq (and_r hc)
    subst e0 e1
    exact ⟨(.cons (.of (.dat (.lst Tryz.underlying28)) rfl rfl) (.cons (.of (.dat (.lst Tryz.underlying28)) rfl rfl) .nil)), .nil⟩
  · cases h
def sel33 (args : List AV) (objs : List Ob) : Option Dt := match args, objs with
  | [.dat T0 x0], [] => bif Nat.beq T0 25 then some x0 else none
  | _, _ => none
theorem sel33_ok {args : List AV} {objs : List Ob} {l : Dt} (h : sel33 args objs = some l) : CnA Tryz.prog args [(.dat 25 l)] ∧ CnOL Tryz.prog objs [] := by
  unfold sel33 at h
  split at h
  · obtain ⟨hc, h2⟩ := bif_some h
    cases h2
    have e0 := beq_eq hc
    subst e0
    exact ⟨(.cons (.of .same rfl rfl) .nil), .nil⟩
  · cases h
def sel34 (args : List AV) (objs : List Ob) : Option ByteArray := match args, objs with
  | [.dat T0 x0], [] => bif Nat.beq T0 9 then some x0.toStr else none
  | _, _ => none
theorem sel34_ok {args : List AV} {objs : List Ob} {l : ByteArray} (h : sel34 args objs = some l) : CnA Tryz.prog args [(.dat 9 (.str l))] ∧ CnOL Tryz.prog objs [] := by
  unfold sel34 at h
  split at h
  · obtain ⟨hc, h2⟩ := bif_some h
    cases h2
    have e0 := beq_eq hc
    subst e0
    exact ⟨(.cons (.of (.dat (.str Tryz.underlying9)) rfl rfl) .nil), .nil⟩
  · cases h
def sel35 (args : List AV) (objs : List Ob) : Option (Bool × Dt) := match args, objs with
  | [.dat T0 x0, .dat T1 x1], [] => bif (Nat.beq T0 4 && Nat.beq T1 25) then some (x0.toBool, x1) else none
  | _, _ => none
theorem sel35_ok {args : List AV} {objs : List Ob} {l : Bool × Dt} (h : sel35 args objs = some l) : CnA Tryz.prog args [(.dat 4 (.bool l.1)), (.dat 25 l.2)] ∧ CnOL Tryz.prog objs [] := by
  unfold sel35 at h
  split at h
  · obtain ⟨hc, h2⟩ := bif_some h
    cases h2
    have e0 := beq_eq (and_l hc)
    have e1 := beq_eq (and_r hc)
    subst e0 e1
    exact ⟨(.cons (.of (.dat (.bool Tryz.underlying4)) rfl rfl) (.cons (.of .same rfl rfl) .nil)), .nil⟩
  · cases h
def sel36 (args : List AV) (objs : List Ob) : Option (Dt × Int) := match args, objs with
  | [.dat T0 x0, .dat T1 x1], [] => bif (Nat.beq T0 25 && Nat.beq T1 3) then some (x0, x1.toInt) else none
  | _, _ => none
theorem sel36_ok {args : List AV} {objs : List Ob} {l : Dt × Int} (h : sel36 args objs = some l) : CnA Tryz.prog args [(.dat 25 l.1), (.dat 3 (.int l.2))] ∧ CnOL Tryz.prog objs [] := by
  unfold sel36 at h
  split at h
  · obtain ⟨hc, h2⟩ := bif_some h
    cases h2
    have e0 := beq_eq (and_l hc)
    have e1 := beq_eq (and_r hc)
    subst e0 e1
    exact ⟨(.cons (.of .same rfl rfl) (.cons (.of (.dat (.int Tryz.underlying3)) rfl rfl) .nil)), .nil⟩
  · cases h
def sel37 (args : List AV) (objs : List Ob) : Option Int := match args, objs with
  | [.dat T0 x0], [] => bif Nat.beq T0 3 then some x0.toInt else none
  | _, _ => none
theorem sel37_ok {args : List AV} {objs : List Ob} {l : Int} (h : sel37 args objs = some l) : CnA Tryz.prog args [(.dat 3 (.int l))] ∧ CnOL Tryz.prog objs [] := by
  unfold sel37 at h
  split at h
  · obtain ⟨hc, h2⟩ := bif_some h
    cases h2
    have e0 := beq_eq hc
    subst e0
    exact ⟨(.cons (.of (.dat (.int Tryz.underlying3)) rfl rfl) .nil), .nil⟩
  · cases h
def sel38 (args : List AV) (objs : List Ob) : Option ByteArray := match args, objs with
  | [.dat T0 x0], [] => bif Nat.beq T0 9 then some x0.toStr else none
  | _, _ => none
theorem sel38_ok {args : List AV} {objs : List Ob} {l : ByteArray} (h : sel38 args objs = some l) : CnA Tryz.prog args [(.dat 9 (.str l))] ∧ CnOL Tryz.prog objs [] := by
  unfold sel38 at h
  split at h
  · obtain ⟨hc, h2⟩ := bif_some h
    cases h2
    have e0 := beq_eq hc
    subst e0
    exact ⟨(.cons (.of (.dat (.str Tryz.underlying9)) rfl rfl) .nil), .nil⟩
  · cases h
def sel39 (args : List AV) (objs : List Ob) : Option Dt := match args, objs with
  | [.dat T0 x0], [] => bif Nat.beq T0 25 then some x0 else none
  | _, _ => none
theorem sel39_ok {args : List AV} {objs : List Ob} {l : Dt} (h : sel39 args objs = some l) : CnA Tryz.prog args [(.dat 25 l)] ∧ CnOL Tryz.prog objs [] := by
  unfold sel39 at h
  split at h
  · obtain ⟨hc, h2⟩ := bif_some h
    cases h2
    have e0 := beq_eq hc
    subst e0
    exact ⟨(.cons (.of .same rfl rfl) .nil), .nil⟩
  · cases h
def sel40 (args : List AV) (objs : List Ob) : Option (Dt × Int) := match args, objs with
  | [.dat T0 x0, .dat T1 x1], [] => bif (Nat.beq T0 25 && Nat.beq T1 3) then some (x0, x1.toInt) else none
  | _, _ => none
theorem sel40_ok {args : List AV} {objs : List Ob} {l : Dt × Int} (h : sel40 args objs = some l) : CnA Tryz.prog args [(.dat 25 l.1), (.dat 3 (.int l.2))] ∧ CnOL Tryz.prog objs [] := by
  unfold sel40 at h
  split at h
  · obtain ⟨hc, h2⟩ := bif_some h
    cases h2
    have e0 := beq_eq (and_l hc)
    have e1 := beq_eq (and_r hc)
    subst e0 e1
    exact ⟨(.cons (.of .same rfl rfl) (.cons (.of (.dat (.int Tryz.underlying3)) rfl rfl) .nil)), .nil⟩
  · cases h
def sel41 (args : List AV) (objs : List Ob) : Option Dt := match args, objs with
  | [.dat T0 x0], [] => bif Nat.beq T0 25 then some x0 else none
  | _, _ => none
theorem sel41_ok {args : List AV} {objs : List Ob} {l : Dt} (h : sel41 args objs = some l) : CnA Tryz.prog args [(.dat 25 l)] ∧ CnOL Tryz.prog objs [] := by
  unfold sel41 at h
  split at h
  · obtain ⟨hc, h2⟩ := bif_some h
    cases h2
    have e0 := beq_eq hc
    subst e0
    exact ⟨(.cons (.of .same rfl rfl) .nil), .nil⟩
  · cases h
def sel42 (args : List AV) (objs : List Ob) : Option Dt := match args, objs with
  | [.dat T0 x0], [] => bif Nat.beq T0 25 then some x0 else none
  | _, _ => none
theorem sel42_ok {args : List AV} {objs : List Ob} {l : Dt} (h : sel42 args objs = some l) : CnA Tryz.prog args [(.dat 25 l)] ∧ CnOL Tryz.prog objs [] := by
  unfold sel42 at h
  split at h
  · obtain ⟨hc, h2⟩ := bif_some h
    cases h2
    have e0 := beq_eq hc
    subst e0
    exact ⟨(.cons (.of .same rfl rfl) .nil), .nil⟩
  · cases h
def sel43 (args : List AV) (objs : List Ob) : Option Dt := match args, objs with
  | [.dat T0 x0], [] => bif Nat.beq T0 25 then some x0 else none
  | _, _ => none
theorem sel43_ok {args : List AV} {objs : List Ob} {l : Dt} (h : sel43 args objs = some l) : CnA Tryz.prog args [(.dat 25 l)] ∧ CnOL Tryz.prog objs [] := by
  unfold sel43 at h
  split at h
  · obtain ⟨hc, h2⟩ := bif_some h
    cases h2
    have e0 := beq_eq hc
    subst e0
    exact ⟨(.cons (.of .same rfl rfl) .nil), .nil⟩
  · cases h
def sel44 (args : List AV) (objs : List Ob) : Option Dt := match args, objs with
  | [.dat T0 x0], [] => bif Nat.beq T0 32 then some x0 else none
  | _, _ => none
theorem sel44_ok {args : List AV} {objs : List Ob} {l : Dt} (h : sel44 args objs = some l) : CnA Tryz.prog args [(.dat 32 l)] ∧ CnOL Tryz.prog objs [] := by
  unfold sel44 at h
  split at h
  · obtain ⟨hc, h2⟩ := bif_some h
    cases h2
    have e0 := beq_eq hc
    subst e0
    exact ⟨(.cons (.of .same rfl rfl) .nil), .nil⟩
  · cases h
def sel45 (args : List AV) (objs : List Ob) : Option (Dt × Int) := match args, objs with
  | [.dat T0 x0, .dat T1 x1], [] => bif (Nat.beq T0 25 && Nat.beq T1 3) then some (x0, x1.toInt) else none
  | _, _ => none
theorem sel45_ok {args : List AV} {objs : List Ob} {l : Dt × Int} (h : sel45 args objs = some l) : CnA Tryz.prog args [(.dat 25 l.1), (.dat 3 (.int l.2))] ∧ CnOL Tryz.prog objs [] := by
  unfold sel45 at h
  split at h
  · obtain ⟨hc, h2⟩ := bif_some h
    cases h2
    have e0 := beq_eq (and_l hc)
    have e1 := beq_eq (and_r hc)
    subst e0 e1
    exact ⟨(.cons (.of .same rfl rfl) (.cons (.of (.dat (.int Tryz.underlying3)) rfl rfl) .nil)), .nil⟩
  · cases h
def sel46 (args : List AV) (objs : List Ob) : Option (Dt × Int) := match args, objs with
  | [.dat T0 x0, .dat T1 x1], [] => bif (Nat.beq T0 25 && Nat.beq T1 3) then some (x0, x1.toInt) else none
  | _, _ => none
theorem sel46_ok {args : List AV} {objs : List Ob} {l : Dt × Int} (h : sel46 args objs = some l) : CnA Tryz.prog args [(.dat 25 l.1), (.dat 3 (.int l.2))] ∧ CnOL Tryz.prog objs [] := by
  unfold sel46 at h
  split at h
  · obtain ⟨hc, h2⟩ := bif_some h
    cases h2
    have e0 := beq_eq (and_l hc)
    have e1 := beq_eq (and_r hc)
    subst e0 e1
    exact ⟨(.cons (.of .same rfl rfl) (.cons (.of (.dat (.int Tryz.underlying3)) rfl rfl) .nil)), .nil⟩
  · cases h
def sel47 (args : List AV) (objs : List Ob) : Option ByteArray := match args, objs with
  | [.dat T0 x0], [] => bif Nat.beq T0 9 then some x0.toStr else none
  | _, _ => none
theorem sel47_ok {args : List AV} {objs : List Ob} {l : ByteArray} (h : sel47 args objs = some l) : CnA Tryz.prog args [(.dat 9 (.str l))] ∧ CnOL Tryz.prog objs [] := by
  unfold sel47 at h
  split at h
  · obtain ⟨hc, h2⟩ := bif_some h
    cases h2
    have e0 := beq_eq hc
    subst e0
    exact ⟨(.cons (.of (.dat (.str Tryz.underlying9)) rfl rfl) .nil), .nil⟩
  · cases h
def sel48 (args : List AV) (objs : List Ob) : Option (Dt × Bool) := match args, objs with
  | [.dat T0 x0, .dat T1 x1], [] => bif (Nat.beq T0 25 && Nat.beq T1 4) then some (x0, x1.toBool) else none
  | _, _ => none
theorem sel48_ok {args : List AV} {objs : List Ob} {l : Dt × Bool} (h : sel48 args objs = some l) : CnA Tryz.prog args [(.dat 25 l.1), (.dat 4 (.bool l.2))] ∧ CnOL Tryz.prog objs [] := by
  unfold sel48 at h
  split at h
  · obtain ⟨hc, h2⟩ := bif_some h
    cases h2
    have e0 := beq_eq (and_l hc)
    have e1 := beq_eq (and_r hc)
    subst e0 e1
    exact ⟨(.cons (.of .same rfl rfl) (.cons (.of (.dat (.bool Tryz.underlying4)) rfl rfl) .nil)), .nil⟩
  · cases h
def sel49 (args : List AV) (objs : List Ob) : Option (Dt × Int × Int) := match args, objs with
  | [.dat T0 x0, .fn T1 [.ptr n2 p2 o2, .ptr n3 p3 o3]], [.box T4 (.dat T5 x5), .box T6 (.dat T7 x7)] => bif (Nat.beq T0 25 && (Nat.beq T1 95 && (Nat.beq n2 0 && (natsB p2 [] && (Nat.beq o2 0 && (Nat.beq n3 1 && (natsB p3 [] && (Nat.beq o3 0 && (Nat.beq T4 3 && (Nat.beq T5 3 && (Nat.beq T6 3 && Nat.beq T7 3))))))))))) then some (x0, x5.toInt, x7.toInt) else none
  | _, _ => none
theorem sel49_ok {args : List AV} {objs : List Ob} {l : Dt × Int × Int} (h : sel49 args objs = some l) : CnA Tryz.prog args [(.dat 25 l.1), (.fn 95 [(.ptr 0 [] 0), (.ptr 1 [] 0)])] ∧ CnOL Tryz.prog objs [(.box 3 (.dat 3 (.int l.2.1))), (.box 3 (.dat 3 (.int l.2.2)))] := by
  unfold sel49 at h
  split at h
  · obtain ⟨hc, h2⟩ := bif_some h
    cases h2
    have e0 := beq_eq (and_l hc)
    have e1 := beq_eq (and_l (and_r hc))
    have e2 := beq_eq (and_l (and_r (and_r hc)))
    have e3 := natsB_eq (and_l (and_r (and_r (and_r hc))))
    have e4 := beq_eq (and_l (and_r (and_r (and_r (and_r hc)))))
    have e5 := beq_eq (and_l (and_r (and_r (and_r (and_r (and_r hc))))))
    have e6 := natsB_eq (and_l (and_r (and_r (and_r (and_r (and_r (and_r hc)))))))
    have e7 := beq_eq (and_l (and_r (and_r (and_r (and_r (and_r (and_r (and_r hc))))))))
    have e8 := beq_eq (and_l (and_r (and_r (and_r (and_r (and_r (and_r (and_r (and_r hc)))))))))
    have e9 := beq_eq (and_l (and_r (and_r (and_r (and_r (and_r (and_r (and_r (and_r (and_r hc))))))))))
    have e10 := beq_eq (and_l (and_r (and_r (and_r (and_r (and_r (and_r (and_r (and_r (and_r (and_r hc)))))))))))
    have e11 := beq_eq (and_r (and_r (and_r (and_r (and_r (and_r (and_r (and_r (and_r (and_r (and_r hc)))))))))))
    subst e0 e1 e2 e3 e4 e5 e6 e7 e8 e9 e10 e11
    exact ⟨(.cons (.of .same rfl rfl) (.cons (.of (.fn (.cons .same (.cons .same .nil))) rfl rfl) .nil)), (.cons (.box (.dat (.int Tryz.underlying3))) (.cons (.box (.dat (.int Tryz.underlying3))) .nil))⟩
  · cases h
def sel50 (args : List AV) (objs : List Ob) : Option (Dt × Int × Int) := match args, objs with
  | [.dat T0 x0, .ptr n1 p1 o1, .ptr n2 p2 o2], [.box T3 (.dat T4 x4), .box T5 (.dat T6 x6)] => bif (Nat.beq T0 25 && (Nat.beq n1 0 && (natsB p1 [] && (Nat.beq o1 0 && (Nat.beq n2 1 && (natsB p2 [] && (Nat.beq o2 0 && (Nat.beq T3 3 && (Nat.beq T4 3 && (Nat.beq T5 3 && Nat.beq T6 3)))))))))) then some (x0, x4.toInt, x6.toInt) else none
  | _, _ => none
theorem sel50_ok {args : List AV} {objs : List Ob} {l : Dt × Int × Int} (h : sel50 args objs = some l) : CnA Tryz.prog args [(.dat 25 l.1), (.ptr 0 [] 0), (.ptr 1 [] 0)] ∧ CnOL Tryz.prog objs [(.box 3 (.dat 3 (.int l.2.1))), (.box 3 (.dat 3 (.int l.2.2)))] := by
  unfold sel50 at h
  split at h
  · obtain ⟨hc, h2⟩ := bif_some h
    cases h2
    have e0 := beq_eq (and_l hc)
    have e1 := beq_eq (and_l (and_r hc))
    have e2 := natsB_eq (and_l (and_r (and_r hc)))
    have e3 := beq_eq (and_l (and_r (and_r (and_r hc))))
    have e4 := beq_eq (and_l (and_r (and_r (and_r (and_r hc)))))
    have e5 := natsB_eq (and_l (and_r (and_r (and_r (and_r (and_r hc))))))
    have e6 := beq_eq (and_l (and_r (and_r (and_r (and_r (and_r (and_r hc)))))))
    have e7 := beq_eq (and_l (and_r (and_r (and_r (and_r (and_r (and_r (and_r hc))))))))
    have e8 := beq_eq (and_l (and_r (and_r (and_r (and_r (and_r (and_r (and_r (and_r hc)))))))))
    have e9 := beq_eq (and_l (and_r (and_r (and_r (and_r (and_r (and_r (and_r (and_r (and_r hc))))))))))
    have e10 := beq_eq (and_r (and_r (and_r (and_r (and_r (and_r (and_r (and_r (and_r (and_r hc))))))))))
    subst e0 e1 e2 e3 e4 e5 e6 e7 e8 e9 e10
    exact ⟨(.cons (.of .same rfl rfl) (.cons (.of .same rfl rfl) (.cons (.of .same rfl rfl) .nil))), (.cons (.box (.dat (.int Tryz.underlying3))) (.cons (.box (.dat (.int Tryz.underlying3))) .nil))⟩
  · cases h
def sel51 (args : List AV) (objs : List Ob) : Option ByteArray := match args, objs with
  | [.dat T0 x0], [] => bif Nat.beq T0 9 then some x0.toStr else none
  | _, _ => none
theorem sel51_ok {args : List AV} {objs : List Ob} {l : ByteArray} (h : sel51 args objs = some l) : CnA Tryz.prog args [(.dat 9 (.str l))] ∧ CnOL Tryz.prog objs [] := by
  unfold sel51 at h
  split at h
  · obtain ⟨hc, h2⟩ := bif_some h
    cases h2
    have e0 := beq_eq hc
    subst e0
    exact ⟨(.cons (.of (.dat (.str Tryz.underlying9)) rfl rfl) .nil), .nil⟩
  · cases h
def sel52 (args : List AV) (objs : List Ob) : Option (List Dt) := match args, objs with
  | [.dat T0 x0], [] => bif Nat.beq T0 23 then some x0.toLst else none
  | _, _ => none
theorem sel52_ok {args : List AV} {objs : List Ob} {l : List Dt} (h : sel52 args objs = some l) : CnA Tryz.prog args [(.dat 23 (.lst l))] ∧ CnOL Tryz.prog objs [] := by
  unfold sel52 at h
  split at h
  · obtain ⟨hc, h2⟩ := bif_some h
    cases h2
    have e0 := beq_eq hc
    subst e0
    exact ⟨(.cons (.of (.dat (.lst Tryz.underlying23)) rfl rfl) .nil), .nil⟩
  · cases h
def sel53 (args : List AV) (objs : List Ob) : Option (Dt × Int × Int) := match args, objs with
  | [.dat T0 x0, .fn T1 [.ptr n2 p2 o2, .ptr n3 p3 o3]], [.box T4 (.dat T5 x5), .box T6 (.dat T7 x7)] => bif (Nat.beq T0 25 && (Nat.beq T1 96 && (Nat.beq n2 0 && (natsB p2 [] && (Nat.beq o2 0 && (Nat.beq n3 1 && (natsB p3 [] && (Nat.beq o3 0 && (Nat.beq T4 3 && (Nat.beq T5 3 && (Nat.beq T6 3 && Nat.beq T7 3))))))))))) then some (x0, x5.toInt, x7.toInt) else none
  | _, _ => none
theorem sel53_ok {args : List AV} {objs : List Ob} {l : Dt × Int × Int} (h : sel53 args objs = some l) : CnA Tryz.prog args [(.dat 25 l.1), (.fn 96 [(.ptr 0 [] 0), (.ptr 1 [] 0)])] ∧ CnOL Tryz.prog objs [(.box 3 (.dat 3 (.int l.2.1))), (.box 3 (.dat 3 (.int l.2.2)))] := by
  unfold sel53 at h
  split at h
  · obtain ⟨hc, h2⟩ := bif_some h
    cases h2
    have e0 := beq_eq (and_l hc)
    have e1 := beq_eq (and_l (and_r hc))
    have e2 := beq_eq (and_l (and_r (and_r hc)))
    have e3 := natsB_eq (and_l (and_r (and_r (and_r hc))))
    have e4 := beq_eq (and_l (and_r (and_r (and_r (and_r hc)))))
    have e5 := beq_eq (and_l (and_r (and_r (and_r (and_r (and_r hc))))))
    have e6 := natsB_eq (and_l (and_r (and_r (and_r (and_r (and_r (and_r hc)))))))
    have e7 := beq_eq (and_l (and_r (and_r (and_r (and_r (and_r (and_r (and_r hc))))))))
    have e8 := beq_eq (and_l (and_r (and_r (and_r (and_r (and_r (and_r (and_r (and_r hc)))))))))
    have e9 := beq_eq (and_l (and_r (and_r (and_r (and_r (and_r (and_r (and_r (and_r (and_r hc))))))))))
    have e10 := beq_eq (and_l (and_r (and_r (and_r (and_r (and_r (and_r (and_r (and_r (and_r (and_r hc)))))))))))
    have e11 := beq_eq (and_r (and_r (and_r (and_r (and_r (and_r (and_r (and_r (and_r (and_r (and_r hc)))))))))))
    subst e0 e1 e2 e3 e4 e5 e6 e7 e8 e9 e10 e11
    exact ⟨(.cons (.of .same rfl rfl) (.cons (.of (.fn (.cons .same (.cons .same .nil))) rfl rfl) .nil)), (.cons (.box (.dat (.int Tryz.underlying3))) (.cons (.box (.dat (.int Tryz.underlying3))) .nil))⟩
  · cases h
def sel54 (args : List AV) (objs : List Ob) : Option (Dt × Int × Int) := match args, objs with
  | [.dat T0 x0, .ptr n1 p1 o1, .ptr n2 p2 o2], [.box T3 (.dat T4 x4), .box T5 (.dat T6 x6)] => bif (Nat.beq T0 25 && (Nat.beq n1 0 && (natsB p1 [] && (Nat.beq o1 0 && (Nat.beq n2 1 && (natsB p2 [] && (Nat.beq o2 0 && (Nat.beq T3 3 && (Nat.beq T4 3 && (Nat.beq T5 3 && Nat.beq T6 3)))))))))) then some (x0, x4.toInt, x6.toInt) else none
  | _, _ => none
theorem sel54_ok {args : List AV} {objs : List Ob} {l : Dt × Int × Int} (h : sel54 args objs = some l) : CnA Tryz.prog args [(.dat 25 l.1), (.ptr 0 [] 0), (.ptr 1 [] 0)] ∧ CnOL Tryz.prog objs [(.box 3 (.dat 3 (.int l.2.1))), (.box 3 (.dat 3 (.int l.2.2)))] := by
  unfold sel54 at h
  split at h
  · obtain ⟨hc, h2⟩ := bif_some h
    cases h2
    have e0 := beq_eq (and_l hc)
    have e1 := beq_eq (and_l (and_r hc))
    have e2 := natsB_eq (and_l (and_r (and_r hc)))
    have e3 := beq_eq (and_l (and_r (and_r (and_r hc))))
    have e4 := beq_eq (and_l (and_r (and_r (and_r (and_r hc)))))
    have e5 := natsB_eq (and_l (and_r (and_r (and_r (and_r (and_r hc))))))
    have e6 := beq_eq (and_l (and_r (and_r (and_r (and_r (and_r (and_r hc)))))))
    have e7 := beq_eq (and_l (and_r (and_r (and_r (and_r (and_r (and_r (and_r hc))))))))
    have e8 := beq_eq (and_l (and_r (and_r (and_r (and_r (and_r (and_r (and_r (and_r hc)))))))))
    have e9 := beq_eq (and_l (and_r (and_r (and_r (and_r (and_r (and_r (and_r (and_r (and_r hc))))))))))
    have e10 := beq_eq (and_r (and_r (and_r (and_r (and_r (and_r (and_r (and_r (and_r (and_r hc))))))))))
    subst e0 e1 e2 e3 e4 e5 e6 e7 e8 e9 e10
    exact ⟨(.cons (.of .same rfl rfl) (.cons (.of .same rfl rfl) (.cons (.of .same rfl rfl) .nil))), (.cons (.box (.dat (.int Tryz.underlying3))) (.cons (.box (.dat (.int Tryz.underlying3))) .nil))⟩
  · cases h
def sel55 (args : List AV) (objs : List Ob) : Option Dt := match args, objs with
  | [.dat T0 x0], [] => bif Nat.beq T0 25 then some x0 else none
  | _, _ => none
theorem sel55_ok {args : List AV} {objs : List Ob} {l : Dt} (h : sel55 args objs = some l) : CnA Tryz.prog args [(.dat 25 l)] ∧ CnOL Tryz.prog objs [] := by
  unfold sel55 at h
  split at h
  · obtain ⟨hc, h2⟩ := bif_some h
    cases h2
    have e0 := beq_eq hc
    subst e0
    exact ⟨(.cons (.of .same rfl rfl) .nil), .nil⟩
  · cases h
def sel56 (args : List AV) (objs : List Ob) : Option (List Dt) := match args, objs with
  | [.dat T0 x0], [] => bif Nat.beq T0 28 then some x0.toLst else none
  | _, _ => none
theorem sel56_ok {args : List AV} {objs : List Ob} {l : List Dt} (h : sel56 args objs = some l) : CnA Tryz.prog args [(.dat 28 (.lst l))] ∧ CnOL Tryz.prog objs [] := by
  unfold sel56 at h
  split at h
  · obtain ⟨hc, h2⟩ := bif_some h
    cases h2
    have e0 := beq_eq hc
    subst e0
    exact ⟨(.cons (.of (.dat (.lst Tryz.underlying28)) rfl rfl) .nil), .nil⟩
  · cases h
def sel57 (args : List AV) (objs : List Ob) : Option (Bool × Dt) := match args, objs with
  | [.dat T0 x0, .dat T1 x1], [] => bif (Nat.beq T0 4 && Nat.beq T1 25) then some (x0.toBool, x1) else none
  | _, _ => none
theorem sel57_ok {args : List AV} {objs : List Ob} {l : Bool × Dt} (h : sel57 args objs = some l) : CnA Tryz.prog args [(.dat 4 (.bool l.1)), (.dat 25 l.2)] ∧ CnOL Tryz.prog objs [] := by
  unfold sel57 at h
  split at h
  · obtain ⟨hc, h2⟩ := bif_some h
    cases h2
    have e0 := beq_eq (and_l hc)
    have e1 := beq_eq (and_r hc)
    subst e0 e1
    exact ⟨(.cons (.of (.dat (.bool Tryz.underlying4)) rfl rfl) (.cons (.of .same rfl rfl) .nil)), .nil⟩
  · cases h
def sel58 (args : List AV) (objs : List Ob) : Option Dt := match args, objs with
  | [.dat T0 x0], [] => bif Nat.beq T0 25 then some x0 else none
  | _, _ => none
theorem sel58_ok {args : List AV} {objs : List Ob} {l : Dt} (h : sel58 args objs = some l) : CnA Tryz.prog args [(.dat 25 l)] ∧ CnOL Tryz.prog objs [] := by
  unfold sel58 at h
  split at h
  · obtain ⟨hc, h2⟩ := bif_some h
    cases h2
    have e0 := beq_eq hc
    subst e0
    exact ⟨(.cons (.of .same rfl rfl) .nil), .nil⟩
  · cases h
def sel59 (args : List AV) (objs : List Ob) : Option Dt := match args, objs with
  | [.dat T0 x0], [] => bif Nat.beq T0 25 then some x0 else none
  | _, _ => none
theorem sel59_ok {args : List AV} {objs : List Ob} {l : Dt} (h : sel59 args objs = some l) : CnA Tryz.prog args [(.dat 25 l)] ∧ CnOL Tryz.prog objs [] := by
  unfold sel59 at h
  split at h
  · obtain ⟨hc, h2⟩ := bif_some h
    cases h2
    have e0 := beq_eq hc
    subst e0
    exact ⟨(.cons (.of .same rfl rfl) .nil), .nil⟩
  · cases h
def sel60 (args : List AV) (objs : List Ob) : Option (ByteArray × Int × Int) := match args, objs with
  | [.dat T0 x0, .dat T1 x1, .dat T2 x2], [] => bif (Nat.beq T0 9 && (Nat.beq T1 3 && Nat.beq T2 3)) then some (x0.toStr, x1.toInt, x2.toInt) else none
  | _, _ => none
theorem sel60_ok {args : List AV} {objs : List Ob} {l : ByteArray × Int × Int} (h : sel60 args objs = some l) : CnA Tryz.prog args [(.dat 9 (.str l.1)), (.dat 3 (.int l.2.1)), (.dat 3 (.int l.2.2))] ∧ CnOL Tryz.prog objs [] := by
  unfold sel60 at h
  split at h
  · obtain ⟨hc, h2⟩ := bif_some h
    cases h2
    have e0 := beq_eq (and_l hc)
    have e1 := beq_eq (and_l (and_r hc))
    have e2 := beq_eq (and_r (and_r hc))
    subst e0 e1 e2
    exact ⟨(.cons (.of (.dat (.str Tryz.underlying9)) rfl rfl) (.cons (.of (.dat (.int Tryz.underlying3)) rfl rfl) (.cons (.of (.dat (.int Tryz.underlying3)) rfl rfl) .nil))), .nil⟩
  · cases h
def sel61 (args : List AV) (objs : List Ob) : Option ByteArray := match args, objs with
  | [.dat T0 x0], [] => bif Nat.beq T0 9 then some x0.toStr else none
  | _, _ => none
theorem sel61_ok {args : List AV} {objs : List Ob} {l : ByteArray} (h : sel61 args objs = some l) : CnA Tryz.prog args [(.dat 9 (.str l))] ∧ CnOL Tryz.prog objs [] := by
  unfold sel61 at h
  split at h
  · obtain ⟨hc, h2⟩ := bif_some h
    cases h2
    have e0 := beq_eq hc
    subst e0
    exact ⟨(.cons (.of (.dat (.str Tryz.underlying9)) rfl rfl) .nil), .nil⟩
  · cases h
def sel62 (args : List AV) (objs : List Ob) : Option ByteArray := match args, objs with
  | [.dat T0 x0], [] => bif Nat.beq T0 9 then some x0.toStr else none
  | _, _ => none
theorem sel62_ok {args : List AV} {objs : List Ob} {l : ByteArray} (h : sel62 args objs = some l) : CnA Tryz.prog args [(.dat 9 (.str l))] ∧ CnOL Tryz.prog objs [] := by
  unfold sel62 at h
  split at h
  · obtain ⟨hc, h2⟩ := bif_some h
    cases h2
    have e0 := beq_eq hc
    subst e0
    exact ⟨(.cons (.of (.dat (.str Tryz.underlying9)) rfl rfl) .nil), .nil⟩
  · cases h
def sel63 (args : List AV) (objs : List Ob) : Option ByteArray := match args, objs with
  | [.dat T0 x0], [] => bif Nat.beq T0 9 then some x0.toStr else none
  | _, _ => none
theorem sel63_ok {args : List AV} {objs : List Ob} {l : ByteArray} (h : sel63 args objs = some l) : CnA Tryz.prog args [(.dat 9 (.str l))] ∧ CnOL Tryz.prog objs [] := by
  unfold sel63 at h
  split at h
  · obtain ⟨hc, h2⟩ := bif_some h
    cases h2
    have e0 := beq_eq hc
    subst e0
    exact ⟨(.cons (.of (.dat (.str Tryz.underlying9)) rfl rfl) .nil), .nil⟩
  · cases h
noncomputable def ct3 {R : Type} (m : Nat) (args : List AV) (objs : List Ob) (K : Res → Option R) : Option R := match sel0 args objs with
  | some l => (law14_SchemaParses m l).bind fun r => K ((.dat 4 (.bool r)), [])
  | none => none
noncomputable def ct6 {R : Type} (m : Nat) (args : List AV) (objs : List Ob) (K : Res → Option R) : Option R := match sel1 args objs with
  | some l => (ref02_Few m l.1 l.2).bind fun r => K ((.dat 4 (.bool r)), [])
  | none => none
noncomputable def ct7 {R : Type} (m : Nat) (args : List AV) (objs : List Ob) (K : Res → Option R) : Option R := match sel2 args objs with
  | some l => (awakeC).bind fun r => K ((.dat 4 (.bool r)), [])
  | none => none
noncomputable def ct8 {R : Type} (m : Nat) (args : List AV) (objs : List Ob) (K : Res → Option R) : Option R := match sel3 args objs with
  | some l => (schema_Parse m l).bind fun r => K ((.tup [(.dat 32 r.1), (.dat 33 (.int r.2))]), [])
  | none => none
noncomputable def ct9 {R : Type} (m : Nat) (args : List AV) (objs : List Ob) (K : Res → Option R) : Option R := match sel4 args objs with
  | some l => (ref14_Parse m l).bind fun r => K ((.tup [(.dat 32 r.1), (.dat 33 (.int r.2))]), [])
  | none => none
noncomputable def ct10 {R : Type} (m : Nat) (args : List AV) (objs : List Ob) (K : Res → Option R) : Option R := match sel5 args objs with
  | some l => (ref14_Same m l.1 l.2).bind fun r => K ((.dat 4 (.bool r)), [])
  | none => none
noncomputable def ct17 {R : Type} (m : Nat) (args : List AV) (objs : List Ob) (K : Res → Option R) : Option R := match sel6 args objs with
  | some l => (ref02_count m l.1 l.2.1 l.2.2).bind fun r => K ((.dat 3 (.int r)), [])
  | none => none
noncomputable def ct22 {R : Type} (m : Nat) (args : List AV) (objs : List Ob) (K : Res → Option R) : Option R := match sel7 args objs with
  | some l => (schema_parse m l).bind fun r => K ((.tup [(.dat 32 r.1), (.dat 4 (.bool r.2))]), [])
  | none => none
noncomputable def ct20 {R : Type} (m : Nat) (args : List AV) (objs : List Ob) (K : Res → Option R) : Option R := match sel8 args objs with
  | some l => (schema_Valid m l).bind fun r => K ((.dat 33 (.int r)), [])
  | none => none
noncomputable def ct21 {R : Type} (m : Nat) (args : List AV) (objs : List Ob) (K : Res → Option R) : Option R := match sel9 args objs with
  | some l => (schema_wellFormed m l).bind fun r => K ((.dat 4 (.bool r)), [])
  | none => none
noncomputable def ct24 {R : Type} (m : Nat) (args : List AV) (objs : List Ob) (K : Res → Option R) : Option R := match sel10 args objs with
  | some l => (ref14_parse m l).bind fun r => K ((.tup [(.dat 32 r.1), (.dat 4 (.bool r.2))]), [])
  | none => none
noncomputable def ct25 {R : Type} (m : Nat) (args : List AV) (objs : List Ob) (K : Res → Option R) : Option R := match sel11 args objs with
  | some l => (ref14_Valid m l).bind fun r => K ((.dat 33 (.int r)), [])
  | none => none
noncomputable def ct23 {R : Type} (m : Nat) (args : List AV) (objs : List Ob) (K : Res → Option R) : Option R := match sel12 args objs with
  | some l => (ref01_Formed m l).bind fun r => K ((.dat 4 (.bool r)), [])
  | none => none
noncomputable def ct28 {R : Type} (m : Nat) (args : List AV) (objs : List Ob) (K : Res → Option R) : Option R := match sel13 args objs with
  | some l => (ref04_Same m l.1 l.2).bind fun r => K ((.dat 4 (.bool r)), [])
  | none => none
noncomputable def ct26 {R : Type} (m : Nat) (args : List AV) (objs : List Ob) (K : Res → Option R) : Option R := match sel14 args objs with
  | some l => (ref01_Same m l.1 l.2).bind fun r => K ((.dat 4 (.bool r)), [])
  | none => none
noncomputable def ct27 {R : Type} (m : Nat) (args : List AV) (objs : List Ob) (K : Res → Option R) : Option R := match sel15 args objs with
  | some l => (ref01_SameList m l.1 l.2).bind fun r => K ((.dat 4 (.bool r)), [])
  | none => none
noncomputable def ct37 {R : Type} (m : Nat) (args : List AV) (objs : List Ob) (K : Res → Option R) : Option R := match sel16 args objs with
  | some l => (i16 m l.1 l.2.1 l.2.2).bind fun r => K ((.dat 4 (.bool r.1)), [(.box 32 (.dat 32 r.2))])
  | none => none
noncomputable def ct66 {R : Type} (m : Nat) (args : List AV) (objs : List Ob) (K : Res → Option R) : Option R := match sel17 args objs with
  | some l => (schema_parseKinds m l).bind fun r => K ((.tup [(.dat 3 (.int r.1)), (.dat 4 (.bool r.2))]), [])
  | none => none
noncomputable def ct67 {R : Type} (m : Nat) (args : List AV) (objs : List Ob) (K : Res → Option R) : Option R := match sel18 args objs with
  | some l => (schema_clone m l).bind fun r => K ((.dat 25 r), [])
  | none => none
noncomputable def ct68 {R : Type} (m : Nat) (args : List AV) (objs : List Ob) (K : Res → Option R) : Option R := match sel19 args objs with
  | some l => (schema_parseNames m l).bind fun r => K ((.tup [(.dat 28 (.lst r.1)), (.dat 4 (.bool r.2))]), [])
  | none => none
noncomputable def ct69 {R : Type} (m : Nat) (args : List AV) (objs : List Ob) (K : Res → Option R) : Option R := match sel20 args objs with
  | some l => (schema_parseProps m l).bind fun r => K ((.tup [(.dat 29 (.lst r.1)), (.dat 4 (.bool r.2))]), [])
  | none => none
noncomputable def ct32 {R : Type} (m : Nat) (args : List AV) (objs : List Ob) (K : Res → Option R) : Option R := match sel21 args objs with
  | some l => (i21 m l.1 l.2.1 l.2.2).bind fun r => K ((.dat 33 (.int r.1)), [(.box 3 (.dat 3 (.int r.2)))])
  | none => none
noncomputable def ct61 {R : Type} (m : Nat) (args : List AV) (objs : List Ob) (K : Res → Option R) : Option R := match sel22 args objs with
  | some l => (schema_checkOne m l).bind fun r => K ((.dat 33 (.int r)), [])
  | none => none
noncomputable def ct33 {R : Type} (m : Nat) (args : List AV) (objs : List Ob) (K : Res → Option R) : Option R := match sel23 args objs with
  | some l => (value_Nodes m l).bind fun r => K ((.dat 3 (.int r)), [])
  | none => none
noncomputable def ct35 {R : Type} (m : Nat) (args : List AV) (objs : List Ob) (K : Res → Option R) : Option R := match sel24 args objs with
  | some l => (schema_rename m l).bind fun r => K ((.tup [(.dat 25 r.1), (.dat 4 (.bool r.2))]), [])
  | none => none
noncomputable def ct36 {R : Type} (m : Nat) (args : List AV) (objs : List Ob) (K : Res → Option R) : Option R := match sel25 args objs with
  | some l => (value_Valid m l).bind fun r => K ((.dat 4 (.bool r)), [])
  | none => none
noncomputable def ct34 {R : Type} (m : Nat) (args : List AV) (objs : List Ob) (K : Res → Option R) : Option R := match sel26 args objs with
  | some l => (value_Depth m l).bind fun r => K ((.dat 3 (.int r)), [])
  | none => none
noncomputable def ct41 {R : Type} (m : Nat) (args : List AV) (objs : List Ob) (K : Res → Option R) : Option R := match sel27 args objs with
  | some l => (ref14_field m l.1 l.2).bind fun r => K ((.tup [(.dat 32 r.1), (.dat 4 (.bool r.2))]), [])
  | none => none
noncomputable def ct42 {R : Type} (m : Nat) (args : List AV) (objs : List Ob) (K : Res → Option R) : Option R := match sel28 args objs with
  | some l => (ref14_check m l.1 l.2.1 l.2.2).bind fun r => K ((.tup [(.dat 3 (.int r.1)), (.dat 33 (.int r.2))]), [])
  | none => none
noncomputable def ct38 {R : Type} (m : Nat) (args : List AV) (objs : List Ob) (K : Res → Option R) : Option R := match sel29 args objs with
  | some l => (ref01_Depth m l).bind fun r => K ((.dat 3 (.int r)), [])
  | none => none
noncomputable def ct39 {R : Type} (m : Nat) (args : List AV) (objs : List Ob) (K : Res → Option R) : Option R := match sel30 args objs with
  | some l => (ref01_Nodes m l).bind fun r => K ((.dat 3 (.int r)), [])
  | none => none
noncomputable def ct40 {R : Type} (m : Nat) (args : List AV) (objs : List Ob) (K : Res → Option R) : Option R := match sel31 args objs with
  | some l => (ref01_formed m l.1 l.2).bind fun r => K ((.dat 4 (.bool r)), [])
  | none => none
noncomputable def ct43 {R : Type} (m : Nat) (args : List AV) (objs : List Ob) (K : Res → Option R) : Option R := match sel32 args objs with
  | some l => (ref04_prefix m l.1 l.2).bind fun r => K ((.dat 4 (.bool r)), [])
  | none => none
noncomputable def ct99 {R : Type} (m : Nat) (args : List AV) (objs : List Ob) (K : Res → Option R) : Option R := match sel33 args objs with
  | some l => (schema_kindOf m l).bind fun r => K ((.dat 3 (.int r)), [])
  | none => none
noncomputable def ct92 {R : Type} (m : Nat) (args : List AV) (objs : List Ob) (K : Res → Option R) : Option R := match sel34 args objs with
  | some l => (schema_isName m l).bind fun r => K ((.dat 4 (.bool r)), [])
  | none => none
noncomputable def ct93 {R : Type} (m : Nat) (args : List AV) (objs : List Ob) (K : Res → Option R) : Option R := match sel35 args objs with
  | some l => (schema_bound m l.1 l.2).bind fun r => K ((.dat 4 (.bool r)), [])
  | none => none
noncomputable def ct62 {R : Type} (m : Nat) (args : List AV) (objs : List Ob) (K : Res → Option R) : Option R := match sel36 args objs with
  | some l => (value_nodes m l.1 l.2).bind fun r => K ((.dat 3 (.int r)), [])
  | none => none
noncomputable def ct56 {R : Type} (m : Nat) (args : List AV) (objs : List Ob) (K : Res → Option R) : Option R := match sel37 args objs with
  | some l => (strconv_Itoa l).bind fun r => K ((.dat 9 (.str r)), [])
  | none => none
noncomputable def ct64 {R : Type} (m : Nat) (args : List AV) (objs : List Ob) (K : Res → Option R) : Option R := match sel38 args objs with
  | some l => (schema_isField m l).bind fun r => K ((.dat 4 (.bool r)), [])
  | none => none
noncomputable def ct65 {R : Type} (m : Nat) (args : List AV) (objs : List Ob) (K : Res → Option R) : Option R := match sel39 args objs with
  | some l => (value_sound m l).bind fun r => K ((.dat 4 (.bool r)), [])
  | none => none
noncomputable def ct63 {R : Type} (m : Nat) (args : List AV) (objs : List Ob) (K : Res → Option R) : Option R := match sel40 args objs with
  | some l => (value_depth m l.1 l.2).bind fun r => K ((.dat 3 (.int r)), [])
  | none => none
noncomputable def ct74 {R : Type} (m : Nat) (args : List AV) (objs : List Ob) (K : Res → Option R) : Option R := match sel41 args objs with
  | some l => (ref14_kinds m l).bind fun r => K ((.dat 3 (.int r)), [])
  | none => none
noncomputable def ct75 {R : Type} (m : Nat) (args : List AV) (objs : List Ob) (K : Res → Option R) : Option R := match sel42 args objs with
  | some l => (ref14_texts m l).bind fun r => K ((.tup [(.dat 28 (.lst r.1)), (.dat 4 (.bool r.2))]), [])
  | none => none
noncomputable def ct76 {R : Type} (m : Nat) (args : List AV) (objs : List Ob) (K : Res → Option R) : Option R := match sel43 args objs with
  | some l => (ref14_props m l).bind fun r => K ((.tup [(.dat 29 (.lst r.1)), (.dat 4 (.bool r.2))]), [])
  | none => none
noncomputable def ct77 {R : Type} (m : Nat) (args : List AV) (objs : List Ob) (K : Res → Option R) : Option R := match sel44 args objs with
  | some l => (ref14_single m l).bind fun r => K ((.dat 33 (.int r)), [])
  | none => none
noncomputable def ct70 {R : Type} (m : Nat) (args : List AV) (objs : List Ob) (K : Res → Option R) : Option R := match sel45 args objs with
  | some l => (ref01_levels m l.1 l.2).bind fun r => K ((.dat 3 (.int r)), [])
  | none => none
noncomputable def ct71 {R : Type} (m : Nat) (args : List AV) (objs : List Ob) (K : Res → Option R) : Option R := match sel46 args objs with
  | some l => (ref01_count m l.1 l.2).bind fun r => K ((.dat 3 (.int r)), [])
  | none => none
noncomputable def ct72 {R : Type} (m : Nat) (args : List AV) (objs : List Ob) (K : Res → Option R) : Option R := match sel47 args objs with
  | some l => (ref01_UTF8 m l).bind fun r => K ((.dat 4 (.bool r)), [])
  | none => none
noncomputable def ct73 {R : Type} (m : Nat) (args : List AV) (objs : List Ob) (K : Res → Option R) : Option R := match sel48 args objs with
  | some l => (ref01_fields m l.1 l.2).bind fun r => K ((.dat 4 (.bool r)), [])
  | none => none
noncomputable def ct94 {R : Type} (m : Nat) (args : List AV) (objs : List Ob) (K : Res → Option R) : Option R := match sel49 args objs with
  | some l => (i49 m l.1 l.2.1 l.2.2).bind fun r => K ((.tup []), [(.box 3 (.dat 3 (.int r.1))), (.box 3 (.dat 3 (.int r.2)))])
  | none => match sel53 args objs with
  | some l => (i53 m l.1 l.2.1 l.2.2).bind fun r => K ((.tup []), [(.box 3 (.dat 3 (.int r.1))), (.box 3 (.dat 3 (.int r.2)))])
  | none => none
noncomputable def ct95 {R : Type} (m : Nat) (args : List AV) (objs : List Ob) (K : Res → Option R) : Option R := match sel50 args objs with
  | some l => (i50 m l.1 l.2.1 l.2.2).bind fun r => K ((.dat 4 (.bool r.1)), [(.box 3 (.dat 3 (.int r.2.1))), (.box 3 (.dat 3 (.int r.2.2)))])
  | none => none
noncomputable def ct97 {R : Type} (m : Nat) (args : List AV) (objs : List Ob) (K : Res → Option R) : Option R := match sel51 args objs with
  | some l => (utf8_ValidString l).bind fun r => K ((.dat 4 (.bool r)), [])
  | none => none
noncomputable def ct98 {R : Type} (m : Nat) (args : List AV) (objs : List Ob) (K : Res → Option R) : Option R := match sel52 args objs with
  | some l => (value_soundFields m l).bind fun r => K ((.dat 4 (.bool r)), [])
  | none => none
noncomputable def ct96 {R : Type} (m : Nat) (args : List AV) (objs : List Ob) (K : Res → Option R) : Option R := match sel54 args objs with
  | some l => (i54 m l.1 l.2.1 l.2.2).bind fun r => K ((.dat 4 (.bool r.1)), [(.box 3 (.dat 3 (.int r.2.1))), (.box 3 (.dat 3 (.int r.2.2)))])
  | none => none
noncomputable def ct104 {R : Type} (m : Nat) (args : List AV) (objs : List Ob) (K : Res → Option R) : Option R := match sel55 args objs with
  | some l => (ref14_kind m l).bind fun r => K ((.dat 3 (.int r)), [])
  | none => none
noncomputable def ct105 {R : Type} (m : Nat) (args : List AV) (objs : List Ob) (K : Res → Option R) : Option R := match sel56 args objs with
  | some l => (ref14_different m l).bind fun r => K ((.dat 4 (.bool r)), [])
  | none => none
noncomputable def ct106 {R : Type} (m : Nat) (args : List AV) (objs : List Ob) (K : Res → Option R) : Option R := match sel57 args objs with
  | some l => (ref14_unused m l.1 l.2).bind fun r => K ((.dat 4 (.bool r)), [])
  | none => none
noncomputable def ct107 {R : Type} (m : Nat) (args : List AV) (objs : List Ob) (K : Res → Option R) : Option R := match sel58 args objs with
  | some l => (ref01_Valid m l).bind fun r => K ((.dat 4 (.bool r)), [])
  | none => none
noncomputable def ct100 {R : Type} (m : Nat) (args : List AV) (objs : List Ob) (K : Res → Option R) : Option R := match sel59 args objs with
  | some l => (ref01_Parts m l).bind fun r => K ((.dat 22 (.lst r)), [])
  | none => none
noncomputable def ct101 {R : Type} (m : Nat) (args : List AV) (objs : List Ob) (K : Res → Option R) : Option R := match sel60 args objs with
  | some l => (ref01_tail m l.1 l.2.1 l.2.2).bind fun r => K ((.dat 4 (.bool r)), [])
  | none => none
noncomputable def ct102 {R : Type} (m : Nat) (args : List AV) (objs : List Ob) (K : Res → Option R) : Option R := match sel61 args objs with
  | some l => (ref01_Name m l).bind fun r => K ((.dat 4 (.bool r)), [])
  | none => none
noncomputable def ct103 {R : Type} (m : Nat) (args : List AV) (objs : List Ob) (K : Res → Option R) : Option R := match sel62 args objs with
  | some l => (ref01_wide m l).bind fun r => K ((.dat 4 (.bool r)), [])
  | none => none
noncomputable def ct116 {R : Type} (m : Nat) (args : List AV) (objs : List Ob) (K : Res → Option R) : Option R := match sel63 args objs with
  | some l => (value_isName m l).bind fun r => K ((.dat 4 (.bool r)), [])
  | none => none
noncomputable def ct {R : Type} (m : Nat) (f : FuncId) (args : List AV) (objs : List Ob) (K : Res → Option R) : Option R :=
  bif Nat.beq f 3 then ct3 m args objs K else
  bif Nat.beq f 6 then ct6 m args objs K else
  bif Nat.beq f 7 then ct7 m args objs K else
  bif Nat.beq f 8 then ct8 m args objs K else
  bif Nat.beq f 9 then ct9 m args objs K else
  bif Nat.beq f 10 then ct10 m args objs K else
  bif Nat.beq f 17 then ct17 m args objs K else
  bif Nat.beq f 22 then ct22 m args objs K else
  bif Nat.beq f 20 then ct20 m args objs K else
  bif Nat.beq f 21 then ct21 m args objs K else
  bif Nat.beq f 24 then ct24 m args objs K else
  bif Nat.beq f 25 then ct25 m args objs K else
  bif Nat.beq f 23 then ct23 m args objs K else
  bif Nat.beq f 28 then ct28 m args objs K else
  bif Nat.beq f 26 then ct26 m args objs K else
  bif Nat.beq f 27 then ct27 m args objs K else
  bif Nat.beq f 37 then ct37 m args objs K else
  bif Nat.beq f 66 then ct66 m args objs K else
  bif Nat.beq f 67 then ct67 m args objs K else
  bif Nat.beq f 68 then ct68 m args objs K else
  bif Nat.beq f 69 then ct69 m args objs K else
  bif Nat.beq f 32 then ct32 m args objs K else
  bif Nat.beq f 61 then ct61 m args objs K else
  bif Nat.beq f 33 then ct33 m args objs K else
  bif Nat.beq f 35 then ct35 m args objs K else
  bif Nat.beq f 36 then ct36 m args objs K else
  bif Nat.beq f 34 then ct34 m args objs K else
  bif Nat.beq f 41 then ct41 m args objs K else
  bif Nat.beq f 42 then ct42 m args objs K else
  bif Nat.beq f 38 then ct38 m args objs K else
  bif Nat.beq f 39 then ct39 m args objs K else
  bif Nat.beq f 40 then ct40 m args objs K else
  bif Nat.beq f 43 then ct43 m args objs K else
  bif Nat.beq f 99 then ct99 m args objs K else
  bif Nat.beq f 92 then ct92 m args objs K else
  bif Nat.beq f 93 then ct93 m args objs K else
  bif Nat.beq f 62 then ct62 m args objs K else
  bif Nat.beq f 56 then ct56 m args objs K else
  bif Nat.beq f 64 then ct64 m args objs K else
  bif Nat.beq f 65 then ct65 m args objs K else
  bif Nat.beq f 63 then ct63 m args objs K else
  bif Nat.beq f 74 then ct74 m args objs K else
  bif Nat.beq f 75 then ct75 m args objs K else
  bif Nat.beq f 76 then ct76 m args objs K else
  bif Nat.beq f 77 then ct77 m args objs K else
  bif Nat.beq f 70 then ct70 m args objs K else
  bif Nat.beq f 71 then ct71 m args objs K else
  bif Nat.beq f 72 then ct72 m args objs K else
  bif Nat.beq f 73 then ct73 m args objs K else
  bif Nat.beq f 94 then ct94 m args objs K else
  bif Nat.beq f 95 then ct95 m args objs K else
  bif Nat.beq f 97 then ct97 m args objs K else
  bif Nat.beq f 98 then ct98 m args objs K else
  bif Nat.beq f 96 then ct96 m args objs K else
  bif Nat.beq f 104 then ct104 m args objs K else
  bif Nat.beq f 105 then ct105 m args objs K else
  bif Nat.beq f 106 then ct106 m args objs K else
  bif Nat.beq f 107 then ct107 m args objs K else
  bif Nat.beq f 100 then ct100 m args objs K else
  bif Nat.beq f 101 then ct101 m args objs K else
  bif Nat.beq f 102 then ct102 m args objs K else
  bif Nat.beq f 103 then ct103 m args objs K else
  bif Nat.beq f 116 then ct116 m args objs K else
  none
end Go.Proofs.YtfneddmmeadacaaGreatDoor
