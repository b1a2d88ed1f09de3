/- Generated: the functions as contracts for their callers. -/
import Derived.Test.YtfneddmmeadacaaDoorSh
import Derived.Test.YtfneddmmeadacaaDoorProg
set_option linter.unusedVariables false
set_option linter.unusedSimpArgs false
namespace Go.Proofs.YtfneddmmeadacaaDoor
open Go.Am
def sel0 (args : List AV) (objs : List Ob) : Option Dt := match args, objs with
  | [.dat T0 x0], [] => bif Nat.beq T0 30 then some x0 else none
  | _, _ => none
theorem sel0_ok {args : List AV} {objs : List Ob} {l : Dt} (h : sel0 args objs = some l) : CnA Tryd.prog args [(.dat 30 l)] ∧ CnOL Tryd.prog objs [] := by
  unfold sel0 at h
  split at h
  · obtain ⟨hc, h2⟩ := bif_some h
    cases h2
    have e0 := beq_eq hc
    subst e0
    exact ⟨(.cons (.of .same rfl rfl) .nil), .nil⟩
  · cases h
def sel1 (args : List AV) (objs : List Ob) : Option (Dt × Int) := match args, objs with
  | [.dat T0 x0, .dat T1 x1], [] => bif (Nat.beq T0 30 && Nat.beq T1 3) then some (x0, x1.toInt) else none
  | _, _ => none
theorem sel1_ok {args : List AV} {objs : List Ob} {l : Dt × Int} (h : sel1 args objs = some l) : CnA Tryd.prog args [(.dat 30 l.1), (.dat 3 (.int l.2))] ∧ CnOL Tryd.prog objs [] := by
  unfold sel1 at h
  split at h
  · obtain ⟨hc, h2⟩ := bif_some h
    cases h2
    have e0 := beq_eq (and_l hc)
    have e1 := beq_eq (and_r hc)
    subst e0 e1
    exact ⟨(.cons (.of .same rfl rfl) (.cons (.of (.dat (.int Tryd.underlying3)) rfl rfl) .nil)), .nil⟩
  · cases h
def sel2 (args : List AV) (objs : List Ob) : Option Unit := match args, objs with
  | [], [] => bif true then some () else none
  | _, _ => none
theorem sel2_ok {args : List AV} {objs : List Ob} {l : Unit} (h : sel2 args objs = some l) : CnA Tryd.prog args [] ∧ CnOL Tryd.prog objs [] := by
  unfold sel2 at h
  split at h
  · obtain ⟨hc, h2⟩ := bif_some h
    cases h2
    exact ⟨.nil, .nil⟩
  · cases h
def sel3 (args : List AV) (objs : List Ob) : Option Dt := match args, objs with
  | [.dat T0 x0], [] => bif Nat.beq T0 30 then some x0 else none
  | _, _ => none
theorem sel3_ok {args : List AV} {objs : List Ob} {l : Dt} (h : sel3 args objs = some l) : CnA Tryd.prog args [(.dat 30 l)] ∧ CnOL Tryd.prog objs [] := by
  unfold sel3 at h
  split at h
  · obtain ⟨hc, h2⟩ := bif_some h
    cases h2
    have e0 := beq_eq hc
    subst e0
    exact ⟨(.cons (.of .same rfl rfl) .nil), .nil⟩
  · cases h
def sel4 (args : List AV) (objs : List Ob) : Option Dt := match args, objs with
  | [.dat T0 x0], [] => bif Nat.beq T0 30 then some x0 else none
  | _, _ => none
theorem sel4_ok {args : List AV} {objs : List Ob} {l : Dt} (h : sel4 args objs = some l) : CnA Tryd.prog args [(.dat 30 l)] ∧ CnOL Tryd.prog objs [] := by
  unfold sel4 at h
  split at h
  · obtain ⟨hc, h2⟩ := bif_some h
    cases h2
    have e0 := beq_eq hc
    subst e0
    exact ⟨(.cons (.of .same rfl rfl) .nil), .nil⟩
  · cases h
def sel5 (args : List AV) (objs : List Ob) : Option (Dt × Int × Int) := match args, objs with
  | [.dat T0 x0, .dat T1 x1, .ptr n2 p2 o2], [.box T3 (.dat T4 x4)] => bif (Nat.beq T0 30 && (Nat.beq T1 3 && (Nat.beq n2 0 && (natsB p2 [] && (Nat.beq o2 0 && (Nat.beq T3 3 && Nat.beq T4 3)))))) then some (x0, x1.toInt, x4.toInt) else none
  | _, _ => none
theorem sel5_ok {args : List AV} {objs : List Ob} {l : Dt × Int × Int} (h : sel5 args objs = some l) : CnA Tryd.prog args [(.dat 30 l.1), (.dat 3 (.int l.2.1)), (.ptr 0 [] 0)] ∧ CnOL Tryd.prog objs [(.box 3 (.dat 3 (.int l.2.2)))] := by
  unfold sel5 at h
  split at h
  · obtain ⟨hc, h2⟩ := bif_some h
    cases h2
    have e0 := beq_eq (and_l hc)
    have e1 := beq_eq (and_l (and_r hc))
    have e2 := beq_eq (and_l (and_r (and_r hc)))
    have e3 := natsB_eq (and_l (and_r (and_r (and_r hc))))
    have e4 := beq_eq (and_l (and_r (and_r (and_r (and_r hc)))))
    have e5 := beq_eq (and_l (and_r (and_r (and_r (and_r (and_r hc))))))
    have e6 := beq_eq (and_r (and_r (and_r (and_r (and_r (and_r hc))))))
    subst e0 e1 e2 e3 e4 e5 e6
    exact ⟨(.cons (.of .same rfl rfl) (.cons (.of (.dat (.int Tryd.underlying3)) rfl rfl) (.cons (.of .same rfl rfl) .nil))), (.cons (.box (.dat (.int Tryd.underlying3))) .nil)⟩
  · cases h
def sel6 (args : List AV) (objs : List Ob) : Option Dt := match args, objs with
  | [.dat T0 x0], [] => bif Nat.beq T0 30 then some x0 else none
  | _, _ => none
theorem sel6_ok {args : List AV} {objs : List Ob} {l : Dt} (h : sel6 args objs = some l) : CnA Tryd.prog args [(.dat 30 l)] ∧ CnOL Tryd.prog objs [] := by
  unfold sel6 at h
  split at h
  · obtain ⟨hc, h2⟩ := bif_some h
    cases h2
    have e0 := beq_eq hc
    subst e0
    exact ⟨(.cons (.of .same rfl rfl) .nil), .nil⟩
  · cases h
def sel7 (args : List AV) (objs : List Ob) : Option (Dt × Int × Int) := match args, objs with
  | [.dat T0 x0, .dat T1 x1, .dat T2 x2], [] => bif (Nat.beq T0 30 && (Nat.beq T1 3 && Nat.beq T2 3)) then some (x0, x1.toInt, x2.toInt) else none
  | _, _ => none
theorem sel7_ok {args : List AV} {objs : List Ob} {l : Dt × Int × Int} (h : sel7 args objs = some l) : CnA Tryd.prog args [(.dat 30 l.1), (.dat 3 (.int l.2.1)), (.dat 3 (.int l.2.2))] ∧ CnOL Tryd.prog objs [] := by
  unfold sel7 at h
  split at h
  · obtain ⟨hc, h2⟩ := bif_some h
    cases h2
    have e0 := beq_eq (and_l hc)
    have e1 := beq_eq (and_l (and_r hc))
    have e2 := beq_eq (and_r (and_r hc))
    subst e0 e1 e2
    exact ⟨(.cons (.of .same rfl rfl) (.cons (.of (.dat (.int Tryd.underlying3)) rfl rfl) (.cons (.of (.dat (.int Tryd.underlying3)) rfl rfl) .nil))), .nil⟩
  · cases h
def sel8 (args : List AV) (objs : List Ob) : Option ByteArray := match args, objs with
  | [.dat T0 x0], [] => bif Nat.beq T0 9 then some x0.toStr else none
  | _, _ => none
theorem sel8_ok {args : List AV} {objs : List Ob} {l : ByteArray} (h : sel8 args objs = some l) : CnA Tryd.prog args [(.dat 9 (.str l))] ∧ CnOL Tryd.prog objs [] := by
  unfold sel8 at h
  split at h
  · obtain ⟨hc, h2⟩ := bif_some h
    cases h2
    have e0 := beq_eq hc
    subst e0
    exact ⟨(.cons (.of (.dat (.str Tryd.underlying9)) rfl rfl) .nil), .nil⟩
  · cases h
def sel9 (args : List AV) (objs : List Ob) : Option (Bool × Dt) := match args, objs with
  | [.dat T0 x0, .dat T1 x1], [] => bif (Nat.beq T0 4 && Nat.beq T1 25) then some (x0.toBool, x1) else none
  | _, _ => none
theorem sel9_ok {args : List AV} {objs : List Ob} {l : Bool × Dt} (h : sel9 args objs = some l) : CnA Tryd.prog args [(.dat 4 (.bool l.1)), (.dat 25 l.2)] ∧ CnOL Tryd.prog objs [] := by
  unfold sel9 at h
  split at h
  · obtain ⟨hc, h2⟩ := bif_some h
    cases h2
    have e0 := beq_eq (and_l hc)
    have e1 := beq_eq (and_r hc)
    subst e0 e1
    exact ⟨(.cons (.of (.dat (.bool Tryd.underlying4)) rfl rfl) (.cons (.of .same rfl rfl) .nil)), .nil⟩
  · cases h
def sel10 (args : List AV) (objs : List Ob) : Option Dt := match args, objs with
  | [.dat T0 x0], [] => bif Nat.beq T0 25 then some x0 else none
  | _, _ => none
theorem sel10_ok {args : List AV} {objs : List Ob} {l : Dt} (h : sel10 args objs = some l) : CnA Tryd.prog args [(.dat 25 l)] ∧ CnOL Tryd.prog objs [] := by
  unfold sel10 at h
  split at h
  · obtain ⟨hc, h2⟩ := bif_some h
    cases h2
    have e0 := beq_eq hc
    subst e0
    exact ⟨(.cons (.of .same rfl rfl) .nil), .nil⟩
  · cases h
def sel11 (args : List AV) (objs : List Ob) : Option Dt := match args, objs with
  | [.dat T0 x0], [] => bif Nat.beq T0 30 then some x0 else none
  | _, _ => none
theorem sel11_ok {args : List AV} {objs : List Ob} {l : Dt} (h : sel11 args objs = some l) : CnA Tryd.prog args [(.dat 30 l)] ∧ CnOL Tryd.prog objs [] := by
  unfold sel11 at h
  split at h
  · obtain ⟨hc, h2⟩ := bif_some h
    cases h2
    have e0 := beq_eq hc
    subst e0
    exact ⟨(.cons (.of .same rfl rfl) .nil), .nil⟩
  · cases h
def sel12 (args : List AV) (objs : List Ob) : Option Dt := match args, objs with
  | [.dat T0 x0], [] => bif Nat.beq T0 25 then some x0 else none
  | _, _ => none
theorem sel12_ok {args : List AV} {objs : List Ob} {l : Dt} (h : sel12 args objs = some l) : CnA Tryd.prog args [(.dat 25 l)] ∧ CnOL Tryd.prog objs [] := by
  unfold sel12 at h
  split at h
  · obtain ⟨hc, h2⟩ := bif_some h
    cases h2
    have e0 := beq_eq hc
    subst e0
    exact ⟨(.cons (.of .same rfl rfl) .nil), .nil⟩
  · cases h
def sel13 (args : List AV) (objs : List Ob) : Option Dt := match args, objs with
  | [.dat T0 x0], [] => bif Nat.beq T0 25 then some x0 else none
  | _, _ => none
theorem sel13_ok {args : List AV} {objs : List Ob} {l : Dt} (h : sel13 args objs = some l) : CnA Tryd.prog args [(.dat 25 l)] ∧ CnOL Tryd.prog objs [] := by
  unfold sel13 at h
  split at h
  · obtain ⟨hc, h2⟩ := bif_some h
    cases h2
    have e0 := beq_eq hc
    subst e0
    exact ⟨(.cons (.of .same rfl rfl) .nil), .nil⟩
  · cases h
def sel14 (args : List AV) (objs : List Ob) : Option Dt := match args, objs with
  | [.dat T0 x0], [] => bif Nat.beq T0 25 then some x0 else none
  | _, _ => none
theorem sel14_ok {args : List AV} {objs : List Ob} {l : Dt} (h : sel14 args objs = some l) : CnA Tryd.prog args [(.dat 25 l)] ∧ CnOL Tryd.prog objs [] := by
  unfold sel14 at h
  split at h
  · obtain ⟨hc, h2⟩ := bif_some h
    cases h2
    have e0 := beq_eq hc
    subst e0
    exact ⟨(.cons (.of .same rfl rfl) .nil), .nil⟩
  · cases h
def sel15 (args : List AV) (objs : List Ob) : Option (List Dt) := match args, objs with
  | [.dat T0 x0], [] => bif Nat.beq T0 26 then some x0.toLst else none
  | _, _ => none
theorem sel15_ok {args : List AV} {objs : List Ob} {l : List Dt} (h : sel15 args objs = some l) : CnA Tryd.prog args [(.dat 26 (.lst l))] ∧ CnOL Tryd.prog objs [] := by
  unfold sel15 at h
  split at h
  · obtain ⟨hc, h2⟩ := bif_some h
    cases h2
    have e0 := beq_eq hc
    subst e0
    exact ⟨(.cons (.of (.dat (.lst Tryd.underlying26)) rfl rfl) .nil), .nil⟩
  · cases h
def sel16 (args : List AV) (objs : List Ob) : Option (Bool × Dt) := match args, objs with
  | [.dat T0 x0, .dat T1 x1], [] => bif (Nat.beq T0 4 && Nat.beq T1 25) then some (x0.toBool, x1) else none
  | _, _ => none
theorem sel16_ok {args : List AV} {objs : List Ob} {l : Bool × Dt} (h : sel16 args objs = some l) : CnA Tryd.prog args [(.dat 4 (.bool l.1)), (.dat 25 l.2)] ∧ CnOL Tryd.prog objs [] := by
  unfold sel16 at h
  split at h
  · obtain ⟨hc, h2⟩ := bif_some h
    cases h2
    have e0 := beq_eq (and_l hc)
    have e1 := beq_eq (and_r hc)
    subst e0 e1
    exact ⟨(.cons (.of (.dat (.bool Tryd.underlying4)) rfl rfl) (.cons (.of .same rfl rfl) .nil)), .nil⟩
  · cases h
def sel17 (args : List AV) (objs : List Ob) : Option Dt := match args, objs with
  | [.dat T0 x0], [] => bif Nat.beq T0 25 then some x0 else none
  | _, _ => none
theorem sel17_ok {args : List AV} {objs : List Ob} {l : Dt} (h : sel17 args objs = some l) : CnA Tryd.prog args [(.dat 25 l)] ∧ CnOL Tryd.prog objs [] := by
  unfold sel17 at h
  split at h
  · obtain ⟨hc, h2⟩ := bif_some h
    cases h2
    have e0 := beq_eq hc
    subst e0
    exact ⟨(.cons (.of .same rfl rfl) .nil), .nil⟩
  · cases h
def sel18 (args : List AV) (objs : List Ob) : Option (Dt × Int) := match args, objs with
  | [.dat T0 x0, .dat T1 x1], [] => bif (Nat.beq T0 25 && Nat.beq T1 3) then some (x0, x1.toInt) else none
  | _, _ => none
theorem sel18_ok {args : List AV} {objs : List Ob} {l : Dt × Int} (h : sel18 args objs = some l) : CnA Tryd.prog args [(.dat 25 l.1), (.dat 3 (.int l.2))] ∧ CnOL Tryd.prog objs [] := by
  unfold sel18 at h
  split at h
  · obtain ⟨hc, h2⟩ := bif_some h
    cases h2
    have e0 := beq_eq (and_l hc)
    have e1 := beq_eq (and_r hc)
    subst e0 e1
    exact ⟨(.cons (.of .same rfl rfl) (.cons (.of (.dat (.int Tryd.underlying3)) rfl rfl) .nil)), .nil⟩
  · cases h
def sel19 (args : List AV) (objs : List Ob) : Option (Dt × Int) := match args, objs with
  | [.dat T0 x0, .dat T1 x1], [] => bif (Nat.beq T0 25 && Nat.beq T1 3) then some (x0, x1.toInt) else none
  | _, _ => none
theorem sel19_ok {args : List AV} {objs : List Ob} {l : Dt × Int} (h : sel19 args objs = some l) : CnA Tryd.prog args [(.dat 25 l.1), (.dat 3 (.int l.2))] ∧ CnOL Tryd.prog objs [] := by
  unfold sel19 at h
  split at h
  · obtain ⟨hc, h2⟩ := bif_some h
    cases h2
    have e0 := beq_eq (and_l hc)
    have e1 := beq_eq (and_r hc)
    subst e0 e1
    exact ⟨(.cons (.of .same rfl rfl) (.cons (.of (.dat (.int Tryd.underlying3)) rfl rfl) .nil)), .nil⟩
  · cases h
def sel20 (args : List AV) (objs : List Ob) : Option ByteArray := match args, objs with
  | [.dat T0 x0], [] => bif Nat.beq T0 9 then some x0.toStr else none
  | _, _ => none
theorem sel20_ok {args : List AV} {objs : List Ob} {l : ByteArray} (h : sel20 args objs = some l) : CnA Tryd.prog args [(.dat 9 (.str l))] ∧ CnOL Tryd.prog objs [] := by
  unfold sel20 at h
  split at h
  · obtain ⟨hc, h2⟩ := bif_some h
    cases h2
    have e0 := beq_eq hc
    subst e0
    exact ⟨(.cons (.of (.dat (.str Tryd.underlying9)) rfl rfl) .nil), .nil⟩
  · cases h
def sel21 (args : List AV) (objs : List Ob) : Option (List Dt) := match args, objs with
  | [.dat T0 x0], [] => bif Nat.beq T0 23 then some x0.toLst else none
  | _, _ => none
theorem sel21_ok {args : List AV} {objs : List Ob} {l : List Dt} (h : sel21 args objs = some l) : CnA Tryd.prog args [(.dat 23 (.lst l))] ∧ CnOL Tryd.prog objs [] := by
  unfold sel21 at h
  split at h
  · obtain ⟨hc, h2⟩ := bif_some h
    cases h2
    have e0 := beq_eq hc
    subst e0
    exact ⟨(.cons (.of (.dat (.lst Tryd.underlying23)) rfl rfl) .nil), .nil⟩
  · cases h
def sel22 (args : List AV) (objs : List Ob) : Option ByteArray := match args, objs with
  | [.dat T0 x0], [] => bif Nat.beq T0 9 then some x0.toStr else none
  | _, _ => none
theorem sel22_ok {args : List AV} {objs : List Ob} {l : ByteArray} (h : sel22 args objs = some l) : CnA Tryd.prog args [(.dat 9 (.str l))] ∧ CnOL Tryd.prog objs [] := by
  unfold sel22 at h
  split at h
  · obtain ⟨hc, h2⟩ := bif_some h
    cases h2
    have e0 := beq_eq hc
    subst e0
    exact ⟨(.cons (.of (.dat (.str Tryd.underlying9)) rfl rfl) .nil), .nil⟩
  · cases h
def sel23 (args : List AV) (objs : List Ob) : Option (Dt × Dt) := match args, objs with
  | [.dat T0 x0, .dat T1 x1], [] => bif (Nat.beq T0 25 && Nat.beq T1 25) then some (x0, x1) else none
  | _, _ => none
theorem sel23_ok {args : List AV} {objs : List Ob} {l : Dt × Dt} (h : sel23 args objs = some l) : CnA Tryd.prog args [(.dat 25 l.1), (.dat 25 l.2)] ∧ CnOL Tryd.prog objs [] := by
  unfold sel23 at h
  split at h
  · obtain ⟨hc, h2⟩ := bif_some h
    cases h2
    have e0 := beq_eq (and_l hc)
    have e1 := beq_eq (and_r hc)
    subst e0 e1
    exact ⟨(.cons (.of .same rfl rfl) (.cons (.of .same rfl rfl) .nil)), .nil⟩
  · cases h
def sel24 (args : List AV) (objs : List Ob) : Option Dt := match args, objs with
  | [.dat T0 x0], [] => bif Nat.beq T0 25 then some x0 else none
  | _, _ => none
theorem sel24_ok {args : List AV} {objs : List Ob} {l : Dt} (h : sel24 args objs = some l) : CnA Tryd.prog args [(.dat 25 l)] ∧ CnOL Tryd.prog objs [] := by
  unfold sel24 at h
  split at h
  · obtain ⟨hc, h2⟩ := bif_some h
    cases h2
    have e0 := beq_eq hc
    subst e0
    exact ⟨(.cons (.of .same rfl rfl) .nil), .nil⟩
  · cases h
def sel25 (args : List AV) (objs : List Ob) : Option Dt := match args, objs with
  | [.dat T0 x0], [] => bif Nat.beq T0 25 then some x0 else none
  | _, _ => none
theorem sel25_ok {args : List AV} {objs : List Ob} {l : Dt} (h : sel25 args objs = some l) : CnA Tryd.prog args [(.dat 25 l)] ∧ CnOL Tryd.prog objs [] := by
  unfold sel25 at h
  split at h
  · obtain ⟨hc, h2⟩ := bif_some h
    cases h2
    have e0 := beq_eq hc
    subst e0
    exact ⟨(.cons (.of .same rfl rfl) .nil), .nil⟩
  · cases h
def sel26 (args : List AV) (objs : List Ob) : Option (Dt × Bool) := match args, objs with
  | [.dat T0 x0, .dat T1 x1], [] => bif (Nat.beq T0 25 && Nat.beq T1 4) then some (x0, x1.toBool) else none
  | _, _ => none
theorem sel26_ok {args : List AV} {objs : List Ob} {l : Dt × Bool} (h : sel26 args objs = some l) : CnA Tryd.prog args [(.dat 25 l.1), (.dat 4 (.bool l.2))] ∧ CnOL Tryd.prog objs [] := by
  unfold sel26 at h
  split at h
  · obtain ⟨hc, h2⟩ := bif_some h
    cases h2
    have e0 := beq_eq (and_l hc)
    have e1 := beq_eq (and_r hc)
    subst e0 e1
    exact ⟨(.cons (.of .same rfl rfl) (.cons (.of (.dat (.bool Tryd.underlying4)) rfl rfl) .nil)), .nil⟩
  · cases h
def sel27 (args : List AV) (objs : List Ob) : Option (Dt × Int × Int) := match args, objs with
  | [.dat T0 x0, .fn T1 [.ptr n2 p2 o2, .ptr n3 p3 o3]], [.box T4 (.dat T5 x5), .box T6 (.dat T7 x7)] => bif (Nat.beq T0 25 && (Nat.beq T1 86 && (Nat.beq n2 0 && (natsB p2 [] && (Nat.beq o2 0 && (Nat.beq n3 1 && (natsB p3 [] && (Nat.beq o3 0 && (Nat.beq T4 3 && (Nat.beq T5 3 && (Nat.beq T6 3 && Nat.beq T7 3))))))))))) then some (x0, x5.toInt, x7.toInt) else none
  | _, _ => none
theorem sel27_ok {args : List AV} {objs : List Ob} {l : Dt × Int × Int} (h : sel27 args objs = some l) : CnA Tryd.prog args [(.dat 25 l.1), (.fn 86 [(.ptr 0 [] 0), (.ptr 1 [] 0)])] ∧ CnOL Tryd.prog objs [(.box 3 (.dat 3 (.int l.2.1))), (.box 3 (.dat 3 (.int l.2.2)))] := by
  unfold sel27 at h
  split at h
  · obtain ⟨hc, h2⟩ := bif_some h
    cases h2
    have e0 := beq_eq (and_l hc)
    have e1 := beq_eq (and_l (and_r hc))
    have e2 := beq_eq (and_l (and_r (and_r hc)))
    have e3 := natsB_eq (and_l (and_r (and_r (and_r hc))))
    have e4 := beq_eq (and_l (and_r (and_r (and_r (and_r hc)))))
    have e5 := beq_eq (and_l (and_r (and_r (and_r (and_r (and_r hc))))))
    have e6 := natsB_eq (and_l (and_r (and_r (and_r (and_r (and_r (and_r hc)))))))
    have e7 := beq_eq (and_l (and_r (and_r (and_r (and_r (and_r (and_r (and_r hc))))))))
    have e8 := beq_eq (and_l (and_r (and_r (and_r (and_r (and_r (and_r (and_r (and_r hc)))))))))
    have e9 := beq_eq (and_l (and_r (and_r (and_r (and_r (and_r (and_r (and_r (and_r (and_r hc))))))))))
    have e10 := beq_eq (and_l (and_r (and_r (and_r (and_r (and_r (and_r (and_r (and_r (and_r (and_r hc)))))))))))
    have e11 := beq_eq (and_r (and_r (and_r (and_r (and_r (and_r (and_r (and_r (and_r (and_r (and_r hc)))))))))))
    subst e0 e1 e2 e3 e4 e5 e6 e7 e8 e9 e10 e11
    exact ⟨(.cons (.of .same rfl rfl) (.cons (.of (.fn (.cons .same (.cons .same .nil))) rfl rfl) .nil)), (.cons (.box (.dat (.int Tryd.underlying3))) (.cons (.box (.dat (.int Tryd.underlying3))) .nil))⟩
  · cases h
def sel28 (args : List AV) (objs : List Ob) : Option (Dt × Int × Int) := match args, objs with
  | [.dat T0 x0, .ptr n1 p1 o1, .ptr n2 p2 o2], [.box T3 (.dat T4 x4), .box T5 (.dat T6 x6)] => bif (Nat.beq T0 25 && (Nat.beq n1 0 && (natsB p1 [] && (Nat.beq o1 0 && (Nat.beq n2 1 && (natsB p2 [] && (Nat.beq o2 0 && (Nat.beq T3 3 && (Nat.beq T4 3 && (Nat.beq T5 3 && Nat.beq T6 3)))))))))) then some (x0, x4.toInt, x6.toInt) else none
  | _, _ => none
theorem sel28_ok {args : List AV} {objs : List Ob} {l : Dt × Int × Int} (h : sel28 args objs = some l) : CnA Tryd.prog args [(.dat 25 l.1), (.ptr 0 [] 0), (.ptr 1 [] 0)] ∧ CnOL Tryd.prog objs [(.box 3 (.dat 3 (.int l.2.1))), (.box 3 (.dat 3 (.int l.2.2)))] := by
  unfold sel28 at h
  split at h
  · obtain ⟨hc, h2⟩ := bif_some h
    cases h2
    have e0 := beq_eq (and_l hc)
    have e1 := beq_eq (and_l (and_r hc))
    have e2 := natsB_eq (and_l (and_r (and_r hc)))
    have e3 := beq_eq (and_l (and_r (and_r (and_r hc))))
    have e4 := beq_eq (and_l (and_r (and_r (and_r (and_r hc)))))
    have e5 := natsB_eq (and_l (and_r (and_r (and_r (and_r (and_r hc))))))
    have e6 := beq_eq (and_l (and_r (and_r (and_r (and_r (and_r (and_r hc)))))))
    have e7 := beq_eq (and_l (and_r (and_r (and_r (and_r (and_r (and_r (and_r hc))))))))
    have e8 := beq_eq (and_l (and_r (and_r (and_r (and_r (and_r (and_r (and_r (and_r hc)))))))))
    have e9 := beq_eq (and_l (and_r (and_r (and_r (and_r (and_r (and_r (and_r (and_r (and_r hc))))))))))
    have e10 := beq_eq (and_r (and_r (and_r (and_r (and_r (and_r (and_r (and_r (and_r (and_r hc))))))))))
    subst e0 e1 e2 e3 e4 e5 e6 e7 e8 e9 e10
    exact ⟨(.cons (.of .same rfl rfl) (.cons (.of .same rfl rfl) (.cons (.of .same rfl rfl) .nil))), (.cons (.box (.dat (.int Tryd.underlying3))) (.cons (.box (.dat (.int Tryd.underlying3))) .nil))⟩
  · cases h
def sel29 (args : List AV) (objs : List Ob) : Option (Dt × Int × Int) := match args, objs with
  | [.dat T0 x0, .fn T1 [.ptr n2 p2 o2, .ptr n3 p3 o3]], [.box T4 (.dat T5 x5), .box T6 (.dat T7 x7)] => bif (Nat.beq T0 25 && (Nat.beq T1 87 && (Nat.beq n2 0 && (natsB p2 [] && (Nat.beq o2 0 && (Nat.beq n3 1 && (natsB p3 [] && (Nat.beq o3 0 && (Nat.beq T4 3 && (Nat.beq T5 3 && (Nat.beq T6 3 && Nat.beq T7 3))))))))))) then some (x0, x5.toInt, x7.toInt) else none
  | _, _ => none
theorem sel29_ok {args : List AV} {objs : List Ob} {l : Dt × Int × Int} (h : sel29 args objs = some l) : CnA Tryd.prog args [(.dat 25 l.1), (.fn 87 [(.ptr 0 [] 0), (.ptr 1 [] 0)])] ∧ CnOL Tryd.prog objs [(.box 3 (.dat 3 (.int l.2.1))), (.box 3 (.dat 3 (.int l.2.2)))] := by
  unfold sel29 at h
  split at h
  · obtain ⟨hc, h2⟩ := bif_some h
    cases h2
    have e0 := beq_eq (and_l hc)
    have e1 := beq_eq (and_l (and_r hc))
    have e2 := beq_eq (and_l (and_r (and_r hc)))
    have e3 := natsB_eq (and_l (and_r (and_r (and_r hc))))
    have e4 := beq_eq (and_l (and_r (and_r (and_r (and_r hc)))))
    have e5 := beq_eq (and_l (and_r (and_r (and_r (and_r (and_r hc))))))
    have e6 := natsB_eq (and_l (and_r (and_r (and_r (and_r (and_r (and_r hc)))))))
    have e7 := beq_eq (and_l (and_r (and_r (and_r (and_r (and_r (and_r (and_r hc))))))))
    have e8 := beq_eq (and_l (and_r (and_r (and_r (and_r (and_r (and_r (and_r (and_r hc)))))))))
    have e9 := beq_eq (and_l (and_r (and_r (and_r (and_r (and_r (and_r (and_r (and_r (and_r hc))))))))))
    have e10 := beq_eq (and_l (and_r (and_r (and_r (and_r (and_r (and_r (and_r (and_r (and_r (and_r hc)))))))))))
    have e11 := beq_eq (and_r (and_r (and_r (and_r (and_r (and_r (and_r (and_r (and_r (and_r (and_r hc)))))))))))
    subst e0 e1 e2 e3 e4 e5 e6 e7 e8 e9 e10 e11
    exact ⟨(.cons (.of .same rfl rfl) (.cons (.of (.fn (.cons .same (.cons .same .nil))) rfl rfl) .nil)), (.cons (.box (.dat (.int Tryd.underlying3))) (.cons (.box (.dat (.int Tryd.underlying3))) .nil))⟩
  · cases h
def sel30 (args : List AV) (objs : List Ob) : Option (Dt × Int × Int) := match args, objs with
  | [.dat T0 x0, .ptr n1 p1 o1, .ptr n2 p2 o2], [.box T3 (.dat T4 x4), .box T5 (.dat T6 x6)] => bif (Nat.beq T0 25 && (Nat.beq n1 0 && (natsB p1 [] && (Nat.beq o1 0 && (Nat.beq n2 1 && (natsB p2 [] && (Nat.beq o2 0 && (Nat.beq T3 3 && (Nat.beq T4 3 && (Nat.beq T5 3 && Nat.beq T6 3)))))))))) then some (x0, x4.toInt, x6.toInt) else none
  | _, _ => none
theorem sel30_ok {args : List AV} {objs : List Ob} {l : Dt × Int × Int} (h : sel30 args objs = some l) : CnA Tryd.prog args [(.dat 25 l.1), (.ptr 0 [] 0), (.ptr 1 [] 0)] ∧ CnOL Tryd.prog objs [(.box 3 (.dat 3 (.int l.2.1))), (.box 3 (.dat 3 (.int l.2.2)))] := by
  unfold sel30 at h
  split at h
  · obtain ⟨hc, h2⟩ := bif_some h
    cases h2
    have e0 := beq_eq (and_l hc)
    have e1 := beq_eq (and_l (and_r hc))
    have e2 := natsB_eq (and_l (and_r (and_r hc)))
    have e3 := beq_eq (and_l (and_r (and_r (and_r hc))))
    have e4 := beq_eq (and_l (and_r (and_r (and_r (and_r hc)))))
    have e5 := natsB_eq (and_l (and_r (and_r (and_r (and_r (and_r hc))))))
    have e6 := beq_eq (and_l (and_r (and_r (and_r (and_r (and_r (and_r hc)))))))
    have e7 := beq_eq (and_l (and_r (and_r (and_r (and_r (and_r (and_r (and_r hc))))))))
    have e8 := beq_eq (and_l (and_r (and_r (and_r (and_r (and_r (and_r (and_r (and_r hc)))))))))
    have e9 := beq_eq (and_l (and_r (and_r (and_r (and_r (and_r (and_r (and_r (and_r (and_r hc))))))))))
    have e10 := beq_eq (and_r (and_r (and_r (and_r (and_r (and_r (and_r (and_r (and_r (and_r hc))))))))))
    subst e0 e1 e2 e3 e4 e5 e6 e7 e8 e9 e10
    exact ⟨(.cons (.of .same rfl rfl) (.cons (.of .same rfl rfl) (.cons (.of .same rfl rfl) .nil))), (.cons (.box (.dat (.int Tryd.underlying3))) (.cons (.box (.dat (.int Tryd.underlying3))) .nil))⟩
  · cases h
def sel31 (args : List AV) (objs : List Ob) : Option ByteArray := match args, objs with
  | [.dat T0 x0], [] => bif Nat.beq T0 9 then some x0.toStr else none
  | _, _ => none
theorem sel31_ok {args : List AV} {objs : List Ob} {l : ByteArray} (h : sel31 args objs = some l) : CnA Tryd.prog args [(.dat 9 (.str l))] ∧ CnOL Tryd.prog objs [] := by
  unfold sel31 at h
  split at h
  · obtain ⟨hc, h2⟩ := bif_some h
    cases h2
    have e0 := beq_eq hc
    subst e0
    exact ⟨(.cons (.of (.dat (.str Tryd.underlying9)) rfl rfl) .nil), .nil⟩
  · cases h
def sel32 (args : List AV) (objs : List Ob) : Option (Dt × Int) := match args, objs with
  | [.dat T0 x0, .dat T1 x1], [] => bif (Nat.beq T0 25 && Nat.beq T1 3) then some (x0, x1.toInt) else none
  | _, _ => none
theorem sel32_ok {args : List AV} {objs : List Ob} {l : Dt × Int} (h : sel32 args objs = some l) : CnA Tryd.prog args [(.dat 25 l.1), (.dat 3 (.int l.2))] ∧ CnOL Tryd.prog objs [] := by
  unfold sel32 at h
  split at h
  · obtain ⟨hc, h2⟩ := bif_some h
    cases h2
    have e0 := beq_eq (and_l hc)
    have e1 := beq_eq (and_r hc)
    subst e0 e1
    exact ⟨(.cons (.of .same rfl rfl) (.cons (.of (.dat (.int Tryd.underlying3)) rfl rfl) .nil)), .nil⟩
  · cases h
def sel33 (args : List AV) (objs : List Ob) : Option (Dt × Int) := match args, objs with
  | [.dat T0 x0, .dat T1 x1], [] => bif (Nat.beq T0 25 && Nat.beq T1 3) then some (x0, x1.toInt) else none
  | _, _ => none
theorem sel33_ok {args : List AV} {objs : List Ob} {l : Dt × Int} (h : sel33 args objs = some l) : CnA Tryd.prog args [(.dat 25 l.1), (.dat 3 (.int l.2))] ∧ CnOL Tryd.prog objs [] := by
  unfold sel33 at h
  split at h
  · obtain ⟨hc, h2⟩ := bif_some h
    cases h2
    have e0 := beq_eq (and_l hc)
    have e1 := beq_eq (and_r hc)
    subst e0 e1
    exact ⟨(.cons (.of .same rfl rfl) (.cons (.of (.dat (.int Tryd.underlying3)) rfl rfl) .nil)), .nil⟩
  · cases h
def sel34 (args : List AV) (objs : List Ob) : Option ByteArray := match args, objs with
  | [.dat T0 x0], [] => bif Nat.beq T0 9 then some x0.toStr else none
  | _, _ => none
theorem sel34_ok {args : List AV} {objs : List Ob} {l : ByteArray} (h : sel34 args objs = some l) : CnA Tryd.prog args [(.dat 9 (.str l))] ∧ CnOL Tryd.prog objs [] := by
  unfold sel34 at h
  split at h
  · obtain ⟨hc, h2⟩ := bif_some h
    cases h2
    have e0 := beq_eq hc
    subst e0
    exact ⟨(.cons (.of (.dat (.str Tryd.underlying9)) rfl rfl) .nil), .nil⟩
  · cases h
def sel35 (args : List AV) (objs : List Ob) : Option (Dt × Bool) := match args, objs with
  | [.dat T0 x0, .dat T1 x1], [] => bif (Nat.beq T0 25 && Nat.beq T1 4) then some (x0, x1.toBool) else none
  | _, _ => none
theorem sel35_ok {args : List AV} {objs : List Ob} {l : Dt × Bool} (h : sel35 args objs = some l) : CnA Tryd.prog args [(.dat 25 l.1), (.dat 4 (.bool l.2))] ∧ CnOL Tryd.prog objs [] := by
  unfold sel35 at h
  split at h
  · obtain ⟨hc, h2⟩ := bif_some h
    cases h2
    have e0 := beq_eq (and_l hc)
    have e1 := beq_eq (and_r hc)
    subst e0 e1
    exact ⟨(.cons (.of .same rfl rfl) (.cons (.of (.dat (.bool Tryd.underlying4)) rfl rfl) .nil)), .nil⟩
  · cases h
def sel36 (args : List AV) (objs : List Ob) : Option Dt := match args, objs with
  | [.dat T0 x0], [] => bif Nat.beq T0 25 then some x0 else none
  | _, _ => none
theorem sel36_ok {args : List AV} {objs : List Ob} {l : Dt} (h : sel36 args objs = some l) : CnA Tryd.prog args [(.dat 25 l)] ∧ CnOL Tryd.prog objs [] := by
  unfold sel36 at h
  split at h
  · obtain ⟨hc, h2⟩ := bif_some h
    cases h2
    have e0 := beq_eq hc
    subst e0
    exact ⟨(.cons (.of .same rfl rfl) .nil), .nil⟩
  · cases h
def sel37 (args : List AV) (objs : List Ob) : Option (ByteArray × Int × Int) := match args, objs with
  | [.dat T0 x0, .dat T1 x1, .dat T2 x2], [] => bif (Nat.beq T0 9 && (Nat.beq T1 3 && Nat.beq T2 3)) then some (x0.toStr, x1.toInt, x2.toInt) else none
  | _, _ => none
theorem sel37_ok {args : List AV} {objs : List Ob} {l : ByteArray × Int × Int} (h : sel37 args objs = some l) : CnA Tryd.prog args [(.dat 9 (.str l.1)), (.dat 3 (.int l.2.1)), (.dat 3 (.int l.2.2))] ∧ CnOL Tryd.prog objs [] := by
  unfold sel37 at h
  split at h
  · obtain ⟨hc, h2⟩ := bif_some h
    cases h2
    have e0 := beq_eq (and_l hc)
    have e1 := beq_eq (and_l (and_r hc))
    have e2 := beq_eq (and_r (and_r hc))
    subst e0 e1 e2
    exact ⟨(.cons (.of (.dat (.str Tryd.underlying9)) rfl rfl) (.cons (.of (.dat (.int Tryd.underlying3)) rfl rfl) (.cons (.of (.dat (.int Tryd.underlying3)) rfl rfl) .nil))), .nil⟩
  · cases h
def sel38 (args : List AV) (objs : List Ob) : Option ByteArray := match args, objs with
  | [.dat T0 x0], [] => bif Nat.beq T0 9 then some x0.toStr else none
  | _, _ => none
theorem sel38_ok {args : List AV} {objs : List Ob} {l : ByteArray} (h : sel38 args objs = some l) : CnA Tryd.prog args [(.dat 9 (.str l))] ∧ CnOL Tryd.prog objs [] := by
  unfold sel38 at h
  split at h
  · obtain ⟨hc, h2⟩ := bif_some h
    cases h2
    have e0 := beq_eq hc
    subst e0
    exact ⟨(.cons (.of (.dat (.str Tryd.underlying9)) rfl rfl) .nil), .nil⟩
  · cases h
noncomputable def ct3 {R : Type} (m : Nat) (args : List AV) (objs : List Ob) (K : Res → Option R) : Option R := match sel0 args objs with
  | some l => (law14_SchemaValid m l).bind fun r => K ((.dat 4 (.bool r)), [])
  | none => none
noncomputable def ct7 {R : Type} (m : Nat) (args : List AV) (objs : List Ob) (K : Res → Option R) : Option R := match sel1 args objs with
  | some l => (ref14_Count m l.1 l.2).bind fun r => K ((.dat 3 (.int r)), [])
  | none => none
noncomputable def ct8 {R : Type} (m : Nat) (args : List AV) (objs : List Ob) (K : Res → Option R) : Option R := match sel2 args objs with
  | some l => (awakeC).bind fun r => K ((.dat 4 (.bool r)), [])
  | none => none
noncomputable def ct9 {R : Type} (m : Nat) (args : List AV) (objs : List Ob) (K : Res → Option R) : Option R := match sel3 args objs with
  | some l => (schema_Valid m l).bind fun r => K ((.dat 33 (.int r)), [])
  | none => none
noncomputable def ct10 {R : Type} (m : Nat) (args : List AV) (objs : List Ob) (K : Res → Option R) : Option R := match sel4 args objs with
  | some l => (ref14_Valid m l).bind fun r => K ((.dat 33 (.int r)), [])
  | none => none
noncomputable def ct20 {R : Type} (m : Nat) (args : List AV) (objs : List Ob) (K : Res → Option R) : Option R := match sel5 args objs with
  | some l => (i5 m l.1 l.2.1 l.2.2).bind fun r => K ((.dat 33 (.int r.1)), [(.box 3 (.dat 3 (.int r.2)))])
  | none => none
noncomputable def ct31 {R : Type} (m : Nat) (args : List AV) (objs : List Ob) (K : Res → Option R) : Option R := match sel6 args objs with
  | some l => (schema_checkOne m l).bind fun r => K ((.dat 33 (.int r)), [])
  | none => none
noncomputable def ct21 {R : Type} (m : Nat) (args : List AV) (objs : List Ob) (K : Res → Option R) : Option R := match sel7 args objs with
  | some l => (ref14_check m l.1 l.2.1 l.2.2).bind fun r => K ((.tup [(.dat 3 (.int r.1)), (.dat 33 (.int r.2))]), [])
  | none => none
noncomputable def ct56 {R : Type} (m : Nat) (args : List AV) (objs : List Ob) (K : Res → Option R) : Option R := match sel8 args objs with
  | some l => (schema_isName m l).bind fun r => K ((.dat 4 (.bool r)), [])
  | none => none
noncomputable def ct57 {R : Type} (m : Nat) (args : List AV) (objs : List Ob) (K : Res → Option R) : Option R := match sel9 args objs with
  | some l => (schema_bound m l.1 l.2).bind fun r => K ((.dat 4 (.bool r)), [])
  | none => none
noncomputable def ct54 {R : Type} (m : Nat) (args : List AV) (objs : List Ob) (K : Res → Option R) : Option R := match sel10 args objs with
  | some l => (value_Valid m l).bind fun r => K ((.dat 4 (.bool r)), [])
  | none => none
noncomputable def ct32 {R : Type} (m : Nat) (args : List AV) (objs : List Ob) (K : Res → Option R) : Option R := match sel11 args objs with
  | some l => (ref14_single m l).bind fun r => K ((.dat 33 (.int r)), [])
  | none => none
noncomputable def ct51 {R : Type} (m : Nat) (args : List AV) (objs : List Ob) (K : Res → Option R) : Option R := match sel12 args objs with
  | some l => (value_Nodes m l).bind fun r => K ((.dat 3 (.int r)), [])
  | none => none
noncomputable def ct52 {R : Type} (m : Nat) (args : List AV) (objs : List Ob) (K : Res → Option R) : Option R := match sel13 args objs with
  | some l => (value_Depth m l).bind fun r => K ((.dat 3 (.int r)), [])
  | none => none
noncomputable def ct75 {R : Type} (m : Nat) (args : List AV) (objs : List Ob) (K : Res → Option R) : Option R := match sel14 args objs with
  | some l => (value_sound m l).bind fun r => K ((.dat 4 (.bool r)), [])
  | none => none
noncomputable def ct58 {R : Type} (m : Nat) (args : List AV) (objs : List Ob) (K : Res → Option R) : Option R := match sel15 args objs with
  | some l => (ref14_different m l).bind fun r => K ((.dat 4 (.bool r)), [])
  | none => none
noncomputable def ct59 {R : Type} (m : Nat) (args : List AV) (objs : List Ob) (K : Res → Option R) : Option R := match sel16 args objs with
  | some l => (ref14_unused m l.1 l.2).bind fun r => K ((.dat 4 (.bool r)), [])
  | none => none
noncomputable def ct12 {R : Type} (m : Nat) (args : List AV) (objs : List Ob) (K : Res → Option R) : Option R := match sel17 args objs with
  | some l => (ref01_Valid m l).bind fun r => K ((.dat 4 (.bool r)), [])
  | none => none
noncomputable def ct72 {R : Type} (m : Nat) (args : List AV) (objs : List Ob) (K : Res → Option R) : Option R := match sel18 args objs with
  | some l => (value_nodes m l.1 l.2).bind fun r => K ((.dat 3 (.int r)), [])
  | none => none
noncomputable def ct73 {R : Type} (m : Nat) (args : List AV) (objs : List Ob) (K : Res → Option R) : Option R := match sel19 args objs with
  | some l => (value_depth m l.1 l.2).bind fun r => K ((.dat 3 (.int r)), [])
  | none => none
noncomputable def ct88 {R : Type} (m : Nat) (args : List AV) (objs : List Ob) (K : Res → Option R) : Option R := match sel20 args objs with
  | some l => (utf8_ValidString l).bind fun r => K ((.dat 4 (.bool r)), [])
  | none => none
noncomputable def ct89 {R : Type} (m : Nat) (args : List AV) (objs : List Ob) (K : Res → Option R) : Option R := match sel21 args objs with
  | some l => (value_soundFields m l).bind fun r => K ((.dat 4 (.bool r)), [])
  | none => none
noncomputable def ct62 {R : Type} (m : Nat) (args : List AV) (objs : List Ob) (K : Res → Option R) : Option R := match sel22 args objs with
  | some l => (ref01_Name m l).bind fun r => K ((.dat 4 (.bool r)), [])
  | none => none
noncomputable def ct80 {R : Type} (m : Nat) (args : List AV) (objs : List Ob) (K : Res → Option R) : Option R := match sel23 args objs with
  | some l => (ref01_Same m l.1 l.2).bind fun r => K ((.dat 4 (.bool r)), [])
  | none => none
noncomputable def ct22 {R : Type} (m : Nat) (args : List AV) (objs : List Ob) (K : Res → Option R) : Option R := match sel24 args objs with
  | some l => (ref01_Depth m l).bind fun r => K ((.dat 3 (.int r)), [])
  | none => none
noncomputable def ct23 {R : Type} (m : Nat) (args : List AV) (objs : List Ob) (K : Res → Option R) : Option R := match sel25 args objs with
  | some l => (ref01_Nodes m l).bind fun r => K ((.dat 3 (.int r)), [])
  | none => none
noncomputable def ct24 {R : Type} (m : Nat) (args : List AV) (objs : List Ob) (K : Res → Option R) : Option R := match sel26 args objs with
  | some l => (ref01_formed m l.1 l.2).bind fun r => K ((.dat 4 (.bool r)), [])
  | none => none
noncomputable def ct85 {R : Type} (m : Nat) (args : List AV) (objs : List Ob) (K : Res → Option R) : Option R := match sel27 args objs with
  | some l => (i27 m l.1 l.2.1 l.2.2).bind fun r => K ((.tup []), [(.box 3 (.dat 3 (.int r.1))), (.box 3 (.dat 3 (.int r.2)))])
  | none => match sel29 args objs with
  | some l => (i29 m l.1 l.2.1 l.2.2).bind fun r => K ((.tup []), [(.box 3 (.dat 3 (.int r.1))), (.box 3 (.dat 3 (.int r.2)))])
  | none => none
noncomputable def ct86 {R : Type} (m : Nat) (args : List AV) (objs : List Ob) (K : Res → Option R) : Option R := match sel28 args objs with
  | some l => (i28 m l.1 l.2.1 l.2.2).bind fun r => K ((.dat 4 (.bool r.1)), [(.box 3 (.dat 3 (.int r.2.1))), (.box 3 (.dat 3 (.int r.2.2)))])
  | none => none
noncomputable def ct87 {R : Type} (m : Nat) (args : List AV) (objs : List Ob) (K : Res → Option R) : Option R := match sel30 args objs with
  | some l => (i30 m l.1 l.2.1 l.2.2).bind fun r => K ((.dat 4 (.bool r.1)), [(.box 3 (.dat 3 (.int r.2.1))), (.box 3 (.dat 3 (.int r.2.2)))])
  | none => none
noncomputable def ct99 {R : Type} (m : Nat) (args : List AV) (objs : List Ob) (K : Res → Option R) : Option R := match sel31 args objs with
  | some l => (value_isName m l).bind fun r => K ((.dat 4 (.bool r)), [])
  | none => none
noncomputable def ct33 {R : Type} (m : Nat) (args : List AV) (objs : List Ob) (K : Res → Option R) : Option R := match sel32 args objs with
  | some l => (ref01_levels m l.1 l.2).bind fun r => K ((.dat 3 (.int r)), [])
  | none => none
noncomputable def ct34 {R : Type} (m : Nat) (args : List AV) (objs : List Ob) (K : Res → Option R) : Option R := match sel33 args objs with
  | some l => (ref01_count m l.1 l.2).bind fun r => K ((.dat 3 (.int r)), [])
  | none => none
noncomputable def ct35 {R : Type} (m : Nat) (args : List AV) (objs : List Ob) (K : Res → Option R) : Option R := match sel34 args objs with
  | some l => (ref01_UTF8 m l).bind fun r => K ((.dat 4 (.bool r)), [])
  | none => none
noncomputable def ct36 {R : Type} (m : Nat) (args : List AV) (objs : List Ob) (K : Res → Option R) : Option R := match sel35 args objs with
  | some l => (ref01_fields m l.1 l.2).bind fun r => K ((.dat 4 (.bool r)), [])
  | none => none
noncomputable def ct60 {R : Type} (m : Nat) (args : List AV) (objs : List Ob) (K : Res → Option R) : Option R := match sel36 args objs with
  | some l => (ref01_Parts m l).bind fun r => K ((.dat 22 (.lst r)), [])
  | none => none
noncomputable def ct61 {R : Type} (m : Nat) (args : List AV) (objs : List Ob) (K : Res → Option R) : Option R := match sel37 args objs with
  | some l => (ref01_tail m l.1 l.2.1 l.2.2).bind fun r => K ((.dat 4 (.bool r)), [])
  | none => none
noncomputable def ct63 {R : Type} (m : Nat) (args : List AV) (objs : List Ob) (K : Res → Option R) : Option R := match sel38 args objs with
  | some l => (ref01_wide m l).bind fun r => K ((.dat 4 (.bool r)), [])
  | none => none
noncomputable def ct {R : Type} (m : Nat) (f : FuncId) (args : List AV) (objs : List Ob) (K : Res → Option R) : Option R :=
  bif Nat.beq f 3 then ct3 m args objs K else
  bif Nat.beq f 7 then ct7 m args objs K else
  bif Nat.beq f 8 then ct8 m args objs K else
  bif Nat.beq f 9 then ct9 m args objs K else
  bif Nat.beq f 10 then ct10 m args objs K else
  bif Nat.beq f 20 then ct20 m args objs K else
  bif Nat.beq f 31 then ct31 m args objs K else
  bif Nat.beq f 21 then ct21 m args objs K else
  bif Nat.beq f 56 then ct56 m args objs K else
  bif Nat.beq f 57 then ct57 m args objs K else
  bif Nat.beq f 54 then ct54 m args objs K else
  bif Nat.beq f 32 then ct32 m args objs K else
  bif Nat.beq f 51 then ct51 m args objs K else
  bif Nat.beq f 52 then ct52 m args objs K else
  bif Nat.beq f 75 then ct75 m args objs K else
  bif Nat.beq f 58 then ct58 m args objs K else
  bif Nat.beq f 59 then ct59 m args objs K else
  bif Nat.beq f 12 then ct12 m args objs K else
  bif Nat.beq f 72 then ct72 m args objs K else
  bif Nat.beq f 73 then ct73 m args objs K else
  bif Nat.beq f 88 then ct88 m args objs K else
  bif Nat.beq f 89 then ct89 m args objs K else
  bif Nat.beq f 62 then ct62 m args objs K else
  bif Nat.beq f 80 then ct80 m args objs K else
  bif Nat.beq f 22 then ct22 m args objs K else
  bif Nat.beq f 23 then ct23 m args objs K else
  bif Nat.beq f 24 then ct24 m args objs K else
  bif Nat.beq f 85 then ct85 m args objs K else
  bif Nat.beq f 86 then ct86 m args objs K else
  bif Nat.beq f 87 then ct87 m args objs K else
  bif Nat.beq f 99 then ct99 m args objs K else
  bif Nat.beq f 33 then ct33 m args objs K else
  bif Nat.beq f 34 then ct34 m args objs K else
  bif Nat.beq f 35 then ct35 m args objs K else
  bif Nat.beq f 36 then ct36 m args objs K else
  bif Nat.beq f 60 then ct60 m args objs K else
  bif Nat.beq f 61 then ct61 m args objs K else
  bif Nat.beq f 63 then ct63 m args objs K else
  none
end Go.Proofs.YtfneddmmeadacaaDoor
