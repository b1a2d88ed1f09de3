/- Generated: the functions as contracts for their callers. -/
import Derived.Test.YtmejbpmceflcjaaGreatDoorSh
import Derived.Test.YtmejbpmceflcjaaGreatDoorProg
set_option linter.unusedVariables false
set_option linter.unusedSimpArgs false
namespace Go.Proofs.YtmejbpmceflcjaaGreatDoor
open Go.Am
def sel0 (args : List AV) (objs : List Ob) : Option Dt := match args, objs with
  | [.dat T0 x0], [] => bif Nat.beq T0 25 then some x0 else none
  | _, _ => none
theorem sel0_ok {args : List AV} {objs : List Ob} {l : Dt} (h : sel0 args objs = some l) : CnA Tryz.prog args [(.dat 25 l)] ∧ CnOL Tryz.prog objs [] := by
  unfold sel0 at h
  split at h
  · obtain ⟨hc, h2⟩ := bif_some h
    cases h2
    have e0 := beq_eq hc
    subst e0
    exact ⟨(.cons (.of .same rfl rfl) .nil), .nil⟩
  · cases h
def sel1 (args : List AV) (objs : List Ob) : Option (Dt × Int) := match args, objs with
  | [.dat T0 x0, .dat T1 x1], [] => bif (Nat.beq T0 25 && Nat.beq T1 3) then some (x0, x1.toInt) else none
  | _, _ => none
theorem sel1_ok {args : List AV} {objs : List Ob} {l : Dt × Int} (h : sel1 args objs = some l) : CnA Tryz.prog args [(.dat 25 l.1), (.dat 3 (.int l.2))] ∧ CnOL Tryz.prog objs [] := by
  unfold sel1 at h
  split at h
  · obtain ⟨hc, h2⟩ := bif_some h
    cases h2
    have e0 := beq_eq (and_l hc)
    have e1 := beq_eq (and_r hc)
    subst e0 e1
    exact ⟨(.cons (.of .same rfl rfl) (.cons (.of (.dat (.int Tryz.underlying3)) rfl rfl) .nil)), .nil⟩
  · cases h
def sel2 (args : List AV) (objs : List Ob) : Option Unit := match args, objs with
  | [], [] => bif true then some () else none
  | _, _ => none
theorem sel2_ok {args : List AV} {objs : List Ob} {l : Unit} (h : sel2 args objs = some l) : CnA Tryz.prog args [] ∧ CnOL Tryz.prog objs [] := by
  unfold sel2 at h
  split at h
  · obtain ⟨hc, h2⟩ := bif_some h
    cases h2
    exact ⟨.nil, .nil⟩
  · cases h
def sel5 (args : List AV) (objs : List Ob) : Option (Dt × Int × Int) := match args, objs with
  | [.dat T0 x0, .dat T1 x1, .dat T2 x2], [] => bif (Nat.beq T0 25 && (Nat.beq T1 3 && Nat.beq T2 3)) then some (x0, x1.toInt, x2.toInt) else none
  | _, _ => none
theorem sel5_ok {args : List AV} {objs : List Ob} {l : Dt × Int × Int} (h : sel5 args objs = some l) : CnA Tryz.prog args [(.dat 25 l.1), (.dat 3 (.int l.2.1)), (.dat 3 (.int l.2.2))] ∧ CnOL Tryz.prog objs [] := by
  unfold sel5 at h
  split at h
  · obtain ⟨hc, h2⟩ := bif_some h
    cases h2
    have e0 := beq_eq (and_l hc)
    have e1 := beq_eq (and_l (and_r hc))
    have e2 := beq_eq (and_r (and_r hc))
    subst e0 e1 e2
    exact ⟨(.cons (.of .same rfl rfl) (.cons (.of (.dat (.int Tryz.underlying3)) rfl rfl) (.cons (.of (.dat (.int Tryz.underlying3)) rfl rfl) .nil))), .nil⟩
  · cases h
def sel7 (args : List AV) (objs : List Ob) : Option (Dt × List Dt) := match args, objs with
  | [.row n0, .dat T1 x1], [.row T2 x2] => bif (Nat.beq n0 0 && (Nat.beq T1 25 && Nat.beq T2 40)) then some (x1, x2) else none
  | _, _ => none
theorem sel7_ok {args : List AV} {objs : List Ob} {l : Dt × List Dt} (h : sel7 args objs = some l) : CnA Tryz.prog args [(.row 0), (.dat 25 l.1)] ∧ CnOL Tryz.prog objs [(.row 40 l.2)] := by
  unfold sel7 at h
  split at h
  · obtain ⟨hc, h2⟩ := bif_some h
    cases h2
    have e0 := beq_eq (and_l hc)
    have e1 := beq_eq (and_l (and_r hc))
    have e2 := beq_eq (and_r (and_r hc))
    subst e0 e1 e2
    exact ⟨(.cons (.of .same rfl rfl) (.cons (.of .same rfl rfl) .nil)), (.cons .same .nil)⟩
  · cases h
def sel8 (args : List AV) (objs : List Ob) : Option (Bool × List Dt) := match args, objs with
  | [.row n0, .dat T1 x1], [.row T2 x2] => bif (Nat.beq n0 0 && (Nat.beq T1 4 && Nat.beq T2 40)) then some (x1.toBool, x2) else none
  | _, _ => none
theorem sel8_ok {args : List AV} {objs : List Ob} {l : Bool × List Dt} (h : sel8 args objs = some l) : CnA Tryz.prog args [(.row 0), (.dat 4 (.bool l.1))] ∧ CnOL Tryz.prog objs [(.row 40 l.2)] := by
  unfold sel8 at h
  split at h
  · obtain ⟨hc, h2⟩ := bif_some h
    cases h2
    have e0 := beq_eq (and_l hc)
    have e1 := beq_eq (and_l (and_r hc))
    have e2 := beq_eq (and_r (and_r hc))
    subst e0 e1 e2
    exact ⟨(.cons (.of .same rfl rfl) (.cons (.of (.dat (.bool Tryz.underlying4)) rfl rfl) .nil)), (.cons .same .nil)⟩
  · cases h
def sel10 (args : List AV) (objs : List Ob) : Option (Int × Int × List Dt) := match args, objs with
  | [.row n0, .dat T1 x1, .dat T2 x2], [.row T3 x3] => bif (Nat.beq n0 0 && (Nat.beq T1 3 && (Nat.beq T2 3 && Nat.beq T3 40))) then some (x1.toInt, x2.toInt, x3) else none
  | _, _ => none
theorem sel10_ok {args : List AV} {objs : List Ob} {l : Int × Int × List Dt} (h : sel10 args objs = some l) : CnA Tryz.prog args [(.row 0), (.dat 3 (.int l.1)), (.dat 3 (.int l.2.1))] ∧ CnOL Tryz.prog objs [(.row 40 l.2.2)] := by
  unfold sel10 at h
  split at h
  · obtain ⟨hc, h2⟩ := bif_some h
    cases h2
    have e0 := beq_eq (and_l hc)
    have e1 := beq_eq (and_l (and_r hc))
    have e2 := beq_eq (and_l (and_r (and_r hc)))
    have e3 := beq_eq (and_r (and_r (and_r hc)))
    subst e0 e1 e2 e3
    exact ⟨(.cons (.of .same rfl rfl) (.cons (.of (.dat (.int Tryz.underlying3)) rfl rfl) (.cons (.of (.dat (.int Tryz.underlying3)) rfl rfl) .nil))), (.cons .same .nil)⟩
  · cases h
def sel11 (args : List AV) (objs : List Ob) : Option ByteArray := match args, objs with
  | [.dat T0 x0], [] => bif Nat.beq T0 9 then some x0.toStr else none
  | _, _ => none
theorem sel11_ok {args : List AV} {objs : List Ob} {l : ByteArray} (h : sel11 args objs = some l) : CnA Tryz.prog args [(.dat 9 (.str l))] ∧ CnOL Tryz.prog objs [] := by
  unfold sel11 at h
  split at h
  · obtain ⟨hc, h2⟩ := bif_some h
    cases h2
    have e0 := beq_eq hc
    subst e0
    exact ⟨(.cons (.of (.dat (.str Tryz.underlying9)) rfl rfl) .nil), .nil⟩
  · cases h
def sel12 (args : List AV) (objs : List Ob) : Option (ByteArray × List Dt) := match args, objs with
  | [.row n0, .dat T1 x1], [.row T2 x2] => bif (Nat.beq n0 0 && (Nat.beq T1 9 && Nat.beq T2 40)) then some (x1.toStr, x2) else none
  | _, _ => none
theorem sel12_ok {args : List AV} {objs : List Ob} {l : ByteArray × List Dt} (h : sel12 args objs = some l) : CnA Tryz.prog args [(.row 0), (.dat 9 (.str l.1))] ∧ CnOL Tryz.prog objs [(.row 40 l.2)] := by
  unfold sel12 at h
  split at h
  · obtain ⟨hc, h2⟩ := bif_some h
    cases h2
    have e0 := beq_eq (and_l hc)
    have e1 := beq_eq (and_l (and_r hc))
    have e2 := beq_eq (and_r (and_r hc))
    subst e0 e1 e2
    exact ⟨(.cons (.of .same rfl rfl) (.cons (.of (.dat (.str Tryz.underlying9)) rfl rfl) .nil)), (.cons .same .nil)⟩
  · cases h
def sel13 (args : List AV) (objs : List Ob) : Option (List Dt × List Dt) := match args, objs with
  | [.row n0, .dat T1 x1], [.row T2 x2] => bif (Nat.beq n0 0 && (Nat.beq T1 22 && Nat.beq T2 40)) then some (x1.toLst, x2) else none
  | _, _ => none
theorem sel13_ok {args : List AV} {objs : List Ob} {l : List Dt × List Dt} (h : sel13 args objs = some l) : CnA Tryz.prog args [(.row 0), (.dat 22 (.lst l.1))] ∧ CnOL Tryz.prog objs [(.row 40 l.2)] := by
  unfold sel13 at h
  split at h
  · obtain ⟨hc, h2⟩ := bif_some h
    cases h2
    have e0 := beq_eq (and_l hc)
    have e1 := beq_eq (and_l (and_r hc))
    have e2 := beq_eq (and_r (and_r hc))
    subst e0 e1 e2
    exact ⟨(.cons (.of .same rfl rfl) (.cons (.of (.dat (.lst Tryz.underlying22)) rfl rfl) .nil)), (.cons .same .nil)⟩
  · cases h
def sel14 (args : List AV) (objs : List Ob) : Option (List Dt × List Dt) := match args, objs with
  | [.row n0, .dat T1 x1], [.row T2 x2] => bif (Nat.beq n0 0 && (Nat.beq T1 23 && Nat.beq T2 40)) then some (x1.toLst, x2) else none
  | _, _ => none
theorem sel14_ok {args : List AV} {objs : List Ob} {l : List Dt × List Dt} (h : sel14 args objs = some l) : CnA Tryz.prog args [(.row 0), (.dat 23 (.lst l.1))] ∧ CnOL Tryz.prog objs [(.row 40 l.2)] := by
  unfold sel14 at h
  split at h
  · obtain ⟨hc, h2⟩ := bif_some h
    cases h2
    have e0 := beq_eq (and_l hc)
    have e1 := beq_eq (and_l (and_r hc))
    have e2 := beq_eq (and_r (and_r hc))
    subst e0 e1 e2
    exact ⟨(.cons (.of .same rfl rfl) (.cons (.of (.dat (.lst Tryz.underlying23)) rfl rfl) .nil)), (.cons .same .nil)⟩
  · cases h
def sel15 (args : List AV) (objs : List Ob) : Option (List Dt) := match args, objs with
  | [.dat T0 x0], [] => bif Nat.beq T0 23 then some x0.toLst else none
  | _, _ => none
theorem sel15_ok {args : List AV} {objs : List Ob} {l : List Dt} (h : sel15 args objs = some l) : CnA Tryz.prog args [(.dat 23 (.lst l))] ∧ CnOL Tryz.prog objs [] := by
  unfold sel15 at h
  split at h
  · obtain ⟨hc, h2⟩ := bif_some h
    cases h2
    have e0 := beq_eq hc
    subst e0
    exact ⟨(.cons (.of (.dat (.lst Tryz.underlying23)) rfl rfl) .nil), .nil⟩
  · cases h
def sel28 (args : List AV) (objs : List Ob) : Option Int := match args, objs with
  | [.dat T0 x0], [] => bif Nat.beq T0 3 then some x0.toInt else none
  | _, _ => none
theorem sel28_ok {args : List AV} {objs : List Ob} {l : Int} (h : sel28 args objs = some l) : CnA Tryz.prog args [(.dat 3 (.int l))] ∧ CnOL Tryz.prog objs [] := by
  unfold sel28 at h
  split at h
  · obtain ⟨hc, h2⟩ := bif_some h
    cases h2
    have e0 := beq_eq hc
    subst e0
    exact ⟨(.cons (.of (.dat (.int Tryz.underlying3)) rfl rfl) .nil), .nil⟩
  · cases h
def sel42 (args : List AV) (objs : List Ob) : Option (Dt × Int × Int) := match args, objs with
  | [.dat T0 x0, .fn T1 [.ptr n2 p2 o2, .ptr n3 p3 o3]], [.box T4 (.dat T5 x5), .box T6 (.dat T7 x7)] => bif (Nat.beq T0 25 && (Nat.beq T1 80 && (Nat.beq n2 0 && (natsB p2 [] && (Nat.beq o2 0 && (Nat.beq n3 1 && (natsB p3 [] && (Nat.beq o3 0 && (Nat.beq T4 3 && (Nat.beq T5 3 && (Nat.beq T6 3 && Nat.beq T7 3))))))))))) then some (x0, x5.toInt, x7.toInt) else none
  | _, _ => none
theorem sel42_ok {args : List AV} {objs : List Ob} {l : Dt × Int × Int} (h : sel42 args objs = some l) : CnA Tryz.prog args [(.dat 25 l.1), (.fn 80 [(.ptr 0 [] 0), (.ptr 1 [] 0)])] ∧ CnOL Tryz.prog objs [(.box 3 (.dat 3 (.int l.2.1))), (.box 3 (.dat 3 (.int l.2.2)))] := by
  unfold sel42 at h
  split at h
  · obtain ⟨hc, h2⟩ := bif_some h
    cases h2
    have e0 := beq_eq (and_l hc)
    have e1 := beq_eq (and_l (and_r hc))
    have e2 := beq_eq (and_l (and_r (and_r hc)))
    have e3 := natsB_eq (and_l (and_r (and_r (and_r hc))))
    have e4 := beq_eq (and_l (and_r (and_r (and_r (and_r hc)))))
    have e5 := beq_eq (and_l (and_r (and_r (and_r (and_r (and_r hc))))))
    have e6 := natsB_eq (and_l (and_r (and_r (and_r (and_r (and_r (and_r hc)))))))
    have e7 := beq_eq (and_l (and_r (and_r (and_r (and_r (and_r (and_r (and_r hc))))))))
    have e8 := beq_eq (and_l (and_r (and_r (and_r (and_r (and_r (and_r (and_r (and_r hc)))))))))
    have e9 := beq_eq (and_l (and_r (and_r (and_r (and_r (and_r (and_r (and_r (and_r (and_r hc))))))))))
    have e10 := beq_eq (and_l (and_r (and_r (and_r (and_r (and_r (and_r (and_r (and_r (and_r (and_r hc)))))))))))
    have e11 := beq_eq (and_r (and_r (and_r (and_r (and_r (and_r (and_r (and_r (and_r (and_r (and_r hc)))))))))))
    subst e0 e1 e2 e3 e4 e5 e6 e7 e8 e9 e10 e11
    exact ⟨(.cons (.of .same rfl rfl) (.cons (.of (.fn (.cons .same (.cons .same .nil))) rfl rfl) .nil)), (.cons (.box (.dat (.int Tryz.underlying3))) (.cons (.box (.dat (.int Tryz.underlying3))) .nil))⟩
  · cases h
def sel43 (args : List AV) (objs : List Ob) : Option (Dt × Int × Int) := match args, objs with
  | [.dat T0 x0, .ptr n1 p1 o1, .ptr n2 p2 o2], [.box T3 (.dat T4 x4), .box T5 (.dat T6 x6)] => bif (Nat.beq T0 25 && (Nat.beq n1 0 && (natsB p1 [] && (Nat.beq o1 0 && (Nat.beq n2 1 && (natsB p2 [] && (Nat.beq o2 0 && (Nat.beq T3 3 && (Nat.beq T4 3 && (Nat.beq T5 3 && Nat.beq T6 3)))))))))) then some (x0, x4.toInt, x6.toInt) else none
  | _, _ => none
theorem sel43_ok {args : List AV} {objs : List Ob} {l : Dt × Int × Int} (h : sel43 args objs = some l) : CnA Tryz.prog args [(.dat 25 l.1), (.ptr 0 [] 0), (.ptr 1 [] 0)] ∧ CnOL Tryz.prog objs [(.box 3 (.dat 3 (.int l.2.1))), (.box 3 (.dat 3 (.int l.2.2)))] := by
  unfold sel43 at h
  split at h
  · obtain ⟨hc, h2⟩ := bif_some h
    cases h2
    have e0 := beq_eq (and_l hc)
    have e1 := beq_eq (and_l (and_r hc))
    have e2 := natsB_eq (and_l (and_r (and_r hc)))
    have e3 := beq_eq (and_l (and_r (and_r (and_r hc))))
    have e4 := beq_eq (and_l (and_r (and_r (and_r (and_r hc)))))
    have e5 := natsB_eq (and_l (and_r (and_r (and_r (and_r (and_r hc))))))
    have e6 := beq_eq (and_l (and_r (and_r (and_r (and_r (and_r (and_r hc)))))))
    have e7 := beq_eq (and_l (and_r (and_r (and_r (and_r (and_r (and_r (and_r hc))))))))
    have e8 := beq_eq (and_l (and_r (and_r (and_r (and_r (and_r (and_r (and_r (and_r hc)))))))))
    have e9 := beq_eq (and_l (and_r (and_r (and_r (and_r (and_r (and_r (and_r (and_r (and_r hc))))))))))
    have e10 := beq_eq (and_r (and_r (and_r (and_r (and_r (and_r (and_r (and_r (and_r (and_r hc))))))))))
    subst e0 e1 e2 e3 e4 e5 e6 e7 e8 e9 e10
    exact ⟨(.cons (.of .same rfl rfl) (.cons (.of .same rfl rfl) (.cons (.of .same rfl rfl) .nil))), (.cons (.box (.dat (.int Tryz.underlying3))) (.cons (.box (.dat (.int Tryz.underlying3))) .nil))⟩
  · cases h
def sel46 (args : List AV) (objs : List Ob) : Option (Dt × Int × Int) := match args, objs with
  | [.dat T0 x0, .fn T1 [.ptr n2 p2 o2, .ptr n3 p3 o3]], [.box T4 (.dat T5 x5), .box T6 (.dat T7 x7)] => bif (Nat.beq T0 25 && (Nat.beq T1 81 && (Nat.beq n2 0 && (natsB p2 [] && (Nat.beq o2 0 && (Nat.beq n3 1 && (natsB p3 [] && (Nat.beq o3 0 && (Nat.beq T4 3 && (Nat.beq T5 3 && (Nat.beq T6 3 && Nat.beq T7 3))))))))))) then some (x0, x5.toInt, x7.toInt) else none
  | _, _ => none
theorem sel46_ok {args : List AV} {objs : List Ob} {l : Dt × Int × Int} (h : sel46 args objs = some l) : CnA Tryz.prog args [(.dat 25 l.1), (.fn 81 [(.ptr 0 [] 0), (.ptr 1 [] 0)])] ∧ CnOL Tryz.prog objs [(.box 3 (.dat 3 (.int l.2.1))), (.box 3 (.dat 3 (.int l.2.2)))] := by
  unfold sel46 at h
  split at h
  · obtain ⟨hc, h2⟩ := bif_some h
    cases h2
    have e0 := beq_eq (and_l hc)
    have e1 := beq_eq (and_l (and_r hc))
    have e2 := beq_eq (and_l (and_r (and_r hc)))
    have e3 := natsB_eq (and_l (and_r (and_r (and_r hc))))
    have e4 := beq_eq (and_l (and_r (and_r (and_r (and_r hc)))))
    have e5 := beq_eq (and_l (and_r (and_r (and_r (and_r (and_r hc))))))
    have e6 := natsB_eq (and_l (and_r (and_r (and_r (and_r (and_r (and_r hc)))))))
    have e7 := beq_eq (and_l (and_r (and_r (and_r (and_r (and_r (and_r (and_r hc))))))))
    have e8 := beq_eq (and_l (and_r (and_r (and_r (and_r (and_r (and_r (and_r (and_r hc)))))))))
    have e9 := beq_eq (and_l (and_r (and_r (and_r (and_r (and_r (and_r (and_r (and_r (and_r hc))))))))))
    have e10 := beq_eq (and_l (and_r (and_r (and_r (and_r (and_r (and_r (and_r (and_r (and_r (and_r hc)))))))))))
    have e11 := beq_eq (and_r (and_r (and_r (and_r (and_r (and_r (and_r (and_r (and_r (and_r (and_r hc)))))))))))
    subst e0 e1 e2 e3 e4 e5 e6 e7 e8 e9 e10 e11
    exact ⟨(.cons (.of .same rfl rfl) (.cons (.of (.fn (.cons .same (.cons .same .nil))) rfl rfl) .nil)), (.cons (.box (.dat (.int Tryz.underlying3))) (.cons (.box (.dat (.int Tryz.underlying3))) .nil))⟩
  · cases h
def sel49 (args : List AV) (objs : List Ob) : Option (Dt × Bool) := match args, objs with
  | [.dat T0 x0, .dat T1 x1], [] => bif (Nat.beq T0 25 && Nat.beq T1 4) then some (x0, x1.toBool) else none
  | _, _ => none
theorem sel49_ok {args : List AV} {objs : List Ob} {l : Dt × Bool} (h : sel49 args objs = some l) : CnA Tryz.prog args [(.dat 25 l.1), (.dat 4 (.bool l.2))] ∧ CnOL Tryz.prog objs [] := by
  unfold sel49 at h
  split at h
  · obtain ⟨hc, h2⟩ := bif_some h
    cases h2
    have e0 := beq_eq (and_l hc)
    have e1 := beq_eq (and_r hc)
    subst e0 e1
    exact ⟨(.cons (.of .same rfl rfl) (.cons (.of (.dat (.bool Tryz.underlying4)) rfl rfl) .nil)), .nil⟩
  · cases h
def sel50 (args : List AV) (objs : List Ob) : Option Int := match args, objs with
  | [.dat T0 x0], [] => bif Nat.beq T0 5 then some x0.toInt else none
  | _, _ => none
theorem sel50_ok {args : List AV} {objs : List Ob} {l : Int} (h : sel50 args objs = some l) : CnA Tryz.prog args [(.dat 5 (.int l))] ∧ CnOL Tryz.prog objs [] := by
  unfold sel50 at h
  split at h
  · obtain ⟨hc, h2⟩ := bif_some h
    cases h2
    have e0 := beq_eq hc
    subst e0
    exact ⟨(.cons (.of (.dat (.int Tryz.underlying5)) rfl rfl) .nil), .nil⟩
  · cases h
def sel54 (args : List AV) (objs : List Ob) : Option (ByteArray × Int × Int) := match args, objs with
  | [.dat T0 x0, .dat T1 x1, .dat T2 x2], [] => bif (Nat.beq T0 9 && (Nat.beq T1 3 && Nat.beq T2 3)) then some (x0.toStr, x1.toInt, x2.toInt) else none
  | _, _ => none
theorem sel54_ok {args : List AV} {objs : List Ob} {l : ByteArray × Int × Int} (h : sel54 args objs = some l) : CnA Tryz.prog args [(.dat 9 (.str l.1)), (.dat 3 (.int l.2.1)), (.dat 3 (.int l.2.2))] ∧ CnOL Tryz.prog objs [] := by
  unfold sel54 at h
  split at h
  · obtain ⟨hc, h2⟩ := bif_some h
    cases h2
    have e0 := beq_eq (and_l hc)
    have e1 := beq_eq (and_l (and_r hc))
    have e2 := beq_eq (and_r (and_r hc))
    subst e0 e1 e2
    exact ⟨(.cons (.of (.dat (.str Tryz.underlying9)) rfl rfl) (.cons (.of (.dat (.int Tryz.underlying3)) rfl rfl) (.cons (.of (.dat (.int Tryz.underlying3)) rfl rfl) .nil))), .nil⟩
  · cases h
noncomputable def ct3 {R : Type} (m : Nat) (args : List AV) (objs : List Ob) (K : Res → Option R) : Option R := match sel0 args objs with
  | some l => (law05_NotationPrints m l).bind fun r => K ((.dat 4 (.bool r)), [])
  | none => none
noncomputable def ct5 {R : Type} (m : Nat) (args : List AV) (objs : List Ob) (K : Res → Option R) : Option R := match sel1 args objs with
  | some l => (ref02_Few m l.1 l.2).bind fun r => K ((.dat 4 (.bool r)), [])
  | none => none
noncomputable def ct6 {R : Type} (m : Nat) (args : List AV) (objs : List Ob) (K : Res → Option R) : Option R := match sel2 args objs with
  | some l => (awakeC).bind fun r => K ((.dat 4 (.bool r)), [])
  | none => none
noncomputable def ct7 {R : Type} (m : Nat) (args : List AV) (objs : List Ob) (K : Res → Option R) : Option R := match sel0 args objs with
  | some l => (notation_Print m l).bind fun r => K ((.tup [(.dat 9 (.str r.1)), (.dat 28 (.int r.2))]), [])
  | none => none
noncomputable def ct8 {R : Type} (m : Nat) (args : List AV) (objs : List Ob) (K : Res → Option R) : Option R := match sel0 args objs with
  | some l => (ref05_Print m l).bind fun r => K ((.tup [(.dat 9 (.str r.1)), (.dat 28 (.int r.2))]), [])
  | none => none
noncomputable def ct12 {R : Type} (m : Nat) (args : List AV) (objs : List Ob) (K : Res → Option R) : Option R := match sel5 args objs with
  | some l => (ref02_count m l.1 l.2.1 l.2.2).bind fun r => K ((.dat 3 (.int r)), [])
  | none => none
noncomputable def ct14 {R : Type} (m : Nat) (args : List AV) (objs : List Ob) (K : Res → Option R) : Option R := match sel0 args objs with
  | some l => (notation_wellFormed m l).bind fun r => K ((.dat 4 (.bool r)), [])
  | none => none
noncomputable def ct15 {R : Type} (m : Nat) (args : List AV) (objs : List Ob) (K : Res → Option R) : Option R := match sel7 args objs with
  | some l => (i7 m l.1 l.2).bind fun r => K ((.tup [(.row 1), (.dat 28 (.int r.1))]), [.gone, (.row 40 r.2)])
  | none => none
noncomputable def ct30 {R : Type} (m : Nat) (args : List AV) (objs : List Ob) (K : Res → Option R) : Option R := match sel8 args objs with
  | some l => (i8 m l.1 l.2).bind fun r => K ((.row 1), [.gone, (.row 40 r)])
  | none => none
noncomputable def ct60 {R : Type} (m : Nat) (args : List AV) (objs : List Ob) (K : Res → Option R) : Option R := match sel8 args objs with
  | some l => (i9 m l.1 l.2).bind fun r => K ((.row 1), [.gone, (.row 40 r)])
  | none => none
noncomputable def ct31 {R : Type} (m : Nat) (args : List AV) (objs : List Ob) (K : Res → Option R) : Option R := match sel10 args objs with
  | some l => (strconv_AppendInt l.1 l.2.1 l.2.2).bind fun r => K ((.row 1), [.gone, (.row 40 r)])
  | none => none
noncomputable def ct13 {R : Type} (m : Nat) (args : List AV) (objs : List Ob) (K : Res → Option R) : Option R := match sel11 args objs with
  | some l => (notation_Quote m l).bind fun r => K ((.dat 9 (.str r)), [])
  | none => none
noncomputable def ct32 {R : Type} (m : Nat) (args : List AV) (objs : List Ob) (K : Res → Option R) : Option R := match sel12 args objs with
  | some l => (i12 m l.1 l.2).bind fun r => K ((.row 1), [.gone, (.row 40 r)])
  | none => none
noncomputable def ct33 {R : Type} (m : Nat) (args : List AV) (objs : List Ob) (K : Res → Option R) : Option R := match sel13 args objs with
  | some l => (i13 m l.1 l.2).bind fun r => K ((.tup [(.row 1), (.dat 28 (.int r.1))]), [.gone, (.row 40 r.2)])
  | none => none
noncomputable def ct34 {R : Type} (m : Nat) (args : List AV) (objs : List Ob) (K : Res → Option R) : Option R := match sel14 args objs with
  | some l => (i14 m l.1 l.2).bind fun r => K ((.tup [(.row 1), (.dat 28 (.int r.1))]), [.gone, (.row 40 r.2)])
  | none => none
noncomputable def ct62 {R : Type} (m : Nat) (args : List AV) (objs : List Ob) (K : Res → Option R) : Option R := match sel15 args objs with
  | some l => (notation_special m l).bind fun r => K ((.tup [(.dat 25 r.1), (.dat 4 (.bool r.2))]), [])
  | none => none
noncomputable def ct16 {R : Type} (m : Nat) (args : List AV) (objs : List Ob) (K : Res → Option R) : Option R := match sel0 args objs with
  | some l => (ref05_WellFormed m l).bind fun r => K ((.dat 4 (.bool r)), [])
  | none => none
noncomputable def ct17 {R : Type} (m : Nat) (args : List AV) (objs : List Ob) (K : Res → Option R) : Option R := match sel0 args objs with
  | some l => (ref05_printable m l).bind fun r => K ((.dat 28 (.int r)), [])
  | none => none
noncomputable def ct18 {R : Type} (m : Nat) (args : List AV) (objs : List Ob) (K : Res → Option R) : Option R := match sel0 args objs with
  | some l => (ref05_text m l).bind fun r => K ((.dat 9 (.str r)), [])
  | none => none
noncomputable def ct26 {R : Type} (m : Nat) (args : List AV) (objs : List Ob) (K : Res → Option R) : Option R := match sel0 args objs with
  | some l => (value_Nodes m l).bind fun r => K ((.dat 3 (.int r)), [])
  | none => none
noncomputable def ct28 {R : Type} (m : Nat) (args : List AV) (objs : List Ob) (K : Res → Option R) : Option R := match sel0 args objs with
  | some l => (notation_rename m l).bind fun r => K ((.tup [(.dat 25 r.1), (.dat 4 (.bool r.2))]), [])
  | none => none
noncomputable def ct29 {R : Type} (m : Nat) (args : List AV) (objs : List Ob) (K : Res → Option R) : Option R := match sel0 args objs with
  | some l => (value_Valid m l).bind fun r => K ((.dat 4 (.bool r)), [])
  | none => none
noncomputable def ct27 {R : Type} (m : Nat) (args : List AV) (objs : List Ob) (K : Res → Option R) : Option R := match sel0 args objs with
  | some l => (value_Depth m l).bind fun r => K ((.dat 3 (.int r)), [])
  | none => none
noncomputable def ct85 {R : Type} (m : Nat) (args : List AV) (objs : List Ob) (K : Res → Option R) : Option R := match sel0 args objs with
  | some l => (notation_fromHex m l).bind fun r => K ((.tup [(.dat 9 (.str r.1)), (.dat 4 (.bool r.2))]), [])
  | none => none
noncomputable def ct35 {R : Type} (m : Nat) (args : List AV) (objs : List Ob) (K : Res → Option R) : Option R := match sel0 args objs with
  | some l => (ref01_Depth m l).bind fun r => K ((.dat 3 (.int r)), [])
  | none => none
noncomputable def ct36 {R : Type} (m : Nat) (args : List AV) (objs : List Ob) (K : Res → Option R) : Option R := match sel0 args objs with
  | some l => (ref01_Nodes m l).bind fun r => K ((.dat 3 (.int r)), [])
  | none => none
noncomputable def ct37 {R : Type} (m : Nat) (args : List AV) (objs : List Ob) (K : Res → Option R) : Option R := match sel0 args objs with
  | some l => (ref05_formed m l).bind fun r => K ((.dat 4 (.bool r)), [])
  | none => none
noncomputable def ct38 {R : Type} (m : Nat) (args : List AV) (objs : List Ob) (K : Res → Option R) : Option R := match sel15 args objs with
  | some l => (ref05_special m l).bind fun r => K ((.tup [(.dat 25 r.1), (.dat 4 (.bool r.2))]), [])
  | none => none
noncomputable def ct39 {R : Type} (m : Nat) (args : List AV) (objs : List Ob) (K : Res → Option R) : Option R := match sel28 args objs with
  | some l => (ref05_Decimal m l).bind fun r => K ((.dat 9 (.str r)), [])
  | none => none
noncomputable def ct40 {R : Type} (m : Nat) (args : List AV) (objs : List Ob) (K : Res → Option R) : Option R := match sel11 args objs with
  | some l => (ref05_Quote m l).bind fun r => K ((.dat 9 (.str r)), [])
  | none => none
noncomputable def ct41 {R : Type} (m : Nat) (args : List AV) (objs : List Ob) (K : Res → Option R) : Option R := match sel11 args objs with
  | some l => (ref05_hex m l).bind fun r => K ((.dat 9 (.str r)), [])
  | none => none
noncomputable def ct55 {R : Type} (m : Nat) (args : List AV) (objs : List Ob) (K : Res → Option R) : Option R := match sel1 args objs with
  | some l => (value_nodes m l.1 l.2).bind fun r => K ((.dat 3 (.int r)), [])
  | none => none
noncomputable def ct58 {R : Type} (m : Nat) (args : List AV) (objs : List Ob) (K : Res → Option R) : Option R := match sel28 args objs with
  | some l => (strconv_Itoa l).bind fun r => K ((.dat 9 (.str r)), [])
  | none => none
noncomputable def ct57 {R : Type} (m : Nat) (args : List AV) (objs : List Ob) (K : Res → Option R) : Option R := match sel11 args objs with
  | some l => (notation_isField m l).bind fun r => K ((.dat 4 (.bool r)), [])
  | none => none
noncomputable def ct59 {R : Type} (m : Nat) (args : List AV) (objs : List Ob) (K : Res → Option R) : Option R := match sel0 args objs with
  | some l => (value_sound m l).bind fun r => K ((.dat 4 (.bool r)), [])
  | none => none
noncomputable def ct56 {R : Type} (m : Nat) (args : List AV) (objs : List Ob) (K : Res → Option R) : Option R := match sel1 args objs with
  | some l => (value_depth m l.1 l.2).bind fun r => K ((.dat 3 (.int r)), [])
  | none => none
noncomputable def ct63 {R : Type} (m : Nat) (args : List AV) (objs : List Ob) (K : Res → Option R) : Option R := match sel1 args objs with
  | some l => (ref01_levels m l.1 l.2).bind fun r => K ((.dat 3 (.int r)), [])
  | none => none
noncomputable def ct64 {R : Type} (m : Nat) (args : List AV) (objs : List Ob) (K : Res → Option R) : Option R := match sel1 args objs with
  | some l => (ref01_count m l.1 l.2).bind fun r => K ((.dat 3 (.int r)), [])
  | none => none
noncomputable def ct66 {R : Type} (m : Nat) (args : List AV) (objs : List Ob) (K : Res → Option R) : Option R := match sel11 args objs with
  | some l => (ref05_Label m l).bind fun r => K ((.dat 4 (.bool r)), [])
  | none => none
noncomputable def ct65 {R : Type} (m : Nat) (args : List AV) (objs : List Ob) (K : Res → Option R) : Option R := match sel0 args objs with
  | some l => (ref01_Valid m l).bind fun r => K ((.dat 4 (.bool r)), [])
  | none => none
noncomputable def ct67 {R : Type} (m : Nat) (args : List AV) (objs : List Ob) (K : Res → Option R) : Option R := match sel11 args objs with
  | some l => (ref05_unhex m l).bind fun r => K ((.tup [(.dat 9 (.str r.1)), (.dat 4 (.bool r.2))]), [])
  | none => none
noncomputable def ct68 {R : Type} (m : Nat) (args : List AV) (objs : List Ob) (K : Res → Option R) : Option R := match sel28 args objs with
  | some l => (ref05_digit m l).bind fun r => K ((.dat 9 (.str r)), [])
  | none => none
noncomputable def ct79 {R : Type} (m : Nat) (args : List AV) (objs : List Ob) (K : Res → Option R) : Option R := match sel42 args objs with
  | some l => (i42 m l.1 l.2.1 l.2.2).bind fun r => K ((.tup []), [(.box 3 (.dat 3 (.int r.1))), (.box 3 (.dat 3 (.int r.2)))])
  | none => match sel46 args objs with
  | some l => (i46 m l.1 l.2.1 l.2.2).bind fun r => K ((.tup []), [(.box 3 (.dat 3 (.int r.1))), (.box 3 (.dat 3 (.int r.2)))])
  | none => none
noncomputable def ct80 {R : Type} (m : Nat) (args : List AV) (objs : List Ob) (K : Res → Option R) : Option R := match sel43 args objs with
  | some l => (i43 m l.1 l.2.1 l.2.2).bind fun r => K ((.dat 4 (.bool r.1)), [(.box 3 (.dat 3 (.int r.2.1))), (.box 3 (.dat 3 (.int r.2.2)))])
  | none => none
noncomputable def ct70 {R : Type} (m : Nat) (args : List AV) (objs : List Ob) (K : Res → Option R) : Option R := match sel11 args objs with
  | some l => (utf8_ValidString l).bind fun r => K ((.dat 4 (.bool r)), [])
  | none => none
noncomputable def ct83 {R : Type} (m : Nat) (args : List AV) (objs : List Ob) (K : Res → Option R) : Option R := match sel15 args objs with
  | some l => (value_soundFields m l).bind fun r => K ((.dat 4 (.bool r)), [])
  | none => none
noncomputable def ct81 {R : Type} (m : Nat) (args : List AV) (objs : List Ob) (K : Res → Option R) : Option R := match sel43 args objs with
  | some l => (i47 m l.1 l.2.1 l.2.2).bind fun r => K ((.dat 4 (.bool r.1)), [(.box 3 (.dat 3 (.int r.2.1))), (.box 3 (.dat 3 (.int r.2.2)))])
  | none => none
noncomputable def ct86 {R : Type} (m : Nat) (args : List AV) (objs : List Ob) (K : Res → Option R) : Option R := match sel0 args objs with
  | some l => (ref01_Parts m l).bind fun r => K ((.dat 22 (.lst r)), [])
  | none => none
noncomputable def ct87 {R : Type} (m : Nat) (args : List AV) (objs : List Ob) (K : Res → Option R) : Option R := match sel49 args objs with
  | some l => (ref01_formed m l.1 l.2).bind fun r => K ((.dat 4 (.bool r)), [])
  | none => none
noncomputable def ct88 {R : Type} (m : Nat) (args : List AV) (objs : List Ob) (K : Res → Option R) : Option R := match sel50 args objs with
  | some l => (ref05_place m l).bind fun r => K ((.dat 3 (.int r)), [])
  | none => none
noncomputable def ct96 {R : Type} (m : Nat) (args : List AV) (objs : List Ob) (K : Res → Option R) : Option R := match sel11 args objs with
  | some l => (value_isName m l).bind fun r => K ((.dat 4 (.bool r)), [])
  | none => none
noncomputable def ct101 {R : Type} (m : Nat) (args : List AV) (objs : List Ob) (K : Res → Option R) : Option R := match sel11 args objs with
  | some l => (ref01_UTF8 m l).bind fun r => K ((.dat 4 (.bool r)), [])
  | none => none
noncomputable def ct102 {R : Type} (m : Nat) (args : List AV) (objs : List Ob) (K : Res → Option R) : Option R := match sel49 args objs with
  | some l => (ref01_fields m l.1 l.2).bind fun r => K ((.dat 4 (.bool r)), [])
  | none => none
noncomputable def ct116 {R : Type} (m : Nat) (args : List AV) (objs : List Ob) (K : Res → Option R) : Option R := match sel54 args objs with
  | some l => (ref01_tail m l.1 l.2.1 l.2.2).bind fun r => K ((.dat 4 (.bool r)), [])
  | none => none
noncomputable def ct117 {R : Type} (m : Nat) (args : List AV) (objs : List Ob) (K : Res → Option R) : Option R := match sel11 args objs with
  | some l => (ref01_Name m l).bind fun r => K ((.dat 4 (.bool r)), [])
  | none => none
noncomputable def ct118 {R : Type} (m : Nat) (args : List AV) (objs : List Ob) (K : Res → Option R) : Option R := match sel11 args objs with
  | some l => (ref01_wide m l).bind fun r => K ((.dat 4 (.bool r)), [])
  | none => none
-- decoders
noncomputable def d5 (q : Res) : Option Int := match q with
  | (.dat T0 x0, []) => bif Nat.beq T0 3 then some x0.toInt else none
  | _ => none
theorem d5_sim {b : Res} {r : Int} (h : d5 b = some r) : Sim Tryz.prog b ((.dat 3 (.int r)), []) := by
  unfold d5 at h
  split at h
  · obtain ⟨hc, h2⟩ := bif_some h
    cases h2
    have e0 := beq_eq hc
    subst e0
    exact Sim.of (.of (.dat (.int Tryz.underlying3)) rfl rfl) .nil
  · cases h
noncomputable def d1 (q : Res) : Option Bool := match q with
  | (.dat T0 x0, []) => bif Nat.beq T0 4 then some x0.toBool else none
  | _ => none
theorem d1_sim {b : Res} {r : Bool} (h : d1 b = some r) : Sim Tryz.prog b ((.dat 4 (.bool r)), []) := by
  unfold d1 at h
  split at h
  · obtain ⟨hc, h2⟩ := bif_some h
    cases h2
    have e0 := beq_eq hc
    subst e0
    exact Sim.of (.of (.dat (.bool Tryz.underlying4)) rfl rfl) .nil
  · cases h
noncomputable def d9 (q : Res) : Option (List Dt) := match q with
  | (.row n0, [.gone, .row T1 x1]) => bif (Nat.beq n0 1 && Nat.beq T1 40) then some x1 else none
  | _ => none
theorem d9_sim {b : Res} {r : List Dt} (h : d9 b = some r) : Sim Tryz.prog b ((.row 1), [.gone, (.row 40 r)]) := by
  unfold d9 at h
  split at h
  · obtain ⟨hc, h2⟩ := bif_some h
    cases h2
    have e0 := beq_eq (and_l hc)
    have e1 := beq_eq (and_r hc)
    subst e0 e1
    exact Sim.of (.of .same rfl rfl) (.cons .same (.cons .same .nil))
  · cases h
noncomputable def d11 (q : Res) : Option ByteArray := match q with
  | (.dat T0 x0, []) => bif Nat.beq T0 9 then some x0.toStr else none
  | _ => none
theorem d11_sim {b : Res} {r : ByteArray} (h : d11 b = some r) : Sim Tryz.prog b ((.dat 9 (.str r)), []) := by
  unfold d11 at h
  split at h
  · obtain ⟨hc, h2⟩ := bif_some h
    cases h2
    have e0 := beq_eq hc
    subst e0
    exact Sim.of (.of (.dat (.str Tryz.underlying9)) rfl rfl) .nil
  · cases h
noncomputable def d23 (q : Res) : Option (ByteArray × Bool) := match q with
  | (.tup [.dat T0 x0, .dat T1 x1], []) => bif (Nat.beq T0 9 && Nat.beq T1 4) then some (x0.toStr, x1.toBool) else none
  | _ => none
theorem d23_sim {b : Res} {r : ByteArray × Bool} (h : d23 b = some r) : Sim Tryz.prog b ((.tup [(.dat 9 (.str r.1)), (.dat 4 (.bool r.2))]), []) := by
  unfold d23 at h
  split at h
  · obtain ⟨hc, h2⟩ := bif_some h
    cases h2
    have e0 := beq_eq (and_l hc)
    have e1 := beq_eq (and_r hc)
    subst e0 e1
    exact Sim.of (.tup (.cons (.dat (.str Tryz.underlying9)) (.cons (.dat (.bool Tryz.underlying4)) .nil))) .nil
  · cases h
noncomputable def d15 (q : Res) : Option (Dt × Bool) := match q with
  | (.tup [.dat T0 x0, .dat T1 x1], []) => bif (Nat.beq T0 25 && Nat.beq T1 4) then some (x0, x1.toBool) else none
  | _ => none
theorem d15_sim {b : Res} {r : Dt × Bool} (h : d15 b = some r) : Sim Tryz.prog b ((.tup [(.dat 25 r.1), (.dat 4 (.bool r.2))]), []) := by
  unfold d15 at h
  split at h
  · obtain ⟨hc, h2⟩ := bif_some h
    cases h2
    have e0 := beq_eq (and_l hc)
    have e1 := beq_eq (and_r hc)
    subst e0 e1
    exact Sim.of (.tup (.cons .same (.cons (.dat (.bool Tryz.underlying4)) .nil))) .nil
  · cases h
noncomputable def d7 (q : Res) : Option (Int × List Dt) := match q with
  | (.tup [.row n0, .dat T1 x1], [.gone, .row T2 x2]) => bif (Nat.beq n0 1 && (Nat.beq T1 28 && Nat.beq T2 40)) then some (x1.toInt, x2) else none
  | _ => none
theorem d7_sim {b : Res} {r : Int × List Dt} (h : d7 b = some r) : Sim Tryz.prog b ((.tup [(.row 1), (.dat 28 (.int r.1))]), [.gone, (.row 40 r.2)]) := by
  unfold d7 at h
  split at h
  · obtain ⟨hc, h2⟩ := bif_some h
    cases h2
    have e0 := beq_eq (and_l hc)
    have e1 := beq_eq (and_l (and_r hc))
    have e2 := beq_eq (and_r (and_r hc))
    subst e0 e1 e2
    exact Sim.of (.tup (.cons .same (.cons (.dat (.int Tryz.underlying28)) .nil))) (.cons .same (.cons .same .nil))
  · cases h
noncomputable def d42 (q : Res) : Option (Int × Int) := match q with
  | (.tup [], [.box T0 (.dat T1 x1), .box T2 (.dat T3 x3)]) => bif (Nat.beq T0 3 && (Nat.beq T1 3 && (Nat.beq T2 3 && Nat.beq T3 3))) then some (x1.toInt, x3.toInt) else none
  | _ => none
theorem d42_sim {b : Res} {r : Int × Int} (h : d42 b = some r) : Sim Tryz.prog b ((.tup []), [(.box 3 (.dat 3 (.int r.1))), (.box 3 (.dat 3 (.int r.2)))]) := by
  unfold d42 at h
  split at h
  · obtain ⟨hc, h2⟩ := bif_some h
    cases h2
    have e0 := beq_eq (and_l hc)
    have e1 := beq_eq (and_l (and_r hc))
    have e2 := beq_eq (and_l (and_r (and_r hc)))
    have e3 := beq_eq (and_r (and_r (and_r hc)))
    subst e0 e1 e2 e3
    exact Sim.of (.tup .nil) (.cons (.box (.dat (.int Tryz.underlying3))) (.cons (.box (.dat (.int Tryz.underlying3))) .nil))
  · cases h
noncomputable def d43 (q : Res) : Option (Bool × Int × Int) := match q with
  | (.dat T0 x0, [.box T1 (.dat T2 x2), .box T3 (.dat T4 x4)]) => bif (Nat.beq T0 4 && (Nat.beq T1 3 && (Nat.beq T2 3 && (Nat.beq T3 3 && Nat.beq T4 3)))) then some (x0.toBool, x2.toInt, x4.toInt) else none
  | _ => none
theorem d43_sim {b : Res} {r : Bool × Int × Int} (h : d43 b = some r) : Sim Tryz.prog b ((.dat 4 (.bool r.1)), [(.box 3 (.dat 3 (.int r.2.1))), (.box 3 (.dat 3 (.int r.2.2)))]) := by
  unfold d43 at h
  split at h
  · obtain ⟨hc, h2⟩ := bif_some h
    cases h2
    have e0 := beq_eq (and_l hc)
    have e1 := beq_eq (and_l (and_r hc))
    have e2 := beq_eq (and_l (and_r (and_r hc)))
    have e3 := beq_eq (and_l (and_r (and_r (and_r hc))))
    have e4 := beq_eq (and_r (and_r (and_r (and_r hc))))
    subst e0 e1 e2 e3 e4
    exact Sim.of (.of (.dat (.bool Tryz.underlying4)) rfl rfl) (.cons (.box (.dat (.int Tryz.underlying3))) (.cons (.box (.dat (.int Tryz.underlying3))) .nil))
  · cases h
noncomputable def d48 (q : Res) : Option (List Dt) := match q with
  | (.dat T0 x0, []) => bif Nat.beq T0 22 then some x0.toLst else none
  | _ => none
theorem d48_sim {b : Res} {r : List Dt} (h : d48 b = some r) : Sim Tryz.prog b ((.dat 22 (.lst r)), []) := by
  unfold d48 at h
  split at h
  · obtain ⟨hc, h2⟩ := bif_some h
    cases h2
    have e0 := beq_eq hc
    subst e0
    exact Sim.of (.of (.dat (.lst Tryz.underlying22)) rfl rfl) .nil
  · cases h
noncomputable def d17 (q : Res) : Option Int := match q with
  | (.dat T0 x0, []) => bif Nat.beq T0 28 then some x0.toInt else none
  | _ => none
theorem d17_sim {b : Res} {r : Int} (h : d17 b = some r) : Sim Tryz.prog b ((.dat 28 (.int r)), []) := by
  unfold d17 at h
  split at h
  · obtain ⟨hc, h2⟩ := bif_some h
    cases h2
    have e0 := beq_eq hc
    subst e0
    exact Sim.of (.of (.dat (.int Tryz.underlying28)) rfl rfl) .nil
  · cases h
noncomputable def d3 (q : Res) : Option (ByteArray × Int) := match q with
  | (.tup [.dat T0 x0, .dat T1 x1], []) => bif (Nat.beq T0 9 && Nat.beq T1 28) then some (x0.toStr, x1.toInt) else none
  | _ => none
theorem d3_sim {b : Res} {r : ByteArray × Int} (h : d3 b = some r) : Sim Tryz.prog b ((.tup [(.dat 9 (.str r.1)), (.dat 28 (.int r.2))]), []) := by
  unfold d3 at h
  split at h
  · obtain ⟨hc, h2⟩ := bif_some h
    cases h2
    have e0 := beq_eq (and_l hc)
    have e1 := beq_eq (and_r hc)
    subst e0 e1
    exact Sim.of (.tup (.cons (.dat (.str Tryz.underlying9)) (.cons (.dat (.int Tryz.underlying28)) .nil))) .nil
  · cases h
noncomputable def ct {R : Type} (m : Nat) (f : FuncId) (args : List AV) (objs : List Ob) (K : Res → Option R) : Option R :=
  bif Nat.beq f 3 then ct3 m args objs K else
  bif Nat.beq f 5 then ct5 m args objs K else
  bif Nat.beq f 6 then ct6 m args objs K else
  bif Nat.beq f 7 then ct7 m args objs K else
  bif Nat.beq f 8 then ct8 m args objs K else
  bif Nat.beq f 12 then ct12 m args objs K else
  bif Nat.beq f 14 then ct14 m args objs K else
  bif Nat.beq f 15 then ct15 m args objs K else
  bif Nat.beq f 30 then ct30 m args objs K else
  bif Nat.beq f 60 then ct60 m args objs K else
  bif Nat.beq f 31 then ct31 m args objs K else
  bif Nat.beq f 13 then ct13 m args objs K else
  bif Nat.beq f 32 then ct32 m args objs K else
  bif Nat.beq f 33 then ct33 m args objs K else
  bif Nat.beq f 34 then ct34 m args objs K else
  bif Nat.beq f 62 then ct62 m args objs K else
  bif Nat.beq f 16 then ct16 m args objs K else
  bif Nat.beq f 17 then ct17 m args objs K else
  bif Nat.beq f 18 then ct18 m args objs K else
  bif Nat.beq f 26 then ct26 m args objs K else
  bif Nat.beq f 28 then ct28 m args objs K else
  bif Nat.beq f 29 then ct29 m args objs K else
  bif Nat.beq f 27 then ct27 m args objs K else
  bif Nat.beq f 85 then ct85 m args objs K else
  bif Nat.beq f 35 then ct35 m args objs K else
  bif Nat.beq f 36 then ct36 m args objs K else
  bif Nat.beq f 37 then ct37 m args objs K else
  bif Nat.beq f 38 then ct38 m args objs K else
  bif Nat.beq f 39 then ct39 m args objs K else
  bif Nat.beq f 40 then ct40 m args objs K else
  bif Nat.beq f 41 then ct41 m args objs K else
  bif Nat.beq f 55 then ct55 m args objs K else
  bif Nat.beq f 58 then ct58 m args objs K else
  bif Nat.beq f 57 then ct57 m args objs K else
  bif Nat.beq f 59 then ct59 m args objs K else
  bif Nat.beq f 56 then ct56 m args objs K else
  bif Nat.beq f 63 then ct63 m args objs K else
  bif Nat.beq f 64 then ct64 m args objs K else
  bif Nat.beq f 66 then ct66 m args objs K else
  bif Nat.beq f 65 then ct65 m args objs K else
  bif Nat.beq f 67 then ct67 m args objs K else
  bif Nat.beq f 68 then ct68 m args objs K else
  bif Nat.beq f 79 then ct79 m args objs K else
  bif Nat.beq f 80 then ct80 m args objs K else
  bif Nat.beq f 70 then ct70 m args objs K else
  bif Nat.beq f 83 then ct83 m args objs K else
  bif Nat.beq f 81 then ct81 m args objs K else
  bif Nat.beq f 86 then ct86 m args objs K else
  bif Nat.beq f 87 then ct87 m args objs K else
  bif Nat.beq f 88 then ct88 m args objs K else
  bif Nat.beq f 96 then ct96 m args objs K else
  bif Nat.beq f 101 then ct101 m args objs K else
  bif Nat.beq f 102 then ct102 m args objs K else
  bif Nat.beq f 116 then ct116 m args objs K else
  bif Nat.beq f 117 then ct117 m args objs K else
  bif Nat.beq f 118 then ct118 m args objs K else
  none
end Go.Proofs.YtmejbpmceflcjaaGreatDoor
