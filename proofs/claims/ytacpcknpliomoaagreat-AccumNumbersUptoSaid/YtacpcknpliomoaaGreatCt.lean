/- Generated: the functions as contracts for their callers. -/
import Derived.Test.YtacpcknpliomoaaGreatSh
import Derived.Test.YtacpcknpliomoaaGreatProg
set_option linter.unusedVariables false
set_option linter.unusedSimpArgs false
namespace Go.Proofs.YtacpcknpliomoaaGreat
open Go.Am
def sel0 (args : List AV) (objs : List Ob) : Option (List Dt) := match args, objs with
  | [.dat T0 x0], [] => bif Nat.beq T0 46 then some x0.toLst else none
  | _, _ => none
theorem sel0_ok {args : List AV} {objs : List Ob} {l : List Dt} (h : sel0 args objs = some l) : CnA Tryz.prog args [(.dat 46 (.lst l))] ∧ CnOL Tryz.prog objs [] := by
  unfold sel0 at h
  split at h
  · obtain ⟨hc, h2⟩ := bif_some h
    cases h2
    have e0 := beq_eq hc
    subst e0
    exact ⟨(.cons (.of (.dat (.lst Tryz.underlying46)) rfl rfl) .nil), .nil⟩
  · cases h
def sel1 (args : List AV) (objs : List Ob) : Option Unit := match args, objs with
  | [], [] => bif true then some () else none
  | _, _ => none
theorem sel1_ok {args : List AV} {objs : List Ob} {l : Unit} (h : sel1 args objs = some l) : CnA Tryz.prog args [] ∧ CnOL Tryz.prog objs [] := by
  unfold sel1 at h
  split at h
  · obtain ⟨hc, h2⟩ := bif_some h
    cases h2
    exact ⟨.nil, .nil⟩
  · cases h
def sel2 (args : List AV) (objs : List Ob) : Option Int := match args, objs with
  | [.dat T0 x0], [] => bif Nat.beq T0 3 then some x0.toInt else none
  | _, _ => none
theorem sel2_ok {args : List AV} {objs : List Ob} {l : Int} (h : sel2 args objs = some l) : CnA Tryz.prog args [(.dat 3 (.int l))] ∧ CnOL Tryz.prog objs [] := by
  unfold sel2 at h
  split at h
  · obtain ⟨hc, h2⟩ := bif_some h
    cases h2
    have e0 := beq_eq hc
    subst e0
    exact ⟨(.cons (.of (.dat (.int Tryz.underlying3)) rfl rfl) .nil), .nil⟩
  · cases h
def sel3 (args : List AV) (objs : List Ob) : Option (Dt × List Dt) := match args, objs with
  | [.dat T0 x0, .dat T1 x1], [] => bif (Nat.beq T0 41 && Nat.beq T1 22) then some (x0, x1.toLst) else none
  | _, _ => none
theorem sel3_ok {args : List AV} {objs : List Ob} {l : Dt × List Dt} (h : sel3 args objs = some l) : CnA Tryz.prog args [(.dat 41 l.1), (.dat 22 (.lst l.2))] ∧ CnOL Tryz.prog objs [] := by
  unfold sel3 at h
  split at h
  · obtain ⟨hc, h2⟩ := bif_some h
    cases h2
    have e0 := beq_eq (and_l hc)
    have e1 := beq_eq (and_r hc)
    subst e0 e1
    exact ⟨(.cons (.of .same rfl rfl) (.cons (.of (.dat (.lst Tryz.underlying22)) rfl rfl) .nil)), .nil⟩
  · cases h
def sel4 (args : List AV) (objs : List Ob) : Option (Dt × Dt) := match args, objs with
  | [.dat T0 x0, .dat T1 x1], [] => bif (Nat.beq T0 41 && Nat.beq T1 29) then some (x0, x1) else none
  | _, _ => none
theorem sel4_ok {args : List AV} {objs : List Ob} {l : Dt × Dt} (h : sel4 args objs = some l) : CnA Tryz.prog args [(.dat 41 l.1), (.dat 29 l.2)] ∧ CnOL Tryz.prog objs [] := by
  unfold sel4 at h
  split at h
  · obtain ⟨hc, h2⟩ := bif_some h
    cases h2
    have e0 := beq_eq (and_l hc)
    have e1 := beq_eq (and_r hc)
    subst e0 e1
    exact ⟨(.cons (.of .same rfl rfl) (.cons (.of .same rfl rfl) .nil)), .nil⟩
  · cases h
def sel6 (args : List AV) (objs : List Ob) : Option Dt := match args, objs with
  | [.dat T0 x0], [] => bif Nat.beq T0 41 then some x0 else none
  | _, _ => none
theorem sel6_ok {args : List AV} {objs : List Ob} {l : Dt} (h : sel6 args objs = some l) : CnA Tryz.prog args [(.dat 41 l)] ∧ CnOL Tryz.prog objs [] := by
  unfold sel6 at h
  split at h
  · obtain ⟨hc, h2⟩ := bif_some h
    cases h2
    have e0 := beq_eq hc
    subst e0
    exact ⟨(.cons (.of .same rfl rfl) .nil), .nil⟩
  · cases h
def sel7 (args : List AV) (objs : List Ob) : Option (Dt × Dt × Dt) := match args, objs with
  | [.dat T0 x0, .dat T1 x1, .dat T2 x2], [] => bif (Nat.beq T0 41 && (Nat.beq T1 29 && Nat.beq T2 25)) then some (x0, x1, x2) else none
  | _, _ => none
theorem sel7_ok {args : List AV} {objs : List Ob} {l : Dt × Dt × Dt} (h : sel7 args objs = some l) : CnA Tryz.prog args [(.dat 41 l.1), (.dat 29 l.2.1), (.dat 25 l.2.2)] ∧ CnOL Tryz.prog objs [] := by
  unfold sel7 at h
  split at h
  · obtain ⟨hc, h2⟩ := bif_some h
    cases h2
    have e0 := beq_eq (and_l hc)
    have e1 := beq_eq (and_l (and_r hc))
    have e2 := beq_eq (and_r (and_r hc))
    subst e0 e1 e2
    exact ⟨(.cons (.of .same rfl rfl) (.cons (.of .same rfl rfl) (.cons (.of .same rfl rfl) .nil))), .nil⟩
  · cases h
def sel8 (args : List AV) (objs : List Ob) : Option (Dt × Dt) := match args, objs with
  | [.dat T0 x0, .dat T1 x1], [] => bif (Nat.beq T0 85 && Nat.beq T1 29) then some (x0, x1) else none
  | _, _ => none
theorem sel8_ok {args : List AV} {objs : List Ob} {l : Dt × Dt} (h : sel8 args objs = some l) : CnA Tryz.prog args [(.dat 85 l.1), (.dat 29 l.2)] ∧ CnOL Tryz.prog objs [] := by
  unfold sel8 at h
  split at h
  · obtain ⟨hc, h2⟩ := bif_some h
    cases h2
    have e0 := beq_eq (and_l hc)
    have e1 := beq_eq (and_r hc)
    subst e0 e1
    exact ⟨(.cons (.of .same rfl rfl) (.cons (.of .same rfl rfl) .nil)), .nil⟩
  · cases h
def sel9 (args : List AV) (objs : List Ob) : Option Dt := match args, objs with
  | [.dat T0 x0], [] => bif Nat.beq T0 25 then some x0 else none
  | _, _ => none
theorem sel9_ok {args : List AV} {objs : List Ob} {l : Dt} (h : sel9 args objs = some l) : CnA Tryz.prog args [(.dat 25 l)] ∧ CnOL Tryz.prog objs [] := by
  unfold sel9 at h
  split at h
  · obtain ⟨hc, h2⟩ := bif_some h
    cases h2
    have e0 := beq_eq hc
    subst e0
    exact ⟨(.cons (.of .same rfl rfl) .nil), .nil⟩
  · cases h
def sel10 (args : List AV) (objs : List Ob) : Option (Dt × Dt) := match args, objs with
  | [.dat T0 x0, .dat T1 x1], [] => bif (Nat.beq T0 86 && Nat.beq T1 29) then some (x0, x1) else none
  | _, _ => none
theorem sel10_ok {args : List AV} {objs : List Ob} {l : Dt × Dt} (h : sel10 args objs = some l) : CnA Tryz.prog args [(.dat 86 l.1), (.dat 29 l.2)] ∧ CnOL Tryz.prog objs [] := by
  unfold sel10 at h
  split at h
  · obtain ⟨hc, h2⟩ := bif_some h
    cases h2
    have e0 := beq_eq (and_l hc)
    have e1 := beq_eq (and_r hc)
    subst e0 e1
    exact ⟨(.cons (.of .same rfl rfl) (.cons (.of .same rfl rfl) .nil)), .nil⟩
  · cases h
def sel11 (args : List AV) (objs : List Ob) : Option (Dt × Dt) := match args, objs with
  | [.dat T0 x0, .dat T1 x1], [] => bif (Nat.beq T0 87 && Nat.beq T1 29) then some (x0, x1) else none
  | _, _ => none
theorem sel11_ok {args : List AV} {objs : List Ob} {l : Dt × Dt} (h : sel11 args objs = some l) : CnA Tryz.prog args [(.dat 87 l.1), (.dat 29 l.2)] ∧ CnOL Tryz.prog objs [] := by
  unfold sel11 at h
  split at h
  · obtain ⟨hc, h2⟩ := bif_some h
    cases h2
    have e0 := beq_eq (and_l hc)
    have e1 := beq_eq (and_r hc)
    subst e0 e1
    exact ⟨(.cons (.of .same rfl rfl) (.cons (.of .same rfl rfl) .nil)), .nil⟩
  · cases h
def sel12 (args : List AV) (objs : List Ob) : Option (Dt × Dt) := match args, objs with
  | [.dat T0 x0, .dat T1 x1], [] => bif (Nat.beq T0 89 && Nat.beq T1 29) then some (x0, x1) else none
  | _, _ => none
theorem sel12_ok {args : List AV} {objs : List Ob} {l : Dt × Dt} (h : sel12 args objs = some l) : CnA Tryz.prog args [(.dat 89 l.1), (.dat 29 l.2)] ∧ CnOL Tryz.prog objs [] := by
  unfold sel12 at h
  split at h
  · obtain ⟨hc, h2⟩ := bif_some h
    cases h2
    have e0 := beq_eq (and_l hc)
    have e1 := beq_eq (and_r hc)
    subst e0 e1
    exact ⟨(.cons (.of .same rfl rfl) (.cons (.of .same rfl rfl) .nil)), .nil⟩
  · cases h
def sel13 (args : List AV) (objs : List Ob) : Option (Dt × Dt) := match args, objs with
  | [.dat T0 x0, .dat T1 x1], [] => bif (Nat.beq T0 90 && Nat.beq T1 29) then some (x0, x1) else none
  | _, _ => none
theorem sel13_ok {args : List AV} {objs : List Ob} {l : Dt × Dt} (h : sel13 args objs = some l) : CnA Tryz.prog args [(.dat 90 l.1), (.dat 29 l.2)] ∧ CnOL Tryz.prog objs [] := by
  unfold sel13 at h
  split at h
  · obtain ⟨hc, h2⟩ := bif_some h
    cases h2
    have e0 := beq_eq (and_l hc)
    have e1 := beq_eq (and_r hc)
    subst e0 e1
    exact ⟨(.cons (.of .same rfl rfl) (.cons (.of .same rfl rfl) .nil)), .nil⟩
  · cases h
def sel14 (args : List AV) (objs : List Ob) : Option (Dt × Dt) := match args, objs with
  | [.dat T0 x0, .dat T1 x1], [] => bif (Nat.beq T0 91 && Nat.beq T1 29) then some (x0, x1) else none
  | _, _ => none
theorem sel14_ok {args : List AV} {objs : List Ob} {l : Dt × Dt} (h : sel14 args objs = some l) : CnA Tryz.prog args [(.dat 91 l.1), (.dat 29 l.2)] ∧ CnOL Tryz.prog objs [] := by
  unfold sel14 at h
  split at h
  · obtain ⟨hc, h2⟩ := bif_some h
    cases h2
    have e0 := beq_eq (and_l hc)
    have e1 := beq_eq (and_r hc)
    subst e0 e1
    exact ⟨(.cons (.of .same rfl rfl) (.cons (.of .same rfl rfl) .nil)), .nil⟩
  · cases h
def sel15 (args : List AV) (objs : List Ob) : Option (Dt × Dt) := match args, objs with
  | [.dat T0 x0, .dat T1 x1], [] => bif (Nat.beq T0 92 && Nat.beq T1 29) then some (x0, x1) else none
  | _, _ => none
theorem sel15_ok {args : List AV} {objs : List Ob} {l : Dt × Dt} (h : sel15 args objs = some l) : CnA Tryz.prog args [(.dat 92 l.1), (.dat 29 l.2)] ∧ CnOL Tryz.prog objs [] := by
  unfold sel15 at h
  split at h
  · obtain ⟨hc, h2⟩ := bif_some h
    cases h2
    have e0 := beq_eq (and_l hc)
    have e1 := beq_eq (and_r hc)
    subst e0 e1
    exact ⟨(.cons (.of .same rfl rfl) (.cons (.of .same rfl rfl) .nil)), .nil⟩
  · cases h
def sel16 (args : List AV) (objs : List Ob) : Option (Dt × Dt) := match args, objs with
  | [.dat T0 x0, .dat T1 x1], [] => bif (Nat.beq T0 93 && Nat.beq T1 29) then some (x0, x1) else none
  | _, _ => none
theorem sel16_ok {args : List AV} {objs : List Ob} {l : Dt × Dt} (h : sel16 args objs = some l) : CnA Tryz.prog args [(.dat 93 l.1), (.dat 29 l.2)] ∧ CnOL Tryz.prog objs [] := by
  unfold sel16 at h
  split at h
  · obtain ⟨hc, h2⟩ := bif_some h
    cases h2
    have e0 := beq_eq (and_l hc)
    have e1 := beq_eq (and_r hc)
    subst e0 e1
    exact ⟨(.cons (.of .same rfl rfl) (.cons (.of .same rfl rfl) .nil)), .nil⟩
  · cases h
def sel17 (args : List AV) (objs : List Ob) : Option (Dt × Dt) := match args, objs with
  | [.dat T0 x0, .dat T1 x1], [] => bif (Nat.beq T0 94 && Nat.beq T1 29) then some (x0, x1) else none
  | _, _ => none
theorem sel17_ok {args : List AV} {objs : List Ob} {l : Dt × Dt} (h : sel17 args objs = some l) : CnA Tryz.prog args [(.dat 94 l.1), (.dat 29 l.2)] ∧ CnOL Tryz.prog objs [] := by
  unfold sel17 at h
  split at h
  · obtain ⟨hc, h2⟩ := bif_some h
    cases h2
    have e0 := beq_eq (and_l hc)
    have e1 := beq_eq (and_r hc)
    subst e0 e1
    exact ⟨(.cons (.of .same rfl rfl) (.cons (.of .same rfl rfl) .nil)), .nil⟩
  · cases h
def sel18 (args : List AV) (objs : List Ob) : Option Dt := match args, objs with
  | [.dat T0 x0], [] => bif Nat.beq T0 29 then some x0 else none
  | _, _ => none
theorem sel18_ok {args : List AV} {objs : List Ob} {l : Dt} (h : sel18 args objs = some l) : CnA Tryz.prog args [(.dat 29 l)] ∧ CnOL Tryz.prog objs [] := by
  unfold sel18 at h
  split at h
  · obtain ⟨hc, h2⟩ := bif_some h
    cases h2
    have e0 := beq_eq hc
    subst e0
    exact ⟨(.cons (.of .same rfl rfl) .nil), .nil⟩
  · cases h
def sel19 (args : List AV) (objs : List Ob) : Option (Dt × Dt × Dt × Dt) := match args, objs with
  | [.dat T0 x0, .dat T1 x1, .dat T2 x2, .dat T3 x3], [] => bif (Nat.beq T0 85 && (Nat.beq T1 41 && (Nat.beq T2 29 && Nat.beq T3 25))) then some (x0, x1, x2, x3) else none
  | _, _ => none
theorem sel19_ok {args : List AV} {objs : List Ob} {l : Dt × Dt × Dt × Dt} (h : sel19 args objs = some l) : CnA Tryz.prog args [(.dat 85 l.1), (.dat 41 l.2.1), (.dat 29 l.2.2.1), (.dat 25 l.2.2.2)] ∧ CnOL Tryz.prog objs [] := by
  unfold sel19 at h
  split at h
  · obtain ⟨hc, h2⟩ := bif_some h
    cases h2
    have e0 := beq_eq (and_l hc)
    have e1 := beq_eq (and_l (and_r hc))
    have e2 := beq_eq (and_l (and_r (and_r hc)))
    have e3 := beq_eq (and_r (and_r (and_r hc)))
    subst e0 e1 e2 e3
    exact ⟨(.cons (.of .same rfl rfl) (.cons (.of .same rfl rfl) (.cons (.of .same rfl rfl) (.cons (.of .same rfl rfl) .nil)))), .nil⟩
  · cases h
def sel20 (args : List AV) (objs : List Ob) : Option (Dt × Dt × Dt × Dt) := match args, objs with
  | [.dat T0 x0, .dat T1 x1, .dat T2 x2, .dat T3 x3], [] => bif (Nat.beq T0 86 && (Nat.beq T1 41 && (Nat.beq T2 29 && Nat.beq T3 25))) then some (x0, x1, x2, x3) else none
  | _, _ => none
theorem sel20_ok {args : List AV} {objs : List Ob} {l : Dt × Dt × Dt × Dt} (h : sel20 args objs = some l) : CnA Tryz.prog args [(.dat 86 l.1), (.dat 41 l.2.1), (.dat 29 l.2.2.1), (.dat 25 l.2.2.2)] ∧ CnOL Tryz.prog objs [] := by
  unfold sel20 at h
  split at h
  · obtain ⟨hc, h2⟩ := bif_some h
    cases h2
    have e0 := beq_eq (and_l hc)
    have e1 := beq_eq (and_l (and_r hc))
    have e2 := beq_eq (and_l (and_r (and_r hc)))
    have e3 := beq_eq (and_r (and_r (and_r hc)))
    subst e0 e1 e2 e3
    exact ⟨(.cons (.of .same rfl rfl) (.cons (.of .same rfl rfl) (.cons (.of .same rfl rfl) (.cons (.of .same rfl rfl) .nil)))), .nil⟩
  · cases h
def sel21 (args : List AV) (objs : List Ob) : Option (Dt × Dt × Dt × Dt) := match args, objs with
  | [.dat T0 x0, .dat T1 x1, .dat T2 x2, .dat T3 x3], [] => bif (Nat.beq T0 87 && (Nat.beq T1 41 && (Nat.beq T2 29 && Nat.beq T3 25))) then some (x0, x1, x2, x3) else none
  | _, _ => none
theorem sel21_ok {args : List AV} {objs : List Ob} {l : Dt × Dt × Dt × Dt} (h : sel21 args objs = some l) : CnA Tryz.prog args [(.dat 87 l.1), (.dat 41 l.2.1), (.dat 29 l.2.2.1), (.dat 25 l.2.2.2)] ∧ CnOL Tryz.prog objs [] := by
  unfold sel21 at h
  split at h
  · obtain ⟨hc, h2⟩ := bif_some h
    cases h2
    have e0 := beq_eq (and_l hc)
    have e1 := beq_eq (and_l (and_r hc))
    have e2 := beq_eq (and_l (and_r (and_r hc)))
    have e3 := beq_eq (and_r (and_r (and_r hc)))
    subst e0 e1 e2 e3
    exact ⟨(.cons (.of .same rfl rfl) (.cons (.of .same rfl rfl) (.cons (.of .same rfl rfl) (.cons (.of .same rfl rfl) .nil)))), .nil⟩
  · cases h
def sel22 (args : List AV) (objs : List Ob) : Option (Dt × Dt × Dt × Dt) := match args, objs with
  | [.dat T0 x0, .dat T1 x1, .dat T2 x2, .dat T3 x3], [] => bif (Nat.beq T0 89 && (Nat.beq T1 41 && (Nat.beq T2 29 && Nat.beq T3 25))) then some (x0, x1, x2, x3) else none
  | _, _ => none
theorem sel22_ok {args : List AV} {objs : List Ob} {l : Dt × Dt × Dt × Dt} (h : sel22 args objs = some l) : CnA Tryz.prog args [(.dat 89 l.1), (.dat 41 l.2.1), (.dat 29 l.2.2.1), (.dat 25 l.2.2.2)] ∧ CnOL Tryz.prog objs [] := by
  unfold sel22 at h
  split at h
  · obtain ⟨hc, h2⟩ := bif_some h
    cases h2
    have e0 := beq_eq (and_l hc)
    have e1 := beq_eq (and_l (and_r hc))
    have e2 := beq_eq (and_l (and_r (and_r hc)))
    have e3 := beq_eq (and_r (and_r (and_r hc)))
    subst e0 e1 e2 e3
    exact ⟨(.cons (.of .same rfl rfl) (.cons (.of .same rfl rfl) (.cons (.of .same rfl rfl) (.cons (.of .same rfl rfl) .nil)))), .nil⟩
  · cases h
def sel23 (args : List AV) (objs : List Ob) : Option (Dt × Dt × Dt × Dt) := match args, objs with
  | [.dat T0 x0, .dat T1 x1, .dat T2 x2, .dat T3 x3], [] => bif (Nat.beq T0 90 && (Nat.beq T1 41 && (Nat.beq T2 29 && Nat.beq T3 25))) then some (x0, x1, x2, x3) else none
  | _, _ => none
theorem sel23_ok {args : List AV} {objs : List Ob} {l : Dt × Dt × Dt × Dt} (h : sel23 args objs = some l) : CnA Tryz.prog args [(.dat 90 l.1), (.dat 41 l.2.1), (.dat 29 l.2.2.1), (.dat 25 l.2.2.2)] ∧ CnOL Tryz.prog objs [] := by
  unfold sel23 at h
  split at h
  · obtain ⟨hc, h2⟩ := bif_some h
    cases h2
    have e0 := beq_eq (and_l hc)
    have e1 := beq_eq (and_l (and_r hc))
    have e2 := beq_eq (and_l (and_r (and_r hc)))
    have e3 := beq_eq (and_r (and_r (and_r hc)))
    subst e0 e1 e2 e3
    exact ⟨(.cons (.of .same rfl rfl) (.cons (.of .same rfl rfl) (.cons (.of .same rfl rfl) (.cons (.of .same rfl rfl) .nil)))), .nil⟩
  · cases h
def sel24 (args : List AV) (objs : List Ob) : Option (Dt × Dt × Dt × Dt) := match args, objs with
  | [.dat T0 x0, .dat T1 x1, .dat T2 x2, .dat T3 x3], [] => bif (Nat.beq T0 91 && (Nat.beq T1 41 && (Nat.beq T2 29 && Nat.beq T3 25))) then some (x0, x1, x2, x3) else none
  | _, _ => none
theorem sel24_ok {args : List AV} {objs : List Ob} {l : Dt × Dt × Dt × Dt} (h : sel24 args objs = some l) : CnA Tryz.prog args [(.dat 91 l.1), (.dat 41 l.2.1), (.dat 29 l.2.2.1), (.dat 25 l.2.2.2)] ∧ CnOL Tryz.prog objs [] := by
  unfold sel24 at h
  split at h
  · obtain ⟨hc, h2⟩ := bif_some h
    cases h2
    have e0 := beq_eq (and_l hc)
    have e1 := beq_eq (and_l (and_r hc))
    have e2 := beq_eq (and_l (and_r (and_r hc)))
    have e3 := beq_eq (and_r (and_r (and_r hc)))
    subst e0 e1 e2 e3
    exact ⟨(.cons (.of .same rfl rfl) (.cons (.of .same rfl rfl) (.cons (.of .same rfl rfl) (.cons (.of .same rfl rfl) .nil)))), .nil⟩
  · cases h
def sel25 (args : List AV) (objs : List Ob) : Option (Dt × Dt × Dt × Dt) := match args, objs with
  | [.dat T0 x0, .dat T1 x1, .dat T2 x2, .dat T3 x3], [] => bif (Nat.beq T0 92 && (Nat.beq T1 41 && (Nat.beq T2 29 && Nat.beq T3 25))) then some (x0, x1, x2, x3) else none
  | _, _ => none
theorem sel25_ok {args : List AV} {objs : List Ob} {l : Dt × Dt × Dt × Dt} (h : sel25 args objs = some l) : CnA Tryz.prog args [(.dat 92 l.1), (.dat 41 l.2.1), (.dat 29 l.2.2.1), (.dat 25 l.2.2.2)] ∧ CnOL Tryz.prog objs [] := by
  unfold sel25 at h
  split at h
  · obtain ⟨hc, h2⟩ := bif_some h
    cases h2
    have e0 := beq_eq (and_l hc)
    have e1 := beq_eq (and_l (and_r hc))
    have e2 := beq_eq (and_l (and_r (and_r hc)))
    have e3 := beq_eq (and_r (and_r (and_r hc)))
    subst e0 e1 e2 e3
    exact ⟨(.cons (.of .same rfl rfl) (.cons (.of .same rfl rfl) (.cons (.of .same rfl rfl) (.cons (.of .same rfl rfl) .nil)))), .nil⟩
  · cases h
def sel26 (args : List AV) (objs : List Ob) : Option (Dt × Dt × Dt × Dt) := match args, objs with
  | [.dat T0 x0, .dat T1 x1, .dat T2 x2, .dat T3 x3], [] => bif (Nat.beq T0 93 && (Nat.beq T1 41 && (Nat.beq T2 29 && Nat.beq T3 25))) then some (x0, x1, x2, x3) else none
  | _, _ => none
theorem sel26_ok {args : List AV} {objs : List Ob} {l : Dt × Dt × Dt × Dt} (h : sel26 args objs = some l) : CnA Tryz.prog args [(.dat 93 l.1), (.dat 41 l.2.1), (.dat 29 l.2.2.1), (.dat 25 l.2.2.2)] ∧ CnOL Tryz.prog objs [] := by
  unfold sel26 at h
  split at h
  · obtain ⟨hc, h2⟩ := bif_some h
    cases h2
    have e0 := beq_eq (and_l hc)
    have e1 := beq_eq (and_l (and_r hc))
    have e2 := beq_eq (and_l (and_r (and_r hc)))
    have e3 := beq_eq (and_r (and_r (and_r hc)))
    subst e0 e1 e2 e3
    exact ⟨(.cons (.of .same rfl rfl) (.cons (.of .same rfl rfl) (.cons (.of .same rfl rfl) (.cons (.of .same rfl rfl) .nil)))), .nil⟩
  · cases h
def sel27 (args : List AV) (objs : List Ob) : Option (Dt × Dt × Dt × Dt) := match args, objs with
  | [.dat T0 x0, .dat T1 x1, .dat T2 x2, .dat T3 x3], [] => bif (Nat.beq T0 94 && (Nat.beq T1 41 && (Nat.beq T2 29 && Nat.beq T3 25))) then some (x0, x1, x2, x3) else none
  | _, _ => none
theorem sel27_ok {args : List AV} {objs : List Ob} {l : Dt × Dt × Dt × Dt} (h : sel27 args objs = some l) : CnA Tryz.prog args [(.dat 94 l.1), (.dat 41 l.2.1), (.dat 29 l.2.2.1), (.dat 25 l.2.2.2)] ∧ CnOL Tryz.prog objs [] := by
  unfold sel27 at h
  split at h
  · obtain ⟨hc, h2⟩ := bif_some h
    cases h2
    have e0 := beq_eq (and_l hc)
    have e1 := beq_eq (and_l (and_r hc))
    have e2 := beq_eq (and_l (and_r (and_r hc)))
    have e3 := beq_eq (and_r (and_r (and_r hc)))
    subst e0 e1 e2 e3
    exact ⟨(.cons (.of .same rfl rfl) (.cons (.of .same rfl rfl) (.cons (.of .same rfl rfl) (.cons (.of .same rfl rfl) .nil)))), .nil⟩
  · cases h
def sel29 (args : List AV) (objs : List Ob) : Option (List Dt) := match args, objs with
  | [.dat T0 x0], [] => bif Nat.beq T0 22 then some x0.toLst else none
  | _, _ => none
theorem sel29_ok {args : List AV} {objs : List Ob} {l : List Dt} (h : sel29 args objs = some l) : CnA Tryz.prog args [(.dat 22 (.lst l))] ∧ CnOL Tryz.prog objs [] := by
  unfold sel29 at h
  split at h
  · obtain ⟨hc, h2⟩ := bif_some h
    cases h2
    have e0 := beq_eq hc
    subst e0
    exact ⟨(.cons (.of (.dat (.lst Tryz.underlying22)) rfl rfl) .nil), .nil⟩
  · cases h
def sel31 (args : List AV) (objs : List Ob) : Option (Dt × Dt) := match args, objs with
  | [.dat T0 x0, .dat T1 x1], [] => bif (Nat.beq T0 38 && Nat.beq T1 25) then some (x0, x1) else none
  | _, _ => none
theorem sel31_ok {args : List AV} {objs : List Ob} {l : Dt × Dt} (h : sel31 args objs = some l) : CnA Tryz.prog args [(.dat 38 l.1), (.dat 25 l.2)] ∧ CnOL Tryz.prog objs [] := by
  unfold sel31 at h
  split at h
  · obtain ⟨hc, h2⟩ := bif_some h
    cases h2
    have e0 := beq_eq (and_l hc)
    have e1 := beq_eq (and_r hc)
    subst e0 e1
    exact ⟨(.cons (.of .same rfl rfl) (.cons (.of .same rfl rfl) .nil)), .nil⟩
  · cases h
def sel32 (args : List AV) (objs : List Ob) : Option (Dt × Dt × Dt) := match args, objs with
  | [.dat T0 x0, .dat T1 x1, .dat T2 x2], [] => bif (Nat.beq T0 89 && (Nat.beq T1 25 && Nat.beq T2 25)) then some (x0, x1, x2) else none
  | _, _ => none
theorem sel32_ok {args : List AV} {objs : List Ob} {l : Dt × Dt × Dt} (h : sel32 args objs = some l) : CnA Tryz.prog args [(.dat 89 l.1), (.dat 25 l.2.1), (.dat 25 l.2.2)] ∧ CnOL Tryz.prog objs [] := by
  unfold sel32 at h
  split at h
  · obtain ⟨hc, h2⟩ := bif_some h
    cases h2
    have e0 := beq_eq (and_l hc)
    have e1 := beq_eq (and_l (and_r hc))
    have e2 := beq_eq (and_r (and_r hc))
    subst e0 e1 e2
    exact ⟨(.cons (.of .same rfl rfl) (.cons (.of .same rfl rfl) (.cons (.of .same rfl rfl) .nil))), .nil⟩
  · cases h
def sel33 (args : List AV) (objs : List Ob) : Option (Dt × Dt) := match args, objs with
  | [.dat T0 x0, .dat T1 x1], [] => bif (Nat.beq T0 25 && Nat.beq T1 25) then some (x0, x1) else none
  | _, _ => none
theorem sel33_ok {args : List AV} {objs : List Ob} {l : Dt × Dt} (h : sel33 args objs = some l) : CnA Tryz.prog args [(.dat 25 l.1), (.dat 25 l.2)] ∧ CnOL Tryz.prog objs [] := by
  unfold sel33 at h
  split at h
  · obtain ⟨hc, h2⟩ := bif_some h
    cases h2
    have e0 := beq_eq (and_l hc)
    have e1 := beq_eq (and_r hc)
    subst e0 e1
    exact ⟨(.cons (.of .same rfl rfl) (.cons (.of .same rfl rfl) .nil)), .nil⟩
  · cases h
def sel34 (args : List AV) (objs : List Ob) : Option (Int × Int) := match args, objs with
  | [.dat T0 x0, .dat T1 x1], [] => bif (Nat.beq T0 3 && Nat.beq T1 3) then some (x0.toInt, x1.toInt) else none
  | _, _ => none
theorem sel34_ok {args : List AV} {objs : List Ob} {l : Int × Int} (h : sel34 args objs = some l) : CnA Tryz.prog args [(.dat 3 (.int l.1)), (.dat 3 (.int l.2))] ∧ CnOL Tryz.prog objs [] := by
  unfold sel34 at h
  split at h
  · obtain ⟨hc, h2⟩ := bif_some h
    cases h2
    have e0 := beq_eq (and_l hc)
    have e1 := beq_eq (and_r hc)
    subst e0 e1
    exact ⟨(.cons (.of (.dat (.int Tryz.underlying3)) rfl rfl) (.cons (.of (.dat (.int Tryz.underlying3)) rfl rfl) .nil)), .nil⟩
  · cases h
def sel35 (args : List AV) (objs : List Ob) : Option (ByteArray × ByteArray) := match args, objs with
  | [.dat T0 x0, .dat T1 x1], [] => bif (Nat.beq T0 9 && Nat.beq T1 9) then some (x0.toStr, x1.toStr) else none
  | _, _ => none
theorem sel35_ok {args : List AV} {objs : List Ob} {l : ByteArray × ByteArray} (h : sel35 args objs = some l) : CnA Tryz.prog args [(.dat 9 (.str l.1)), (.dat 9 (.str l.2))] ∧ CnOL Tryz.prog objs [] := by
  unfold sel35 at h
  split at h
  · obtain ⟨hc, h2⟩ := bif_some h
    cases h2
    have e0 := beq_eq (and_l hc)
    have e1 := beq_eq (and_r hc)
    subst e0 e1
    exact ⟨(.cons (.of (.dat (.str Tryz.underlying9)) rfl rfl) (.cons (.of (.dat (.str Tryz.underlying9)) rfl rfl) .nil)), .nil⟩
  · cases h
noncomputable def ct37 {R : Type} (m : Nat) (args : List AV) (objs : List Ob) (K : Res → Option R) : Option R := ruleOfM args objs K
noncomputable def ct5 {R : Type} (m : Nat) (args : List AV) (objs : List Ob) (K : Res → Option R) : Option R := match sel0 args objs with
  | some l => (law32_AccumNumbers m l).bind fun r => K ((.dat 4 (.bool r)), [])
  | none => none
noncomputable def ct9 {R : Type} (m : Nat) (args : List AV) (objs : List Ob) (K : Res → Option R) : Option R := match sel1 args objs with
  | some l => (awakeC).bind fun r => K ((.dat 4 (.bool r)), [])
  | none => none
noncomputable def ct16 {R : Type} (m : Nat) (args : List AV) (objs : List Ob) (K : Res → Option R) : Option R := match sel2 args objs with
  | some l => (law32_doc m l).bind fun r => K ((.dat 25 r), [])
  | none => none
noncomputable def ct14 {R : Type} (m : Nat) (args : List AV) (objs : List Ob) (K : Res → Option R) : Option R := match sel3 args objs with
  | some l => (law32_run m l.1 l.2).bind fun r => K ((.dat 29 r), [])
  | none => none
noncomputable def ct17 {R : Type} (m : Nat) (args : List AV) (objs : List Ob) (K : Res → Option R) : Option R := match sel4 args objs with
  | some l => (accum_Result m l.1 l.2).bind fun r => K ((.dat 25 r), [])
  | none => none
noncomputable def ct23 {R : Type} (m : Nat) (args : List AV) (objs : List Ob) (K : Res → Option R) : Option R := match sel2 args objs with
  | some l => (ref01_Int m l).bind fun r => K ((.dat 25 r), [])
  | none => none
noncomputable def ct19 {R : Type} (m : Nat) (args : List AV) (objs : List Ob) (K : Res → Option R) : Option R := match sel6 args objs with
  | some l => (accum_Start m l).bind fun r => K ((.dat 29 r), [])
  | none => none
noncomputable def ct22 {R : Type} (m : Nat) (args : List AV) (objs : List Ob) (K : Res → Option R) : Option R := match sel7 args objs with
  | some l => (accum_Add m l.1 l.2.1 l.2.2).bind fun r => K ((.dat 29 r), [])
  | none => none
noncomputable def ct78 {R : Type} (m : Nat) (args : List AV) (objs : List Ob) (K : Res → Option R) : Option R := match sel8 args objs with
  | some l => (accum_sumRule_result m l.1 l.2).bind fun r => K ((.dat 25 r), [])
  | none => none
noncomputable def ct25 {R : Type} (m : Nat) (args : List AV) (objs : List Ob) (K : Res → Option R) : Option R := match sel9 args objs with
  | some l => (accum_copyValue m l).bind fun r => K ((.dat 25 r), [])
  | none => none
noncomputable def ct142 {R : Type} (m : Nat) (args : List AV) (objs : List Ob) (K : Res → Option R) : Option R := match sel10 args objs with
  | some l => (accum_countRule_result m l.1 l.2).bind fun r => K ((.dat 25 r), [])
  | none => none
noncomputable def ct145 {R : Type} (m : Nat) (args : List AV) (objs : List Ob) (K : Res → Option R) : Option R := match sel11 args objs with
  | some l => (accum_avgRule_result m l.1 l.2).bind fun r => K ((.dat 25 r), [])
  | none => none
noncomputable def ct149 {R : Type} (m : Nat) (args : List AV) (objs : List Ob) (K : Res → Option R) : Option R := match sel12 args objs with
  | some l => (accum_extremeRule_result m l.1 l.2).bind fun r => K ((.dat 25 r), [])
  | none => none
noncomputable def ct153 {R : Type} (m : Nat) (args : List AV) (objs : List Ob) (K : Res → Option R) : Option R := match sel13 args objs with
  | some l => (accum_firstRule_result m l.1 l.2).bind fun r => K ((.dat 25 r), [])
  | none => none
noncomputable def ct156 {R : Type} (m : Nat) (args : List AV) (objs : List Ob) (K : Res → Option R) : Option R := match sel14 args objs with
  | some l => (accum_lastRule_result m l.1 l.2).bind fun r => K ((.dat 25 r), [])
  | none => none
noncomputable def ct159 {R : Type} (m : Nat) (args : List AV) (objs : List Ob) (K : Res → Option R) : Option R := match sel15 args objs with
  | some l => (resN159 l.1 l.2).bind fun r => K ((.dat 25 r), [])
  | none => none
noncomputable def ct162 {R : Type} (m : Nat) (args : List AV) (objs : List Ob) (K : Res → Option R) : Option R := match sel16 args objs with
  | some l => (resN162 l.1 l.2).bind fun r => K ((.dat 25 r), [])
  | none => none
noncomputable def ct172 {R : Type} (m : Nat) (args : List AV) (objs : List Ob) (K : Res → Option R) : Option R := match sel17 args objs with
  | some l => (resN172 l.1 l.2).bind fun r => K ((.dat 25 r), [])
  | none => none
noncomputable def ct38 {R : Type} (m : Nat) (args : List AV) (objs : List Ob) (K : Res → Option R) : Option R := match sel18 args objs with
  | some l => (accum_copyPart m l).bind fun r => K ((.dat 29 r), [])
  | none => none
noncomputable def ct76 {R : Type} (m : Nat) (args : List AV) (objs : List Ob) (K : Res → Option R) : Option R := match sel19 args objs with
  | some l => (accum_sumRule_add m l.1 l.2.1 l.2.2.1 l.2.2.2).bind fun r => K ((.dat 29 r), [])
  | none => none
noncomputable def ct140 {R : Type} (m : Nat) (args : List AV) (objs : List Ob) (K : Res → Option R) : Option R := match sel20 args objs with
  | some l => (accum_countRule_add m l.1 l.2.1 l.2.2.1 l.2.2.2).bind fun r => K ((.dat 29 r), [])
  | none => none
noncomputable def ct143 {R : Type} (m : Nat) (args : List AV) (objs : List Ob) (K : Res → Option R) : Option R := match sel21 args objs with
  | some l => (accum_avgRule_add m l.1 l.2.1 l.2.2.1 l.2.2.2).bind fun r => K ((.dat 29 r), [])
  | none => none
noncomputable def ct147 {R : Type} (m : Nat) (args : List AV) (objs : List Ob) (K : Res → Option R) : Option R := match sel22 args objs with
  | some l => (accum_extremeRule_add m l.1 l.2.1 l.2.2.1 l.2.2.2).bind fun r => K ((.dat 29 r), [])
  | none => none
noncomputable def ct151 {R : Type} (m : Nat) (args : List AV) (objs : List Ob) (K : Res → Option R) : Option R := match sel23 args objs with
  | some l => (accum_firstRule_add m l.1 l.2.1 l.2.2.1 l.2.2.2).bind fun r => K ((.dat 29 r), [])
  | none => none
noncomputable def ct154 {R : Type} (m : Nat) (args : List AV) (objs : List Ob) (K : Res → Option R) : Option R := match sel24 args objs with
  | some l => (accum_lastRule_add m l.1 l.2.1 l.2.2.1 l.2.2.2).bind fun r => K ((.dat 29 r), [])
  | none => none
noncomputable def ct157 {R : Type} (m : Nat) (args : List AV) (objs : List Ob) (K : Res → Option R) : Option R := match sel25 args objs with
  | some l => (addN157 l.1 l.2.1 l.2.2.1 l.2.2.2).bind fun r => K ((.dat 29 r), [])
  | none => none
noncomputable def ct160 {R : Type} (m : Nat) (args : List AV) (objs : List Ob) (K : Res → Option R) : Option R := match sel26 args objs with
  | some l => (addN160 l.1 l.2.1 l.2.2.1 l.2.2.2).bind fun r => K ((.dat 29 r), [])
  | none => none
noncomputable def ct170 {R : Type} (m : Nat) (args : List AV) (objs : List Ob) (K : Res → Option R) : Option R := match sel27 args objs with
  | some l => (addN170 l.1 l.2.1 l.2.2.1 l.2.2.2).bind fun r => K ((.dat 29 r), [])
  | none => none
noncomputable def ct35 {R : Type} (m : Nat) (args : List AV) (objs : List Ob) (K : Res → Option R) : Option R := match sel2 args objs with
  | some l => (accum_integer m l).bind fun r => K ((.dat 25 r), [])
  | none => none
noncomputable def ct27 {R : Type} (m : Nat) (args : List AV) (objs : List Ob) (K : Res → Option R) : Option R := match sel29 args objs with
  | some l => (accum_copyList m l).bind fun r => K ((.dat 22 (.lst r)), [])
  | none => none
noncomputable def ct146 {R : Type} (m : Nat) (args : List AV) (objs : List Ob) (K : Res → Option R) : Option R := match sel9 args objs with
  | some l => (accum_orNull m l).bind fun r => K ((.dat 25 r), [])
  | none => none
noncomputable def ct79 {R : Type} (m : Nat) (args : List AV) (objs : List Ob) (K : Res → Option R) : Option R := match sel31 args objs with
  | some l => (expr_EvalC l.1 l.2).bind fun r => K ((.dat 25 r), [])
  | none => none
noncomputable def ct150 {R : Type} (m : Nat) (args : List AV) (objs : List Ob) (K : Res → Option R) : Option R := match sel32 args objs with
  | some l => (accum_extremeRule_better m l.1 l.2.1 l.2.2).bind fun r => K ((.dat 25 r), [])
  | none => none
noncomputable def ct92 {R : Type} (m : Nat) (args : List AV) (objs : List Ob) (K : Res → Option R) : Option R := match sel33 args objs with
  | some l => (value_Compare m l.1 l.2).bind fun r => K ((.dat 3 (.int r)), [])
  | none => none
noncomputable def ct112 {R : Type} (m : Nat) (args : List AV) (objs : List Ob) (K : Res → Option R) : Option R := match sel34 args objs with
  | some l => (cmp_Compare m l.1 l.2).bind fun r => K ((.dat 3 (.int r)), [])
  | none => none
noncomputable def ct113 {R : Type} (m : Nat) (args : List AV) (objs : List Ob) (K : Res → Option R) : Option R := match sel35 args objs with
  | some l => (strings_CompareN l.1 l.2).bind fun r => K ((.dat 3 (.int r)), [])
  | none => none
noncomputable def ct127 {R : Type} (m : Nat) (args : List AV) (objs : List Ob) (K : Res → Option R) : Option R := match sel2 args objs with
  | some l => (cmp_isNaN m l).bind fun r => K ((.dat 4 (.bool r)), [])
  | none => none
-- decoders
noncomputable def d5 (q : Res) : Option Dt := match q with
  | (.dat T0 x0, []) => bif Nat.beq T0 25 then some x0 else none
  | _ => none
theorem d5_sim {b : Res} {r : Dt} (h : d5 b = some r) : Sim Tryz.prog b ((.dat 25 r), []) := by
  unfold d5 at h
  split at h
  · obtain ⟨hc, h2⟩ := bif_some h
    cases h2
    have e0 := beq_eq hc
    subst e0
    exact Sim.of (.of .same rfl rfl) .nil
  · cases h
noncomputable def d6 (q : Res) : Option Dt := match q with
  | (.dat T0 x0, []) => bif Nat.beq T0 29 then some x0 else none
  | _ => none
theorem d6_sim {b : Res} {r : Dt} (h : d6 b = some r) : Sim Tryz.prog b ((.dat 29 r), []) := by
  unfold d6 at h
  split at h
  · obtain ⟨hc, h2⟩ := bif_some h
    cases h2
    have e0 := beq_eq hc
    subst e0
    exact Sim.of (.of .same rfl rfl) .nil
  · cases h
noncomputable def d29 (q : Res) : Option (List Dt) := match q with
  | (.dat T0 x0, []) => bif Nat.beq T0 22 then some x0.toLst else none
  | _ => none
theorem d29_sim {b : Res} {r : List Dt} (h : d29 b = some r) : Sim Tryz.prog b ((.dat 22 (.lst r)), []) := by
  unfold d29 at h
  split at h
  · obtain ⟨hc, h2⟩ := bif_some h
    cases h2
    have e0 := beq_eq hc
    subst e0
    exact Sim.of (.of (.dat (.lst Tryz.underlying22)) rfl rfl) .nil
  · cases h
noncomputable def d36 (q : Res) : Option Bool := match q with
  | (.dat T0 x0, []) => bif Nat.beq T0 4 then some x0.toBool else none
  | _ => none
theorem d36_sim {b : Res} {r : Bool} (h : d36 b = some r) : Sim Tryz.prog b ((.dat 4 (.bool r)), []) := by
  unfold d36 at h
  split at h
  · obtain ⟨hc, h2⟩ := bif_some h
    cases h2
    have e0 := beq_eq hc
    subst e0
    exact Sim.of (.of (.dat (.bool Tryz.underlying4)) rfl rfl) .nil
  · cases h
noncomputable def d34 (q : Res) : Option Int := match q with
  | (.dat T0 x0, []) => bif Nat.beq T0 3 then some x0.toInt else none
  | _ => none
theorem d34_sim {b : Res} {r : Int} (h : d34 b = some r) : Sim Tryz.prog b ((.dat 3 (.int r)), []) := by
  unfold d34 at h
  split at h
  · obtain ⟨hc, h2⟩ := bif_some h
    cases h2
    have e0 := beq_eq hc
    subst e0
    exact Sim.of (.of (.dat (.int Tryz.underlying3)) rfl rfl) .nil
  · cases h
noncomputable def ct {R : Type} (m : Nat) (f : FuncId) (args : List AV) (objs : List Ob) (K : Res → Option R) : Option R :=
  bif Nat.beq f 5 then ct5 m args objs K else
  bif Nat.beq f 9 then ct9 m args objs K else
  bif Nat.beq f 16 then ct16 m args objs K else
  bif Nat.beq f 14 then ct14 m args objs K else
  bif Nat.beq f 17 then ct17 m args objs K else
  bif Nat.beq f 23 then ct23 m args objs K else
  bif Nat.beq f 19 then ct19 m args objs K else
  bif Nat.beq f 22 then ct22 m args objs K else
  bif Nat.beq f 78 then ct78 m args objs K else
  bif Nat.beq f 25 then ct25 m args objs K else
  bif Nat.beq f 142 then ct142 m args objs K else
  bif Nat.beq f 145 then ct145 m args objs K else
  bif Nat.beq f 149 then ct149 m args objs K else
  bif Nat.beq f 153 then ct153 m args objs K else
  bif Nat.beq f 156 then ct156 m args objs K else
  bif Nat.beq f 159 then ct159 m args objs K else
  bif Nat.beq f 162 then ct162 m args objs K else
  bif Nat.beq f 172 then ct172 m args objs K else
  bif Nat.beq f 38 then ct38 m args objs K else
  bif Nat.beq f 76 then ct76 m args objs K else
  bif Nat.beq f 140 then ct140 m args objs K else
  bif Nat.beq f 143 then ct143 m args objs K else
  bif Nat.beq f 147 then ct147 m args objs K else
  bif Nat.beq f 151 then ct151 m args objs K else
  bif Nat.beq f 154 then ct154 m args objs K else
  bif Nat.beq f 157 then ct157 m args objs K else
  bif Nat.beq f 160 then ct160 m args objs K else
  bif Nat.beq f 170 then ct170 m args objs K else
  bif Nat.beq f 35 then ct35 m args objs K else
  bif Nat.beq f 27 then ct27 m args objs K else
  bif Nat.beq f 146 then ct146 m args objs K else
  bif Nat.beq f 79 then ct79 m args objs K else
  bif Nat.beq f 150 then ct150 m args objs K else
  bif Nat.beq f 92 then ct92 m args objs K else
  bif Nat.beq f 112 then ct112 m args objs K else
  bif Nat.beq f 113 then ct113 m args objs K else
  bif Nat.beq f 127 then ct127 m args objs K else
  bif Nat.beq f 37 then ct37 m args objs K else
  none
end Go.Proofs.YtacpcknpliomoaaGreat
