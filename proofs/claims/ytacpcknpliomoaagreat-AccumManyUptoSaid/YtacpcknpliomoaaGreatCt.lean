/- Generated: the functions as contracts for their callers. -/
import Derived.Test.YtacpcknpliomoaaGreatSh
import Derived.Test.YtacpcknpliomoaaGreatProg
set_option linter.unusedVariables false
set_option linter.unusedSimpArgs false
namespace Go.Proofs.YtacpcknpliomoaaGreat
open Go.Am
def sel0 (args : List AV) (objs : List Ob) : Option (Int × Int × Int) := match args, objs with
  | [.dat T0 x0, .dat T1 x1, .dat T2 x2], [] => bif (Nat.beq T0 54 && (Nat.beq T1 54 && Nat.beq T2 5)) then some (x0.toInt, x1.toInt, x2.toInt) else none
  | _, _ => none
theorem sel0_ok {args : List AV} {objs : List Ob} {l : Int × Int × Int} (h : sel0 args objs = some l) : CnA Tryz.prog args [(.dat 54 (.int l.1)), (.dat 54 (.int l.2.1)), (.dat 5 (.int l.2.2))] ∧ CnOL Tryz.prog objs [] := by
  unfold sel0 at h
  split at h
  · obtain ⟨hc, h2⟩ := bif_some h
    cases h2
    have e0 := beq_eq (and_l hc)
    have e1 := beq_eq (and_l (and_r hc))
    have e2 := beq_eq (and_r (and_r hc))
    subst e0 e1 e2
    exact ⟨(.cons (.of (.dat (.int Tryz.underlying54)) rfl rfl) (.cons (.of (.dat (.int Tryz.underlying54)) rfl rfl) (.cons (.of (.dat (.int Tryz.underlying5)) rfl rfl) .nil))), .nil⟩
  · cases h
def sel1 (args : List AV) (objs : List Ob) : Option Int := match args, objs with
  | [.dat T0 x0], [] => bif Nat.beq T0 3 then some x0.toInt else none
  | _, _ => none
theorem sel1_ok {args : List AV} {objs : List Ob} {l : Int} (h : sel1 args objs = some l) : CnA Tryz.prog args [(.dat 3 (.int l))] ∧ CnOL Tryz.prog objs [] := by
  unfold sel1 at h
  split at h
  · obtain ⟨hc, h2⟩ := bif_some h
    cases h2
    have e0 := beq_eq hc
    subst e0
    exact ⟨(.cons (.of (.dat (.int Tryz.underlying3)) rfl rfl) .nil), .nil⟩
  · cases h
def sel2 (args : List AV) (objs : List Ob) : Option (Dt × List Dt) := match args, objs with
  | [.dat T0 x0, .dat T1 x1], [] => bif (Nat.beq T0 41 && Nat.beq T1 22) then some (x0, x1.toLst) else none
  | _, _ => none
theorem sel2_ok {args : List AV} {objs : List Ob} {l : Dt × List Dt} (h : sel2 args objs = some l) : CnA Tryz.prog args [(.dat 41 l.1), (.dat 22 (.lst l.2))] ∧ CnOL Tryz.prog objs [] := by
  unfold sel2 at h
  split at h
  · obtain ⟨hc, h2⟩ := bif_some h
    cases h2
    have e0 := beq_eq (and_l hc)
    have e1 := beq_eq (and_r hc)
    subst e0 e1
    exact ⟨(.cons (.of .same rfl rfl) (.cons (.of (.dat (.lst Tryz.underlying22)) rfl rfl) .nil)), .nil⟩
  · cases h
def sel3 (args : List AV) (objs : List Ob) : Option (Dt × Dt × Dt) := match args, objs with
  | [.dat T0 x0, .dat T1 x1, .dat T2 x2], [] => bif (Nat.beq T0 41 && (Nat.beq T1 29 && Nat.beq T2 29)) then some (x0, x1, x2) else none
  | _, _ => none
theorem sel3_ok {args : List AV} {objs : List Ob} {l : Dt × Dt × Dt} (h : sel3 args objs = some l) : CnA Tryz.prog args [(.dat 41 l.1), (.dat 29 l.2.1), (.dat 29 l.2.2)] ∧ CnOL Tryz.prog objs [] := by
  unfold sel3 at h
  split at h
  · obtain ⟨hc, h2⟩ := bif_some h
    cases h2
    have e0 := beq_eq (and_l hc)
    have e1 := beq_eq (and_l (and_r hc))
    have e2 := beq_eq (and_r (and_r hc))
    subst e0 e1 e2
    exact ⟨(.cons (.of .same rfl rfl) (.cons (.of .same rfl rfl) (.cons (.of .same rfl rfl) .nil))), .nil⟩
  · cases h
def sel4 (args : List AV) (objs : List Ob) : Option (Dt × Dt) := match args, objs with
  | [.dat T0 x0, .dat T1 x1], [] => bif (Nat.beq T0 25 && Nat.beq T1 25) then some (x0, x1) else none
  | _, _ => none
theorem sel4_ok {args : List AV} {objs : List Ob} {l : Dt × Dt} (h : sel4 args objs = some l) : CnA Tryz.prog args [(.dat 25 l.1), (.dat 25 l.2)] ∧ CnOL Tryz.prog objs [] := by
  unfold sel4 at h
  split at h
  · obtain ⟨hc, h2⟩ := bif_some h
    cases h2
    have e0 := beq_eq (and_l hc)
    have e1 := beq_eq (and_r hc)
    subst e0 e1
    exact ⟨(.cons (.of .same rfl rfl) (.cons (.of .same rfl rfl) .nil)), .nil⟩
  · cases h
def sel5 (args : List AV) (objs : List Ob) : Option Unit := match args, objs with
  | [], [] => bif true then some () else none
  | _, _ => none
theorem sel5_ok {args : List AV} {objs : List Ob} {l : Unit} (h : sel5 args objs = some l) : CnA Tryz.prog args [] ∧ CnOL Tryz.prog objs [] := by
  unfold sel5 at h
  split at h
  · obtain ⟨hc, h2⟩ := bif_some h
    cases h2
    exact ⟨.nil, .nil⟩
  · cases h
def sel7 (args : List AV) (objs : List Ob) : Option Dt := match args, objs with
  | [.dat T0 x0], [] => bif Nat.beq T0 41 then some x0 else none
  | _, _ => none
theorem sel7_ok {args : List AV} {objs : List Ob} {l : Dt} (h : sel7 args objs = some l) : CnA Tryz.prog args [(.dat 41 l)] ∧ CnOL Tryz.prog objs [] := by
  unfold sel7 at h
  split at h
  · obtain ⟨hc, h2⟩ := bif_some h
    cases h2
    have e0 := beq_eq hc
    subst e0
    exact ⟨(.cons (.of .same rfl rfl) .nil), .nil⟩
  · cases h
def sel8 (args : List AV) (objs : List Ob) : Option (Dt × Dt × Dt) := match args, objs with
  | [.dat T0 x0, .dat T1 x1, .dat T2 x2], [] => bif (Nat.beq T0 41 && (Nat.beq T1 29 && Nat.beq T2 25)) then some (x0, x1, x2) else none
  | _, _ => none
theorem sel8_ok {args : List AV} {objs : List Ob} {l : Dt × Dt × Dt} (h : sel8 args objs = some l) : CnA Tryz.prog args [(.dat 41 l.1), (.dat 29 l.2.1), (.dat 25 l.2.2)] ∧ CnOL Tryz.prog objs [] := by
  unfold sel8 at h
  split at h
  · obtain ⟨hc, h2⟩ := bif_some h
    cases h2
    have e0 := beq_eq (and_l hc)
    have e1 := beq_eq (and_l (and_r hc))
    have e2 := beq_eq (and_r (and_r hc))
    subst e0 e1 e2
    exact ⟨(.cons (.of .same rfl rfl) (.cons (.of .same rfl rfl) (.cons (.of .same rfl rfl) .nil))), .nil⟩
  · cases h
def sel9 (args : List AV) (objs : List Ob) : Option Dt := match args, objs with
  | [.dat T0 x0], [] => bif Nat.beq T0 29 then some x0 else none
  | _, _ => none
theorem sel9_ok {args : List AV} {objs : List Ob} {l : Dt} (h : sel9 args objs = some l) : CnA Tryz.prog args [(.dat 29 l)] ∧ CnOL Tryz.prog objs [] := by
  unfold sel9 at h
  split at h
  · obtain ⟨hc, h2⟩ := bif_some h
    cases h2
    have e0 := beq_eq hc
    subst e0
    exact ⟨(.cons (.of .same rfl rfl) .nil), .nil⟩
  · cases h
def sel10 (args : List AV) (objs : List Ob) : Option Dt := match args, objs with
  | [.dat T0 x0], [] => bif Nat.beq T0 25 then some x0 else none
  | _, _ => none
theorem sel10_ok {args : List AV} {objs : List Ob} {l : Dt} (h : sel10 args objs = some l) : CnA Tryz.prog args [(.dat 25 l)] ∧ CnOL Tryz.prog objs [] := by
  unfold sel10 at h
  split at h
  · obtain ⟨hc, h2⟩ := bif_some h
    cases h2
    have e0 := beq_eq hc
    subst e0
    exact ⟨(.cons (.of .same rfl rfl) .nil), .nil⟩
  · cases h
def sel11 (args : List AV) (objs : List Ob) : Option (List Dt) := match args, objs with
  | [.dat T0 x0], [] => bif Nat.beq T0 22 then some x0.toLst else none
  | _, _ => none
theorem sel11_ok {args : List AV} {objs : List Ob} {l : List Dt} (h : sel11 args objs = some l) : CnA Tryz.prog args [(.dat 22 (.lst l))] ∧ CnOL Tryz.prog objs [] := by
  unfold sel11 at h
  split at h
  · obtain ⟨hc, h2⟩ := bif_some h
    cases h2
    have e0 := beq_eq hc
    subst e0
    exact ⟨(.cons (.of (.dat (.lst Tryz.underlying22)) rfl rfl) .nil), .nil⟩
  · cases h
def sel12 (args : List AV) (objs : List Ob) : Option (Dt × Int × Int × Int × Dt × Int × Int × Int × Dt × List Dt × List Dt × List Dt × List Dt) := match args, objs with
  | [.agg T0 [], .dat T1 x1, .agg T2 [.dat T3 x3, .dat T4 x4, .dat T5 x5, .dat T6 x6, .row n7, .row n8], .agg T9 [.dat T10 x10, .dat T11 x11, .dat T12 x12, .dat T13 x13, .row n14, .row n15]], [.row T16 x16, .row T17 x17, .row T18 x18, .row T19 x19] => bif (Nat.beq T0 92 && (Nat.beq T1 41 && (Nat.beq T2 29 && (Nat.beq T3 3 && (Nat.beq T4 3 && (Nat.beq T5 3 && (Nat.beq T6 25 && (Nat.beq n7 0 && (Nat.beq n8 1 && (Nat.beq T9 29 && (Nat.beq T10 3 && (Nat.beq T11 3 && (Nat.beq T12 3 && (Nat.beq T13 25 && (Nat.beq n14 2 && (Nat.beq n15 3 && (Nat.beq T16 22 && (Nat.beq T17 22 && (Nat.beq T18 22 && Nat.beq T19 22))))))))))))))))))) then some (x1, x3.toInt, x4.toInt, x5.toInt, x6, x10.toInt, x11.toInt, x12.toInt, x13, x16, x17, x18, x19) else none
  | _, _ => none
theorem sel12_ok {args : List AV} {objs : List Ob} {l : Dt × Int × Int × Int × Dt × Int × Int × Int × Dt × List Dt × List Dt × List Dt × List Dt} (h : sel12 args objs = some l) : CnA Tryz.prog args [(.agg 92 []), (.dat 41 l.1), (.agg 29 [(.dat 3 (.int l.2.1)), (.dat 3 (.int l.2.2.1)), (.dat 3 (.int l.2.2.2.1)), (.dat 25 l.2.2.2.2.1), (.row 0), (.row 1)]), (.agg 29 [(.dat 3 (.int l.2.2.2.2.2.1)), (.dat 3 (.int l.2.2.2.2.2.2.1)), (.dat 3 (.int l.2.2.2.2.2.2.2.1)), (.dat 25 l.2.2.2.2.2.2.2.2.1), (.row 2), (.row 3)])] ∧ CnOL Tryz.prog objs [(.row 22 l.2.2.2.2.2.2.2.2.2.1), (.row 22 l.2.2.2.2.2.2.2.2.2.2.1), (.row 22 l.2.2.2.2.2.2.2.2.2.2.2.1), (.row 22 l.2.2.2.2.2.2.2.2.2.2.2.2)] := by
  unfold sel12 at h
  split at h
  · obtain ⟨hc, h2⟩ := bif_some h
    cases h2
    have e0 := beq_eq (and_l hc)
    have e1 := beq_eq (and_l (and_r hc))
    have e2 := beq_eq (and_l (and_r (and_r hc)))
    have e3 := beq_eq (and_l (and_r (and_r (and_r hc))))
    have e4 := beq_eq (and_l (and_r (and_r (and_r (and_r hc)))))
    have e5 := beq_eq (and_l (and_r (and_r (and_r (and_r (and_r hc))))))
    have e6 := beq_eq (and_l (and_r (and_r (and_r (and_r (and_r (and_r hc)))))))
    have e7 := beq_eq (and_l (and_r (and_r (and_r (and_r (and_r (and_r (and_r hc))))))))
    have e8 := beq_eq (and_l (and_r (and_r (and_r (and_r (and_r (and_r (and_r (and_r hc)))))))))
    have e9 := beq_eq (and_l (and_r (and_r (and_r (and_r (and_r (and_r (and_r (and_r (and_r hc))))))))))
    have e10 := beq_eq (and_l (and_r (and_r (and_r (and_r (and_r (and_r (and_r (and_r (and_r (and_r hc)))))))))))
    have e11 := beq_eq (and_l (and_r (and_r (and_r (and_r (and_r (and_r (and_r (and_r (and_r (and_r (and_r hc))))))))))))
    have e12 := beq_eq (and_l (and_r (and_r (and_r (and_r (and_r (and_r (and_r (and_r (and_r (and_r (and_r (and_r hc)))))))))))))
    have e13 := beq_eq (and_l (and_r (and_r (and_r (and_r (and_r (and_r (and_r (and_r (and_r (and_r (and_r (and_r (and_r hc))))))))))))))
    have e14 := beq_eq (and_l (and_r (and_r (and_r (and_r (and_r (and_r (and_r (and_r (and_r (and_r (and_r (and_r (and_r (and_r hc)))))))))))))))
    have e15 := beq_eq (and_l (and_r (and_r (and_r (and_r (and_r (and_r (and_r (and_r (and_r (and_r (and_r (and_r (and_r (and_r (and_r hc))))))))))))))))
    have e16 := beq_eq (and_l (and_r (and_r (and_r (and_r (and_r (and_r (and_r (and_r (and_r (and_r (and_r (and_r (and_r (and_r (and_r (and_r hc)))))))))))))))))
    have e17 := beq_eq (and_l (and_r (and_r (and_r (and_r (and_r (and_r (and_r (and_r (and_r (and_r (and_r (and_r (and_r (and_r (and_r (and_r (and_r hc))))))))))))))))))
    have e18 := beq_eq (and_l (and_r (and_r (and_r (and_r (and_r (and_r (and_r (and_r (and_r (and_r (and_r (and_r (and_r (and_r (and_r (and_r (and_r (and_r hc)))))))))))))))))))
    have e19 := beq_eq (and_r (and_r (and_r (and_r (and_r (and_r (and_r (and_r (and_r (and_r (and_r (and_r (and_r (and_r (and_r (and_r (and_r (and_r (and_r hc)))))))))))))))))))
    subst e0 e1 e2 e3 e4 e5 e6 e7 e8 e9 e10 e11 e12 e13 e14 e15 e16 e17 e18 e19
    exact ⟨(.cons (.of (.agg .nil) rfl rfl) (.cons (.of .same rfl rfl) (.cons (.of (.agg (.cons (.dat (.int Tryz.underlying3)) (.cons (.dat (.int Tryz.underlying3)) (.cons (.dat (.int Tryz.underlying3)) (.cons .same (.cons .same (.cons .same .nil))))))) rfl rfl) (.cons (.of (.agg (.cons (.dat (.int Tryz.underlying3)) (.cons (.dat (.int Tryz.underlying3)) (.cons (.dat (.int Tryz.underlying3)) (.cons .same (.cons .same (.cons .same .nil))))))) rfl rfl) .nil)))), (.cons .same (.cons .same (.cons .same (.cons .same .nil))))⟩
  · cases h
def sel13 (args : List AV) (objs : List Ob) : Option (Dt × Int × Int × Int × Dt × Int × Int × Int × Dt × List Dt × List Dt × List Dt × List Dt) := match args, objs with
  | [.agg T0 [], .dat T1 x1, .agg T2 [.dat T3 x3, .dat T4 x4, .dat T5 x5, .dat T6 x6, .row n7, .row n8], .agg T9 [.dat T10 x10, .dat T11 x11, .dat T12 x12, .dat T13 x13, .row n14, .row n15]], [.row T16 x16, .row T17 x17, .row T18 x18, .row T19 x19] => bif (Nat.beq T0 93 && (Nat.beq T1 41 && (Nat.beq T2 29 && (Nat.beq T3 3 && (Nat.beq T4 3 && (Nat.beq T5 3 && (Nat.beq T6 25 && (Nat.beq n7 0 && (Nat.beq n8 1 && (Nat.beq T9 29 && (Nat.beq T10 3 && (Nat.beq T11 3 && (Nat.beq T12 3 && (Nat.beq T13 25 && (Nat.beq n14 2 && (Nat.beq n15 3 && (Nat.beq T16 22 && (Nat.beq T17 22 && (Nat.beq T18 22 && Nat.beq T19 22))))))))))))))))))) then some (x1, x3.toInt, x4.toInt, x5.toInt, x6, x10.toInt, x11.toInt, x12.toInt, x13, x16, x17, x18, x19) else none
  | _, _ => none
theorem sel13_ok {args : List AV} {objs : List Ob} {l : Dt × Int × Int × Int × Dt × Int × Int × Int × Dt × List Dt × List Dt × List Dt × List Dt} (h : sel13 args objs = some l) : CnA Tryz.prog args [(.agg 93 []), (.dat 41 l.1), (.agg 29 [(.dat 3 (.int l.2.1)), (.dat 3 (.int l.2.2.1)), (.dat 3 (.int l.2.2.2.1)), (.dat 25 l.2.2.2.2.1), (.row 0), (.row 1)]), (.agg 29 [(.dat 3 (.int l.2.2.2.2.2.1)), (.dat 3 (.int l.2.2.2.2.2.2.1)), (.dat 3 (.int l.2.2.2.2.2.2.2.1)), (.dat 25 l.2.2.2.2.2.2.2.2.1), (.row 2), (.row 3)])] ∧ CnOL Tryz.prog objs [(.row 22 l.2.2.2.2.2.2.2.2.2.1), (.row 22 l.2.2.2.2.2.2.2.2.2.2.1), (.row 22 l.2.2.2.2.2.2.2.2.2.2.2.1), (.row 22 l.2.2.2.2.2.2.2.2.2.2.2.2)] := by
  unfold sel13 at h
  split at h
  · obtain ⟨hc, h2⟩ := bif_some h
    cases h2
    have e0 := beq_eq (and_l hc)
    have e1 := beq_eq (and_l (and_r hc))
    have e2 := beq_eq (and_l (and_r (and_r hc)))
    have e3 := beq_eq (and_l (and_r (and_r (and_r hc))))
    have e4 := beq_eq (and_l (and_r (and_r (and_r (and_r hc)))))
    have e5 := beq_eq (and_l (and_r (and_r (and_r (and_r (and_r hc))))))
    have e6 := beq_eq (and_l (and_r (and_r (and_r (and_r (and_r (and_r hc)))))))
    have e7 := beq_eq (and_l (and_r (and_r (and_r (and_r (and_r (and_r (and_r hc))))))))
    have e8 := beq_eq (and_l (and_r (and_r (and_r (and_r (and_r (and_r (and_r (and_r hc)))))))))
    have e9 := beq_eq (and_l (and_r (and_r (and_r (and_r (and_r (and_r (and_r (and_r (and_r hc))))))))))
    have e10 := beq_eq (and_l (and_r (and_r (and_r (and_r (and_r (and_r (and_r (and_r (and_r (and_r hc)))))))))))
    have e11 := beq_eq (and_l (and_r (and_r (and_r (and_r (and_r (and_r (and_r (and_r (and_r (and_r (and_r hc))))))))))))
    have e12 := beq_eq (and_l (and_r (and_r (and_r (and_r (and_r (and_r (and_r (and_r (and_r (and_r (and_r (and_r hc)))))))))))))
    have e13 := beq_eq (and_l (and_r (and_r (and_r (and_r (and_r (and_r (and_r (and_r (and_r (and_r (and_r (and_r (and_r hc))))))))))))))
    have e14 := beq_eq (and_l (and_r (and_r (and_r (and_r (and_r (and_r (and_r (and_r (and_r (and_r (and_r (and_r (and_r (and_r hc)))))))))))))))
    have e15 := beq_eq (and_l (and_r (and_r (and_r (and_r (and_r (and_r (and_r (and_r (and_r (and_r (and_r (and_r (and_r (and_r (and_r hc))))))))))))))))
    have e16 := beq_eq (and_l (and_r (and_r (and_r (and_r (and_r (and_r (and_r (and_r (and_r (and_r (and_r (and_r (and_r (and_r (and_r (and_r hc)))))))))))))))))
    have e17 := beq_eq (and_l (and_r (and_r (and_r (and_r (and_r (and_r (and_r (and_r (and_r (and_r (and_r (and_r (and_r (and_r (and_r (and_r (and_r hc))))))))))))))))))
    have e18 := beq_eq (and_l (and_r (and_r (and_r (and_r (and_r (and_r (and_r (and_r (and_r (and_r (and_r (and_r (and_r (and_r (and_r (and_r (and_r (and_r hc)))))))))))))))))))
    have e19 := beq_eq (and_r (and_r (and_r (and_r (and_r (and_r (and_r (and_r (and_r (and_r (and_r (and_r (and_r (and_r (and_r (and_r (and_r (and_r (and_r hc)))))))))))))))))))
    subst e0 e1 e2 e3 e4 e5 e6 e7 e8 e9 e10 e11 e12 e13 e14 e15 e16 e17 e18 e19
    exact ⟨(.cons (.of (.agg .nil) rfl rfl) (.cons (.of .same rfl rfl) (.cons (.of (.agg (.cons (.dat (.int Tryz.underlying3)) (.cons (.dat (.int Tryz.underlying3)) (.cons (.dat (.int Tryz.underlying3)) (.cons .same (.cons .same (.cons .same .nil))))))) rfl rfl) (.cons (.of (.agg (.cons (.dat (.int Tryz.underlying3)) (.cons (.dat (.int Tryz.underlying3)) (.cons (.dat (.int Tryz.underlying3)) (.cons .same (.cons .same (.cons .same .nil))))))) rfl rfl) .nil)))), (.cons .same (.cons .same (.cons .same (.cons .same .nil))))⟩
  · cases h
def sel14 (args : List AV) (objs : List Ob) : Option (Dt × Dt × List Dt) := match args, objs with
  | [.dat T0 x0, .row n1, .dat T2 x2], [.row T3 x3] => bif (Nat.beq T0 93 && (Nat.beq n1 0 && (Nat.beq T2 25 && Nat.beq T3 22))) then some (x0, x2, x3) else none
  | _, _ => none
theorem sel14_ok {args : List AV} {objs : List Ob} {l : Dt × Dt × List Dt} (h : sel14 args objs = some l) : CnA Tryz.prog args [(.dat 93 l.1), (.row 0), (.dat 25 l.2.1)] ∧ CnOL Tryz.prog objs [(.row 22 l.2.2)] := by
  unfold sel14 at h
  split at h
  · obtain ⟨hc, h2⟩ := bif_some h
    cases h2
    have e0 := beq_eq (and_l hc)
    have e1 := beq_eq (and_l (and_r hc))
    have e2 := beq_eq (and_l (and_r (and_r hc)))
    have e3 := beq_eq (and_r (and_r (and_r hc)))
    subst e0 e1 e2 e3
    exact ⟨(.cons (.of .same rfl rfl) (.cons (.of .same rfl rfl) (.cons (.of .same rfl rfl) .nil))), (.cons .same .nil)⟩
  · cases h
def sel15 (args : List AV) (objs : List Ob) : Option (List Dt × Dt) := match args, objs with
  | [.dat T0 x0, .dat T1 x1, .fn T2 []], [] => bif (Nat.beq T0 22 && (Nat.beq T1 25 && Nat.beq T2 92)) then some (x0.toLst, x1) else none
  | _, _ => none
theorem sel15_ok {args : List AV} {objs : List Ob} {l : List Dt × Dt} (h : sel15 args objs = some l) : CnA Tryz.prog args [(.dat 22 (.lst l.1)), (.dat 25 l.2), (.fn 92 [])] ∧ CnOL Tryz.prog objs [] := by
  unfold sel15 at h
  split at h
  · obtain ⟨hc, h2⟩ := bif_some h
    cases h2
    have e0 := beq_eq (and_l hc)
    have e1 := beq_eq (and_l (and_r hc))
    have e2 := beq_eq (and_r (and_r hc))
    subst e0 e1 e2
    exact ⟨(.cons (.of (.dat (.lst Tryz.underlying22)) rfl rfl) (.cons (.of .same rfl rfl) (.cons (.of (.fn .nil) rfl rfl) .nil))), .nil⟩
  · cases h
def sel17 (args : List AV) (objs : List Ob) : Option (Int × List Dt × List Dt) := match args, objs with
  | [.row n0, .dat T1 x1, .row n2], [.row T3 x3, .row T4 x4] => bif (Nat.beq n0 0 && (Nat.beq T1 3 && (Nat.beq n2 1 && (Nat.beq T3 22 && Nat.beq T4 22)))) then some (x1.toInt, x3, x4) else none
  | _, _ => none
theorem sel17_ok {args : List AV} {objs : List Ob} {l : Int × List Dt × List Dt} (h : sel17 args objs = some l) : CnA Tryz.prog args [(.row 0), (.dat 3 (.int l.1)), (.row 1)] ∧ CnOL Tryz.prog objs [(.row 22 l.2.1), (.row 22 l.2.2)] := by
  unfold sel17 at h
  split at h
  · obtain ⟨hc, h2⟩ := bif_some h
    cases h2
    have e0 := beq_eq (and_l hc)
    have e1 := beq_eq (and_l (and_r hc))
    have e2 := beq_eq (and_l (and_r (and_r hc)))
    have e3 := beq_eq (and_l (and_r (and_r (and_r hc))))
    have e4 := beq_eq (and_r (and_r (and_r (and_r hc))))
    subst e0 e1 e2 e3 e4
    exact ⟨(.cons (.of .same rfl rfl) (.cons (.of (.dat (.int Tryz.underlying3)) rfl rfl) (.cons (.of .same rfl rfl) .nil))), (.cons .same (.cons .same .nil))⟩
  · cases h
def sel18 (args : List AV) (objs : List Ob) : Option (Dt × Int × Int × Int × Dt × Dt × List Dt × List Dt) := match args, objs with
  | [.agg T0 [], .dat T1 x1, .agg T2 [.dat T3 x3, .dat T4 x4, .dat T5 x5, .dat T6 x6, .row n7, .row n8], .dat T9 x9], [.row T10 x10, .row T11 x11] => bif (Nat.beq T0 92 && (Nat.beq T1 41 && (Nat.beq T2 29 && (Nat.beq T3 3 && (Nat.beq T4 3 && (Nat.beq T5 3 && (Nat.beq T6 25 && (Nat.beq n7 0 && (Nat.beq n8 1 && (Nat.beq T9 25 && (Nat.beq T10 22 && Nat.beq T11 22))))))))))) then some (x1, x3.toInt, x4.toInt, x5.toInt, x6, x9, x10, x11) else none
  | _, _ => none
theorem sel18_ok {args : List AV} {objs : List Ob} {l : Dt × Int × Int × Int × Dt × Dt × List Dt × List Dt} (h : sel18 args objs = some l) : CnA Tryz.prog args [(.agg 92 []), (.dat 41 l.1), (.agg 29 [(.dat 3 (.int l.2.1)), (.dat 3 (.int l.2.2.1)), (.dat 3 (.int l.2.2.2.1)), (.dat 25 l.2.2.2.2.1), (.row 0), (.row 1)]), (.dat 25 l.2.2.2.2.2.1)] ∧ CnOL Tryz.prog objs [(.row 22 l.2.2.2.2.2.2.1), (.row 22 l.2.2.2.2.2.2.2)] := by
  unfold sel18 at h
  split at h
  · obtain ⟨hc, h2⟩ := bif_some h
    cases h2
    have e0 := beq_eq (and_l hc)
    have e1 := beq_eq (and_l (and_r hc))
    have e2 := beq_eq (and_l (and_r (and_r hc)))
    have e3 := beq_eq (and_l (and_r (and_r (and_r hc))))
    have e4 := beq_eq (and_l (and_r (and_r (and_r (and_r hc)))))
    have e5 := beq_eq (and_l (and_r (and_r (and_r (and_r (and_r hc))))))
    have e6 := beq_eq (and_l (and_r (and_r (and_r (and_r (and_r (and_r hc)))))))
    have e7 := beq_eq (and_l (and_r (and_r (and_r (and_r (and_r (and_r (and_r hc))))))))
    have e8 := beq_eq (and_l (and_r (and_r (and_r (and_r (and_r (and_r (and_r (and_r hc)))))))))
    have e9 := beq_eq (and_l (and_r (and_r (and_r (and_r (and_r (and_r (and_r (and_r (and_r hc))))))))))
    have e10 := beq_eq (and_l (and_r (and_r (and_r (and_r (and_r (and_r (and_r (and_r (and_r (and_r hc)))))))))))
    have e11 := beq_eq (and_r (and_r (and_r (and_r (and_r (and_r (and_r (and_r (and_r (and_r (and_r hc)))))))))))
    subst e0 e1 e2 e3 e4 e5 e6 e7 e8 e9 e10 e11
    exact ⟨(.cons (.of (.agg .nil) rfl rfl) (.cons (.of .same rfl rfl) (.cons (.of (.agg (.cons (.dat (.int Tryz.underlying3)) (.cons (.dat (.int Tryz.underlying3)) (.cons (.dat (.int Tryz.underlying3)) (.cons .same (.cons .same (.cons .same .nil))))))) rfl rfl) (.cons (.of .same rfl rfl) .nil)))), (.cons .same (.cons .same .nil))⟩
  · cases h
def sel19 (args : List AV) (objs : List Ob) : Option (Dt × Dt) := match args, objs with
  | [.dat T0 x0, .dat T1 x1], [] => bif (Nat.beq T0 38 && Nat.beq T1 25) then some (x0, x1) else none
  | _, _ => none
theorem sel19_ok {args : List AV} {objs : List Ob} {l : Dt × Dt} (h : sel19 args objs = some l) : CnA Tryz.prog args [(.dat 38 l.1), (.dat 25 l.2)] ∧ CnOL Tryz.prog objs [] := by
  unfold sel19 at h
  split at h
  · obtain ⟨hc, h2⟩ := bif_some h
    cases h2
    have e0 := beq_eq (and_l hc)
    have e1 := beq_eq (and_r hc)
    subst e0 e1
    exact ⟨(.cons (.of .same rfl rfl) (.cons (.of .same rfl rfl) .nil)), .nil⟩
  · cases h
def sel21 (args : List AV) (objs : List Ob) : Option (Dt × Int × Int × Int × Dt × Dt × List Dt × List Dt) := match args, objs with
  | [.agg T0 [], .dat T1 x1, .agg T2 [.dat T3 x3, .dat T4 x4, .dat T5 x5, .dat T6 x6, .row n7, .row n8], .dat T9 x9], [.row T10 x10, .row T11 x11] => bif (Nat.beq T0 93 && (Nat.beq T1 41 && (Nat.beq T2 29 && (Nat.beq T3 3 && (Nat.beq T4 3 && (Nat.beq T5 3 && (Nat.beq T6 25 && (Nat.beq n7 0 && (Nat.beq n8 1 && (Nat.beq T9 25 && (Nat.beq T10 22 && Nat.beq T11 22))))))))))) then some (x1, x3.toInt, x4.toInt, x5.toInt, x6, x9, x10, x11) else none
  | _, _ => none
theorem sel21_ok {args : List AV} {objs : List Ob} {l : Dt × Int × Int × Int × Dt × Dt × List Dt × List Dt} (h : sel21 args objs = some l) : CnA Tryz.prog args [(.agg 93 []), (.dat 41 l.1), (.agg 29 [(.dat 3 (.int l.2.1)), (.dat 3 (.int l.2.2.1)), (.dat 3 (.int l.2.2.2.1)), (.dat 25 l.2.2.2.2.1), (.row 0), (.row 1)]), (.dat 25 l.2.2.2.2.2.1)] ∧ CnOL Tryz.prog objs [(.row 22 l.2.2.2.2.2.2.1), (.row 22 l.2.2.2.2.2.2.2)] := by
  unfold sel21 at h
  split at h
  · obtain ⟨hc, h2⟩ := bif_some h
    cases h2
    have e0 := beq_eq (and_l hc)
    have e1 := beq_eq (and_l (and_r hc))
    have e2 := beq_eq (and_l (and_r (and_r hc)))
    have e3 := beq_eq (and_l (and_r (and_r (and_r hc))))
    have e4 := beq_eq (and_l (and_r (and_r (and_r (and_r hc)))))
    have e5 := beq_eq (and_l (and_r (and_r (and_r (and_r (and_r hc))))))
    have e6 := beq_eq (and_l (and_r (and_r (and_r (and_r (and_r (and_r hc)))))))
    have e7 := beq_eq (and_l (and_r (and_r (and_r (and_r (and_r (and_r (and_r hc))))))))
    have e8 := beq_eq (and_l (and_r (and_r (and_r (and_r (and_r (and_r (and_r (and_r hc)))))))))
    have e9 := beq_eq (and_l (and_r (and_r (and_r (and_r (and_r (and_r (and_r (and_r (and_r hc))))))))))
    have e10 := beq_eq (and_l (and_r (and_r (and_r (and_r (and_r (and_r (and_r (and_r (and_r (and_r hc)))))))))))
    have e11 := beq_eq (and_r (and_r (and_r (and_r (and_r (and_r (and_r (and_r (and_r (and_r (and_r hc)))))))))))
    subst e0 e1 e2 e3 e4 e5 e6 e7 e8 e9 e10 e11
    exact ⟨(.cons (.of (.agg .nil) rfl rfl) (.cons (.of .same rfl rfl) (.cons (.of (.agg (.cons (.dat (.int Tryz.underlying3)) (.cons (.dat (.int Tryz.underlying3)) (.cons (.dat (.int Tryz.underlying3)) (.cons .same (.cons .same (.cons .same .nil))))))) rfl rfl) (.cons (.of .same rfl rfl) .nil)))), (.cons .same (.cons .same .nil))⟩
  · cases h
def sel22 (args : List AV) (objs : List Ob) : Option (Dt × List Dt) := match args, objs with
  | [.agg T0 [], .row n1, .dat T2 x2], [.row T3 x3] => bif (Nat.beq T0 93 && (Nat.beq n1 0 && (Nat.beq T2 25 && Nat.beq T3 22))) then some (x2, x3) else none
  | _, _ => none
theorem sel22_ok {args : List AV} {objs : List Ob} {l : Dt × List Dt} (h : sel22 args objs = some l) : CnA Tryz.prog args [(.agg 93 []), (.row 0), (.dat 25 l.1)] ∧ CnOL Tryz.prog objs [(.row 22 l.2)] := by
  unfold sel22 at h
  split at h
  · obtain ⟨hc, h2⟩ := bif_some h
    cases h2
    have e0 := beq_eq (and_l hc)
    have e1 := beq_eq (and_l (and_r hc))
    have e2 := beq_eq (and_l (and_r (and_r hc)))
    have e3 := beq_eq (and_r (and_r (and_r hc)))
    subst e0 e1 e2 e3
    exact ⟨(.cons (.of (.agg .nil) rfl rfl) (.cons (.of .same rfl rfl) (.cons (.of .same rfl rfl) .nil))), (.cons .same .nil)⟩
  · cases h
def sel23 (args : List AV) (objs : List Ob) : Option (Int × Int) := match args, objs with
  | [.dat T0 x0, .dat T1 x1], [] => bif (Nat.beq T0 3 && Nat.beq T1 3) then some (x0.toInt, x1.toInt) else none
  | _, _ => none
theorem sel23_ok {args : List AV} {objs : List Ob} {l : Int × Int} (h : sel23 args objs = some l) : CnA Tryz.prog args [(.dat 3 (.int l.1)), (.dat 3 (.int l.2))] ∧ CnOL Tryz.prog objs [] := by
  unfold sel23 at h
  split at h
  · obtain ⟨hc, h2⟩ := bif_some h
    cases h2
    have e0 := beq_eq (and_l hc)
    have e1 := beq_eq (and_r hc)
    subst e0 e1
    exact ⟨(.cons (.of (.dat (.int Tryz.underlying3)) rfl rfl) (.cons (.of (.dat (.int Tryz.underlying3)) rfl rfl) .nil)), .nil⟩
  · cases h
def sel24 (args : List AV) (objs : List Ob) : Option (ByteArray × ByteArray) := match args, objs with
  | [.dat T0 x0, .dat T1 x1], [] => bif (Nat.beq T0 9 && Nat.beq T1 9) then some (x0.toStr, x1.toStr) else none
  | _, _ => none
theorem sel24_ok {args : List AV} {objs : List Ob} {l : ByteArray × ByteArray} (h : sel24 args objs = some l) : CnA Tryz.prog args [(.dat 9 (.str l.1)), (.dat 9 (.str l.2))] ∧ CnOL Tryz.prog objs [] := by
  unfold sel24 at h
  split at h
  · obtain ⟨hc, h2⟩ := bif_some h
    cases h2
    have e0 := beq_eq (and_l hc)
    have e1 := beq_eq (and_r hc)
    subst e0 e1
    exact ⟨(.cons (.of (.dat (.str Tryz.underlying9)) rfl rfl) (.cons (.of (.dat (.str Tryz.underlying9)) rfl rfl) .nil)), .nil⟩
  · cases h
noncomputable def ct37 {R : Type} (m : Nat) (args : List AV) (objs : List Ob) (K : Res → Option R) : Option R := ruleOfM args objs K
noncomputable def ct7 {R : Type} (m : Nat) (args : List AV) (objs : List Ob) (K : Res → Option R) : Option R := match sel0 args objs with
  | some l => (law32_AccumMany m l.1 l.2.1 l.2.2).bind fun r => K ((.dat 4 (.bool r)), [])
  | none => none
noncomputable def ct16 {R : Type} (m : Nat) (args : List AV) (objs : List Ob) (K : Res → Option R) : Option R := match sel1 args objs with
  | some l => (law32_doc m l).bind fun r => K ((.dat 25 r), [])
  | none => none
noncomputable def ct14 {R : Type} (m : Nat) (args : List AV) (objs : List Ob) (K : Res → Option R) : Option R := match sel2 args objs with
  | some l => (law32_run m l.1 l.2).bind fun r => K ((.dat 29 r), [])
  | none => none
noncomputable def ct18 {R : Type} (m : Nat) (args : List AV) (objs : List Ob) (K : Res → Option R) : Option R := match sel3 args objs with
  | some l => (accum_Join m l.1 l.2.1 l.2.2).bind fun r => K ((.dat 29 r), [])
  | none => none
noncomputable def ct20 {R : Type} (m : Nat) (args : List AV) (objs : List Ob) (K : Res → Option R) : Option R := match sel4 args objs with
  | some l => (ref01_Same m l.1 l.2).bind fun r => K ((.dat 4 (.bool r)), [])
  | none => none
noncomputable def ct9 {R : Type} (m : Nat) (args : List AV) (objs : List Ob) (K : Res → Option R) : Option R := match sel5 args objs with
  | some l => (awakeC).bind fun r => K ((.dat 4 (.bool r)), [])
  | none => none
noncomputable def ct23 {R : Type} (m : Nat) (args : List AV) (objs : List Ob) (K : Res → Option R) : Option R := match sel1 args objs with
  | some l => (ref01_Int m l).bind fun r => K ((.dat 25 r), [])
  | none => none
noncomputable def ct19 {R : Type} (m : Nat) (args : List AV) (objs : List Ob) (K : Res → Option R) : Option R := match sel7 args objs with
  | some l => (accum_Start m l).bind fun r => K ((.dat 29 r), [])
  | none => none
noncomputable def ct22 {R : Type} (m : Nat) (args : List AV) (objs : List Ob) (K : Res → Option R) : Option R := match sel8 args objs with
  | some l => (accum_Add m l.1 l.2.1 l.2.2).bind fun r => K ((.dat 29 r), [])
  | none => none
noncomputable def ct38 {R : Type} (m : Nat) (args : List AV) (objs : List Ob) (K : Res → Option R) : Option R := match sel9 args objs with
  | some l => (accum_copyPart m l).bind fun r => K ((.agg 29 [(.dat 3 (.int r.1)), (.dat 3 (.int r.2.1)), (.dat 3 (.int r.2.2.1)), (.dat 25 r.2.2.2.1), (.row 0), (.row 1)]), [(.row 22 r.2.2.2.2.1), (.row 22 r.2.2.2.2.2)])
  | none => none
noncomputable def ct25 {R : Type} (m : Nat) (args : List AV) (objs : List Ob) (K : Res → Option R) : Option R := match sel10 args objs with
  | some l => (accum_copyValue m l).bind fun r => K ((.dat 25 r), [])
  | none => none
noncomputable def ct27 {R : Type} (m : Nat) (args : List AV) (objs : List Ob) (K : Res → Option R) : Option R := match sel11 args objs with
  | some l => (accum_copyList m l).bind fun r => K ((.row 0), [(.row 22 r)])
  | none => none
noncomputable def ct158 {R : Type} (m : Nat) (args : List AV) (objs : List Ob) (K : Res → Option R) : Option R := match sel12 args objs with
  | some l => (i12 m l.1 l.2.1 l.2.2.1 l.2.2.2.1 l.2.2.2.2.1 l.2.2.2.2.2.1 l.2.2.2.2.2.2.1 l.2.2.2.2.2.2.2.1 l.2.2.2.2.2.2.2.2.1 l.2.2.2.2.2.2.2.2.2.1 l.2.2.2.2.2.2.2.2.2.2.1 l.2.2.2.2.2.2.2.2.2.2.2.1 l.2.2.2.2.2.2.2.2.2.2.2.2).bind fun r => K ((.dat 29 r.1), [.gone, .gone, (.frz 22 r.2.1), (.row 22 r.2.2)])
  | none => none
noncomputable def ct161 {R : Type} (m : Nat) (args : List AV) (objs : List Ob) (K : Res → Option R) : Option R := match sel13 args objs with
  | some l => (i13 m l.1 l.2.1 l.2.2.1 l.2.2.2.1 l.2.2.2.2.1 l.2.2.2.2.2.1 l.2.2.2.2.2.2.1 l.2.2.2.2.2.2.2.1 l.2.2.2.2.2.2.2.2.1 l.2.2.2.2.2.2.2.2.2.1 l.2.2.2.2.2.2.2.2.2.2.1 l.2.2.2.2.2.2.2.2.2.2.2.1 l.2.2.2.2.2.2.2.2.2.2.2.2).bind fun r => K ((.dat 29 r.1), [.gone, .gone, (.frz 22 r.2.1), (.row 22 r.2.2)])
  | none => none
noncomputable def ct163 {R : Type} (m : Nat) (args : List AV) (objs : List Ob) (K : Res → Option R) : Option R := match sel14 args objs with
  | some l => (i14 m l.1 l.2.1 l.2.2).bind fun r => K ((.row 1), [.gone, (.row 22 r)])
  | none => match sel22 args objs with
  | some l => (i22 m l.1 l.2).bind fun r => K ((.row 1), [.gone, (.row 22 r)])
  | none => none
noncomputable def ct164 {R : Type} (m : Nat) (args : List AV) (objs : List Ob) (K : Res → Option R) : Option R := match sel15 args objs with
  | some l => (i15 m l.1 l.2).bind fun r => K ((.tup [(.dat 3 (.int r.1)), (.dat 4 (.bool r.2))]), [])
  | none => none
noncomputable def ct92 {R : Type} (m : Nat) (args : List AV) (objs : List Ob) (K : Res → Option R) : Option R := match sel4 args objs with
  | some l => (value_Compare m l.1 l.2).bind fun r => K ((.dat 3 (.int r)), [])
  | none => none
noncomputable def ct165 {R : Type} (m : Nat) (args : List AV) (objs : List Ob) (K : Res → Option R) : Option R := match sel17 args objs with
  | some l => (slices_Insert l.1 l.2.1 l.2.2).bind fun r => K ((.row 2), [.gone, .gone, (.row 22 r)])
  | none => none
noncomputable def ct157 {R : Type} (m : Nat) (args : List AV) (objs : List Ob) (K : Res → Option R) : Option R := match sel18 args objs with
  | some l => (i18 m l.1 l.2.1 l.2.2.1 l.2.2.2.1 l.2.2.2.2.1 l.2.2.2.2.2.1 l.2.2.2.2.2.2.1 l.2.2.2.2.2.2.2).bind fun r => K ((.dat 29 r), [.gone, .gone])
  | none => none
noncomputable def ct79 {R : Type} (m : Nat) (args : List AV) (objs : List Ob) (K : Res → Option R) : Option R := match sel19 args objs with
  | some l => (expr_EvalC l.1 l.2).bind fun r => K ((.dat 25 r), [])
  | none => none
noncomputable def ct146 {R : Type} (m : Nat) (args : List AV) (objs : List Ob) (K : Res → Option R) : Option R := match sel10 args objs with
  | some l => (accum_orNull m l).bind fun r => K ((.dat 25 r), [])
  | none => none
noncomputable def ct160 {R : Type} (m : Nat) (args : List AV) (objs : List Ob) (K : Res → Option R) : Option R := match sel21 args objs with
  | some l => (i21 m l.1 l.2.1 l.2.2.1 l.2.2.2.1 l.2.2.2.2.1 l.2.2.2.2.2.1 l.2.2.2.2.2.2.1 l.2.2.2.2.2.2.2).bind fun r => K ((.dat 29 r.1), [.gone, (.frz 22 r.2)])
  | none => none
noncomputable def ct112 {R : Type} (m : Nat) (args : List AV) (objs : List Ob) (K : Res → Option R) : Option R := match sel23 args objs with
  | some l => (cmp_Compare m l.1 l.2).bind fun r => K ((.dat 3 (.int r)), [])
  | none => none
noncomputable def ct113 {R : Type} (m : Nat) (args : List AV) (objs : List Ob) (K : Res → Option R) : Option R := match sel24 args objs with
  | some l => (strings_CompareN l.1 l.2).bind fun r => K ((.dat 3 (.int r)), [])
  | none => none
noncomputable def ct127 {R : Type} (m : Nat) (args : List AV) (objs : List Ob) (K : Res → Option R) : Option R := match sel1 args objs with
  | some l => (cmp_isNaN m l).bind fun r => K ((.dat 4 (.bool r)), [])
  | none => none
-- decoders
noncomputable def d4 (q : Res) : Option Bool := match q with
  | (.dat T0 x0, []) => bif Nat.beq T0 4 then some x0.toBool else none
  | _ => none
theorem d4_sim {b : Res} {r : Bool} (h : d4 b = some r) : Sim Tryz.prog b ((.dat 4 (.bool r)), []) := by
  unfold d4 at h
  split at h
  · obtain ⟨hc, h2⟩ := bif_some h
    cases h2
    have e0 := beq_eq hc
    subst e0
    exact Sim.of (.of (.dat (.bool Tryz.underlying4)) rfl rfl) .nil
  · cases h
noncomputable def d6 (q : Res) : Option Dt := match q with
  | (.dat T0 x0, []) => bif Nat.beq T0 25 then some x0 else none
  | _ => none
theorem d6_sim {b : Res} {r : Dt} (h : d6 b = some r) : Sim Tryz.prog b ((.dat 25 r), []) := by
  unfold d6 at h
  split at h
  · obtain ⟨hc, h2⟩ := bif_some h
    cases h2
    have e0 := beq_eq hc
    subst e0
    exact Sim.of (.of .same rfl rfl) .nil
  · cases h
noncomputable def d7 (q : Res) : Option Dt := match q with
  | (.dat T0 x0, []) => bif Nat.beq T0 29 then some x0 else none
  | _ => none
theorem d7_sim {b : Res} {r : Dt} (h : d7 b = some r) : Sim Tryz.prog b ((.dat 29 r), []) := by
  unfold d7 at h
  split at h
  · obtain ⟨hc, h2⟩ := bif_some h
    cases h2
    have e0 := beq_eq hc
    subst e0
    exact Sim.of (.of .same rfl rfl) .nil
  · cases h
noncomputable def d11 (q : Res) : Option (List Dt) := match q with
  | (.row n0, [.row T1 x1]) => bif (Nat.beq n0 0 && Nat.beq T1 22) then some x1 else none
  | _ => none
theorem d11_sim {b : Res} {r : List Dt} (h : d11 b = some r) : Sim Tryz.prog b ((.row 0), [(.row 22 r)]) := by
  unfold d11 at h
  split at h
  · obtain ⟨hc, h2⟩ := bif_some h
    cases h2
    have e0 := beq_eq (and_l hc)
    have e1 := beq_eq (and_r hc)
    subst e0 e1
    exact Sim.of (.of .same rfl rfl) (.cons .same .nil)
  · cases h
noncomputable def d9 (q : Res) : Option (Int × Int × Int × Dt × List Dt × List Dt) := match q with
  | (.agg T0 [.dat T1 x1, .dat T2 x2, .dat T3 x3, .dat T4 x4, .row n5, .row n6], [.row T7 x7, .row T8 x8]) => bif (Nat.beq T0 29 && (Nat.beq T1 3 && (Nat.beq T2 3 && (Nat.beq T3 3 && (Nat.beq T4 25 && (Nat.beq n5 0 && (Nat.beq n6 1 && (Nat.beq T7 22 && Nat.beq T8 22)))))))) then some (x1.toInt, x2.toInt, x3.toInt, x4, x7, x8) else none
  | _ => none
theorem d9_sim {b : Res} {r : Int × Int × Int × Dt × List Dt × List Dt} (h : d9 b = some r) : Sim Tryz.prog b ((.agg 29 [(.dat 3 (.int r.1)), (.dat 3 (.int r.2.1)), (.dat 3 (.int r.2.2.1)), (.dat 25 r.2.2.2.1), (.row 0), (.row 1)]), [(.row 22 r.2.2.2.2.1), (.row 22 r.2.2.2.2.2)]) := by
  unfold d9 at h
  split at h
  · obtain ⟨hc, h2⟩ := bif_some h
    cases h2
    have e0 := beq_eq (and_l hc)
    have e1 := beq_eq (and_l (and_r hc))
    have e2 := beq_eq (and_l (and_r (and_r hc)))
    have e3 := beq_eq (and_l (and_r (and_r (and_r hc))))
    have e4 := beq_eq (and_l (and_r (and_r (and_r (and_r hc)))))
    have e5 := beq_eq (and_l (and_r (and_r (and_r (and_r (and_r hc))))))
    have e6 := beq_eq (and_l (and_r (and_r (and_r (and_r (and_r (and_r hc)))))))
    have e7 := beq_eq (and_l (and_r (and_r (and_r (and_r (and_r (and_r (and_r hc))))))))
    have e8 := beq_eq (and_r (and_r (and_r (and_r (and_r (and_r (and_r (and_r hc))))))))
    subst e0 e1 e2 e3 e4 e5 e6 e7 e8
    exact Sim.of (.of (.agg (.cons (.dat (.int Tryz.underlying3)) (.cons (.dat (.int Tryz.underlying3)) (.cons (.dat (.int Tryz.underlying3)) (.cons .same (.cons .same (.cons .same .nil))))))) rfl rfl) (.cons .same (.cons .same .nil))
  · cases h
noncomputable def d12 (q : Res) : Option (Dt × List Dt × List Dt) := match q with
  | (.dat T0 x0, [.gone, .gone, .frz T1 x1, .row T2 x2]) => bif (Nat.beq T0 29 && (Nat.beq T1 22 && Nat.beq T2 22)) then some (x0, x1, x2) else none
  | _ => none
theorem d12_sim {b : Res} {r : Dt × List Dt × List Dt} (h : d12 b = some r) : Sim Tryz.prog b ((.dat 29 r.1), [.gone, .gone, (.frz 22 r.2.1), (.row 22 r.2.2)]) := by
  unfold d12 at h
  split at h
  · obtain ⟨hc, h2⟩ := bif_some h
    cases h2
    have e0 := beq_eq (and_l hc)
    have e1 := beq_eq (and_l (and_r hc))
    have e2 := beq_eq (and_r (and_r hc))
    subst e0 e1 e2
    exact Sim.of (.of .same rfl rfl) (.cons .same (.cons .same (.cons .same (.cons .same .nil))))
  · cases h
noncomputable def d18 (q : Res) : Option Dt := match q with
  | (.dat T0 x0, [.gone, .gone]) => bif Nat.beq T0 29 then some x0 else none
  | _ => none
theorem d18_sim {b : Res} {r : Dt} (h : d18 b = some r) : Sim Tryz.prog b ((.dat 29 r), [.gone, .gone]) := by
  unfold d18 at h
  split at h
  · obtain ⟨hc, h2⟩ := bif_some h
    cases h2
    have e0 := beq_eq hc
    subst e0
    exact Sim.of (.of .same rfl rfl) (.cons .same (.cons .same .nil))
  · cases h
noncomputable def d23 (q : Res) : Option Int := match q with
  | (.dat T0 x0, []) => bif Nat.beq T0 3 then some x0.toInt else none
  | _ => none
theorem d23_sim {b : Res} {r : Int} (h : d23 b = some r) : Sim Tryz.prog b ((.dat 3 (.int r)), []) := by
  unfold d23 at h
  split at h
  · obtain ⟨hc, h2⟩ := bif_some h
    cases h2
    have e0 := beq_eq hc
    subst e0
    exact Sim.of (.of (.dat (.int Tryz.underlying3)) rfl rfl) .nil
  · cases h
noncomputable def d15 (q : Res) : Option (Int × Bool) := match q with
  | (.tup [.dat T0 x0, .dat T1 x1], []) => bif (Nat.beq T0 3 && Nat.beq T1 4) then some (x0.toInt, x1.toBool) else none
  | _ => none
theorem d15_sim {b : Res} {r : Int × Bool} (h : d15 b = some r) : Sim Tryz.prog b ((.tup [(.dat 3 (.int r.1)), (.dat 4 (.bool r.2))]), []) := by
  unfold d15 at h
  split at h
  · obtain ⟨hc, h2⟩ := bif_some h
    cases h2
    have e0 := beq_eq (and_l hc)
    have e1 := beq_eq (and_r hc)
    subst e0 e1
    exact Sim.of (.tup (.cons (.dat (.int Tryz.underlying3)) (.cons (.dat (.bool Tryz.underlying4)) .nil))) .nil
  · cases h
noncomputable def d14 (q : Res) : Option (List Dt) := match q with
  | (.row n0, [.gone, .row T1 x1]) => bif (Nat.beq n0 1 && Nat.beq T1 22) then some x1 else none
  | _ => none
theorem d14_sim {b : Res} {r : List Dt} (h : d14 b = some r) : Sim Tryz.prog b ((.row 1), [.gone, (.row 22 r)]) := by
  unfold d14 at h
  split at h
  · obtain ⟨hc, h2⟩ := bif_some h
    cases h2
    have e0 := beq_eq (and_l hc)
    have e1 := beq_eq (and_r hc)
    subst e0 e1
    exact Sim.of (.of .same rfl rfl) (.cons .same (.cons .same .nil))
  · cases h
noncomputable def d21 (q : Res) : Option (Dt × List Dt) := match q with
  | (.dat T0 x0, [.gone, .frz T1 x1]) => bif (Nat.beq T0 29 && Nat.beq T1 22) then some (x0, x1) else none
  | _ => none
theorem d21_sim {b : Res} {r : Dt × List Dt} (h : d21 b = some r) : Sim Tryz.prog b ((.dat 29 r.1), [.gone, (.frz 22 r.2)]) := by
  unfold d21 at h
  split at h
  · obtain ⟨hc, h2⟩ := bif_some h
    cases h2
    have e0 := beq_eq (and_l hc)
    have e1 := beq_eq (and_r hc)
    subst e0 e1
    exact Sim.of (.of .same rfl rfl) (.cons .same (.cons .same .nil))
  · cases h
noncomputable def ct {R : Type} (m : Nat) (f : FuncId) (args : List AV) (objs : List Ob) (K : Res → Option R) : Option R :=
  bif Nat.beq f 7 then ct7 m args objs K else
  bif Nat.beq f 16 then ct16 m args objs K else
  bif Nat.beq f 14 then ct14 m args objs K else
  bif Nat.beq f 18 then ct18 m args objs K else
  bif Nat.beq f 20 then ct20 m args objs K else
  bif Nat.beq f 9 then ct9 m args objs K else
  bif Nat.beq f 23 then ct23 m args objs K else
  bif Nat.beq f 19 then ct19 m args objs K else
  bif Nat.beq f 22 then ct22 m args objs K else
  bif Nat.beq f 38 then ct38 m args objs K else
  bif Nat.beq f 25 then ct25 m args objs K else
  bif Nat.beq f 27 then ct27 m args objs K else
  bif Nat.beq f 158 then ct158 m args objs K else
  bif Nat.beq f 161 then ct161 m args objs K else
  bif Nat.beq f 163 then ct163 m args objs K else
  bif Nat.beq f 164 then ct164 m args objs K else
  bif Nat.beq f 92 then ct92 m args objs K else
  bif Nat.beq f 165 then ct165 m args objs K else
  bif Nat.beq f 157 then ct157 m args objs K else
  bif Nat.beq f 79 then ct79 m args objs K else
  bif Nat.beq f 146 then ct146 m args objs K else
  bif Nat.beq f 160 then ct160 m args objs K else
  bif Nat.beq f 112 then ct112 m args objs K else
  bif Nat.beq f 113 then ct113 m args objs K else
  bif Nat.beq f 127 then ct127 m args objs K else
  bif Nat.beq f 37 then ct37 m args objs K else
  none
end Go.Proofs.YtacpcknpliomoaaGreat
