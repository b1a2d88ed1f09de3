/- Generated: the functions as contracts for their callers. -/
import Derived.Test.YtacchdeihafmnaaDoorSh
import Derived.Test.YtacchdeihafmnaaDoorProg
set_option linter.unusedVariables false
set_option linter.unusedSimpArgs false
namespace Go.Proofs.YtacchdeihafmnaaDoor
open Go.Am
def sel0 (args : List AV) (objs : List Ob) : Option (List Dt) := match args, objs with
  | [.dat T0 x0], [] => bif Nat.beq T0 22 then some x0.toLst else none
  | _, _ => none
theorem sel0_ok {args : List AV} {objs : List Ob} {l : List Dt} (h : sel0 args objs = some l) : CnA Tryd.prog args [(.dat 22 (.lst l))] ∧ CnOL Tryd.prog objs [] := by
  unfold sel0 at h
  split at h
  · obtain ⟨hc, h2⟩ := bif_some h
    cases h2
    have e0 := beq_eq hc
    subst e0
    exact ⟨(.cons (.of (.dat (.lst Tryd.underlying22)) rfl rfl) .nil), .nil⟩
  · cases h
def sel1 (args : List AV) (objs : List Ob) : Option (Dt) := match args, objs with
  | [.dat T0 x0], [] => bif Nat.beq T0 30 then some x0 else none
  | _, _ => none
theorem sel1_ok {args : List AV} {objs : List Ob} {l : Dt} (h : sel1 args objs = some l) : CnA Tryd.prog args [(.dat 30 l)] ∧ CnOL Tryd.prog objs [] := by
  unfold sel1 at h
  split at h
  · obtain ⟨hc, h2⟩ := bif_some h
    cases h2
    have e0 := beq_eq hc
    subst e0
    exact ⟨(.cons (.of .same rfl rfl) .nil), .nil⟩
  · cases h
def sel2 (args : List AV) (objs : List Ob) : Option (List Dt) := match args, objs with
  | [.dat T0 x0], [] => bif Nat.beq T0 22 then some x0.toLst else none
  | _, _ => none
theorem sel2_ok {args : List AV} {objs : List Ob} {l : List Dt} (h : sel2 args objs = some l) : CnA Tryd.prog args [(.dat 22 (.lst l))] ∧ CnOL Tryd.prog objs [] := by
  unfold sel2 at h
  split at h
  · obtain ⟨hc, h2⟩ := bif_some h
    cases h2
    have e0 := beq_eq hc
    subst e0
    exact ⟨(.cons (.of (.dat (.lst Tryd.underlying22)) rfl rfl) .nil), .nil⟩
  · cases h
def sel3 (args : List AV) (objs : List Ob) : Option (List Dt) := match args, objs with
  | [.dat T0 x0], [] => bif Nat.beq T0 22 then some x0.toLst else none
  | _, _ => none
theorem sel3_ok {args : List AV} {objs : List Ob} {l : List Dt} (h : sel3 args objs = some l) : CnA Tryd.prog args [(.dat 22 (.lst l))] ∧ CnOL Tryd.prog objs [] := by
  unfold sel3 at h
  split at h
  · obtain ⟨hc, h2⟩ := bif_some h
    cases h2
    have e0 := beq_eq hc
    subst e0
    exact ⟨(.cons (.of (.dat (.lst Tryd.underlying22)) rfl rfl) .nil), .nil⟩
  · cases h
def sel4 (args : List AV) (objs : List Ob) : Option (Unit) := match args, objs with
  | [], [] => bif true then some () else none
  | _, _ => none
theorem sel4_ok {args : List AV} {objs : List Ob} {l : Unit} (h : sel4 args objs = some l) : CnA Tryd.prog args [] ∧ CnOL Tryd.prog objs [] := by
  unfold sel4 at h
  split at h
  · obtain ⟨hc, h2⟩ := bif_some h
    cases h2
    exact ⟨.nil, .nil⟩
  · cases h
def sel5 (args : List AV) (objs : List Ob) : Option (Dt) := match args, objs with
  | [.dat T0 x0], [] => bif Nat.beq T0 30 then some x0 else none
  | _, _ => none
theorem sel5_ok {args : List AV} {objs : List Ob} {l : Dt} (h : sel5 args objs = some l) : CnA Tryd.prog args [(.dat 30 l)] ∧ CnOL Tryd.prog objs [] := by
  unfold sel5 at h
  split at h
  · obtain ⟨hc, h2⟩ := bif_some h
    cases h2
    have e0 := beq_eq hc
    subst e0
    exact ⟨(.cons (.of .same rfl rfl) .nil), .nil⟩
  · cases h
def sel6 (args : List AV) (objs : List Ob) : Option (Dt) := match args, objs with
  | [.dat T0 x0], [] => bif Nat.beq T0 30 then some x0 else none
  | _, _ => none
theorem sel6_ok {args : List AV} {objs : List Ob} {l : Dt} (h : sel6 args objs = some l) : CnA Tryd.prog args [(.dat 30 l)] ∧ CnOL Tryd.prog objs [] := by
  unfold sel6 at h
  split at h
  · obtain ⟨hc, h2⟩ := bif_some h
    cases h2
    have e0 := beq_eq hc
    subst e0
    exact ⟨(.cons (.of .same rfl rfl) .nil), .nil⟩
  · cases h
def sel7 (args : List AV) (objs : List Ob) : Option (List Dt × List Dt) := match args, objs with
  | [.dat T0 x0, .dat T1 x1], [] => bif (Nat.beq T0 22 && Nat.beq T1 22) then some (x0.toLst, x1.toLst) else none
  | _, _ => none
theorem sel7_ok {args : List AV} {objs : List Ob} {l : List Dt × List Dt} (h : sel7 args objs = some l) : CnA Tryd.prog args [(.dat 22 (.lst l.1)), (.dat 22 (.lst l.2))] ∧ CnOL Tryd.prog objs [] := by
  unfold sel7 at h
  split at h
  · obtain ⟨hc, h2⟩ := bif_some h
    cases h2
    have e0 := beq_eq (and_l hc)
    have e1 := beq_eq (and_r hc)
    subst e0 e1
    exact ⟨(.cons (.of (.dat (.lst Tryd.underlying22)) rfl rfl) (.cons (.of (.dat (.lst Tryd.underlying22)) rfl rfl) .nil)), .nil⟩
  · cases h
def sel8 (args : List AV) (objs : List Ob) : Option (List Dt) := match args, objs with
  | [.dat T0 x0], [] => bif Nat.beq T0 45 then some x0.toLst else none
  | _, _ => none
theorem sel8_ok {args : List AV} {objs : List Ob} {l : List Dt} (h : sel8 args objs = some l) : CnA Tryd.prog args [(.dat 45 (.lst l))] ∧ CnOL Tryd.prog objs [] := by
  unfold sel8 at h
  split at h
  · obtain ⟨hc, h2⟩ := bif_some h
    cases h2
    have e0 := beq_eq hc
    subst e0
    exact ⟨(.cons (.of (.dat (.lst Tryd.underlying45)) rfl rfl) .nil), .nil⟩
  · cases h
def sel9 (args : List AV) (objs : List Ob) : Option (List Dt × List Dt) := match args, objs with
  | [.dat T0 x0, .dat T1 x1], [] => bif (Nat.beq T0 45 && Nat.beq T1 45) then some (x0.toLst, x1.toLst) else none
  | _, _ => none
theorem sel9_ok {args : List AV} {objs : List Ob} {l : List Dt × List Dt} (h : sel9 args objs = some l) : CnA Tryd.prog args [(.dat 45 (.lst l.1)), (.dat 45 (.lst l.2))] ∧ CnOL Tryd.prog objs [] := by
  unfold sel9 at h
  split at h
  · obtain ⟨hc, h2⟩ := bif_some h
    cases h2
    have e0 := beq_eq (and_l hc)
    have e1 := beq_eq (and_r hc)
    subst e0 e1
    exact ⟨(.cons (.of (.dat (.lst Tryd.underlying45)) rfl rfl) (.cons (.of (.dat (.lst Tryd.underlying45)) rfl rfl) .nil)), .nil⟩
  · cases h
def sel10 (args : List AV) (objs : List Ob) : Option (List Dt) := match args, objs with
  | [.dat T0 x0], [] => bif Nat.beq T0 45 then some x0.toLst else none
  | _, _ => none
theorem sel10_ok {args : List AV} {objs : List Ob} {l : List Dt} (h : sel10 args objs = some l) : CnA Tryd.prog args [(.dat 45 (.lst l))] ∧ CnOL Tryd.prog objs [] := by
  unfold sel10 at h
  split at h
  · obtain ⟨hc, h2⟩ := bif_some h
    cases h2
    have e0 := beq_eq hc
    subst e0
    exact ⟨(.cons (.of (.dat (.lst Tryd.underlying45)) rfl rfl) .nil), .nil⟩
  · cases h
def sel11 (args : List AV) (objs : List Ob) : Option (List Dt × List Dt) := match args, objs with
  | [.dat T0 x0, .dat T1 x1], [] => bif (Nat.beq T0 45 && Nat.beq T1 45) then some (x0.toLst, x1.toLst) else none
  | _, _ => none
theorem sel11_ok {args : List AV} {objs : List Ob} {l : List Dt × List Dt} (h : sel11 args objs = some l) : CnA Tryd.prog args [(.dat 45 (.lst l.1)), (.dat 45 (.lst l.2))] ∧ CnOL Tryd.prog objs [] := by
  unfold sel11 at h
  split at h
  · obtain ⟨hc, h2⟩ := bif_some h
    cases h2
    have e0 := beq_eq (and_l hc)
    have e1 := beq_eq (and_r hc)
    subst e0 e1
    exact ⟨(.cons (.of (.dat (.lst Tryd.underlying45)) rfl rfl) (.cons (.of (.dat (.lst Tryd.underlying45)) rfl rfl) .nil)), .nil⟩
  · cases h
def sel12 (args : List AV) (objs : List Ob) : Option (ByteArray) := match args, objs with
  | [.dat T0 x0], [] => bif Nat.beq T0 9 then some x0.toStr else none
  | _, _ => none
theorem sel12_ok {args : List AV} {objs : List Ob} {l : ByteArray} (h : sel12 args objs = some l) : CnA Tryd.prog args [(.dat 9 (.str l))] ∧ CnOL Tryd.prog objs [] := by
  unfold sel12 at h
  split at h
  · obtain ⟨hc, h2⟩ := bif_some h
    cases h2
    have e0 := beq_eq hc
    subst e0
    exact ⟨(.cons (.of (.dat (.str Tryd.underlying9)) rfl rfl) .nil), .nil⟩
  · cases h
def sel13 (args : List AV) (objs : List Ob) : Option (ByteArray) := match args, objs with
  | [.dat T0 x0], [] => bif Nat.beq T0 9 then some x0.toStr else none
  | _, _ => none
theorem sel13_ok {args : List AV} {objs : List Ob} {l : ByteArray} (h : sel13 args objs = some l) : CnA Tryd.prog args [(.dat 9 (.str l))] ∧ CnOL Tryd.prog objs [] := by
  unfold sel13 at h
  split at h
  · obtain ⟨hc, h2⟩ := bif_some h
    cases h2
    have e0 := beq_eq hc
    subst e0
    exact ⟨(.cons (.of (.dat (.str Tryd.underlying9)) rfl rfl) .nil), .nil⟩
  · cases h
def sel14 (args : List AV) (objs : List Ob) : Option (List Dt) := match args, objs with
  | [.dat T0 x0, .fn T1 []], [] => bif (Nat.beq T0 45 && Nat.beq T1 43) then some x0.toLst else none
  | _, _ => none
theorem sel14_ok {args : List AV} {objs : List Ob} {l : List Dt} (h : sel14 args objs = some l) : CnA Tryd.prog args [(.dat 45 (.lst l)), (.fn 43 [])] ∧ CnOL Tryd.prog objs [] := by
  unfold sel14 at h
  split at h
  · obtain ⟨hc, h2⟩ := bif_some h
    cases h2
    have e0 := beq_eq (and_l hc)
    have e1 := beq_eq (and_r hc)
    subst e0 e1
    exact ⟨(.cons (.of (.dat (.lst Tryd.underlying45)) rfl rfl) (.cons (.of (.fn .nil) rfl rfl) .nil)), .nil⟩
  · cases h
def sel15 (args : List AV) (objs : List Ob) : Option (List Dt) := match args, objs with
  | [.dat T0 x0, .fn T1 []], [] => bif (Nat.beq T0 45 && Nat.beq T1 43) then some x0.toLst else none
  | _, _ => none
theorem sel15_ok {args : List AV} {objs : List Ob} {l : List Dt} (h : sel15 args objs = some l) : CnA Tryd.prog args [(.dat 45 (.lst l)), (.fn 43 [])] ∧ CnOL Tryd.prog objs [] := by
  unfold sel15 at h
  split at h
  · obtain ⟨hc, h2⟩ := bif_some h
    cases h2
    have e0 := beq_eq (and_l hc)
    have e1 := beq_eq (and_r hc)
    subst e0 e1
    exact ⟨(.cons (.of (.dat (.lst Tryd.underlying45)) rfl rfl) (.cons (.of (.fn .nil) rfl rfl) .nil)), .nil⟩
  · cases h
def sel16 (args : List AV) (objs : List Ob) : Option (ByteArray) := match args, objs with
  | [.dat T0 x0], [] => bif Nat.beq T0 9 then some x0.toStr else none
  | _, _ => none
theorem sel16_ok {args : List AV} {objs : List Ob} {l : ByteArray} (h : sel16 args objs = some l) : CnA Tryd.prog args [(.dat 9 (.str l))] ∧ CnOL Tryd.prog objs [] := by
  unfold sel16 at h
  split at h
  · obtain ⟨hc, h2⟩ := bif_some h
    cases h2
    have e0 := beq_eq hc
    subst e0
    exact ⟨(.cons (.of (.dat (.str Tryd.underlying9)) rfl rfl) .nil), .nil⟩
  · cases h
def sel17 (args : List AV) (objs : List Ob) : Option (ByteArray) := match args, objs with
  | [.dat T0 x0], [] => bif Nat.beq T0 9 then some x0.toStr else none
  | _, _ => none
theorem sel17_ok {args : List AV} {objs : List Ob} {l : ByteArray} (h : sel17 args objs = some l) : CnA Tryd.prog args [(.dat 9 (.str l))] ∧ CnOL Tryd.prog objs [] := by
  unfold sel17 at h
  split at h
  · obtain ⟨hc, h2⟩ := bif_some h
    cases h2
    have e0 := beq_eq hc
    subst e0
    exact ⟨(.cons (.of (.dat (.str Tryd.underlying9)) rfl rfl) .nil), .nil⟩
  · cases h
def sel18 (args : List AV) (objs : List Ob) : Option (ByteArray × ByteArray) := match args, objs with
  | [.dat T0 x0, .dat T1 x1], [] => bif (Nat.beq T0 9 && Nat.beq T1 9) then some (x0.toStr, x1.toStr) else none
  | _, _ => none
theorem sel18_ok {args : List AV} {objs : List Ob} {l : ByteArray × ByteArray} (h : sel18 args objs = some l) : CnA Tryd.prog args [(.dat 9 (.str l.1)), (.dat 9 (.str l.2))] ∧ CnOL Tryd.prog objs [] := by
  unfold sel18 at h
  split at h
  · obtain ⟨hc, h2⟩ := bif_some h
    cases h2
    have e0 := beq_eq (and_l hc)
    have e1 := beq_eq (and_r hc)
    subst e0 e1
    exact ⟨(.cons (.of (.dat (.str Tryd.underlying9)) rfl rfl) (.cons (.of (.dat (.str Tryd.underlying9)) rfl rfl) .nil)), .nil⟩
  · cases h
def sel19 (args : List AV) (objs : List Ob) : Option (ByteArray) := match args, objs with
  | [.dat T0 x0], [] => bif Nat.beq T0 9 then some x0.toStr else none
  | _, _ => none
theorem sel19_ok {args : List AV} {objs : List Ob} {l : ByteArray} (h : sel19 args objs = some l) : CnA Tryd.prog args [(.dat 9 (.str l))] ∧ CnOL Tryd.prog objs [] := by
  unfold sel19 at h
  split at h
  · obtain ⟨hc, h2⟩ := bif_some h
    cases h2
    have e0 := beq_eq hc
    subst e0
    exact ⟨(.cons (.of (.dat (.str Tryd.underlying9)) rfl rfl) .nil), .nil⟩
  · cases h
noncomputable def ct3 {R : Type} (m : Nat) (args : List AV) (objs : List Ob) (K : Res → Option R) : Option R := match sel0 args objs with
  | some l => (law12_OrderValid m l).bind fun r => K ((.dat 4 (.bool r)), [])
  | none => none
noncomputable def ct4 {R : Type} (m : Nat) (args : List AV) (objs : List Ob) (K : Res → Option R) : Option R := match sel1 args objs with
  | some l => (law12_OrderParse m l).bind fun r => K ((.dat 4 (.bool r)), [])
  | none => none
noncomputable def ct10 {R : Type} (m : Nat) (args : List AV) (objs : List Ob) (K : Res → Option R) : Option R := match sel2 args objs with
  | some l => (order_Valid m l).bind fun r => K ((.dat 23 (.int r)), [])
  | none => none
noncomputable def ct11 {R : Type} (m : Nat) (args : List AV) (objs : List Ob) (K : Res → Option R) : Option R := match sel3 args objs with
  | some l => (ref12_Valid m l).bind fun r => K ((.dat 23 (.int r)), [])
  | none => none
noncomputable def ct12 {R : Type} (m : Nat) (args : List AV) (objs : List Ob) (K : Res → Option R) : Option R := match sel4 args objs with
  | some l => (awakeC).bind fun r => K ((.dat 4 (.bool r)), [])
  | none => none
noncomputable def ct13 {R : Type} (m : Nat) (args : List AV) (objs : List Ob) (K : Res → Option R) : Option R := match sel5 args objs with
  | some l => (order_Parse m l).bind fun r => K ((.tup [(.dat 22 (.lst r.1)), (.dat 23 (.int r.2))]), [])
  | none => none
noncomputable def ct14 {R : Type} (m : Nat) (args : List AV) (objs : List Ob) (K : Res → Option R) : Option R := match sel6 args objs with
  | some l => (ref12_Parse m l).bind fun r => K ((.tup [(.dat 22 (.lst r.1)), (.dat 23 (.int r.2))]), [])
  | none => none
noncomputable def ct15 {R : Type} (m : Nat) (args : List AV) (objs : List Ob) (K : Res → Option R) : Option R := match sel7 args objs with
  | some l => (law12_Same m l.1 l.2).bind fun r => K ((.dat 4 (.bool r)), [])
  | none => none
noncomputable def ct28 {R : Type} (m : Nat) (args : List AV) (objs : List Ob) (K : Res → Option R) : Option R := match sel8 args objs with
  | some l => (path_Valid m l).bind fun r => K ((.dat 4 (.bool r)), [])
  | none => none
noncomputable def ct29 {R : Type} (m : Nat) (args : List AV) (objs : List Ob) (K : Res → Option R) : Option R := match sel9 args objs with
  | some l => (slices_Equal m l.1 l.2).bind fun r => K ((.dat 4 (.bool r)), [])
  | none => none
noncomputable def ct30 {R : Type} (m : Nat) (args : List AV) (objs : List Ob) (K : Res → Option R) : Option R := match sel10 args objs with
  | some l => (ref04_Valid m l).bind fun r => K ((.dat 4 (.bool r)), [])
  | none => none
noncomputable def ct31 {R : Type} (m : Nat) (args : List AV) (objs : List Ob) (K : Res → Option R) : Option R := match sel11 args objs with
  | some l => (ref12_same m l.1 l.2).bind fun r => K ((.dat 4 (.bool r)), [])
  | none => none
noncomputable def ct34 {R : Type} (m : Nat) (args : List AV) (objs : List Ob) (K : Res → Option R) : Option R := match sel12 args objs with
  | some l => (path_Parse m l).bind fun r => K ((.tup [(.dat 45 (.lst r.1)), (.dat 23 (.int r.2))]), [])
  | none => none
noncomputable def ct35 {R : Type} (m : Nat) (args : List AV) (objs : List Ob) (K : Res → Option R) : Option R := match sel13 args objs with
  | some l => (ref04_Parse m l).bind fun r => K ((.tup [(.dat 45 (.lst r.1)), (.dat 23 (.int r.2))]), [])
  | none => none
noncomputable def ct42 {R : Type} (m : Nat) (args : List AV) (objs : List Ob) (K : Res → Option R) : Option R := match sel14 args objs with
  | some l => (slices_ContainsFunc_i14 m l).bind fun r => K ((.dat 4 (.bool r)), [])
  | none => none
noncomputable def ct58 {R : Type} (m : Nat) (args : List AV) (objs : List Ob) (K : Res → Option R) : Option R := match sel15 args objs with
  | some l => (slices_IndexFunc_i15 m l).bind fun r => K ((.dat 3 (.int r)), [])
  | none => none
noncomputable def ct43 {R : Type} (m : Nat) (args : List AV) (objs : List Ob) (K : Res → Option R) : Option R := match sel16 args objs with
  | some l => (path_notName m l).bind fun r => K ((.dat 4 (.bool r)), [])
  | none => none
noncomputable def ct44 {R : Type} (m : Nat) (args : List AV) (objs : List Ob) (K : Res → Option R) : Option R := match sel17 args objs with
  | some l => (ref01_Name m l).bind fun r => K ((.dat 4 (.bool r)), [])
  | none => none
noncomputable def ct45 {R : Type} (m : Nat) (args : List AV) (objs : List Ob) (K : Res → Option R) : Option R := match sel18 args objs with
  | some l => (strings_Split l.1 l.2).bind fun r => K ((.dat 45 (.lst r)), [])
  | none => none
noncomputable def ct46 {R : Type} (m : Nat) (args : List AV) (objs : List Ob) (K : Res → Option R) : Option R := match sel19 args objs with
  | some l => (ref04_split m l).bind fun r => K ((.dat 45 (.lst r)), [])
  | none => none
noncomputable def ct {R : Type} (m : Nat) (f : FuncId) (args : List AV) (objs : List Ob) (K : Res → Option R) : Option R :=
  bif Nat.beq f 3 then ct3 m args objs K else
  bif Nat.beq f 4 then ct4 m args objs K else
  bif Nat.beq f 10 then ct10 m args objs K else
  bif Nat.beq f 11 then ct11 m args objs K else
  bif Nat.beq f 12 then ct12 m args objs K else
  bif Nat.beq f 13 then ct13 m args objs K else
  bif Nat.beq f 14 then ct14 m args objs K else
  bif Nat.beq f 15 then ct15 m args objs K else
  bif Nat.beq f 28 then ct28 m args objs K else
  bif Nat.beq f 29 then ct29 m args objs K else
  bif Nat.beq f 30 then ct30 m args objs K else
  bif Nat.beq f 31 then ct31 m args objs K else
  bif Nat.beq f 34 then ct34 m args objs K else
  bif Nat.beq f 35 then ct35 m args objs K else
  bif Nat.beq f 42 then ct42 m args objs K else
  bif Nat.beq f 58 then ct58 m args objs K else
  bif Nat.beq f 43 then ct43 m args objs K else
  bif Nat.beq f 44 then ct44 m args objs K else
  bif Nat.beq f 45 then ct45 m args objs K else
  bif Nat.beq f 46 then ct46 m args objs K else
  none
end Go.Proofs.YtacchdeihafmnaaDoor
