/- Generated: the functions as contracts for their callers. -/
import Derived.Test.YtmejbpmceflcjaaDoorSh
import Derived.Test.YtmejbpmceflcjaaDoorProg
set_option linter.unusedVariables false
set_option linter.unusedSimpArgs false
namespace Go.Proofs.YtmejbpmceflcjaaDoor
open Go.Am
def sel0 (args : List AV) (objs : List Ob) : Option ByteArray := match args, objs with
  | [.dat T0 x0], [] => bif Nat.beq T0 9 then some x0.toStr else none
  | _, _ => none
theorem sel0_ok {args : List AV} {objs : List Ob} {l : ByteArray} (h : sel0 args objs = some l) : CnA Tryd.prog args [(.dat 9 (.str l))] ∧ CnOL Tryd.prog objs [] := by
  unfold sel0 at h
  split at h
  · obtain ⟨hc, h2⟩ := bif_some h
    cases h2
    have e0 := beq_eq hc
    subst e0
    exact ⟨(.cons (.of (.dat (.str Tryd.underlying9)) rfl rfl) .nil), .nil⟩
  · cases h
def sel1 (args : List AV) (objs : List Ob) : Option Unit := match args, objs with
  | [], [] => bif true then some () else none
  | _, _ => none
theorem sel1_ok {args : List AV} {objs : List Ob} {l : Unit} (h : sel1 args objs = some l) : CnA Tryd.prog args [] ∧ CnOL Tryd.prog objs [] := by
  unfold sel1 at h
  split at h
  · obtain ⟨hc, h2⟩ := bif_some h
    cases h2
    exact ⟨.nil, .nil⟩
  · cases h
def sel5 (args : List AV) (objs : List Ob) : Option Dt := match args, objs with
  | [.dat T0 x0], [] => bif Nat.beq T0 27 then some x0 else none
  | _, _ => none
theorem sel5_ok {args : List AV} {objs : List Ob} {l : Dt} (h : sel5 args objs = some l) : CnA Tryd.prog args [(.dat 27 l)] ∧ CnOL Tryd.prog objs [] := by
  unfold sel5 at h
  split at h
  · obtain ⟨hc, h2⟩ := bif_some h
    cases h2
    have e0 := beq_eq hc
    subst e0
    exact ⟨(.cons (.of .same rfl rfl) .nil), .nil⟩
  · cases h
def sel6 (args : List AV) (objs : List Ob) : Option Int := match args, objs with
  | [.dat T0 x0], [] => bif Nat.beq T0 3 then some x0.toInt else none
  | _, _ => none
theorem sel6_ok {args : List AV} {objs : List Ob} {l : Int} (h : sel6 args objs = some l) : CnA Tryd.prog args [(.dat 3 (.int l))] ∧ CnOL Tryd.prog objs [] := by
  unfold sel6 at h
  split at h
  · obtain ⟨hc, h2⟩ := bif_some h
    cases h2
    have e0 := beq_eq hc
    subst e0
    exact ⟨(.cons (.of (.dat (.int Tryd.underlying3)) rfl rfl) .nil), .nil⟩
  · cases h
def sel7 (args : List AV) (objs : List Ob) : Option Dt := match args, objs with
  | [.ptr n0 p0 o0], [.box T1 (.dat T2 x2)] => bif (Nat.beq n0 0 && (natsB p0 [] && (Nat.beq o0 0 && (Nat.beq T1 45 && Nat.beq T2 45)))) then some x2 else none
  | _, _ => none
theorem sel7_ok {args : List AV} {objs : List Ob} {l : Dt} (h : sel7 args objs = some l) : CnA Tryd.prog args [(.ptr 0 [] 0)] ∧ CnOL Tryd.prog objs [(.box 45 (.dat 45 l))] := by
  unfold sel7 at h
  split at h
  · obtain ⟨hc, h2⟩ := bif_some h
    cases h2
    have e0 := beq_eq (and_l hc)
    have e1 := natsB_eq (and_l (and_r hc))
    have e2 := beq_eq (and_l (and_r (and_r hc)))
    have e3 := beq_eq (and_l (and_r (and_r (and_r hc))))
    have e4 := beq_eq (and_r (and_r (and_r (and_r hc))))
    subst e0 e1 e2 e3 e4
    exact ⟨(.cons (.of .same rfl rfl) .nil), (.cons (.box .same) .nil)⟩
  · cases h
def sel9 (args : List AV) (objs : List Ob) : Option (Int × Bool × Dt) := match args, objs with
  | [.ptr n0 p0 o0, .dat T1 x1, .dat T2 x2], [.box T3 (.dat T4 x4)] => bif (Nat.beq n0 0 && (natsB p0 [] && (Nat.beq o0 0 && (Nat.beq T1 3 && (Nat.beq T2 4 && (Nat.beq T3 45 && Nat.beq T4 45)))))) then some (x1.toInt, x2.toBool, x4) else none
  | _, _ => none
theorem sel9_ok {args : List AV} {objs : List Ob} {l : Int × Bool × Dt} (h : sel9 args objs = some l) : CnA Tryd.prog args [(.ptr 0 [] 0), (.dat 3 (.int l.1)), (.dat 4 (.bool l.2.1))] ∧ CnOL Tryd.prog objs [(.box 45 (.dat 45 l.2.2))] := by
  unfold sel9 at h
  split at h
  · obtain ⟨hc, h2⟩ := bif_some h
    cases h2
    have e0 := beq_eq (and_l hc)
    have e1 := natsB_eq (and_l (and_r hc))
    have e2 := beq_eq (and_l (and_r (and_r hc)))
    have e3 := beq_eq (and_l (and_r (and_r (and_r hc))))
    have e4 := beq_eq (and_l (and_r (and_r (and_r (and_r hc)))))
    have e5 := beq_eq (and_l (and_r (and_r (and_r (and_r (and_r hc))))))
    have e6 := beq_eq (and_r (and_r (and_r (and_r (and_r (and_r hc))))))
    subst e0 e1 e2 e3 e4 e5 e6
    exact ⟨(.cons (.of .same rfl rfl) (.cons (.of (.dat (.int Tryd.underlying3)) rfl rfl) (.cons (.of (.dat (.bool Tryd.underlying4)) rfl rfl) .nil))), (.cons (.box .same) .nil)⟩
  · cases h
def sel10 (args : List AV) (objs : List Ob) : Option (Int × Int × Dt) := match args, objs with
  | [.ptr n0 p0 o0, .dat T1 x1, .dat T2 x2], [.box T3 (.dat T4 x4)] => bif (Nat.beq n0 0 && (natsB p0 [] && (Nat.beq o0 0 && (Nat.beq T1 3 && (Nat.beq T2 3 && (Nat.beq T3 45 && Nat.beq T4 45)))))) then some (x1.toInt, x2.toInt, x4) else none
  | _, _ => none
theorem sel10_ok {args : List AV} {objs : List Ob} {l : Int × Int × Dt} (h : sel10 args objs = some l) : CnA Tryd.prog args [(.ptr 0 [] 0), (.dat 3 (.int l.1)), (.dat 3 (.int l.2.1))] ∧ CnOL Tryd.prog objs [(.box 45 (.dat 45 l.2.2))] := by
  unfold sel10 at h
  split at h
  · obtain ⟨hc, h2⟩ := bif_some h
    cases h2
    have e0 := beq_eq (and_l hc)
    have e1 := natsB_eq (and_l (and_r hc))
    have e2 := beq_eq (and_l (and_r (and_r hc)))
    have e3 := beq_eq (and_l (and_r (and_r (and_r hc))))
    have e4 := beq_eq (and_l (and_r (and_r (and_r (and_r hc)))))
    have e5 := beq_eq (and_l (and_r (and_r (and_r (and_r (and_r hc))))))
    have e6 := beq_eq (and_r (and_r (and_r (and_r (and_r (and_r hc))))))
    subst e0 e1 e2 e3 e4 e5 e6
    exact ⟨(.cons (.of .same rfl rfl) (.cons (.of (.dat (.int Tryd.underlying3)) rfl rfl) (.cons (.of (.dat (.int Tryd.underlying3)) rfl rfl) .nil))), (.cons (.box .same) .nil)⟩
  · cases h
def sel11 (args : List AV) (objs : List Ob) : Option (Int × Int × Dt) := match args, objs with
  | [.ptr n0 p0 o0, .dat T1 x1, .dat T2 x2], [.box T3 (.dat T4 x4)] => bif (Nat.beq n0 0 && (natsB p0 [] && (Nat.beq o0 0 && (Nat.beq T1 28 && (Nat.beq T2 3 && (Nat.beq T3 45 && Nat.beq T4 45)))))) then some (x1.toInt, x2.toInt, x4) else none
  | _, _ => none
theorem sel11_ok {args : List AV} {objs : List Ob} {l : Int × Int × Dt} (h : sel11 args objs = some l) : CnA Tryd.prog args [(.ptr 0 [] 0), (.dat 28 (.int l.1)), (.dat 3 (.int l.2.1))] ∧ CnOL Tryd.prog objs [(.box 45 (.dat 45 l.2.2))] := by
  unfold sel11 at h
  split at h
  · obtain ⟨hc, h2⟩ := bif_some h
    cases h2
    have e0 := beq_eq (and_l hc)
    have e1 := natsB_eq (and_l (and_r hc))
    have e2 := beq_eq (and_l (and_r (and_r hc)))
    have e3 := beq_eq (and_l (and_r (and_r (and_r hc))))
    have e4 := beq_eq (and_l (and_r (and_r (and_r (and_r hc)))))
    have e5 := beq_eq (and_l (and_r (and_r (and_r (and_r (and_r hc))))))
    have e6 := beq_eq (and_r (and_r (and_r (and_r (and_r (and_r hc))))))
    subst e0 e1 e2 e3 e4 e5 e6
    exact ⟨(.cons (.of .same rfl rfl) (.cons (.of (.dat (.int Tryd.underlying28)) rfl rfl) (.cons (.of (.dat (.int Tryd.underlying3)) rfl rfl) .nil))), (.cons (.box .same) .nil)⟩
  · cases h
def sel16 (args : List AV) (objs : List Ob) : Option (Int × List Dt) := match args, objs with
  | [.row n0, .dat T1 x1], [.row T2 x2] => bif (Nat.beq n0 0 && (Nat.beq T1 21 && Nat.beq T2 42)) then some (x1.toInt, x2) else none
  | _, _ => none
theorem sel16_ok {args : List AV} {objs : List Ob} {l : Int × List Dt} (h : sel16 args objs = some l) : CnA Tryd.prog args [(.row 0), (.dat 21 (.int l.1))] ∧ CnOL Tryd.prog objs [(.row 42 l.2)] := by
  unfold sel16 at h
  split at h
  · obtain ⟨hc, h2⟩ := bif_some h
    cases h2
    have e0 := beq_eq (and_l hc)
    have e1 := beq_eq (and_l (and_r hc))
    have e2 := beq_eq (and_r (and_r hc))
    subst e0 e1 e2
    exact ⟨(.cons (.of .same rfl rfl) (.cons (.of (.dat (.int Tryd.underlying21)) rfl rfl) .nil)), (.cons .same .nil)⟩
  · cases h
def sel19 (args : List AV) (objs : List Ob) : Option (Int × Dt) := match args, objs with
  | [.ptr n0 p0 o0, .dat T1 x1], [.box T2 (.dat T3 x3)] => bif (Nat.beq n0 0 && (natsB p0 [] && (Nat.beq o0 0 && (Nat.beq T1 3 && (Nat.beq T2 45 && Nat.beq T3 45))))) then some (x1.toInt, x3) else none
  | _, _ => none
theorem sel19_ok {args : List AV} {objs : List Ob} {l : Int × Dt} (h : sel19 args objs = some l) : CnA Tryd.prog args [(.ptr 0 [] 0), (.dat 3 (.int l.1))] ∧ CnOL Tryd.prog objs [(.box 45 (.dat 45 l.2))] := by
  unfold sel19 at h
  split at h
  · obtain ⟨hc, h2⟩ := bif_some h
    cases h2
    have e0 := beq_eq (and_l hc)
    have e1 := natsB_eq (and_l (and_r hc))
    have e2 := beq_eq (and_l (and_r (and_r hc)))
    have e3 := beq_eq (and_l (and_r (and_r (and_r hc))))
    have e4 := beq_eq (and_l (and_r (and_r (and_r (and_r hc)))))
    have e5 := beq_eq (and_r (and_r (and_r (and_r (and_r hc)))))
    subst e0 e1 e2 e3 e4 e5
    exact ⟨(.cons (.of .same rfl rfl) (.cons (.of (.dat (.int Tryd.underlying3)) rfl rfl) .nil)), (.cons (.box .same) .nil)⟩
  · cases h
def sel21 (args : List AV) (objs : List Ob) : Option (Dt × List Dt) := match args, objs with
  | [.ptr n0 p0 o0, .row n1], [.box T2 (.dat T3 x3), .map T4 x4] => bif (Nat.beq n0 0 && (natsB p0 [] && (Nat.beq o0 0 && (Nat.beq n1 1 && (Nat.beq T2 45 && (Nat.beq T3 45 && Nat.beq T4 68)))))) then some (x3, x4) else none
  | _, _ => none
theorem sel21_ok {args : List AV} {objs : List Ob} {l : Dt × List Dt} (h : sel21 args objs = some l) : CnA Tryd.prog args [(.ptr 0 [] 0), (.row 1)] ∧ CnOL Tryd.prog objs [(.box 45 (.dat 45 l.1)), (.map 68 l.2)] := by
  unfold sel21 at h
  split at h
  · obtain ⟨hc, h2⟩ := bif_some h
    cases h2
    have e0 := beq_eq (and_l hc)
    have e1 := natsB_eq (and_l (and_r hc))
    have e2 := beq_eq (and_l (and_r (and_r hc)))
    have e3 := beq_eq (and_l (and_r (and_r (and_r hc))))
    have e4 := beq_eq (and_l (and_r (and_r (and_r (and_r hc)))))
    have e5 := beq_eq (and_l (and_r (and_r (and_r (and_r (and_r hc))))))
    have e6 := beq_eq (and_r (and_r (and_r (and_r (and_r (and_r hc))))))
    subst e0 e1 e2 e3 e4 e5 e6
    exact ⟨(.cons (.of .same rfl rfl) (.cons (.of .same rfl rfl) .nil)), (.cons (.box .same) (.cons .same .nil))⟩
  · cases h
def sel24 (args : List AV) (objs : List Ob) : Option (List Dt) := match args, objs with
  | [.row n0], [.row T1 x1] => bif (Nat.beq n0 0 && Nat.beq T1 25) then some x1 else none
  | _, _ => none
theorem sel24_ok {args : List AV} {objs : List Ob} {l : List Dt} (h : sel24 args objs = some l) : CnA Tryd.prog args [(.row 0)] ∧ CnOL Tryd.prog objs [(.row 25 l)] := by
  unfold sel24 at h
  split at h
  · obtain ⟨hc, h2⟩ := bif_some h
    cases h2
    have e0 := beq_eq (and_l hc)
    have e1 := beq_eq (and_r hc)
    subst e0 e1
    exact ⟨(.cons (.of .same rfl rfl) .nil), (.cons .same .nil)⟩
  · cases h
def sel26 (args : List AV) (objs : List Ob) : Option (ByteArray × Dt) := match args, objs with
  | [.ptr n0 p0 o0, .dat T1 x1], [.box T2 (.dat T3 x3)] => bif (Nat.beq n0 0 && (natsB p0 [] && (Nat.beq o0 0 && (Nat.beq T1 9 && (Nat.beq T2 45 && Nat.beq T3 45))))) then some (x1.toStr, x3) else none
  | _, _ => none
theorem sel26_ok {args : List AV} {objs : List Ob} {l : ByteArray × Dt} (h : sel26 args objs = some l) : CnA Tryd.prog args [(.ptr 0 [] 0), (.dat 9 (.str l.1))] ∧ CnOL Tryd.prog objs [(.box 45 (.dat 45 l.2))] := by
  unfold sel26 at h
  split at h
  · obtain ⟨hc, h2⟩ := bif_some h
    cases h2
    have e0 := beq_eq (and_l hc)
    have e1 := natsB_eq (and_l (and_r hc))
    have e2 := beq_eq (and_l (and_r (and_r hc)))
    have e3 := beq_eq (and_l (and_r (and_r (and_r hc))))
    have e4 := beq_eq (and_l (and_r (and_r (and_r (and_r hc)))))
    have e5 := beq_eq (and_r (and_r (and_r (and_r (and_r hc)))))
    subst e0 e1 e2 e3 e4 e5
    exact ⟨(.cons (.of .same rfl rfl) (.cons (.of (.dat (.str Tryd.underlying9)) rfl rfl) .nil)), (.cons (.box .same) .nil)⟩
  · cases h
def sel28 (args : List AV) (objs : List Ob) : Option (ByteArray × Int × Int) := match args, objs with
  | [.dat T0 x0, .dat T1 x1, .dat T2 x2], [] => bif (Nat.beq T0 9 && (Nat.beq T1 3 && Nat.beq T2 3)) then some (x0.toStr, x1.toInt, x2.toInt) else none
  | _, _ => none
theorem sel28_ok {args : List AV} {objs : List Ob} {l : ByteArray × Int × Int} (h : sel28 args objs = some l) : CnA Tryd.prog args [(.dat 9 (.str l.1)), (.dat 3 (.int l.2.1)), (.dat 3 (.int l.2.2))] ∧ CnOL Tryd.prog objs [] := by
  unfold sel28 at h
  split at h
  · obtain ⟨hc, h2⟩ := bif_some h
    cases h2
    have e0 := beq_eq (and_l hc)
    have e1 := beq_eq (and_l (and_r hc))
    have e2 := beq_eq (and_r (and_r hc))
    subst e0 e1 e2
    exact ⟨(.cons (.of (.dat (.str Tryd.underlying9)) rfl rfl) (.cons (.of (.dat (.int Tryd.underlying3)) rfl rfl) (.cons (.of (.dat (.int Tryd.underlying3)) rfl rfl) .nil))), .nil⟩
  · cases h
def sel31 (args : List AV) (objs : List Ob) : Option (Dt × Bool) := match args, objs with
  | [.dat T0 x0, .dat T1 x1], [] => bif (Nat.beq T0 27 && Nat.beq T1 4) then some (x0, x1.toBool) else none
  | _, _ => none
theorem sel31_ok {args : List AV} {objs : List Ob} {l : Dt × Bool} (h : sel31 args objs = some l) : CnA Tryd.prog args [(.dat 27 l.1), (.dat 4 (.bool l.2))] ∧ CnOL Tryd.prog objs [] := by
  unfold sel31 at h
  split at h
  · obtain ⟨hc, h2⟩ := bif_some h
    cases h2
    have e0 := beq_eq (and_l hc)
    have e1 := beq_eq (and_r hc)
    subst e0 e1
    exact ⟨(.cons (.of .same rfl rfl) (.cons (.of (.dat (.bool Tryd.underlying4)) rfl rfl) .nil)), .nil⟩
  · cases h
def sel32 (args : List AV) (objs : List Ob) : Option (Dt × Int) := match args, objs with
  | [.dat T0 x0, .dat T1 x1], [] => bif (Nat.beq T0 27 && Nat.beq T1 3) then some (x0, x1.toInt) else none
  | _, _ => none
theorem sel32_ok {args : List AV} {objs : List Ob} {l : Dt × Int} (h : sel32 args objs = some l) : CnA Tryd.prog args [(.dat 27 l.1), (.dat 3 (.int l.2))] ∧ CnOL Tryd.prog objs [] := by
  unfold sel32 at h
  split at h
  · obtain ⟨hc, h2⟩ := bif_some h
    cases h2
    have e0 := beq_eq (and_l hc)
    have e1 := beq_eq (and_r hc)
    subst e0 e1
    exact ⟨(.cons (.of .same rfl rfl) (.cons (.of (.dat (.int Tryd.underlying3)) rfl rfl) .nil)), .nil⟩
  · cases h
noncomputable def ct3 {R : Type} (m : Nat) (args : List AV) (objs : List Ob) (K : Res → Option R) : Option R := match sel0 args objs with
  | some l => (law05_NotationQuotes m l).bind fun r => K ((.dat 4 (.bool r)), [])
  | none => none
noncomputable def ct7 {R : Type} (m : Nat) (args : List AV) (objs : List Ob) (K : Res → Option R) : Option R := match sel1 args objs with
  | some l => (awakeC).bind fun r => K ((.dat 4 (.bool r)), [])
  | none => none
noncomputable def ct8 {R : Type} (m : Nat) (args : List AV) (objs : List Ob) (K : Res → Option R) : Option R := match sel0 args objs with
  | some l => (notation_Quote m l).bind fun r => K ((.dat 9 (.str r)), [])
  | none => none
noncomputable def ct9 {R : Type} (m : Nat) (args : List AV) (objs : List Ob) (K : Res → Option R) : Option R := match sel0 args objs with
  | some l => (ref05_Quote m l).bind fun r => K ((.dat 9 (.str r)), [])
  | none => none
noncomputable def ct10 {R : Type} (m : Nat) (args : List AV) (objs : List Ob) (K : Res → Option R) : Option R := match sel0 args objs with
  | some l => (notation_Parse m l).bind fun r => K ((.tup [(.dat 27 r.1), (.dat 3 (.int r.2.1)), (.dat 28 (.int r.2.2))]), [])
  | none => none
noncomputable def ct11 {R : Type} (m : Nat) (args : List AV) (objs : List Ob) (K : Res → Option R) : Option R := match sel5 args objs with
  | some l => (ref01_Valid m l).bind fun r => K ((.dat 4 (.bool r)), [])
  | none => none
noncomputable def ct16 {R : Type} (m : Nat) (args : List AV) (objs : List Ob) (K : Res → Option R) : Option R := match sel6 args objs with
  | some l => (ref05_digit m l).bind fun r => K ((.dat 9 (.str r)), [])
  | none => none
noncomputable def ct17 {R : Type} (m : Nat) (args : List AV) (objs : List Ob) (K : Res → Option R) : Option R := match sel7 args objs with
  | some l => (i7 m l).bind fun r => K ((.tup []), [(.box 45 (.dat 45 r))])
  | none => none
noncomputable def ct28 {R : Type} (m : Nat) (args : List AV) (objs : List Ob) (K : Res → Option R) : Option R := match sel7 args objs with
  | some l => (i8 m l).bind fun r => K ((.dat 3 (.int r.1)), [(.box 45 (.dat 45 r.2))])
  | none => none
noncomputable def ct18 {R : Type} (m : Nat) (args : List AV) (objs : List Ob) (K : Res → Option R) : Option R := match sel9 args objs with
  | some l => (i9 m l.1 l.2.1 l.2.2).bind fun r => K ((.tup [(.dat 27 r.1), (.dat 4 (.bool r.2.1))]), [(.box 45 (.dat 45 r.2.2))])
  | none => none
noncomputable def ct29 {R : Type} (m : Nat) (args : List AV) (objs : List Ob) (K : Res → Option R) : Option R := match sel10 args objs with
  | some l => (i10 m l.1 l.2.1 l.2.2).bind fun r => K ((.dat 4 (.bool r.1)), [(.box 45 (.dat 45 r.2))])
  | none => none
noncomputable def ct19 {R : Type} (m : Nat) (args : List AV) (objs : List Ob) (K : Res → Option R) : Option R := match sel11 args objs with
  | some l => (i11 m l.1 l.2.1 l.2.2).bind fun r => K ((.dat 4 (.bool r.1)), [(.box 45 (.dat 45 r.2))])
  | none => none
noncomputable def ct30 {R : Type} (m : Nat) (args : List AV) (objs : List Ob) (K : Res → Option R) : Option R := match sel7 args objs with
  | some l => (i12 m l).bind fun r => K ((.tup [(.dat 27 r.1), (.dat 4 (.bool r.2.1))]), [(.box 45 (.dat 45 r.2.2))])
  | none => none
noncomputable def ct49 {R : Type} (m : Nat) (args : List AV) (objs : List Ob) (K : Res → Option R) : Option R := match sel7 args objs with
  | some l => (i13 m l).bind fun r => K ((.tup [(.dat 9 (.str r.1)), (.dat 4 (.bool r.2.1))]), [(.box 45 (.dat 45 r.2.2))])
  | none => none
noncomputable def ct66 {R : Type} (m : Nat) (args : List AV) (objs : List Ob) (K : Res → Option R) : Option R := match sel7 args objs with
  | some l => (i14 m l).bind fun r => K ((.tup [(.dat 21 (.int r.1)), (.dat 4 (.bool r.2.1))]), [(.box 45 (.dat 45 r.2.2))])
  | none => none
noncomputable def ct78 {R : Type} (m : Nat) (args : List AV) (objs : List Ob) (K : Res → Option R) : Option R := match sel7 args objs with
  | some l => (i15 m l).bind fun r => K ((.tup [(.dat 21 (.int r.1)), (.dat 4 (.bool r.2.1))]), [(.box 45 (.dat 45 r.2.2))])
  | none => none
noncomputable def ct67 {R : Type} (m : Nat) (args : List AV) (objs : List Ob) (K : Res → Option R) : Option R := match sel16 args objs with
  | some l => (i16 m l.1 l.2).bind fun r => K ((.row 1), [.gone, (.row 42 r)])
  | none => none
noncomputable def ct79 {R : Type} (m : Nat) (args : List AV) (objs : List Ob) (K : Res → Option R) : Option R := match sel16 args objs with
  | some l => (i17 m l.1 l.2).bind fun r => K ((.row 1), [.gone, (.row 42 r)])
  | none => none
noncomputable def ct50 {R : Type} (m : Nat) (args : List AV) (objs : List Ob) (K : Res → Option R) : Option R := match sel0 args objs with
  | some l => (utf8_ValidString l).bind fun r => K ((.dat 4 (.bool r)), [])
  | none => none
noncomputable def ct31 {R : Type} (m : Nat) (args : List AV) (objs : List Ob) (K : Res → Option R) : Option R := match sel19 args objs with
  | some l => (i19 m l.1 l.2).bind fun r => K ((.tup [(.dat 27 r.1), (.dat 4 (.bool r.2.1))]), [(.box 45 (.dat 45 r.2.2))])
  | none => none
noncomputable def ct32 {R : Type} (m : Nat) (args : List AV) (objs : List Ob) (K : Res → Option R) : Option R := match sel19 args objs with
  | some l => (i20 m l.1 l.2).bind fun r => K ((.tup [(.dat 27 r.1), (.dat 4 (.bool r.2.1))]), [(.box 45 (.dat 45 r.2.2))])
  | none => none
noncomputable def ct51 {R : Type} (m : Nat) (args : List AV) (objs : List Ob) (K : Res → Option R) : Option R := match sel21 args objs with
  | some l => (i21 m l.1 l.2).bind fun r => K ((.tup [(.dat 9 (.str r.1)), (.dat 4 (.bool r.2.1))]), [(.box 45 (.dat 45 r.2.2.1)), (.map 68 r.2.2.2)])
  | none => none
noncomputable def ct61 {R : Type} (m : Nat) (args : List AV) (objs : List Ob) (K : Res → Option R) : Option R := match sel0 args objs with
  | some l => (notation_isField m l).bind fun r => K ((.dat 4 (.bool r)), [])
  | none => none
noncomputable def ct52 {R : Type} (m : Nat) (args : List AV) (objs : List Ob) (K : Res → Option R) : Option R := match sel0 args objs with
  | some l => (notation_isSpecial m l).bind fun r => K ((.dat 4 (.bool r)), [])
  | none => none
noncomputable def ct53 {R : Type} (m : Nat) (args : List AV) (objs : List Ob) (K : Res → Option R) : Option R := match sel24 args objs with
  | some l => (i24 m l).bind fun r => K ((.tup [(.dat 27 r.1), (.dat 4 (.bool r.2.1))]), [(.row 25 r.2.2)])
  | none => none
noncomputable def ct69 {R : Type} (m : Nat) (args : List AV) (objs : List Ob) (K : Res → Option R) : Option R := match sel5 args objs with
  | some l => (notation_fromHex m l).bind fun r => K ((.tup [(.dat 9 (.str r.1)), (.dat 4 (.bool r.2))]), [])
  | none => none
noncomputable def ct33 {R : Type} (m : Nat) (args : List AV) (objs : List Ob) (K : Res → Option R) : Option R := match sel26 args objs with
  | some l => (i26 m l.1 l.2).bind fun r => K ((.dat 4 (.bool r.1)), [(.box 45 (.dat 45 r.2))])
  | none => none
noncomputable def ct34 {R : Type} (m : Nat) (args : List AV) (objs : List Ob) (K : Res → Option R) : Option R := match sel7 args objs with
  | some l => (i27 m l).bind fun r => K ((.tup [(.dat 27 r.1), (.dat 4 (.bool r.2.1))]), [(.box 45 (.dat 45 r.2.2))])
  | none => none
noncomputable def ct54 {R : Type} (m : Nat) (args : List AV) (objs : List Ob) (K : Res → Option R) : Option R := match sel28 args objs with
  | some l => (strconv_ParseInt l.1 l.2.1 l.2.2).bind fun r => K ((.tup [(.dat 2 (.int r.1)), (.nif r.2)]), [])
  | none => none
noncomputable def ct20 {R : Type} (m : Nat) (args : List AV) (objs : List Ob) (K : Res → Option R) : Option R := match sel5 args objs with
  | some l => (ref01_Depth m l).bind fun r => K ((.dat 3 (.int r)), [])
  | none => none
noncomputable def ct21 {R : Type} (m : Nat) (args : List AV) (objs : List Ob) (K : Res → Option R) : Option R := match sel5 args objs with
  | some l => (ref01_Nodes m l).bind fun r => K ((.dat 3 (.int r)), [])
  | none => none
noncomputable def ct22 {R : Type} (m : Nat) (args : List AV) (objs : List Ob) (K : Res → Option R) : Option R := match sel31 args objs with
  | some l => (ref01_formed m l.1 l.2).bind fun r => K ((.dat 4 (.bool r)), [])
  | none => none
noncomputable def ct35 {R : Type} (m : Nat) (args : List AV) (objs : List Ob) (K : Res → Option R) : Option R := match sel32 args objs with
  | some l => (ref01_levels m l.1 l.2).bind fun r => K ((.dat 3 (.int r)), [])
  | none => none
noncomputable def ct36 {R : Type} (m : Nat) (args : List AV) (objs : List Ob) (K : Res → Option R) : Option R := match sel32 args objs with
  | some l => (ref01_count m l.1 l.2).bind fun r => K ((.dat 3 (.int r)), [])
  | none => none
noncomputable def ct37 {R : Type} (m : Nat) (args : List AV) (objs : List Ob) (K : Res → Option R) : Option R := match sel0 args objs with
  | some l => (ref01_UTF8 m l).bind fun r => K ((.dat 4 (.bool r)), [])
  | none => none
noncomputable def ct38 {R : Type} (m : Nat) (args : List AV) (objs : List Ob) (K : Res → Option R) : Option R := match sel31 args objs with
  | some l => (ref01_fields m l.1 l.2).bind fun r => K ((.dat 4 (.bool r)), [])
  | none => none
noncomputable def ct55 {R : Type} (m : Nat) (args : List AV) (objs : List Ob) (K : Res → Option R) : Option R := match sel5 args objs with
  | some l => (ref01_Parts m l).bind fun r => K ((.dat 24 (.lst r)), [])
  | none => none
noncomputable def ct56 {R : Type} (m : Nat) (args : List AV) (objs : List Ob) (K : Res → Option R) : Option R := match sel28 args objs with
  | some l => (ref01_tail m l.1 l.2.1 l.2.2).bind fun r => K ((.dat 4 (.bool r)), [])
  | none => none
noncomputable def ct57 {R : Type} (m : Nat) (args : List AV) (objs : List Ob) (K : Res → Option R) : Option R := match sel0 args objs with
  | some l => (ref01_Name m l).bind fun r => K ((.dat 4 (.bool r)), [])
  | none => none
noncomputable def ct58 {R : Type} (m : Nat) (args : List AV) (objs : List Ob) (K : Res → Option R) : Option R := match sel0 args objs with
  | some l => (ref01_wide m l).bind fun r => K ((.dat 4 (.bool r)), [])
  | none => none
-- decoders
noncomputable def d2 (q : Res) : Option ByteArray := match q with
  | (.dat T0 x0, []) => bif Nat.beq T0 9 then some x0.toStr else none
  | _ => none
theorem d2_sim {b : Res} {r : ByteArray} (h : d2 b = some r) : Sim Tryd.prog b ((.dat 9 (.str r)), []) := by
  unfold d2 at h
  split at h
  · obtain ⟨hc, h2⟩ := bif_some h
    cases h2
    have e0 := beq_eq hc
    subst e0
    exact Sim.of (.of (.dat (.str Tryd.underlying9)) rfl rfl) .nil
  · cases h
noncomputable def d8 (q : Res) : Option (Int × Dt) := match q with
  | (.dat T0 x0, [.box T1 (.dat T2 x2)]) => bif (Nat.beq T0 3 && (Nat.beq T1 45 && Nat.beq T2 45)) then some (x0.toInt, x2) else none
  | _ => none
theorem d8_sim {b : Res} {r : Int × Dt} (h : d8 b = some r) : Sim Tryd.prog b ((.dat 3 (.int r.1)), [(.box 45 (.dat 45 r.2))]) := by
  unfold d8 at h
  split at h
  · obtain ⟨hc, h2⟩ := bif_some h
    cases h2
    have e0 := beq_eq (and_l hc)
    have e1 := beq_eq (and_l (and_r hc))
    have e2 := beq_eq (and_r (and_r hc))
    subst e0 e1 e2
    exact Sim.of (.of (.dat (.int Tryd.underlying3)) rfl rfl) (.cons (.box .same) .nil)
  · cases h
noncomputable def d7 (q : Res) : Option Dt := match q with
  | (.tup [], [.box T0 (.dat T1 x1)]) => bif (Nat.beq T0 45 && Nat.beq T1 45) then some x1 else none
  | _ => none
theorem d7_sim {b : Res} {r : Dt} (h : d7 b = some r) : Sim Tryd.prog b ((.tup []), [(.box 45 (.dat 45 r))]) := by
  unfold d7 at h
  split at h
  · obtain ⟨hc, h2⟩ := bif_some h
    cases h2
    have e0 := beq_eq (and_l hc)
    have e1 := beq_eq (and_r hc)
    subst e0 e1
    exact Sim.of (.tup .nil) (.cons (.box .same) .nil)
  · cases h
noncomputable def d11 (q : Res) : Option (Bool × Dt) := match q with
  | (.dat T0 x0, [.box T1 (.dat T2 x2)]) => bif (Nat.beq T0 4 && (Nat.beq T1 45 && Nat.beq T2 45)) then some (x0.toBool, x2) else none
  | _ => none
theorem d11_sim {b : Res} {r : Bool × Dt} (h : d11 b = some r) : Sim Tryd.prog b ((.dat 4 (.bool r.1)), [(.box 45 (.dat 45 r.2))]) := by
  unfold d11 at h
  split at h
  · obtain ⟨hc, h2⟩ := bif_some h
    cases h2
    have e0 := beq_eq (and_l hc)
    have e1 := beq_eq (and_l (and_r hc))
    have e2 := beq_eq (and_r (and_r hc))
    subst e0 e1 e2
    exact Sim.of (.of (.dat (.bool Tryd.underlying4)) rfl rfl) (.cons (.box .same) .nil)
  · cases h
noncomputable def d15 (q : Res) : Option (Int × Bool × Dt) := match q with
  | (.tup [.dat T0 x0, .dat T1 x1], [.box T2 (.dat T3 x3)]) => bif (Nat.beq T0 21 && (Nat.beq T1 4 && (Nat.beq T2 45 && Nat.beq T3 45))) then some (x0.toInt, x1.toBool, x3) else none
  | _ => none
theorem d15_sim {b : Res} {r : Int × Bool × Dt} (h : d15 b = some r) : Sim Tryd.prog b ((.tup [(.dat 21 (.int r.1)), (.dat 4 (.bool r.2.1))]), [(.box 45 (.dat 45 r.2.2))]) := by
  unfold d15 at h
  split at h
  · obtain ⟨hc, h2⟩ := bif_some h
    cases h2
    have e0 := beq_eq (and_l hc)
    have e1 := beq_eq (and_l (and_r hc))
    have e2 := beq_eq (and_l (and_r (and_r hc)))
    have e3 := beq_eq (and_r (and_r (and_r hc)))
    subst e0 e1 e2 e3
    exact Sim.of (.tup (.cons (.dat (.int Tryd.underlying21)) (.cons (.dat (.bool Tryd.underlying4)) .nil))) (.cons (.box .same) .nil)
  · cases h
noncomputable def d17 (q : Res) : Option (List Dt) := match q with
  | (.row n0, [.gone, .row T1 x1]) => bif (Nat.beq n0 1 && Nat.beq T1 42) then some x1 else none
  | _ => none
theorem d17_sim {b : Res} {r : List Dt} (h : d17 b = some r) : Sim Tryd.prog b ((.row 1), [.gone, (.row 42 r)]) := by
  unfold d17 at h
  split at h
  · obtain ⟨hc, h2⟩ := bif_some h
    cases h2
    have e0 := beq_eq (and_l hc)
    have e1 := beq_eq (and_r hc)
    subst e0 e1
    exact Sim.of (.of .same rfl rfl) (.cons .same (.cons .same .nil))
  · cases h
noncomputable def d13 (q : Res) : Option (ByteArray × Bool × Dt) := match q with
  | (.tup [.dat T0 x0, .dat T1 x1], [.box T2 (.dat T3 x3)]) => bif (Nat.beq T0 9 && (Nat.beq T1 4 && (Nat.beq T2 45 && Nat.beq T3 45))) then some (x0.toStr, x1.toBool, x3) else none
  | _ => none
theorem d13_sim {b : Res} {r : ByteArray × Bool × Dt} (h : d13 b = some r) : Sim Tryd.prog b ((.tup [(.dat 9 (.str r.1)), (.dat 4 (.bool r.2.1))]), [(.box 45 (.dat 45 r.2.2))]) := by
  unfold d13 at h
  split at h
  · obtain ⟨hc, h2⟩ := bif_some h
    cases h2
    have e0 := beq_eq (and_l hc)
    have e1 := beq_eq (and_l (and_r hc))
    have e2 := beq_eq (and_l (and_r (and_r hc)))
    have e3 := beq_eq (and_r (and_r (and_r hc)))
    subst e0 e1 e2 e3
    exact Sim.of (.tup (.cons (.dat (.str Tryd.underlying9)) (.cons (.dat (.bool Tryd.underlying4)) .nil))) (.cons (.box .same) .nil)
  · cases h
noncomputable def d12 (q : Res) : Option (Dt × Bool × Dt) := match q with
  | (.tup [.dat T0 x0, .dat T1 x1], [.box T2 (.dat T3 x3)]) => bif (Nat.beq T0 27 && (Nat.beq T1 4 && (Nat.beq T2 45 && Nat.beq T3 45))) then some (x0, x1.toBool, x3) else none
  | _ => none
theorem d12_sim {b : Res} {r : Dt × Bool × Dt} (h : d12 b = some r) : Sim Tryd.prog b ((.tup [(.dat 27 r.1), (.dat 4 (.bool r.2.1))]), [(.box 45 (.dat 45 r.2.2))]) := by
  unfold d12 at h
  split at h
  · obtain ⟨hc, h2⟩ := bif_some h
    cases h2
    have e0 := beq_eq (and_l hc)
    have e1 := beq_eq (and_l (and_r hc))
    have e2 := beq_eq (and_l (and_r (and_r hc)))
    have e3 := beq_eq (and_r (and_r (and_r hc)))
    subst e0 e1 e2 e3
    exact Sim.of (.tup (.cons .same (.cons (.dat (.bool Tryd.underlying4)) .nil))) (.cons (.box .same) .nil)
  · cases h
noncomputable def d22 (q : Res) : Option Bool := match q with
  | (.dat T0 x0, []) => bif Nat.beq T0 4 then some x0.toBool else none
  | _ => none
theorem d22_sim {b : Res} {r : Bool} (h : d22 b = some r) : Sim Tryd.prog b ((.dat 4 (.bool r)), []) := by
  unfold d22 at h
  split at h
  · obtain ⟨hc, h2⟩ := bif_some h
    cases h2
    have e0 := beq_eq hc
    subst e0
    exact Sim.of (.of (.dat (.bool Tryd.underlying4)) rfl rfl) .nil
  · cases h
noncomputable def d21 (q : Res) : Option (ByteArray × Bool × Dt × List Dt) := match q with
  | (.tup [.dat T0 x0, .dat T1 x1], [.box T2 (.dat T3 x3), .map T4 x4]) => bif (Nat.beq T0 9 && (Nat.beq T1 4 && (Nat.beq T2 45 && (Nat.beq T3 45 && Nat.beq T4 68)))) then some (x0.toStr, x1.toBool, x3, x4) else none
  | _ => none
theorem d21_sim {b : Res} {r : ByteArray × Bool × Dt × List Dt} (h : d21 b = some r) : Sim Tryd.prog b ((.tup [(.dat 9 (.str r.1)), (.dat 4 (.bool r.2.1))]), [(.box 45 (.dat 45 r.2.2.1)), (.map 68 r.2.2.2)]) := by
  unfold d21 at h
  split at h
  · obtain ⟨hc, h2⟩ := bif_some h
    cases h2
    have e0 := beq_eq (and_l hc)
    have e1 := beq_eq (and_l (and_r hc))
    have e2 := beq_eq (and_l (and_r (and_r hc)))
    have e3 := beq_eq (and_l (and_r (and_r (and_r hc))))
    have e4 := beq_eq (and_r (and_r (and_r (and_r hc))))
    subst e0 e1 e2 e3 e4
    exact Sim.of (.tup (.cons (.dat (.str Tryd.underlying9)) (.cons (.dat (.bool Tryd.underlying4)) .nil))) (.cons (.box .same) (.cons .same .nil))
  · cases h
noncomputable def d25 (q : Res) : Option (ByteArray × Bool) := match q with
  | (.tup [.dat T0 x0, .dat T1 x1], []) => bif (Nat.beq T0 9 && Nat.beq T1 4) then some (x0.toStr, x1.toBool) else none
  | _ => none
theorem d25_sim {b : Res} {r : ByteArray × Bool} (h : d25 b = some r) : Sim Tryd.prog b ((.tup [(.dat 9 (.str r.1)), (.dat 4 (.bool r.2))]), []) := by
  unfold d25 at h
  split at h
  · obtain ⟨hc, h2⟩ := bif_some h
    cases h2
    have e0 := beq_eq (and_l hc)
    have e1 := beq_eq (and_r hc)
    subst e0 e1
    exact Sim.of (.tup (.cons (.dat (.str Tryd.underlying9)) (.cons (.dat (.bool Tryd.underlying4)) .nil))) .nil
  · cases h
noncomputable def d24 (q : Res) : Option (Dt × Bool × List Dt) := match q with
  | (.tup [.dat T0 x0, .dat T1 x1], [.row T2 x2]) => bif (Nat.beq T0 27 && (Nat.beq T1 4 && Nat.beq T2 25)) then some (x0, x1.toBool, x2) else none
  | _ => none
theorem d24_sim {b : Res} {r : Dt × Bool × List Dt} (h : d24 b = some r) : Sim Tryd.prog b ((.tup [(.dat 27 r.1), (.dat 4 (.bool r.2.1))]), [(.row 25 r.2.2)]) := by
  unfold d24 at h
  split at h
  · obtain ⟨hc, h2⟩ := bif_some h
    cases h2
    have e0 := beq_eq (and_l hc)
    have e1 := beq_eq (and_l (and_r hc))
    have e2 := beq_eq (and_r (and_r hc))
    subst e0 e1 e2
    exact Sim.of (.tup (.cons .same (.cons (.dat (.bool Tryd.underlying4)) .nil))) (.cons .same .nil)
  · cases h
noncomputable def d4 (q : Res) : Option (Dt × Int × Int) := match q with
  | (.tup [.dat T0 x0, .dat T1 x1, .dat T2 x2], []) => bif (Nat.beq T0 27 && (Nat.beq T1 3 && Nat.beq T2 28)) then some (x0, x1.toInt, x2.toInt) else none
  | _ => none
theorem d4_sim {b : Res} {r : Dt × Int × Int} (h : d4 b = some r) : Sim Tryd.prog b ((.tup [(.dat 27 r.1), (.dat 3 (.int r.2.1)), (.dat 28 (.int r.2.2))]), []) := by
  unfold d4 at h
  split at h
  · obtain ⟨hc, h2⟩ := bif_some h
    cases h2
    have e0 := beq_eq (and_l hc)
    have e1 := beq_eq (and_l (and_r hc))
    have e2 := beq_eq (and_r (and_r hc))
    subst e0 e1 e2
    exact Sim.of (.tup (.cons .same (.cons (.dat (.int Tryd.underlying3)) (.cons (.dat (.int Tryd.underlying28)) .nil)))) .nil
  · cases h
noncomputable def d36 (q : Res) : Option (List Dt) := match q with
  | (.dat T0 x0, []) => bif Nat.beq T0 24 then some x0.toLst else none
  | _ => none
theorem d36_sim {b : Res} {r : List Dt} (h : d36 b = some r) : Sim Tryd.prog b ((.dat 24 (.lst r)), []) := by
  unfold d36 at h
  split at h
  · obtain ⟨hc, h2⟩ := bif_some h
    cases h2
    have e0 := beq_eq hc
    subst e0
    exact Sim.of (.of (.dat (.lst Tryd.underlying24)) rfl rfl) .nil
  · cases h
noncomputable def d32 (q : Res) : Option Int := match q with
  | (.dat T0 x0, []) => bif Nat.beq T0 3 then some x0.toInt else none
  | _ => none
theorem d32_sim {b : Res} {r : Int} (h : d32 b = some r) : Sim Tryd.prog b ((.dat 3 (.int r)), []) := by
  unfold d32 at h
  split at h
  · obtain ⟨hc, h2⟩ := bif_some h
    cases h2
    have e0 := beq_eq hc
    subst e0
    exact Sim.of (.of (.dat (.int Tryd.underlying3)) rfl rfl) .nil
  · cases h
noncomputable def ct {R : Type} (m : Nat) (f : FuncId) (args : List AV) (objs : List Ob) (K : Res → Option R) : Option R :=
  bif Nat.beq f 3 then ct3 m args objs K else
  bif Nat.beq f 7 then ct7 m args objs K else
  bif Nat.beq f 8 then ct8 m args objs K else
  bif Nat.beq f 9 then ct9 m args objs K else
  bif Nat.beq f 10 then ct10 m args objs K else
  bif Nat.beq f 11 then ct11 m args objs K else
  bif Nat.beq f 16 then ct16 m args objs K else
  bif Nat.beq f 17 then ct17 m args objs K else
  bif Nat.beq f 28 then ct28 m args objs K else
  bif Nat.beq f 18 then ct18 m args objs K else
  bif Nat.beq f 29 then ct29 m args objs K else
  bif Nat.beq f 19 then ct19 m args objs K else
  bif Nat.beq f 30 then ct30 m args objs K else
  bif Nat.beq f 49 then ct49 m args objs K else
  bif Nat.beq f 66 then ct66 m args objs K else
  bif Nat.beq f 78 then ct78 m args objs K else
  bif Nat.beq f 67 then ct67 m args objs K else
  bif Nat.beq f 79 then ct79 m args objs K else
  bif Nat.beq f 50 then ct50 m args objs K else
  bif Nat.beq f 31 then ct31 m args objs K else
  bif Nat.beq f 32 then ct32 m args objs K else
  bif Nat.beq f 51 then ct51 m args objs K else
  bif Nat.beq f 61 then ct61 m args objs K else
  bif Nat.beq f 52 then ct52 m args objs K else
  bif Nat.beq f 53 then ct53 m args objs K else
  bif Nat.beq f 69 then ct69 m args objs K else
  bif Nat.beq f 33 then ct33 m args objs K else
  bif Nat.beq f 34 then ct34 m args objs K else
  bif Nat.beq f 54 then ct54 m args objs K else
  bif Nat.beq f 20 then ct20 m args objs K else
  bif Nat.beq f 21 then ct21 m args objs K else
  bif Nat.beq f 22 then ct22 m args objs K else
  bif Nat.beq f 35 then ct35 m args objs K else
  bif Nat.beq f 36 then ct36 m args objs K else
  bif Nat.beq f 37 then ct37 m args objs K else
  bif Nat.beq f 38 then ct38 m args objs K else
  bif Nat.beq f 55 then ct55 m args objs K else
  bif Nat.beq f 56 then ct56 m args objs K else
  bif Nat.beq f 57 then ct57 m args objs K else
  bif Nat.beq f 58 then ct58 m args objs K else
  none
end Go.Proofs.YtmejbpmceflcjaaDoor
