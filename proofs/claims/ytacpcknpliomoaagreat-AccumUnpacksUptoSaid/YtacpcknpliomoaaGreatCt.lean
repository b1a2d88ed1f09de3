/- Generated: the functions as contracts for their callers. -/
import Derived.Test.YtacpcknpliomoaaGreatSh
import Derived.Test.YtacpcknpliomoaaGreatProg
set_option linter.unusedVariables false
set_option linter.unusedSimpArgs false
namespace Go.Proofs.YtacpcknpliomoaaGreat
open Go.Am
def sel0 (args : List AV) (objs : List Ob) : Option Dt := match args, objs with
  | [.dat T0 x0], [] => bif Nat.beq T0 25 then some x0 else none
  | _, _ => none
theorem sel0_ok {args : List AV} {objs : List Ob} {l : Dt} (h : sel0 args objs = some l) : CnA Tryz.prog args [(.dat 25 l)] ∧ CnOL Tryz.prog objs [] := by
  unfold sel0 at h
  split at h
  · obtain ⟨hc, h2⟩ := bif_some h
    cases h2
    have e0 := beq_eq hc
    subst e0
    exact ⟨(.cons (.of .same rfl rfl) .nil), .nil⟩
  · cases h
def sel1 (args : List AV) (objs : List Ob) : Option (Dt × Int) := match args, objs with
  | [.dat T0 x0, .dat T1 x1], [] => bif (Nat.beq T0 25 && Nat.beq T1 3) then some (x0, x1.toInt) else none
  | _, _ => none
theorem sel1_ok {args : List AV} {objs : List Ob} {l : Dt × Int} (h : sel1 args objs = some l) : CnA Tryz.prog args [(.dat 25 l.1), (.dat 3 (.int l.2))] ∧ CnOL Tryz.prog objs [] := by
  unfold sel1 at h
  split at h
  · obtain ⟨hc, h2⟩ := bif_some h
    cases h2
    have e0 := beq_eq (and_l hc)
    have e1 := beq_eq (and_r hc)
    subst e0 e1
    exact ⟨(.cons (.of .same rfl rfl) (.cons (.of (.dat (.int Tryz.underlying3)) rfl rfl) .nil)), .nil⟩
  · cases h
def sel2 (args : List AV) (objs : List Ob) : Option Unit := match args, objs with
  | [], [] => bif true then some () else none
  | _, _ => none
theorem sel2_ok {args : List AV} {objs : List Ob} {l : Unit} (h : sel2 args objs = some l) : CnA Tryz.prog args [] ∧ CnOL Tryz.prog objs [] := by
  unfold sel2 at h
  split at h
  · obtain ⟨hc, h2⟩ := bif_some h
    cases h2
    exact ⟨.nil, .nil⟩
  · cases h
def sel5 (args : List AV) (objs : List Ob) : Option (Dt × Dt) := match args, objs with
  | [.dat T0 x0, .dat T1 x1], [] => bif (Nat.beq T0 29 && Nat.beq T1 29) then some (x0, x1) else none
  | _, _ => none
theorem sel5_ok {args : List AV} {objs : List Ob} {l : Dt × Dt} (h : sel5 args objs = some l) : CnA Tryz.prog args [(.dat 29 l.1), (.dat 29 l.2)] ∧ CnOL Tryz.prog objs [] := by
  unfold sel5 at h
  split at h
  · obtain ⟨hc, h2⟩ := bif_some h
    cases h2
    have e0 := beq_eq (and_l hc)
    have e1 := beq_eq (and_r hc)
    subst e0 e1
    exact ⟨(.cons (.of .same rfl rfl) (.cons (.of .same rfl rfl) .nil)), .nil⟩
  · cases h
def sel6 (args : List AV) (objs : List Ob) : Option (Dt × Int × Int) := match args, objs with
  | [.dat T0 x0, .dat T1 x1, .dat T2 x2], [] => bif (Nat.beq T0 25 && (Nat.beq T1 3 && Nat.beq T2 3)) then some (x0, x1.toInt, x2.toInt) else none
  | _, _ => none
theorem sel6_ok {args : List AV} {objs : List Ob} {l : Dt × Int × Int} (h : sel6 args objs = some l) : CnA Tryz.prog args [(.dat 25 l.1), (.dat 3 (.int l.2.1)), (.dat 3 (.int l.2.2))] ∧ CnOL Tryz.prog objs [] := by
  unfold sel6 at h
  split at h
  · obtain ⟨hc, h2⟩ := bif_some h
    cases h2
    have e0 := beq_eq (and_l hc)
    have e1 := beq_eq (and_l (and_r hc))
    have e2 := beq_eq (and_r (and_r hc))
    subst e0 e1 e2
    exact ⟨(.cons (.of .same rfl rfl) (.cons (.of (.dat (.int Tryz.underlying3)) rfl rfl) (.cons (.of (.dat (.int Tryz.underlying3)) rfl rfl) .nil))), .nil⟩
  · cases h
def sel10 (args : List AV) (objs : List Ob) : Option (List Dt) := match args, objs with
  | [.dat T0 x0], [] => bif Nat.beq T0 22 then some x0.toLst else none
  | _, _ => none
theorem sel10_ok {args : List AV} {objs : List Ob} {l : List Dt} (h : sel10 args objs = some l) : CnA Tryz.prog args [(.dat 22 (.lst l))] ∧ CnOL Tryz.prog objs [] := by
  unfold sel10 at h
  split at h
  · obtain ⟨hc, h2⟩ := bif_some h
    cases h2
    have e0 := beq_eq hc
    subst e0
    exact ⟨(.cons (.of (.dat (.lst Tryz.underlying22)) rfl rfl) .nil), .nil⟩
  · cases h
def sel11 (args : List AV) (objs : List Ob) : Option Dt := match args, objs with
  | [.dat T0 x0], [] => bif Nat.beq T0 29 then some x0 else none
  | _, _ => none
theorem sel11_ok {args : List AV} {objs : List Ob} {l : Dt} (h : sel11 args objs = some l) : CnA Tryz.prog args [(.dat 29 l)] ∧ CnOL Tryz.prog objs [] := by
  unfold sel11 at h
  split at h
  · obtain ⟨hc, h2⟩ := bif_some h
    cases h2
    have e0 := beq_eq hc
    subst e0
    exact ⟨(.cons (.of .same rfl rfl) .nil), .nil⟩
  · cases h
def sel13 (args : List AV) (objs : List Ob) : Option (Dt × Dt) := match args, objs with
  | [.dat T0 x0, .dat T1 x1], [] => bif (Nat.beq T0 25 && Nat.beq T1 25) then some (x0, x1) else none
  | _, _ => none
theorem sel13_ok {args : List AV} {objs : List Ob} {l : Dt × Dt} (h : sel13 args objs = some l) : CnA Tryz.prog args [(.dat 25 l.1), (.dat 25 l.2)] ∧ CnOL Tryz.prog objs [] := by
  unfold sel13 at h
  split at h
  · obtain ⟨hc, h2⟩ := bif_some h
    cases h2
    have e0 := beq_eq (and_l hc)
    have e1 := beq_eq (and_r hc)
    subst e0 e1
    exact ⟨(.cons (.of .same rfl rfl) (.cons (.of .same rfl rfl) .nil)), .nil⟩
  · cases h
def sel14 (args : List AV) (objs : List Ob) : Option (List Dt × List Dt) := match args, objs with
  | [.dat T0 x0, .dat T1 x1], [] => bif (Nat.beq T0 22 && Nat.beq T1 22) then some (x0.toLst, x1.toLst) else none
  | _, _ => none
theorem sel14_ok {args : List AV} {objs : List Ob} {l : List Dt × List Dt} (h : sel14 args objs = some l) : CnA Tryz.prog args [(.dat 22 (.lst l.1)), (.dat 22 (.lst l.2))] ∧ CnOL Tryz.prog objs [] := by
  unfold sel14 at h
  split at h
  · obtain ⟨hc, h2⟩ := bif_some h
    cases h2
    have e0 := beq_eq (and_l hc)
    have e1 := beq_eq (and_r hc)
    subst e0 e1
    exact ⟨(.cons (.of (.dat (.lst Tryz.underlying22)) rfl rfl) (.cons (.of (.dat (.lst Tryz.underlying22)) rfl rfl) .nil)), .nil⟩
  · cases h
def sel15 (args : List AV) (objs : List Ob) : Option Int := match args, objs with
  | [.dat T0 x0], [] => bif Nat.beq T0 3 then some x0.toInt else none
  | _, _ => none
theorem sel15_ok {args : List AV} {objs : List Ob} {l : Int} (h : sel15 args objs = some l) : CnA Tryz.prog args [(.dat 3 (.int l))] ∧ CnOL Tryz.prog objs [] := by
  unfold sel15 at h
  split at h
  · obtain ⟨hc, h2⟩ := bif_some h
    cases h2
    have e0 := beq_eq hc
    subst e0
    exact ⟨(.cons (.of (.dat (.int Tryz.underlying3)) rfl rfl) .nil), .nil⟩
  · cases h
noncomputable def ct3 {R : Type} (m : Nat) (args : List AV) (objs : List Ob) (K : Res → Option R) : Option R := match sel0 args objs with
  | some l => (law32_AccumUnpacks m l).bind fun r => K ((.dat 4 (.bool r)), [])
  | none => none
noncomputable def ct8 {R : Type} (m : Nat) (args : List AV) (objs : List Ob) (K : Res → Option R) : Option R := match sel1 args objs with
  | some l => (ref02_Few m l.1 l.2).bind fun r => K ((.dat 4 (.bool r)), [])
  | none => none
noncomputable def ct9 {R : Type} (m : Nat) (args : List AV) (objs : List Ob) (K : Res → Option R) : Option R := match sel2 args objs with
  | some l => (awakeC).bind fun r => K ((.dat 4 (.bool r)), [])
  | none => none
noncomputable def ct10 {R : Type} (m : Nat) (args : List AV) (objs : List Ob) (K : Res → Option R) : Option R := match sel0 args objs with
  | some l => (accum_Unpack m l).bind fun r => K ((.tup [(.dat 29 r.1), (.dat 30 (.int r.2))]), [])
  | none => none
noncomputable def ct11 {R : Type} (m : Nat) (args : List AV) (objs : List Ob) (K : Res → Option R) : Option R := match sel0 args objs with
  | some l => (ref32_Unpack m l).bind fun r => K ((.tup [(.dat 29 r.1), (.dat 30 (.int r.2))]), [])
  | none => none
noncomputable def ct12 {R : Type} (m : Nat) (args : List AV) (objs : List Ob) (K : Res → Option R) : Option R := match sel5 args objs with
  | some l => (ref32_Same m l.1 l.2).bind fun r => K ((.dat 4 (.bool r)), [])
  | none => none
noncomputable def ct21 {R : Type} (m : Nat) (args : List AV) (objs : List Ob) (K : Res → Option R) : Option R := match sel6 args objs with
  | some l => (ref02_count m l.1 l.2.1 l.2.2).bind fun r => K ((.dat 3 (.int r)), [])
  | none => none
noncomputable def ct24 {R : Type} (m : Nat) (args : List AV) (objs : List Ob) (K : Res → Option R) : Option R := match sel0 args objs with
  | some l => (accum_isInteger m l).bind fun r => K ((.dat 4 (.bool r)), [])
  | none => none
noncomputable def ct25 {R : Type} (m : Nat) (args : List AV) (objs : List Ob) (K : Res → Option R) : Option R := match sel0 args objs with
  | some l => (accum_copyValue m l).bind fun r => K ((.dat 25 r), [])
  | none => none
noncomputable def ct26 {R : Type} (m : Nat) (args : List AV) (objs : List Ob) (K : Res → Option R) : Option R := match sel0 args objs with
  | some l => (accum_isList m l).bind fun r => K ((.dat 4 (.bool r)), [])
  | none => none
noncomputable def ct27 {R : Type} (m : Nat) (args : List AV) (objs : List Ob) (K : Res → Option R) : Option R := match sel10 args objs with
  | some l => (accum_copyList m l).bind fun r => K ((.dat 22 (.lst r)), [])
  | none => none
noncomputable def ct28 {R : Type} (m : Nat) (args : List AV) (objs : List Ob) (K : Res → Option R) : Option R := match sel11 args objs with
  | some l => (accum_keysFit m l).bind fun r => K ((.dat 4 (.bool r)), [])
  | none => none
noncomputable def ct29 {R : Type} (m : Nat) (args : List AV) (objs : List Ob) (K : Res → Option R) : Option R := match sel11 args objs with
  | some l => (ref32_Pack m l).bind fun r => K ((.dat 25 r), [])
  | none => none
noncomputable def ct20 {R : Type} (m : Nat) (args : List AV) (objs : List Ob) (K : Res → Option R) : Option R := match sel13 args objs with
  | some l => (ref01_Same m l.1 l.2).bind fun r => K ((.dat 4 (.bool r)), [])
  | none => none
noncomputable def ct30 {R : Type} (m : Nat) (args : List AV) (objs : List Ob) (K : Res → Option R) : Option R := match sel14 args objs with
  | some l => (ref01_SameList m l.1 l.2).bind fun r => K ((.dat 4 (.bool r)), [])
  | none => none
noncomputable def ct23 {R : Type} (m : Nat) (args : List AV) (objs : List Ob) (K : Res → Option R) : Option R := match sel15 args objs with
  | some l => (ref01_Int m l).bind fun r => K ((.dat 25 r), [])
  | none => none
noncomputable def ct39 {R : Type} (m : Nat) (args : List AV) (objs : List Ob) (K : Res → Option R) : Option R := match sel10 args objs with
  | some l => (ref01_List m l).bind fun r => K ((.dat 25 r), [])
  | none => none
-- decoders
noncomputable def d6 (q : Res) : Option Int := match q with
  | (.dat T0 x0, []) => bif Nat.beq T0 3 then some x0.toInt else none
  | _ => none
theorem d6_sim {b : Res} {r : Int} (h : d6 b = some r) : Sim Tryz.prog b ((.dat 3 (.int r)), []) := by
  unfold d6 at h
  split at h
  · obtain ⟨hc, h2⟩ := bif_some h
    cases h2
    have e0 := beq_eq hc
    subst e0
    exact Sim.of (.of (.dat (.int Tryz.underlying3)) rfl rfl) .nil
  · cases h
noncomputable def d1 (q : Res) : Option Bool := match q with
  | (.dat T0 x0, []) => bif Nat.beq T0 4 then some x0.toBool else none
  | _ => none
theorem d1_sim {b : Res} {r : Bool} (h : d1 b = some r) : Sim Tryz.prog b ((.dat 4 (.bool r)), []) := by
  unfold d1 at h
  split at h
  · obtain ⟨hc, h2⟩ := bif_some h
    cases h2
    have e0 := beq_eq hc
    subst e0
    exact Sim.of (.of (.dat (.bool Tryz.underlying4)) rfl rfl) .nil
  · cases h
noncomputable def d8 (q : Res) : Option Dt := match q with
  | (.dat T0 x0, []) => bif Nat.beq T0 25 then some x0 else none
  | _ => none
theorem d8_sim {b : Res} {r : Dt} (h : d8 b = some r) : Sim Tryz.prog b ((.dat 25 r), []) := by
  unfold d8 at h
  split at h
  · obtain ⟨hc, h2⟩ := bif_some h
    cases h2
    have e0 := beq_eq hc
    subst e0
    exact Sim.of (.of .same rfl rfl) .nil
  · cases h
noncomputable def d10 (q : Res) : Option (List Dt) := match q with
  | (.dat T0 x0, []) => bif Nat.beq T0 22 then some x0.toLst else none
  | _ => none
theorem d10_sim {b : Res} {r : List Dt} (h : d10 b = some r) : Sim Tryz.prog b ((.dat 22 (.lst r)), []) := by
  unfold d10 at h
  split at h
  · obtain ⟨hc, h2⟩ := bif_some h
    cases h2
    have e0 := beq_eq hc
    subst e0
    exact Sim.of (.of (.dat (.lst Tryz.underlying22)) rfl rfl) .nil
  · cases h
noncomputable def d3 (q : Res) : Option (Dt × Int) := match q with
  | (.tup [.dat T0 x0, .dat T1 x1], []) => bif (Nat.beq T0 29 && Nat.beq T1 30) then some (x0, x1.toInt) else none
  | _ => none
theorem d3_sim {b : Res} {r : Dt × Int} (h : d3 b = some r) : Sim Tryz.prog b ((.tup [(.dat 29 r.1), (.dat 30 (.int r.2))]), []) := by
  unfold d3 at h
  split at h
  · obtain ⟨hc, h2⟩ := bif_some h
    cases h2
    have e0 := beq_eq (and_l hc)
    have e1 := beq_eq (and_r hc)
    subst e0 e1
    exact Sim.of (.tup (.cons .same (.cons (.dat (.int Tryz.underlying30)) .nil))) .nil
  · cases h
noncomputable def ct {R : Type} (m : Nat) (f : FuncId) (args : List AV) (objs : List Ob) (K : Res → Option R) : Option R :=
  bif Nat.beq f 3 then ct3 m args objs K else
  bif Nat.beq f 8 then ct8 m args objs K else
  bif Nat.beq f 9 then ct9 m args objs K else
  bif Nat.beq f 10 then ct10 m args objs K else
  bif Nat.beq f 11 then ct11 m args objs K else
  bif Nat.beq f 12 then ct12 m args objs K else
  bif Nat.beq f 21 then ct21 m args objs K else
  bif Nat.beq f 24 then ct24 m args objs K else
  bif Nat.beq f 25 then ct25 m args objs K else
  bif Nat.beq f 26 then ct26 m args objs K else
  bif Nat.beq f 27 then ct27 m args objs K else
  bif Nat.beq f 28 then ct28 m args objs K else
  bif Nat.beq f 29 then ct29 m args objs K else
  bif Nat.beq f 20 then ct20 m args objs K else
  bif Nat.beq f 30 then ct30 m args objs K else
  bif Nat.beq f 23 then ct23 m args objs K else
  bif Nat.beq f 39 then ct39 m args objs K else
  none
end Go.Proofs.YtacpcknpliomoaaGreat
