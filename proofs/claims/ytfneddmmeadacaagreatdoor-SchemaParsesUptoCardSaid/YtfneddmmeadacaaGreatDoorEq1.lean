/- Generated: each function's run in the abstract machine is its shallow function. -/
import Derived.Test.YtfneddmmeadacaaGreatDoorCt
import Derived.Test.YtfneddmmeadacaaGreatDoorAmEnv
import Derived.KernelRfl
set_option linter.unusedVariables false
set_option linter.unusedSimpArgs false
namespace Go.Proofs.YtfneddmmeadacaaGreatDoor
open Go.Am
set_option maxRecDepth 100000
noncomputable def d10 (q : Res) : Option (Dt × Bool) := match q with
  | (.tup [.dat T0 x0, .dat T1 x1], []) => bif (Nat.beq T0 32 && Nat.beq T1 4) then some (x0, x1.toBool) else none
  | _ => none
theorem d10_sim {b : Res} {r : Dt × Bool} (h : d10 b = some r) : Sim Tryz.prog b ((.tup [(.dat 32 r.1), (.dat 4 (.bool r.2))]), []) := by
  unfold d10 at h
  split at h
  · obtain ⟨hc, h2⟩ := bif_some h
    cases h2
    have e0 := beq_eq (and_l hc)
    have e1 := beq_eq (and_r hc)
    subst e0 e1
    exact Sim.of (.tup (.cons .same (.cons (.dat (.bool Tryz.underlying4)) .nil))) .nil
  · cases h
noncomputable def e10 (J : Nat → Nat → Nat → St → Option (Dt × Bool) → Option (Dt × Bool)) (m : Nat) (p ms : List Nat) (σ : St) := evAt Tryz.prog env (ct m) J (m + 1) 24 35 Tryz.f24 d10 p ms σ
noncomputable def l10 (J : Nat → Nat → Nat → St → Option (Dt × Bool) → Option (Dt × Bool)) (m : Nat) (p ms : List Nat) (M : Nat) (σ : St) := loopAt Tryz.prog env (ct m) J (m + 1) 24 35 Tryz.f24 d10 p ms M σ
noncomputable def s10_5 (x0 : Int) (x1 x2 x3 : Dt) : St := ⟨tsOf [(1, (.ptr 0 [] 0)), (2, (.ptr 1 [] 0)), (4, (.ptr 2 [] 0)), (5, (.dat 3 (.int x0)))], [(.box 25 (.dat 25 x1)), (.box 32 (.dat 32 x2)), (.box 32 (.dat 32 x3))], 0⟩
noncomputable def s10_4 (x0 : Int) (x1 x2 x3 x4 : Dt) : St := ⟨tsOf [(1, (.ptr 0 [] 0)), (2, (.ptr 1 [] 0)), (4, (.ptr 2 [] 0)), (5, (.dat 3 (.int x0))), (6, (.ptr 3 [] 0))], [(.box 25 (.dat 25 x1)), (.box 32 (.dat 32 x2)), (.box 32 (.dat 32 x3)), (.box 32 (.dat 32 x4))], 0⟩
noncomputable def s10_3 (x0 : Int) (x1 x2 x3 : Dt) : St := ⟨tsOf [(1, (.ptr 0 [] 0)), (2, (.ptr 1 [] 0)), (4, (.ptr 2 [] 0)), (5, (.dat 3 (.int x0)))], [(.box 25 (.dat 25 x1)), (.box 32 (.dat 32 x2)), (.box 32 (.dat 32 x3))], 0⟩
noncomputable def s10_6 (x0 x1 : Dt) : St := ⟨tsOf [(2, (.ptr 0 [] 0)), (4, (.ptr 1 [] 0))], [(.box 32 (.dat 32 x0)), (.box 32 (.dat 32 x1))], 0⟩
noncomputable def s10_2 (x0 : Int) (x1 x2 x3 : Dt) : St := ⟨tsOf [(1, (.ptr 0 [] 0)), (2, (.ptr 1 [] 0)), (4, (.ptr 2 [] 0)), (5, (.dat 3 (.int x0)))], [(.box 25 (.dat 25 x1)), (.box 32 (.dat 32 x2)), (.box 32 (.dat 32 x3))], 0⟩
noncomputable def s10_1 (x0 : Int) (x1 x2 x3 : Dt) : St := ⟨tsOf [(1, (.ptr 0 [] 0)), (2, (.ptr 1 [] 0)), (4, (.ptr 2 [] 0)), (5, (.dat 3 (.int x0)))], [(.box 25 (.dat 25 x1)), (.box 32 (.dat 32 x2)), (.box 32 (.dat 32 x3))], 0⟩
noncomputable def s10_0 (x0 x1 x2 : Dt) : St := ⟨tsOf [(1, (.ptr 0 [] 0)), (2, (.ptr 1 [] 0)), (4, (.ptr 2 [] 0))], [(.box 25 (.dat 25 x0)), (.box 32 (.dat 32 x1)), (.box 32 (.dat 32 x2))], 0⟩
theorem ref14_parse_j5_eq (m : Nat) (M2 : Nat) (rec2 : Int → Dt → Dt → Dt → Option (Dt × Bool)) (h2 : ∀ (x0 : Int) (x1 x2 x3 : Dt), l10 jn m [1, 1, 1, 0, 1, 0] [] M2 (s10_2 x0 x1 x2 x3) = rec2 x0 x1 x2 x3) (x0 : Int) (x1 x2 x3 : Dt) : e10 jn m [1, 1, 1, 0, 1, 0, 0, 1, 1] [M2] (s10_5 x0 x1 x2 x3) = ref14_parse_j5 m (ref14_field m) rec2 x0 x1 x2 x3 := by
  have h : ∀ J, e10 J m [1, 1, 1, 0, 1, 0, 0, 1, 1] [M2] (s10_5 x0 x1 x2 x3) =
    (J 1 5 M2 (s10_2 (IntKind.wrap .i64 (x0 + 1)) x1 x2 x3) (l10 J m [1, 1, 1, 0, 1, 0] [] M2 (s10_2 (IntKind.wrap .i64 (x0 + 1)) x1 x2 x3))) := fun J => by kernel_rfl
  exact (h jn).trans (by
    simp only [jn_eq, h2]
    rfl)
theorem ref14_parse_j4_eq (m : Nat) (M2 : Nat) (rec2 : Int → Dt → Dt → Dt → Option (Dt × Bool)) (h2 : ∀ (x0 : Int) (x1 x2 x3 : Dt), l10 jn m [1, 1, 1, 0, 1, 0] [] M2 (s10_2 x0 x1 x2 x3) = rec2 x0 x1 x2 x3) (x0 : Int) (x1 x2 x3 x4 : Dt) : e10 jn m [1, 1, 1, 0, 1, 0, 0, 1, 0, 0, 1, 1] [M2] (s10_4 x0 x1 x2 x3 x4) = ref14_parse_j4 m (ref14_field m) rec2 x0 x1 x2 x3 x4 := by
  have h : ∀ J, e10 J m [1, 1, 1, 0, 1, 0, 0, 1, 0, 0, 1, 1] [M2] (s10_4 x0 x1 x2 x3 x4) =
    (J 0 6 0 (s10_5 x0 x1 x2 x4) (e10 J m [1, 1, 1, 0, 1, 0, 0, 1, 1] [M2] (s10_5 x0 x1 x2 x4))) := fun J => by kernel_rfl
  exact (h jn).trans (by
    simp only [jn_eq, ref14_parse_j5_eq m M2 rec2 h2]
    rfl)
theorem ref14_parse_j3_eq (m : Nat) (M2 : Nat) (rec2 : Int → Dt → Dt → Dt → Option (Dt × Bool)) (h2 : ∀ (x0 : Int) (x1 x2 x3 : Dt), l10 jn m [1, 1, 1, 0, 1, 0] [] M2 (s10_2 x0 x1 x2 x3) = rec2 x0 x1 x2 x3) (x0 : Int) (x1 x2 x3 : Dt) : e10 jn m [1, 1, 1, 0, 1, 0, 0, 1] [M2] (s10_3 x0 x1 x2 x3) = ref14_parse_j3 m (ref14_field m) rec2 x0 x1 x2 x3 := by
  have h : ∀ J, e10 J m [1, 1, 1, 0, 1, 0, 0, 1] [M2] (s10_3 x0 x1 x2 x3) =
    ((idx (Dt.L x1 4) x0).bind fun v0 =>
   ((ref14_field m x3 v0).bind fun r1 =>
   (bif (Bool.not r1.2) then
   some (x3, false)
   else
   (J 0 10 0 (s10_4 x0 x1 x2 x3 r1.1) (e10 J m [1, 1, 1, 0, 1, 0, 0, 1, 0, 0, 1, 1] [M2] (s10_4 x0 x1 x2 x3 r1.1)))))) := fun J => by kernel_rfl
  exact (h jn).trans (by
    simp only [jn_eq, ref14_parse_j4_eq m M2 rec2 h2]
    rfl)
theorem ref14_parse_j6_eq (m : Nat) (x0 x1 : Dt) : e10 jn m [1, 1, 1, 1] [] (s10_6 x0 x1) = ref14_parse_j6 m (ref14_field m) x0 x1 := by
  have h : ∀ J, e10 J m [1, 1, 1, 1] [] (s10_6 x0 x1) =
    some (x1, true) := fun J => by kernel_rfl
  exact (h jn).trans (rfl)
theorem ref14_parse_l2_eq (m : Nat) : ∀ (M2 : Nat) (x0 : Int) (x1 x2 x3 : Dt), l10 jn m [1, 1, 1, 0, 1, 0] [] M2 (s10_2 x0 x1 x2 x3) = ref14_parse_l2 m (ref14_field m) M2 x0 x1 x2 x3
  | 0, _, _, _, _ => rfl
  | M2 + 1, x0, x1, x2, x3 => by
    have h : ∀ J, l10 J m [1, 1, 1, 0, 1, 0] [] (M2 + 1) (s10_2 x0 x1 x2 x3) =
    (bif (decide (x0 < (List.length (Dt.L x1 4) : Int))) then
   (J 0 7 0 (s10_3 x0 x1 x2 x3) (e10 J m [1, 1, 1, 0, 1, 0, 0, 1] [M2] (s10_3 x0 x1 x2 x3)))
    else
   (J 0 11 0 (s10_6 x2 x3) (e10 J m [1, 1, 1, 1] [] (s10_6 x2 x3)))) := fun J => by kernel_rfl
    refine (h jn).trans ?_
    simp only [jn_eq, ref14_parse_j3_eq m M2 (ref14_parse_l2 m (ref14_field m) M2) (fun x0 x1 x2 x3 => ref14_parse_l2_eq m M2 x0 x1 x2 x3), ref14_parse_j6_eq m]
    rfl
theorem ref14_parse_j1_eq (m : Nat) (x0 : Int) (x1 x2 x3 : Dt) : e10 jn m [1, 1, 1, 0, 1] [] (s10_1 x0 x1 x2 x3) = ref14_parse_j1 m (ref14_field m) x0 x1 x2 x3 := by
  have h : ∀ J, e10 J m [1, 1, 1, 0, 1] [] (s10_1 x0 x1 x2 x3) =
    (J 1 5 (Nat.succ m) (s10_2 x0 x1 x2 x3) (l10 J m [1, 1, 1, 0, 1, 0] [] (Nat.succ m) (s10_2 x0 x1 x2 x3))) := fun J => by kernel_rfl
  exact (h jn).trans (by
    simp only [jn_eq, ref14_parse_l2_eq m]
    rfl)
theorem ref14_parse_j0_eq (m : Nat) (x0 x1 x2 : Dt) : e10 jn m [1, 1, 1] [] (s10_0 x0 x1 x2) = ref14_parse_j0 m (ref14_field m) x0 x1 x2 := by
  have h : ∀ J, e10 J m [1, 1, 1] [] (s10_0 x0 x1 x2) =
    (J 0 5 0 (s10_1 0 x0 x1 x2) (e10 J m [1, 1, 1, 0, 1] [] (s10_1 0 x0 x1 x2))) := fun J => by kernel_rfl
  exact (h jn).trans (by
    simp only [jn_eq, ref14_parse_j1_eq m]
    rfl)
theorem ref14_parse_eq (m : Nat) (a0 : Dt) : e10 jn m [] [] ⟨[(.dat 25 a0)], [], 0⟩ = ref14_parse (m + 1) a0 := by
  have h : ∀ J, e10 J m [] [] ⟨[(.dat 25 a0)], [], 0⟩ =
    (bif ((Dt.I a0 0) != 5) then
   some (kz8469e, false)
    else
   (J 0 4 0 (s10_0 a0 kza2d60 kz8469e) (e10 J m [1, 1, 1] [] (s10_0 a0 kza2d60 kz8469e)))) := fun J => by kernel_rfl
  refine (h jn).trans ?_
  simp only [jn_eq, ref14_parse_j0_eq m]
  rfl
noncomputable def d27 (q : Res) : Option (Dt × Bool) := match q with
  | (.tup [.dat T0 x0, .dat T1 x1], []) => bif (Nat.beq T0 32 && Nat.beq T1 4) then some (x0, x1.toBool) else none
  | _ => none
theorem d27_sim {b : Res} {r : Dt × Bool} (h : d27 b = some r) : Sim Tryz.prog b ((.tup [(.dat 32 r.1), (.dat 4 (.bool r.2))]), []) := by
  unfold d27 at h
  split at h
  · obtain ⟨hc, h2⟩ := bif_some h
    cases h2
    have e0 := beq_eq (and_l hc)
    have e1 := beq_eq (and_r hc)
    subst e0 e1
    exact Sim.of (.tup (.cons .same (.cons (.dat (.bool Tryz.underlying4)) .nil))) .nil
  · cases h
noncomputable def e27 (J : Nat → Nat → Nat → St → Option (Dt × Bool) → Option (Dt × Bool)) (m : Nat) (p ms : List Nat) (σ : St) := evAt Tryz.prog env (ct m) J (m + 1) 41 101 Tryz.f41 d27 p ms σ
noncomputable def l27 (J : Nat → Nat → Nat → St → Option (Dt × Bool) → Option (Dt × Bool)) (m : Nat) (p ms : List Nat) (M : Nat) (σ : St) := loopAt Tryz.prog env (ct m) J (m + 1) 41 101 Tryz.f41 d27 p ms M σ
noncomputable def s27_0 (x0 : Bool) (x1 x2 : Dt) : St := ⟨tsOf [(2, (.ptr 0 [] 0)), (4, (.ptr 1 [] 0)), (7, (.dat 4 (.bool x0)))], [(.box 32 (.dat 32 x1)), (.box 32 (.dat 32 x2))], 0⟩
theorem ref14_field_j0_eq (m : Nat) (x0 : Bool) (x1 x2 : Dt) : e27 jn m [1, 1, 1, 1] [] (s27_0 x0 x1 x2) = ref14_field_j0 m (ref14_parse m) (ref14_props m) x0 x1 x2 := by
  have h : ∀ J, e27 J m [1, 1, 1, 1] [] (s27_0 x0 x1 x2) =
    some (x1, x0) := fun J => by kernel_rfl
  exact (h jn).trans (rfl)
theorem ref14_field_eq (m : Nat) (a0 a1 : Dt) : e27 jn m [] [] ⟨[(.dat 32 a0), (.dat 53 a1)], [], 0⟩ = ref14_field (m + 1) a0 a1 := by
  have h : ∀ J, e27 J m [] [] ⟨[(.dat 32 a0), (.dat 53 a1)], [], 0⟩ =
    (bif ((ByteArray.toList (Dt.S a1 0)) == [107, 105, 110, 100]) then
   ((ref14_kinds m (Dt.fld a1 1)).bind fun r0 =>
   (J 0 37 0 (s27_0 (r0 != 0) (Dt.agg [(Dt.int r0), (Dt.bool (Dt.B a0 1)), (Dt.fld a0 2), (Dt.bool (Dt.B a0 3)), (Dt.fld a0 4), (Dt.lst (Dt.L a0 5)), (Dt.int (Dt.I a0 6)), (Dt.int (Dt.I a0 7)), (Dt.lst (Dt.L a0 8)), (Dt.lst (Dt.L a0 9)), (Dt.bool (Dt.B a0 10)), (Dt.lst (Dt.L a0 11)), (Dt.bool (Dt.B a0 12))]) kza2d60) (e27 J m [1, 1, 1, 1] [] (s27_0 (r0 != 0) (Dt.agg [(Dt.int r0), (Dt.bool (Dt.B a0 1)), (Dt.fld a0 2), (Dt.bool (Dt.B a0 3)), (Dt.fld a0 4), (Dt.lst (Dt.L a0 5)), (Dt.int (Dt.I a0 6)), (Dt.int (Dt.I a0 7)), (Dt.lst (Dt.L a0 8)), (Dt.lst (Dt.L a0 9)), (Dt.bool (Dt.B a0 10)), (Dt.lst (Dt.L a0 11)), (Dt.bool (Dt.B a0 12))]) kza2d60))))
    else
   (bif ((ByteArray.toList (Dt.S a1 0)) == [109, 105, 110]) then
   (J 0 37 0 (s27_0 true (Dt.agg [(Dt.int (Dt.I a0 0)), (Dt.bool true), (Dt.fld a1 1), (Dt.bool (Dt.B a0 3)), (Dt.fld a0 4), (Dt.lst (Dt.L a0 5)), (Dt.int (Dt.I a0 6)), (Dt.int (Dt.I a0 7)), (Dt.lst (Dt.L a0 8)), (Dt.lst (Dt.L a0 9)), (Dt.bool (Dt.B a0 10)), (Dt.lst (Dt.L a0 11)), (Dt.bool (Dt.B a0 12))]) kza2d60) (e27 J m [1, 1, 1, 1] [] (s27_0 true (Dt.agg [(Dt.int (Dt.I a0 0)), (Dt.bool true), (Dt.fld a1 1), (Dt.bool (Dt.B a0 3)), (Dt.fld a0 4), (Dt.lst (Dt.L a0 5)), (Dt.int (Dt.I a0 6)), (Dt.int (Dt.I a0 7)), (Dt.lst (Dt.L a0 8)), (Dt.lst (Dt.L a0 9)), (Dt.bool (Dt.B a0 10)), (Dt.lst (Dt.L a0 11)), (Dt.bool (Dt.B a0 12))]) kza2d60)))
   else
   (bif ((ByteArray.toList (Dt.S a1 0)) == [109, 97, 120]) then
   (J 0 37 0 (s27_0 true (Dt.agg [(Dt.int (Dt.I a0 0)), (Dt.bool (Dt.B a0 1)), (Dt.fld a0 2), (Dt.bool true), (Dt.fld a1 1), (Dt.lst (Dt.L a0 5)), (Dt.int (Dt.I a0 6)), (Dt.int (Dt.I a0 7)), (Dt.lst (Dt.L a0 8)), (Dt.lst (Dt.L a0 9)), (Dt.bool (Dt.B a0 10)), (Dt.lst (Dt.L a0 11)), (Dt.bool (Dt.B a0 12))]) kza2d60) (e27 J m [1, 1, 1, 1] [] (s27_0 true (Dt.agg [(Dt.int (Dt.I a0 0)), (Dt.bool (Dt.B a0 1)), (Dt.fld a0 2), (Dt.bool true), (Dt.fld a1 1), (Dt.lst (Dt.L a0 5)), (Dt.int (Dt.I a0 6)), (Dt.int (Dt.I a0 7)), (Dt.lst (Dt.L a0 8)), (Dt.lst (Dt.L a0 9)), (Dt.bool (Dt.B a0 10)), (Dt.lst (Dt.L a0 11)), (Dt.bool (Dt.B a0 12))]) kza2d60)))
   else
   (bif ((ByteArray.toList (Dt.S a1 0)) == [101, 110, 117, 109]) then
   (J 0 37 0 (s27_0 ((Dt.I (Dt.fld a1 1) 0) == 6) (Dt.agg [(Dt.int (Dt.I a0 0)), (Dt.bool (Dt.B a0 1)), (Dt.fld a0 2), (Dt.bool (Dt.B a0 3)), (Dt.fld a0 4), (Dt.lst (Dt.L (Dt.fld a1 1) 3)), (Dt.int (Dt.I a0 6)), (Dt.int (Dt.I a0 7)), (Dt.lst (Dt.L a0 8)), (Dt.lst (Dt.L a0 9)), (Dt.bool (Dt.B a0 10)), (Dt.lst (Dt.L a0 11)), (Dt.bool (Dt.B a0 12))]) kza2d60) (e27 J m [1, 1, 1, 1] [] (s27_0 ((Dt.I (Dt.fld a1 1) 0) == 6) (Dt.agg [(Dt.int (Dt.I a0 0)), (Dt.bool (Dt.B a0 1)), (Dt.fld a0 2), (Dt.bool (Dt.B a0 3)), (Dt.fld a0 4), (Dt.lst (Dt.L (Dt.fld a1 1) 3)), (Dt.int (Dt.I a0 6)), (Dt.int (Dt.I a0 7)), (Dt.lst (Dt.L a0 8)), (Dt.lst (Dt.L a0 9)), (Dt.bool (Dt.B a0 10)), (Dt.lst (Dt.L a0 11)), (Dt.bool (Dt.B a0 12))]) kza2d60)))
   else
   (bif ((ByteArray.toList (Dt.S a1 0)) == [109, 105, 110, 76, 101, 110]) then
   (J 0 37 0 (s27_0 ((Dt.I (Dt.fld a1 1) 0) == 3) (Dt.agg [(Dt.int (Dt.I a0 0)), (Dt.bool (Dt.B a0 1)), (Dt.fld a0 2), (Dt.bool (Dt.B a0 3)), (Dt.fld a0 4), (Dt.lst (Dt.L a0 5)), (Dt.int (Dt.I (Dt.fld a1 1) 1)), (Dt.int (Dt.I a0 7)), (Dt.lst (Dt.L a0 8)), (Dt.lst (Dt.L a0 9)), (Dt.bool (Dt.B a0 10)), (Dt.lst (Dt.L a0 11)), (Dt.bool (Dt.B a0 12))]) kza2d60) (e27 J m [1, 1, 1, 1] [] (s27_0 ((Dt.I (Dt.fld a1 1) 0) == 3) (Dt.agg [(Dt.int (Dt.I a0 0)), (Dt.bool (Dt.B a0 1)), (Dt.fld a0 2), (Dt.bool (Dt.B a0 3)), (Dt.fld a0 4), (Dt.lst (Dt.L a0 5)), (Dt.int (Dt.I (Dt.fld a1 1) 1)), (Dt.int (Dt.I a0 7)), (Dt.lst (Dt.L a0 8)), (Dt.lst (Dt.L a0 9)), (Dt.bool (Dt.B a0 10)), (Dt.lst (Dt.L a0 11)), (Dt.bool (Dt.B a0 12))]) kza2d60)))
   else
   (bif ((ByteArray.toList (Dt.S a1 0)) == [109, 97, 120, 76, 101, 110]) then
   (J 0 37 0 (s27_0 ((Dt.I (Dt.fld a1 1) 0) == 3) (Dt.agg [(Dt.int (Dt.I a0 0)), (Dt.bool (Dt.B a0 1)), (Dt.fld a0 2), (Dt.bool (Dt.B a0 3)), (Dt.fld a0 4), (Dt.lst (Dt.L a0 5)), (Dt.int (Dt.I a0 6)), (Dt.int (Dt.I (Dt.fld a1 1) 1)), (Dt.lst (Dt.L a0 8)), (Dt.lst (Dt.L a0 9)), (Dt.bool (Dt.B a0 10)), (Dt.lst (Dt.L a0 11)), (Dt.bool (Dt.B a0 12))]) kza2d60) (e27 J m [1, 1, 1, 1] [] (s27_0 ((Dt.I (Dt.fld a1 1) 0) == 3) (Dt.agg [(Dt.int (Dt.I a0 0)), (Dt.bool (Dt.B a0 1)), (Dt.fld a0 2), (Dt.bool (Dt.B a0 3)), (Dt.fld a0 4), (Dt.lst (Dt.L a0 5)), (Dt.int (Dt.I a0 6)), (Dt.int (Dt.I (Dt.fld a1 1) 1)), (Dt.lst (Dt.L a0 8)), (Dt.lst (Dt.L a0 9)), (Dt.bool (Dt.B a0 10)), (Dt.lst (Dt.L a0 11)), (Dt.bool (Dt.B a0 12))]) kza2d60)))
   else
   (bif ((ByteArray.toList (Dt.S a1 0)) == [114, 101, 113, 117, 105, 114, 101, 100]) then
   ((ref14_texts m (Dt.fld a1 1)).bind fun r1 =>
   (J 0 37 0 (s27_0 r1.2 (Dt.agg [(Dt.int (Dt.I a0 0)), (Dt.bool (Dt.B a0 1)), (Dt.fld a0 2), (Dt.bool (Dt.B a0 3)), (Dt.fld a0 4), (Dt.lst (Dt.L a0 5)), (Dt.int (Dt.I a0 6)), (Dt.int (Dt.I a0 7)), (Dt.lst r1.1), (Dt.lst (Dt.L a0 9)), (Dt.bool (Dt.B a0 10)), (Dt.lst (Dt.L a0 11)), (Dt.bool (Dt.B a0 12))]) kza2d60) (e27 J m [1, 1, 1, 1] [] (s27_0 r1.2 (Dt.agg [(Dt.int (Dt.I a0 0)), (Dt.bool (Dt.B a0 1)), (Dt.fld a0 2), (Dt.bool (Dt.B a0 3)), (Dt.fld a0 4), (Dt.lst (Dt.L a0 5)), (Dt.int (Dt.I a0 6)), (Dt.int (Dt.I a0 7)), (Dt.lst r1.1), (Dt.lst (Dt.L a0 9)), (Dt.bool (Dt.B a0 10)), (Dt.lst (Dt.L a0 11)), (Dt.bool (Dt.B a0 12))]) kza2d60))))
   else
   (bif ((ByteArray.toList (Dt.S a1 0)) == [112, 114, 111, 112, 115]) then
   ((ref14_props m (Dt.fld a1 1)).bind fun r2 =>
   (J 0 37 0 (s27_0 r2.2 (Dt.agg [(Dt.int (Dt.I a0 0)), (Dt.bool (Dt.B a0 1)), (Dt.fld a0 2), (Dt.bool (Dt.B a0 3)), (Dt.fld a0 4), (Dt.lst (Dt.L a0 5)), (Dt.int (Dt.I a0 6)), (Dt.int (Dt.I a0 7)), (Dt.lst (Dt.L a0 8)), (Dt.lst r2.1), (Dt.bool (Dt.B a0 10)), (Dt.lst (Dt.L a0 11)), (Dt.bool (Dt.B a0 12))]) kza2d60) (e27 J m [1, 1, 1, 1] [] (s27_0 r2.2 (Dt.agg [(Dt.int (Dt.I a0 0)), (Dt.bool (Dt.B a0 1)), (Dt.fld a0 2), (Dt.bool (Dt.B a0 3)), (Dt.fld a0 4), (Dt.lst (Dt.L a0 5)), (Dt.int (Dt.I a0 6)), (Dt.int (Dt.I a0 7)), (Dt.lst (Dt.L a0 8)), (Dt.lst r2.1), (Dt.bool (Dt.B a0 10)), (Dt.lst (Dt.L a0 11)), (Dt.bool (Dt.B a0 12))]) kza2d60))))
   else
   (bif ((ByteArray.toList (Dt.S a1 0)) == [99, 108, 111, 115, 101, 100]) then
   (J 0 37 0 (s27_0 ((Dt.I (Dt.fld a1 1) 0) == 9) (Dt.agg [(Dt.int (Dt.I a0 0)), (Dt.bool (Dt.B a0 1)), (Dt.fld a0 2), (Dt.bool (Dt.B a0 3)), (Dt.fld a0 4), (Dt.lst (Dt.L a0 5)), (Dt.int (Dt.I a0 6)), (Dt.int (Dt.I a0 7)), (Dt.lst (Dt.L a0 8)), (Dt.lst (Dt.L a0 9)), (Dt.bool ((Dt.I (Dt.fld a1 1) 1) == 1)), (Dt.lst (Dt.L a0 11)), (Dt.bool (Dt.B a0 12))]) kza2d60) (e27 J m [1, 1, 1, 1] [] (s27_0 ((Dt.I (Dt.fld a1 1) 0) == 9) (Dt.agg [(Dt.int (Dt.I a0 0)), (Dt.bool (Dt.B a0 1)), (Dt.fld a0 2), (Dt.bool (Dt.B a0 3)), (Dt.fld a0 4), (Dt.lst (Dt.L a0 5)), (Dt.int (Dt.I a0 6)), (Dt.int (Dt.I a0 7)), (Dt.lst (Dt.L a0 8)), (Dt.lst (Dt.L a0 9)), (Dt.bool ((Dt.I (Dt.fld a1 1) 1) == 1)), (Dt.lst (Dt.L a0 11)), (Dt.bool (Dt.B a0 12))]) kza2d60)))
   else
   (bif ((ByteArray.toList (Dt.S a1 0)) == [117, 110, 105, 113, 117, 101]) then
   (J 0 37 0 (s27_0 ((Dt.I (Dt.fld a1 1) 0) == 9) (Dt.agg [(Dt.int (Dt.I a0 0)), (Dt.bool (Dt.B a0 1)), (Dt.fld a0 2), (Dt.bool (Dt.B a0 3)), (Dt.fld a0 4), (Dt.lst (Dt.L a0 5)), (Dt.int (Dt.I a0 6)), (Dt.int (Dt.I a0 7)), (Dt.lst (Dt.L a0 8)), (Dt.lst (Dt.L a0 9)), (Dt.bool (Dt.B a0 10)), (Dt.lst (Dt.L a0 11)), (Dt.bool ((Dt.I (Dt.fld a1 1) 1) == 1))]) kza2d60) (e27 J m [1, 1, 1, 1] [] (s27_0 ((Dt.I (Dt.fld a1 1) 0) == 9) (Dt.agg [(Dt.int (Dt.I a0 0)), (Dt.bool (Dt.B a0 1)), (Dt.fld a0 2), (Dt.bool (Dt.B a0 3)), (Dt.fld a0 4), (Dt.lst (Dt.L a0 5)), (Dt.int (Dt.I a0 6)), (Dt.int (Dt.I a0 7)), (Dt.lst (Dt.L a0 8)), (Dt.lst (Dt.L a0 9)), (Dt.bool (Dt.B a0 10)), (Dt.lst (Dt.L a0 11)), (Dt.bool ((Dt.I (Dt.fld a1 1) 1) == 1))]) kza2d60)))
   else
   (bif ((ByteArray.toList (Dt.S a1 0)) == [105, 116, 101, 109, 115]) then
   ((ref14_parse m (Dt.fld a1 1)).bind fun r3 =>
   (J 0 37 0 (s27_0 r3.2 (Dt.agg [(Dt.int (Dt.I a0 0)), (Dt.bool (Dt.B a0 1)), (Dt.fld a0 2), (Dt.bool (Dt.B a0 3)), (Dt.fld a0 4), (Dt.lst (Dt.L a0 5)), (Dt.int (Dt.I a0 6)), (Dt.int (Dt.I a0 7)), (Dt.lst (Dt.L a0 8)), (Dt.lst (Dt.L a0 9)), (Dt.bool (Dt.B a0 10)), (Dt.lst [r3.1]), (Dt.bool (Dt.B a0 12))]) kza2d60) (e27 J m [1, 1, 1, 1] [] (s27_0 r3.2 (Dt.agg [(Dt.int (Dt.I a0 0)), (Dt.bool (Dt.B a0 1)), (Dt.fld a0 2), (Dt.bool (Dt.B a0 3)), (Dt.fld a0 4), (Dt.lst (Dt.L a0 5)), (Dt.int (Dt.I a0 6)), (Dt.int (Dt.I a0 7)), (Dt.lst (Dt.L a0 8)), (Dt.lst (Dt.L a0 9)), (Dt.bool (Dt.B a0 10)), (Dt.lst [r3.1]), (Dt.bool (Dt.B a0 12))]) kza2d60))))
   else
   (J 0 37 0 (s27_0 false a0 kza2d60) (e27 J m [1, 1, 1, 1] [] (s27_0 false a0 kza2d60)))))))))))))) := fun J => by kernel_rfl
  refine (h jn).trans ?_
  simp only [jn_eq, ref14_field_j0_eq m]
  rfl
noncomputable def d43 (q : Res) : Option (List Dt × Bool) := match q with
  | (.tup [.dat T0 x0, .dat T1 x1], []) => bif (Nat.beq T0 29 && Nat.beq T1 4) then some (x0.toLst, x1.toBool) else none
  | _ => none
theorem d43_sim {b : Res} {r : List Dt × Bool} (h : d43 b = some r) : Sim Tryz.prog b ((.tup [(.dat 29 (.lst r.1)), (.dat 4 (.bool r.2))]), []) := by
  unfold d43 at h
  split at h
  · obtain ⟨hc, h2⟩ := bif_some h
    cases h2
    have e0 := beq_eq (and_l hc)
    have e1 := beq_eq (and_r hc)
    subst e0 e1
    exact Sim.of (.tup (.cons (.dat (.lst Tryz.underlying29)) (.cons (.dat (.bool Tryz.underlying4)) .nil))) .nil
  · cases h
noncomputable def e43 (J : Nat → Nat → Nat → St → Option (List Dt × Bool) → Option (List Dt × Bool)) (m : Nat) (p ms : List Nat) (σ : St) := evAt Tryz.prog env (ct m) J (m + 1) 76 42 Tryz.f76 d43 p ms σ
noncomputable def l43 (J : Nat → Nat → Nat → St → Option (List Dt × Bool) → Option (List Dt × Bool)) (m : Nat) (p ms : List Nat) (M : Nat) (σ : St) := loopAt Tryz.prog env (ct m) J (m + 1) 76 42 Tryz.f76 d43 p ms M σ
noncomputable def s43_5 (x0 : Int) (x1 : Dt) (x2 : List Dt) : St := ⟨tsOf [(1, (.ptr 0 [] 0)), (4, (.row 1)), (5, (.dat 3 (.int x0)))], [(.box 25 (.dat 25 x1)), (.row 29 x2)], 0⟩
noncomputable def s43_4 (x0 : Int) (x1 : Dt) (x2 : List Dt) (x3 : Dt) : St := ⟨tsOf [(1, (.ptr 0 [] 0)), (4, (.row 1)), (5, (.dat 3 (.int x0))), (6, (.ptr 2 [] 0))], [(.box 25 (.dat 25 x1)), (.row 29 x2), (.box 32 (.dat 32 x3))], 0⟩
noncomputable def s43_3 (x0 : Int) (x1 : Dt) (x2 : List Dt) : St := ⟨tsOf [(1, (.ptr 0 [] 0)), (4, (.row 1)), (5, (.dat 3 (.int x0)))], [(.box 25 (.dat 25 x1)), (.row 29 x2)], 0⟩
noncomputable def s43_6 (x0 : List Dt) : St := ⟨tsOf [(4, (.row 0))], [(.row 29 x0)], 0⟩
noncomputable def s43_2 (x0 : Int) (x1 : Dt) (x2 : List Dt) : St := ⟨tsOf [(1, (.ptr 0 [] 0)), (4, (.row 1)), (5, (.dat 3 (.int x0)))], [(.box 25 (.dat 25 x1)), (.row 29 x2)], 0⟩
noncomputable def s43_1 (x0 : Int) (x1 : Dt) (x2 : List Dt) : St := ⟨tsOf [(1, (.ptr 0 [] 0)), (4, (.row 1)), (5, (.dat 3 (.int x0)))], [(.box 25 (.dat 25 x1)), (.row 29 x2)], 0⟩
noncomputable def s43_0 (x0 : Dt) : St := ⟨tsOf [(1, (.ptr 0 [] 0))], [(.box 25 (.dat 25 x0))], 0⟩
theorem ref14_props_j5_eq (m : Nat) (M2 : Nat) (rec2 : Int → Dt → List Dt → Option (List Dt × Bool)) (h2 : ∀ (x0 : Int) (x1 : Dt) (x2 : List Dt), l43 jn m [1, 1, 1, 0, 1, 0] [] M2 (s43_2 x0 x1 x2) = rec2 x0 x1 x2) (x0 : Int) (x1 : Dt) (x2 : List Dt) : e43 jn m [1, 1, 1, 0, 1, 0, 0, 1, 1] [M2] (s43_5 x0 x1 x2) = ref14_props_j5 m (ref14_parse m) rec2 x0 x1 x2 := by
  have h : ∀ J, e43 J m [1, 1, 1, 0, 1, 0, 0, 1, 1] [M2] (s43_5 x0 x1 x2) =
    (J 1 5 M2 (s43_2 (IntKind.wrap .i64 (x0 + 1)) x1 x2) (l43 J m [1, 1, 1, 0, 1, 0] [] M2 (s43_2 (IntKind.wrap .i64 (x0 + 1)) x1 x2))) := fun J => by kernel_rfl
  exact (h jn).trans (by
    simp only [jn_eq, h2]
    rfl)
theorem ref14_props_j4_eq (m : Nat) (M2 : Nat) (rec2 : Int → Dt → List Dt → Option (List Dt × Bool)) (h2 : ∀ (x0 : Int) (x1 : Dt) (x2 : List Dt), l43 jn m [1, 1, 1, 0, 1, 0] [] M2 (s43_2 x0 x1 x2) = rec2 x0 x1 x2) (x0 : Int) (x1 : Dt) (x2 : List Dt) (x3 : Dt) : e43 jn m [1, 1, 1, 0, 1, 0, 0, 1, 0, 0, 1, 1] [M2] (s43_4 x0 x1 x2 x3) = ref14_props_j4 m (ref14_parse m) rec2 x0 x1 x2 x3 := by
  have h : ∀ J, e43 J m [1, 1, 1, 0, 1, 0, 0, 1, 0, 0, 1, 1] [M2] (s43_4 x0 x1 x2 x3) =
    ((idx (Dt.L x1 4) x0).bind fun v2 =>
   ((app x2 [(Dt.agg [(Dt.str (Dt.S v2 0)), x3])]).bind fun v3 =>
   (J 0 6 0 (s43_5 x0 x1 v3) (e43 J m [1, 1, 1, 0, 1, 0, 0, 1, 1] [M2] (s43_5 x0 x1 v3))))) := fun J => by kernel_rfl
  exact (h jn).trans (by
    simp only [jn_eq, ref14_props_j5_eq m M2 rec2 h2]
    rfl)
theorem ref14_props_j3_eq (m : Nat) (M2 : Nat) (rec2 : Int → Dt → List Dt → Option (List Dt × Bool)) (h2 : ∀ (x0 : Int) (x1 : Dt) (x2 : List Dt), l43 jn m [1, 1, 1, 0, 1, 0] [] M2 (s43_2 x0 x1 x2) = rec2 x0 x1 x2) (x0 : Int) (x1 : Dt) (x2 : List Dt) : e43 jn m [1, 1, 1, 0, 1, 0, 0, 1] [M2] (s43_3 x0 x1 x2) = ref14_props_j3 m (ref14_parse m) rec2 x0 x1 x2 := by
  have h : ∀ J, e43 J m [1, 1, 1, 0, 1, 0, 0, 1] [M2] (s43_3 x0 x1 x2) =
    ((idx (Dt.L x1 4) x0).bind fun v0 =>
   ((ref14_parse m (Dt.fld v0 1)).bind fun r1 =>
   (bif (Bool.not r1.2) then
   some ([], false)
   else
   (J 0 10 0 (s43_4 x0 x1 x2 r1.1) (e43 J m [1, 1, 1, 0, 1, 0, 0, 1, 0, 0, 1, 1] [M2] (s43_4 x0 x1 x2 r1.1)))))) := fun J => by kernel_rfl
  exact (h jn).trans (by
    simp only [jn_eq, ref14_props_j4_eq m M2 rec2 h2]
    rfl)
theorem ref14_props_j6_eq (m : Nat) (x0 : List Dt) : e43 jn m [1, 1, 1, 1] [] (s43_6 x0) = ref14_props_j6 m (ref14_parse m) x0 := by
  have h : ∀ J, e43 J m [1, 1, 1, 1] [] (s43_6 x0) =
    some (x0, true) := fun J => by kernel_rfl
  exact (h jn).trans (rfl)
theorem ref14_props_l2_eq (m : Nat) : ∀ (M2 : Nat) (x0 : Int) (x1 : Dt) (x2 : List Dt), l43 jn m [1, 1, 1, 0, 1, 0] [] M2 (s43_2 x0 x1 x2) = ref14_props_l2 m (ref14_parse m) M2 x0 x1 x2
  | 0, _, _, _ => rfl
  | M2 + 1, x0, x1, x2 => by
    have h : ∀ J, l43 J m [1, 1, 1, 0, 1, 0] [] (M2 + 1) (s43_2 x0 x1 x2) =
    (bif (decide (x0 < (List.length (Dt.L x1 4) : Int))) then
   (J 0 7 0 (s43_3 x0 x1 x2) (e43 J m [1, 1, 1, 0, 1, 0, 0, 1] [M2] (s43_3 x0 x1 x2)))
    else
   (J 0 11 0 (s43_6 x2) (e43 J m [1, 1, 1, 1] [] (s43_6 x2)))) := fun J => by kernel_rfl
    refine (h jn).trans ?_
    simp only [jn_eq, ref14_props_j3_eq m M2 (ref14_props_l2 m (ref14_parse m) M2) (fun x0 x1 x2 => ref14_props_l2_eq m M2 x0 x1 x2), ref14_props_j6_eq m]
    rfl
theorem ref14_props_j1_eq (m : Nat) (x0 : Int) (x1 : Dt) (x2 : List Dt) : e43 jn m [1, 1, 1, 0, 1] [] (s43_1 x0 x1 x2) = ref14_props_j1 m (ref14_parse m) x0 x1 x2 := by
  have h : ∀ J, e43 J m [1, 1, 1, 0, 1] [] (s43_1 x0 x1 x2) =
    (J 1 5 (Nat.succ m) (s43_2 x0 x1 x2) (l43 J m [1, 1, 1, 0, 1, 0] [] (Nat.succ m) (s43_2 x0 x1 x2))) := fun J => by kernel_rfl
  exact (h jn).trans (by
    simp only [jn_eq, ref14_props_l2_eq m]
    rfl)
theorem ref14_props_j0_eq (m : Nat) (x0 : Dt) : e43 jn m [1, 1] [] (s43_0 x0) = ref14_props_j0 m (ref14_parse m) x0 := by
  have h : ∀ J, e43 J m [1, 1] [] (s43_0 x0) =
    (J 0 5 0 (s43_1 0 x0 []) (e43 J m [1, 1, 1, 0, 1] [] (s43_1 0 x0 []))) := fun J => by kernel_rfl
  exact (h jn).trans (by
    simp only [jn_eq, ref14_props_j1_eq m]
    rfl)
theorem ref14_props_eq (m : Nat) (a0 : Dt) : e43 jn m [] [] ⟨[(.dat 25 a0)], [], 0⟩ = ref14_props (m + 1) a0 := by
  have h : ∀ J, e43 J m [] [] ⟨[(.dat 25 a0)], [], 0⟩ =
    (bif ((Dt.I a0 0) != 5) then
   some ([], false)
    else
   (J 0 3 0 (s43_0 a0) (e43 J m [1, 1] [] (s43_0 a0)))) := fun J => by kernel_rfl
  refine (h jn).trans ?_
  simp only [jn_eq, ref14_props_j0_eq m]
  rfl
noncomputable def d59 (q : Res) : Option (List Dt) := match q with
  | (.dat T0 x0, []) => bif Nat.beq T0 22 then some x0.toLst else none
  | _ => none
theorem d59_sim {b : Res} {r : List Dt} (h : d59 b = some r) : Sim Tryz.prog b ((.dat 22 (.lst r)), []) := by
  unfold d59 at h
  split at h
  · obtain ⟨hc, h2⟩ := bif_some h
    cases h2
    have e0 := beq_eq hc
    subst e0
    exact Sim.of (.of (.dat (.lst Tryz.underlying22)) rfl rfl) .nil
  · cases h
noncomputable def e59 (J : Nat → Nat → Nat → St → Option (List Dt) → Option (List Dt)) (m : Nat) (p ms : List Nat) (σ : St) := evAt Tryz.prog env (ct m) J (m + 1) 100 44 Tryz.f100 d59 p ms σ
noncomputable def l59 (J : Nat → Nat → Nat → St → Option (List Dt) → Option (List Dt)) (m : Nat) (p ms : List Nat) (M : Nat) (σ : St) := loopAt Tryz.prog env (ct m) J (m + 1) 100 44 Tryz.f100 d59 p ms M σ
noncomputable def s59_3 (x0 : Int) (x1 : Dt) (x2 : List Dt) : St := ⟨tsOf [(1, (.ptr 0 [] 0)), (3, (.row 1)), (4, (.dat 3 (.int x0)))], [(.box 25 (.dat 25 x1)), (.row 22 x2)], 0⟩
noncomputable def s59_2 (x0 : Int) (x1 : Dt) (x2 : List Dt) : St := ⟨tsOf [(1, (.ptr 0 [] 0)), (3, (.row 1)), (4, (.dat 3 (.int x0)))], [(.box 25 (.dat 25 x1)), (.row 22 x2)], 0⟩
noncomputable def s59_8 (x0 : Int) (x1 : Dt) (x2 : List Dt) : St := ⟨tsOf [(1, (.ptr 0 [] 0)), (3, (.row 1)), (5, (.dat 3 (.int x0)))], [(.box 25 (.dat 25 x1)), (.row 22 x2)], 0⟩
noncomputable def s59_7 (x0 : Int) (x1 : Dt) (x2 : List Dt) : St := ⟨tsOf [(1, (.ptr 0 [] 0)), (3, (.row 1)), (5, (.dat 3 (.int x0)))], [(.box 25 (.dat 25 x1)), (.row 22 x2)], 0⟩
noncomputable def s59_9 (x0 : List Dt) : St := ⟨tsOf [(3, (.row 0))], [(.row 22 x0)], 0⟩
noncomputable def s59_6 (x0 : Int) (x1 : Dt) (x2 : List Dt) : St := ⟨tsOf [(1, (.ptr 0 [] 0)), (3, (.row 1)), (5, (.dat 3 (.int x0)))], [(.box 25 (.dat 25 x1)), (.row 22 x2)], 0⟩
noncomputable def s59_5 (x0 : Int) (x1 : Dt) (x2 : List Dt) : St := ⟨tsOf [(1, (.ptr 0 [] 0)), (3, (.row 1)), (5, (.dat 3 (.int x0)))], [(.box 25 (.dat 25 x1)), (.row 22 x2)], 0⟩
noncomputable def s59_4 (x0 : Dt) (x1 : List Dt) : St := ⟨tsOf [(1, (.ptr 0 [] 0)), (3, (.row 1))], [(.box 25 (.dat 25 x0)), (.row 22 x1)], 0⟩
noncomputable def s59_1 (x0 : Int) (x1 : Dt) (x2 : List Dt) : St := ⟨tsOf [(1, (.ptr 0 [] 0)), (3, (.row 1)), (4, (.dat 3 (.int x0)))], [(.box 25 (.dat 25 x1)), (.row 22 x2)], 0⟩
noncomputable def s59_0 (x0 : Int) (x1 : Dt) (x2 : List Dt) : St := ⟨tsOf [(1, (.ptr 0 [] 0)), (3, (.row 1)), (4, (.dat 3 (.int x0)))], [(.box 25 (.dat 25 x1)), (.row 22 x2)], 0⟩
theorem ref01_Parts_j3_eq (m : Nat) (M1 : Nat) (rec1 : Int → Dt → List Dt → Option (List Dt)) (h1 : ∀ (x0 : Int) (x1 : Dt) (x2 : List Dt), l59 jn m [1, 1, 0, 1, 0, 1, 0] [] M1 (s59_1 x0 x1 x2) = rec1 x0 x1 x2) (x0 : Int) (x1 : Dt) (x2 : List Dt) : e59 jn m [1, 1, 0, 1, 0, 1, 0, 0, 1, 1] [M1] (s59_3 x0 x1 x2) = ref01_Parts_j3 m rec1 x0 x1 x2 := by
  have h : ∀ J, e59 J m [1, 1, 0, 1, 0, 1, 0, 0, 1, 1] [M1] (s59_3 x0 x1 x2) =
    (J 1 4 M1 (s59_1 (IntKind.wrap .i64 (x0 + 1)) x1 x2) (l59 J m [1, 1, 0, 1, 0, 1, 0] [] M1 (s59_1 (IntKind.wrap .i64 (x0 + 1)) x1 x2))) := fun J => by kernel_rfl
  exact (h jn).trans (by
    simp only [jn_eq, h1]
    rfl)
theorem ref01_Parts_j2_eq (m : Nat) (M1 : Nat) (rec1 : Int → Dt → List Dt → Option (List Dt)) (h1 : ∀ (x0 : Int) (x1 : Dt) (x2 : List Dt), l59 jn m [1, 1, 0, 1, 0, 1, 0] [] M1 (s59_1 x0 x1 x2) = rec1 x0 x1 x2) (x0 : Int) (x1 : Dt) (x2 : List Dt) : e59 jn m [1, 1, 0, 1, 0, 1, 0, 0, 1] [M1] (s59_2 x0 x1 x2) = ref01_Parts_j2 m rec1 x0 x1 x2 := by
  have h : ∀ J, e59 J m [1, 1, 0, 1, 0, 1, 0, 0, 1] [M1] (s59_2 x0 x1 x2) =
    ((idx (Dt.L x1 3) x0).bind fun v0 =>
   ((app x2 [v0]).bind fun v1 =>
   (J 0 5 0 (s59_3 x0 x1 v1) (e59 J m [1, 1, 0, 1, 0, 1, 0, 0, 1, 1] [M1] (s59_3 x0 x1 v1))))) := fun J => by kernel_rfl
  exact (h jn).trans (by
    simp only [jn_eq, ref01_Parts_j3_eq m M1 rec1 h1]
    rfl)
theorem ref01_Parts_j8_eq (m : Nat) (M6 : Nat) (rec6 : Int → Dt → List Dt → Option (List Dt)) (h6 : ∀ (x0 : Int) (x1 : Dt) (x2 : List Dt), l59 jn m [1, 1, 1, 0, 1, 0, 1, 0] [] M6 (s59_6 x0 x1 x2) = rec6 x0 x1 x2) (x0 : Int) (x1 : Dt) (x2 : List Dt) : e59 jn m [1, 1, 1, 0, 1, 0, 1, 0, 0, 1, 1] [M6] (s59_8 x0 x1 x2) = ref01_Parts_j8 m rec6 x0 x1 x2 := by
  have h : ∀ J, e59 J m [1, 1, 1, 0, 1, 0, 1, 0, 0, 1, 1] [M6] (s59_8 x0 x1 x2) =
    (J 1 9 M6 (s59_6 (IntKind.wrap .i64 (x0 + 1)) x1 x2) (l59 J m [1, 1, 1, 0, 1, 0, 1, 0] [] M6 (s59_6 (IntKind.wrap .i64 (x0 + 1)) x1 x2))) := fun J => by kernel_rfl
  exact (h jn).trans (by
    simp only [jn_eq, h6]
    rfl)
theorem ref01_Parts_j7_eq (m : Nat) (M6 : Nat) (rec6 : Int → Dt → List Dt → Option (List Dt)) (h6 : ∀ (x0 : Int) (x1 : Dt) (x2 : List Dt), l59 jn m [1, 1, 1, 0, 1, 0, 1, 0] [] M6 (s59_6 x0 x1 x2) = rec6 x0 x1 x2) (x0 : Int) (x1 : Dt) (x2 : List Dt) : e59 jn m [1, 1, 1, 0, 1, 0, 1, 0, 0, 1] [M6] (s59_7 x0 x1 x2) = ref01_Parts_j7 m rec6 x0 x1 x2 := by
  have h : ∀ J, e59 J m [1, 1, 1, 0, 1, 0, 1, 0, 0, 1] [M6] (s59_7 x0 x1 x2) =
    ((idx (Dt.L x1 4) x0).bind fun v2 =>
   ((app x2 [(Dt.fld v2 1)]).bind fun v3 =>
   (J 0 10 0 (s59_8 x0 x1 v3) (e59 J m [1, 1, 1, 0, 1, 0, 1, 0, 0, 1, 1] [M6] (s59_8 x0 x1 v3))))) := fun J => by kernel_rfl
  exact (h jn).trans (by
    simp only [jn_eq, ref01_Parts_j8_eq m M6 rec6 h6]
    rfl)
theorem ref01_Parts_j9_eq (m : Nat) (x0 : List Dt) : e59 jn m [1, 1, 1, 1] [] (s59_9 x0) = ref01_Parts_j9 m x0 := by
  have h : ∀ J, e59 J m [1, 1, 1, 1] [] (s59_9 x0) =
    some x0 := fun J => by kernel_rfl
  exact (h jn).trans (rfl)
theorem ref01_Parts_l6_eq (m : Nat) : ∀ (M6 : Nat) (x0 : Int) (x1 : Dt) (x2 : List Dt), l59 jn m [1, 1, 1, 0, 1, 0, 1, 0] [] M6 (s59_6 x0 x1 x2) = ref01_Parts_l6 m M6 x0 x1 x2
  | 0, _, _, _ => rfl
  | M6 + 1, x0, x1, x2 => by
    have h : ∀ J, l59 J m [1, 1, 1, 0, 1, 0, 1, 0] [] (M6 + 1) (s59_6 x0 x1 x2) =
    (bif (decide (x0 < (List.length (Dt.L x1 4) : Int))) then
   (J 0 11 0 (s59_7 x0 x1 x2) (e59 J m [1, 1, 1, 0, 1, 0, 1, 0, 0, 1] [M6] (s59_7 x0 x1 x2)))
    else
   (J 0 12 0 (s59_9 x2) (e59 J m [1, 1, 1, 1] [] (s59_9 x2)))) := fun J => by kernel_rfl
    refine (h jn).trans ?_
    simp only [jn_eq, ref01_Parts_j7_eq m M6 (ref01_Parts_l6 m M6) (fun x0 x1 x2 => ref01_Parts_l6_eq m M6 x0 x1 x2), ref01_Parts_j9_eq m]
    rfl
theorem ref01_Parts_j5_eq (m : Nat) (x0 : Int) (x1 : Dt) (x2 : List Dt) : e59 jn m [1, 1, 1, 0, 1, 0, 1] [] (s59_5 x0 x1 x2) = ref01_Parts_j5 m x0 x1 x2 := by
  have h : ∀ J, e59 J m [1, 1, 1, 0, 1, 0, 1] [] (s59_5 x0 x1 x2) =
    (J 1 9 (Nat.succ m) (s59_6 x0 x1 x2) (l59 J m [1, 1, 1, 0, 1, 0, 1, 0] [] (Nat.succ m) (s59_6 x0 x1 x2))) := fun J => by kernel_rfl
  exact (h jn).trans (by
    simp only [jn_eq, ref01_Parts_l6_eq m]
    rfl)
theorem ref01_Parts_j4_eq (m : Nat) (x0 : Dt) (x1 : List Dt) : e59 jn m [1, 1, 1] [] (s59_4 x0 x1) = ref01_Parts_j4 m x0 x1 := by
  have h : ∀ J, e59 J m [1, 1, 1] [] (s59_4 x0 x1) =
    (bif ((Dt.I x0 0) == 5) then
   (J 0 9 0 (s59_5 0 x0 x1) (e59 J m [1, 1, 1, 0, 1, 0, 1] [] (s59_5 0 x0 x1)))
    else
   (J 0 12 0 (s59_9 x1) (e59 J m [1, 1, 1, 1] [] (s59_9 x1)))) := fun J => by kernel_rfl
  exact (h jn).trans (by
    simp only [jn_eq, ref01_Parts_j5_eq m, ref01_Parts_j9_eq m]
    rfl)
theorem ref01_Parts_l1_eq (m : Nat) : ∀ (M1 : Nat) (x0 : Int) (x1 : Dt) (x2 : List Dt), l59 jn m [1, 1, 0, 1, 0, 1, 0] [] M1 (s59_1 x0 x1 x2) = ref01_Parts_l1 m M1 x0 x1 x2
  | 0, _, _, _ => rfl
  | M1 + 1, x0, x1, x2 => by
    have h : ∀ J, l59 J m [1, 1, 0, 1, 0, 1, 0] [] (M1 + 1) (s59_1 x0 x1 x2) =
    (bif (decide (x0 < (List.length (Dt.L x1 3) : Int))) then
   (J 0 6 0 (s59_2 x0 x1 x2) (e59 J m [1, 1, 0, 1, 0, 1, 0, 0, 1] [M1] (s59_2 x0 x1 x2)))
    else
   (J 0 7 0 (s59_4 x1 x2) (e59 J m [1, 1, 1] [] (s59_4 x1 x2)))) := fun J => by kernel_rfl
    refine (h jn).trans ?_
    simp only [jn_eq, ref01_Parts_j2_eq m M1 (ref01_Parts_l1 m M1) (fun x0 x1 x2 => ref01_Parts_l1_eq m M1 x0 x1 x2), ref01_Parts_j4_eq m]
    rfl
theorem ref01_Parts_j0_eq (m : Nat) (x0 : Int) (x1 : Dt) (x2 : List Dt) : e59 jn m [1, 1, 0, 1, 0, 1] [] (s59_0 x0 x1 x2) = ref01_Parts_j0 m x0 x1 x2 := by
  have h : ∀ J, e59 J m [1, 1, 0, 1, 0, 1] [] (s59_0 x0 x1 x2) =
    (J 1 4 (Nat.succ m) (s59_1 x0 x1 x2) (l59 J m [1, 1, 0, 1, 0, 1, 0] [] (Nat.succ m) (s59_1 x0 x1 x2))) := fun J => by kernel_rfl
  exact (h jn).trans (by
    simp only [jn_eq, ref01_Parts_l1_eq m]
    rfl)
theorem ref01_Parts_eq (m : Nat) (a0 : Dt) : e59 jn m [] [] ⟨[(.dat 25 a0)], [], 0⟩ = ref01_Parts (m + 1) a0 := by
  have h : ∀ J, e59 J m [] [] ⟨[(.dat 25 a0)], [], 0⟩ =
    (bif ((Dt.I a0 0) == 6) then
   (J 0 4 0 (s59_0 0 a0 []) (e59 J m [1, 1, 0, 1, 0, 1] [] (s59_0 0 a0 [])))
    else
   (J 0 7 0 (s59_4 a0 []) (e59 J m [1, 1, 1] [] (s59_4 a0 [])))) := fun J => by kernel_rfl
  refine (h jn).trans ?_
  simp only [jn_eq, ref01_Parts_j0_eq m, ref01_Parts_j4_eq m]
  rfl
noncomputable def d45 (q : Res) : Option Int := match q with
  | (.dat T0 x0, []) => bif Nat.beq T0 3 then some x0.toInt else none
  | _ => none
theorem d45_sim {b : Res} {r : Int} (h : d45 b = some r) : Sim Tryz.prog b ((.dat 3 (.int r)), []) := by
  unfold d45 at h
  split at h
  · obtain ⟨hc, h2⟩ := bif_some h
    cases h2
    have e0 := beq_eq hc
    subst e0
    exact Sim.of (.of (.dat (.int Tryz.underlying3)) rfl rfl) .nil
  · cases h
noncomputable def e45 (J : Nat → Nat → Nat → St → Option Int → Option Int) (m : Nat) (p ms : List Nat) (σ : St) := evAt Tryz.prog env (ct m) J (m + 1) 70 34 Tryz.f70 d45 p ms σ
noncomputable def l45 (J : Nat → Nat → Nat → St → Option Int → Option Int) (m : Nat) (p ms : List Nat) (M : Nat) (σ : St) := loopAt Tryz.prog env (ct m) J (m + 1) 70 34 Tryz.f70 d45 p ms M σ
noncomputable def s45_5 (x0 : Int) (x1 : List Dt) (x2 x3 : Int) : St := ⟨tsOf [(1, (.dat 3 (.int x0))), (5, (.dat 22 (.lst x1))), (6, (.dat 3 (.int x2))), (7, (.dat 3 (.int x3)))], [], 0⟩
noncomputable def s45_4 (x0 : Int) (x1 : List Dt) (x2 x3 : Int) : St := ⟨tsOf [(1, (.dat 3 (.int x0))), (5, (.dat 22 (.lst x1))), (6, (.dat 3 (.int x2))), (7, (.dat 3 (.int x3)))], [], 0⟩
noncomputable def s45_6 (x0 : Int) : St := ⟨tsOf [(6, (.dat 3 (.int x0)))], [], 0⟩
noncomputable def s45_3 (x0 : Int) (x1 : List Dt) (x2 x3 : Int) : St := ⟨tsOf [(1, (.dat 3 (.int x0))), (5, (.dat 22 (.lst x1))), (6, (.dat 3 (.int x2))), (7, (.dat 3 (.int x3)))], [], 0⟩
noncomputable def s45_2 (x0 : Int) (x1 : List Dt) (x2 x3 : Int) : St := ⟨tsOf [(1, (.dat 3 (.int x0))), (5, (.dat 22 (.lst x1))), (6, (.dat 3 (.int x2))), (7, (.dat 3 (.int x3)))], [], 0⟩
noncomputable def s45_1 (x0 : Int) (x1 : List Dt) : St := ⟨tsOf [(1, (.dat 3 (.int x0))), (5, (.dat 22 (.lst x1)))], [], 0⟩
noncomputable def s45_0 (x0 : Int) (x1 : List Dt) (x2 : Bool) : St := ⟨tsOf [(1, (.dat 3 (.int x0))), (5, (.dat 22 (.lst x1))), (16, (.dat 4 (.bool x2)))], [], 0⟩
theorem ref01_levels_j5_eq (m : Nat) (M3 : Nat) (rec3 : Int → List Dt → Int → Int → Option Int) (h3 : ∀ (x0 : Int) (x1 : List Dt) (x2 x3 : Int), l45 jn m [1, 1, 1, 1, 0, 1, 0] [] M3 (s45_3 x0 x1 x2 x3) = rec3 x0 x1 x2 x3) (x0 : Int) (x1 : List Dt) (x2 x3 : Int) : e45 jn m [1, 1, 1, 1, 0, 1, 0, 0, 1, 1] [M3] (s45_5 x0 x1 x2 x3) = ref01_levels_j5 m (ref01_levels m) rec3 x0 x1 x2 x3 := by
  have h : ∀ J, e45 J m [1, 1, 1, 1, 0, 1, 0, 0, 1, 1] [M3] (s45_5 x0 x1 x2 x3) =
    (J 1 6 M3 (s45_3 x0 x1 x2 (IntKind.wrap .i64 (x3 + 1))) (l45 J m [1, 1, 1, 1, 0, 1, 0] [] M3 (s45_3 x0 x1 x2 (IntKind.wrap .i64 (x3 + 1))))) := fun J => by kernel_rfl
  exact (h jn).trans (by
    simp only [jn_eq, h3]
    rfl)
theorem ref01_levels_j4_eq (m : Nat) (M3 : Nat) (rec3 : Int → List Dt → Int → Int → Option Int) (h3 : ∀ (x0 : Int) (x1 : List Dt) (x2 x3 : Int), l45 jn m [1, 1, 1, 1, 0, 1, 0] [] M3 (s45_3 x0 x1 x2 x3) = rec3 x0 x1 x2 x3) (x0 : Int) (x1 : List Dt) (x2 x3 : Int) : e45 jn m [1, 1, 1, 1, 0, 1, 0, 0, 1] [M3] (s45_4 x0 x1 x2 x3) = ref01_levels_j4 m (ref01_levels m) rec3 x0 x1 x2 x3 := by
  have h : ∀ J, e45 J m [1, 1, 1, 1, 0, 1, 0, 0, 1] [M3] (s45_4 x0 x1 x2 x3) =
    ((idx x1 x3).bind fun v1 =>
   ((ref01_levels m v1 (IntKind.wrap .i64 (x0 - 1))).bind fun r2 =>
   (J 0 7 0 (s45_5 x0 x1 (bif (decide (x2 < r2)) then r2 else x2) x3) (e45 J m [1, 1, 1, 1, 0, 1, 0, 0, 1, 1] [M3] (s45_5 x0 x1 (bif (decide (x2 < r2)) then r2 else x2) x3))))) := fun J => by kernel_rfl
  exact (h jn).trans (by
    simp only [jn_eq, ref01_levels_j5_eq m M3 rec3 h3]
    rfl)
theorem ref01_levels_j6_eq (m : Nat) (x0 : Int) : e45 jn m [1, 1, 1, 1, 1] [] (s45_6 x0) = ref01_levels_j6 m (ref01_levels m) x0 := by
  have h : ∀ J, e45 J m [1, 1, 1, 1, 1] [] (s45_6 x0) =
    some (IntKind.wrap .i64 (x0 + 1)) := fun J => by kernel_rfl
  exact (h jn).trans (rfl)
theorem ref01_levels_l3_eq (m : Nat) : ∀ (M3 : Nat) (x0 : Int) (x1 : List Dt) (x2 x3 : Int), l45 jn m [1, 1, 1, 1, 0, 1, 0] [] M3 (s45_3 x0 x1 x2 x3) = ref01_levels_l3 m (ref01_levels m) M3 x0 x1 x2 x3
  | 0, _, _, _, _ => rfl
  | M3 + 1, x0, x1, x2, x3 => by
    have h : ∀ J, l45 J m [1, 1, 1, 1, 0, 1, 0] [] (M3 + 1) (s45_3 x0 x1 x2 x3) =
    (bif (decide (x3 < (List.length x1 : Int))) then
   (J 0 8 0 (s45_4 x0 x1 x2 x3) (e45 J m [1, 1, 1, 1, 0, 1, 0, 0, 1] [M3] (s45_4 x0 x1 x2 x3)))
    else
   (J 0 9 0 (s45_6 x2) (e45 J m [1, 1, 1, 1, 1] [] (s45_6 x2)))) := fun J => by kernel_rfl
    refine (h jn).trans ?_
    simp only [jn_eq, ref01_levels_j4_eq m M3 (ref01_levels_l3 m (ref01_levels m) M3) (fun x0 x1 x2 x3 => ref01_levels_l3_eq m M3 x0 x1 x2 x3), ref01_levels_j6_eq m]
    rfl
theorem ref01_levels_j2_eq (m : Nat) (x0 : Int) (x1 : List Dt) (x2 x3 : Int) : e45 jn m [1, 1, 1, 1, 0, 1] [] (s45_2 x0 x1 x2 x3) = ref01_levels_j2 m (ref01_levels m) x0 x1 x2 x3 := by
  have h : ∀ J, e45 J m [1, 1, 1, 1, 0, 1] [] (s45_2 x0 x1 x2 x3) =
    (J 1 6 (Nat.succ m) (s45_3 x0 x1 x2 x3) (l45 J m [1, 1, 1, 1, 0, 1, 0] [] (Nat.succ m) (s45_3 x0 x1 x2 x3))) := fun J => by kernel_rfl
  exact (h jn).trans (by
    simp only [jn_eq, ref01_levels_l3_eq m]
    rfl)
theorem ref01_levels_j1_eq (m : Nat) (x0 : Int) (x1 : List Dt) : e45 jn m [1, 1, 1] [] (s45_1 x0 x1) = ref01_levels_j1 m (ref01_levels m) x0 x1 := by
  have h : ∀ J, e45 J m [1, 1, 1] [] (s45_1 x0 x1) =
    (J 0 6 0 (s45_2 x0 x1 0 0) (e45 J m [1, 1, 1, 1, 0, 1] [] (s45_2 x0 x1 0 0))) := fun J => by kernel_rfl
  exact (h jn).trans (by
    simp only [jn_eq, ref01_levels_j2_eq m]
    rfl)
theorem ref01_levels_j0_eq (m : Nat) (x0 : Int) (x1 : List Dt) (x2 : Bool) : e45 jn m [1, 1, 0, 1] [] (s45_0 x0 x1 x2) = ref01_levels_j0 m (ref01_levels m) x0 x1 x2 := by
  have h : ∀ J, e45 J m [1, 1, 0, 1] [] (s45_0 x0 x1 x2) =
    (bif x2 then
   some 1
    else
   (J 0 4 0 (s45_1 x0 x1) (e45 J m [1, 1, 1] [] (s45_1 x0 x1)))) := fun J => by kernel_rfl
  exact (h jn).trans (by
    simp only [jn_eq, ref01_levels_j1_eq m]
    rfl)
theorem ref01_levels_eq (m : Nat) (a0 : Dt) (a1 : Int) : e45 jn m [] [] ⟨[(.dat 25 a0), (.dat 3 (.int a1))], [], 0⟩ = ref01_levels (m + 1) a0 a1 := by
  have h : ∀ J, e45 J m [] [] ⟨[(.dat 25 a0), (.dat 3 (.int a1))], [], 0⟩ =
    ((ref01_Parts m a0).bind fun r0 =>
   (bif (decide (a1 < 2)) then
   (J 0 3 0 (s45_0 a1 r0 true) (e45 J m [1, 1, 0, 1] [] (s45_0 a1 r0 true)))
   else
   (J 0 3 0 (s45_0 a1 r0 ((List.length r0 : Int) == 0)) (e45 J m [1, 1, 0, 1] [] (s45_0 a1 r0 ((List.length r0 : Int) == 0)))))) := fun J => by kernel_rfl
  refine (h jn).trans ?_
  simp only [jn_eq, ref01_levels_j0_eq m]
  rfl
noncomputable def d29 (q : Res) : Option Int := match q with
  | (.dat T0 x0, []) => bif Nat.beq T0 3 then some x0.toInt else none
  | _ => none
theorem d29_sim {b : Res} {r : Int} (h : d29 b = some r) : Sim Tryz.prog b ((.dat 3 (.int r)), []) := by
  unfold d29 at h
  split at h
  · obtain ⟨hc, h2⟩ := bif_some h
    cases h2
    have e0 := beq_eq hc
    subst e0
    exact Sim.of (.of (.dat (.int Tryz.underlying3)) rfl rfl) .nil
  · cases h
noncomputable def e29 (J : Nat → Nat → Nat → St → Option Int → Option Int) (m : Nat) (p ms : List Nat) (σ : St) := evAt Tryz.prog env (ct m) J (m + 1) 38 5 Tryz.f38 d29 p ms σ
noncomputable def l29 (J : Nat → Nat → Nat → St → Option Int → Option Int) (m : Nat) (p ms : List Nat) (M : Nat) (σ : St) := loopAt Tryz.prog env (ct m) J (m + 1) 38 5 Tryz.f38 d29 p ms M σ
theorem ref01_Depth_eq (m : Nat) (a0 : Dt) : e29 jn m [] [] ⟨[(.dat 25 a0)], [], 0⟩ = ref01_Depth (m + 1) a0 := by
  have h : ∀ J, e29 J m [] [] ⟨[(.dat 25 a0)], [], 0⟩ =
    ((ref01_levels m a0 17).bind fun r0 =>
   some r0) := fun J => by kernel_rfl
  refine (h jn).trans ?_
  
  rfl
noncomputable def d46 (q : Res) : Option Int := match q with
  | (.dat T0 x0, []) => bif Nat.beq T0 3 then some x0.toInt else none
  | _ => none
theorem d46_sim {b : Res} {r : Int} (h : d46 b = some r) : Sim Tryz.prog b ((.dat 3 (.int r)), []) := by
  unfold d46 at h
  split at h
  · obtain ⟨hc, h2⟩ := bif_some h
    cases h2
    have e0 := beq_eq hc
    subst e0
    exact Sim.of (.of (.dat (.int Tryz.underlying3)) rfl rfl) .nil
  · cases h
noncomputable def e46 (J : Nat → Nat → Nat → St → Option Int → Option Int) (m : Nat) (p ms : List Nat) (σ : St) := evAt Tryz.prog env (ct m) J (m + 1) 71 32 Tryz.f71 d46 p ms σ
noncomputable def l46 (J : Nat → Nat → Nat → St → Option Int → Option Int) (m : Nat) (p ms : List Nat) (M : Nat) (σ : St) := loopAt Tryz.prog env (ct m) J (m + 1) 71 32 Tryz.f71 d46 p ms M σ
noncomputable def s46_3 (x0 x1 : Int) (x2 : List Dt) (x3 : Int) : St := ⟨tsOf [(1, (.dat 3 (.int x0))), (5, (.dat 3 (.int x1))), (6, (.dat 22 (.lst x2))), (7, (.dat 3 (.int x3)))], [], 0⟩
noncomputable def s46_2 (x0 x1 : Int) (x2 : List Dt) (x3 : Int) : St := ⟨tsOf [(1, (.dat 3 (.int x0))), (5, (.dat 3 (.int x1))), (6, (.dat 22 (.lst x2))), (7, (.dat 3 (.int x3)))], [], 0⟩
noncomputable def s46_4 (x0 : Int) : St := ⟨tsOf [(5, (.dat 3 (.int x0)))], [], 0⟩
noncomputable def s46_1 (x0 x1 : Int) (x2 : List Dt) (x3 : Int) : St := ⟨tsOf [(1, (.dat 3 (.int x0))), (5, (.dat 3 (.int x1))), (6, (.dat 22 (.lst x2))), (7, (.dat 3 (.int x3)))], [], 0⟩
noncomputable def s46_0 (x0 x1 : Int) (x2 : List Dt) (x3 : Int) : St := ⟨tsOf [(1, (.dat 3 (.int x0))), (5, (.dat 3 (.int x1))), (6, (.dat 22 (.lst x2))), (7, (.dat 3 (.int x3)))], [], 0⟩
theorem ref01_count_j3_eq (m : Nat) (M1 : Nat) (rec1 : Int → Int → List Dt → Int → Option Int) (h1 : ∀ (x0 x1 : Int) (x2 : List Dt) (x3 : Int), l46 jn m [1, 1, 1, 0, 1, 0] [] M1 (s46_1 x0 x1 x2 x3) = rec1 x0 x1 x2 x3) (x0 x1 : Int) (x2 : List Dt) (x3 : Int) : e46 jn m [1, 1, 1, 0, 1, 0, 0, 1, 1] [M1] (s46_3 x0 x1 x2 x3) = ref01_count_j3 m (ref01_count m) rec1 x0 x1 x2 x3 := by
  have h : ∀ J, e46 J m [1, 1, 1, 0, 1, 0, 0, 1, 1] [M1] (s46_3 x0 x1 x2 x3) =
    (J 1 4 M1 (s46_1 x0 x1 x2 (IntKind.wrap .i64 (x3 + 1))) (l46 J m [1, 1, 1, 0, 1, 0] [] M1 (s46_1 x0 x1 x2 (IntKind.wrap .i64 (x3 + 1))))) := fun J => by kernel_rfl
  exact (h jn).trans (by
    simp only [jn_eq, h1]
    rfl)
theorem ref01_count_j2_eq (m : Nat) (M1 : Nat) (rec1 : Int → Int → List Dt → Int → Option Int) (h1 : ∀ (x0 x1 : Int) (x2 : List Dt) (x3 : Int), l46 jn m [1, 1, 1, 0, 1, 0] [] M1 (s46_1 x0 x1 x2 x3) = rec1 x0 x1 x2 x3) (x0 x1 : Int) (x2 : List Dt) (x3 : Int) : e46 jn m [1, 1, 1, 0, 1, 0, 0, 1] [M1] (s46_2 x0 x1 x2 x3) = ref01_count_j2 m (ref01_count m) rec1 x0 x1 x2 x3 := by
  have h : ∀ J, e46 J m [1, 1, 1, 0, 1, 0, 0, 1] [M1] (s46_2 x0 x1 x2 x3) =
    ((idx x2 x3).bind fun v1 =>
   ((ref01_count m v1 (IntKind.wrap .i64 (x0 - x1))).bind fun r2 =>
   (J 0 5 0 (s46_3 x0 (IntKind.wrap .i64 (x1 + r2)) x2 x3) (e46 J m [1, 1, 1, 0, 1, 0, 0, 1, 1] [M1] (s46_3 x0 (IntKind.wrap .i64 (x1 + r2)) x2 x3))))) := fun J => by kernel_rfl
  exact (h jn).trans (by
    simp only [jn_eq, ref01_count_j3_eq m M1 rec1 h1]
    rfl)
theorem ref01_count_j4_eq (m : Nat) (x0 : Int) : e46 jn m [1, 1, 1, 1] [] (s46_4 x0) = ref01_count_j4 m (ref01_count m) x0 := by
  have h : ∀ J, e46 J m [1, 1, 1, 1] [] (s46_4 x0) =
    some x0 := fun J => by kernel_rfl
  exact (h jn).trans (rfl)
theorem ref01_count_l1_eq (m : Nat) : ∀ (M1 : Nat) (x0 x1 : Int) (x2 : List Dt) (x3 : Int), l46 jn m [1, 1, 1, 0, 1, 0] [] M1 (s46_1 x0 x1 x2 x3) = ref01_count_l1 m (ref01_count m) M1 x0 x1 x2 x3
  | 0, _, _, _, _ => rfl
  | M1 + 1, x0, x1, x2, x3 => by
    have h : ∀ J, l46 J m [1, 1, 1, 0, 1, 0] [] (M1 + 1) (s46_1 x0 x1 x2 x3) =
    (bif (decide (x3 < (List.length x2 : Int))) then
   (bif (decide (x1 < x0)) then
   (J 0 6 0 (s46_2 x0 x1 x2 x3) (e46 J m [1, 1, 1, 0, 1, 0, 0, 1] [M1] (s46_2 x0 x1 x2 x3)))
   else
   (J 0 7 0 (s46_4 x1) (e46 J m [1, 1, 1, 1] [] (s46_4 x1))))
    else
   (J 0 7 0 (s46_4 x1) (e46 J m [1, 1, 1, 1] [] (s46_4 x1)))) := fun J => by kernel_rfl
    refine (h jn).trans ?_
    simp only [jn_eq, ref01_count_j2_eq m M1 (ref01_count_l1 m (ref01_count m) M1) (fun x0 x1 x2 x3 => ref01_count_l1_eq m M1 x0 x1 x2 x3), ref01_count_j4_eq m]
    rfl
theorem ref01_count_j0_eq (m : Nat) (x0 x1 : Int) (x2 : List Dt) (x3 : Int) : e46 jn m [1, 1, 1, 0, 1] [] (s46_0 x0 x1 x2 x3) = ref01_count_j0 m (ref01_count m) x0 x1 x2 x3 := by
  have h : ∀ J, e46 J m [1, 1, 1, 0, 1] [] (s46_0 x0 x1 x2 x3) =
    (J 1 4 (Nat.succ m) (s46_1 x0 x1 x2 x3) (l46 J m [1, 1, 1, 0, 1, 0] [] (Nat.succ m) (s46_1 x0 x1 x2 x3))) := fun J => by kernel_rfl
  exact (h jn).trans (by
    simp only [jn_eq, ref01_count_l1_eq m]
    rfl)
theorem ref01_count_eq (m : Nat) (a0 : Dt) (a1 : Int) : e46 jn m [] [] ⟨[(.dat 25 a0), (.dat 3 (.int a1))], [], 0⟩ = ref01_count (m + 1) a0 a1 := by
  have h : ∀ J, e46 J m [] [] ⟨[(.dat 25 a0), (.dat 3 (.int a1))], [], 0⟩ =
    ((ref01_Parts m a0).bind fun r0 =>
   (J 0 4 0 (s46_0 a1 1 r0 0) (e46 J m [1, 1, 1, 0, 1] [] (s46_0 a1 1 r0 0)))) := fun J => by kernel_rfl
  refine (h jn).trans ?_
  simp only [jn_eq, ref01_count_j0_eq m]
  rfl
noncomputable def d30 (q : Res) : Option Int := match q with
  | (.dat T0 x0, []) => bif Nat.beq T0 3 then some x0.toInt else none
  | _ => none
theorem d30_sim {b : Res} {r : Int} (h : d30 b = some r) : Sim Tryz.prog b ((.dat 3 (.int r)), []) := by
  unfold d30 at h
  split at h
  · obtain ⟨hc, h2⟩ := bif_some h
    cases h2
    have e0 := beq_eq hc
    subst e0
    exact Sim.of (.of (.dat (.int Tryz.underlying3)) rfl rfl) .nil
  · cases h
noncomputable def e30 (J : Nat → Nat → Nat → St → Option Int → Option Int) (m : Nat) (p ms : List Nat) (σ : St) := evAt Tryz.prog env (ct m) J (m + 1) 39 5 Tryz.f39 d30 p ms σ
noncomputable def l30 (J : Nat → Nat → Nat → St → Option Int → Option Int) (m : Nat) (p ms : List Nat) (M : Nat) (σ : St) := loopAt Tryz.prog env (ct m) J (m + 1) 39 5 Tryz.f39 d30 p ms M σ
theorem ref01_Nodes_eq (m : Nat) (a0 : Dt) : e30 jn m [] [] ⟨[(.dat 25 a0)], [], 0⟩ = ref01_Nodes (m + 1) a0 := by
  have h : ∀ J, e30 J m [] [] ⟨[(.dat 25 a0)], [], 0⟩ =
    ((ref01_count m a0 1025).bind fun r0 =>
   some r0) := fun J => by kernel_rfl
  refine (h jn).trans ?_
  
  rfl
noncomputable def d60 (q : Res) : Option Bool := match q with
  | (.dat T0 x0, []) => bif Nat.beq T0 4 then some x0.toBool else none
  | _ => none
theorem d60_sim {b : Res} {r : Bool} (h : d60 b = some r) : Sim Tryz.prog b ((.dat 4 (.bool r)), []) := by
  unfold d60 at h
  split at h
  · obtain ⟨hc, h2⟩ := bif_some h
    cases h2
    have e0 := beq_eq hc
    subst e0
    exact Sim.of (.of (.dat (.bool Tryz.underlying4)) rfl rfl) .nil
  · cases h
noncomputable def e60 (J : Nat → Nat → Nat → St → Option Bool → Option Bool) (m : Nat) (p ms : List Nat) (σ : St) := evAt Tryz.prog env (ct m) J (m + 1) 101 33 Tryz.f101 d60 p ms σ
noncomputable def l60 (J : Nat → Nat → Nat → St → Option Bool → Option Bool) (m : Nat) (p ms : List Nat) (M : Nat) (σ : St) := loopAt Tryz.prog env (ct m) J (m + 1) 101 33 Tryz.f101 d60 p ms M σ
noncomputable def s60_5 (x0 : ByteArray) (x1 x2 x3 : Int) : St := ⟨tsOf [(0, (.dat 9 (.str x0))), (1, (.dat 3 (.int x1))), (2, (.dat 3 (.int x2))), (7, (.dat 3 (.int x3)))], [], 0⟩
noncomputable def s60_4 (x0 : ByteArray) (x1 x2 x3 : Int) (x4 : Bool) : St := ⟨tsOf [(0, (.dat 9 (.str x0))), (1, (.dat 3 (.int x1))), (2, (.dat 3 (.int x2))), (7, (.dat 3 (.int x3))), (32, (.dat 4 (.bool x4)))], [], 0⟩
noncomputable def s60_3 (x0 : ByteArray) (x1 x2 x3 : Int) : St := ⟨tsOf [(0, (.dat 9 (.str x0))), (1, (.dat 3 (.int x1))), (2, (.dat 3 (.int x2))), (7, (.dat 3 (.int x3)))], [], 0⟩
noncomputable def s60_6 : St := ⟨tsOf [], [], 0⟩
noncomputable def s60_2 (x0 : ByteArray) (x1 x2 x3 : Int) : St := ⟨tsOf [(0, (.dat 9 (.str x0))), (1, (.dat 3 (.int x1))), (2, (.dat 3 (.int x2))), (7, (.dat 3 (.int x3)))], [], 0⟩
noncomputable def s60_1 (x0 : ByteArray) (x1 x2 x3 : Int) : St := ⟨tsOf [(0, (.dat 9 (.str x0))), (1, (.dat 3 (.int x1))), (2, (.dat 3 (.int x2))), (7, (.dat 3 (.int x3)))], [], 0⟩
noncomputable def s60_0 (x0 : ByteArray) (x1 x2 : Int) : St := ⟨tsOf [(0, (.dat 9 (.str x0))), (1, (.dat 3 (.int x1))), (2, (.dat 3 (.int x2)))], [], 0⟩
theorem ref01_tail_j5_eq (m : Nat) (M2 : Nat) (rec2 : ByteArray → Int → Int → Int → Option Bool) (h2 : ∀ (x0 : ByteArray) (x1 x2 x3 : Int), l60 jn m [1, 1, 0, 1, 0] [] M2 (s60_2 x0 x1 x2 x3) = rec2 x0 x1 x2 x3) (x0 : ByteArray) (x1 x2 x3 : Int) : e60 jn m [1, 1, 0, 1, 0, 0, 1, 1] [M2] (s60_5 x0 x1 x2 x3) = ref01_tail_j5 m rec2 x0 x1 x2 x3 := by
  have h : ∀ J, e60 J m [1, 1, 0, 1, 0, 0, 1, 1] [M2] (s60_5 x0 x1 x2 x3) =
    (J 1 4 M2 (s60_2 x0 x1 x2 (IntKind.wrap .i64 (x3 + 1))) (l60 J m [1, 1, 0, 1, 0] [] M2 (s60_2 x0 x1 x2 (IntKind.wrap .i64 (x3 + 1))))) := fun J => by kernel_rfl
  exact (h jn).trans (by
    simp only [jn_eq, h2]
    rfl)
theorem ref01_tail_j4_eq (m : Nat) (M2 : Nat) (rec2 : ByteArray → Int → Int → Int → Option Bool) (h2 : ∀ (x0 : ByteArray) (x1 x2 x3 : Int), l60 jn m [1, 1, 0, 1, 0] [] M2 (s60_2 x0 x1 x2 x3) = rec2 x0 x1 x2 x3) (x0 : ByteArray) (x1 x2 x3 : Int) (x4 : Bool) : e60 jn m [1, 1, 0, 1, 0, 0, 1, 0, 0, 1] [M2] (s60_4 x0 x1 x2 x3 x4) = ref01_tail_j4 m rec2 x0 x1 x2 x3 x4 := by
  have h : ∀ J, e60 J m [1, 1, 0, 1, 0, 0, 1, 0, 0, 1] [M2] (s60_4 x0 x1 x2 x3 x4) =
    (bif x4 then
   some false
    else
   (J 0 5 0 (s60_5 x0 x1 x2 x3) (e60 J m [1, 1, 0, 1, 0, 0, 1, 1] [M2] (s60_5 x0 x1 x2 x3)))) := fun J => by kernel_rfl
  exact (h jn).trans (by
    simp only [jn_eq, ref01_tail_j5_eq m M2 rec2 h2]
    rfl)
theorem ref01_tail_j3_eq (m : Nat) (M2 : Nat) (rec2 : ByteArray → Int → Int → Int → Option Bool) (h2 : ∀ (x0 : ByteArray) (x1 x2 x3 : Int), l60 jn m [1, 1, 0, 1, 0] [] M2 (s60_2 x0 x1 x2 x3) = rec2 x0 x1 x2 x3) (x0 : ByteArray) (x1 x2 x3 : Int) : e60 jn m [1, 1, 0, 1, 0, 0, 1] [M2] (s60_3 x0 x1 x2 x3) = ref01_tail_j3 m rec2 x0 x1 x2 x3 := by
  have h : ∀ J, e60 J m [1, 1, 0, 1, 0, 0, 1] [M2] (s60_3 x0 x1 x2 x3) =
    ((idxS x0 (IntKind.wrap .i64 (x1 + x3))).bind fun v0 =>
   (bif (decide (v0 < 128)) then
   (J 0 7 0 (s60_4 x0 x1 x2 x3 true) (e60 J m [1, 1, 0, 1, 0, 0, 1, 0, 0, 1] [M2] (s60_4 x0 x1 x2 x3 true)))
   else
   ((idxS x0 (IntKind.wrap .i64 (x1 + x3))).bind fun v1 =>
   (J 0 7 0 (s60_4 x0 x1 x2 x3 (decide (191 < v1))) (e60 J m [1, 1, 0, 1, 0, 0, 1, 0, 0, 1] [M2] (s60_4 x0 x1 x2 x3 (decide (191 < v1)))))))) := fun J => by kernel_rfl
  exact (h jn).trans (by
    simp only [jn_eq, ref01_tail_j4_eq m M2 rec2 h2]
    rfl)
theorem ref01_tail_j6_eq (m : Nat) : e60 jn m [1, 1, 1] [] s60_6 = ref01_tail_j6 m := by
  have h : ∀ J, e60 J m [1, 1, 1] [] s60_6 =
    some true := fun J => by kernel_rfl
  exact (h jn).trans (rfl)
theorem ref01_tail_l2_eq (m : Nat) : ∀ (M2 : Nat) (x0 : ByteArray) (x1 x2 x3 : Int), l60 jn m [1, 1, 0, 1, 0] [] M2 (s60_2 x0 x1 x2 x3) = ref01_tail_l2 m M2 x0 x1 x2 x3
  | 0, _, _, _, _ => rfl
  | M2 + 1, x0, x1, x2, x3 => by
    have h : ∀ J, l60 J m [1, 1, 0, 1, 0] [] (M2 + 1) (s60_2 x0 x1 x2 x3) =
    (bif (decide (x3 < x2)) then
   (J 0 6 0 (s60_3 x0 x1 x2 x3) (e60 J m [1, 1, 0, 1, 0, 0, 1] [M2] (s60_3 x0 x1 x2 x3)))
    else
   (J 0 8 0 s60_6 (e60 J m [1, 1, 1] [] s60_6))) := fun J => by kernel_rfl
    refine (h jn).trans ?_
    simp only [jn_eq, ref01_tail_j3_eq m M2 (ref01_tail_l2 m M2) (fun x0 x1 x2 x3 => ref01_tail_l2_eq m M2 x0 x1 x2 x3), ref01_tail_j6_eq m]
    rfl
theorem ref01_tail_j1_eq (m : Nat) (x0 : ByteArray) (x1 x2 x3 : Int) : e60 jn m [1, 1, 0, 1] [] (s60_1 x0 x1 x2 x3) = ref01_tail_j1 m x0 x1 x2 x3 := by
  have h : ∀ J, e60 J m [1, 1, 0, 1] [] (s60_1 x0 x1 x2 x3) =
    (J 1 4 (Nat.succ m) (s60_2 x0 x1 x2 x3) (l60 J m [1, 1, 0, 1, 0] [] (Nat.succ m) (s60_2 x0 x1 x2 x3))) := fun J => by kernel_rfl
  exact (h jn).trans (by
    simp only [jn_eq, ref01_tail_l2_eq m]
    rfl)
theorem ref01_tail_j0_eq (m : Nat) (x0 : ByteArray) (x1 x2 : Int) : e60 jn m [1, 1] [] (s60_0 x0 x1 x2) = ref01_tail_j0 m x0 x1 x2 := by
  have h : ∀ J, e60 J m [1, 1] [] (s60_0 x0 x1 x2) =
    (J 0 4 0 (s60_1 x0 x1 x2 0) (e60 J m [1, 1, 0, 1] [] (s60_1 x0 x1 x2 0))) := fun J => by kernel_rfl
  exact (h jn).trans (by
    simp only [jn_eq, ref01_tail_j1_eq m]
    rfl)
theorem ref01_tail_eq (m : Nat) (a0 : ByteArray) (a1 a2 : Int) : e60 jn m [] [] ⟨[(.dat 9 (.str a0)), (.dat 3 (.int a1)), (.dat 3 (.int a2))], [], 0⟩ = ref01_tail (m + 1) a0 a1 a2 := by
  have h : ∀ J, e60 J m [] [] ⟨[(.dat 9 (.str a0)), (.dat 3 (.int a1)), (.dat 3 (.int a2))], [], 0⟩ =
    (bif (decide ((ByteArray.size a0 : Int) < (IntKind.wrap .i64 (a1 + a2)))) then
   some false
    else
   (J 0 3 0 (s60_0 a0 a1 a2) (e60 J m [1, 1] [] (s60_0 a0 a1 a2)))) := fun J => by kernel_rfl
  refine (h jn).trans ?_
  simp only [jn_eq, ref01_tail_j0_eq m]
  rfl
noncomputable def d47 (q : Res) : Option Bool := match q with
  | (.dat T0 x0, []) => bif Nat.beq T0 4 then some x0.toBool else none
  | _ => none
theorem d47_sim {b : Res} {r : Bool} (h : d47 b = some r) : Sim Tryz.prog b ((.dat 4 (.bool r)), []) := by
  unfold d47 at h
  split at h
  · obtain ⟨hc, h2⟩ := bif_some h
    cases h2
    have e0 := beq_eq hc
    subst e0
    exact Sim.of (.of (.dat (.bool Tryz.underlying4)) rfl rfl) .nil
  · cases h
noncomputable def e47 (J : Nat → Nat → Nat → St → Option Bool → Option Bool) (m : Nat) (p ms : List Nat) (σ : St) := evAt Tryz.prog env (ct m) J (m + 1) 72 89 Tryz.f72 d47 p ms σ
noncomputable def l47 (J : Nat → Nat → Nat → St → Option Bool → Option Bool) (m : Nat) (p ms : List Nat) (M : Nat) (σ : St) := loopAt Tryz.prog env (ct m) J (m + 1) 72 89 Tryz.f72 d47 p ms M σ
noncomputable def s47_6 (x0 : ByteArray) (x1 x2 : Int) : St := ⟨tsOf [(0, (.dat 9 (.str x0))), (3, (.dat 3 (.int x1))), (5, (.dat 3 (.int x2)))], [], 0⟩
noncomputable def s47_5 (x0 : ByteArray) (x1 x2 : Int) (x3 : Bool) : St := ⟨tsOf [(0, (.dat 9 (.str x0))), (3, (.dat 3 (.int x1))), (5, (.dat 3 (.int x2))), (84, (.dat 4 (.bool x3)))], [], 0⟩
noncomputable def s47_4 (x0 : ByteArray) (x1 x2 x3 : Int) : St := ⟨tsOf [(0, (.dat 9 (.str x0))), (3, (.dat 3 (.int x1))), (4, (.dat 5 (.int x2))), (5, (.dat 3 (.int x3)))], [], 0⟩
noncomputable def s47_3 (x0 : ByteArray) (x1 x2 x3 : Int) : St := ⟨tsOf [(0, (.dat 9 (.str x0))), (3, (.dat 3 (.int x1))), (4, (.dat 5 (.int x2))), (5, (.dat 3 (.int x3)))], [], 0⟩
noncomputable def s47_9 (x0 : ByteArray) (x1 x2 : Int) (x3 : Bool) : St := ⟨tsOf [(0, (.dat 9 (.str x0))), (3, (.dat 3 (.int x1))), (4, (.dat 5 (.int x2))), (30, (.dat 4 (.bool x3)))], [], 0⟩
noncomputable def s47_8 (x0 : ByteArray) (x1 x2 : Int) (x3 : Bool) : St := ⟨tsOf [(0, (.dat 9 (.str x0))), (3, (.dat 3 (.int x1))), (4, (.dat 5 (.int x2))), (23, (.dat 4 (.bool x3)))], [], 0⟩
noncomputable def s47_7 (x0 : ByteArray) (x1 x2 : Int) (x3 : Bool) : St := ⟨tsOf [(0, (.dat 9 (.str x0))), (3, (.dat 3 (.int x1))), (4, (.dat 5 (.int x2))), (16, (.dat 4 (.bool x3)))], [], 0⟩
noncomputable def s47_2 (x0 : ByteArray) (x1 : Int) : St := ⟨tsOf [(0, (.dat 9 (.str x0))), (3, (.dat 3 (.int x1)))], [], 0⟩
noncomputable def s47_10 : St := ⟨tsOf [], [], 0⟩
noncomputable def s47_1 (x0 : ByteArray) (x1 : Int) : St := ⟨tsOf [(0, (.dat 9 (.str x0))), (3, (.dat 3 (.int x1)))], [], 0⟩
noncomputable def s47_0 (x0 : ByteArray) (x1 : Int) : St := ⟨tsOf [(0, (.dat 9 (.str x0))), (3, (.dat 3 (.int x1)))], [], 0⟩
theorem ref01_UTF8_j6_eq (m : Nat) (M1 : Nat) (rec1 : ByteArray → Int → Option Bool) (h1 : ∀ (x0 : ByteArray) (x1 : Int), l47 jn m [1, 0, 1, 0] [] M1 (s47_1 x0 x1) = rec1 x0 x1) (x0 : ByteArray) (x1 x2 : Int) : e47 jn m [1, 0, 1, 0, 0, 1, 0, 1, 1, 1, 1, 1] [M1] (s47_6 x0 x1 x2) = ref01_UTF8_j6 m rec1 x0 x1 x2 := by
  have h : ∀ J, e47 J m [1, 0, 1, 0, 0, 1, 0, 1, 1, 1, 1, 1] [M1] (s47_6 x0 x1 x2) =
    (J 1 2 M1 (s47_1 x0 (IntKind.wrap .i64 ((IntKind.wrap .i64 (x1 + x2)) + 1))) (l47 J m [1, 0, 1, 0] [] M1 (s47_1 x0 (IntKind.wrap .i64 ((IntKind.wrap .i64 (x1 + x2)) + 1))))) := fun J => by kernel_rfl
  exact (h jn).trans (by
    simp only [jn_eq, h1]
    rfl)
theorem ref01_UTF8_j5_eq (m : Nat) (M1 : Nat) (rec1 : ByteArray → Int → Option Bool) (h1 : ∀ (x0 : ByteArray) (x1 : Int), l47 jn m [1, 0, 1, 0] [] M1 (s47_1 x0 x1) = rec1 x0 x1) (x0 : ByteArray) (x1 x2 : Int) (x3 : Bool) : e47 jn m [1, 0, 1, 0, 0, 1, 0, 1, 1, 1, 1, 0, 1] [M1] (s47_5 x0 x1 x2 x3) = ref01_UTF8_j5 m rec1 x0 x1 x2 x3 := by
  have h : ∀ J, e47 J m [1, 0, 1, 0, 0, 1, 0, 1, 1, 1, 1, 0, 1] [M1] (s47_5 x0 x1 x2 x3) =
    (bif x3 then
   some false
    else
   (J 0 17 0 (s47_6 x0 x1 x2) (e47 J m [1, 0, 1, 0, 0, 1, 0, 1, 1, 1, 1, 1] [M1] (s47_6 x0 x1 x2)))) := fun J => by kernel_rfl
  exact (h jn).trans (by
    simp only [jn_eq, ref01_UTF8_j6_eq m M1 rec1 h1]
    rfl)
theorem ref01_UTF8_j4_eq (m : Nat) (M1 : Nat) (rec1 : ByteArray → Int → Option Bool) (h1 : ∀ (x0 : ByteArray) (x1 : Int), l47 jn m [1, 0, 1, 0] [] M1 (s47_1 x0 x1) = rec1 x0 x1) (x0 : ByteArray) (x1 x2 x3 : Int) : e47 jn m [1, 0, 1, 0, 0, 1, 0, 1, 1, 1, 1] [M1] (s47_4 x0 x1 x2 x3) = ref01_UTF8_j4 m rec1 x0 x1 x2 x3 := by
  have h : ∀ J, e47 J m [1, 0, 1, 0, 0, 1, 0, 1, 1, 1, 1] [M1] (s47_4 x0 x1 x2 x3) =
    (bif (x2 == 224) then
   ((idxS x0 (IntKind.wrap .i64 (x1 + 1))).bind fun v2 =>
   (bif (decide (v2 < 160)) then
   (J 0 16 0 (s47_5 x0 x1 x3 true) (e47 J m [1, 0, 1, 0, 0, 1, 0, 1, 1, 1, 1, 0, 1] [M1] (s47_5 x0 x1 x3 true)))
   else
   (bif (x2 == 237) then
   ((idxS x0 (IntKind.wrap .i64 (x1 + 1))).bind fun v3 =>
   (bif (decide (159 < v3)) then
   (J 0 16 0 (s47_5 x0 x1 x3 true) (e47 J m [1, 0, 1, 0, 0, 1, 0, 1, 1, 1, 1, 0, 1] [M1] (s47_5 x0 x1 x3 true)))
   else
   (bif (x2 == 240) then
   ((idxS x0 (IntKind.wrap .i64 (x1 + 1))).bind fun v4 =>
   (bif (decide (v4 < 144)) then
   (J 0 16 0 (s47_5 x0 x1 x3 true) (e47 J m [1, 0, 1, 0, 0, 1, 0, 1, 1, 1, 1, 0, 1] [M1] (s47_5 x0 x1 x3 true)))
   else
   (bif (x2 == 244) then
   ((idxS x0 (IntKind.wrap .i64 (x1 + 1))).bind fun v5 =>
   (J 0 16 0 (s47_5 x0 x1 x3 (decide (143 < v5))) (e47 J m [1, 0, 1, 0, 0, 1, 0, 1, 1, 1, 1, 0, 1] [M1] (s47_5 x0 x1 x3 (decide (143 < v5))))))
   else
   (J 0 16 0 (s47_5 x0 x1 x3 false) (e47 J m [1, 0, 1, 0, 0, 1, 0, 1, 1, 1, 1, 0, 1] [M1] (s47_5 x0 x1 x3 false))))))
   else
   (bif (x2 == 244) then
   ((idxS x0 (IntKind.wrap .i64 (x1 + 1))).bind fun v6 =>
   (J 0 16 0 (s47_5 x0 x1 x3 (decide (143 < v6))) (e47 J m [1, 0, 1, 0, 0, 1, 0, 1, 1, 1, 1, 0, 1] [M1] (s47_5 x0 x1 x3 (decide (143 < v6))))))
   else
   (J 0 16 0 (s47_5 x0 x1 x3 false) (e47 J m [1, 0, 1, 0, 0, 1, 0, 1, 1, 1, 1, 0, 1] [M1] (s47_5 x0 x1 x3 false)))))))
   else
   (bif (x2 == 240) then
   ((idxS x0 (IntKind.wrap .i64 (x1 + 1))).bind fun v7 =>
   (bif (decide (v7 < 144)) then
   (J 0 16 0 (s47_5 x0 x1 x3 true) (e47 J m [1, 0, 1, 0, 0, 1, 0, 1, 1, 1, 1, 0, 1] [M1] (s47_5 x0 x1 x3 true)))
   else
   (bif (x2 == 244) then
   ((idxS x0 (IntKind.wrap .i64 (x1 + 1))).bind fun v8 =>
   (J 0 16 0 (s47_5 x0 x1 x3 (decide (143 < v8))) (e47 J m [1, 0, 1, 0, 0, 1, 0, 1, 1, 1, 1, 0, 1] [M1] (s47_5 x0 x1 x3 (decide (143 < v8))))))
   else
   (J 0 16 0 (s47_5 x0 x1 x3 false) (e47 J m [1, 0, 1, 0, 0, 1, 0, 1, 1, 1, 1, 0, 1] [M1] (s47_5 x0 x1 x3 false))))))
   else
   (bif (x2 == 244) then
   ((idxS x0 (IntKind.wrap .i64 (x1 + 1))).bind fun v9 =>
   (J 0 16 0 (s47_5 x0 x1 x3 (decide (143 < v9))) (e47 J m [1, 0, 1, 0, 0, 1, 0, 1, 1, 1, 1, 0, 1] [M1] (s47_5 x0 x1 x3 (decide (143 < v9))))))
   else
   (J 0 16 0 (s47_5 x0 x1 x3 false) (e47 J m [1, 0, 1, 0, 0, 1, 0, 1, 1, 1, 1, 0, 1] [M1] (s47_5 x0 x1 x3 false))))))))
    else
   (bif (x2 == 237) then
   ((idxS x0 (IntKind.wrap .i64 (x1 + 1))).bind fun v10 =>
   (bif (decide (159 < v10)) then
   (J 0 16 0 (s47_5 x0 x1 x3 true) (e47 J m [1, 0, 1, 0, 0, 1, 0, 1, 1, 1, 1, 0, 1] [M1] (s47_5 x0 x1 x3 true)))
   else
   (bif (x2 == 240) then
   ((idxS x0 (IntKind.wrap .i64 (x1 + 1))).bind fun v11 =>
   (bif (decide (v11 < 144)) then
   (J 0 16 0 (s47_5 x0 x1 x3 true) (e47 J m [1, 0, 1, 0, 0, 1, 0, 1, 1, 1, 1, 0, 1] [M1] (s47_5 x0 x1 x3 true)))
   else
   (bif (x2 == 244) then
   ((idxS x0 (IntKind.wrap .i64 (x1 + 1))).bind fun v12 =>
   (J 0 16 0 (s47_5 x0 x1 x3 (decide (143 < v12))) (e47 J m [1, 0, 1, 0, 0, 1, 0, 1, 1, 1, 1, 0, 1] [M1] (s47_5 x0 x1 x3 (decide (143 < v12))))))
   else
   (J 0 16 0 (s47_5 x0 x1 x3 false) (e47 J m [1, 0, 1, 0, 0, 1, 0, 1, 1, 1, 1, 0, 1] [M1] (s47_5 x0 x1 x3 false))))))
   else
   (bif (x2 == 244) then
   ((idxS x0 (IntKind.wrap .i64 (x1 + 1))).bind fun v13 =>
   (J 0 16 0 (s47_5 x0 x1 x3 (decide (143 < v13))) (e47 J m [1, 0, 1, 0, 0, 1, 0, 1, 1, 1, 1, 0, 1] [M1] (s47_5 x0 x1 x3 (decide (143 < v13))))))
   else
   (J 0 16 0 (s47_5 x0 x1 x3 false) (e47 J m [1, 0, 1, 0, 0, 1, 0, 1, 1, 1, 1, 0, 1] [M1] (s47_5 x0 x1 x3 false)))))))
   else
   (bif (x2 == 240) then
   ((idxS x0 (IntKind.wrap .i64 (x1 + 1))).bind fun v14 =>
   (bif (decide (v14 < 144)) then
   (J 0 16 0 (s47_5 x0 x1 x3 true) (e47 J m [1, 0, 1, 0, 0, 1, 0, 1, 1, 1, 1, 0, 1] [M1] (s47_5 x0 x1 x3 true)))
   else
   (bif (x2 == 244) then
   ((idxS x0 (IntKind.wrap .i64 (x1 + 1))).bind fun v15 =>
   (J 0 16 0 (s47_5 x0 x1 x3 (decide (143 < v15))) (e47 J m [1, 0, 1, 0, 0, 1, 0, 1, 1, 1, 1, 0, 1] [M1] (s47_5 x0 x1 x3 (decide (143 < v15))))))
   else
   (J 0 16 0 (s47_5 x0 x1 x3 false) (e47 J m [1, 0, 1, 0, 0, 1, 0, 1, 1, 1, 1, 0, 1] [M1] (s47_5 x0 x1 x3 false))))))
   else
   (bif (x2 == 244) then
   ((idxS x0 (IntKind.wrap .i64 (x1 + 1))).bind fun v16 =>
   (J 0 16 0 (s47_5 x0 x1 x3 (decide (143 < v16))) (e47 J m [1, 0, 1, 0, 0, 1, 0, 1, 1, 1, 1, 0, 1] [M1] (s47_5 x0 x1 x3 (decide (143 < v16))))))
   else
   (J 0 16 0 (s47_5 x0 x1 x3 false) (e47 J m [1, 0, 1, 0, 0, 1, 0, 1, 1, 1, 1, 0, 1] [M1] (s47_5 x0 x1 x3 false))))))) := fun J => by kernel_rfl
  exact (h jn).trans (by
    simp only [jn_eq, ref01_UTF8_j5_eq m M1 rec1 h1]
    rfl)
theorem ref01_UTF8_j3_eq (m : Nat) (M1 : Nat) (rec1 : ByteArray → Int → Option Bool) (h1 : ∀ (x0 : ByteArray) (x1 : Int), l47 jn m [1, 0, 1, 0] [] M1 (s47_1 x0 x1) = rec1 x0 x1) (x0 : ByteArray) (x1 x2 x3 : Int) : e47 jn m [1, 0, 1, 0, 0, 1, 0, 1, 1, 1] [M1] (s47_3 x0 x1 x2 x3) = ref01_UTF8_j3 m rec1 x0 x1 x2 x3 := by
  have h : ∀ J, e47 J m [1, 0, 1, 0, 0, 1, 0, 1, 1, 1] [M1] (s47_3 x0 x1 x2 x3) =
    ((ref01_tail m x0 (IntKind.wrap .i64 (x1 + 1)) x3).bind fun r1 =>
   (bif (Bool.not r1) then
   some false
   else
   (J 0 15 0 (s47_4 x0 x1 x2 x3) (e47 J m [1, 0, 1, 0, 0, 1, 0, 1, 1, 1, 1] [M1] (s47_4 x0 x1 x2 x3))))) := fun J => by kernel_rfl
  exact (h jn).trans (by
    simp only [jn_eq, ref01_UTF8_j4_eq m M1 rec1 h1]
    rfl)
theorem ref01_UTF8_j9_eq (m : Nat) (M1 : Nat) (rec1 : ByteArray → Int → Option Bool) (h1 : ∀ (x0 : ByteArray) (x1 : Int), l47 jn m [1, 0, 1, 0] [] M1 (s47_1 x0 x1) = rec1 x0 x1) (x0 : ByteArray) (x1 x2 : Int) (x3 : Bool) : e47 jn m [1, 0, 1, 0, 0, 1, 0, 1, 1, 0, 0, 1, 1, 1, 1, 1, 1, 1] [M1] (s47_9 x0 x1 x2 x3) = ref01_UTF8_j9 m rec1 x0 x1 x2 x3 := by
  have h : ∀ J, e47 J m [1, 0, 1, 0, 0, 1, 0, 1, 1, 0, 0, 1, 1, 1, 1, 1, 1, 1] [M1] (s47_9 x0 x1 x2 x3) =
    (bif x3 then
   (J 0 13 0 (s47_3 x0 x1 x2 3) (e47 J m [1, 0, 1, 0, 0, 1, 0, 1, 1, 1] [M1] (s47_3 x0 x1 x2 3)))
    else
   some false) := fun J => by kernel_rfl
  exact (h jn).trans (by
    simp only [jn_eq, ref01_UTF8_j3_eq m M1 rec1 h1]
    rfl)
theorem ref01_UTF8_j8_eq (m : Nat) (M1 : Nat) (rec1 : ByteArray → Int → Option Bool) (h1 : ∀ (x0 : ByteArray) (x1 : Int), l47 jn m [1, 0, 1, 0] [] M1 (s47_1 x0 x1) = rec1 x0 x1) (x0 : ByteArray) (x1 x2 : Int) (x3 : Bool) : e47 jn m [1, 0, 1, 0, 0, 1, 0, 1, 1, 0, 0, 1, 1, 1, 1, 1] [M1] (s47_8 x0 x1 x2 x3) = ref01_UTF8_j8 m rec1 x0 x1 x2 x3 := by
  have h : ∀ J, e47 J m [1, 0, 1, 0, 0, 1, 0, 1, 1, 0, 0, 1, 1, 1, 1, 1] [M1] (s47_8 x0 x1 x2 x3) =
    (bif x3 then
   (J 0 13 0 (s47_3 x0 x1 x2 2) (e47 J m [1, 0, 1, 0, 0, 1, 0, 1, 1, 1] [M1] (s47_3 x0 x1 x2 2)))
    else
   (bif (decide (240 ≤ x2)) then
   (J 0 12 0 (s47_9 x0 x1 x2 (decide (x2 ≤ 244))) (e47 J m [1, 0, 1, 0, 0, 1, 0, 1, 1, 0, 0, 1, 1, 1, 1, 1, 1, 1] [M1] (s47_9 x0 x1 x2 (decide (x2 ≤ 244)))))
   else
   (J 0 12 0 (s47_9 x0 x1 x2 false) (e47 J m [1, 0, 1, 0, 0, 1, 0, 1, 1, 0, 0, 1, 1, 1, 1, 1, 1, 1] [M1] (s47_9 x0 x1 x2 false))))) := fun J => by kernel_rfl
  exact (h jn).trans (by
    simp only [jn_eq, ref01_UTF8_j3_eq m M1 rec1 h1, ref01_UTF8_j9_eq m M1 rec1 h1]
    rfl)
theorem ref01_UTF8_j7_eq (m : Nat) (M1 : Nat) (rec1 : ByteArray → Int → Option Bool) (h1 : ∀ (x0 : ByteArray) (x1 : Int), l47 jn m [1, 0, 1, 0] [] M1 (s47_1 x0 x1) = rec1 x0 x1) (x0 : ByteArray) (x1 x2 : Int) (x3 : Bool) : e47 jn m [1, 0, 1, 0, 0, 1, 0, 1, 1, 0, 0, 1, 1, 1] [M1] (s47_7 x0 x1 x2 x3) = ref01_UTF8_j7 m rec1 x0 x1 x2 x3 := by
  have h : ∀ J, e47 J m [1, 0, 1, 0, 0, 1, 0, 1, 1, 0, 0, 1, 1, 1] [M1] (s47_7 x0 x1 x2 x3) =
    (bif x3 then
   (J 0 13 0 (s47_3 x0 x1 x2 1) (e47 J m [1, 0, 1, 0, 0, 1, 0, 1, 1, 1] [M1] (s47_3 x0 x1 x2 1)))
    else
   (bif (decide (224 ≤ x2)) then
   (J 0 10 0 (s47_8 x0 x1 x2 (decide (x2 ≤ 239))) (e47 J m [1, 0, 1, 0, 0, 1, 0, 1, 1, 0, 0, 1, 1, 1, 1, 1] [M1] (s47_8 x0 x1 x2 (decide (x2 ≤ 239)))))
   else
   (J 0 10 0 (s47_8 x0 x1 x2 false) (e47 J m [1, 0, 1, 0, 0, 1, 0, 1, 1, 0, 0, 1, 1, 1, 1, 1] [M1] (s47_8 x0 x1 x2 false))))) := fun J => by kernel_rfl
  exact (h jn).trans (by
    simp only [jn_eq, ref01_UTF8_j3_eq m M1 rec1 h1, ref01_UTF8_j8_eq m M1 rec1 h1]
    rfl)
theorem ref01_UTF8_j2_eq (m : Nat) (M1 : Nat) (rec1 : ByteArray → Int → Option Bool) (h1 : ∀ (x0 : ByteArray) (x1 : Int), l47 jn m [1, 0, 1, 0] [] M1 (s47_1 x0 x1) = rec1 x0 x1) (x0 : ByteArray) (x1 : Int) : e47 jn m [1, 0, 1, 0, 0, 1] [M1] (s47_2 x0 x1) = ref01_UTF8_j2 m rec1 x0 x1 := by
  have h : ∀ J, e47 J m [1, 0, 1, 0, 0, 1] [M1] (s47_2 x0 x1) =
    ((idxS x0 x1).bind fun v0 =>
   (bif (decide (v0 < 128)) then
   (J 0 13 0 (s47_3 x0 x1 v0 0) (e47 J m [1, 0, 1, 0, 0, 1, 0, 1, 1, 1] [M1] (s47_3 x0 x1 v0 0)))
   else
   (bif (decide (194 ≤ v0)) then
   (J 0 8 0 (s47_7 x0 x1 v0 (decide (v0 ≤ 223))) (e47 J m [1, 0, 1, 0, 0, 1, 0, 1, 1, 0, 0, 1, 1, 1] [M1] (s47_7 x0 x1 v0 (decide (v0 ≤ 223)))))
   else
   (J 0 8 0 (s47_7 x0 x1 v0 false) (e47 J m [1, 0, 1, 0, 0, 1, 0, 1, 1, 0, 0, 1, 1, 1] [M1] (s47_7 x0 x1 v0 false)))))) := fun J => by kernel_rfl
  exact (h jn).trans (by
    simp only [jn_eq, ref01_UTF8_j3_eq m M1 rec1 h1, ref01_UTF8_j7_eq m M1 rec1 h1]
    rfl)
theorem ref01_UTF8_j10_eq (m : Nat) : e47 jn m [1, 1] [] s47_10 = ref01_UTF8_j10 m := by
  have h : ∀ J, e47 J m [1, 1] [] s47_10 =
    some true := fun J => by kernel_rfl
  exact (h jn).trans (rfl)
theorem ref01_UTF8_l1_eq (m : Nat) : ∀ (M1 : Nat) (x0 : ByteArray) (x1 : Int), l47 jn m [1, 0, 1, 0] [] M1 (s47_1 x0 x1) = ref01_UTF8_l1 m M1 x0 x1
  | 0, _, _ => rfl
  | M1 + 1, x0, x1 => by
    have h : ∀ J, l47 J m [1, 0, 1, 0] [] (M1 + 1) (s47_1 x0 x1) =
    (bif (decide (x1 < (ByteArray.size x0 : Int))) then
   (J 0 3 0 (s47_2 x0 x1) (e47 J m [1, 0, 1, 0, 0, 1] [M1] (s47_2 x0 x1)))
    else
   (J 0 18 0 s47_10 (e47 J m [1, 1] [] s47_10))) := fun J => by kernel_rfl
    refine (h jn).trans ?_
    simp only [jn_eq, ref01_UTF8_j2_eq m M1 (ref01_UTF8_l1 m M1) (fun x0 x1 => ref01_UTF8_l1_eq m M1 x0 x1), ref01_UTF8_j10_eq m]
    rfl
theorem ref01_UTF8_j0_eq (m : Nat) (x0 : ByteArray) (x1 : Int) : e47 jn m [1, 0, 1] [] (s47_0 x0 x1) = ref01_UTF8_j0 m x0 x1 := by
  have h : ∀ J, e47 J m [1, 0, 1] [] (s47_0 x0 x1) =
    (J 1 2 (Nat.succ m) (s47_1 x0 x1) (l47 J m [1, 0, 1, 0] [] (Nat.succ m) (s47_1 x0 x1))) := fun J => by kernel_rfl
  exact (h jn).trans (by
    simp only [jn_eq, ref01_UTF8_l1_eq m]
    rfl)
theorem ref01_UTF8_eq (m : Nat) (a0 : ByteArray) : e47 jn m [] [] ⟨[(.dat 9 (.str a0))], [], 0⟩ = ref01_UTF8 (m + 1) a0 := by
  have h : ∀ J, e47 J m [] [] ⟨[(.dat 9 (.str a0))], [], 0⟩ =
    (J 0 2 0 (s47_0 a0 0) (e47 J m [1, 0, 1] [] (s47_0 a0 0))) := fun J => by kernel_rfl
  refine (h jn).trans ?_
  simp only [jn_eq, ref01_UTF8_j0_eq m]
  rfl
noncomputable def d61 (q : Res) : Option Bool := match q with
  | (.dat T0 x0, []) => bif Nat.beq T0 4 then some x0.toBool else none
  | _ => none
theorem d61_sim {b : Res} {r : Bool} (h : d61 b = some r) : Sim Tryz.prog b ((.dat 4 (.bool r)), []) := by
  unfold d61 at h
  split at h
  · obtain ⟨hc, h2⟩ := bif_some h
    cases h2
    have e0 := beq_eq hc
    subst e0
    exact Sim.of (.of (.dat (.bool Tryz.underlying4)) rfl rfl) .nil
  · cases h
noncomputable def e61 (J : Nat → Nat → Nat → St → Option Bool → Option Bool) (m : Nat) (p ms : List Nat) (σ : St) := evAt Tryz.prog env (ct m) J (m + 1) 102 39 Tryz.f102 d61 p ms σ
noncomputable def l61 (J : Nat → Nat → Nat → St → Option Bool → Option Bool) (m : Nat) (p ms : List Nat) (M : Nat) (σ : St) := loopAt Tryz.prog env (ct m) J (m + 1) 102 39 Tryz.f102 d61 p ms M σ
noncomputable def s61_6 (x0 : ByteArray) (x1 : Int) : St := ⟨tsOf [(0, (.dat 9 (.str x0))), (3, (.dat 3 (.int x1)))], [], 0⟩
noncomputable def s61_5 (x0 : ByteArray) (x1 : Int) (x2 : Bool) : St := ⟨tsOf [(0, (.dat 9 (.str x0))), (3, (.dat 3 (.int x1))), (38, (.dat 4 (.bool x2)))], [], 0⟩
noncomputable def s61_4 (x0 : ByteArray) (x1 : Int) : St := ⟨tsOf [(0, (.dat 9 (.str x0))), (3, (.dat 3 (.int x1)))], [], 0⟩
noncomputable def s61_7 : St := ⟨tsOf [], [], 0⟩
noncomputable def s61_3 (x0 : ByteArray) (x1 : Int) : St := ⟨tsOf [(0, (.dat 9 (.str x0))), (3, (.dat 3 (.int x1)))], [], 0⟩
noncomputable def s61_2 (x0 : ByteArray) (x1 : Int) : St := ⟨tsOf [(0, (.dat 9 (.str x0))), (3, (.dat 3 (.int x1)))], [], 0⟩
noncomputable def s61_1 (x0 : ByteArray) : St := ⟨tsOf [(0, (.dat 9 (.str x0)))], [], 0⟩
noncomputable def s61_0 (x0 : ByteArray) (x1 : Bool) : St := ⟨tsOf [(0, (.dat 9 (.str x0))), (16, (.dat 4 (.bool x1)))], [], 0⟩
theorem ref01_Name_j6_eq (m : Nat) (M3 : Nat) (rec3 : ByteArray → Int → Option Bool) (h3 : ∀ (x0 : ByteArray) (x1 : Int), l61 jn m [1, 1, 0, 1, 0] [] M3 (s61_3 x0 x1) = rec3 x0 x1) (x0 : ByteArray) (x1 : Int) : e61 jn m [1, 1, 0, 1, 0, 0, 1, 1] [M3] (s61_6 x0 x1) = ref01_Name_j6 m rec3 x0 x1 := by
  have h : ∀ J, e61 J m [1, 1, 0, 1, 0, 0, 1, 1] [M3] (s61_6 x0 x1) =
    (J 1 4 M3 (s61_3 x0 (IntKind.wrap .i64 (x1 + 1))) (l61 J m [1, 1, 0, 1, 0] [] M3 (s61_3 x0 (IntKind.wrap .i64 (x1 + 1))))) := fun J => by kernel_rfl
  exact (h jn).trans (by
    simp only [jn_eq, h3]
    rfl)
theorem ref01_Name_j5_eq (m : Nat) (M3 : Nat) (rec3 : ByteArray → Int → Option Bool) (h3 : ∀ (x0 : ByteArray) (x1 : Int), l61 jn m [1, 1, 0, 1, 0] [] M3 (s61_3 x0 x1) = rec3 x0 x1) (x0 : ByteArray) (x1 : Int) (x2 : Bool) : e61 jn m [1, 1, 0, 1, 0, 0, 1, 0, 0, 1] [M3] (s61_5 x0 x1 x2) = ref01_Name_j5 m rec3 x0 x1 x2 := by
  have h : ∀ J, e61 J m [1, 1, 0, 1, 0, 0, 1, 0, 0, 1] [M3] (s61_5 x0 x1 x2) =
    (bif x2 then
   some false
    else
   (J 0 5 0 (s61_6 x0 x1) (e61 J m [1, 1, 0, 1, 0, 0, 1, 1] [M3] (s61_6 x0 x1)))) := fun J => by kernel_rfl
  exact (h jn).trans (by
    simp only [jn_eq, ref01_Name_j6_eq m M3 rec3 h3]
    rfl)
theorem ref01_Name_j4_eq (m : Nat) (M3 : Nat) (rec3 : ByteArray → Int → Option Bool) (h3 : ∀ (x0 : ByteArray) (x1 : Int), l61 jn m [1, 1, 0, 1, 0] [] M3 (s61_3 x0 x1) = rec3 x0 x1) (x0 : ByteArray) (x1 : Int) : e61 jn m [1, 1, 0, 1, 0, 0, 1] [M3] (s61_4 x0 x1) = ref01_Name_j4 m rec3 x0 x1 := by
  have h : ∀ J, e61 J m [1, 1, 0, 1, 0, 0, 1] [M3] (s61_4 x0 x1) =
    ((idxS x0 x1).bind fun v0 =>
   (bif (decide (v0 < 33)) then
   (J 0 7 0 (s61_5 x0 x1 true) (e61 J m [1, 1, 0, 1, 0, 0, 1, 0, 0, 1] [M3] (s61_5 x0 x1 true)))
   else
   ((idxS x0 x1).bind fun v1 =>
   (bif (decide (126 < v1)) then
   (J 0 7 0 (s61_5 x0 x1 true) (e61 J m [1, 1, 0, 1, 0, 0, 1, 0, 0, 1] [M3] (s61_5 x0 x1 true)))
   else
   ((idxS x0 x1).bind fun v2 =>
   (J 0 7 0 (s61_5 x0 x1 (v2 == 46)) (e61 J m [1, 1, 0, 1, 0, 0, 1, 0, 0, 1] [M3] (s61_5 x0 x1 (v2 == 46))))))))) := fun J => by kernel_rfl
  exact (h jn).trans (by
    simp only [jn_eq, ref01_Name_j5_eq m M3 rec3 h3]
    rfl)
theorem ref01_Name_j7_eq (m : Nat) : e61 jn m [1, 1, 1] [] s61_7 = ref01_Name_j7 m := by
  have h : ∀ J, e61 J m [1, 1, 1] [] s61_7 =
    some true := fun J => by kernel_rfl
  exact (h jn).trans (rfl)
theorem ref01_Name_l3_eq (m : Nat) : ∀ (M3 : Nat) (x0 : ByteArray) (x1 : Int), l61 jn m [1, 1, 0, 1, 0] [] M3 (s61_3 x0 x1) = ref01_Name_l3 m M3 x0 x1
  | 0, _, _ => rfl
  | M3 + 1, x0, x1 => by
    have h : ∀ J, l61 J m [1, 1, 0, 1, 0] [] (M3 + 1) (s61_3 x0 x1) =
    (bif (decide (x1 < (ByteArray.size x0 : Int))) then
   (J 0 6 0 (s61_4 x0 x1) (e61 J m [1, 1, 0, 1, 0, 0, 1] [M3] (s61_4 x0 x1)))
    else
   (J 0 8 0 s61_7 (e61 J m [1, 1, 1] [] s61_7))) := fun J => by kernel_rfl
    refine (h jn).trans ?_
    simp only [jn_eq, ref01_Name_j4_eq m M3 (ref01_Name_l3 m M3) (fun x0 x1 => ref01_Name_l3_eq m M3 x0 x1), ref01_Name_j7_eq m]
    rfl
theorem ref01_Name_j2_eq (m : Nat) (x0 : ByteArray) (x1 : Int) : e61 jn m [1, 1, 0, 1] [] (s61_2 x0 x1) = ref01_Name_j2 m x0 x1 := by
  have h : ∀ J, e61 J m [1, 1, 0, 1] [] (s61_2 x0 x1) =
    (J 1 4 (Nat.succ m) (s61_3 x0 x1) (l61 J m [1, 1, 0, 1, 0] [] (Nat.succ m) (s61_3 x0 x1))) := fun J => by kernel_rfl
  exact (h jn).trans (by
    simp only [jn_eq, ref01_Name_l3_eq m]
    rfl)
theorem ref01_Name_j1_eq (m : Nat) (x0 : ByteArray) : e61 jn m [1, 1] [] (s61_1 x0) = ref01_Name_j1 m x0 := by
  have h : ∀ J, e61 J m [1, 1] [] (s61_1 x0) =
    (J 0 4 0 (s61_2 x0 0) (e61 J m [1, 1, 0, 1] [] (s61_2 x0 0))) := fun J => by kernel_rfl
  exact (h jn).trans (by
    simp only [jn_eq, ref01_Name_j2_eq m]
    rfl)
theorem ref01_Name_j0_eq (m : Nat) (x0 : ByteArray) (x1 : Bool) : e61 jn m [1, 0, 1] [] (s61_0 x0 x1) = ref01_Name_j0 m x0 x1 := by
  have h : ∀ J, e61 J m [1, 0, 1] [] (s61_0 x0 x1) =
    (bif x1 then
   some false
    else
   (J 0 3 0 (s61_1 x0) (e61 J m [1, 1] [] (s61_1 x0)))) := fun J => by kernel_rfl
  exact (h jn).trans (by
    simp only [jn_eq, ref01_Name_j1_eq m]
    rfl)
theorem ref01_Name_eq (m : Nat) (a0 : ByteArray) : e61 jn m [] [] ⟨[(.dat 9 (.str a0))], [], 0⟩ = ref01_Name (m + 1) a0 := by
  have h : ∀ J, e61 J m [] [] ⟨[(.dat 9 (.str a0))], [], 0⟩ =
    (bif (decide ((ByteArray.size a0 : Int) < 1)) then
   (J 0 2 0 (s61_0 a0 true) (e61 J m [1, 0, 1] [] (s61_0 a0 true)))
    else
   (bif (decide (32 < (ByteArray.size a0 : Int))) then
   (J 0 2 0 (s61_0 a0 true) (e61 J m [1, 0, 1] [] (s61_0 a0 true)))
   else
   ((idxS a0 0).bind fun v3 =>
   (J 0 2 0 (s61_0 a0 (v3 == 36)) (e61 J m [1, 0, 1] [] (s61_0 a0 (v3 == 36))))))) := fun J => by kernel_rfl
  refine (h jn).trans ?_
  simp only [jn_eq, ref01_Name_j0_eq m]
  rfl
noncomputable def d56 (q : Res) : Option Bool := match q with
  | (.dat T0 x0, []) => bif Nat.beq T0 4 then some x0.toBool else none
  | _ => none
theorem d56_sim {b : Res} {r : Bool} (h : d56 b = some r) : Sim Tryz.prog b ((.dat 4 (.bool r)), []) := by
  unfold d56 at h
  split at h
  · obtain ⟨hc, h2⟩ := bif_some h
    cases h2
    have e0 := beq_eq hc
    subst e0
    exact Sim.of (.of (.dat (.bool Tryz.underlying4)) rfl rfl) .nil
  · cases h
noncomputable def e56 (J : Nat → Nat → Nat → St → Option Bool → Option Bool) (m : Nat) (p ms : List Nat) (σ : St) := evAt Tryz.prog env (ct m) J (m + 1) 105 31 Tryz.f105 d56 p ms σ
noncomputable def l56 (J : Nat → Nat → Nat → St → Option Bool → Option Bool) (m : Nat) (p ms : List Nat) (M : Nat) (σ : St) := loopAt Tryz.prog env (ct m) J (m + 1) 105 31 Tryz.f105 d56 p ms M σ
noncomputable def s56_7 (x0 : List Dt) (x1 x2 : Int) : St := ⟨tsOf [(0, (.dat 28 (.lst x0))), (3, (.dat 3 (.int x1))), (4, (.dat 3 (.int x2)))], [], 0⟩
noncomputable def s56_6 (x0 : List Dt) (x1 x2 : Int) : St := ⟨tsOf [(0, (.dat 28 (.lst x0))), (3, (.dat 3 (.int x1))), (4, (.dat 3 (.int x2)))], [], 0⟩
noncomputable def s56_8 (x0 : List Dt) (x1 : Int) : St := ⟨tsOf [(0, (.dat 28 (.lst x0))), (3, (.dat 3 (.int x1)))], [], 0⟩
noncomputable def s56_5 (x0 : List Dt) (x1 x2 : Int) : St := ⟨tsOf [(0, (.dat 28 (.lst x0))), (3, (.dat 3 (.int x1))), (4, (.dat 3 (.int x2)))], [], 0⟩
noncomputable def s56_4 (x0 : List Dt) (x1 x2 : Int) : St := ⟨tsOf [(0, (.dat 28 (.lst x0))), (3, (.dat 3 (.int x1))), (4, (.dat 3 (.int x2)))], [], 0⟩
noncomputable def s56_3 (x0 : List Dt) (x1 : Int) : St := ⟨tsOf [(0, (.dat 28 (.lst x0))), (3, (.dat 3 (.int x1)))], [], 0⟩
noncomputable def s56_2 (x0 : List Dt) (x1 : Int) : St := ⟨tsOf [(0, (.dat 28 (.lst x0))), (3, (.dat 3 (.int x1)))], [], 0⟩
noncomputable def s56_9 : St := ⟨tsOf [], [], 0⟩
noncomputable def s56_1 (x0 : List Dt) (x1 : Int) : St := ⟨tsOf [(0, (.dat 28 (.lst x0))), (3, (.dat 3 (.int x1)))], [], 0⟩
noncomputable def s56_0 (x0 : List Dt) (x1 : Int) : St := ⟨tsOf [(0, (.dat 28 (.lst x0))), (3, (.dat 3 (.int x1)))], [], 0⟩
theorem ref14_different_j7_eq (m : Nat) (M1 : Nat) (rec1 : List Dt → Int → Option Bool) (h1 : ∀ (x0 : List Dt) (x1 : Int), l56 jn m [1, 0, 1, 0] [] M1 (s56_1 x0 x1) = rec1 x0 x1) (M5 : Nat) (rec5 : List Dt → Int → Int → Option Bool) (h5 : ∀ (x0 : List Dt) (x1 x2 : Int), l56 jn m [1, 0, 1, 0, 0, 1, 0, 0, 1, 1, 0] [M1] M5 (s56_5 x0 x1 x2) = rec5 x0 x1 x2) (x0 : List Dt) (x1 x2 : Int) : e56 jn m [1, 0, 1, 0, 0, 1, 0, 0, 1, 1, 0, 0, 1, 1] [M1, M5] (s56_7 x0 x1 x2) = ref14_different_j7 m rec1 rec5 x0 x1 x2 := by
  have h : ∀ J, e56 J m [1, 0, 1, 0, 0, 1, 0, 0, 1, 1, 0, 0, 1, 1] [M1, M5] (s56_7 x0 x1 x2) =
    (J 1 7 M5 (s56_5 x0 x1 (IntKind.wrap .i64 (x2 + 1))) (l56 J m [1, 0, 1, 0, 0, 1, 0, 0, 1, 1, 0] [M1] M5 (s56_5 x0 x1 (IntKind.wrap .i64 (x2 + 1))))) := fun J => by kernel_rfl
  exact (h jn).trans (by
    simp only [jn_eq, h5]
    rfl)
theorem ref14_different_j6_eq (m : Nat) (M1 : Nat) (rec1 : List Dt → Int → Option Bool) (h1 : ∀ (x0 : List Dt) (x1 : Int), l56 jn m [1, 0, 1, 0] [] M1 (s56_1 x0 x1) = rec1 x0 x1) (M5 : Nat) (rec5 : List Dt → Int → Int → Option Bool) (h5 : ∀ (x0 : List Dt) (x1 x2 : Int), l56 jn m [1, 0, 1, 0, 0, 1, 0, 0, 1, 1, 0] [M1] M5 (s56_5 x0 x1 x2) = rec5 x0 x1 x2) (x0 : List Dt) (x1 x2 : Int) : e56 jn m [1, 0, 1, 0, 0, 1, 0, 0, 1, 1, 0, 0, 1] [M1, M5] (s56_6 x0 x1 x2) = ref14_different_j6 m rec1 rec5 x0 x1 x2 := by
  have h : ∀ J, e56 J m [1, 0, 1, 0, 0, 1, 0, 0, 1, 1, 0, 0, 1] [M1, M5] (s56_6 x0 x1 x2) =
    ((idx x0 x2).bind fun v2 =>
   ((idx x0 x1).bind fun v3 =>
   (bif ((ByteArray.toList (Dt.toStr v2)) == (ByteArray.toList (Dt.toStr v3))) then
   some false
   else
   (J 0 8 0 (s56_7 x0 x1 x2) (e56 J m [1, 0, 1, 0, 0, 1, 0, 0, 1, 1, 0, 0, 1, 1] [M1, M5] (s56_7 x0 x1 x2)))))) := fun J => by kernel_rfl
  exact (h jn).trans (by
    simp only [jn_eq, ref14_different_j7_eq m M1 rec1 h1 M5 rec5 h5]
    rfl)
theorem ref14_different_j8_eq (m : Nat) (M1 : Nat) (rec1 : List Dt → Int → Option Bool) (h1 : ∀ (x0 : List Dt) (x1 : Int), l56 jn m [1, 0, 1, 0] [] M1 (s56_1 x0 x1) = rec1 x0 x1) (x0 : List Dt) (x1 : Int) : e56 jn m [1, 0, 1, 0, 0, 1, 1] [M1] (s56_8 x0 x1) = ref14_different_j8 m rec1 x0 x1 := by
  have h : ∀ J, e56 J m [1, 0, 1, 0, 0, 1, 1] [M1] (s56_8 x0 x1) =
    (J 1 2 M1 (s56_1 x0 (IntKind.wrap .i64 (x1 + 1))) (l56 J m [1, 0, 1, 0] [] M1 (s56_1 x0 (IntKind.wrap .i64 (x1 + 1))))) := fun J => by kernel_rfl
  exact (h jn).trans (by
    simp only [jn_eq, h1]
    rfl)
theorem ref14_different_l5_eq (m : Nat) (M1 : Nat) (rec1 : List Dt → Int → Option Bool) (h1 : ∀ (x0 : List Dt) (x1 : Int), l56 jn m [1, 0, 1, 0] [] M1 (s56_1 x0 x1) = rec1 x0 x1) : ∀ (M5 : Nat) (x0 : List Dt) (x1 x2 : Int), l56 jn m [1, 0, 1, 0, 0, 1, 0, 0, 1, 1, 0] [M1] M5 (s56_5 x0 x1 x2) = ref14_different_l5 m rec1 M5 x0 x1 x2
  | 0, _, _, _ => rfl
  | M5 + 1, x0, x1, x2 => by
    have h : ∀ J, l56 J m [1, 0, 1, 0, 0, 1, 0, 0, 1, 1, 0] [M1] (M5 + 1) (s56_5 x0 x1 x2) =
    (bif (decide (x2 < x1)) then
   (J 0 9 0 (s56_6 x0 x1 x2) (e56 J m [1, 0, 1, 0, 0, 1, 0, 0, 1, 1, 0, 0, 1] [M1, M5] (s56_6 x0 x1 x2)))
    else
   (J 0 3 0 (s56_8 x0 x1) (e56 J m [1, 0, 1, 0, 0, 1, 1] [M1] (s56_8 x0 x1)))) := fun J => by kernel_rfl
    refine (h jn).trans ?_
    simp only [jn_eq, ref14_different_j6_eq m M1 rec1 h1 M5 (ref14_different_l5 m rec1 M5) (fun x0 x1 x2 => ref14_different_l5_eq m M1 rec1 h1 M5 x0 x1 x2), ref14_different_j8_eq m M1 rec1 h1]
    rfl
theorem ref14_different_j4_eq (m : Nat) (M1 : Nat) (rec1 : List Dt → Int → Option Bool) (h1 : ∀ (x0 : List Dt) (x1 : Int), l56 jn m [1, 0, 1, 0] [] M1 (s56_1 x0 x1) = rec1 x0 x1) (x0 : List Dt) (x1 x2 : Int) : e56 jn m [1, 0, 1, 0, 0, 1, 0, 0, 1, 1] [M1] (s56_4 x0 x1 x2) = ref14_different_j4 m rec1 x0 x1 x2 := by
  have h : ∀ J, e56 J m [1, 0, 1, 0, 0, 1, 0, 0, 1, 1] [M1] (s56_4 x0 x1 x2) =
    (J 1 7 (Nat.succ m) (s56_5 x0 x1 x2) (l56 J m [1, 0, 1, 0, 0, 1, 0, 0, 1, 1, 0] [M1] (Nat.succ m) (s56_5 x0 x1 x2))) := fun J => by kernel_rfl
  exact (h jn).trans (by
    simp only [jn_eq, ref14_different_l5_eq m M1 rec1 h1]
    rfl)
theorem ref14_different_j3_eq (m : Nat) (M1 : Nat) (rec1 : List Dt → Int → Option Bool) (h1 : ∀ (x0 : List Dt) (x1 : Int), l56 jn m [1, 0, 1, 0] [] M1 (s56_1 x0 x1) = rec1 x0 x1) (x0 : List Dt) (x1 : Int) : e56 jn m [1, 0, 1, 0, 0, 1, 0, 0, 1] [M1] (s56_3 x0 x1) = ref14_different_j3 m rec1 x0 x1 := by
  have h : ∀ J, e56 J m [1, 0, 1, 0, 0, 1, 0, 0, 1] [M1] (s56_3 x0 x1) =
    (J 0 7 0 (s56_4 x0 x1 0) (e56 J m [1, 0, 1, 0, 0, 1, 0, 0, 1, 1] [M1] (s56_4 x0 x1 0))) := fun J => by kernel_rfl
  exact (h jn).trans (by
    simp only [jn_eq, ref14_different_j4_eq m M1 rec1 h1]
    rfl)
theorem ref14_different_j2_eq (m : Nat) (M1 : Nat) (rec1 : List Dt → Int → Option Bool) (h1 : ∀ (x0 : List Dt) (x1 : Int), l56 jn m [1, 0, 1, 0] [] M1 (s56_1 x0 x1) = rec1 x0 x1) (x0 : List Dt) (x1 : Int) : e56 jn m [1, 0, 1, 0, 0, 1] [M1] (s56_2 x0 x1) = ref14_different_j2 m rec1 x0 x1 := by
  have h : ∀ J, e56 J m [1, 0, 1, 0, 0, 1] [M1] (s56_2 x0 x1) =
    ((idx x0 x1).bind fun v0 =>
   ((ref01_Name m (Dt.toStr v0)).bind fun r1 =>
   (bif (Bool.not r1) then
   some false
   else
   (J 0 6 0 (s56_3 x0 x1) (e56 J m [1, 0, 1, 0, 0, 1, 0, 0, 1] [M1] (s56_3 x0 x1)))))) := fun J => by kernel_rfl
  exact (h jn).trans (by
    simp only [jn_eq, ref14_different_j3_eq m M1 rec1 h1]
    rfl)
theorem ref14_different_j9_eq (m : Nat) : e56 jn m [1, 1] [] s56_9 = ref14_different_j9 m := by
  have h : ∀ J, e56 J m [1, 1] [] s56_9 =
    some true := fun J => by kernel_rfl
  exact (h jn).trans (rfl)
theorem ref14_different_l1_eq (m : Nat) : ∀ (M1 : Nat) (x0 : List Dt) (x1 : Int), l56 jn m [1, 0, 1, 0] [] M1 (s56_1 x0 x1) = ref14_different_l1 m M1 x0 x1
  | 0, _, _ => rfl
  | M1 + 1, x0, x1 => by
    have h : ∀ J, l56 J m [1, 0, 1, 0] [] (M1 + 1) (s56_1 x0 x1) =
    (bif (decide (x1 < (List.length x0 : Int))) then
   (J 0 4 0 (s56_2 x0 x1) (e56 J m [1, 0, 1, 0, 0, 1] [M1] (s56_2 x0 x1)))
    else
   (J 0 11 0 s56_9 (e56 J m [1, 1] [] s56_9))) := fun J => by kernel_rfl
    refine (h jn).trans ?_
    simp only [jn_eq, ref14_different_j2_eq m M1 (ref14_different_l1 m M1) (fun x0 x1 => ref14_different_l1_eq m M1 x0 x1), ref14_different_j9_eq m]
    rfl
theorem ref14_different_j0_eq (m : Nat) (x0 : List Dt) (x1 : Int) : e56 jn m [1, 0, 1] [] (s56_0 x0 x1) = ref14_different_j0 m x0 x1 := by
  have h : ∀ J, e56 J m [1, 0, 1] [] (s56_0 x0 x1) =
    (J 1 2 (Nat.succ m) (s56_1 x0 x1) (l56 J m [1, 0, 1, 0] [] (Nat.succ m) (s56_1 x0 x1))) := fun J => by kernel_rfl
  exact (h jn).trans (by
    simp only [jn_eq, ref14_different_l1_eq m]
    rfl)
theorem ref14_different_eq (m : Nat) (a0 : List Dt) : e56 jn m [] [] ⟨[(.dat 28 (.lst a0))], [], 0⟩ = ref14_different (m + 1) a0 := by
  have h : ∀ J, e56 J m [] [] ⟨[(.dat 28 (.lst a0))], [], 0⟩ =
    (J 0 2 0 (s56_0 a0 0) (e56 J m [1, 0, 1] [] (s56_0 a0 0))) := fun J => by kernel_rfl
  refine (h jn).trans ?_
  simp only [jn_eq, ref14_different_j0_eq m]
  rfl
noncomputable def d62 (q : Res) : Option Bool := match q with
  | (.dat T0 x0, []) => bif Nat.beq T0 4 then some x0.toBool else none
  | _ => none
theorem d62_sim {b : Res} {r : Bool} (h : d62 b = some r) : Sim Tryz.prog b ((.dat 4 (.bool r)), []) := by
  unfold d62 at h
  split at h
  · obtain ⟨hc, h2⟩ := bif_some h
    cases h2
    have e0 := beq_eq hc
    subst e0
    exact Sim.of (.of (.dat (.bool Tryz.underlying4)) rfl rfl) .nil
  · cases h
noncomputable def e62 (J : Nat → Nat → Nat → St → Option Bool → Option Bool) (m : Nat) (p ms : List Nat) (σ : St) := evAt Tryz.prog env (ct m) J (m + 1) 103 28 Tryz.f103 d62 p ms σ
noncomputable def l62 (J : Nat → Nat → Nat → St → Option Bool → Option Bool) (m : Nat) (p ms : List Nat) (M : Nat) (σ : St) := loopAt Tryz.prog env (ct m) J (m + 1) 103 28 Tryz.f103 d62 p ms M σ
noncomputable def s62_6 (x0 : ByteArray) (x1 : Int) : St := ⟨tsOf [(0, (.dat 9 (.str x0))), (3, (.dat 3 (.int x1)))], [], 0⟩
noncomputable def s62_5 (x0 : ByteArray) (x1 : Int) (x2 : Bool) : St := ⟨tsOf [(0, (.dat 9 (.str x0))), (3, (.dat 3 (.int x1))), (27, (.dat 4 (.bool x2)))], [], 0⟩
noncomputable def s62_4 (x0 : ByteArray) (x1 : Int) : St := ⟨tsOf [(0, (.dat 9 (.str x0))), (3, (.dat 3 (.int x1)))], [], 0⟩
noncomputable def s62_7 : St := ⟨tsOf [], [], 0⟩
noncomputable def s62_3 (x0 : ByteArray) (x1 : Int) : St := ⟨tsOf [(0, (.dat 9 (.str x0))), (3, (.dat 3 (.int x1)))], [], 0⟩
noncomputable def s62_2 (x0 : ByteArray) (x1 : Int) : St := ⟨tsOf [(0, (.dat 9 (.str x0))), (3, (.dat 3 (.int x1)))], [], 0⟩
noncomputable def s62_1 (x0 : ByteArray) : St := ⟨tsOf [(0, (.dat 9 (.str x0)))], [], 0⟩
noncomputable def s62_0 (x0 : ByteArray) (x1 : Bool) : St := ⟨tsOf [(0, (.dat 9 (.str x0))), (11, (.dat 4 (.bool x1)))], [], 0⟩
theorem ref01_wide_j6_eq (m : Nat) (M3 : Nat) (rec3 : ByteArray → Int → Option Bool) (h3 : ∀ (x0 : ByteArray) (x1 : Int), l62 jn m [1, 1, 0, 1, 0] [] M3 (s62_3 x0 x1) = rec3 x0 x1) (x0 : ByteArray) (x1 : Int) : e62 jn m [1, 1, 0, 1, 0, 0, 1, 1] [M3] (s62_6 x0 x1) = ref01_wide_j6 m rec3 x0 x1 := by
  have h : ∀ J, e62 J m [1, 1, 0, 1, 0, 0, 1, 1] [M3] (s62_6 x0 x1) =
    (J 1 4 M3 (s62_3 x0 (IntKind.wrap .i64 (x1 + 1))) (l62 J m [1, 1, 0, 1, 0] [] M3 (s62_3 x0 (IntKind.wrap .i64 (x1 + 1))))) := fun J => by kernel_rfl
  exact (h jn).trans (by
    simp only [jn_eq, h3]
    rfl)
theorem ref01_wide_j5_eq (m : Nat) (M3 : Nat) (rec3 : ByteArray → Int → Option Bool) (h3 : ∀ (x0 : ByteArray) (x1 : Int), l62 jn m [1, 1, 0, 1, 0] [] M3 (s62_3 x0 x1) = rec3 x0 x1) (x0 : ByteArray) (x1 : Int) (x2 : Bool) : e62 jn m [1, 1, 0, 1, 0, 0, 1, 0, 0, 1] [M3] (s62_5 x0 x1 x2) = ref01_wide_j5 m rec3 x0 x1 x2 := by
  have h : ∀ J, e62 J m [1, 1, 0, 1, 0, 0, 1, 0, 0, 1] [M3] (s62_5 x0 x1 x2) =
    (bif x2 then
   some false
    else
   (J 0 5 0 (s62_6 x0 x1) (e62 J m [1, 1, 0, 1, 0, 0, 1, 1] [M3] (s62_6 x0 x1)))) := fun J => by kernel_rfl
  exact (h jn).trans (by
    simp only [jn_eq, ref01_wide_j6_eq m M3 rec3 h3]
    rfl)
theorem ref01_wide_j4_eq (m : Nat) (M3 : Nat) (rec3 : ByteArray → Int → Option Bool) (h3 : ∀ (x0 : ByteArray) (x1 : Int), l62 jn m [1, 1, 0, 1, 0] [] M3 (s62_3 x0 x1) = rec3 x0 x1) (x0 : ByteArray) (x1 : Int) : e62 jn m [1, 1, 0, 1, 0, 0, 1] [M3] (s62_4 x0 x1) = ref01_wide_j4 m rec3 x0 x1 := by
  have h : ∀ J, e62 J m [1, 1, 0, 1, 0, 0, 1] [M3] (s62_4 x0 x1) =
    ((idxS x0 x1).bind fun v0 =>
   (bif (decide (v0 < 32)) then
   (J 0 7 0 (s62_5 x0 x1 true) (e62 J m [1, 1, 0, 1, 0, 0, 1, 0, 0, 1] [M3] (s62_5 x0 x1 true)))
   else
   ((idxS x0 x1).bind fun v1 =>
   (J 0 7 0 (s62_5 x0 x1 (decide (126 < v1))) (e62 J m [1, 1, 0, 1, 0, 0, 1, 0, 0, 1] [M3] (s62_5 x0 x1 (decide (126 < v1)))))))) := fun J => by kernel_rfl
  exact (h jn).trans (by
    simp only [jn_eq, ref01_wide_j5_eq m M3 rec3 h3]
    rfl)
theorem ref01_wide_j7_eq (m : Nat) : e62 jn m [1, 1, 1] [] s62_7 = ref01_wide_j7 m := by
  have h : ∀ J, e62 J m [1, 1, 1] [] s62_7 =
    some true := fun J => by kernel_rfl
  exact (h jn).trans (rfl)
theorem ref01_wide_l3_eq (m : Nat) : ∀ (M3 : Nat) (x0 : ByteArray) (x1 : Int), l62 jn m [1, 1, 0, 1, 0] [] M3 (s62_3 x0 x1) = ref01_wide_l3 m M3 x0 x1
  | 0, _, _ => rfl
  | M3 + 1, x0, x1 => by
    have h : ∀ J, l62 J m [1, 1, 0, 1, 0] [] (M3 + 1) (s62_3 x0 x1) =
    (bif (decide (x1 < (ByteArray.size x0 : Int))) then
   (J 0 6 0 (s62_4 x0 x1) (e62 J m [1, 1, 0, 1, 0, 0, 1] [M3] (s62_4 x0 x1)))
    else
   (J 0 8 0 s62_7 (e62 J m [1, 1, 1] [] s62_7))) := fun J => by kernel_rfl
    refine (h jn).trans ?_
    simp only [jn_eq, ref01_wide_j4_eq m M3 (ref01_wide_l3 m M3) (fun x0 x1 => ref01_wide_l3_eq m M3 x0 x1), ref01_wide_j7_eq m]
    rfl
theorem ref01_wide_j2_eq (m : Nat) (x0 : ByteArray) (x1 : Int) : e62 jn m [1, 1, 0, 1] [] (s62_2 x0 x1) = ref01_wide_j2 m x0 x1 := by
  have h : ∀ J, e62 J m [1, 1, 0, 1] [] (s62_2 x0 x1) =
    (J 1 4 (Nat.succ m) (s62_3 x0 x1) (l62 J m [1, 1, 0, 1, 0] [] (Nat.succ m) (s62_3 x0 x1))) := fun J => by kernel_rfl
  exact (h jn).trans (by
    simp only [jn_eq, ref01_wide_l3_eq m]
    rfl)
theorem ref01_wide_j1_eq (m : Nat) (x0 : ByteArray) : e62 jn m [1, 1] [] (s62_1 x0) = ref01_wide_j1 m x0 := by
  have h : ∀ J, e62 J m [1, 1] [] (s62_1 x0) =
    (J 0 4 0 (s62_2 x0 0) (e62 J m [1, 1, 0, 1] [] (s62_2 x0 0))) := fun J => by kernel_rfl
  exact (h jn).trans (by
    simp only [jn_eq, ref01_wide_j2_eq m]
    rfl)
theorem ref01_wide_j0_eq (m : Nat) (x0 : ByteArray) (x1 : Bool) : e62 jn m [1, 0, 1] [] (s62_0 x0 x1) = ref01_wide_j0 m x0 x1 := by
  have h : ∀ J, e62 J m [1, 0, 1] [] (s62_0 x0 x1) =
    (bif x1 then
   some false
    else
   (J 0 3 0 (s62_1 x0) (e62 J m [1, 1] [] (s62_1 x0)))) := fun J => by kernel_rfl
  exact (h jn).trans (by
    simp only [jn_eq, ref01_wide_j1_eq m]
    rfl)
theorem ref01_wide_eq (m : Nat) (a0 : ByteArray) : e62 jn m [] [] ⟨[(.dat 9 (.str a0))], [], 0⟩ = ref01_wide (m + 1) a0 := by
  have h : ∀ J, e62 J m [] [] ⟨[(.dat 9 (.str a0))], [], 0⟩ =
    (bif (decide ((ByteArray.size a0 : Int) < 1)) then
   (J 0 2 0 (s62_0 a0 true) (e62 J m [1, 0, 1] [] (s62_0 a0 true)))
    else
   (J 0 2 0 (s62_0 a0 (decide (128 < (ByteArray.size a0 : Int)))) (e62 J m [1, 0, 1] [] (s62_0 a0 (decide (128 < (ByteArray.size a0 : Int))))))) := fun J => by kernel_rfl
  refine (h jn).trans ?_
  simp only [jn_eq, ref01_wide_j0_eq m]
  rfl
noncomputable def d31 (q : Res) : Option Bool := match q with
  | (.dat T0 x0, []) => bif Nat.beq T0 4 then some x0.toBool else none
  | _ => none
theorem d31_sim {b : Res} {r : Bool} (h : d31 b = some r) : Sim Tryz.prog b ((.dat 4 (.bool r)), []) := by
  unfold d31 at h
  split at h
  · obtain ⟨hc, h2⟩ := bif_some h
    cases h2
    have e0 := beq_eq hc
    subst e0
    exact Sim.of (.of (.dat (.bool Tryz.underlying4)) rfl rfl) .nil
  · cases h
noncomputable def e31 (J : Nat → Nat → Nat → St → Option Bool → Option Bool) (m : Nat) (p ms : List Nat) (σ : St) := evAt Tryz.prog env (ct m) J (m + 1) 40 138 Tryz.f40 d31 p ms σ
noncomputable def l31 (J : Nat → Nat → Nat → St → Option Bool → Option Bool) (m : Nat) (p ms : List Nat) (M : Nat) (σ : St) := loopAt Tryz.prog env (ct m) J (m + 1) 40 138 Tryz.f40 d31 p ms M σ
noncomputable def s31_10 (x0 : Bool) (x1 : Int) (x2 : Dt) : St := ⟨tsOf [(1, (.dat 4 (.bool x0))), (2, (.ptr 0 [] 0)), (7, (.dat 3 (.int x1)))], [(.box 25 (.dat 25 x2))], 0⟩
noncomputable def s31_9 (x0 : Bool) (x1 : Int) (x2 : Dt) : St := ⟨tsOf [(1, (.dat 4 (.bool x0))), (2, (.ptr 0 [] 0)), (7, (.dat 3 (.int x1)))], [(.box 25 (.dat 25 x2))], 0⟩
noncomputable def s31_11 (x0 : Bool) (x1 : Dt) : St := ⟨tsOf [(1, (.dat 4 (.bool x0))), (2, (.ptr 0 [] 0))], [(.box 25 (.dat 25 x1))], 0⟩
noncomputable def s31_8 (x0 : Bool) (x1 : Int) (x2 : Dt) : St := ⟨tsOf [(1, (.dat 4 (.bool x0))), (2, (.ptr 0 [] 0)), (7, (.dat 3 (.int x1)))], [(.box 25 (.dat 25 x2))], 0⟩
noncomputable def s31_7 (x0 : Bool) (x1 : Int) (x2 : Dt) : St := ⟨tsOf [(1, (.dat 4 (.bool x0))), (2, (.ptr 0 [] 0)), (7, (.dat 3 (.int x1)))], [(.box 25 (.dat 25 x2))], 0⟩
noncomputable def s31_6 (x0 : Bool) (x1 : Dt) : St := ⟨tsOf [(1, (.dat 4 (.bool x0))), (2, (.ptr 0 [] 0))], [(.box 25 (.dat 25 x1))], 0⟩
noncomputable def s31_5 (x0 : Bool) (x1 : Dt) : St := ⟨tsOf [(1, (.dat 4 (.bool x0))), (2, (.ptr 0 [] 0))], [(.box 25 (.dat 25 x1))], 0⟩
noncomputable def s31_4 (x0 x1 : Bool) (x2 : Dt) : St := ⟨tsOf [(1, (.dat 4 (.bool x0))), (2, (.ptr 0 [] 0)), (79, (.dat 4 (.bool x1)))], [(.box 25 (.dat 25 x2))], 0⟩
noncomputable def s31_3 (x0 x1 x2 : Bool) (x3 : Dt) : St := ⟨tsOf [(1, (.dat 4 (.bool x0))), (2, (.ptr 0 [] 0)), (5, (.dat 4 (.bool x1))), (6, (.dat 4 (.bool x2)))], [(.box 25 (.dat 25 x3))], 0⟩
noncomputable def s31_2 (x0 x1 : Bool) (x2 : Dt) : St := ⟨tsOf [(1, (.dat 4 (.bool x0))), (2, (.ptr 0 [] 0)), (5, (.dat 4 (.bool x1)))], [(.box 25 (.dat 25 x2))], 0⟩
noncomputable def s31_1 (x0 : Bool) (x1 : Dt) : St := ⟨tsOf [(1, (.dat 4 (.bool x0))), (2, (.ptr 0 [] 0))], [(.box 25 (.dat 25 x1))], 0⟩
noncomputable def s31_0 (x0 x1 : Bool) (x2 : Dt) : St := ⟨tsOf [(1, (.dat 4 (.bool x0))), (2, (.ptr 0 [] 0)), (27, (.dat 4 (.bool x1)))], [(.box 25 (.dat 25 x2))], 0⟩
theorem ref01_formed_j10_eq (m : Nat) (M8 : Nat) (rec8 : Bool → Int → Dt → Option Bool) (h8 : ∀ (x0 : Bool) (x1 : Int) (x2 : Dt), l31 jn m [1, 1, 1, 1, 1, 1, 0, 1, 0] [] M8 (s31_8 x0 x1 x2) = rec8 x0 x1 x2) (x0 : Bool) (x1 : Int) (x2 : Dt) : e31 jn m [1, 1, 1, 1, 1, 1, 0, 1, 0, 0, 1, 1] [M8] (s31_10 x0 x1 x2) = ref01_formed_j10 m (ref01_formed m) (ref01_fields m) rec8 x0 x1 x2 := by
  have h : ∀ J, e31 J m [1, 1, 1, 1, 1, 1, 0, 1, 0, 0, 1, 1] [M8] (s31_10 x0 x1 x2) =
    (J 1 19 M8 (s31_8 x0 (IntKind.wrap .i64 (x1 + 1)) x2) (l31 J m [1, 1, 1, 1, 1, 1, 0, 1, 0] [] M8 (s31_8 x0 (IntKind.wrap .i64 (x1 + 1)) x2))) := fun J => by kernel_rfl
  exact (h jn).trans (by
    simp only [jn_eq, h8]
    rfl)
theorem ref01_formed_j9_eq (m : Nat) (M8 : Nat) (rec8 : Bool → Int → Dt → Option Bool) (h8 : ∀ (x0 : Bool) (x1 : Int) (x2 : Dt), l31 jn m [1, 1, 1, 1, 1, 1, 0, 1, 0] [] M8 (s31_8 x0 x1 x2) = rec8 x0 x1 x2) (x0 : Bool) (x1 : Int) (x2 : Dt) : e31 jn m [1, 1, 1, 1, 1, 1, 0, 1, 0, 0, 1] [M8] (s31_9 x0 x1 x2) = ref01_formed_j9 m (ref01_formed m) (ref01_fields m) rec8 x0 x1 x2 := by
  have h : ∀ J, e31 J m [1, 1, 1, 1, 1, 1, 0, 1, 0, 0, 1] [M8] (s31_9 x0 x1 x2) =
    ((idx (Dt.L x2 3) x1).bind fun v1 =>
   ((ref01_formed m v1 x0).bind fun r2 =>
   (bif (Bool.not r2) then
   some false
   else
   (J 0 20 0 (s31_10 x0 x1 x2) (e31 J m [1, 1, 1, 1, 1, 1, 0, 1, 0, 0, 1, 1] [M8] (s31_10 x0 x1 x2)))))) := fun J => by kernel_rfl
  exact (h jn).trans (by
    simp only [jn_eq, ref01_formed_j10_eq m M8 rec8 h8]
    rfl)
theorem ref01_formed_j11_eq (m : Nat) (x0 : Bool) (x1 : Dt) : e31 jn m [1, 1, 1, 1, 1, 1, 1] [] (s31_11 x0 x1) = ref01_formed_j11 m (ref01_formed m) (ref01_fields m) x0 x1 := by
  have h : ∀ J, e31 J m [1, 1, 1, 1, 1, 1, 1] [] (s31_11 x0 x1) =
    ((ref01_fields m x1 x0).bind fun r3 =>
   some r3) := fun J => by kernel_rfl
  exact (h jn).trans (rfl)
theorem ref01_formed_l8_eq (m : Nat) : ∀ (M8 : Nat) (x0 : Bool) (x1 : Int) (x2 : Dt), l31 jn m [1, 1, 1, 1, 1, 1, 0, 1, 0] [] M8 (s31_8 x0 x1 x2) = ref01_formed_l8 m (ref01_formed m) (ref01_fields m) M8 x0 x1 x2
  | 0, _, _, _ => rfl
  | M8 + 1, x0, x1, x2 => by
    have h : ∀ J, l31 J m [1, 1, 1, 1, 1, 1, 0, 1, 0] [] (M8 + 1) (s31_8 x0 x1 x2) =
    (bif (decide (x1 < (List.length (Dt.L x2 3) : Int))) then
   (J 0 21 0 (s31_9 x0 x1 x2) (e31 J m [1, 1, 1, 1, 1, 1, 0, 1, 0, 0, 1] [M8] (s31_9 x0 x1 x2)))
    else
   (J 0 23 0 (s31_11 x0 x2) (e31 J m [1, 1, 1, 1, 1, 1, 1] [] (s31_11 x0 x2)))) := fun J => by kernel_rfl
    refine (h jn).trans ?_
    simp only [jn_eq, ref01_formed_j9_eq m M8 (ref01_formed_l8 m (ref01_formed m) (ref01_fields m) M8) (fun x0 x1 x2 => ref01_formed_l8_eq m M8 x0 x1 x2), ref01_formed_j11_eq m]
    rfl
theorem ref01_formed_j7_eq (m : Nat) (x0 : Bool) (x1 : Int) (x2 : Dt) : e31 jn m [1, 1, 1, 1, 1, 1, 0, 1] [] (s31_7 x0 x1 x2) = ref01_formed_j7 m (ref01_formed m) (ref01_fields m) x0 x1 x2 := by
  have h : ∀ J, e31 J m [1, 1, 1, 1, 1, 1, 0, 1] [] (s31_7 x0 x1 x2) =
    (J 1 19 (Nat.succ m) (s31_8 x0 x1 x2) (l31 J m [1, 1, 1, 1, 1, 1, 0, 1, 0] [] (Nat.succ m) (s31_8 x0 x1 x2))) := fun J => by kernel_rfl
  exact (h jn).trans (by
    simp only [jn_eq, ref01_formed_l8_eq m]
    rfl)
theorem ref01_formed_j6_eq (m : Nat) (x0 : Bool) (x1 : Dt) : e31 jn m [1, 1, 1, 1, 1, 1] [] (s31_6 x0 x1) = ref01_formed_j6 m (ref01_formed m) (ref01_fields m) x0 x1 := by
  have h : ∀ J, e31 J m [1, 1, 1, 1, 1, 1] [] (s31_6 x0 x1) =
    (J 0 19 0 (s31_7 x0 0 x1) (e31 J m [1, 1, 1, 1, 1, 1, 0, 1] [] (s31_7 x0 0 x1))) := fun J => by kernel_rfl
  exact (h jn).trans (by
    simp only [jn_eq, ref01_formed_j7_eq m]
    rfl)
theorem ref01_formed_j5_eq (m : Nat) (x0 : Bool) (x1 : Dt) : e31 jn m [1, 1, 1, 1, 1] [] (s31_5 x0 x1) = ref01_formed_j5 m (ref01_formed m) (ref01_fields m) x0 x1 := by
  have h : ∀ J, e31 J m [1, 1, 1, 1, 1] [] (s31_5 x0 x1) =
    (bif ((Dt.I x1 0) == 9) then
   (bif ((Dt.I x1 1) == 0) then
   some true
   else
   some ((Dt.I x1 1) == 1))
    else
   (bif ((Dt.I x1 0) == 10) then
   some (decide (0 ≤ (Dt.I x1 1)))
   else
   (bif ((Dt.I x1 0) == 4) then
   (bif (decide ((ByteArray.size (Dt.S x1 2) : Int) ≤ 4096)) then
   ((ref01_UTF8 m (Dt.S x1 2)).bind fun r0 =>
   some r0)
   else
   some false)
   else
   (bif ((Dt.I x1 0) == 7) then
   some (decide ((ByteArray.size (Dt.S x1 2) : Int) ≤ 4096))
   else
   (bif ((Dt.I x1 0) == 8) then
   some ((ByteArray.size (Dt.S x1 2) : Int) == 12)
   else
   (J 0 18 0 (s31_6 x0 x1) (e31 J m [1, 1, 1, 1, 1, 1] [] (s31_6 x0 x1)))))))) := fun J => by kernel_rfl
  exact (h jn).trans (by
    simp only [jn_eq, ref01_formed_j6_eq m]
    rfl)
theorem ref01_formed_j4_eq (m : Nat) (x0 x1 : Bool) (x2 : Dt) : e31 jn m [1, 1, 1, 1, 0, 1] [] (s31_4 x0 x1 x2) = ref01_formed_j4 m (ref01_formed m) (ref01_fields m) x0 x1 x2 := by
  have h : ∀ J, e31 J m [1, 1, 1, 1, 0, 1] [] (s31_4 x0 x1 x2) =
    (bif x1 then
   some false
    else
   (J 0 7 0 (s31_5 x0 x2) (e31 J m [1, 1, 1, 1, 1] [] (s31_5 x0 x2)))) := fun J => by kernel_rfl
  exact (h jn).trans (by
    simp only [jn_eq, ref01_formed_j5_eq m]
    rfl)
theorem ref01_formed_j3_eq (m : Nat) (x0 x1 x2 : Bool) (x3 : Dt) : e31 jn m [1, 1, 1, 1] [] (s31_3 x0 x1 x2 x3) = ref01_formed_j3 m (ref01_formed m) (ref01_fields m) x0 x1 x2 x3 := by
  have h : ∀ J, e31 J m [1, 1, 1, 1] [] (s31_3 x0 x1 x2 x3) =
    (bif (Bool.not x1) then
   (bif (Bool.not ((ByteArray.toList (Dt.S x3 2)) == [])) then
   (J 0 6 0 (s31_4 x0 true x3) (e31 J m [1, 1, 1, 1, 0, 1] [] (s31_4 x0 true x3)))
   else
   (bif (Bool.not x2) then
   (bif ((Dt.I x3 1) != 0) then
   (J 0 6 0 (s31_4 x0 true x3) (e31 J m [1, 1, 1, 1, 0, 1] [] (s31_4 x0 true x3)))
   else
   (bif (decide ((Dt.I x3 0) < 1)) then
   (J 0 6 0 (s31_4 x0 true x3) (e31 J m [1, 1, 1, 1, 0, 1] [] (s31_4 x0 true x3)))
   else
   (J 0 6 0 (s31_4 x0 (decide (11 < (Dt.I x3 0))) x3) (e31 J m [1, 1, 1, 1, 0, 1] [] (s31_4 x0 (decide (11 < (Dt.I x3 0))) x3)))))
   else
   (bif (decide ((Dt.I x3 0) < 1)) then
   (J 0 6 0 (s31_4 x0 true x3) (e31 J m [1, 1, 1, 1, 0, 1] [] (s31_4 x0 true x3)))
   else
   (J 0 6 0 (s31_4 x0 (decide (11 < (Dt.I x3 0))) x3) (e31 J m [1, 1, 1, 1, 0, 1] [] (s31_4 x0 (decide (11 < (Dt.I x3 0))) x3))))))
    else
   (bif (Bool.not x2) then
   (bif ((Dt.I x3 1) != 0) then
   (J 0 6 0 (s31_4 x0 true x3) (e31 J m [1, 1, 1, 1, 0, 1] [] (s31_4 x0 true x3)))
   else
   (bif (decide ((Dt.I x3 0) < 1)) then
   (J 0 6 0 (s31_4 x0 true x3) (e31 J m [1, 1, 1, 1, 0, 1] [] (s31_4 x0 true x3)))
   else
   (J 0 6 0 (s31_4 x0 (decide (11 < (Dt.I x3 0))) x3) (e31 J m [1, 1, 1, 1, 0, 1] [] (s31_4 x0 (decide (11 < (Dt.I x3 0))) x3)))))
   else
   (bif (decide ((Dt.I x3 0) < 1)) then
   (J 0 6 0 (s31_4 x0 true x3) (e31 J m [1, 1, 1, 1, 0, 1] [] (s31_4 x0 true x3)))
   else
   (J 0 6 0 (s31_4 x0 (decide (11 < (Dt.I x3 0))) x3) (e31 J m [1, 1, 1, 1, 0, 1] [] (s31_4 x0 (decide (11 < (Dt.I x3 0))) x3)))))) := fun J => by kernel_rfl
  exact (h jn).trans (by
    simp only [jn_eq, ref01_formed_j4_eq m]
    rfl)
theorem ref01_formed_j2_eq (m : Nat) (x0 x1 : Bool) (x2 : Dt) : e31 jn m [1, 1, 1] [] (s31_2 x0 x1 x2) = ref01_formed_j2 m (ref01_formed m) (ref01_fields m) x0 x1 x2 := by
  have h : ∀ J, e31 J m [1, 1, 1] [] (s31_2 x0 x1 x2) =
    (bif ((Dt.I x2 0) == 3) then
   (J 0 5 0 (s31_3 x0 x1 true x2) (e31 J m [1, 1, 1, 1] [] (s31_3 x0 x1 true x2)))
    else
   (bif ((Dt.I x2 0) == 9) then
   (J 0 5 0 (s31_3 x0 x1 true x2) (e31 J m [1, 1, 1, 1] [] (s31_3 x0 x1 true x2)))
   else
   (J 0 5 0 (s31_3 x0 x1 ((Dt.I x2 0) == 10) x2) (e31 J m [1, 1, 1, 1] [] (s31_3 x0 x1 ((Dt.I x2 0) == 10) x2))))) := fun J => by kernel_rfl
  exact (h jn).trans (by
    simp only [jn_eq, ref01_formed_j3_eq m]
    rfl)
theorem ref01_formed_j1_eq (m : Nat) (x0 : Bool) (x1 : Dt) : e31 jn m [1, 1] [] (s31_1 x0 x1) = ref01_formed_j1 m (ref01_formed m) (ref01_fields m) x0 x1 := by
  have h : ∀ J, e31 J m [1, 1] [] (s31_1 x0 x1) =
    (bif ((Dt.I x1 0) == 4) then
   (J 0 4 0 (s31_2 x0 true x1) (e31 J m [1, 1, 1] [] (s31_2 x0 true x1)))
    else
   (bif ((Dt.I x1 0) == 7) then
   (J 0 4 0 (s31_2 x0 true x1) (e31 J m [1, 1, 1] [] (s31_2 x0 true x1)))
   else
   (J 0 4 0 (s31_2 x0 ((Dt.I x1 0) == 8) x1) (e31 J m [1, 1, 1] [] (s31_2 x0 ((Dt.I x1 0) == 8) x1))))) := fun J => by kernel_rfl
  exact (h jn).trans (by
    simp only [jn_eq, ref01_formed_j2_eq m]
    rfl)
theorem ref01_formed_j0_eq (m : Nat) (x0 x1 : Bool) (x2 : Dt) : e31 jn m [1, 0, 1] [] (s31_0 x0 x1 x2) = ref01_formed_j0 m (ref01_formed m) (ref01_fields m) x0 x1 x2 := by
  have h : ∀ J, e31 J m [1, 0, 1] [] (s31_0 x0 x1 x2) =
    (bif x1 then
   some false
    else
   (J 0 3 0 (s31_1 x0 x2) (e31 J m [1, 1] [] (s31_1 x0 x2)))) := fun J => by kernel_rfl
  exact (h jn).trans (by
    simp only [jn_eq, ref01_formed_j1_eq m]
    rfl)
theorem ref01_formed_eq (m : Nat) (a0 : Dt) (a1 : Bool) : e31 jn m [] [] ⟨[(.dat 25 a0), (.dat 4 (.bool a1))], [], 0⟩ = ref01_formed (m + 1) a0 a1 := by
  have h : ∀ J, e31 J m [] [] ⟨[(.dat 25 a0), (.dat 4 (.bool a1))], [], 0⟩ =
    (bif ((Dt.I a0 0) != 6) then
   (bif (decide (0 < (List.length (Dt.L a0 3) : Int))) then
   (J 0 2 0 (s31_0 a1 true a0) (e31 J m [1, 0, 1] [] (s31_0 a1 true a0)))
   else
   (bif ((Dt.I a0 0) != 5) then
   (J 0 2 0 (s31_0 a1 (decide (0 < (List.length (Dt.L a0 4) : Int))) a0) (e31 J m [1, 0, 1] [] (s31_0 a1 (decide (0 < (List.length (Dt.L a0 4) : Int))) a0)))
   else
   (J 0 2 0 (s31_0 a1 false a0) (e31 J m [1, 0, 1] [] (s31_0 a1 false a0)))))
    else
   (bif ((Dt.I a0 0) != 5) then
   (J 0 2 0 (s31_0 a1 (decide (0 < (List.length (Dt.L a0 4) : Int))) a0) (e31 J m [1, 0, 1] [] (s31_0 a1 (decide (0 < (List.length (Dt.L a0 4) : Int))) a0)))
   else
   (J 0 2 0 (s31_0 a1 false a0) (e31 J m [1, 0, 1] [] (s31_0 a1 false a0))))) := fun J => by kernel_rfl
  refine (h jn).trans ?_
  simp only [jn_eq, ref01_formed_j0_eq m]
  rfl
noncomputable def d48 (q : Res) : Option Bool := match q with
  | (.dat T0 x0, []) => bif Nat.beq T0 4 then some x0.toBool else none
  | _ => none
theorem d48_sim {b : Res} {r : Bool} (h : d48 b = some r) : Sim Tryz.prog b ((.dat 4 (.bool r)), []) := by
  unfold d48 at h
  split at h
  · obtain ⟨hc, h2⟩ := bif_some h
    cases h2
    have e0 := beq_eq hc
    subst e0
    exact Sim.of (.of (.dat (.bool Tryz.underlying4)) rfl rfl) .nil
  · cases h
noncomputable def e48 (J : Nat → Nat → Nat → St → Option Bool → Option Bool) (m : Nat) (p ms : List Nat) (σ : St) := evAt Tryz.prog env (ct m) J (m + 1) 73 58 Tryz.f73 d48 p ms σ
noncomputable def l48 (J : Nat → Nat → Nat → St → Option Bool → Option Bool) (m : Nat) (p ms : List Nat) (M : Nat) (σ : St) := loopAt Tryz.prog env (ct m) J (m + 1) 73 58 Tryz.f73 d48 p ms M σ
noncomputable def s48_8 (x0 : Bool) (x1 x2 : Int) (x3 x4 : Dt) : St := ⟨tsOf [(1, (.dat 4 (.bool x0))), (2, (.ptr 0 [] 0)), (5, (.dat 3 (.int x1))), (6, (.ptr 1 [] 0)), (7, (.dat 3 (.int x2)))], [(.box 25 (.dat 25 x3)), (.box 53 (.dat 53 x4))], 0⟩
noncomputable def s48_7 (x0 : Bool) (x1 x2 : Int) (x3 x4 : Dt) : St := ⟨tsOf [(1, (.dat 4 (.bool x0))), (2, (.ptr 0 [] 0)), (5, (.dat 3 (.int x1))), (6, (.ptr 1 [] 0)), (7, (.dat 3 (.int x2)))], [(.box 25 (.dat 25 x3)), (.box 53 (.dat 53 x4))], 0⟩
noncomputable def s48_9 (x0 : Bool) (x1 : Int) (x2 : Dt) : St := ⟨tsOf [(1, (.dat 4 (.bool x0))), (2, (.ptr 0 [] 0)), (5, (.dat 3 (.int x1)))], [(.box 25 (.dat 25 x2))], 0⟩
noncomputable def s48_6 (x0 : Bool) (x1 x2 : Int) (x3 x4 : Dt) : St := ⟨tsOf [(1, (.dat 4 (.bool x0))), (2, (.ptr 0 [] 0)), (5, (.dat 3 (.int x1))), (6, (.ptr 1 [] 0)), (7, (.dat 3 (.int x2)))], [(.box 25 (.dat 25 x3)), (.box 53 (.dat 53 x4))], 0⟩
noncomputable def s48_5 (x0 : Bool) (x1 x2 : Int) (x3 x4 : Dt) : St := ⟨tsOf [(1, (.dat 4 (.bool x0))), (2, (.ptr 0 [] 0)), (5, (.dat 3 (.int x1))), (6, (.ptr 1 [] 0)), (7, (.dat 3 (.int x2)))], [(.box 25 (.dat 25 x3)), (.box 53 (.dat 53 x4))], 0⟩
noncomputable def s48_4 (x0 : Bool) (x1 : Int) (x2 x3 : Dt) : St := ⟨tsOf [(1, (.dat 4 (.bool x0))), (2, (.ptr 0 [] 0)), (5, (.dat 3 (.int x1))), (6, (.ptr 1 [] 0))], [(.box 25 (.dat 25 x2)), (.box 53 (.dat 53 x3))], 0⟩
noncomputable def s48_3 (x0 : Bool) (x1 : Int) (x2 : Bool) (x3 x4 : Dt) : St := ⟨tsOf [(1, (.dat 4 (.bool x0))), (2, (.ptr 0 [] 0)), (5, (.dat 3 (.int x1))), (6, (.ptr 1 [] 0)), (43, (.dat 4 (.bool x2)))], [(.box 25 (.dat 25 x3)), (.box 53 (.dat 53 x4))], 0⟩
noncomputable def s48_2 (x0 : Bool) (x1 : Int) (x2 : Dt) : St := ⟨tsOf [(1, (.dat 4 (.bool x0))), (2, (.ptr 0 [] 0)), (5, (.dat 3 (.int x1)))], [(.box 25 (.dat 25 x2))], 0⟩
noncomputable def s48_10 : St := ⟨tsOf [], [], 0⟩
noncomputable def s48_1 (x0 : Bool) (x1 : Int) (x2 : Dt) : St := ⟨tsOf [(1, (.dat 4 (.bool x0))), (2, (.ptr 0 [] 0)), (5, (.dat 3 (.int x1)))], [(.box 25 (.dat 25 x2))], 0⟩
noncomputable def s48_0 (x0 : Bool) (x1 : Int) (x2 : Dt) : St := ⟨tsOf [(1, (.dat 4 (.bool x0))), (2, (.ptr 0 [] 0)), (5, (.dat 3 (.int x1)))], [(.box 25 (.dat 25 x2))], 0⟩
theorem ref01_fields_j8_eq (m : Nat) (M1 : Nat) (rec1 : Bool → Int → Dt → Option Bool) (h1 : ∀ (x0 : Bool) (x1 : Int) (x2 : Dt), l48 jn m [1, 0, 1, 0] [] M1 (s48_1 x0 x1 x2) = rec1 x0 x1 x2) (M6 : Nat) (rec6 : Bool → Int → Int → Dt → Dt → Option Bool) (h6 : ∀ (x0 : Bool) (x1 x2 : Int) (x3 x4 : Dt), l48 jn m [1, 0, 1, 0, 0, 1, 0, 0, 1, 1, 1, 0] [M1] M6 (s48_6 x0 x1 x2 x3 x4) = rec6 x0 x1 x2 x3 x4) (x0 : Bool) (x1 x2 : Int) (x3 x4 : Dt) : e48 jn m [1, 0, 1, 0, 0, 1, 0, 0, 1, 1, 1, 0, 0, 1, 1] [M1, M6] (s48_8 x0 x1 x2 x3 x4) = ref01_fields_j8 m (ref01_formed m) rec1 rec6 x0 x1 x2 x3 x4 := by
  have h : ∀ J, e48 J m [1, 0, 1, 0, 0, 1, 0, 0, 1, 1, 1, 0, 0, 1, 1] [M1, M6] (s48_8 x0 x1 x2 x3 x4) =
    (J 1 8 M6 (s48_6 x0 x1 (IntKind.wrap .i64 (x2 + 1)) x3 x4) (l48 J m [1, 0, 1, 0, 0, 1, 0, 0, 1, 1, 1, 0] [M1] M6 (s48_6 x0 x1 (IntKind.wrap .i64 (x2 + 1)) x3 x4))) := fun J => by kernel_rfl
  exact (h jn).trans (by
    simp only [jn_eq, h6]
    rfl)
theorem ref01_fields_j7_eq (m : Nat) (M1 : Nat) (rec1 : Bool → Int → Dt → Option Bool) (h1 : ∀ (x0 : Bool) (x1 : Int) (x2 : Dt), l48 jn m [1, 0, 1, 0] [] M1 (s48_1 x0 x1 x2) = rec1 x0 x1 x2) (M6 : Nat) (rec6 : Bool → Int → Int → Dt → Dt → Option Bool) (h6 : ∀ (x0 : Bool) (x1 x2 : Int) (x3 x4 : Dt), l48 jn m [1, 0, 1, 0, 0, 1, 0, 0, 1, 1, 1, 0] [M1] M6 (s48_6 x0 x1 x2 x3 x4) = rec6 x0 x1 x2 x3 x4) (x0 : Bool) (x1 x2 : Int) (x3 x4 : Dt) : e48 jn m [1, 0, 1, 0, 0, 1, 0, 0, 1, 1, 1, 0, 0, 1] [M1, M6] (s48_7 x0 x1 x2 x3 x4) = ref01_fields_j7 m (ref01_formed m) rec1 rec6 x0 x1 x2 x3 x4 := by
  have h : ∀ J, e48 J m [1, 0, 1, 0, 0, 1, 0, 0, 1, 1, 1, 0, 0, 1] [M1, M6] (s48_7 x0 x1 x2 x3 x4) =
    ((idx (Dt.L x3 4) x2).bind fun v2 =>
   (bif ((ByteArray.toList (Dt.S v2 0)) == (ByteArray.toList (Dt.S x4 0))) then
   some false
   else
   (J 0 9 0 (s48_8 x0 x1 x2 x3 x4) (e48 J m [1, 0, 1, 0, 0, 1, 0, 0, 1, 1, 1, 0, 0, 1, 1] [M1, M6] (s48_8 x0 x1 x2 x3 x4))))) := fun J => by kernel_rfl
  exact (h jn).trans (by
    simp only [jn_eq, ref01_fields_j8_eq m M1 rec1 h1 M6 rec6 h6]
    rfl)
theorem ref01_fields_j9_eq (m : Nat) (M1 : Nat) (rec1 : Bool → Int → Dt → Option Bool) (h1 : ∀ (x0 : Bool) (x1 : Int) (x2 : Dt), l48 jn m [1, 0, 1, 0] [] M1 (s48_1 x0 x1 x2) = rec1 x0 x1 x2) (x0 : Bool) (x1 : Int) (x2 : Dt) : e48 jn m [1, 0, 1, 0, 0, 1, 1] [M1] (s48_9 x0 x1 x2) = ref01_fields_j9 m (ref01_formed m) rec1 x0 x1 x2 := by
  have h : ∀ J, e48 J m [1, 0, 1, 0, 0, 1, 1] [M1] (s48_9 x0 x1 x2) =
    (J 1 2 M1 (s48_1 x0 (IntKind.wrap .i64 (x1 + 1)) x2) (l48 J m [1, 0, 1, 0] [] M1 (s48_1 x0 (IntKind.wrap .i64 (x1 + 1)) x2))) := fun J => by kernel_rfl
  exact (h jn).trans (by
    simp only [jn_eq, h1]
    rfl)
theorem ref01_fields_l6_eq (m : Nat) (M1 : Nat) (rec1 : Bool → Int → Dt → Option Bool) (h1 : ∀ (x0 : Bool) (x1 : Int) (x2 : Dt), l48 jn m [1, 0, 1, 0] [] M1 (s48_1 x0 x1 x2) = rec1 x0 x1 x2) : ∀ (M6 : Nat) (x0 : Bool) (x1 x2 : Int) (x3 x4 : Dt), l48 jn m [1, 0, 1, 0, 0, 1, 0, 0, 1, 1, 1, 0] [M1] M6 (s48_6 x0 x1 x2 x3 x4) = ref01_fields_l6 m (ref01_formed m) rec1 M6 x0 x1 x2 x3 x4
  | 0, _, _, _, _, _ => rfl
  | M6 + 1, x0, x1, x2, x3, x4 => by
    have h : ∀ J, l48 J m [1, 0, 1, 0, 0, 1, 0, 0, 1, 1, 1, 0] [M1] (M6 + 1) (s48_6 x0 x1 x2 x3 x4) =
    (bif (decide (x2 < x1)) then
   (J 0 10 0 (s48_7 x0 x1 x2 x3 x4) (e48 J m [1, 0, 1, 0, 0, 1, 0, 0, 1, 1, 1, 0, 0, 1] [M1, M6] (s48_7 x0 x1 x2 x3 x4)))
    else
   (J 0 3 0 (s48_9 x0 x1 x3) (e48 J m [1, 0, 1, 0, 0, 1, 1] [M1] (s48_9 x0 x1 x3)))) := fun J => by kernel_rfl
    refine (h jn).trans ?_
    simp only [jn_eq, ref01_fields_j7_eq m M1 rec1 h1 M6 (ref01_fields_l6 m (ref01_formed m) rec1 M6) (fun x0 x1 x2 x3 x4 => ref01_fields_l6_eq m M1 rec1 h1 M6 x0 x1 x2 x3 x4), ref01_fields_j9_eq m M1 rec1 h1]
    rfl
theorem ref01_fields_j5_eq (m : Nat) (M1 : Nat) (rec1 : Bool → Int → Dt → Option Bool) (h1 : ∀ (x0 : Bool) (x1 : Int) (x2 : Dt), l48 jn m [1, 0, 1, 0] [] M1 (s48_1 x0 x1 x2) = rec1 x0 x1 x2) (x0 : Bool) (x1 x2 : Int) (x3 x4 : Dt) : e48 jn m [1, 0, 1, 0, 0, 1, 0, 0, 1, 1, 1] [M1] (s48_5 x0 x1 x2 x3 x4) = ref01_fields_j5 m (ref01_formed m) rec1 x0 x1 x2 x3 x4 := by
  have h : ∀ J, e48 J m [1, 0, 1, 0, 0, 1, 0, 0, 1, 1, 1] [M1] (s48_5 x0 x1 x2 x3 x4) =
    (J 1 8 (Nat.succ m) (s48_6 x0 x1 x2 x3 x4) (l48 J m [1, 0, 1, 0, 0, 1, 0, 0, 1, 1, 1, 0] [M1] (Nat.succ m) (s48_6 x0 x1 x2 x3 x4))) := fun J => by kernel_rfl
  exact (h jn).trans (by
    simp only [jn_eq, ref01_fields_l6_eq m M1 rec1 h1]
    rfl)
theorem ref01_fields_j4_eq (m : Nat) (M1 : Nat) (rec1 : Bool → Int → Dt → Option Bool) (h1 : ∀ (x0 : Bool) (x1 : Int) (x2 : Dt), l48 jn m [1, 0, 1, 0] [] M1 (s48_1 x0 x1 x2) = rec1 x0 x1 x2) (x0 : Bool) (x1 : Int) (x2 x3 : Dt) : e48 jn m [1, 0, 1, 0, 0, 1, 0, 0, 1, 1] [M1] (s48_4 x0 x1 x2 x3) = ref01_fields_j4 m (ref01_formed m) rec1 x0 x1 x2 x3 := by
  have h : ∀ J, e48 J m [1, 0, 1, 0, 0, 1, 0, 0, 1, 1] [M1] (s48_4 x0 x1 x2 x3) =
    (J 0 8 0 (s48_5 x0 x1 0 x2 x3) (e48 J m [1, 0, 1, 0, 0, 1, 0, 0, 1, 1, 1] [M1] (s48_5 x0 x1 0 x2 x3))) := fun J => by kernel_rfl
  exact (h jn).trans (by
    simp only [jn_eq, ref01_fields_j5_eq m M1 rec1 h1]
    rfl)
theorem ref01_fields_j3_eq (m : Nat) (M1 : Nat) (rec1 : Bool → Int → Dt → Option Bool) (h1 : ∀ (x0 : Bool) (x1 : Int) (x2 : Dt), l48 jn m [1, 0, 1, 0] [] M1 (s48_1 x0 x1 x2) = rec1 x0 x1 x2) (x0 : Bool) (x1 : Int) (x2 : Bool) (x3 x4 : Dt) : e48 jn m [1, 0, 1, 0, 0, 1, 0, 0, 1, 0, 1] [M1] (s48_3 x0 x1 x2 x3 x4) = ref01_fields_j3 m (ref01_formed m) rec1 x0 x1 x2 x3 x4 := by
  have h : ∀ J, e48 J m [1, 0, 1, 0, 0, 1, 0, 0, 1, 0, 1] [M1] (s48_3 x0 x1 x2 x3 x4) =
    (bif x2 then
   some false
    else
   (J 0 7 0 (s48_4 x0 x1 x3 x4) (e48 J m [1, 0, 1, 0, 0, 1, 0, 0, 1, 1] [M1] (s48_4 x0 x1 x3 x4)))) := fun J => by kernel_rfl
  exact (h jn).trans (by
    simp only [jn_eq, ref01_fields_j4_eq m M1 rec1 h1]
    rfl)
theorem ref01_fields_j2_eq (m : Nat) (M1 : Nat) (rec1 : Bool → Int → Dt → Option Bool) (h1 : ∀ (x0 : Bool) (x1 : Int) (x2 : Dt), l48 jn m [1, 0, 1, 0] [] M1 (s48_1 x0 x1 x2) = rec1 x0 x1 x2) (x0 : Bool) (x1 : Int) (x2 : Dt) : e48 jn m [1, 0, 1, 0, 0, 1] [M1] (s48_2 x0 x1 x2) = ref01_fields_j2 m (ref01_formed m) rec1 x0 x1 x2 := by
  have h : ∀ J, e48 J m [1, 0, 1, 0, 0, 1] [M1] (s48_2 x0 x1 x2) =
    ((idx (Dt.L x2 4) x1).bind fun v0 =>
   (bif x0 then
   ((ref01_Name m (Dt.S v0 0)).bind fun r1 =>
   (bif (Bool.not r1) then
   (J 0 6 0 (s48_3 x0 x1 true x2 v0) (e48 J m [1, 0, 1, 0, 0, 1, 0, 0, 1, 0, 1] [M1] (s48_3 x0 x1 true x2 v0)))
   else
   (bif (Bool.not x0) then
   ((ref01_wide m (Dt.S v0 0)).bind fun r3 =>
   (bif (Bool.not r3) then
   (J 0 6 0 (s48_3 x0 x1 true x2 v0) (e48 J m [1, 0, 1, 0, 0, 1, 0, 0, 1, 0, 1] [M1] (s48_3 x0 x1 true x2 v0)))
   else
   ((ref01_formed m (Dt.fld v0 1) x0).bind fun r4 =>
   (J 0 6 0 (s48_3 x0 x1 (Bool.not r4) x2 v0) (e48 J m [1, 0, 1, 0, 0, 1, 0, 0, 1, 0, 1] [M1] (s48_3 x0 x1 (Bool.not r4) x2 v0))))))
   else
   ((ref01_formed m (Dt.fld v0 1) x0).bind fun r5 =>
   (J 0 6 0 (s48_3 x0 x1 (Bool.not r5) x2 v0) (e48 J m [1, 0, 1, 0, 0, 1, 0, 0, 1, 0, 1] [M1] (s48_3 x0 x1 (Bool.not r5) x2 v0)))))))
   else
   (bif (Bool.not x0) then
   ((ref01_wide m (Dt.S v0 0)).bind fun r6 =>
   (bif (Bool.not r6) then
   (J 0 6 0 (s48_3 x0 x1 true x2 v0) (e48 J m [1, 0, 1, 0, 0, 1, 0, 0, 1, 0, 1] [M1] (s48_3 x0 x1 true x2 v0)))
   else
   ((ref01_formed m (Dt.fld v0 1) x0).bind fun r7 =>
   (J 0 6 0 (s48_3 x0 x1 (Bool.not r7) x2 v0) (e48 J m [1, 0, 1, 0, 0, 1, 0, 0, 1, 0, 1] [M1] (s48_3 x0 x1 (Bool.not r7) x2 v0))))))
   else
   ((ref01_formed m (Dt.fld v0 1) x0).bind fun r8 =>
   (J 0 6 0 (s48_3 x0 x1 (Bool.not r8) x2 v0) (e48 J m [1, 0, 1, 0, 0, 1, 0, 0, 1, 0, 1] [M1] (s48_3 x0 x1 (Bool.not r8) x2 v0))))))) := fun J => by kernel_rfl
  exact (h jn).trans (by
    simp only [jn_eq, ref01_fields_j3_eq m M1 rec1 h1]
    rfl)
theorem ref01_fields_j10_eq (m : Nat) : e48 jn m [1, 1] [] s48_10 = ref01_fields_j10 m (ref01_formed m) := by
  have h : ∀ J, e48 J m [1, 1] [] s48_10 =
    some true := fun J => by kernel_rfl
  exact (h jn).trans (rfl)
theorem ref01_fields_l1_eq (m : Nat) : ∀ (M1 : Nat) (x0 : Bool) (x1 : Int) (x2 : Dt), l48 jn m [1, 0, 1, 0] [] M1 (s48_1 x0 x1 x2) = ref01_fields_l1 m (ref01_formed m) M1 x0 x1 x2
  | 0, _, _, _ => rfl
  | M1 + 1, x0, x1, x2 => by
    have h : ∀ J, l48 J m [1, 0, 1, 0] [] (M1 + 1) (s48_1 x0 x1 x2) =
    (bif (decide (x1 < (List.length (Dt.L x2 4) : Int))) then
   (J 0 4 0 (s48_2 x0 x1 x2) (e48 J m [1, 0, 1, 0, 0, 1] [M1] (s48_2 x0 x1 x2)))
    else
   (J 0 12 0 s48_10 (e48 J m [1, 1] [] s48_10))) := fun J => by kernel_rfl
    refine (h jn).trans ?_
    simp only [jn_eq, ref01_fields_j2_eq m M1 (ref01_fields_l1 m (ref01_formed m) M1) (fun x0 x1 x2 => ref01_fields_l1_eq m M1 x0 x1 x2), ref01_fields_j10_eq m]
    rfl
theorem ref01_fields_j0_eq (m : Nat) (x0 : Bool) (x1 : Int) (x2 : Dt) : e48 jn m [1, 0, 1] [] (s48_0 x0 x1 x2) = ref01_fields_j0 m (ref01_formed m) x0 x1 x2 := by
  have h : ∀ J, e48 J m [1, 0, 1] [] (s48_0 x0 x1 x2) =
    (J 1 2 (Nat.succ m) (s48_1 x0 x1 x2) (l48 J m [1, 0, 1, 0] [] (Nat.succ m) (s48_1 x0 x1 x2))) := fun J => by kernel_rfl
  exact (h jn).trans (by
    simp only [jn_eq, ref01_fields_l1_eq m]
    rfl)
theorem ref01_fields_eq (m : Nat) (a0 : Dt) (a1 : Bool) : e48 jn m [] [] ⟨[(.dat 25 a0), (.dat 4 (.bool a1))], [], 0⟩ = ref01_fields (m + 1) a0 a1 := by
  have h : ∀ J, e48 J m [] [] ⟨[(.dat 25 a0), (.dat 4 (.bool a1))], [], 0⟩ =
    (J 0 2 0 (s48_0 a1 0 a0) (e48 J m [1, 0, 1] [] (s48_0 a1 0 a0))) := fun J => by kernel_rfl
  refine (h jn).trans ?_
  simp only [jn_eq, ref01_fields_j0_eq m]
  rfl
noncomputable def d12 (q : Res) : Option Bool := match q with
  | (.dat T0 x0, []) => bif Nat.beq T0 4 then some x0.toBool else none
  | _ => none
theorem d12_sim {b : Res} {r : Bool} (h : d12 b = some r) : Sim Tryz.prog b ((.dat 4 (.bool r)), []) := by
  unfold d12 at h
  split at h
  · obtain ⟨hc, h2⟩ := bif_some h
    cases h2
    have e0 := beq_eq hc
    subst e0
    exact Sim.of (.of (.dat (.bool Tryz.underlying4)) rfl rfl) .nil
  · cases h
noncomputable def e12 (J : Nat → Nat → Nat → St → Option Bool → Option Bool) (m : Nat) (p ms : List Nat) (σ : St) := evAt Tryz.prog env (ct m) J (m + 1) 23 15 Tryz.f23 d12 p ms σ
noncomputable def l12 (J : Nat → Nat → Nat → St → Option Bool → Option Bool) (m : Nat) (p ms : List Nat) (M : Nat) (σ : St) := loopAt Tryz.prog env (ct m) J (m + 1) 23 15 Tryz.f23 d12 p ms M σ
theorem ref01_Formed_eq (m : Nat) (a0 : Dt) : e12 jn m [] [] ⟨[(.dat 25 a0)], [], 0⟩ = ref01_Formed (m + 1) a0 := by
  have h : ∀ J, e12 J m [] [] ⟨[(.dat 25 a0)], [], 0⟩ =
    ((ref01_Depth m a0).bind fun r0 =>
   (bif (decide (r0 ≤ 16)) then
   ((ref01_Nodes m a0).bind fun r1 =>
   (bif (decide (r1 ≤ 1024)) then
   ((ref01_formed m a0 false).bind fun r2 =>
   some r2)
   else
   some false))
   else
   some false)) := fun J => by kernel_rfl
  refine (h jn).trans ?_
  
  rfl
noncomputable def d58 (q : Res) : Option Bool := match q with
  | (.dat T0 x0, []) => bif Nat.beq T0 4 then some x0.toBool else none
  | _ => none
theorem d58_sim {b : Res} {r : Bool} (h : d58 b = some r) : Sim Tryz.prog b ((.dat 4 (.bool r)), []) := by
  unfold d58 at h
  split at h
  · obtain ⟨hc, h2⟩ := bif_some h
    cases h2
    have e0 := beq_eq hc
    subst e0
    exact Sim.of (.of (.dat (.bool Tryz.underlying4)) rfl rfl) .nil
  · cases h
noncomputable def e58 (J : Nat → Nat → Nat → St → Option Bool → Option Bool) (m : Nat) (p ms : List Nat) (σ : St) := evAt Tryz.prog env (ct m) J (m + 1) 107 15 Tryz.f107 d58 p ms σ
noncomputable def l58 (J : Nat → Nat → Nat → St → Option Bool → Option Bool) (m : Nat) (p ms : List Nat) (M : Nat) (σ : St) := loopAt Tryz.prog env (ct m) J (m + 1) 107 15 Tryz.f107 d58 p ms M σ
theorem ref01_Valid_eq (m : Nat) (a0 : Dt) : e58 jn m [] [] ⟨[(.dat 25 a0)], [], 0⟩ = ref01_Valid (m + 1) a0 := by
  have h : ∀ J, e58 J m [] [] ⟨[(.dat 25 a0)], [], 0⟩ =
    ((ref01_Depth m a0).bind fun r0 =>
   (bif (decide (r0 ≤ 16)) then
   ((ref01_Nodes m a0).bind fun r1 =>
   (bif (decide (r1 ≤ 1024)) then
   ((ref01_formed m a0 true).bind fun r2 =>
   some r2)
   else
   some false))
   else
   some false)) := fun J => by kernel_rfl
  refine (h jn).trans ?_
  
  rfl
noncomputable def d57 (q : Res) : Option Bool := match q with
  | (.dat T0 x0, []) => bif Nat.beq T0 4 then some x0.toBool else none
  | _ => none
theorem d57_sim {b : Res} {r : Bool} (h : d57 b = some r) : Sim Tryz.prog b ((.dat 4 (.bool r)), []) := by
  unfold d57 at h
  split at h
  · obtain ⟨hc, h2⟩ := bif_some h
    cases h2
    have e0 := beq_eq hc
    subst e0
    exact Sim.of (.of (.dat (.bool Tryz.underlying4)) rfl rfl) .nil
  · cases h
noncomputable def e57 (J : Nat → Nat → Nat → St → Option Bool → Option Bool) (m : Nat) (p ms : List Nat) (σ : St) := evAt Tryz.prog env (ct m) J (m + 1) 106 21 Tryz.f106 d57 p ms σ
noncomputable def l57 (J : Nat → Nat → Nat → St → Option Bool → Option Bool) (m : Nat) (p ms : List Nat) (M : Nat) (σ : St) := loopAt Tryz.prog env (ct m) J (m + 1) 106 21 Tryz.f106 d57 p ms M σ
theorem ref14_unused_eq (m : Nat) (a0 : Bool) (a1 : Dt) : e57 jn m [] [] ⟨[(.dat 4 (.bool a0)), (.dat 25 a1)], [], 0⟩ = ref14_unused (m + 1) a0 a1 := by
  have h : ∀ J, e57 J m [] [] ⟨[(.dat 4 (.bool a0)), (.dat 25 a1)], [], 0⟩ =
    (bif a0 then
   ((ref01_Valid m a1).bind fun r0 =>
   (bif (Bool.not r0) then
   some true
   else
   (bif (Bool.not a0) then
   ((ref01_Same m a1 kza2373).bind fun r1 =>
   some (Bool.not r1))
   else
   some false)))
    else
   (bif (Bool.not a0) then
   ((ref01_Same m a1 kza2373).bind fun r2 =>
   some (Bool.not r2))
   else
   some false)) := fun J => by kernel_rfl
  refine (h jn).trans ?_
  
  rfl
noncomputable def d44 (q : Res) : Option Int := match q with
  | (.dat T0 x0, []) => bif Nat.beq T0 33 then some x0.toInt else none
  | _ => none
theorem d44_sim {b : Res} {r : Int} (h : d44 b = some r) : Sim Tryz.prog b ((.dat 33 (.int r)), []) := by
  unfold d44 at h
  split at h
  · obtain ⟨hc, h2⟩ := bif_some h
    cases h2
    have e0 := beq_eq hc
    subst e0
    exact Sim.of (.of (.dat (.int Tryz.underlying33)) rfl rfl) .nil
  · cases h
noncomputable def e44 (J : Nat → Nat → Nat → St → Option Int → Option Int) (m : Nat) (p ms : List Nat) (σ : St) := evAt Tryz.prog env (ct m) J (m + 1) 77 87 Tryz.f77 d44 p ms σ
noncomputable def l44 (J : Nat → Nat → Nat → St → Option Int → Option Int) (m : Nat) (p ms : List Nat) (M : Nat) (σ : St) := loopAt Tryz.prog env (ct m) J (m + 1) 77 87 Tryz.f77 d44 p ms M σ
noncomputable def s44_3 (x0 : Int) (x1 : Dt) (x2 : List Dt) : St := ⟨tsOf [(1, (.ptr 0 [] 0)), (3, (.row 1)), (4, (.dat 3 (.int x0)))], [(.box 32 (.dat 32 x1)), (.row 28 x2)], 0⟩
noncomputable def s44_2 (x0 : Int) (x1 : Dt) (x2 : List Dt) : St := ⟨tsOf [(1, (.ptr 0 [] 0)), (3, (.row 1)), (4, (.dat 3 (.int x0)))], [(.box 32 (.dat 32 x1)), (.row 28 x2)], 0⟩
noncomputable def s44_14 (x0 : Int) (x1 : Dt) : St := ⟨tsOf [(1, (.ptr 0 [] 0)), (5, (.dat 3 (.int x0)))], [(.box 32 (.dat 32 x1))], 0⟩
noncomputable def s44_13 (x0 : Int) (x1 : Dt) : St := ⟨tsOf [(1, (.ptr 0 [] 0)), (5, (.dat 3 (.int x0)))], [(.box 32 (.dat 32 x1))], 0⟩
noncomputable def s44_15 : St := ⟨tsOf [], [], 0⟩
noncomputable def s44_12 (x0 : Int) (x1 : Dt) : St := ⟨tsOf [(1, (.ptr 0 [] 0)), (5, (.dat 3 (.int x0)))], [(.box 32 (.dat 32 x1))], 0⟩
noncomputable def s44_11 (x0 : Int) (x1 : Dt) : St := ⟨tsOf [(1, (.ptr 0 [] 0)), (5, (.dat 3 (.int x0)))], [(.box 32 (.dat 32 x1))], 0⟩
noncomputable def s44_10 (x0 : Dt) : St := ⟨tsOf [(1, (.ptr 0 [] 0))], [(.box 32 (.dat 32 x0))], 0⟩
noncomputable def s44_9 (x0 : Bool) (x1 : Dt) : St := ⟨tsOf [(1, (.ptr 0 [] 0)), (72, (.dat 4 (.bool x0)))], [(.box 32 (.dat 32 x1))], 0⟩
noncomputable def s44_8 (x0 : Dt) : St := ⟨tsOf [(1, (.ptr 0 [] 0))], [(.box 32 (.dat 32 x0))], 0⟩
noncomputable def s44_7 (x0 : Bool) (x1 : Dt) : St := ⟨tsOf [(1, (.ptr 0 [] 0)), (60, (.dat 4 (.bool x0)))], [(.box 32 (.dat 32 x1))], 0⟩
noncomputable def s44_6 (x0 : Dt) : St := ⟨tsOf [(1, (.ptr 0 [] 0))], [(.box 32 (.dat 32 x0))], 0⟩
noncomputable def s44_5 (x0 : Bool) (x1 : Dt) : St := ⟨tsOf [(1, (.ptr 0 [] 0)), (30, (.dat 4 (.bool x0)))], [(.box 32 (.dat 32 x1))], 0⟩
noncomputable def s44_4 (x0 : Dt) (x1 : List Dt) : St := ⟨tsOf [(1, (.ptr 0 [] 0)), (3, (.row 1))], [(.box 32 (.dat 32 x0)), (.row 28 x1)], 0⟩
noncomputable def s44_1 (x0 : Int) (x1 : Dt) (x2 : List Dt) : St := ⟨tsOf [(1, (.ptr 0 [] 0)), (3, (.row 1)), (4, (.dat 3 (.int x0)))], [(.box 32 (.dat 32 x1)), (.row 28 x2)], 0⟩
noncomputable def s44_0 (x0 : Int) (x1 : Dt) (x2 : List Dt) : St := ⟨tsOf [(1, (.ptr 0 [] 0)), (3, (.row 1)), (4, (.dat 3 (.int x0)))], [(.box 32 (.dat 32 x1)), (.row 28 x2)], 0⟩
theorem ref14_single_j3_eq (m : Nat) (M1 : Nat) (rec1 : Int → Dt → List Dt → Option Int) (h1 : ∀ (x0 : Int) (x1 : Dt) (x2 : List Dt), l44 jn m [1, 1, 0, 1, 0] [] M1 (s44_1 x0 x1 x2) = rec1 x0 x1 x2) (x0 : Int) (x1 : Dt) (x2 : List Dt) : e44 jn m [1, 1, 0, 1, 0, 0, 1, 1] [M1] (s44_3 x0 x1 x2) = ref14_single_j3 m rec1 x0 x1 x2 := by
  have h : ∀ J, e44 J m [1, 1, 0, 1, 0, 0, 1, 1] [M1] (s44_3 x0 x1 x2) =
    (J 1 3 M1 (s44_1 (IntKind.wrap .i64 (x0 + 1)) x1 x2) (l44 J m [1, 1, 0, 1, 0] [] M1 (s44_1 (IntKind.wrap .i64 (x0 + 1)) x1 x2))) := fun J => by kernel_rfl
  exact (h jn).trans (by
    simp only [jn_eq, h1]
    rfl)
theorem ref14_single_j2_eq (m : Nat) (M1 : Nat) (rec1 : Int → Dt → List Dt → Option Int) (h1 : ∀ (x0 : Int) (x1 : Dt) (x2 : List Dt), l44 jn m [1, 1, 0, 1, 0] [] M1 (s44_1 x0 x1 x2) = rec1 x0 x1 x2) (x0 : Int) (x1 : Dt) (x2 : List Dt) : e44 jn m [1, 1, 0, 1, 0, 0, 1] [M1] (s44_2 x0 x1 x2) = ref14_single_j2 m rec1 x0 x1 x2 := by
  have h : ∀ J, e44 J m [1, 1, 0, 1, 0, 0, 1] [M1] (s44_2 x0 x1 x2) =
    ((idx (Dt.L x1 9) x0).bind fun v0 =>
   ((app x2 [(Dt.str (Dt.S v0 0))]).bind fun v1 =>
   (J 0 4 0 (s44_3 x0 x1 v1) (e44 J m [1, 1, 0, 1, 0, 0, 1, 1] [M1] (s44_3 x0 x1 v1))))) := fun J => by kernel_rfl
  exact (h jn).trans (by
    simp only [jn_eq, ref14_single_j3_eq m M1 rec1 h1]
    rfl)
theorem ref14_single_j14_eq (m : Nat) (M12 : Nat) (rec12 : Int → Dt → Option Int) (h12 : ∀ (x0 : Int) (x1 : Dt), l44 jn m [1, 1, 1, 1, 1, 1, 0, 1, 0] [] M12 (s44_12 x0 x1) = rec12 x0 x1) (x0 : Int) (x1 : Dt) : e44 jn m [1, 1, 1, 1, 1, 1, 0, 1, 0, 0, 1, 1] [M12] (s44_14 x0 x1) = ref14_single_j14 m rec12 x0 x1 := by
  have h : ∀ J, e44 J m [1, 1, 1, 1, 1, 1, 0, 1, 0, 0, 1, 1] [M12] (s44_14 x0 x1) =
    (J 1 13 M12 (s44_12 (IntKind.wrap .i64 (x0 + 1)) x1) (l44 J m [1, 1, 1, 1, 1, 1, 0, 1, 0] [] M12 (s44_12 (IntKind.wrap .i64 (x0 + 1)) x1))) := fun J => by kernel_rfl
  exact (h jn).trans (by
    simp only [jn_eq, h12]
    rfl)
theorem ref14_single_j13_eq (m : Nat) (M12 : Nat) (rec12 : Int → Dt → Option Int) (h12 : ∀ (x0 : Int) (x1 : Dt), l44 jn m [1, 1, 1, 1, 1, 1, 0, 1, 0] [] M12 (s44_12 x0 x1) = rec12 x0 x1) (x0 : Int) (x1 : Dt) : e44 jn m [1, 1, 1, 1, 1, 1, 0, 1, 0, 0, 1] [M12] (s44_13 x0 x1) = ref14_single_j13 m rec12 x0 x1 := by
  have h : ∀ J, e44 J m [1, 1, 1, 1, 1, 1, 0, 1, 0, 0, 1] [M12] (s44_13 x0 x1) =
    ((idx (Dt.L x1 5) x0).bind fun v4 =>
   ((ref01_Valid m v4).bind fun r5 =>
   (bif (Bool.not r5) then
   some 8
   else
   (J 0 14 0 (s44_14 x0 x1) (e44 J m [1, 1, 1, 1, 1, 1, 0, 1, 0, 0, 1, 1] [M12] (s44_14 x0 x1)))))) := fun J => by kernel_rfl
  exact (h jn).trans (by
    simp only [jn_eq, ref14_single_j14_eq m M12 rec12 h12]
    rfl)
theorem ref14_single_j15_eq (m : Nat) : e44 jn m [1, 1, 1, 1, 1, 1, 1] [] s44_15 = ref14_single_j15 m := by
  have h : ∀ J, e44 J m [1, 1, 1, 1, 1, 1, 1] [] s44_15 =
    some 0 := fun J => by kernel_rfl
  exact (h jn).trans (rfl)
theorem ref14_single_l12_eq (m : Nat) : ∀ (M12 : Nat) (x0 : Int) (x1 : Dt), l44 jn m [1, 1, 1, 1, 1, 1, 0, 1, 0] [] M12 (s44_12 x0 x1) = ref14_single_l12 m M12 x0 x1
  | 0, _, _ => rfl
  | M12 + 1, x0, x1 => by
    have h : ∀ J, l44 J m [1, 1, 1, 1, 1, 1, 0, 1, 0] [] (M12 + 1) (s44_12 x0 x1) =
    (bif (decide (x0 < (List.length (Dt.L x1 5) : Int))) then
   (J 0 15 0 (s44_13 x0 x1) (e44 J m [1, 1, 1, 1, 1, 1, 0, 1, 0, 0, 1] [M12] (s44_13 x0 x1)))
    else
   (J 0 17 0 s44_15 (e44 J m [1, 1, 1, 1, 1, 1, 1] [] s44_15))) := fun J => by kernel_rfl
    refine (h jn).trans ?_
    simp only [jn_eq, ref14_single_j13_eq m M12 (ref14_single_l12 m M12) (fun x0 x1 => ref14_single_l12_eq m M12 x0 x1), ref14_single_j15_eq m]
    rfl
theorem ref14_single_j11_eq (m : Nat) (x0 : Int) (x1 : Dt) : e44 jn m [1, 1, 1, 1, 1, 1, 0, 1] [] (s44_11 x0 x1) = ref14_single_j11 m x0 x1 := by
  have h : ∀ J, e44 J m [1, 1, 1, 1, 1, 1, 0, 1] [] (s44_11 x0 x1) =
    (J 1 13 (Nat.succ m) (s44_12 x0 x1) (l44 J m [1, 1, 1, 1, 1, 1, 0, 1, 0] [] (Nat.succ m) (s44_12 x0 x1))) := fun J => by kernel_rfl
  exact (h jn).trans (by
    simp only [jn_eq, ref14_single_l12_eq m]
    rfl)
theorem ref14_single_j10_eq (m : Nat) (x0 : Dt) : e44 jn m [1, 1, 1, 1, 1, 1] [] (s44_10 x0) = ref14_single_j10 m x0 := by
  have h : ∀ J, e44 J m [1, 1, 1, 1, 1, 1] [] (s44_10 x0) =
    (J 0 13 0 (s44_11 0 x0) (e44 J m [1, 1, 1, 1, 1, 1, 0, 1] [] (s44_11 0 x0))) := fun J => by kernel_rfl
  exact (h jn).trans (by
    simp only [jn_eq, ref14_single_j11_eq m]
    rfl)
theorem ref14_single_j9_eq (m : Nat) (x0 : Bool) (x1 : Dt) : e44 jn m [1, 1, 1, 1, 1, 0, 1] [] (s44_9 x0 x1) = ref14_single_j9 m x0 x1 := by
  have h : ∀ J, e44 J m [1, 1, 1, 1, 1, 0, 1] [] (s44_9 x0 x1) =
    (bif x0 then
   some 8
    else
   (J 0 12 0 (s44_10 x1) (e44 J m [1, 1, 1, 1, 1, 1] [] (s44_10 x1)))) := fun J => by kernel_rfl
  exact (h jn).trans (by
    simp only [jn_eq, ref14_single_j10_eq m]
    rfl)
theorem ref14_single_j8_eq (m : Nat) (x0 : Dt) : e44 jn m [1, 1, 1, 1, 1] [] (s44_8 x0) = ref14_single_j8 m x0 := by
  have h : ∀ J, e44 J m [1, 1, 1, 1, 1] [] (s44_8 x0) =
    ((ref14_unused m (Dt.B x0 1) (Dt.fld x0 2)).bind fun r3 =>
   (bif r3 then
   (J 0 11 0 (s44_9 true x0) (e44 J m [1, 1, 1, 1, 1, 0, 1] [] (s44_9 true x0)))
   else
   ((ref14_unused m (Dt.B x0 3) (Dt.fld x0 4)).bind fun r6 =>
   (J 0 11 0 (s44_9 r6 x0) (e44 J m [1, 1, 1, 1, 1, 0, 1] [] (s44_9 r6 x0)))))) := fun J => by kernel_rfl
  exact (h jn).trans (by
    simp only [jn_eq, ref14_single_j9_eq m]
    rfl)
theorem ref14_single_j7_eq (m : Nat) (x0 : Bool) (x1 : Dt) : e44 jn m [1, 1, 1, 1, 0, 1] [] (s44_7 x0 x1) = ref14_single_j7 m x0 x1 := by
  have h : ∀ J, e44 J m [1, 1, 1, 1, 0, 1] [] (s44_7 x0 x1) =
    (bif x0 then
   some 1
    else
   (J 0 10 0 (s44_8 x1) (e44 J m [1, 1, 1, 1, 1] [] (s44_8 x1)))) := fun J => by kernel_rfl
  exact (h jn).trans (by
    simp only [jn_eq, ref14_single_j8_eq m]
    rfl)
theorem ref14_single_j6_eq (m : Nat) (x0 : Dt) : e44 jn m [1, 1, 1, 1] [] (s44_6 x0) = ref14_single_j6 m x0 := by
  have h : ∀ J, e44 J m [1, 1, 1, 1] [] (s44_6 x0) =
    (bif (decide ((Dt.I x0 0) < 0)) then
   (J 0 9 0 (s44_7 true x0) (e44 J m [1, 1, 1, 1, 0, 1] [] (s44_7 true x0)))
    else
   (bif ((Int.tmod (Dt.I x0 0) 2) == 1) then
   (J 0 9 0 (s44_7 true x0) (e44 J m [1, 1, 1, 1, 0, 1] [] (s44_7 true x0)))
   else
   (bif (decide (4096 ≤ (Dt.I x0 0))) then
   (J 0 9 0 (s44_7 true x0) (e44 J m [1, 1, 1, 1, 0, 1] [] (s44_7 true x0)))
   else
   (bif (decide ((Dt.I x0 6) < 0)) then
   (J 0 9 0 (s44_7 true x0) (e44 J m [1, 1, 1, 1, 0, 1] [] (s44_7 true x0)))
   else
   (bif (decide ((Dt.I x0 7) < (-1))) then
   (J 0 9 0 (s44_7 true x0) (e44 J m [1, 1, 1, 1, 0, 1] [] (s44_7 true x0)))
   else
   (J 0 9 0 (s44_7 (decide (1 < (List.length (Dt.L x0 11) : Int))) x0) (e44 J m [1, 1, 1, 1, 0, 1] [] (s44_7 (decide (1 < (List.length (Dt.L x0 11) : Int))) x0)))))))) := fun J => by kernel_rfl
  exact (h jn).trans (by
    simp only [jn_eq, ref14_single_j7_eq m]
    rfl)
theorem ref14_single_j5_eq (m : Nat) (x0 : Bool) (x1 : Dt) : e44 jn m [1, 1, 1, 0, 1] [] (s44_5 x0 x1) = ref14_single_j5 m x0 x1 := by
  have h : ∀ J, e44 J m [1, 1, 1, 0, 1] [] (s44_5 x0 x1) =
    (bif x0 then
   some 9
    else
   (J 0 8 0 (s44_6 x1) (e44 J m [1, 1, 1, 1] [] (s44_6 x1)))) := fun J => by kernel_rfl
  exact (h jn).trans (by
    simp only [jn_eq, ref14_single_j6_eq m]
    rfl)
theorem ref14_single_j4_eq (m : Nat) (x0 : Dt) (x1 : List Dt) : e44 jn m [1, 1, 1] [] (s44_4 x0 x1) = ref14_single_j4 m x0 x1 := by
  have h : ∀ J, e44 J m [1, 1, 1] [] (s44_4 x0 x1) =
    ((ref14_different m (Dt.L x0 8)).bind fun r2 =>
   (bif (Bool.not r2) then
   (J 0 7 0 (s44_5 true x0) (e44 J m [1, 1, 1, 0, 1] [] (s44_5 true x0)))
   else
   ((ref14_different m x1).bind fun r7 =>
   (J 0 7 0 (s44_5 (Bool.not r7) x0) (e44 J m [1, 1, 1, 0, 1] [] (s44_5 (Bool.not r7) x0)))))) := fun J => by kernel_rfl
  exact (h jn).trans (by
    simp only [jn_eq, ref14_single_j5_eq m]
    rfl)
theorem ref14_single_l1_eq (m : Nat) : ∀ (M1 : Nat) (x0 : Int) (x1 : Dt) (x2 : List Dt), l44 jn m [1, 1, 0, 1, 0] [] M1 (s44_1 x0 x1 x2) = ref14_single_l1 m M1 x0 x1 x2
  | 0, _, _, _ => rfl
  | M1 + 1, x0, x1, x2 => by
    have h : ∀ J, l44 J m [1, 1, 0, 1, 0] [] (M1 + 1) (s44_1 x0 x1 x2) =
    (bif (decide (x0 < (List.length (Dt.L x1 9) : Int))) then
   (J 0 5 0 (s44_2 x0 x1 x2) (e44 J m [1, 1, 0, 1, 0, 0, 1] [M1] (s44_2 x0 x1 x2)))
    else
   (J 0 6 0 (s44_4 x1 x2) (e44 J m [1, 1, 1] [] (s44_4 x1 x2)))) := fun J => by kernel_rfl
    refine (h jn).trans ?_
    simp only [jn_eq, ref14_single_j2_eq m M1 (ref14_single_l1 m M1) (fun x0 x1 x2 => ref14_single_l1_eq m M1 x0 x1 x2), ref14_single_j4_eq m]
    rfl
theorem ref14_single_j0_eq (m : Nat) (x0 : Int) (x1 : Dt) (x2 : List Dt) : e44 jn m [1, 1, 0, 1] [] (s44_0 x0 x1 x2) = ref14_single_j0 m x0 x1 x2 := by
  have h : ∀ J, e44 J m [1, 1, 0, 1] [] (s44_0 x0 x1 x2) =
    (J 1 3 (Nat.succ m) (s44_1 x0 x1 x2) (l44 J m [1, 1, 0, 1, 0] [] (Nat.succ m) (s44_1 x0 x1 x2))) := fun J => by kernel_rfl
  exact (h jn).trans (by
    simp only [jn_eq, ref14_single_l1_eq m]
    rfl)
theorem ref14_single_eq (m : Nat) (a0 : Dt) : e44 jn m [] [] ⟨[(.dat 32 a0)], [], 0⟩ = ref14_single (m + 1) a0 := by
  have h : ∀ J, e44 J m [] [] ⟨[(.dat 32 a0)], [], 0⟩ =
    (J 0 3 0 (s44_0 0 a0 []) (e44 J m [1, 1, 0, 1] [] (s44_0 0 a0 []))) := fun J => by kernel_rfl
  refine (h jn).trans ?_
  simp only [jn_eq, ref14_single_j0_eq m]
  rfl
noncomputable def d28 (q : Res) : Option (Int × Int) := match q with
  | (.tup [.dat T0 x0, .dat T1 x1], []) => bif (Nat.beq T0 3 && Nat.beq T1 33) then some (x0.toInt, x1.toInt) else none
  | _ => none
theorem d28_sim {b : Res} {r : Int × Int} (h : d28 b = some r) : Sim Tryz.prog b ((.tup [(.dat 3 (.int r.1)), (.dat 33 (.int r.2))]), []) := by
  unfold d28 at h
  split at h
  · obtain ⟨hc, h2⟩ := bif_some h
    cases h2
    have e0 := beq_eq (and_l hc)
    have e1 := beq_eq (and_r hc)
    subst e0 e1
    exact Sim.of (.tup (.cons (.dat (.int Tryz.underlying3)) (.cons (.dat (.int Tryz.underlying33)) .nil))) .nil
  · cases h
noncomputable def e28 (J : Nat → Nat → Nat → St → Option (Int × Int) → Option (Int × Int)) (m : Nat) (p ms : List Nat) (σ : St) := evAt Tryz.prog env (ct m) J (m + 1) 42 72 Tryz.f42 d28 p ms σ
noncomputable def l28 (J : Nat → Nat → Nat → St → Option (Int × Int) → Option (Int × Int)) (m : Nat) (p ms : List Nat) (M : Nat) (σ : St) := loopAt Tryz.prog env (ct m) J (m + 1) 42 72 Tryz.f42 d28 p ms M σ
noncomputable def s28_8 (x0 x1 x2 : Int) (x3 : Dt) : St := ⟨tsOf [(1, (.dat 3 (.int x0))), (2, (.dat 3 (.int x1))), (3, (.ptr 0 [] 0)), (9, (.dat 3 (.int x2)))], [(.box 32 (.dat 32 x3))], 0⟩
noncomputable def s28_7 (x0 x1 x2 : Int) (x3 : Dt) : St := ⟨tsOf [(2, (.dat 3 (.int x0))), (3, (.ptr 0 [] 0)), (9, (.dat 3 (.int x1))), (11, (.dat 3 (.int x2)))], [(.box 32 (.dat 32 x3))], 0⟩
noncomputable def s28_6 (x0 x1 x2 : Int) (x3 x4 : Dt) : St := ⟨tsOf [(1, (.dat 3 (.int x0))), (2, (.dat 3 (.int x1))), (3, (.ptr 0 [] 0)), (9, (.dat 3 (.int x2))), (10, (.ptr 1 [] 0))], [(.box 32 (.dat 32 x3)), (.box 32 (.dat 32 x4))], 0⟩
noncomputable def s28_5 (x0 x1 x2 : Int) (x3 : Dt) : St := ⟨tsOf [(1, (.dat 3 (.int x0))), (2, (.dat 3 (.int x1))), (3, (.ptr 0 [] 0)), (9, (.dat 3 (.int x2)))], [(.box 32 (.dat 32 x3))], 0⟩
noncomputable def s28_9 (x0 : Int) : St := ⟨tsOf [(1, (.dat 3 (.int x0)))], [], 0⟩
noncomputable def s28_4 (x0 x1 x2 : Int) (x3 : Dt) : St := ⟨tsOf [(1, (.dat 3 (.int x0))), (2, (.dat 3 (.int x1))), (3, (.ptr 0 [] 0)), (9, (.dat 3 (.int x2)))], [(.box 32 (.dat 32 x3))], 0⟩
noncomputable def s28_3 (x0 x1 x2 : Int) (x3 : Dt) : St := ⟨tsOf [(1, (.dat 3 (.int x0))), (2, (.dat 3 (.int x1))), (3, (.ptr 0 [] 0)), (9, (.dat 3 (.int x2)))], [(.box 32 (.dat 32 x3))], 0⟩
noncomputable def s28_2 (x0 x1 : Int) (x2 : Dt) : St := ⟨tsOf [(1, (.dat 3 (.int x0))), (2, (.dat 3 (.int x1))), (3, (.ptr 0 [] 0))], [(.box 32 (.dat 32 x2))], 0⟩
noncomputable def s28_1 (x0 x1 : Int) (x2 : Dt) : St := ⟨tsOf [(1, (.dat 3 (.int x0))), (2, (.dat 3 (.int x1))), (3, (.ptr 0 [] 0))], [(.box 32 (.dat 32 x2))], 0⟩
noncomputable def s28_0 (x0 x1 : Int) (x2 : Bool) (x3 : Dt) : St := ⟨tsOf [(1, (.dat 3 (.int x0))), (2, (.dat 3 (.int x1))), (3, (.ptr 0 [] 0)), (18, (.dat 4 (.bool x2)))], [(.box 32 (.dat 32 x3))], 0⟩
theorem ref14_check_j8_eq (m : Nat) (M4 : Nat) (rec4 : Int → Int → Int → Dt → Option (Int × Int)) (h4 : ∀ (x0 x1 x2 : Int) (x3 : Dt), l28 jn m [1, 1, 1, 0, 1, 0] [] M4 (s28_4 x0 x1 x2 x3) = rec4 x0 x1 x2 x3) (x0 x1 x2 : Int) (x3 : Dt) : e28 jn m [1, 1, 1, 0, 1, 0, 0, 1, 1] [M4] (s28_8 x0 x1 x2 x3) = ref14_check_j8 m (ref14_check m) rec4 x0 x1 x2 x3 := by
  have h : ∀ J, e28 J m [1, 1, 1, 0, 1, 0, 0, 1, 1] [M4] (s28_8 x0 x1 x2 x3) =
    (J 1 7 M4 (s28_4 x0 x1 (IntKind.wrap .i64 (x2 + 1)) x3) (l28 J m [1, 1, 1, 0, 1, 0] [] M4 (s28_4 x0 x1 (IntKind.wrap .i64 (x2 + 1)) x3))) := fun J => by kernel_rfl
  exact (h jn).trans (by
    simp only [jn_eq, h4]
    rfl)
theorem ref14_check_j7_eq (m : Nat) (M4 : Nat) (rec4 : Int → Int → Int → Dt → Option (Int × Int)) (h4 : ∀ (x0 x1 x2 : Int) (x3 : Dt), l28 jn m [1, 1, 1, 0, 1, 0] [] M4 (s28_4 x0 x1 x2 x3) = rec4 x0 x1 x2 x3) (x0 x1 x2 : Int) (x3 : Dt) : e28 jn m [1, 1, 1, 0, 1, 0, 0, 1, 0, 0, 1, 1, 1, 1] [M4] (s28_7 x0 x1 x2 x3) = ref14_check_j7 m (ref14_check m) rec4 x0 x1 x2 x3 := by
  have h : ∀ J, e28 J m [1, 1, 1, 0, 1, 0, 0, 1, 0, 0, 1, 1, 1, 1] [M4] (s28_7 x0 x1 x2 x3) =
    (J 0 8 0 (s28_8 x2 x0 x1 x3) (e28 J m [1, 1, 1, 0, 1, 0, 0, 1, 1] [M4] (s28_8 x2 x0 x1 x3))) := fun J => by kernel_rfl
  exact (h jn).trans (by
    simp only [jn_eq, ref14_check_j8_eq m M4 rec4 h4]
    rfl)
theorem ref14_check_j6_eq (m : Nat) (M4 : Nat) (rec4 : Int → Int → Int → Dt → Option (Int × Int)) (h4 : ∀ (x0 x1 x2 : Int) (x3 : Dt), l28 jn m [1, 1, 1, 0, 1, 0] [] M4 (s28_4 x0 x1 x2 x3) = rec4 x0 x1 x2 x3) (x0 x1 x2 : Int) (x3 x4 : Dt) : e28 jn m [1, 1, 1, 0, 1, 0, 0, 1, 0, 0, 1, 1] [M4] (s28_6 x0 x1 x2 x3 x4) = ref14_check_j6 m (ref14_check m) rec4 x0 x1 x2 x3 x4 := by
  have h : ∀ J, e28 J m [1, 1, 1, 0, 1, 0, 0, 1, 0, 0, 1, 1] [M4] (s28_6 x0 x1 x2 x3 x4) =
    ((ref14_check m x4 (IntKind.wrap .i64 (x0 + 1)) (IntKind.wrap .i64 (x1 + 1))).bind fun r2 =>
   (bif (r2.2 != 0) then
   some (r2.1, r2.2)
   else
   (J 0 16 0 (s28_7 x1 x2 r2.1 x3) (e28 J m [1, 1, 1, 0, 1, 0, 0, 1, 0, 0, 1, 1, 1, 1] [M4] (s28_7 x1 x2 r2.1 x3))))) := fun J => by kernel_rfl
  exact (h jn).trans (by
    simp only [jn_eq, ref14_check_j7_eq m M4 rec4 h4]
    rfl)
theorem ref14_check_j5_eq (m : Nat) (M4 : Nat) (rec4 : Int → Int → Int → Dt → Option (Int × Int)) (h4 : ∀ (x0 x1 x2 : Int) (x3 : Dt), l28 jn m [1, 1, 1, 0, 1, 0] [] M4 (s28_4 x0 x1 x2 x3) = rec4 x0 x1 x2 x3) (x0 x1 x2 : Int) (x3 : Dt) : e28 jn m [1, 1, 1, 0, 1, 0, 0, 1] [M4] (s28_5 x0 x1 x2 x3) = ref14_check_j5 m (ref14_check m) rec4 x0 x1 x2 x3 := by
  have h : ∀ J, e28 J m [1, 1, 1, 0, 1, 0, 0, 1] [M4] (s28_5 x0 x1 x2 x3) =
    (bif (decide (x2 < (List.length (Dt.L x3 9) : Int))) then
   ((idx (Dt.L x3 9) x2).bind fun v1 =>
   (J 0 13 0 (s28_6 x0 x1 x2 x3 (Dt.fld v1 1)) (e28 J m [1, 1, 1, 0, 1, 0, 0, 1, 0, 0, 1, 1] [M4] (s28_6 x0 x1 x2 x3 (Dt.fld v1 1)))))
    else
   ((idx (Dt.L x3 11) (IntKind.wrap .i64 (x2 - (List.length (Dt.L x3 9) : Int)))).bind fun v3 =>
   (J 0 13 0 (s28_6 x0 x1 x2 x3 v3) (e28 J m [1, 1, 1, 0, 1, 0, 0, 1, 0, 0, 1, 1] [M4] (s28_6 x0 x1 x2 x3 v3))))) := fun J => by kernel_rfl
  exact (h jn).trans (by
    simp only [jn_eq, ref14_check_j6_eq m M4 rec4 h4]
    rfl)
theorem ref14_check_j9_eq (m : Nat) (x0 : Int) : e28 jn m [1, 1, 1, 1] [] (s28_9 x0) = ref14_check_j9 m (ref14_check m) x0 := by
  have h : ∀ J, e28 J m [1, 1, 1, 1] [] (s28_9 x0) =
    some (x0, 0) := fun J => by kernel_rfl
  exact (h jn).trans (rfl)
theorem ref14_check_l4_eq (m : Nat) : ∀ (M4 : Nat) (x0 x1 x2 : Int) (x3 : Dt), l28 jn m [1, 1, 1, 0, 1, 0] [] M4 (s28_4 x0 x1 x2 x3) = ref14_check_l4 m (ref14_check m) M4 x0 x1 x2 x3
  | 0, _, _, _, _ => rfl
  | M4 + 1, x0, x1, x2, x3 => by
    have h : ∀ J, l28 J m [1, 1, 1, 0, 1, 0] [] (M4 + 1) (s28_4 x0 x1 x2 x3) =
    (bif (decide (x2 < (IntKind.wrap .i64 ((List.length (Dt.L x3 9) : Int) + (List.length (Dt.L x3 11) : Int))))) then
   (J 0 9 0 (s28_5 x0 x1 x2 x3) (e28 J m [1, 1, 1, 0, 1, 0, 0, 1] [M4] (s28_5 x0 x1 x2 x3)))
    else
   (J 0 17 0 (s28_9 x0) (e28 J m [1, 1, 1, 1] [] (s28_9 x0)))) := fun J => by kernel_rfl
    refine (h jn).trans ?_
    simp only [jn_eq, ref14_check_j5_eq m M4 (ref14_check_l4 m (ref14_check m) M4) (fun x0 x1 x2 x3 => ref14_check_l4_eq m M4 x0 x1 x2 x3), ref14_check_j9_eq m]
    rfl
theorem ref14_check_j3_eq (m : Nat) (x0 x1 x2 : Int) (x3 : Dt) : e28 jn m [1, 1, 1, 0, 1] [] (s28_3 x0 x1 x2 x3) = ref14_check_j3 m (ref14_check m) x0 x1 x2 x3 := by
  have h : ∀ J, e28 J m [1, 1, 1, 0, 1] [] (s28_3 x0 x1 x2 x3) =
    (J 1 7 (Nat.succ m) (s28_4 x0 x1 x2 x3) (l28 J m [1, 1, 1, 0, 1, 0] [] (Nat.succ m) (s28_4 x0 x1 x2 x3))) := fun J => by kernel_rfl
  exact (h jn).trans (by
    simp only [jn_eq, ref14_check_l4_eq m]
    rfl)
theorem ref14_check_j2_eq (m : Nat) (x0 x1 : Int) (x2 : Dt) : e28 jn m [1, 1, 1] [] (s28_2 x0 x1 x2) = ref14_check_j2 m (ref14_check m) x0 x1 x2 := by
  have h : ∀ J, e28 J m [1, 1, 1] [] (s28_2 x0 x1 x2) =
    (J 0 7 0 (s28_3 x0 x1 0 x2) (e28 J m [1, 1, 1, 0, 1] [] (s28_3 x0 x1 0 x2))) := fun J => by kernel_rfl
  exact (h jn).trans (by
    simp only [jn_eq, ref14_check_j3_eq m]
    rfl)
theorem ref14_check_j1_eq (m : Nat) (x0 x1 : Int) (x2 : Dt) : e28 jn m [1, 1] [] (s28_1 x0 x1 x2) = ref14_check_j1 m (ref14_check m) x0 x1 x2 := by
  have h : ∀ J, e28 J m [1, 1] [] (s28_1 x0 x1 x2) =
    ((ref14_single m x2).bind fun r0 =>
   (bif (r0 != 0) then
   some (x0, r0)
   else
   (J 0 6 0 (s28_2 x0 x1 x2) (e28 J m [1, 1, 1] [] (s28_2 x0 x1 x2))))) := fun J => by kernel_rfl
  exact (h jn).trans (by
    simp only [jn_eq, ref14_check_j2_eq m]
    rfl)
theorem ref14_check_j0_eq (m : Nat) (x0 x1 : Int) (x2 : Bool) (x3 : Dt) : e28 jn m [1, 0, 1] [] (s28_0 x0 x1 x2 x3) = ref14_check_j0 m (ref14_check m) x0 x1 x2 x3 := by
  have h : ∀ J, e28 J m [1, 0, 1] [] (s28_0 x0 x1 x2 x3) =
    (bif x2 then
   some (x0, 2)
    else
   (J 0 3 0 (s28_1 x0 x1 x3) (e28 J m [1, 1] [] (s28_1 x0 x1 x3)))) := fun J => by kernel_rfl
  exact (h jn).trans (by
    simp only [jn_eq, ref14_check_j1_eq m]
    rfl)
theorem ref14_check_eq (m : Nat) (a0 : Dt) (a1 a2 : Int) : e28 jn m [] [] ⟨[(.dat 32 a0), (.dat 3 (.int a1)), (.dat 3 (.int a2))], [], 0⟩ = ref14_check (m + 1) a0 a1 a2 := by
  have h : ∀ J, e28 J m [] [] ⟨[(.dat 32 a0), (.dat 3 (.int a1)), (.dat 3 (.int a2))], [], 0⟩ =
    (bif (decide (16 < a2)) then
   (J 0 2 0 (s28_0 a1 a2 true a0) (e28 J m [1, 0, 1] [] (s28_0 a1 a2 true a0)))
    else
   (J 0 2 0 (s28_0 a1 a2 (decide (64 < a1)) a0) (e28 J m [1, 0, 1] [] (s28_0 a1 a2 (decide (64 < a1)) a0)))) := fun J => by kernel_rfl
  refine (h jn).trans ?_
  simp only [jn_eq, ref14_check_j0_eq m]
  rfl
noncomputable def d11 (q : Res) : Option Int := match q with
  | (.dat T0 x0, []) => bif Nat.beq T0 33 then some x0.toInt else none
  | _ => none
theorem d11_sim {b : Res} {r : Int} (h : d11 b = some r) : Sim Tryz.prog b ((.dat 33 (.int r)), []) := by
  unfold d11 at h
  split at h
  · obtain ⟨hc, h2⟩ := bif_some h
    cases h2
    have e0 := beq_eq hc
    subst e0
    exact Sim.of (.of (.dat (.int Tryz.underlying33)) rfl rfl) .nil
  · cases h
noncomputable def e11 (J : Nat → Nat → Nat → St → Option Int → Option Int) (m : Nat) (p ms : List Nat) (σ : St) := evAt Tryz.prog env (ct m) J (m + 1) 25 11 Tryz.f25 d11 p ms σ
noncomputable def l11 (J : Nat → Nat → Nat → St → Option Int → Option Int) (m : Nat) (p ms : List Nat) (M : Nat) (σ : St) := loopAt Tryz.prog env (ct m) J (m + 1) 25 11 Tryz.f25 d11 p ms M σ
theorem ref14_Valid_eq (m : Nat) (a0 : Dt) : e11 jn m [] [] ⟨[(.dat 32 a0)], [], 0⟩ = ref14_Valid (m + 1) a0 := by
  have h : ∀ J, e11 J m [] [] ⟨[(.dat 32 a0)], [], 0⟩ =
    ((ref14_check m a0 1 1).bind fun r0 =>
   some r0.2) := fun J => by kernel_rfl
  refine (h jn).trans ?_
  
  rfl
noncomputable def d4 (q : Res) : Option (Dt × Int) := match q with
  | (.tup [.dat T0 x0, .dat T1 x1], []) => bif (Nat.beq T0 32 && Nat.beq T1 33) then some (x0, x1.toInt) else none
  | _ => none
theorem d4_sim {b : Res} {r : Dt × Int} (h : d4 b = some r) : Sim Tryz.prog b ((.tup [(.dat 32 r.1), (.dat 33 (.int r.2))]), []) := by
  unfold d4 at h
  split at h
  · obtain ⟨hc, h2⟩ := bif_some h
    cases h2
    have e0 := beq_eq (and_l hc)
    have e1 := beq_eq (and_r hc)
    subst e0 e1
    exact Sim.of (.tup (.cons .same (.cons (.dat (.int Tryz.underlying33)) .nil))) .nil
  · cases h
noncomputable def e4 (J : Nat → Nat → Nat → St → Option (Dt × Int) → Option (Dt × Int)) (m : Nat) (p ms : List Nat) (σ : St) := evAt Tryz.prog env (ct m) J (m + 1) 9 31 Tryz.f9 d4 p ms σ
noncomputable def l4 (J : Nat → Nat → Nat → St → Option (Dt × Int) → Option (Dt × Int)) (m : Nat) (p ms : List Nat) (M : Nat) (σ : St) := loopAt Tryz.prog env (ct m) J (m + 1) 9 31 Tryz.f9 d4 p ms M σ
noncomputable def s4_3 (x0 x1 : Dt) : St := ⟨tsOf [(2, (.ptr 0 [] 0)), (4, (.ptr 1 [] 0))], [(.box 32 (.dat 32 x0)), (.box 32 (.dat 32 x1))], 0⟩
noncomputable def s4_2 (x0 x1 : Dt) : St := ⟨tsOf [(2, (.ptr 0 [] 0)), (4, (.ptr 1 [] 0))], [(.box 32 (.dat 32 x0)), (.box 32 (.dat 32 x1))], 0⟩
noncomputable def s4_1 (x0 x1 : Dt) : St := ⟨tsOf [(1, (.ptr 0 [] 0)), (2, (.ptr 1 [] 0))], [(.box 25 (.dat 25 x0)), (.box 32 (.dat 32 x1))], 0⟩
noncomputable def s4_0 (x0 : Bool) (x1 x2 : Dt) : St := ⟨tsOf [(1, (.ptr 0 [] 0)), (2, (.ptr 1 [] 0)), (14, (.dat 4 (.bool x0)))], [(.box 25 (.dat 25 x1)), (.box 32 (.dat 32 x2))], 0⟩
theorem ref14_Parse_j3_eq (m : Nat) (x0 x1 : Dt) : e4 jn m [1, 1, 1, 1, 1] [] (s4_3 x0 x1) = ref14_Parse_j3 m x0 x1 := by
  have h : ∀ J, e4 J m [1, 1, 1, 1, 1] [] (s4_3 x0 x1) =
    some (x1, 0) := fun J => by kernel_rfl
  exact (h jn).trans (rfl)
theorem ref14_Parse_j2_eq (m : Nat) (x0 x1 : Dt) : e4 jn m [1, 1, 1, 1] [] (s4_2 x0 x1) = ref14_Parse_j2 m x0 x1 := by
  have h : ∀ J, e4 J m [1, 1, 1, 1] [] (s4_2 x0 x1) =
    ((ref14_Valid m x1).bind fun r1 =>
   (bif (r1 != 0) then
   some (kza2d60, r1)
   else
   (J 0 9 0 (s4_3 x0 x1) (e4 J m [1, 1, 1, 1, 1] [] (s4_3 x0 x1))))) := fun J => by kernel_rfl
  exact (h jn).trans (by
    simp only [jn_eq, ref14_Parse_j3_eq m]
    rfl)
theorem ref14_Parse_j1_eq (m : Nat) (x0 x1 : Dt) : e4 jn m [1, 1] [] (s4_1 x0 x1) = ref14_Parse_j1 m x0 x1 := by
  have h : ∀ J, e4 J m [1, 1] [] (s4_1 x0 x1) =
    ((ref14_parse m x0).bind fun r0 =>
   (bif (Bool.not r0.2) then
   some (kza2d60, 4)
   else
   (J 0 6 0 (s4_2 x1 r0.1) (e4 J m [1, 1, 1, 1] [] (s4_2 x1 r0.1))))) := fun J => by kernel_rfl
  exact (h jn).trans (by
    simp only [jn_eq, ref14_Parse_j2_eq m]
    rfl)
theorem ref14_Parse_j0_eq (m : Nat) (x0 : Bool) (x1 x2 : Dt) : e4 jn m [1, 0, 1] [] (s4_0 x0 x1 x2) = ref14_Parse_j0 m x0 x1 x2 := by
  have h : ∀ J, e4 J m [1, 0, 1] [] (s4_0 x0 x1 x2) =
    (bif x0 then
   some (kza2d60, 8)
    else
   (J 0 3 0 (s4_1 x1 x2) (e4 J m [1, 1] [] (s4_1 x1 x2)))) := fun J => by kernel_rfl
  exact (h jn).trans (by
    simp only [jn_eq, ref14_Parse_j1_eq m]
    rfl)
theorem ref14_Parse_eq (m : Nat) (a0 : Dt) : e4 jn m [] [] ⟨[(.dat 25 a0)], [], 0⟩ = ref14_Parse (m + 1) a0 := by
  have h : ∀ J, e4 J m [] [] ⟨[(.dat 25 a0)], [], 0⟩ =
    (bif ((Dt.I a0 0) != 5) then
   (J 0 2 0 (s4_0 true a0 kza2d60) (e4 J m [1, 0, 1] [] (s4_0 true a0 kza2d60)))
    else
   ((ref01_Formed m a0).bind fun r2 =>
   (J 0 2 0 (s4_0 (Bool.not r2) a0 kza2d60) (e4 J m [1, 0, 1] [] (s4_0 (Bool.not r2) a0 kza2d60))))) := fun J => by kernel_rfl
  refine (h jn).trans ?_
  simp only [jn_eq, ref14_Parse_j0_eq m]
  rfl
noncomputable def d63 (q : Res) : Option Bool := match q with
  | (.dat T0 x0, []) => bif Nat.beq T0 4 then some x0.toBool else none
  | _ => none
theorem d63_sim {b : Res} {r : Bool} (h : d63 b = some r) : Sim Tryz.prog b ((.dat 4 (.bool r)), []) := by
  unfold d63 at h
  split at h
  · obtain ⟨hc, h2⟩ := bif_some h
    cases h2
    have e0 := beq_eq hc
    subst e0
    exact Sim.of (.of (.dat (.bool Tryz.underlying4)) rfl rfl) .nil
  · cases h
noncomputable def e63 (J : Nat → Nat → Nat → St → Option Bool → Option Bool) (m : Nat) (p ms : List Nat) (σ : St) := evAt Tryz.prog env (ct m) J (m + 1) 116 39 Tryz.f116 d63 p ms σ
noncomputable def l63 (J : Nat → Nat → Nat → St → Option Bool → Option Bool) (m : Nat) (p ms : List Nat) (M : Nat) (σ : St) := loopAt Tryz.prog env (ct m) J (m + 1) 116 39 Tryz.f116 d63 p ms M σ
noncomputable def s63_6 (x0 : ByteArray) (x1 x2 : Int) : St := ⟨tsOf [(0, (.dat 9 (.str x0))), (18, (.dat 3 (.int x1))), (19, (.dat 3 (.int x2)))], [], 0⟩
noncomputable def s63_5 (x0 : ByteArray) (x1 x2 : Int) (x3 : Bool) : St := ⟨tsOf [(0, (.dat 9 (.str x0))), (18, (.dat 3 (.int x1))), (19, (.dat 3 (.int x2))), (37, (.dat 4 (.bool x3)))], [], 0⟩
noncomputable def s63_4 (x0 : ByteArray) (x1 x2 : Int) : St := ⟨tsOf [(0, (.dat 9 (.str x0))), (18, (.dat 3 (.int x1))), (19, (.dat 3 (.int x2)))], [], 0⟩
noncomputable def s63_7 : St := ⟨tsOf [], [], 0⟩
noncomputable def s63_3 (x0 : ByteArray) (x1 x2 : Int) : St := ⟨tsOf [(0, (.dat 9 (.str x0))), (18, (.dat 3 (.int x1))), (19, (.dat 3 (.int x2)))], [], 0⟩
noncomputable def s63_2 (x0 : ByteArray) (x1 x2 : Int) : St := ⟨tsOf [(0, (.dat 9 (.str x0))), (18, (.dat 3 (.int x1))), (19, (.dat 3 (.int x2)))], [], 0⟩
noncomputable def s63_1 (x0 : ByteArray) : St := ⟨tsOf [(0, (.dat 9 (.str x0)))], [], 0⟩
noncomputable def s63_0 (x0 : ByteArray) (x1 : Bool) : St := ⟨tsOf [(0, (.dat 9 (.str x0))), (16, (.dat 4 (.bool x1)))], [], 0⟩
theorem value_isName_j6_eq (m : Nat) (M3 : Nat) (rec3 : ByteArray → Int → Int → Option Bool) (h3 : ∀ (x0 : ByteArray) (x1 x2 : Int), l63 jn m [1, 1, 0, 1, 0] [] M3 (s63_3 x0 x1 x2) = rec3 x0 x1 x2) (x0 : ByteArray) (x1 x2 : Int) : e63 jn m [1, 1, 0, 1, 0, 0, 1, 1, 1] [M3] (s63_6 x0 x1 x2) = value_isName_j6 m rec3 x0 x1 x2 := by
  have h : ∀ J, e63 J m [1, 1, 0, 1, 0, 0, 1, 1, 1] [M3] (s63_6 x0 x1 x2) =
    (J 1 4 M3 (s63_3 x0 x1 (IntKind.wrap .i64 (x2 + 1))) (l63 J m [1, 1, 0, 1, 0] [] M3 (s63_3 x0 x1 (IntKind.wrap .i64 (x2 + 1))))) := fun J => by kernel_rfl
  exact (h jn).trans (by
    simp only [jn_eq, h3]
    rfl)
theorem value_isName_j5_eq (m : Nat) (M3 : Nat) (rec3 : ByteArray → Int → Int → Option Bool) (h3 : ∀ (x0 : ByteArray) (x1 x2 : Int), l63 jn m [1, 1, 0, 1, 0] [] M3 (s63_3 x0 x1 x2) = rec3 x0 x1 x2) (x0 : ByteArray) (x1 x2 : Int) (x3 : Bool) : e63 jn m [1, 1, 0, 1, 0, 0, 1, 1, 0, 0, 1, 1] [M3] (s63_5 x0 x1 x2 x3) = value_isName_j5 m rec3 x0 x1 x2 x3 := by
  have h : ∀ J, e63 J m [1, 1, 0, 1, 0, 0, 1, 1, 0, 0, 1, 1] [M3] (s63_5 x0 x1 x2 x3) =
    (bif x3 then
   some false
    else
   (J 0 8 0 (s63_6 x0 x1 x2) (e63 J m [1, 1, 0, 1, 0, 0, 1, 1, 1] [M3] (s63_6 x0 x1 x2)))) := fun J => by kernel_rfl
  exact (h jn).trans (by
    simp only [jn_eq, value_isName_j6_eq m M3 rec3 h3]
    rfl)
theorem value_isName_j4_eq (m : Nat) (M3 : Nat) (rec3 : ByteArray → Int → Int → Option Bool) (h3 : ∀ (x0 : ByteArray) (x1 x2 : Int), l63 jn m [1, 1, 0, 1, 0] [] M3 (s63_3 x0 x1 x2) = rec3 x0 x1 x2) (x0 : ByteArray) (x1 x2 : Int) : e63 jn m [1, 1, 0, 1, 0, 0, 1, 1] [M3] (s63_4 x0 x1 x2) = value_isName_j4 m rec3 x0 x1 x2 := by
  have h : ∀ J, e63 J m [1, 1, 0, 1, 0, 0, 1, 1] [M3] (s63_4 x0 x1 x2) =
    ((idxS x0 x2).bind fun v0 =>
   (bif (decide (v0 < 33)) then
   (J 0 7 0 (s63_5 x0 x1 x2 true) (e63 J m [1, 1, 0, 1, 0, 0, 1, 1, 0, 0, 1, 1] [M3] (s63_5 x0 x1 x2 true)))
   else
   ((idxS x0 x2).bind fun v1 =>
   (bif (decide (126 < v1)) then
   (J 0 7 0 (s63_5 x0 x1 x2 true) (e63 J m [1, 1, 0, 1, 0, 0, 1, 1, 0, 0, 1, 1] [M3] (s63_5 x0 x1 x2 true)))
   else
   ((idxS x0 x2).bind fun v2 =>
   (J 0 7 0 (s63_5 x0 x1 x2 (v2 == 46)) (e63 J m [1, 1, 0, 1, 0, 0, 1, 1, 0, 0, 1, 1] [M3] (s63_5 x0 x1 x2 (v2 == 46))))))))) := fun J => by kernel_rfl
  exact (h jn).trans (by
    simp only [jn_eq, value_isName_j5_eq m M3 rec3 h3]
    rfl)
theorem value_isName_j7_eq (m : Nat) : e63 jn m [1, 1, 1] [] s63_7 = value_isName_j7 m := by
  have h : ∀ J, e63 J m [1, 1, 1] [] s63_7 =
    some true := fun J => by kernel_rfl
  exact (h jn).trans (rfl)
theorem value_isName_l3_eq (m : Nat) : ∀ (M3 : Nat) (x0 : ByteArray) (x1 x2 : Int), l63 jn m [1, 1, 0, 1, 0] [] M3 (s63_3 x0 x1 x2) = value_isName_l3 m M3 x0 x1 x2
  | 0, _, _, _ => rfl
  | M3 + 1, x0, x1, x2 => by
    have h : ∀ J, l63 J m [1, 1, 0, 1, 0] [] (M3 + 1) (s63_3 x0 x1 x2) =
    (bif (decide (x2 < x1)) then
   (J 0 5 0 (s63_4 x0 x1 x2) (e63 J m [1, 1, 0, 1, 0, 0, 1, 1] [M3] (s63_4 x0 x1 x2)))
    else
   (J 0 9 0 s63_7 (e63 J m [1, 1, 1] [] s63_7))) := fun J => by kernel_rfl
    refine (h jn).trans ?_
    simp only [jn_eq, value_isName_j4_eq m M3 (value_isName_l3 m M3) (fun x0 x1 x2 => value_isName_l3_eq m M3 x0 x1 x2), value_isName_j7_eq m]
    rfl
theorem value_isName_j2_eq (m : Nat) (x0 : ByteArray) (x1 x2 : Int) : e63 jn m [1, 1, 0, 1] [] (s63_2 x0 x1 x2) = value_isName_j2 m x0 x1 x2 := by
  have h : ∀ J, e63 J m [1, 1, 0, 1] [] (s63_2 x0 x1 x2) =
    (J 1 4 (Nat.succ m) (s63_3 x0 x1 x2) (l63 J m [1, 1, 0, 1, 0] [] (Nat.succ m) (s63_3 x0 x1 x2))) := fun J => by kernel_rfl
  exact (h jn).trans (by
    simp only [jn_eq, value_isName_l3_eq m]
    rfl)
theorem value_isName_j1_eq (m : Nat) (x0 : ByteArray) : e63 jn m [1, 1] [] (s63_1 x0) = value_isName_j1 m x0 := by
  have h : ∀ J, e63 J m [1, 1] [] (s63_1 x0) =
    (J 0 4 0 (s63_2 x0 (ByteArray.size x0 : Int) 0) (e63 J m [1, 1, 0, 1] [] (s63_2 x0 (ByteArray.size x0 : Int) 0))) := fun J => by kernel_rfl
  exact (h jn).trans (by
    simp only [jn_eq, value_isName_j2_eq m]
    rfl)
theorem value_isName_j0_eq (m : Nat) (x0 : ByteArray) (x1 : Bool) : e63 jn m [1, 0, 1] [] (s63_0 x0 x1) = value_isName_j0 m x0 x1 := by
  have h : ∀ J, e63 J m [1, 0, 1] [] (s63_0 x0 x1) =
    (bif x1 then
   some false
    else
   (J 0 3 0 (s63_1 x0) (e63 J m [1, 1] [] (s63_1 x0)))) := fun J => by kernel_rfl
  exact (h jn).trans (by
    simp only [jn_eq, value_isName_j1_eq m]
    rfl)
theorem value_isName_eq (m : Nat) (a0 : ByteArray) : e63 jn m [] [] ⟨[(.dat 9 (.str a0))], [], 0⟩ = value_isName (m + 1) a0 := by
  have h : ∀ J, e63 J m [] [] ⟨[(.dat 9 (.str a0))], [], 0⟩ =
    (bif (decide ((ByteArray.size a0 : Int) < 1)) then
   (J 0 2 0 (s63_0 a0 true) (e63 J m [1, 0, 1] [] (s63_0 a0 true)))
    else
   (bif (decide (32 < (ByteArray.size a0 : Int))) then
   (J 0 2 0 (s63_0 a0 true) (e63 J m [1, 0, 1] [] (s63_0 a0 true)))
   else
   ((idxS a0 0).bind fun v3 =>
   (J 0 2 0 (s63_0 a0 (v3 == 36)) (e63 J m [1, 0, 1] [] (s63_0 a0 (v3 == 36))))))) := fun J => by kernel_rfl
  refine (h jn).trans ?_
  simp only [jn_eq, value_isName_j0_eq m]
  rfl
noncomputable def d39 (q : Res) : Option Bool := match q with
  | (.dat T0 x0, []) => bif Nat.beq T0 4 then some x0.toBool else none
  | _ => none
theorem d39_sim {b : Res} {r : Bool} (h : d39 b = some r) : Sim Tryz.prog b ((.dat 4 (.bool r)), []) := by
  unfold d39 at h
  split at h
  · obtain ⟨hc, h2⟩ := bif_some h
    cases h2
    have e0 := beq_eq hc
    subst e0
    exact Sim.of (.of (.dat (.bool Tryz.underlying4)) rfl rfl) .nil
  · cases h
noncomputable def e39 (J : Nat → Nat → Nat → St → Option Bool → Option Bool) (m : Nat) (p ms : List Nat) (σ : St) := evAt Tryz.prog env (ct m) J (m + 1) 65 132 Tryz.f65 d39 p ms σ
noncomputable def l39 (J : Nat → Nat → Nat → St → Option Bool → Option Bool) (m : Nat) (p ms : List Nat) (M : Nat) (σ : St) := loopAt Tryz.prog env (ct m) J (m + 1) 65 132 Tryz.f65 d39 p ms M σ
noncomputable def s39_10 (x0 : List Dt) (x1 x2 : Int) : St := ⟨tsOf [(117, (.dat 22 (.lst x0))), (118, (.dat 3 (.int x1))), (119, (.dat 3 (.int x2)))], [], 0⟩
noncomputable def s39_9 (x0 : List Dt) (x1 x2 : Int) : St := ⟨tsOf [(117, (.dat 22 (.lst x0))), (118, (.dat 3 (.int x1))), (119, (.dat 3 (.int x2)))], [], 0⟩
noncomputable def s39_11 : St := ⟨tsOf [], [], 0⟩
noncomputable def s39_8 (x0 : List Dt) (x1 x2 : Int) : St := ⟨tsOf [(117, (.dat 22 (.lst x0))), (118, (.dat 3 (.int x1))), (119, (.dat 3 (.int x2)))], [], 0⟩
noncomputable def s39_7 (x0 : List Dt) (x1 x2 : Int) : St := ⟨tsOf [(117, (.dat 22 (.lst x0))), (118, (.dat 3 (.int x1))), (119, (.dat 3 (.int x2)))], [], 0⟩
noncomputable def s39_12 : St := ⟨tsOf [], [], 0⟩
noncomputable def s39_6 (x0 : Int) (x1 : Bool) (x2 : Dt) : St := ⟨tsOf [(1, (.ptr 0 [] 0)), (70, (.dat 3 (.int x0))), (71, (.dat 4 (.bool x1)))], [(.box 25 (.dat 25 x2))], 0⟩
noncomputable def s39_5 (x0 : Dt) : St := ⟨tsOf [(1, (.ptr 0 [] 0))], [(.box 25 (.dat 25 x0))], 0⟩
noncomputable def s39_4 (x0 : Bool) (x1 : Dt) : St := ⟨tsOf [(1, (.ptr 0 [] 0)), (68, (.dat 4 (.bool x0)))], [(.box 25 (.dat 25 x1))], 0⟩
noncomputable def s39_3 (x0 : Dt) : St := ⟨tsOf [(1, (.ptr 0 [] 0))], [(.box 25 (.dat 25 x0))], 0⟩
noncomputable def s39_2 (x0 : Bool) (x1 : Dt) : St := ⟨tsOf [(1, (.ptr 0 [] 0)), (48, (.dat 4 (.bool x0)))], [(.box 25 (.dat 25 x1))], 0⟩
noncomputable def s39_1 (x0 x1 : Bool) (x2 : Dt) : St := ⟨tsOf [(1, (.ptr 0 [] 0)), (3, (.dat 4 (.bool x0))), (4, (.dat 4 (.bool x1)))], [(.box 25 (.dat 25 x2))], 0⟩
noncomputable def s39_0 (x0 : Bool) (x1 : Dt) : St := ⟨tsOf [(1, (.ptr 0 [] 0)), (3, (.dat 4 (.bool x0)))], [(.box 25 (.dat 25 x1))], 0⟩
theorem value_sound_j10_eq (m : Nat) (M8 : Nat) (rec8 : List Dt → Int → Int → Option Bool) (h8 : ∀ (x0 : List Dt) (x1 x2 : Int), l39 jn m [1, 1, 1, 1, 1, 0, 1, 0, 1, 1, 1, 1, 1, 1, 1, 1, 1, 1, 1, 1, 1, 0, 0, 1, 0] [] M8 (s39_8 x0 x1 x2) = rec8 x0 x1 x2) (x0 : List Dt) (x1 x2 : Int) : e39 jn m [1, 1, 1, 1, 1, 0, 1, 0, 1, 1, 1, 1, 1, 1, 1, 1, 1, 1, 1, 1, 1, 0, 0, 1, 0, 0, 1, 1, 1] [M8] (s39_10 x0 x1 x2) = value_sound_j10 m (value_sound m) (value_soundFields m) rec8 x0 x1 x2 := by
  have h : ∀ J, e39 J m [1, 1, 1, 1, 1, 0, 1, 0, 1, 1, 1, 1, 1, 1, 1, 1, 1, 1, 1, 1, 1, 0, 0, 1, 0, 0, 1, 1, 1] [M8] (s39_10 x0 x1 x2) =
    (J 1 25 M8 (s39_8 x0 x1 (IntKind.wrap .i64 (x2 + 1))) (l39 J m [1, 1, 1, 1, 1, 0, 1, 0, 1, 1, 1, 1, 1, 1, 1, 1, 1, 1, 1, 1, 1, 0, 0, 1, 0] [] M8 (s39_8 x0 x1 (IntKind.wrap .i64 (x2 + 1))))) := fun J => by kernel_rfl
  exact (h jn).trans (by
    simp only [jn_eq, h8]
    rfl)
theorem value_sound_j9_eq (m : Nat) (M8 : Nat) (rec8 : List Dt → Int → Int → Option Bool) (h8 : ∀ (x0 : List Dt) (x1 x2 : Int), l39 jn m [1, 1, 1, 1, 1, 0, 1, 0, 1, 1, 1, 1, 1, 1, 1, 1, 1, 1, 1, 1, 1, 0, 0, 1, 0] [] M8 (s39_8 x0 x1 x2) = rec8 x0 x1 x2) (x0 : List Dt) (x1 x2 : Int) : e39 jn m [1, 1, 1, 1, 1, 0, 1, 0, 1, 1, 1, 1, 1, 1, 1, 1, 1, 1, 1, 1, 1, 0, 0, 1, 0, 0, 1, 1] [M8] (s39_9 x0 x1 x2) = value_sound_j9 m (value_sound m) (value_soundFields m) rec8 x0 x1 x2 := by
  have h : ∀ J, e39 J m [1, 1, 1, 1, 1, 0, 1, 0, 1, 1, 1, 1, 1, 1, 1, 1, 1, 1, 1, 1, 1, 0, 0, 1, 0, 0, 1, 1] [M8] (s39_9 x0 x1 x2) =
    ((idx x0 x2).bind fun v1 =>
   ((value_sound m v1).bind fun r2 =>
   (bif (Bool.not r2) then
   some false
   else
   (J 0 29 0 (s39_10 x0 x1 x2) (e39 J m [1, 1, 1, 1, 1, 0, 1, 0, 1, 1, 1, 1, 1, 1, 1, 1, 1, 1, 1, 1, 1, 0, 0, 1, 0, 0, 1, 1, 1] [M8] (s39_10 x0 x1 x2)))))) := fun J => by kernel_rfl
  exact (h jn).trans (by
    simp only [jn_eq, value_sound_j10_eq m M8 rec8 h8]
    rfl)
theorem value_sound_j11_eq (m : Nat) : e39 jn m [1, 1, 1, 1, 1, 0, 1, 0, 1, 1, 1, 1, 1, 1, 1, 1, 1, 1, 1, 1, 1, 0, 1] [] s39_11 = value_sound_j11 m (value_sound m) (value_soundFields m) := by
  have h : ∀ J, e39 J m [1, 1, 1, 1, 1, 0, 1, 0, 1, 1, 1, 1, 1, 1, 1, 1, 1, 1, 1, 1, 1, 0, 1] [] s39_11 =
    some true := fun J => by kernel_rfl
  exact (h jn).trans (rfl)
theorem value_sound_l8_eq (m : Nat) : ∀ (M8 : Nat) (x0 : List Dt) (x1 x2 : Int), l39 jn m [1, 1, 1, 1, 1, 0, 1, 0, 1, 1, 1, 1, 1, 1, 1, 1, 1, 1, 1, 1, 1, 0, 0, 1, 0] [] M8 (s39_8 x0 x1 x2) = value_sound_l8 m (value_sound m) (value_soundFields m) M8 x0 x1 x2
  | 0, _, _, _ => rfl
  | M8 + 1, x0, x1, x2 => by
    have h : ∀ J, l39 J m [1, 1, 1, 1, 1, 0, 1, 0, 1, 1, 1, 1, 1, 1, 1, 1, 1, 1, 1, 1, 1, 0, 0, 1, 0] [] (M8 + 1) (s39_8 x0 x1 x2) =
    (bif (decide (x2 < x1)) then
   (J 0 26 0 (s39_9 x0 x1 x2) (e39 J m [1, 1, 1, 1, 1, 0, 1, 0, 1, 1, 1, 1, 1, 1, 1, 1, 1, 1, 1, 1, 1, 0, 0, 1, 0, 0, 1, 1] [M8] (s39_9 x0 x1 x2)))
    else
   (J 0 30 0 s39_11 (e39 J m [1, 1, 1, 1, 1, 0, 1, 0, 1, 1, 1, 1, 1, 1, 1, 1, 1, 1, 1, 1, 1, 0, 1] [] s39_11))) := fun J => by kernel_rfl
    refine (h jn).trans ?_
    simp only [jn_eq, value_sound_j9_eq m M8 (value_sound_l8 m (value_sound m) (value_soundFields m) M8) (fun x0 x1 x2 => value_sound_l8_eq m M8 x0 x1 x2), value_sound_j11_eq m]
    rfl
theorem value_sound_j7_eq (m : Nat) (x0 : List Dt) (x1 x2 : Int) : e39 jn m [1, 1, 1, 1, 1, 0, 1, 0, 1, 1, 1, 1, 1, 1, 1, 1, 1, 1, 1, 1, 1, 0, 0, 1] [] (s39_7 x0 x1 x2) = value_sound_j7 m (value_sound m) (value_soundFields m) x0 x1 x2 := by
  have h : ∀ J, e39 J m [1, 1, 1, 1, 1, 0, 1, 0, 1, 1, 1, 1, 1, 1, 1, 1, 1, 1, 1, 1, 1, 0, 0, 1] [] (s39_7 x0 x1 x2) =
    (J 1 25 (Nat.succ m) (s39_8 x0 x1 x2) (l39 J m [1, 1, 1, 1, 1, 0, 1, 0, 1, 1, 1, 1, 1, 1, 1, 1, 1, 1, 1, 1, 1, 0, 0, 1, 0] [] (Nat.succ m) (s39_8 x0 x1 x2))) := fun J => by kernel_rfl
  exact (h jn).trans (by
    simp only [jn_eq, value_sound_l8_eq m]
    rfl)
theorem value_sound_j12_eq (m : Nat) : e39 jn m [1, 1, 1, 1, 1, 1] [] s39_12 = value_sound_j12 m (value_sound m) (value_soundFields m) := by
  have h : ∀ J, e39 J m [1, 1, 1, 1, 1, 1] [] s39_12 =
    some false := fun J => by kernel_rfl
  exact (h jn).trans (rfl)
theorem value_sound_j6_eq (m : Nat) (x0 : Int) (x1 : Bool) (x2 : Dt) : e39 jn m [1, 1, 1, 1, 1, 0, 1, 0, 1] [] (s39_6 x0 x1 x2) = value_sound_j6 m (value_sound m) (value_soundFields m) x0 x1 x2 := by
  have h : ∀ J, e39 J m [1, 1, 1, 1, 1, 0, 1, 0, 1] [] (s39_6 x0 x1 x2) =
    (bif x1 then
   some true
    else
   (bif (x0 == 9) then
   (bif ((Dt.I x2 1) == 0) then
   some true
   else
   some ((Dt.I x2 1) == 1))
   else
   (bif (x0 == 10) then
   some (decide (0 ≤ (Dt.I x2 1)))
   else
   (bif (x0 == 4) then
   (bif (decide ((ByteArray.size (Dt.S x2 2) : Int) ≤ 4096)) then
   ((utf8_ValidString (Dt.S x2 2)).bind fun r0 =>
   some r0)
   else
   some false)
   else
   (bif (x0 == 7) then
   some (decide ((ByteArray.size (Dt.S x2 2) : Int) ≤ 4096))
   else
   (bif (x0 == 8) then
   some ((ByteArray.size (Dt.S x2 2) : Int) == 12)
   else
   (bif (x0 == 6) then
   (J 0 25 0 (s39_7 (Dt.L x2 3) (List.length (Dt.L x2 3) : Int) 0) (e39 J m [1, 1, 1, 1, 1, 0, 1, 0, 1, 1, 1, 1, 1, 1, 1, 1, 1, 1, 1, 1, 1, 0, 0, 1] [] (s39_7 (Dt.L x2 3) (List.length (Dt.L x2 3) : Int) 0)))
   else
   (bif (x0 == 5) then
   ((value_soundFields m (Dt.L x2 4)).bind fun r3 =>
   some r3)
   else
   (J 0 33 0 s39_12 (e39 J m [1, 1, 1, 1, 1, 1] [] s39_12)))))))))) := fun J => by kernel_rfl
  exact (h jn).trans (by
    simp only [jn_eq, value_sound_j7_eq m, value_sound_j12_eq m]
    rfl)
theorem value_sound_j5_eq (m : Nat) (x0 : Dt) : e39 jn m [1, 1, 1, 1, 1] [] (s39_5 x0) = value_sound_j5 m (value_sound m) (value_soundFields m) x0 := by
  have h : ∀ J, e39 J m [1, 1, 1, 1, 1] [] (s39_5 x0) =
    (bif ((Dt.I x0 0) == 1) then
   (J 0 12 0 (s39_6 (Dt.I x0 0) ((Dt.I x0 0) == 1) x0) (e39 J m [1, 1, 1, 1, 1, 0, 1, 0, 1] [] (s39_6 (Dt.I x0 0) ((Dt.I x0 0) == 1) x0)))
    else
   (bif ((Dt.I x0 0) == 2) then
   (J 0 12 0 (s39_6 (Dt.I x0 0) ((Dt.I x0 0) == 2) x0) (e39 J m [1, 1, 1, 1, 1, 0, 1, 0, 1] [] (s39_6 (Dt.I x0 0) ((Dt.I x0 0) == 2) x0)))
   else
   (bif ((Dt.I x0 0) == 11) then
   (J 0 12 0 (s39_6 (Dt.I x0 0) ((Dt.I x0 0) == 11) x0) (e39 J m [1, 1, 1, 1, 1, 0, 1, 0, 1] [] (s39_6 (Dt.I x0 0) ((Dt.I x0 0) == 11) x0)))
   else
   (J 0 12 0 (s39_6 (Dt.I x0 0) ((Dt.I x0 0) == 3) x0) (e39 J m [1, 1, 1, 1, 1, 0, 1, 0, 1] [] (s39_6 (Dt.I x0 0) ((Dt.I x0 0) == 3) x0)))))) := fun J => by kernel_rfl
  exact (h jn).trans (by
    simp only [jn_eq, value_sound_j6_eq m]
    rfl)
theorem value_sound_j4_eq (m : Nat) (x0 : Bool) (x1 : Dt) : e39 jn m [1, 1, 1, 1, 0, 1] [] (s39_4 x0 x1) = value_sound_j4 m (value_sound m) (value_soundFields m) x0 x1 := by
  have h : ∀ J, e39 J m [1, 1, 1, 1, 0, 1] [] (s39_4 x0 x1) =
    (bif x0 then
   some false
    else
   (J 0 7 0 (s39_5 x1) (e39 J m [1, 1, 1, 1, 1] [] (s39_5 x1)))) := fun J => by kernel_rfl
  exact (h jn).trans (by
    simp only [jn_eq, value_sound_j5_eq m]
    rfl)
theorem value_sound_j3_eq (m : Nat) (x0 : Dt) : e39 jn m [1, 1, 1, 1] [] (s39_3 x0) = value_sound_j3 m (value_sound m) (value_soundFields m) x0 := by
  have h : ∀ J, e39 J m [1, 1, 1, 1] [] (s39_3 x0) =
    (bif ((Dt.I x0 0) != 6) then
   (bif (decide (0 < (List.length (Dt.L x0 3) : Int))) then
   (J 0 6 0 (s39_4 true x0) (e39 J m [1, 1, 1, 1, 0, 1] [] (s39_4 true x0)))
   else
   (bif ((Dt.I x0 0) != 5) then
   (J 0 6 0 (s39_4 (decide (0 < (List.length (Dt.L x0 4) : Int))) x0) (e39 J m [1, 1, 1, 1, 0, 1] [] (s39_4 (decide (0 < (List.length (Dt.L x0 4) : Int))) x0)))
   else
   (J 0 6 0 (s39_4 false x0) (e39 J m [1, 1, 1, 1, 0, 1] [] (s39_4 false x0)))))
    else
   (bif ((Dt.I x0 0) != 5) then
   (J 0 6 0 (s39_4 (decide (0 < (List.length (Dt.L x0 4) : Int))) x0) (e39 J m [1, 1, 1, 1, 0, 1] [] (s39_4 (decide (0 < (List.length (Dt.L x0 4) : Int))) x0)))
   else
   (J 0 6 0 (s39_4 false x0) (e39 J m [1, 1, 1, 1, 0, 1] [] (s39_4 false x0))))) := fun J => by kernel_rfl
  exact (h jn).trans (by
    simp only [jn_eq, value_sound_j4_eq m]
    rfl)
theorem value_sound_j2_eq (m : Nat) (x0 : Bool) (x1 : Dt) : e39 jn m [1, 1, 1, 0, 1] [] (s39_2 x0 x1) = value_sound_j2 m (value_sound m) (value_soundFields m) x0 x1 := by
  have h : ∀ J, e39 J m [1, 1, 1, 0, 1] [] (s39_2 x0 x1) =
    (bif x0 then
   some false
    else
   (J 0 5 0 (s39_3 x1) (e39 J m [1, 1, 1, 1] [] (s39_3 x1)))) := fun J => by kernel_rfl
  exact (h jn).trans (by
    simp only [jn_eq, value_sound_j3_eq m]
    rfl)
theorem value_sound_j1_eq (m : Nat) (x0 x1 : Bool) (x2 : Dt) : e39 jn m [1, 1, 1] [] (s39_1 x0 x1 x2) = value_sound_j1 m (value_sound m) (value_soundFields m) x0 x1 x2 := by
  have h : ∀ J, e39 J m [1, 1, 1] [] (s39_1 x0 x1 x2) =
    (bif (Bool.not x0) then
   (bif ((Dt.I x2 1) != 0) then
   (J 0 4 0 (s39_2 true x2) (e39 J m [1, 1, 1, 0, 1] [] (s39_2 true x2)))
   else
   (bif (Bool.not x1) then
   (J 0 4 0 (s39_2 (Bool.not ((ByteArray.toList (Dt.S x2 2)) == [])) x2) (e39 J m [1, 1, 1, 0, 1] [] (s39_2 (Bool.not ((ByteArray.toList (Dt.S x2 2)) == [])) x2)))
   else
   (J 0 4 0 (s39_2 false x2) (e39 J m [1, 1, 1, 0, 1] [] (s39_2 false x2)))))
    else
   (bif (Bool.not x1) then
   (J 0 4 0 (s39_2 (Bool.not ((ByteArray.toList (Dt.S x2 2)) == [])) x2) (e39 J m [1, 1, 1, 0, 1] [] (s39_2 (Bool.not ((ByteArray.toList (Dt.S x2 2)) == [])) x2)))
   else
   (J 0 4 0 (s39_2 false x2) (e39 J m [1, 1, 1, 0, 1] [] (s39_2 false x2))))) := fun J => by kernel_rfl
  exact (h jn).trans (by
    simp only [jn_eq, value_sound_j2_eq m]
    rfl)
theorem value_sound_j0_eq (m : Nat) (x0 : Bool) (x1 : Dt) : e39 jn m [1, 1] [] (s39_0 x0 x1) = value_sound_j0 m (value_sound m) (value_soundFields m) x0 x1 := by
  have h : ∀ J, e39 J m [1, 1] [] (s39_0 x0 x1) =
    (bif ((Dt.I x1 0) == 4) then
   (J 0 3 0 (s39_1 x0 true x1) (e39 J m [1, 1, 1] [] (s39_1 x0 true x1)))
    else
   (bif ((Dt.I x1 0) == 7) then
   (J 0 3 0 (s39_1 x0 true x1) (e39 J m [1, 1, 1] [] (s39_1 x0 true x1)))
   else
   (J 0 3 0 (s39_1 x0 ((Dt.I x1 0) == 8) x1) (e39 J m [1, 1, 1] [] (s39_1 x0 ((Dt.I x1 0) == 8) x1))))) := fun J => by kernel_rfl
  exact (h jn).trans (by
    simp only [jn_eq, value_sound_j1_eq m]
    rfl)
theorem value_sound_eq (m : Nat) (a0 : Dt) : e39 jn m [] [] ⟨[(.dat 25 a0)], [], 0⟩ = value_sound (m + 1) a0 := by
  have h : ∀ J, e39 J m [] [] ⟨[(.dat 25 a0)], [], 0⟩ =
    (bif ((Dt.I a0 0) == 3) then
   (J 0 2 0 (s39_0 true a0) (e39 J m [1, 1] [] (s39_0 true a0)))
    else
   (bif ((Dt.I a0 0) == 9) then
   (J 0 2 0 (s39_0 true a0) (e39 J m [1, 1] [] (s39_0 true a0)))
   else
   (J 0 2 0 (s39_0 ((Dt.I a0 0) == 10) a0) (e39 J m [1, 1] [] (s39_0 ((Dt.I a0 0) == 10) a0))))) := fun J => by kernel_rfl
  refine (h jn).trans ?_
  simp only [jn_eq, value_sound_j0_eq m]
  rfl
noncomputable def d52 (q : Res) : Option Bool := match q with
  | (.dat T0 x0, []) => bif Nat.beq T0 4 then some x0.toBool else none
  | _ => none
theorem d52_sim {b : Res} {r : Bool} (h : d52 b = some r) : Sim Tryz.prog b ((.dat 4 (.bool r)), []) := by
  unfold d52 at h
  split at h
  · obtain ⟨hc, h2⟩ := bif_some h
    cases h2
    have e0 := beq_eq hc
    subst e0
    exact Sim.of (.of (.dat (.bool Tryz.underlying4)) rfl rfl) .nil
  · cases h
noncomputable def e52 (J : Nat → Nat → Nat → St → Option Bool → Option Bool) (m : Nat) (p ms : List Nat) (σ : St) := evAt Tryz.prog env (ct m) J (m + 1) 98 33 Tryz.f98 d52 p ms σ
noncomputable def l52 (J : Nat → Nat → Nat → St → Option Bool → Option Bool) (m : Nat) (p ms : List Nat) (M : Nat) (σ : St) := loopAt Tryz.prog env (ct m) J (m + 1) 98 33 Tryz.f98 d52 p ms M σ
noncomputable def s52_5 (x0 : List Dt) (x1 x2 : Int) (x3 : List Dt) : St := ⟨tsOf [(3, (.row 0)), (7, (.dat 23 (.lst x0))), (8, (.dat 3 (.int x1))), (9, (.dat 3 (.int x2)))], [(.map 93 x3)], 0⟩
noncomputable def s52_4 (x0 : List Dt) (x1 x2 : Int) (x3 : List Dt) (x4 : Dt) : St := ⟨tsOf [(3, (.row 0)), (5, (.ptr 1 [] 0)), (7, (.dat 23 (.lst x0))), (8, (.dat 3 (.int x1))), (9, (.dat 3 (.int x2)))], [(.map 93 x3), (.box 53 (.dat 53 x4))], 0⟩
noncomputable def s52_3 (x0 : List Dt) (x1 x2 : Int) (x3 : Bool) (x4 : List Dt) (x5 : Dt) : St := ⟨tsOf [(3, (.row 0)), (5, (.ptr 1 [] 0)), (7, (.dat 23 (.lst x0))), (8, (.dat 3 (.int x1))), (9, (.dat 3 (.int x2))), (28, (.dat 4 (.bool x3)))], [(.map 93 x4), (.box 53 (.dat 53 x5))], 0⟩
noncomputable def s52_2 (x0 : List Dt) (x1 x2 : Int) (x3 : List Dt) : St := ⟨tsOf [(3, (.row 0)), (7, (.dat 23 (.lst x0))), (8, (.dat 3 (.int x1))), (9, (.dat 3 (.int x2)))], [(.map 93 x3)], 0⟩
noncomputable def s52_6 : St := ⟨tsOf [], [], 0⟩
noncomputable def s52_1 (x0 : List Dt) (x1 x2 : Int) (x3 : List Dt) : St := ⟨tsOf [(3, (.row 0)), (7, (.dat 23 (.lst x0))), (8, (.dat 3 (.int x1))), (9, (.dat 3 (.int x2)))], [(.map 93 x3)], 0⟩
noncomputable def s52_0 (x0 : List Dt) (x1 x2 : Int) (x3 : List Dt) : St := ⟨tsOf [(3, (.row 0)), (7, (.dat 23 (.lst x0))), (8, (.dat 3 (.int x1))), (9, (.dat 3 (.int x2)))], [(.map 93 x3)], 0⟩
theorem value_soundFields_j5_eq (m : Nat) (M1 : Nat) (rec1 : List Dt → Int → Int → List Dt → Option Bool) (h1 : ∀ (x0 : List Dt) (x1 x2 : Int) (x3 : List Dt), l52 jn m [1, 1, 0, 1, 0] [] M1 (s52_1 x0 x1 x2 x3) = rec1 x0 x1 x2 x3) (x0 : List Dt) (x1 x2 : Int) (x3 : List Dt) : e52 jn m [1, 1, 0, 1, 0, 0, 1, 1, 1] [M1] (s52_5 x0 x1 x2 x3) = value_soundFields_j5 m (value_sound m) rec1 x0 x1 x2 x3 := by
  have h : ∀ J, e52 J m [1, 1, 0, 1, 0, 0, 1, 1, 1] [M1] (s52_5 x0 x1 x2 x3) =
    (J 1 3 M1 (s52_1 x0 x1 (IntKind.wrap .i64 (x2 + 1)) x3) (l52 J m [1, 1, 0, 1, 0] [] M1 (s52_1 x0 x1 (IntKind.wrap .i64 (x2 + 1)) x3))) := fun J => by kernel_rfl
  exact (h jn).trans (by
    simp only [jn_eq, h1]
    rfl)
theorem value_soundFields_j4_eq (m : Nat) (M1 : Nat) (rec1 : List Dt → Int → Int → List Dt → Option Bool) (h1 : ∀ (x0 : List Dt) (x1 x2 : Int) (x3 : List Dt), l52 jn m [1, 1, 0, 1, 0] [] M1 (s52_1 x0 x1 x2 x3) = rec1 x0 x1 x2 x3) (x0 : List Dt) (x1 x2 : Int) (x3 : List Dt) (x4 : Dt) : e52 jn m [1, 1, 0, 1, 0, 0, 1, 1, 0, 0, 1, 1] [M1] (s52_4 x0 x1 x2 x3 x4) = value_soundFields_j4 m (value_sound m) rec1 x0 x1 x2 x3 x4 := by
  have h : ∀ J, e52 J m [1, 1, 0, 1, 0, 0, 1, 1, 0, 0, 1, 1] [M1] (s52_4 x0 x1 x2 x3 x4) =
    (J 0 8 0 (s52_5 x0 x1 x2 (mput x3 (Dt.S x4 0) (Dt.bool true))) (e52 J m [1, 1, 0, 1, 0, 0, 1, 1, 1] [M1] (s52_5 x0 x1 x2 (mput x3 (Dt.S x4 0) (Dt.bool true))))) := fun J => by kernel_rfl
  exact (h jn).trans (by
    simp only [jn_eq, value_soundFields_j5_eq m M1 rec1 h1]
    rfl)
theorem value_soundFields_j3_eq (m : Nat) (M1 : Nat) (rec1 : List Dt → Int → Int → List Dt → Option Bool) (h1 : ∀ (x0 : List Dt) (x1 x2 : Int) (x3 : List Dt), l52 jn m [1, 1, 0, 1, 0] [] M1 (s52_1 x0 x1 x2 x3) = rec1 x0 x1 x2 x3) (x0 : List Dt) (x1 x2 : Int) (x3 : Bool) (x4 : List Dt) (x5 : Dt) : e52 jn m [1, 1, 0, 1, 0, 0, 1, 1, 0, 0, 1, 0, 1] [M1] (s52_3 x0 x1 x2 x3 x4 x5) = value_soundFields_j3 m (value_sound m) rec1 x0 x1 x2 x3 x4 x5 := by
  have h : ∀ J, e52 J m [1, 1, 0, 1, 0, 0, 1, 1, 0, 0, 1, 0, 1] [M1] (s52_3 x0 x1 x2 x3 x4 x5) =
    (bif x3 then
   some false
    else
   (J 0 7 0 (s52_4 x0 x1 x2 x4 x5) (e52 J m [1, 1, 0, 1, 0, 0, 1, 1, 0, 0, 1, 1] [M1] (s52_4 x0 x1 x2 x4 x5)))) := fun J => by kernel_rfl
  exact (h jn).trans (by
    simp only [jn_eq, value_soundFields_j4_eq m M1 rec1 h1]
    rfl)
theorem value_soundFields_j2_eq (m : Nat) (M1 : Nat) (rec1 : List Dt → Int → Int → List Dt → Option Bool) (h1 : ∀ (x0 : List Dt) (x1 x2 : Int) (x3 : List Dt), l52 jn m [1, 1, 0, 1, 0] [] M1 (s52_1 x0 x1 x2 x3) = rec1 x0 x1 x2 x3) (x0 : List Dt) (x1 x2 : Int) (x3 : List Dt) : e52 jn m [1, 1, 0, 1, 0, 0, 1, 1] [M1] (s52_2 x0 x1 x2 x3) = value_soundFields_j2 m (value_sound m) rec1 x0 x1 x2 x3 := by
  have h : ∀ J, e52 J m [1, 1, 0, 1, 0, 0, 1, 1] [M1] (s52_2 x0 x1 x2 x3) =
    ((idx x0 x2).bind fun v0 =>
   ((value_isName m (Dt.S v0 0)).bind fun r1 =>
   (bif (Bool.not r1) then
   (J 0 6 0 (s52_3 x0 x1 x2 true x3 v0) (e52 J m [1, 1, 0, 1, 0, 0, 1, 1, 0, 0, 1, 0, 1] [M1] (s52_3 x0 x1 x2 true x3 v0)))
   else
   (bif (Dt.toBool (mgetD x3 (Dt.S v0 0) (Dt.bool false))) then
   (J 0 6 0 (s52_3 x0 x1 x2 true x3 v0) (e52 J m [1, 1, 0, 1, 0, 0, 1, 1, 0, 0, 1, 0, 1] [M1] (s52_3 x0 x1 x2 true x3 v0)))
   else
   ((value_sound m (Dt.fld v0 1)).bind fun r2 =>
   (J 0 6 0 (s52_3 x0 x1 x2 (Bool.not r2) x3 v0) (e52 J m [1, 1, 0, 1, 0, 0, 1, 1, 0, 0, 1, 0, 1] [M1] (s52_3 x0 x1 x2 (Bool.not r2) x3 v0)))))))) := fun J => by kernel_rfl
  exact (h jn).trans (by
    simp only [jn_eq, value_soundFields_j3_eq m M1 rec1 h1]
    rfl)
theorem value_soundFields_j6_eq (m : Nat) : e52 jn m [1, 1, 1] [] s52_6 = value_soundFields_j6 m (value_sound m) := by
  have h : ∀ J, e52 J m [1, 1, 1] [] s52_6 =
    some true := fun J => by kernel_rfl
  exact (h jn).trans (rfl)
theorem value_soundFields_l1_eq (m : Nat) : ∀ (M1 : Nat) (x0 : List Dt) (x1 x2 : Int) (x3 : List Dt), l52 jn m [1, 1, 0, 1, 0] [] M1 (s52_1 x0 x1 x2 x3) = value_soundFields_l1 m (value_sound m) M1 x0 x1 x2 x3
  | 0, _, _, _, _ => rfl
  | M1 + 1, x0, x1, x2, x3 => by
    have h : ∀ J, l52 J m [1, 1, 0, 1, 0] [] (M1 + 1) (s52_1 x0 x1 x2 x3) =
    (bif (decide (x2 < x1)) then
   (J 0 4 0 (s52_2 x0 x1 x2 x3) (e52 J m [1, 1, 0, 1, 0, 0, 1, 1] [M1] (s52_2 x0 x1 x2 x3)))
    else
   (J 0 9 0 s52_6 (e52 J m [1, 1, 1] [] s52_6))) := fun J => by kernel_rfl
    refine (h jn).trans ?_
    simp only [jn_eq, value_soundFields_j2_eq m M1 (value_soundFields_l1 m (value_sound m) M1) (fun x0 x1 x2 x3 => value_soundFields_l1_eq m M1 x0 x1 x2 x3), value_soundFields_j6_eq m]
    rfl
theorem value_soundFields_j0_eq (m : Nat) (x0 : List Dt) (x1 x2 : Int) (x3 : List Dt) : e52 jn m [1, 1, 0, 1] [] (s52_0 x0 x1 x2 x3) = value_soundFields_j0 m (value_sound m) x0 x1 x2 x3 := by
  have h : ∀ J, e52 J m [1, 1, 0, 1] [] (s52_0 x0 x1 x2 x3) =
    (J 1 3 (Nat.succ m) (s52_1 x0 x1 x2 x3) (l52 J m [1, 1, 0, 1, 0] [] (Nat.succ m) (s52_1 x0 x1 x2 x3))) := fun J => by kernel_rfl
  exact (h jn).trans (by
    simp only [jn_eq, value_soundFields_l1_eq m]
    rfl)
theorem value_soundFields_eq (m : Nat) (a0 : List Dt) : e52 jn m [] [] ⟨[(.dat 23 (.lst a0))], [], 0⟩ = value_soundFields (m + 1) a0 := by
  have h : ∀ J, e52 J m [] [] ⟨[(.dat 23 (.lst a0))], [], 0⟩ =
    (J 0 3 0 (s52_0 a0 (List.length a0 : Int) 0 []) (e52 J m [1, 1, 0, 1] [] (s52_0 a0 (List.length a0 : Int) 0 []))) := fun J => by kernel_rfl
  refine (h jn).trans ?_
  simp only [jn_eq, value_soundFields_j0_eq m]
  rfl
noncomputable def d25 (q : Res) : Option Bool := match q with
  | (.dat T0 x0, []) => bif Nat.beq T0 4 then some x0.toBool else none
  | _ => none
theorem d25_sim {b : Res} {r : Bool} (h : d25 b = some r) : Sim Tryz.prog b ((.dat 4 (.bool r)), []) := by
  unfold d25 at h
  split at h
  · obtain ⟨hc, h2⟩ := bif_some h
    cases h2
    have e0 := beq_eq hc
    subst e0
    exact Sim.of (.of (.dat (.bool Tryz.underlying4)) rfl rfl) .nil
  · cases h
noncomputable def e25 (J : Nat → Nat → Nat → St → Option Bool → Option Bool) (m : Nat) (p ms : List Nat) (σ : St) := evAt Tryz.prog env (ct m) J (m + 1) 36 15 Tryz.f36 d25 p ms σ
noncomputable def l25 (J : Nat → Nat → Nat → St → Option Bool → Option Bool) (m : Nat) (p ms : List Nat) (M : Nat) (σ : St) := loopAt Tryz.prog env (ct m) J (m + 1) 36 15 Tryz.f36 d25 p ms M σ
theorem value_Valid_eq (m : Nat) (a0 : Dt) : e25 jn m [] [] ⟨[(.dat 25 a0)], [], 0⟩ = value_Valid (m + 1) a0 := by
  have h : ∀ J, e25 J m [] [] ⟨[(.dat 25 a0)], [], 0⟩ =
    ((value_Nodes m a0).bind fun r0 =>
   (bif (decide (r0 ≤ 1024)) then
   ((value_Depth m a0).bind fun r1 =>
   (bif (decide (r1 ≤ 16)) then
   ((value_sound m a0).bind fun r2 =>
   some r2)
   else
   some false))
   else
   some false)) := fun J => by kernel_rfl
  refine (h jn).trans ?_
  
  rfl
noncomputable def d9 (q : Res) : Option Bool := match q with
  | (.dat T0 x0, []) => bif Nat.beq T0 4 then some x0.toBool else none
  | _ => none
theorem d9_sim {b : Res} {r : Bool} (h : d9 b = some r) : Sim Tryz.prog b ((.dat 4 (.bool r)), []) := by
  unfold d9 at h
  split at h
  · obtain ⟨hc, h2⟩ := bif_some h
    cases h2
    have e0 := beq_eq hc
    subst e0
    exact Sim.of (.of (.dat (.bool Tryz.underlying4)) rfl rfl) .nil
  · cases h
noncomputable def e9 (J : Nat → Nat → Nat → St → Option Bool → Option Bool) (m : Nat) (p ms : List Nat) (σ : St) := evAt Tryz.prog env (ct m) J (m + 1) 21 23 Tryz.f21 d9 p ms σ
noncomputable def l9 (J : Nat → Nat → Nat → St → Option Bool → Option Bool) (m : Nat) (p ms : List Nat) (M : Nat) (σ : St) := loopAt Tryz.prog env (ct m) J (m + 1) 21 23 Tryz.f21 d9 p ms M σ
noncomputable def s9_1 (x0 : Dt) : St := ⟨tsOf [(1, (.ptr 0 [] 0))], [(.box 25 (.dat 25 x0))], 0⟩
noncomputable def s9_0 (x0 : Bool) (x1 : Dt) : St := ⟨tsOf [(1, (.ptr 0 [] 0)), (12, (.dat 4 (.bool x0)))], [(.box 25 (.dat 25 x1))], 0⟩
theorem schema_wellFormed_j1_eq (m : Nat) (x0 : Dt) : e9 jn m [1, 1] [] (s9_1 x0) = schema_wellFormed_j1 m x0 := by
  have h : ∀ J, e9 J m [1, 1] [] (s9_1 x0) =
    ((schema_rename m x0).bind fun r1 =>
   (bif r1.2 then
   ((value_Valid m r1.1).bind fun r2 =>
   some r2)
   else
   some false)) := fun J => by kernel_rfl
  exact (h jn).trans (rfl)
theorem schema_wellFormed_j0_eq (m : Nat) (x0 : Bool) (x1 : Dt) : e9 jn m [1, 0, 1] [] (s9_0 x0 x1) = schema_wellFormed_j0 m x0 x1 := by
  have h : ∀ J, e9 J m [1, 0, 1] [] (s9_0 x0 x1) =
    (bif x0 then
   some false
    else
   (J 0 3 0 (s9_1 x1) (e9 J m [1, 1] [] (s9_1 x1)))) := fun J => by kernel_rfl
  exact (h jn).trans (by
    simp only [jn_eq, schema_wellFormed_j1_eq m]
    rfl)
theorem schema_wellFormed_eq (m : Nat) (a0 : Dt) : e9 jn m [] [] ⟨[(.dat 25 a0)], [], 0⟩ = schema_wellFormed (m + 1) a0 := by
  have h : ∀ J, e9 J m [] [] ⟨[(.dat 25 a0)], [], 0⟩ =
    ((value_Nodes m a0).bind fun r0 =>
   (bif (decide (1024 < r0)) then
   (J 0 2 0 (s9_0 true a0) (e9 J m [1, 0, 1] [] (s9_0 true a0)))
   else
   ((value_Depth m a0).bind fun r3 =>
   (J 0 2 0 (s9_0 (decide (16 < r3)) a0) (e9 J m [1, 0, 1] [] (s9_0 (decide (16 < r3)) a0)))))) := fun J => by kernel_rfl
  refine (h jn).trans ?_
  simp only [jn_eq, schema_wellFormed_j0_eq m]
  rfl
noncomputable def d35 (q : Res) : Option Bool := match q with
  | (.dat T0 x0, []) => bif Nat.beq T0 4 then some x0.toBool else none
  | _ => none
theorem d35_sim {b : Res} {r : Bool} (h : d35 b = some r) : Sim Tryz.prog b ((.dat 4 (.bool r)), []) := by
  unfold d35 at h
  split at h
  · obtain ⟨hc, h2⟩ := bif_some h
    cases h2
    have e0 := beq_eq hc
    subst e0
    exact Sim.of (.of (.dat (.bool Tryz.underlying4)) rfl rfl) .nil
  · cases h
noncomputable def e35 (J : Nat → Nat → Nat → St → Option Bool → Option Bool) (m : Nat) (p ms : List Nat) (σ : St) := evAt Tryz.prog env (ct m) J (m + 1) 93 33 Tryz.f93 d35 p ms σ
noncomputable def l35 (J : Nat → Nat → Nat → St → Option Bool → Option Bool) (m : Nat) (p ms : List Nat) (M : Nat) (σ : St) := loopAt Tryz.prog env (ct m) J (m + 1) 93 33 Tryz.f93 d35 p ms M σ
noncomputable def s35_0 (x0 : Dt) : St := ⟨tsOf [(3, (.ptr 0 [] 0))], [(.box 25 (.dat 25 x0))], 0⟩
theorem schema_bound_j0_eq (m : Nat) (x0 : Dt) : e35 jn m [1, 1] [] (s35_0 x0) = schema_bound_j0 m x0 := by
  have h : ∀ J, e35 J m [1, 1] [] (s35_0 x0) =
    (bif ((Dt.I x0 0) == 0) then
   (bif ((Dt.I x0 1) == 0) then
   (bif ((ByteArray.toList (Dt.S x0 2)) == []) then
   (bif ((List.length (Dt.L x0 3) : Int) == 0) then
   some ((List.length (Dt.L x0 4) : Int) == 0)
   else
   some false)
   else
   some false)
   else
   some false)
    else
   some false) := fun J => by kernel_rfl
  exact (h jn).trans (rfl)
theorem schema_bound_eq (m : Nat) (a0 : Bool) (a1 : Dt) : e35 jn m [] [] ⟨[(.dat 4 (.bool a0)), (.dat 25 a1)], [], 0⟩ = schema_bound (m + 1) a0 a1 := by
  have h : ∀ J, e35 J m [] [] ⟨[(.dat 4 (.bool a0)), (.dat 25 a1)], [], 0⟩ =
    (bif a0 then
   ((value_Valid m a1).bind fun r0 =>
   some r0)
    else
   (J 0 3 0 (s35_0 a1) (e35 J m [1, 1] [] (s35_0 a1)))) := fun J => by kernel_rfl
  refine (h jn).trans ?_
  simp only [jn_eq, schema_bound_j0_eq m]
  rfl
end Go.Proofs.YtfneddmmeadacaaGreatDoor
