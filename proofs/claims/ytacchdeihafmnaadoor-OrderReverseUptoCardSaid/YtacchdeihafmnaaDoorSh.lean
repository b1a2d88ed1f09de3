/- Generated: what the Go functions compute, over plain data. -/
import Derived.Test.YtacchdeihafmnaaDoorAm20
import Derived.Test.YtacchdeihafmnaaDoorOAwake
import Derived.Test.YtacchdeihafmnaaDoorOClone2
set_option linter.unusedVariables false
set_option linter.unusedSimpArgs false
namespace Go.Proofs.YtacchdeihafmnaaDoor
open Go.Am
noncomputable def law03_SameList_j4 (m : Nat) (self15 : Dt → Dt → Option (Bool)) (rec2 : List Dt → List Dt → Int → Int → Option (Bool)) (x0 : List Dt) (x1 : List Dt) (x2 : Int) (x3 : Int) : Option (Bool) :=
  rec2 x0 x1 x2 (IntKind.wrap IntKind.i64 (x3 + (1 : Int)))
noncomputable def law03_SameList_j3 (m : Nat) (self15 : Dt → Dt → Option (Bool)) (rec2 : List Dt → List Dt → Int → Int → Option (Bool)) (x0 : List Dt) (x1 : List Dt) (x2 : Int) (x3 : Int) : Option (Bool) :=
  ((idx x0 x3).bind fun v0 =>
    ((idx x1 x3).bind fun v1 =>
      ((self15 v0 v1).bind fun r2 =>
        (bif (Bool.not r2) then
          some Bool.false
        else
          law03_SameList_j4 m self15 rec2 x0 x1 x2 x3))))
noncomputable def law03_SameList_j5 (m : Nat) (self15 : Dt → Dt → Option (Bool)) : Option (Bool) :=
  some Bool.true
noncomputable def law03_SameList_l2 (m : Nat) (self15 : Dt → Dt → Option (Bool)) : Nat → List Dt → List Dt → Int → Int → Option (Bool)
  | 0, _, _, _, _ => none
  | M2 + 1, x0, x1, x2, x3 =>
    (bif (decide (x3 < x2)) then
    law03_SameList_j3 m self15 (law03_SameList_l2 m self15 M2) x0 x1 x2 x3
  else
    law03_SameList_j5 m self15)
noncomputable def law03_SameList_j1 (m : Nat) (self15 : Dt → Dt → Option (Bool)) (x0 : List Dt) (x1 : List Dt) (x2 : Int) (x3 : Int) : Option (Bool) :=
  law03_SameList_l2 m self15 (Nat.succ m) x0 x1 x2 x3
noncomputable def law03_SameList_j0 (m : Nat) (self15 : Dt → Dt → Option (Bool)) (x0 : List Dt) (x1 : List Dt) : Option (Bool) :=
  law03_SameList_j1 m self15 x0 x1 (((List.length x0) : Nat) : Int) (0 : Int)
noncomputable def law03_Same_j4 (m : Nat) (self7 : List Dt → List Dt → Option (Bool)) (self15 : Dt → Dt → Option (Bool)) (rec2 : Int → Int → Dt → Dt → Option (Bool)) (x0 : Int) (x1 : Int) (x2 : Dt) (x3 : Dt) : Option (Bool) :=
  rec2 x0 (IntKind.wrap IntKind.i64 (x1 + (1 : Int))) x2 x3
noncomputable def law03_Same_j3 (m : Nat) (self7 : List Dt → List Dt → Option (Bool)) (self15 : Dt → Dt → Option (Bool)) (rec2 : Int → Int → Dt → Dt → Option (Bool)) (x0 : Int) (x1 : Int) (x2 : Dt) (x3 : Dt) : Option (Bool) :=
  ((idx (Dt.L x2 4) x1).bind fun v0 =>
    ((idx (Dt.L x3 4) x1).bind fun v1 =>
      (bif (Bool.not ((ByteArray.toList (Dt.S v0 0)) == (ByteArray.toList (Dt.S v1 0)))) then
        some Bool.false
      else
        ((idx (Dt.L x2 4) x1).bind fun v2 =>
          ((idx (Dt.L x3 4) x1).bind fun v3 =>
            ((self15 (Dt.fld v2 1) (Dt.fld v3 1)).bind fun r4 =>
              (bif (Bool.not r4) then
                some Bool.false
              else
                law03_Same_j4 m self7 self15 rec2 x0 x1 x2 x3)))))))
noncomputable def law03_Same_j5 (m : Nat) (self7 : List Dt → List Dt → Option (Bool)) (self15 : Dt → Dt → Option (Bool)) (x0 : Dt) (x1 : Dt) : Option (Bool) :=
  ((self7 (Dt.L x0 3) (Dt.L x1 3)).bind fun r5 =>
    some r5)
noncomputable def law03_Same_l2 (m : Nat) (self7 : List Dt → List Dt → Option (Bool)) (self15 : Dt → Dt → Option (Bool)) : Nat → Int → Int → Dt → Dt → Option (Bool)
  | 0, _, _, _, _ => none
  | M2 + 1, x0, x1, x2, x3 =>
    (bif (decide (x1 < x0)) then
    law03_Same_j3 m self7 self15 (law03_Same_l2 m self7 self15 M2) x0 x1 x2 x3
  else
    law03_Same_j5 m self7 self15 x2 x3)
noncomputable def law03_Same_j1 (m : Nat) (self7 : List Dt → List Dt → Option (Bool)) (self15 : Dt → Dt → Option (Bool)) (x0 : Int) (x1 : Int) (x2 : Dt) (x3 : Dt) : Option (Bool) :=
  law03_Same_l2 m self7 self15 (Nat.succ m) x0 x1 x2 x3
noncomputable def law03_Same_j0 (m : Nat) (self7 : List Dt → List Dt → Option (Bool)) (self15 : Dt → Dt → Option (Bool)) (x0 : Dt) (x1 : Dt) : Option (Bool) :=
  law03_Same_j1 m self7 self15 (((List.length (Dt.L x0 4)) : Nat) : Int) (0 : Int) x0 x1
mutual
noncomputable def law03_SameList : Nat → List Dt → List Dt → Option (Bool)
  | 0, _, _ => none
  | m + 1, a0, a1 =>
    (bif ((((List.length a0) : Nat) : Int) != (((List.length a1) : Nat) : Int)) then
    some Bool.false
  else
    law03_SameList_j0 m (law03_Same m) a0 a1)
noncomputable def law03_Same : Nat → Dt → Dt → Option (Bool)
  | 0, _, _ => none
  | m + 1, a0, a1 =>
    (bif ((Dt.I a0 0) != (Dt.I a1 0)) then
    some Bool.false
  else
    (bif ((Dt.I a0 1) != (Dt.I a1 1)) then
      some Bool.false
    else
      (bif (Bool.not ((ByteArray.toList (Dt.S a0 2)) == (ByteArray.toList (Dt.S a1 2)))) then
        some Bool.false
      else
        (bif ((((List.length (Dt.L a0 4)) : Nat) : Int) != (((List.length (Dt.L a1 4)) : Nat) : Int)) then
          some Bool.false
        else
          law03_Same_j0 m (law03_SameList m) (law03_Same m) a0 a1))))
end
noncomputable def law12_lists_j3 (m : Nat) (self10 : Dt → Option (Bool)) (rec1 : Int → Int → Dt → Option (Bool)) (x0 : Int) (x1 : Int) (x2 : Dt) : Option (Bool) :=
  rec1 x0 (IntKind.wrap IntKind.i64 (x1 + (1 : Int))) x2
noncomputable def law12_lists_j2 (m : Nat) (self10 : Dt → Option (Bool)) (rec1 : Int → Int → Dt → Option (Bool)) (x0 : Int) (x1 : Int) (x2 : Dt) : Option (Bool) :=
  ((idx (Dt.L x2 4) x1).bind fun v0 =>
    ((self10 (Dt.fld v0 1)).bind fun r1 =>
      (bif r1 then
        some Bool.true
      else
        law12_lists_j3 m self10 rec1 x0 x1 x2)))
noncomputable def law12_lists_j4 (m : Nat) (self10 : Dt → Option (Bool)) (x0 : Dt) : Option (Bool) :=
  some ((Dt.I x0 0) == (6 : Int))
noncomputable def law12_lists_l1 (m : Nat) (self10 : Dt → Option (Bool)) : Nat → Int → Int → Dt → Option (Bool)
  | 0, _, _, _ => none
  | M1 + 1, x0, x1, x2 =>
    (bif (decide (x1 < x0)) then
    law12_lists_j2 m self10 (law12_lists_l1 m self10 M1) x0 x1 x2
  else
    law12_lists_j4 m self10 x2)
noncomputable def law12_lists_j0 (m : Nat) (self10 : Dt → Option (Bool)) (x0 : Int) (x1 : Int) (x2 : Dt) : Option (Bool) :=
  law12_lists_l1 m self10 (Nat.succ m) x0 x1 x2
noncomputable def law12_lists : Nat → Dt → Option (Bool)
  | 0, _ => none
  | m + 1, a0 =>
    law12_lists_j0 m (law12_lists m) (((List.length (Dt.L a0 4)) : Nat) : Int) (0 : Int) a0
noncomputable def ref01_Ints_j1 (m : Nat) : Option (Int) :=
  some (0 : Int)
noncomputable def ref01_Ints_j0 (m : Nat) (x0 : Int) (x1 : Int) : Option (Int) :=
  (bif (decide (x1 < x0)) then
    some (1 : Int)
  else
    ref01_Ints_j1 m)
noncomputable def ref01_Ints : Nat → Int → Int → Option (Int)
  | 0, _, _ => none
  | m + 1, a0, a1 =>
    (bif (decide (a0 < a1)) then
    some (-1 : Int)
  else
    ref01_Ints_j0 m a0 a1)
noncomputable def ref01_Texts_j3 (m : Nat) (rec1 : ByteArray → ByteArray → Int → Option (Int)) (x0 : ByteArray) (x1 : ByteArray) (x2 : Int) : Option (Int) :=
  rec1 x0 x1 (IntKind.wrap IntKind.i64 (x2 + (1 : Int)))
noncomputable def ref01_Texts_j2 (m : Nat) (rec1 : ByteArray → ByteArray → Int → Option (Int)) (x0 : ByteArray) (x1 : ByteArray) (x2 : Int) : Option (Int) :=
  ((idxS x0 x2).bind fun v0 =>
    ((idxS x1 x2).bind fun v1 =>
      (bif (v0 != v1) then
        ((idxS x0 x2).bind fun v2 =>
          ((idxS x1 x2).bind fun v3 =>
            ((ref01_Ints m (IntKind.wrap IntKind.i64 v2) (IntKind.wrap IntKind.i64 v3)).bind fun r4 =>
              some r4)))
      else
        ref01_Texts_j3 m rec1 x0 x1 x2)))
noncomputable def ref01_Texts_j4 (m : Nat) (x0 : ByteArray) (x1 : ByteArray) : Option (Int) :=
  ((ref01_Ints m (((ByteArray.size x0) : Nat) : Int) (((ByteArray.size x1) : Nat) : Int)).bind fun r5 =>
    some r5)
noncomputable def ref01_Texts_l1 (m : Nat) : Nat → ByteArray → ByteArray → Int → Option (Int)
  | 0, _, _, _ => none
  | M1 + 1, x0, x1, x2 =>
    (bif (decide (x2 < (((ByteArray.size x0) : Nat) : Int))) then
    (bif (decide (x2 < (((ByteArray.size x1) : Nat) : Int))) then
      ref01_Texts_j2 m (ref01_Texts_l1 m M1) x0 x1 x2
    else
      ref01_Texts_j4 m x0 x1)
  else
    ref01_Texts_j4 m x0 x1)
noncomputable def ref01_Texts_j0 (m : Nat) (x0 : ByteArray) (x1 : ByteArray) (x2 : Int) : Option (Int) :=
  ref01_Texts_l1 m (Nat.succ m) x0 x1 x2
noncomputable def ref01_Texts : Nat → ByteArray → ByteArray → Option (Int)
  | 0, _, _ => none
  | m + 1, a0, a1 =>
    ref01_Texts_j0 m a0 a1 (0 : Int)
noncomputable def ref01_Compare_j4 (m : Nat) (self17 : Dt → Dt → Option (Int)) (rec2 : Int → Dt → Dt → Option (Int)) (x0 : Int) (x1 : Dt) (x2 : Dt) : Option (Int) :=
  rec2 (IntKind.wrap IntKind.i64 (x0 + (1 : Int))) x1 x2
noncomputable def ref01_Compare_j3 (m : Nat) (self17 : Dt → Dt → Option (Int)) (rec2 : Int → Dt → Dt → Option (Int)) (x0 : Int) (x1 : Dt) (x2 : Dt) : Option (Int) :=
  ((idx (Dt.L x1 3) x0).bind fun v3 =>
    ((idx (Dt.L x2 3) x0).bind fun v4 =>
      ((self17 v3 v4).bind fun r5 =>
        (bif (r5 != (0 : Int)) then
          some r5
        else
          ref01_Compare_j4 m self17 rec2 x0 x1 x2))))
noncomputable def ref01_Compare_j5 (m : Nat) (self17 : Dt → Dt → Option (Int)) (x0 : Dt) (x1 : Dt) : Option (Int) :=
  ((ref01_Ints m (((List.length (Dt.L x0 3)) : Nat) : Int) (((List.length (Dt.L x1 3)) : Nat) : Int)).bind fun r6 =>
    some r6)
noncomputable def ref01_Compare_l2 (m : Nat) (self17 : Dt → Dt → Option (Int)) : Nat → Int → Dt → Dt → Option (Int)
  | 0, _, _, _ => none
  | M2 + 1, x0, x1, x2 =>
    (bif (decide (x0 < (((List.length (Dt.L x1 3)) : Nat) : Int))) then
    (bif (decide (x0 < (((List.length (Dt.L x2 3)) : Nat) : Int))) then
      ref01_Compare_j3 m self17 (ref01_Compare_l2 m self17 M2) x0 x1 x2
    else
      ref01_Compare_j5 m self17 x1 x2)
  else
    ref01_Compare_j5 m self17 x1 x2)
noncomputable def ref01_Compare_j1 (m : Nat) (self17 : Dt → Dt → Option (Int)) (x0 : Int) (x1 : Dt) (x2 : Dt) : Option (Int) :=
  ref01_Compare_l2 m self17 (Nat.succ m) x0 x1 x2
noncomputable def ref01_Compare_j10 (m : Nat) (self17 : Dt → Dt → Option (Int)) (rec7 : Int → Dt → Dt → Option (Int)) (x0 : Int) (x1 : Dt) (x2 : Dt) : Option (Int) :=
  rec7 (IntKind.wrap IntKind.i64 (x0 + (1 : Int))) x1 x2
noncomputable def ref01_Compare_j9 (m : Nat) (self17 : Dt → Dt → Option (Int)) (rec7 : Int → Dt → Dt → Option (Int)) (x0 : Int) (x1 : Int) (x2 : Dt) (x3 : Dt) : Option (Int) :=
  (bif (x1 != (0 : Int)) then
    some x1
  else
    ref01_Compare_j10 m self17 rec7 x0 x2 x3)
noncomputable def ref01_Compare_j8 (m : Nat) (self17 : Dt → Dt → Option (Int)) (rec7 : Int → Dt → Dt → Option (Int)) (x0 : Int) (x1 : Dt) (x2 : Dt) : Option (Int) :=
  ((idx (Dt.L x1 4) x0).bind fun v7 =>
    ((idx (Dt.L x2 4) x0).bind fun v8 =>
      ((ref01_Texts m (Dt.S v7 0) (Dt.S v8 0)).bind fun r9 =>
        (bif (r9 == (0 : Int)) then
          ((idx (Dt.L x1 4) x0).bind fun v10 =>
            ((idx (Dt.L x2 4) x0).bind fun v11 =>
              ((self17 (Dt.fld v10 1) (Dt.fld v11 1)).bind fun r12 =>
                ref01_Compare_j9 m self17 rec7 x0 r12 x1 x2)))
        else
          ref01_Compare_j9 m self17 rec7 x0 r9 x1 x2))))
noncomputable def ref01_Compare_j11 (m : Nat) (self17 : Dt → Dt → Option (Int)) (x0 : Dt) (x1 : Dt) : Option (Int) :=
  ((ref01_Ints m (((List.length (Dt.L x0 4)) : Nat) : Int) (((List.length (Dt.L x1 4)) : Nat) : Int)).bind fun r13 =>
    some r13)
noncomputable def ref01_Compare_l7 (m : Nat) (self17 : Dt → Dt → Option (Int)) : Nat → Int → Dt → Dt → Option (Int)
  | 0, _, _, _ => none
  | M7 + 1, x0, x1, x2 =>
    (bif (decide (x0 < (((List.length (Dt.L x1 4)) : Nat) : Int))) then
    (bif (decide (x0 < (((List.length (Dt.L x2 4)) : Nat) : Int))) then
      ref01_Compare_j8 m self17 (ref01_Compare_l7 m self17 M7) x0 x1 x2
    else
      ref01_Compare_j11 m self17 x1 x2)
  else
    ref01_Compare_j11 m self17 x1 x2)
noncomputable def ref01_Compare_j6 (m : Nat) (self17 : Dt → Dt → Option (Int)) (x0 : Int) (x1 : Dt) (x2 : Dt) : Option (Int) :=
  ref01_Compare_l7 m self17 (Nat.succ m) x0 x1 x2
noncomputable def ref01_Compare_j12 (m : Nat) (self17 : Dt → Dt → Option (Int)) : Option (Int) :=
  some (0 : Int)
noncomputable def ref01_Compare_j0 (m : Nat) (self17 : Dt → Dt → Option (Int)) (x0 : Dt) (x1 : Dt) : Option (Int) :=
  (bif ((Dt.I x0 0) == (3 : Int)) then
    (bif ((Dt.I x0 0) == (3 : Int)) then
      ((ref01_Ints m (Dt.I x0 1) (Dt.I x1 1)).bind fun r1 =>
        some r1)
    else
      (bif ((Dt.I x0 0) == (4 : Int)) then
        (bif ((Dt.I x0 0) == (4 : Int)) then
          ((ref01_Texts m (Dt.S x0 2) (Dt.S x1 2)).bind fun r2 =>
            some r2)
        else
          (bif ((Dt.I x0 0) == (6 : Int)) then
            ref01_Compare_j1 m self17 (0 : Int) x0 x1
          else
            (bif ((Dt.I x0 0) == (5 : Int)) then
              ref01_Compare_j6 m self17 (0 : Int) x0 x1
            else
              ref01_Compare_j12 m self17)))
      else
        (bif ((Dt.I x0 0) == (7 : Int)) then
          (bif ((Dt.I x0 0) == (7 : Int)) then
            ((ref01_Texts m (Dt.S x0 2) (Dt.S x1 2)).bind fun r14 =>
              some r14)
          else
            (bif ((Dt.I x0 0) == (6 : Int)) then
              ref01_Compare_j1 m self17 (0 : Int) x0 x1
            else
              (bif ((Dt.I x0 0) == (5 : Int)) then
                ref01_Compare_j6 m self17 (0 : Int) x0 x1
              else
                ref01_Compare_j12 m self17)))
        else
          (bif ((Dt.I x0 0) == (8 : Int)) then
            ((ref01_Texts m (Dt.S x0 2) (Dt.S x1 2)).bind fun r15 =>
              some r15)
          else
            (bif ((Dt.I x0 0) == (6 : Int)) then
              ref01_Compare_j1 m self17 (0 : Int) x0 x1
            else
              (bif ((Dt.I x0 0) == (5 : Int)) then
                ref01_Compare_j6 m self17 (0 : Int) x0 x1
              else
                ref01_Compare_j12 m self17))))))
  else
    (bif ((Dt.I x0 0) == (9 : Int)) then
      (bif ((Dt.I x0 0) == (9 : Int)) then
        ((ref01_Ints m (Dt.I x0 1) (Dt.I x1 1)).bind fun r16 =>
          some r16)
      else
        (bif ((Dt.I x0 0) == (4 : Int)) then
          (bif ((Dt.I x0 0) == (4 : Int)) then
            ((ref01_Texts m (Dt.S x0 2) (Dt.S x1 2)).bind fun r17 =>
              some r17)
          else
            (bif ((Dt.I x0 0) == (6 : Int)) then
              ref01_Compare_j1 m self17 (0 : Int) x0 x1
            else
              (bif ((Dt.I x0 0) == (5 : Int)) then
                ref01_Compare_j6 m self17 (0 : Int) x0 x1
              else
                ref01_Compare_j12 m self17)))
        else
          (bif ((Dt.I x0 0) == (7 : Int)) then
            (bif ((Dt.I x0 0) == (7 : Int)) then
              ((ref01_Texts m (Dt.S x0 2) (Dt.S x1 2)).bind fun r18 =>
                some r18)
            else
              (bif ((Dt.I x0 0) == (6 : Int)) then
                ref01_Compare_j1 m self17 (0 : Int) x0 x1
              else
                (bif ((Dt.I x0 0) == (5 : Int)) then
                  ref01_Compare_j6 m self17 (0 : Int) x0 x1
                else
                  ref01_Compare_j12 m self17)))
          else
            (bif ((Dt.I x0 0) == (8 : Int)) then
              ((ref01_Texts m (Dt.S x0 2) (Dt.S x1 2)).bind fun r19 =>
                some r19)
            else
              (bif ((Dt.I x0 0) == (6 : Int)) then
                ref01_Compare_j1 m self17 (0 : Int) x0 x1
              else
                (bif ((Dt.I x0 0) == (5 : Int)) then
                  ref01_Compare_j6 m self17 (0 : Int) x0 x1
                else
                  ref01_Compare_j12 m self17))))))
    else
      (bif ((Dt.I x0 0) == (10 : Int)) then
        ((ref01_Ints m (Dt.I x0 1) (Dt.I x1 1)).bind fun r20 =>
          some r20)
      else
        (bif ((Dt.I x0 0) == (4 : Int)) then
          (bif ((Dt.I x0 0) == (4 : Int)) then
            ((ref01_Texts m (Dt.S x0 2) (Dt.S x1 2)).bind fun r21 =>
              some r21)
          else
            (bif ((Dt.I x0 0) == (6 : Int)) then
              ref01_Compare_j1 m self17 (0 : Int) x0 x1
            else
              (bif ((Dt.I x0 0) == (5 : Int)) then
                ref01_Compare_j6 m self17 (0 : Int) x0 x1
              else
                ref01_Compare_j12 m self17)))
        else
          (bif ((Dt.I x0 0) == (7 : Int)) then
            (bif ((Dt.I x0 0) == (7 : Int)) then
              ((ref01_Texts m (Dt.S x0 2) (Dt.S x1 2)).bind fun r22 =>
                some r22)
            else
              (bif ((Dt.I x0 0) == (6 : Int)) then
                ref01_Compare_j1 m self17 (0 : Int) x0 x1
              else
                (bif ((Dt.I x0 0) == (5 : Int)) then
                  ref01_Compare_j6 m self17 (0 : Int) x0 x1
                else
                  ref01_Compare_j12 m self17)))
          else
            (bif ((Dt.I x0 0) == (8 : Int)) then
              ((ref01_Texts m (Dt.S x0 2) (Dt.S x1 2)).bind fun r23 =>
                some r23)
            else
              (bif ((Dt.I x0 0) == (6 : Int)) then
                ref01_Compare_j1 m self17 (0 : Int) x0 x1
              else
                (bif ((Dt.I x0 0) == (5 : Int)) then
                  ref01_Compare_j6 m self17 (0 : Int) x0 x1
                else
                  ref01_Compare_j12 m self17))))))))
noncomputable def ref01_Compare : Nat → Dt → Dt → Option (Int)
  | 0, _, _ => none
  | m + 1, a0, a1 =>
    (bif ((Dt.I a0 0) != (Dt.I a1 0)) then
    ((ref01_Ints m (Dt.I a0 0) (Dt.I a1 0)).bind fun r0 =>
      some r0)
  else
    ref01_Compare_j0 m (ref01_Compare m) a0 a1)
noncomputable def path_field_j3 (m : Nat) (rec1 : List Dt → ByteArray → Int → Int → Option (Int)) (x0 : List Dt) (x1 : ByteArray) (x2 : Int) (x3 : Int) : Option (Int) :=
  rec1 x0 x1 x2 (IntKind.wrap IntKind.i64 (x3 + (1 : Int)))
noncomputable def path_field_j2 (m : Nat) (rec1 : List Dt → ByteArray → Int → Int → Option (Int)) (x0 : List Dt) (x1 : ByteArray) (x2 : Int) (x3 : Int) : Option (Int) :=
  ((idx x0 x3).bind fun v0 =>
    (bif ((ByteArray.toList (Dt.S v0 0)) == (ByteArray.toList x1)) then
      some x3
    else
      path_field_j3 m rec1 x0 x1 x2 x3))
noncomputable def path_field_j4 (m : Nat) : Option (Int) :=
  some (-1 : Int)
noncomputable def path_field_l1 (m : Nat) : Nat → List Dt → ByteArray → Int → Int → Option (Int)
  | 0, _, _, _, _ => none
  | M1 + 1, x0, x1, x2, x3 =>
    (bif (decide (x3 < x2)) then
    path_field_j2 m (path_field_l1 m M1) x0 x1 x2 x3
  else
    path_field_j4 m)
noncomputable def path_field_j0 (m : Nat) (x0 : List Dt) (x1 : ByteArray) (x2 : Int) (x3 : Int) : Option (Int) :=
  path_field_l1 m (Nat.succ m) x0 x1 x2 x3
noncomputable def path_field : Nat → List Dt → ByteArray → Option (Int)
  | 0, _, _ => none
  | m + 1, a0, a1 =>
    path_field_j0 m a0 a1 (((List.length a0) : Nat) : Int) (0 : Int)
noncomputable def path_Number_j5 (m : Nat) (rec2 : ByteArray → Int → Int → Int → Option (Int × Bool)) (x0 : ByteArray) (x1 : Int) (x2 : Int) (x3 : Int) : Option (Int × Bool) :=
  rec2 x0 x1 x2 (IntKind.wrap IntKind.i64 (x3 + (1 : Int)))
noncomputable def path_Number_j4 (m : Nat) (rec2 : ByteArray → Int → Int → Int → Option (Int × Bool)) (x0 : ByteArray) (x1 : Int) (x2 : Int) (x3 : Int) (x4 : Int) : Option (Int × Bool) :=
  ((idxS x0 x2).bind fun v3 =>
    path_Number_j5 m rec2 x0 (IntKind.wrap IntKind.i64 ((IntKind.wrap IntKind.i64 ((10 : Int) * x1)) + (IntKind.wrap IntKind.i64 (IntKind.wrap IntKind.u8 (v3 - (48 : Int)))))) x3 x4)
noncomputable def path_Number_j3 (m : Nat) (rec2 : ByteArray → Int → Int → Int → Option (Int × Bool)) (x0 : ByteArray) (x1 : Int) (x2 : Int) (x3 : Int) : Option (Int × Bool) :=
  ((idxS x0 x3).bind fun v1 =>
    (bif (decide (v1 < (48 : Int))) then
      some ((0 : Int), Bool.false)
    else
      ((idxS x0 x3).bind fun v2 =>
        (bif (decide ((57 : Int) < v2)) then
          some ((0 : Int), Bool.false)
        else
          path_Number_j4 m rec2 x0 x1 x3 x2 x3))))
noncomputable def path_Number_j6 (m : Nat) (x0 : Int) : Option (Int × Bool) :=
  some (x0, Bool.true)
noncomputable def path_Number_l2 (m : Nat) : Nat → ByteArray → Int → Int → Int → Option (Int × Bool)
  | 0, _, _, _, _ => none
  | M2 + 1, x0, x1, x2, x3 =>
    (bif (decide (x3 < x2)) then
    path_Number_j3 m (path_Number_l2 m M2) x0 x1 x2 x3
  else
    path_Number_j6 m x1)
noncomputable def path_Number_j1 (m : Nat) (x0 : ByteArray) (x1 : Int) (x2 : Int) (x3 : Int) : Option (Int × Bool) :=
  path_Number_l2 m (Nat.succ m) x0 x1 x2 x3
noncomputable def path_Number_j0 (m : Nat) (x0 : ByteArray) : Option (Int × Bool) :=
  path_Number_j1 m x0 (0 : Int) (((ByteArray.size x0) : Nat) : Int) (0 : Int)
noncomputable def path_Number : Nat → ByteArray → Option (Int × Bool)
  | 0, _ => none
  | m + 1, a0 =>
    (bif (decide ((((ByteArray.size a0) : Nat) : Int) < (1 : Int))) then
    some ((0 : Int), Bool.false)
  else
    (bif (decide ((4 : Int) < (((ByteArray.size a0) : Nat) : Int))) then
      some ((0 : Int), Bool.false)
    else
      ((idxS a0 (0 : Int)).bind fun v0 =>
        (bif (v0 == (48 : Int)) then
          (bif (decide ((1 : Int) < (((ByteArray.size a0) : Nat) : Int))) then
            some ((0 : Int), Bool.false)
          else
            path_Number_j0 m a0)
        else
          path_Number_j0 m a0))))
noncomputable def path_pass_i30_j1 (m : Nat) (self30 : Dt → List Dt → List Dt → Option (List Dt)) (x0 : List Dt) : Option (List Dt) :=
  some x0
noncomputable def path_pass_i30_j5 (m : Nat) (self30 : Dt → List Dt → List Dt → Option (List Dt)) (rec3 : List Dt → List Dt → Int → Int → List Dt → Dt → Option (List Dt)) (x0 : List Dt) (x1 : List Dt) (x2 : Int) (x3 : Int) (x4 : List Dt) (x5 : Dt) : Option (List Dt) :=
  rec3 x0 x1 x2 (IntKind.wrap IntKind.i64 (x3 + (1 : Int))) x4 x5
noncomputable def path_pass_i30_j4 (m : Nat) (self30 : Dt → List Dt → List Dt → Option (List Dt)) (rec3 : List Dt → List Dt → Int → Int → List Dt → Dt → Option (List Dt)) (x0 : List Dt) (x1 : List Dt) (x2 : Int) (x3 : Int) (x4 : List Dt) (x5 : Dt) : Option (List Dt) :=
  ((idx x1 x3).bind fun v6 =>
    (bif ((Dt.I v6 0) == (5 : Int)) then
      ((self30 v6 x0 x4).bind fun r7 =>
        path_pass_i30_j5 m self30 rec3 x0 x1 x2 x3 r7 x5)
    else
      path_pass_i30_j5 m self30 rec3 x0 x1 x2 x3 x4 x5))
noncomputable def path_pass_i30_j6 (m : Nat) (self30 : Dt → List Dt → List Dt → Option (List Dt)) (x0 : List Dt) (x1 : List Dt) (x2 : Dt) : Option (List Dt) :=
  ((idx x0 (0 : Int)).bind fun v8 =>
    ((path_Number m (Dt.toStr v8)).bind fun r9 =>
      (bif (Prod.snd r9) then
        (bif (decide ((Prod.fst r9) < (((List.length (Dt.L x2 3)) : Nat) : Int))) then
          ((idx (Dt.L x2 3) (Prod.fst r9)).bind fun v10 =>
            ((cutL x0 (1 : Int) (((List.length x0) : Nat) : Int)).bind fun v11 =>
              ((self30 v10 v11 x1).bind fun r12 =>
                path_pass_i30_j1 m self30 r12)))
        else
          path_pass_i30_j1 m self30 x1)
      else
        path_pass_i30_j1 m self30 x1)))
noncomputable def path_pass_i30_l3 (m : Nat) (self30 : Dt → List Dt → List Dt → Option (List Dt)) : Nat → List Dt → List Dt → Int → Int → List Dt → Dt → Option (List Dt)
  | 0, _, _, _, _, _, _ => none
  | M3 + 1, x0, x1, x2, x3, x4, x5 =>
    (bif (decide (x3 < x2)) then
    path_pass_i30_j4 m self30 (path_pass_i30_l3 m self30 M3) x0 x1 x2 x3 x4 x5
  else
    path_pass_i30_j6 m self30 x0 x4 x5)
noncomputable def path_pass_i30_j2 (m : Nat) (self30 : Dt → List Dt → List Dt → Option (List Dt)) (x0 : List Dt) (x1 : List Dt) (x2 : Int) (x3 : Int) (x4 : List Dt) (x5 : Dt) : Option (List Dt) :=
  path_pass_i30_l3 m self30 (Nat.succ m) x0 x1 x2 x3 x4 x5
noncomputable def path_pass_i30_j0 (m : Nat) (self30 : Dt → List Dt → List Dt → Option (List Dt)) (x0 : List Dt) (x1 : List Dt) (x2 : Dt) : Option (List Dt) :=
  (bif ((Dt.I x2 0) == (5 : Int)) then
    ((idx x0 (0 : Int)).bind fun v1 =>
      ((path_field m (Dt.L x2 4) (Dt.toStr v1)).bind fun r2 =>
        (bif (decide ((0 : Int) ≤ r2)) then
          ((idx (Dt.L x2 4) r2).bind fun v3 =>
            ((cutL x0 (1 : Int) (((List.length x0) : Nat) : Int)).bind fun v4 =>
              ((self30 (Dt.fld v3 1) v4 x1).bind fun r5 =>
                path_pass_i30_j1 m self30 r5)))
        else
          path_pass_i30_j1 m self30 x1)))
  else
    (bif ((Dt.I x2 0) == (6 : Int)) then
      path_pass_i30_j2 m self30 x0 (Dt.L x2 3) (((List.length (Dt.L x2 3)) : Nat) : Int) (0 : Int) x1 x2
    else
      path_pass_i30_j1 m self30 x1))
noncomputable def path_pass_i30 : Nat → Dt → List Dt → List Dt → Option (List Dt)
  | 0, _, _, _ => none
  | m + 1, a0, a1, a2 =>
    (bif ((((List.length a1) : Nat) : Int) == (0 : Int)) then
    ((app a2 [a0]).bind fun v0 =>
      some v0)
  else
    path_pass_i30_j0 m (path_pass_i30 m) a1 a2 a0)
noncomputable def path_clone_j3 (m : Nat) (self33 : Dt → Option (Dt)) (rec1 : List Dt → Int → Int → Dt → Dt → Int → Int → ByteArray → List Dt → Option (Dt)) (x0 : List Dt) (x1 : Int) (x2 : Int) (x3 : Dt) (x4 : Dt) (x5 : Int) (x6 : Int) (x7 : ByteArray) (x8 : List Dt) : Option (Dt) :=
  rec1 x0 x1 (IntKind.wrap IntKind.i64 (x2 + (1 : Int))) x3 x4 x5 x6 x7 x8
noncomputable def path_clone_j2 (m : Nat) (self33 : Dt → Option (Dt)) (rec1 : List Dt → Int → Int → Dt → Dt → Int → Int → ByteArray → List Dt → Option (Dt)) (x0 : List Dt) (x1 : Int) (x2 : Int) (x3 : Dt) (x4 : Dt) (x5 : Int) (x6 : Int) (x7 : ByteArray) (x8 : List Dt) : Option (Dt) :=
  ((idx x0 x2).bind fun v1 =>
    ((self33 v1).bind fun r2 =>
      ((inL x8 x2).bind fun v3 =>
        ((x8[(Int.toNat x2)]?).bind fun v4 =>
          path_clone_j3 m self33 rec1 x0 x1 x2 x3 x4 x5 x6 x7 (List.set x8 (Int.toNat x2) r2)))))
noncomputable def path_clone_j8 (m : Nat) (self33 : Dt → Option (Dt)) (rec6 : List Dt → Int → Int → Dt → Int → Int → ByteArray → List Dt → List Dt → Option (Dt)) (x0 : List Dt) (x1 : Int) (x2 : Int) (x3 : Dt) (x4 : Int) (x5 : Int) (x6 : ByteArray) (x7 : List Dt) (x8 : List Dt) : Option (Dt) :=
  rec6 x0 x1 (IntKind.wrap IntKind.i64 (x2 + (1 : Int))) x3 x4 x5 x6 x7 x8
noncomputable def path_clone_j7 (m : Nat) (self33 : Dt → Option (Dt)) (rec6 : List Dt → Int → Int → Dt → Int → Int → ByteArray → List Dt → List Dt → Option (Dt)) (x0 : List Dt) (x1 : Int) (x2 : Int) (x3 : Dt) (x4 : Int) (x5 : Int) (x6 : ByteArray) (x7 : List Dt) (x8 : List Dt) : Option (Dt) :=
  ((idx x0 x2).bind fun v6 =>
    ((self33 (Dt.fld v6 1)).bind fun r7 =>
      ((inL x8 x2).bind fun v8 =>
        ((x8[(Int.toNat x2)]?).bind fun v9 =>
          path_clone_j8 m self33 rec6 x0 x1 x2 x3 x4 x5 x6 x7 (List.set x8 (Int.toNat x2) (Dt.agg [(Dt.str (Dt.S v6 0)), r7]))))))
noncomputable def path_clone_j9 (m : Nat) (self33 : Dt → Option (Dt)) (x0 : Dt) (x1 : Int) (x2 : Int) (x3 : ByteArray) (x4 : List Dt) (x5 : List Dt) : Option (Dt) :=
  some (Dt.agg [(Dt.int x1), (Dt.int x2), (Dt.str x3), (Dt.lst x4), (Dt.lst x5)])
noncomputable def path_clone_l6 (m : Nat) (self33 : Dt → Option (Dt)) : Nat → List Dt → Int → Int → Dt → Int → Int → ByteArray → List Dt → List Dt → Option (Dt)
  | 0, _, _, _, _, _, _, _, _, _ => none
  | M6 + 1, x0, x1, x2, x3, x4, x5, x6, x7, x8 =>
    (bif (decide (x2 < x1)) then
    path_clone_j7 m self33 (path_clone_l6 m self33 M6) x0 x1 x2 x3 x4 x5 x6 x7 x8
  else
    path_clone_j9 m self33 x3 x4 x5 x6 x7 x8)
noncomputable def path_clone_j5 (m : Nat) (self33 : Dt → Option (Dt)) (x0 : List Dt) (x1 : Int) (x2 : Int) (x3 : Dt) (x4 : Int) (x5 : Int) (x6 : ByteArray) (x7 : List Dt) (x8 : List Dt) : Option (Dt) :=
  path_clone_l6 m self33 (Nat.succ m) x0 x1 x2 x3 x4 x5 x6 x7 x8
noncomputable def path_clone_j10 (m : Nat) (self33 : Dt → Option (Dt)) (x0 : Dt) (x1 : Int) (x2 : Int) (x3 : ByteArray) (x4 : List Dt) : Option (Dt) :=
  some (Dt.agg [(Dt.int x1), (Dt.int x2), (Dt.str x3), (Dt.lst x4), (Dt.lst [])])
noncomputable def path_clone_j4 (m : Nat) (self33 : Dt → Option (Dt)) (x0 : Dt) (x1 : Dt) (x2 : Int) (x3 : Int) (x4 : ByteArray) (x5 : List Dt) : Option (Dt) :=
  (bif (decide ((0 : Int) < (((List.length (Dt.L x0 4)) : Nat) : Int))) then
    ((mkL (((List.length (Dt.L x0 4)) : Nat) : Int) (((List.length (Dt.L x0 4)) : Nat) : Int) (Dt.agg [(Dt.str (ByteArray.mk (List.toArray []))), (Dt.agg [(Dt.int (0 : Int)), (Dt.int (0 : Int)), (Dt.str (ByteArray.mk (List.toArray []))), (Dt.lst []), (Dt.lst [])])])).bind fun v5 =>
      path_clone_j5 m self33 (Dt.L x0 4) (((List.length (Dt.L x0 4)) : Nat) : Int) (0 : Int) x1 x2 x3 x4 x5 v5)
  else
    path_clone_j10 m self33 x1 x2 x3 x4 x5)
noncomputable def path_clone_l1 (m : Nat) (self33 : Dt → Option (Dt)) : Nat → List Dt → Int → Int → Dt → Dt → Int → Int → ByteArray → List Dt → Option (Dt)
  | 0, _, _, _, _, _, _, _, _, _ => none
  | M1 + 1, x0, x1, x2, x3, x4, x5, x6, x7, x8 =>
    (bif (decide (x2 < x1)) then
    path_clone_j2 m self33 (path_clone_l1 m self33 M1) x0 x1 x2 x3 x4 x5 x6 x7 x8
  else
    path_clone_j4 m self33 x3 x4 x5 x6 x7 x8)
noncomputable def path_clone_j0 (m : Nat) (self33 : Dt → Option (Dt)) (x0 : List Dt) (x1 : Int) (x2 : Int) (x3 : Dt) (x4 : Dt) (x5 : Int) (x6 : Int) (x7 : ByteArray) (x8 : List Dt) : Option (Dt) :=
  path_clone_l1 m self33 (Nat.succ m) x0 x1 x2 x3 x4 x5 x6 x7 x8
noncomputable def path_clone_j15 (m : Nat) (self33 : Dt → Option (Dt)) (rec13 : List Dt → Int → Int → Dt → Int → Int → ByteArray → List Dt → List Dt → Option (Dt)) (x0 : List Dt) (x1 : Int) (x2 : Int) (x3 : Dt) (x4 : Int) (x5 : Int) (x6 : ByteArray) (x7 : List Dt) (x8 : List Dt) : Option (Dt) :=
  rec13 x0 x1 (IntKind.wrap IntKind.i64 (x2 + (1 : Int))) x3 x4 x5 x6 x7 x8
noncomputable def path_clone_j14 (m : Nat) (self33 : Dt → Option (Dt)) (rec13 : List Dt → Int → Int → Dt → Int → Int → ByteArray → List Dt → List Dt → Option (Dt)) (x0 : List Dt) (x1 : Int) (x2 : Int) (x3 : Dt) (x4 : Int) (x5 : Int) (x6 : ByteArray) (x7 : List Dt) (x8 : List Dt) : Option (Dt) :=
  ((idx x0 x2).bind fun v11 =>
    ((self33 (Dt.fld v11 1)).bind fun r12 =>
      ((inL x8 x2).bind fun v13 =>
        ((x8[(Int.toNat x2)]?).bind fun v14 =>
          path_clone_j15 m self33 rec13 x0 x1 x2 x3 x4 x5 x6 x7 (List.set x8 (Int.toNat x2) (Dt.agg [(Dt.str (Dt.S v11 0)), r12]))))))
noncomputable def path_clone_j16 (m : Nat) (self33 : Dt → Option (Dt)) (x0 : Dt) (x1 : Int) (x2 : Int) (x3 : ByteArray) (x4 : List Dt) (x5 : List Dt) : Option (Dt) :=
  some (Dt.agg [(Dt.int x1), (Dt.int x2), (Dt.str x3), (Dt.lst x4), (Dt.lst x5)])
noncomputable def path_clone_l13 (m : Nat) (self33 : Dt → Option (Dt)) : Nat → List Dt → Int → Int → Dt → Int → Int → ByteArray → List Dt → List Dt → Option (Dt)
  | 0, _, _, _, _, _, _, _, _, _ => none
  | M13 + 1, x0, x1, x2, x3, x4, x5, x6, x7, x8 =>
    (bif (decide (x2 < x1)) then
    path_clone_j14 m self33 (path_clone_l13 m self33 M13) x0 x1 x2 x3 x4 x5 x6 x7 x8
  else
    path_clone_j16 m self33 x3 x4 x5 x6 x7 x8)
noncomputable def path_clone_j12 (m : Nat) (self33 : Dt → Option (Dt)) (x0 : List Dt) (x1 : Int) (x2 : Int) (x3 : Dt) (x4 : Int) (x5 : Int) (x6 : ByteArray) (x7 : List Dt) (x8 : List Dt) : Option (Dt) :=
  path_clone_l13 m self33 (Nat.succ m) x0 x1 x2 x3 x4 x5 x6 x7 x8
noncomputable def path_clone_j17 (m : Nat) (self33 : Dt → Option (Dt)) (x0 : Dt) (x1 : Dt) : Option (Dt) :=
  some x1
noncomputable def path_clone_j11 (m : Nat) (self33 : Dt → Option (Dt)) (x0 : Dt) (x1 : Dt) (x2 : Dt) : Option (Dt) :=
  (bif (decide ((0 : Int) < (((List.length (Dt.L x0 4)) : Nat) : Int))) then
    ((mkL (((List.length (Dt.L x0 4)) : Nat) : Int) (((List.length (Dt.L x0 4)) : Nat) : Int) (Dt.agg [(Dt.str (ByteArray.mk (List.toArray []))), (Dt.agg [(Dt.int (0 : Int)), (Dt.int (0 : Int)), (Dt.str (ByteArray.mk (List.toArray []))), (Dt.lst []), (Dt.lst [])])])).bind fun v10 =>
      path_clone_j12 m self33 (Dt.L x0 4) (((List.length (Dt.L x0 4)) : Nat) : Int) (0 : Int) x1 (Dt.I x2 0) (Dt.I x2 1) (Dt.S x2 2) (Dt.L x2 3) v10)
  else
    path_clone_j17 m self33 x1 x2)
noncomputable def path_clone : Nat → Dt → Option (Dt)
  | 0, _ => none
  | m + 1, a0 =>
    (bif (decide ((0 : Int) < (((List.length (Dt.L a0 3)) : Nat) : Int))) then
    ((mkL (((List.length (Dt.L a0 3)) : Nat) : Int) (((List.length (Dt.L a0 3)) : Nat) : Int) (Dt.agg [(Dt.int (0 : Int)), (Dt.int (0 : Int)), (Dt.str (ByteArray.mk (List.toArray []))), (Dt.lst []), (Dt.lst [])])).bind fun v0 =>
      path_clone_j0 m (path_clone m) (Dt.L a0 3) (((List.length (Dt.L a0 3)) : Nat) : Int) (0 : Int) a0 (Dt.agg [(Dt.int (0 : Int)), (Dt.int (0 : Int)), (Dt.str (ByteArray.mk (List.toArray []))), (Dt.lst []), (Dt.lst [])]) (Dt.I a0 0) (Dt.I a0 1) (Dt.S a0 2) v0)
  else
    path_clone_j11 m (path_clone m) a0 (Dt.agg [(Dt.int (0 : Int)), (Dt.int (0 : Int)), (Dt.str (ByteArray.mk (List.toArray []))), (Dt.lst []), (Dt.lst [])]) (Dt.agg [(Dt.int (Dt.I a0 0)), (Dt.int (Dt.I a0 1)), (Dt.str (Dt.S a0 2)), (Dt.lst []), (Dt.lst [])]))
noncomputable def path_Reach_j4 (m : Nat) (rec2 : Int → Int → List Dt → Option (List Dt)) (x0 : Int) (x1 : Int) (x2 : List Dt) : Option (List Dt) :=
  rec2 x0 (IntKind.wrap IntKind.i64 (x1 + (1 : Int))) x2
noncomputable def path_Reach_j3 (m : Nat) (rec2 : Int → Int → List Dt → Option (List Dt)) (x0 : Int) (x1 : Int) (x2 : List Dt) : Option (List Dt) :=
  ((inL x2 x1).bind fun v1 =>
    ((x2[(Int.toNat x1)]?).bind fun v2 =>
      ((path_clone m v2).bind fun r3 =>
        ((inL x2 x1).bind fun v4 =>
          ((x2[(Int.toNat x1)]?).bind fun v5 =>
            path_Reach_j4 m rec2 x0 x1 (List.set x2 (Int.toNat x1) r3))))))
noncomputable def path_Reach_j5 (m : Nat) (x0 : List Dt) : Option (List Dt) :=
  some x0
noncomputable def path_Reach_l2 (m : Nat) : Nat → Int → Int → List Dt → Option (List Dt)
  | 0, _, _, _ => none
  | M2 + 1, x0, x1, x2 =>
    (bif (decide (x1 < x0)) then
    path_Reach_j3 m (path_Reach_l2 m M2) x0 x1 x2
  else
    path_Reach_j5 m x2)
noncomputable def path_Reach_j1 (m : Nat) (x0 : Int) (x1 : Int) (x2 : List Dt) : Option (List Dt) :=
  path_Reach_l2 m (Nat.succ m) x0 x1 x2
noncomputable def path_Reach_j0 (m : Nat) (x0 : List Dt) : Option (List Dt) :=
  path_Reach_j1 m (((List.length x0) : Nat) : Int) (0 : Int) x0
noncomputable def path_Reach : Nat → Dt → List Dt → Option (List Dt)
  | 0, _, _ => none
  | m + 1, a0, a1 =>
    ((path_pass_i30 m a0 a1 []).bind fun r0 =>
    (bif ((((List.length r0) : Nat) : Int) == (0 : Int)) then
      some [(Dt.agg [(Dt.int (0 : Int)), (Dt.int (0 : Int)), (Dt.str (ByteArray.mk (List.toArray []))), (Dt.lst []), (Dt.lst [])])]
    else
      path_Reach_j0 m r0))
noncomputable def ref01_Parts_j3 (m : Nat) (rec1 : Int → Dt → List Dt → Option (List Dt)) (x0 : Int) (x1 : Dt) (x2 : List Dt) : Option (List Dt) :=
  rec1 (IntKind.wrap IntKind.i64 (x0 + (1 : Int))) x1 x2
noncomputable def ref01_Parts_j2 (m : Nat) (rec1 : Int → Dt → List Dt → Option (List Dt)) (x0 : Int) (x1 : Dt) (x2 : List Dt) : Option (List Dt) :=
  ((idx (Dt.L x1 3) x0).bind fun v0 =>
    ((app x2 [v0]).bind fun v1 =>
      ref01_Parts_j3 m rec1 x0 x1 v1))
noncomputable def ref01_Parts_j8 (m : Nat) (rec6 : Int → Dt → List Dt → Option (List Dt)) (x0 : Int) (x1 : Dt) (x2 : List Dt) : Option (List Dt) :=
  rec6 (IntKind.wrap IntKind.i64 (x0 + (1 : Int))) x1 x2
noncomputable def ref01_Parts_j7 (m : Nat) (rec6 : Int → Dt → List Dt → Option (List Dt)) (x0 : Int) (x1 : Dt) (x2 : List Dt) : Option (List Dt) :=
  ((idx (Dt.L x1 4) x0).bind fun v2 =>
    ((app x2 [(Dt.fld v2 1)]).bind fun v3 =>
      ref01_Parts_j8 m rec6 x0 x1 v3))
noncomputable def ref01_Parts_j9 (m : Nat) (x0 : List Dt) : Option (List Dt) :=
  some x0
noncomputable def ref01_Parts_l6 (m : Nat) : Nat → Int → Dt → List Dt → Option (List Dt)
  | 0, _, _, _ => none
  | M6 + 1, x0, x1, x2 =>
    (bif (decide (x0 < (((List.length (Dt.L x1 4)) : Nat) : Int))) then
    ref01_Parts_j7 m (ref01_Parts_l6 m M6) x0 x1 x2
  else
    ref01_Parts_j9 m x2)
noncomputable def ref01_Parts_j5 (m : Nat) (x0 : Int) (x1 : Dt) (x2 : List Dt) : Option (List Dt) :=
  ref01_Parts_l6 m (Nat.succ m) x0 x1 x2
noncomputable def ref01_Parts_j4 (m : Nat) (x0 : Dt) (x1 : List Dt) : Option (List Dt) :=
  (bif ((Dt.I x0 0) == (5 : Int)) then
    ref01_Parts_j5 m (0 : Int) x0 x1
  else
    ref01_Parts_j9 m x1)
noncomputable def ref01_Parts_l1 (m : Nat) : Nat → Int → Dt → List Dt → Option (List Dt)
  | 0, _, _, _ => none
  | M1 + 1, x0, x1, x2 =>
    (bif (decide (x0 < (((List.length (Dt.L x1 3)) : Nat) : Int))) then
    ref01_Parts_j2 m (ref01_Parts_l1 m M1) x0 x1 x2
  else
    ref01_Parts_j4 m x1 x2)
noncomputable def ref01_Parts_j0 (m : Nat) (x0 : Int) (x1 : Dt) (x2 : List Dt) : Option (List Dt) :=
  ref01_Parts_l1 m (Nat.succ m) x0 x1 x2
noncomputable def ref01_Parts : Nat → Dt → Option (List Dt)
  | 0, _ => none
  | m + 1, a0 =>
    (bif ((Dt.I a0 0) == (6 : Int)) then
    ref01_Parts_j0 m (0 : Int) a0 []
  else
    ref01_Parts_j4 m a0 [])
noncomputable def ref01_levels_j4 (m : Nat) (self26 : Dt → Int → Option (Int)) (rec2 : Int → List Dt → Int → Int → Option (Int)) (x0 : Int) (x1 : List Dt) (x2 : Int) (x3 : Int) : Option (Int) :=
  rec2 x0 x1 x2 (IntKind.wrap IntKind.i64 (x3 + (1 : Int)))
noncomputable def ref01_levels_j3 (m : Nat) (self26 : Dt → Int → Option (Int)) (rec2 : Int → List Dt → Int → Int → Option (Int)) (x0 : Int) (x1 : List Dt) (x2 : Int) (x3 : Int) : Option (Int) :=
  ((idx x1 x3).bind fun v1 =>
    ((self26 v1 (IntKind.wrap IntKind.i64 (x0 - (1 : Int)))).bind fun r2 =>
      ref01_levels_j4 m self26 rec2 x0 x1 (bif (decide (x2 < r2)) then r2 else x2) x3))
noncomputable def ref01_levels_j5 (m : Nat) (self26 : Dt → Int → Option (Int)) (x0 : Int) : Option (Int) :=
  some (IntKind.wrap IntKind.i64 (x0 + (1 : Int)))
noncomputable def ref01_levels_l2 (m : Nat) (self26 : Dt → Int → Option (Int)) : Nat → Int → List Dt → Int → Int → Option (Int)
  | 0, _, _, _, _ => none
  | M2 + 1, x0, x1, x2, x3 =>
    (bif (decide (x3 < (((List.length x1) : Nat) : Int))) then
    ref01_levels_j3 m self26 (ref01_levels_l2 m self26 M2) x0 x1 x2 x3
  else
    ref01_levels_j5 m self26 x2)
noncomputable def ref01_levels_j1 (m : Nat) (self26 : Dt → Int → Option (Int)) (x0 : Int) (x1 : List Dt) (x2 : Int) (x3 : Int) : Option (Int) :=
  ref01_levels_l2 m self26 (Nat.succ m) x0 x1 x2 x3
noncomputable def ref01_levels_j0 (m : Nat) (self26 : Dt → Int → Option (Int)) (x0 : Int) (x1 : List Dt) : Option (Int) :=
  ref01_levels_j1 m self26 x0 x1 (0 : Int) (0 : Int)
noncomputable def ref01_levels : Nat → Dt → Int → Option (Int)
  | 0, _, _ => none
  | m + 1, a0, a1 =>
    ((ref01_Parts m a0).bind fun r0 =>
    (bif (decide (a1 < (2 : Int))) then
      some (1 : Int)
    else
      (bif ((((List.length r0) : Nat) : Int) == (0 : Int)) then
        some (1 : Int)
      else
        ref01_levels_j0 m (ref01_levels m) a1 r0)))
noncomputable def ref01_Depth : Nat → Dt → Option (Int)
  | 0, _ => none
  | m + 1, a0 =>
    ((ref01_levels m a0 (17 : Int)).bind fun r0 =>
    some r0)
noncomputable def ref01_count_j3 (m : Nat) (self27 : Dt → Int → Option (Int)) (rec1 : Int → Int → List Dt → Int → Option (Int)) (x0 : Int) (x1 : Int) (x2 : List Dt) (x3 : Int) : Option (Int) :=
  rec1 x0 x1 x2 (IntKind.wrap IntKind.i64 (x3 + (1 : Int)))
noncomputable def ref01_count_j2 (m : Nat) (self27 : Dt → Int → Option (Int)) (rec1 : Int → Int → List Dt → Int → Option (Int)) (x0 : Int) (x1 : Int) (x2 : List Dt) (x3 : Int) : Option (Int) :=
  ((idx x2 x3).bind fun v1 =>
    ((self27 v1 (IntKind.wrap IntKind.i64 (x0 - x1))).bind fun r2 =>
      ref01_count_j3 m self27 rec1 x0 (IntKind.wrap IntKind.i64 (x1 + r2)) x2 x3))
noncomputable def ref01_count_j4 (m : Nat) (self27 : Dt → Int → Option (Int)) (x0 : Int) : Option (Int) :=
  some x0
noncomputable def ref01_count_l1 (m : Nat) (self27 : Dt → Int → Option (Int)) : Nat → Int → Int → List Dt → Int → Option (Int)
  | 0, _, _, _, _ => none
  | M1 + 1, x0, x1, x2, x3 =>
    (bif (decide (x3 < (((List.length x2) : Nat) : Int))) then
    (bif (decide (x1 < x0)) then
      ref01_count_j2 m self27 (ref01_count_l1 m self27 M1) x0 x1 x2 x3
    else
      ref01_count_j4 m self27 x1)
  else
    ref01_count_j4 m self27 x1)
noncomputable def ref01_count_j0 (m : Nat) (self27 : Dt → Int → Option (Int)) (x0 : Int) (x1 : Int) (x2 : List Dt) (x3 : Int) : Option (Int) :=
  ref01_count_l1 m self27 (Nat.succ m) x0 x1 x2 x3
noncomputable def ref01_count : Nat → Dt → Int → Option (Int)
  | 0, _, _ => none
  | m + 1, a0, a1 =>
    ((ref01_Parts m a0).bind fun r0 =>
    ref01_count_j0 m (ref01_count m) a1 (1 : Int) r0 (0 : Int))
noncomputable def ref01_Nodes : Nat → Dt → Option (Int)
  | 0, _ => none
  | m + 1, a0 =>
    ((ref01_count m a0 (1025 : Int)).bind fun r0 =>
    some r0)
noncomputable def ref01_tail_j4 (m : Nat) (rec2 : ByteArray → Int → Int → Int → Option (Bool)) (x0 : ByteArray) (x1 : Int) (x2 : Int) (x3 : Int) : Option (Bool) :=
  rec2 x0 x1 x2 (IntKind.wrap IntKind.i64 (x3 + (1 : Int)))
noncomputable def ref01_tail_j3 (m : Nat) (rec2 : ByteArray → Int → Int → Int → Option (Bool)) (x0 : ByteArray) (x1 : Int) (x2 : Int) (x3 : Int) : Option (Bool) :=
  ((idxS x0 (IntKind.wrap IntKind.i64 (x1 + x3))).bind fun v0 =>
    (bif (decide (v0 < (128 : Int))) then
      some Bool.false
    else
      ((idxS x0 (IntKind.wrap IntKind.i64 (x1 + x3))).bind fun v1 =>
        (bif (decide ((191 : Int) < v1)) then
          some Bool.false
        else
          ref01_tail_j4 m rec2 x0 x1 x2 x3))))
noncomputable def ref01_tail_j5 (m : Nat) : Option (Bool) :=
  some Bool.true
noncomputable def ref01_tail_l2 (m : Nat) : Nat → ByteArray → Int → Int → Int → Option (Bool)
  | 0, _, _, _, _ => none
  | M2 + 1, x0, x1, x2, x3 =>
    (bif (decide (x3 < x2)) then
    ref01_tail_j3 m (ref01_tail_l2 m M2) x0 x1 x2 x3
  else
    ref01_tail_j5 m)
noncomputable def ref01_tail_j1 (m : Nat) (x0 : ByteArray) (x1 : Int) (x2 : Int) (x3 : Int) : Option (Bool) :=
  ref01_tail_l2 m (Nat.succ m) x0 x1 x2 x3
noncomputable def ref01_tail_j0 (m : Nat) (x0 : ByteArray) (x1 : Int) (x2 : Int) : Option (Bool) :=
  ref01_tail_j1 m x0 x1 x2 (0 : Int)
noncomputable def ref01_tail : Nat → ByteArray → Int → Int → Option (Bool)
  | 0, _, _, _ => none
  | m + 1, a0, a1, a2 =>
    (bif (decide ((((ByteArray.size a0) : Nat) : Int) < (IntKind.wrap IntKind.i64 (a1 + a2)))) then
    some Bool.false
  else
    ref01_tail_j0 m a0 a1 a2)
noncomputable def ref01_UTF8_j5 (m : Nat) (rec1 : ByteArray → Int → Option (Bool)) (x0 : ByteArray) (x1 : Int) (x2 : Int) : Option (Bool) :=
  rec1 x0 (IntKind.wrap IntKind.i64 ((IntKind.wrap IntKind.i64 (x1 + x2)) + (1 : Int)))
noncomputable def ref01_UTF8_j4 (m : Nat) (rec1 : ByteArray → Int → Option (Bool)) (x0 : ByteArray) (x1 : Int) (x2 : Int) (x3 : Int) : Option (Bool) :=
  (bif (x2 == (224 : Int)) then
    ((idxS x0 (IntKind.wrap IntKind.i64 (x1 + (1 : Int)))).bind fun v2 =>
      (bif (decide (v2 < (160 : Int))) then
        some Bool.false
      else
        (bif (x2 == (237 : Int)) then
          ((idxS x0 (IntKind.wrap IntKind.i64 (x1 + (1 : Int)))).bind fun v3 =>
            (bif (decide ((159 : Int) < v3)) then
              some Bool.false
            else
              (bif (x2 == (240 : Int)) then
                ((idxS x0 (IntKind.wrap IntKind.i64 (x1 + (1 : Int)))).bind fun v4 =>
                  (bif (decide (v4 < (144 : Int))) then
                    some Bool.false
                  else
                    (bif (x2 == (244 : Int)) then
                      ((idxS x0 (IntKind.wrap IntKind.i64 (x1 + (1 : Int)))).bind fun v5 =>
                        (bif (decide ((143 : Int) < v5)) then
                          some Bool.false
                        else
                          ref01_UTF8_j5 m rec1 x0 x1 x3))
                    else
                      ref01_UTF8_j5 m rec1 x0 x1 x3)))
              else
                (bif (x2 == (244 : Int)) then
                  ((idxS x0 (IntKind.wrap IntKind.i64 (x1 + (1 : Int)))).bind fun v6 =>
                    (bif (decide ((143 : Int) < v6)) then
                      some Bool.false
                    else
                      ref01_UTF8_j5 m rec1 x0 x1 x3))
                else
                  ref01_UTF8_j5 m rec1 x0 x1 x3))))
        else
          (bif (x2 == (240 : Int)) then
            ((idxS x0 (IntKind.wrap IntKind.i64 (x1 + (1 : Int)))).bind fun v7 =>
              (bif (decide (v7 < (144 : Int))) then
                some Bool.false
              else
                (bif (x2 == (244 : Int)) then
                  ((idxS x0 (IntKind.wrap IntKind.i64 (x1 + (1 : Int)))).bind fun v8 =>
                    (bif (decide ((143 : Int) < v8)) then
                      some Bool.false
                    else
                      ref01_UTF8_j5 m rec1 x0 x1 x3))
                else
                  ref01_UTF8_j5 m rec1 x0 x1 x3)))
          else
            (bif (x2 == (244 : Int)) then
              ((idxS x0 (IntKind.wrap IntKind.i64 (x1 + (1 : Int)))).bind fun v9 =>
                (bif (decide ((143 : Int) < v9)) then
                  some Bool.false
                else
                  ref01_UTF8_j5 m rec1 x0 x1 x3))
            else
              ref01_UTF8_j5 m rec1 x0 x1 x3)))))
  else
    (bif (x2 == (237 : Int)) then
      ((idxS x0 (IntKind.wrap IntKind.i64 (x1 + (1 : Int)))).bind fun v10 =>
        (bif (decide ((159 : Int) < v10)) then
          some Bool.false
        else
          (bif (x2 == (240 : Int)) then
            ((idxS x0 (IntKind.wrap IntKind.i64 (x1 + (1 : Int)))).bind fun v11 =>
              (bif (decide (v11 < (144 : Int))) then
                some Bool.false
              else
                (bif (x2 == (244 : Int)) then
                  ((idxS x0 (IntKind.wrap IntKind.i64 (x1 + (1 : Int)))).bind fun v12 =>
                    (bif (decide ((143 : Int) < v12)) then
                      some Bool.false
                    else
                      ref01_UTF8_j5 m rec1 x0 x1 x3))
                else
                  ref01_UTF8_j5 m rec1 x0 x1 x3)))
          else
            (bif (x2 == (244 : Int)) then
              ((idxS x0 (IntKind.wrap IntKind.i64 (x1 + (1 : Int)))).bind fun v13 =>
                (bif (decide ((143 : Int) < v13)) then
                  some Bool.false
                else
                  ref01_UTF8_j5 m rec1 x0 x1 x3))
            else
              ref01_UTF8_j5 m rec1 x0 x1 x3))))
    else
      (bif (x2 == (240 : Int)) then
        ((idxS x0 (IntKind.wrap IntKind.i64 (x1 + (1 : Int)))).bind fun v14 =>
          (bif (decide (v14 < (144 : Int))) then
            some Bool.false
          else
            (bif (x2 == (244 : Int)) then
              ((idxS x0 (IntKind.wrap IntKind.i64 (x1 + (1 : Int)))).bind fun v15 =>
                (bif (decide ((143 : Int) < v15)) then
                  some Bool.false
                else
                  ref01_UTF8_j5 m rec1 x0 x1 x3))
            else
              ref01_UTF8_j5 m rec1 x0 x1 x3)))
      else
        (bif (x2 == (244 : Int)) then
          ((idxS x0 (IntKind.wrap IntKind.i64 (x1 + (1 : Int)))).bind fun v16 =>
            (bif (decide ((143 : Int) < v16)) then
              some Bool.false
            else
              ref01_UTF8_j5 m rec1 x0 x1 x3))
        else
          ref01_UTF8_j5 m rec1 x0 x1 x3))))
noncomputable def ref01_UTF8_j3 (m : Nat) (rec1 : ByteArray → Int → Option (Bool)) (x0 : ByteArray) (x1 : Int) (x2 : Int) (x3 : Int) : Option (Bool) :=
  ((ref01_tail m x0 (IntKind.wrap IntKind.i64 (x1 + (1 : Int))) x3).bind fun r1 =>
    (bif (Bool.not r1) then
      some Bool.false
    else
      ref01_UTF8_j4 m rec1 x0 x1 x2 x3))
noncomputable def ref01_UTF8_j2 (m : Nat) (rec1 : ByteArray → Int → Option (Bool)) (x0 : ByteArray) (x1 : Int) : Option (Bool) :=
  ((idxS x0 x1).bind fun v0 =>
    (bif (decide (v0 < (128 : Int))) then
      ref01_UTF8_j3 m rec1 x0 x1 v0 (0 : Int)
    else
      (bif (decide ((194 : Int) ≤ v0)) then
        (bif (decide (v0 ≤ (223 : Int))) then
          ref01_UTF8_j3 m rec1 x0 x1 v0 (1 : Int)
        else
          (bif (decide ((224 : Int) ≤ v0)) then
            (bif (decide (v0 ≤ (239 : Int))) then
              ref01_UTF8_j3 m rec1 x0 x1 v0 (2 : Int)
            else
              (bif (decide ((240 : Int) ≤ v0)) then
                (bif (decide (v0 ≤ (244 : Int))) then
                  ref01_UTF8_j3 m rec1 x0 x1 v0 (3 : Int)
                else
                  some Bool.false)
              else
                some Bool.false))
          else
            (bif (decide ((240 : Int) ≤ v0)) then
              (bif (decide (v0 ≤ (244 : Int))) then
                ref01_UTF8_j3 m rec1 x0 x1 v0 (3 : Int)
              else
                some Bool.false)
            else
              some Bool.false)))
      else
        (bif (decide ((224 : Int) ≤ v0)) then
          (bif (decide (v0 ≤ (239 : Int))) then
            ref01_UTF8_j3 m rec1 x0 x1 v0 (2 : Int)
          else
            (bif (decide ((240 : Int) ≤ v0)) then
              (bif (decide (v0 ≤ (244 : Int))) then
                ref01_UTF8_j3 m rec1 x0 x1 v0 (3 : Int)
              else
                some Bool.false)
            else
              some Bool.false))
        else
          (bif (decide ((240 : Int) ≤ v0)) then
            (bif (decide (v0 ≤ (244 : Int))) then
              ref01_UTF8_j3 m rec1 x0 x1 v0 (3 : Int)
            else
              some Bool.false)
          else
            some Bool.false)))))
noncomputable def ref01_UTF8_j6 (m : Nat) : Option (Bool) :=
  some Bool.true
noncomputable def ref01_UTF8_l1 (m : Nat) : Nat → ByteArray → Int → Option (Bool)
  | 0, _, _ => none
  | M1 + 1, x0, x1 =>
    (bif (decide (x1 < (((ByteArray.size x0) : Nat) : Int))) then
    ref01_UTF8_j2 m (ref01_UTF8_l1 m M1) x0 x1
  else
    ref01_UTF8_j6 m)
noncomputable def ref01_UTF8_j0 (m : Nat) (x0 : ByteArray) (x1 : Int) : Option (Bool) :=
  ref01_UTF8_l1 m (Nat.succ m) x0 x1
noncomputable def ref01_UTF8 : Nat → ByteArray → Option (Bool)
  | 0, _ => none
  | m + 1, a0 =>
    ref01_UTF8_j0 m a0 (0 : Int)
noncomputable def ref01_Name_j4 (m : Nat) (rec2 : ByteArray → Int → Option (Bool)) (x0 : ByteArray) (x1 : Int) : Option (Bool) :=
  rec2 x0 (IntKind.wrap IntKind.i64 (x1 + (1 : Int)))
noncomputable def ref01_Name_j3 (m : Nat) (rec2 : ByteArray → Int → Option (Bool)) (x0 : ByteArray) (x1 : Int) : Option (Bool) :=
  ((idxS x0 x1).bind fun v1 =>
    (bif (decide (v1 < (33 : Int))) then
      some Bool.false
    else
      ((idxS x0 x1).bind fun v2 =>
        (bif (decide ((126 : Int) < v2)) then
          some Bool.false
        else
          ((idxS x0 x1).bind fun v3 =>
            (bif (v3 == (46 : Int)) then
              some Bool.false
            else
              ref01_Name_j4 m rec2 x0 x1))))))
noncomputable def ref01_Name_j5 (m : Nat) : Option (Bool) :=
  some Bool.true
noncomputable def ref01_Name_l2 (m : Nat) : Nat → ByteArray → Int → Option (Bool)
  | 0, _, _ => none
  | M2 + 1, x0, x1 =>
    (bif (decide (x1 < (((ByteArray.size x0) : Nat) : Int))) then
    ref01_Name_j3 m (ref01_Name_l2 m M2) x0 x1
  else
    ref01_Name_j5 m)
noncomputable def ref01_Name_j1 (m : Nat) (x0 : ByteArray) (x1 : Int) : Option (Bool) :=
  ref01_Name_l2 m (Nat.succ m) x0 x1
noncomputable def ref01_Name_j0 (m : Nat) (x0 : ByteArray) : Option (Bool) :=
  ref01_Name_j1 m x0 (0 : Int)
noncomputable def ref01_Name : Nat → ByteArray → Option (Bool)
  | 0, _ => none
  | m + 1, a0 =>
    (bif (decide ((((ByteArray.size a0) : Nat) : Int) < (1 : Int))) then
    some Bool.false
  else
    (bif (decide ((32 : Int) < (((ByteArray.size a0) : Nat) : Int))) then
      some Bool.false
    else
      ((idxS a0 (0 : Int)).bind fun v0 =>
        (bif (v0 == (36 : Int)) then
          some Bool.false
        else
          ref01_Name_j0 m a0))))
noncomputable def ref01_wide_j4 (m : Nat) (rec2 : ByteArray → Int → Option (Bool)) (x0 : ByteArray) (x1 : Int) : Option (Bool) :=
  rec2 x0 (IntKind.wrap IntKind.i64 (x1 + (1 : Int)))
noncomputable def ref01_wide_j3 (m : Nat) (rec2 : ByteArray → Int → Option (Bool)) (x0 : ByteArray) (x1 : Int) : Option (Bool) :=
  ((idxS x0 x1).bind fun v0 =>
    (bif (decide (v0 < (32 : Int))) then
      some Bool.false
    else
      ((idxS x0 x1).bind fun v1 =>
        (bif (decide ((126 : Int) < v1)) then
          some Bool.false
        else
          ref01_wide_j4 m rec2 x0 x1))))
noncomputable def ref01_wide_j5 (m : Nat) : Option (Bool) :=
  some Bool.true
noncomputable def ref01_wide_l2 (m : Nat) : Nat → ByteArray → Int → Option (Bool)
  | 0, _, _ => none
  | M2 + 1, x0, x1 =>
    (bif (decide (x1 < (((ByteArray.size x0) : Nat) : Int))) then
    ref01_wide_j3 m (ref01_wide_l2 m M2) x0 x1
  else
    ref01_wide_j5 m)
noncomputable def ref01_wide_j1 (m : Nat) (x0 : ByteArray) (x1 : Int) : Option (Bool) :=
  ref01_wide_l2 m (Nat.succ m) x0 x1
noncomputable def ref01_wide_j0 (m : Nat) (x0 : ByteArray) : Option (Bool) :=
  ref01_wide_j1 m x0 (0 : Int)
noncomputable def ref01_wide : Nat → ByteArray → Option (Bool)
  | 0, _ => none
  | m + 1, a0 =>
    (bif (decide ((((ByteArray.size a0) : Nat) : Int) < (1 : Int))) then
    some Bool.false
  else
    (bif (decide ((128 : Int) < (((ByteArray.size a0) : Nat) : Int))) then
      some Bool.false
    else
      ref01_wide_j0 m a0))
noncomputable def ref01_formed_j8 (m : Nat) (self20 : Dt → Bool → Option (Bool)) (self29 : Dt → Bool → Option (Bool)) (rec6 : Bool → Int → Dt → Option (Bool)) (x0 : Bool) (x1 : Int) (x2 : Dt) : Option (Bool) :=
  rec6 x0 (IntKind.wrap IntKind.i64 (x1 + (1 : Int))) x2
noncomputable def ref01_formed_j7 (m : Nat) (self20 : Dt → Bool → Option (Bool)) (self29 : Dt → Bool → Option (Bool)) (rec6 : Bool → Int → Dt → Option (Bool)) (x0 : Bool) (x1 : Int) (x2 : Dt) : Option (Bool) :=
  ((idx (Dt.L x2 3) x1).bind fun v1 =>
    ((self20 v1 x0).bind fun r2 =>
      (bif (Bool.not r2) then
        some Bool.false
      else
        ref01_formed_j8 m self20 self29 rec6 x0 x1 x2)))
noncomputable def ref01_formed_j9 (m : Nat) (self20 : Dt → Bool → Option (Bool)) (self29 : Dt → Bool → Option (Bool)) (x0 : Bool) (x1 : Dt) : Option (Bool) :=
  ((self29 x1 x0).bind fun r3 =>
    some r3)
noncomputable def ref01_formed_l6 (m : Nat) (self20 : Dt → Bool → Option (Bool)) (self29 : Dt → Bool → Option (Bool)) : Nat → Bool → Int → Dt → Option (Bool)
  | 0, _, _, _ => none
  | M6 + 1, x0, x1, x2 =>
    (bif (decide (x1 < (((List.length (Dt.L x2 3)) : Nat) : Int))) then
    ref01_formed_j7 m self20 self29 (ref01_formed_l6 m self20 self29 M6) x0 x1 x2
  else
    ref01_formed_j9 m self20 self29 x0 x2)
noncomputable def ref01_formed_j5 (m : Nat) (self20 : Dt → Bool → Option (Bool)) (self29 : Dt → Bool → Option (Bool)) (x0 : Bool) (x1 : Int) (x2 : Dt) : Option (Bool) :=
  ref01_formed_l6 m self20 self29 (Nat.succ m) x0 x1 x2
noncomputable def ref01_formed_j4 (m : Nat) (self20 : Dt → Bool → Option (Bool)) (self29 : Dt → Bool → Option (Bool)) (x0 : Bool) (x1 : Dt) : Option (Bool) :=
  ref01_formed_j5 m self20 self29 x0 (0 : Int) x1
noncomputable def ref01_formed_j3 (m : Nat) (self20 : Dt → Bool → Option (Bool)) (self29 : Dt → Bool → Option (Bool)) (x0 : Bool) (x1 : Dt) : Option (Bool) :=
  (bif ((Dt.I x1 0) == (9 : Int)) then
    (bif ((Dt.I x1 1) == (0 : Int)) then
      some Bool.true
    else
      some ((Dt.I x1 1) == (1 : Int)))
  else
    (bif ((Dt.I x1 0) == (10 : Int)) then
      some (decide ((0 : Int) ≤ (Dt.I x1 1)))
    else
      (bif ((Dt.I x1 0) == (4 : Int)) then
        (bif (decide ((((ByteArray.size (Dt.S x1 2)) : Nat) : Int) ≤ (4096 : Int))) then
          ((ref01_UTF8 m (Dt.S x1 2)).bind fun r0 =>
            some r0)
        else
          some Bool.false)
      else
        (bif ((Dt.I x1 0) == (7 : Int)) then
          some (decide ((((ByteArray.size (Dt.S x1 2)) : Nat) : Int) ≤ (4096 : Int)))
        else
          (bif ((Dt.I x1 0) == (8 : Int)) then
            some ((((ByteArray.size (Dt.S x1 2)) : Nat) : Int) == (12 : Int))
          else
            ref01_formed_j4 m self20 self29 x0 x1)))))
noncomputable def ref01_formed_j2 (m : Nat) (self20 : Dt → Bool → Option (Bool)) (self29 : Dt → Bool → Option (Bool)) (x0 : Bool) (x1 : Bool) (x2 : Bool) (x3 : Dt) : Option (Bool) :=
  (bif (Bool.not x1) then
    (bif (Bool.not ((ByteArray.toList (Dt.S x3 2)) == [])) then
      some Bool.false
    else
      (bif (Bool.not x2) then
        (bif ((Dt.I x3 1) != (0 : Int)) then
          some Bool.false
        else
          (bif (decide ((Dt.I x3 0) < (1 : Int))) then
            some Bool.false
          else
            (bif (decide ((11 : Int) < (Dt.I x3 0))) then
              some Bool.false
            else
              ref01_formed_j3 m self20 self29 x0 x3)))
      else
        (bif (decide ((Dt.I x3 0) < (1 : Int))) then
          some Bool.false
        else
          (bif (decide ((11 : Int) < (Dt.I x3 0))) then
            some Bool.false
          else
            ref01_formed_j3 m self20 self29 x0 x3))))
  else
    (bif (Bool.not x2) then
      (bif ((Dt.I x3 1) != (0 : Int)) then
        some Bool.false
      else
        (bif (decide ((Dt.I x3 0) < (1 : Int))) then
          some Bool.false
        else
          (bif (decide ((11 : Int) < (Dt.I x3 0))) then
            some Bool.false
          else
            ref01_formed_j3 m self20 self29 x0 x3)))
    else
      (bif (decide ((Dt.I x3 0) < (1 : Int))) then
        some Bool.false
      else
        (bif (decide ((11 : Int) < (Dt.I x3 0))) then
          some Bool.false
        else
          ref01_formed_j3 m self20 self29 x0 x3))))
noncomputable def ref01_formed_j1 (m : Nat) (self20 : Dt → Bool → Option (Bool)) (self29 : Dt → Bool → Option (Bool)) (x0 : Bool) (x1 : Bool) (x2 : Dt) : Option (Bool) :=
  (bif ((Dt.I x2 0) == (3 : Int)) then
    ref01_formed_j2 m self20 self29 x0 x1 Bool.true x2
  else
    (bif ((Dt.I x2 0) == (9 : Int)) then
      ref01_formed_j2 m self20 self29 x0 x1 Bool.true x2
    else
      ref01_formed_j2 m self20 self29 x0 x1 ((Dt.I x2 0) == (10 : Int)) x2))
noncomputable def ref01_formed_j0 (m : Nat) (self20 : Dt → Bool → Option (Bool)) (self29 : Dt → Bool → Option (Bool)) (x0 : Bool) (x1 : Dt) : Option (Bool) :=
  (bif ((Dt.I x1 0) == (4 : Int)) then
    ref01_formed_j1 m self20 self29 x0 Bool.true x1
  else
    (bif ((Dt.I x1 0) == (7 : Int)) then
      ref01_formed_j1 m self20 self29 x0 Bool.true x1
    else
      ref01_formed_j1 m self20 self29 x0 ((Dt.I x1 0) == (8 : Int)) x1))
noncomputable def ref01_fields_j7 (m : Nat) (self20 : Dt → Bool → Option (Bool)) (rec1 : Bool → Int → Dt → Option (Bool)) (rec5 : Bool → Int → Int → Dt → Dt → Option (Bool)) (x0 : Bool) (x1 : Int) (x2 : Int) (x3 : Dt) (x4 : Dt) : Option (Bool) :=
  rec5 x0 x1 (IntKind.wrap IntKind.i64 (x2 + (1 : Int))) x3 x4
noncomputable def ref01_fields_j6 (m : Nat) (self20 : Dt → Bool → Option (Bool)) (rec1 : Bool → Int → Dt → Option (Bool)) (rec5 : Bool → Int → Int → Dt → Dt → Option (Bool)) (x0 : Bool) (x1 : Int) (x2 : Int) (x3 : Dt) (x4 : Dt) : Option (Bool) :=
  ((idx (Dt.L x3 4) x2).bind fun v4 =>
    (bif ((ByteArray.toList (Dt.S v4 0)) == (ByteArray.toList (Dt.S x4 0))) then
      some Bool.false
    else
      ref01_fields_j7 m self20 rec1 rec5 x0 x1 x2 x3 x4))
noncomputable def ref01_fields_j8 (m : Nat) (self20 : Dt → Bool → Option (Bool)) (rec1 : Bool → Int → Dt → Option (Bool)) (x0 : Bool) (x1 : Int) (x2 : Dt) : Option (Bool) :=
  rec1 x0 (IntKind.wrap IntKind.i64 (x1 + (1 : Int))) x2
noncomputable def ref01_fields_l5 (m : Nat) (self20 : Dt → Bool → Option (Bool)) (rec1 : Bool → Int → Dt → Option (Bool)) : Nat → Bool → Int → Int → Dt → Dt → Option (Bool)
  | 0, _, _, _, _, _ => none
  | M5 + 1, x0, x1, x2, x3, x4 =>
    (bif (decide (x2 < x1)) then
    ref01_fields_j6 m self20 rec1 (ref01_fields_l5 m self20 rec1 M5) x0 x1 x2 x3 x4
  else
    ref01_fields_j8 m self20 rec1 x0 x1 x3)
noncomputable def ref01_fields_j4 (m : Nat) (self20 : Dt → Bool → Option (Bool)) (rec1 : Bool → Int → Dt → Option (Bool)) (x0 : Bool) (x1 : Int) (x2 : Int) (x3 : Dt) (x4 : Dt) : Option (Bool) :=
  ref01_fields_l5 m self20 rec1 (Nat.succ m) x0 x1 x2 x3 x4
noncomputable def ref01_fields_j3 (m : Nat) (self20 : Dt → Bool → Option (Bool)) (rec1 : Bool → Int → Dt → Option (Bool)) (x0 : Bool) (x1 : Int) (x2 : Dt) (x3 : Dt) : Option (Bool) :=
  ref01_fields_j4 m self20 rec1 x0 x1 (0 : Int) x2 x3
noncomputable def ref01_fields_j2 (m : Nat) (self20 : Dt → Bool → Option (Bool)) (rec1 : Bool → Int → Dt → Option (Bool)) (x0 : Bool) (x1 : Int) (x2 : Dt) : Option (Bool) :=
  ((idx (Dt.L x2 4) x1).bind fun v0 =>
    (bif x0 then
      ((ref01_Name m (Dt.S v0 0)).bind fun r1 =>
        (bif (Bool.not r1) then
          some Bool.false
        else
          (bif (Bool.not x0) then
            ((ref01_wide m (Dt.S v0 0)).bind fun r2 =>
              (bif (Bool.not r2) then
                some Bool.false
              else
                ((self20 (Dt.fld v0 1) x0).bind fun r3 =>
                  (bif (Bool.not r3) then
                    some Bool.false
                  else
                    ref01_fields_j3 m self20 rec1 x0 x1 x2 v0))))
          else
            ((self20 (Dt.fld v0 1) x0).bind fun r5 =>
              (bif (Bool.not r5) then
                some Bool.false
              else
                ref01_fields_j3 m self20 rec1 x0 x1 x2 v0)))))
    else
      (bif (Bool.not x0) then
        ((ref01_wide m (Dt.S v0 0)).bind fun r6 =>
          (bif (Bool.not r6) then
            some Bool.false
          else
            ((self20 (Dt.fld v0 1) x0).bind fun r7 =>
              (bif (Bool.not r7) then
                some Bool.false
              else
                ref01_fields_j3 m self20 rec1 x0 x1 x2 v0))))
      else
        ((self20 (Dt.fld v0 1) x0).bind fun r8 =>
          (bif (Bool.not r8) then
            some Bool.false
          else
            ref01_fields_j3 m self20 rec1 x0 x1 x2 v0)))))
noncomputable def ref01_fields_j9 (m : Nat) (self20 : Dt → Bool → Option (Bool)) : Option (Bool) :=
  some Bool.true
noncomputable def ref01_fields_l1 (m : Nat) (self20 : Dt → Bool → Option (Bool)) : Nat → Bool → Int → Dt → Option (Bool)
  | 0, _, _, _ => none
  | M1 + 1, x0, x1, x2 =>
    (bif (decide (x1 < (((List.length (Dt.L x2 4)) : Nat) : Int))) then
    ref01_fields_j2 m self20 (ref01_fields_l1 m self20 M1) x0 x1 x2
  else
    ref01_fields_j9 m self20)
noncomputable def ref01_fields_j0 (m : Nat) (self20 : Dt → Bool → Option (Bool)) (x0 : Bool) (x1 : Int) (x2 : Dt) : Option (Bool) :=
  ref01_fields_l1 m self20 (Nat.succ m) x0 x1 x2
mutual
noncomputable def ref01_formed : Nat → Dt → Bool → Option (Bool)
  | 0, _, _ => none
  | m + 1, a0, a1 =>
    (bif ((Dt.I a0 0) != (6 : Int)) then
    (bif (decide ((0 : Int) < (((List.length (Dt.L a0 3)) : Nat) : Int))) then
      some Bool.false
    else
      (bif ((Dt.I a0 0) != (5 : Int)) then
        (bif (decide ((0 : Int) < (((List.length (Dt.L a0 4)) : Nat) : Int))) then
          some Bool.false
        else
          ref01_formed_j0 m (ref01_formed m) (ref01_fields m) a1 a0)
      else
        ref01_formed_j0 m (ref01_formed m) (ref01_fields m) a1 a0))
  else
    (bif ((Dt.I a0 0) != (5 : Int)) then
      (bif (decide ((0 : Int) < (((List.length (Dt.L a0 4)) : Nat) : Int))) then
        some Bool.false
      else
        ref01_formed_j0 m (ref01_formed m) (ref01_fields m) a1 a0)
    else
      ref01_formed_j0 m (ref01_formed m) (ref01_fields m) a1 a0))
noncomputable def ref01_fields : Nat → Dt → Bool → Option (Bool)
  | 0, _, _ => none
  | m + 1, a0, a1 =>
    ref01_fields_j0 m (ref01_formed m) a1 (0 : Int) a0
end
noncomputable def ref01_Valid : Nat → Dt → Option (Bool)
  | 0, _ => none
  | m + 1, a0 =>
    ((ref01_Depth m a0).bind fun r0 =>
    (bif (decide (r0 ≤ (16 : Int))) then
      ((ref01_Nodes m a0).bind fun r1 =>
        (bif (decide (r1 ≤ (1024 : Int))) then
          ((ref01_formed m a0 Bool.true).bind fun r2 =>
            some r2)
        else
          some Bool.false))
    else
      some Bool.false))
noncomputable def law12_Small_j4 (m : Nat) (rec2 : List Dt → List Dt → Int → Int → Option (Bool)) (x0 : List Dt) (x1 : List Dt) (x2 : Int) (x3 : Int) : Option (Bool) :=
  rec2 x0 x1 x2 (IntKind.wrap IntKind.i64 (x3 + (1 : Int)))
noncomputable def law12_Small_j3 (m : Nat) (rec2 : List Dt → List Dt → Int → Int → Option (Bool)) (x0 : List Dt) (x1 : List Dt) (x2 : Int) (x3 : Int) : Option (Bool) :=
  ((idx x0 x3).bind fun v0 =>
    (bif (decide ((16 : Int) < (((List.length (Dt.L v0 0)) : Nat) : Int))) then
      some Bool.false
    else
      law12_Small_j4 m rec2 x0 x1 x2 x3))
noncomputable def law12_Small_j9 (m : Nat) (rec7 : List Dt → Int → Int → Option (Bool)) (x0 : List Dt) (x1 : Int) (x2 : Int) : Option (Bool) :=
  rec7 x0 x1 (IntKind.wrap IntKind.i64 (x2 + (1 : Int)))
noncomputable def law12_Small_j8 (m : Nat) (rec7 : List Dt → Int → Int → Option (Bool)) (x0 : List Dt) (x1 : Int) (x2 : Int) : Option (Bool) :=
  ((idx x0 x2).bind fun v1 =>
    ((ref01_Valid m v1).bind fun r2 =>
      (bif (Bool.not r2) then
        some Bool.false
      else
        law12_Small_j9 m rec7 x0 x1 x2)))
noncomputable def law12_Small_j10 (m : Nat) : Option (Bool) :=
  some Bool.true
noncomputable def law12_Small_l7 (m : Nat) : Nat → List Dt → Int → Int → Option (Bool)
  | 0, _, _, _ => none
  | M7 + 1, x0, x1, x2 =>
    (bif (decide (x2 < x1)) then
    law12_Small_j8 m (law12_Small_l7 m M7) x0 x1 x2
  else
    law12_Small_j10 m)
noncomputable def law12_Small_j6 (m : Nat) (x0 : List Dt) (x1 : Int) (x2 : Int) : Option (Bool) :=
  law12_Small_l7 m (Nat.succ m) x0 x1 x2
noncomputable def law12_Small_j5 (m : Nat) (x0 : List Dt) : Option (Bool) :=
  law12_Small_j6 m x0 (((List.length x0) : Nat) : Int) (0 : Int)
noncomputable def law12_Small_l2 (m : Nat) : Nat → List Dt → List Dt → Int → Int → Option (Bool)
  | 0, _, _, _, _ => none
  | M2 + 1, x0, x1, x2, x3 =>
    (bif (decide (x3 < x2)) then
    law12_Small_j3 m (law12_Small_l2 m M2) x0 x1 x2 x3
  else
    law12_Small_j5 m x1)
noncomputable def law12_Small_j1 (m : Nat) (x0 : List Dt) (x1 : List Dt) (x2 : Int) (x3 : Int) : Option (Bool) :=
  law12_Small_l2 m (Nat.succ m) x0 x1 x2 x3
noncomputable def law12_Small_j0 (m : Nat) (x0 : List Dt) (x1 : List Dt) : Option (Bool) :=
  law12_Small_j1 m x0 x1 (((List.length x0) : Nat) : Int) (0 : Int)
noncomputable def law12_Small : Nat → List Dt → List Dt → Option (Bool)
  | 0, _, _ => none
  | m + 1, a0, a1 =>
    (bif (decide ((8 : Int) < (((List.length a0) : Nat) : Int))) then
    some Bool.false
  else
    (bif (decide ((40 : Int) < (((List.length a1) : Nat) : Int))) then
      some Bool.false
    else
      law12_Small_j0 m a0 a1))
noncomputable def cmp_isNaN : Nat → Int → Option (Bool)
  | 0, _ => none
  | m + 1, a0 =>
    some (a0 != a0)
noncomputable def cmp_Compare_j0 (m : Nat) : Option (Int) :=
  some (-1 : Int)
noncomputable def cmp_Compare_j4 (m : Nat) : Option (Int) :=
  some (0 : Int)
noncomputable def cmp_Compare_j3 (m : Nat) (x0 : Int) (x1 : Int) : Option (Int) :=
  (bif (decide (x1 < x0)) then
    some (1 : Int)
  else
    cmp_Compare_j4 m)
noncomputable def cmp_Compare_j2 (m : Nat) (x0 : Int) (x1 : Int) : Option (Int) :=
  (bif (decide (x0 < x1)) then
    some (-1 : Int)
  else
    cmp_Compare_j3 m x0 x1)
noncomputable def cmp_Compare_j1 (m : Nat) (x0 : Int) (x1 : Int) (x2 : Bool) : Option (Int) :=
  (bif x2 then
    some (1 : Int)
  else
    cmp_Compare_j2 m x0 x1)
noncomputable def cmp_Compare : Nat → Int → Int → Option (Int)
  | 0, _, _ => none
  | m + 1, a0, a1 =>
    ((cmp_isNaN m a0).bind fun r0 =>
    ((cmp_isNaN m a1).bind fun r1 =>
      (bif r0 then
        (bif r1 then
          some (0 : Int)
        else
          cmp_Compare_j0 m)
      else
        cmp_Compare_j1 m a0 a1 r1)))
noncomputable def value_Compare_j4 (m : Nat) (self22 : Dt → Dt → Option (Int)) (rec2 : Int → Int → Dt → Dt → Option (Int)) (x0 : Int) (x1 : Int) (x2 : Dt) (x3 : Dt) : Option (Int) :=
  rec2 x0 (IntKind.wrap IntKind.i64 (x1 + (1 : Int))) x2 x3
noncomputable def value_Compare_j3 (m : Nat) (self22 : Dt → Dt → Option (Int)) (rec2 : Int → Int → Dt → Dt → Option (Int)) (x0 : Int) (x1 : Int) (x2 : Dt) (x3 : Dt) : Option (Int) :=
  ((idx (Dt.L x2 3) x1).bind fun v3 =>
    ((idx (Dt.L x3 3) x1).bind fun v4 =>
      ((self22 v3 v4).bind fun r5 =>
        (bif (r5 != (0 : Int)) then
          some r5
        else
          value_Compare_j4 m self22 rec2 x0 x1 x2 x3))))
noncomputable def value_Compare_j5 (m : Nat) (self22 : Dt → Dt → Option (Int)) (x0 : Dt) (x1 : Dt) : Option (Int) :=
  ((cmp_Compare m (((List.length (Dt.L x0 3)) : Nat) : Int) (((List.length (Dt.L x1 3)) : Nat) : Int)).bind fun r6 =>
    some r6)
noncomputable def value_Compare_l2 (m : Nat) (self22 : Dt → Dt → Option (Int)) : Nat → Int → Int → Dt → Dt → Option (Int)
  | 0, _, _, _, _ => none
  | M2 + 1, x0, x1, x2, x3 =>
    (bif (decide (x1 < x0)) then
    value_Compare_j3 m self22 (value_Compare_l2 m self22 M2) x0 x1 x2 x3
  else
    value_Compare_j5 m self22 x2 x3)
noncomputable def value_Compare_j1 (m : Nat) (self22 : Dt → Dt → Option (Int)) (x0 : Int) (x1 : Int) (x2 : Dt) (x3 : Dt) : Option (Int) :=
  value_Compare_l2 m self22 (Nat.succ m) x0 x1 x2 x3
noncomputable def value_Compare_j10 (m : Nat) (self22 : Dt → Dt → Option (Int)) (rec7 : Int → Int → Dt → Dt → Option (Int)) (x0 : Int) (x1 : Int) (x2 : Dt) (x3 : Dt) : Option (Int) :=
  rec7 x0 (IntKind.wrap IntKind.i64 (x1 + (1 : Int))) x2 x3
noncomputable def value_Compare_j9 (m : Nat) (self22 : Dt → Dt → Option (Int)) (rec7 : Int → Int → Dt → Dt → Option (Int)) (x0 : Int) (x1 : Int) (x2 : Int) (x3 : Dt) (x4 : Dt) : Option (Int) :=
  ((idx (Dt.L x3 4) x0).bind fun v10 =>
    ((idx (Dt.L x4 4) x0).bind fun v11 =>
      ((self22 (Dt.fld v10 1) (Dt.fld v11 1)).bind fun r12 =>
        (bif (r12 != (0 : Int)) then
          some r12
        else
          value_Compare_j10 m self22 rec7 x1 x2 x3 x4))))
noncomputable def value_Compare_j8 (m : Nat) (self22 : Dt → Dt → Option (Int)) (rec7 : Int → Int → Dt → Dt → Option (Int)) (x0 : Int) (x1 : Int) (x2 : Dt) (x3 : Dt) : Option (Int) :=
  ((idx (Dt.L x2 4) x1).bind fun v7 =>
    ((idx (Dt.L x3 4) x1).bind fun v8 =>
      ((strings_Compare (Dt.S v7 0) (Dt.S v8 0)).bind fun r9 =>
        (bif (r9 != (0 : Int)) then
          some r9
        else
          value_Compare_j9 m self22 rec7 x1 x0 x1 x2 x3))))
noncomputable def value_Compare_j11 (m : Nat) (self22 : Dt → Dt → Option (Int)) (x0 : Dt) (x1 : Dt) : Option (Int) :=
  ((cmp_Compare m (((List.length (Dt.L x0 4)) : Nat) : Int) (((List.length (Dt.L x1 4)) : Nat) : Int)).bind fun r13 =>
    some r13)
noncomputable def value_Compare_l7 (m : Nat) (self22 : Dt → Dt → Option (Int)) : Nat → Int → Int → Dt → Dt → Option (Int)
  | 0, _, _, _, _ => none
  | M7 + 1, x0, x1, x2, x3 =>
    (bif (decide (x1 < x0)) then
    value_Compare_j8 m self22 (value_Compare_l7 m self22 M7) x0 x1 x2 x3
  else
    value_Compare_j11 m self22 x2 x3)
noncomputable def value_Compare_j6 (m : Nat) (self22 : Dt → Dt → Option (Int)) (x0 : Int) (x1 : Int) (x2 : Dt) (x3 : Dt) : Option (Int) :=
  value_Compare_l7 m self22 (Nat.succ m) x0 x1 x2 x3
noncomputable def value_Compare_j12 (m : Nat) (self22 : Dt → Dt → Option (Int)) : Option (Int) :=
  some (0 : Int)
noncomputable def value_Compare_j0 (m : Nat) (self22 : Dt → Dt → Option (Int)) (x0 : Dt) (x1 : Dt) : Option (Int) :=
  (bif ((Dt.I x0 0) == (3 : Int)) then
    (bif ((Dt.I x0 0) == (3 : Int)) then
      ((cmp_Compare m (Dt.I x0 1) (Dt.I x1 1)).bind fun r1 =>
        some r1)
    else
      (bif ((Dt.I x0 0) == (4 : Int)) then
        (bif ((Dt.I x0 0) == (4 : Int)) then
          ((strings_Compare (Dt.S x0 2) (Dt.S x1 2)).bind fun r2 =>
            some r2)
        else
          (bif ((Dt.I x0 0) == (6 : Int)) then
            value_Compare_j1 m self22 (bif (decide ((((List.length (Dt.L x1 3)) : Nat) : Int) < (((List.length (Dt.L x0 3)) : Nat) : Int))) then (((List.length (Dt.L x1 3)) : Nat) : Int) else (((List.length (Dt.L x0 3)) : Nat) : Int)) (0 : Int) x0 x1
          else
            (bif ((Dt.I x0 0) == (5 : Int)) then
              value_Compare_j6 m self22 (bif (decide ((((List.length (Dt.L x1 4)) : Nat) : Int) < (((List.length (Dt.L x0 4)) : Nat) : Int))) then (((List.length (Dt.L x1 4)) : Nat) : Int) else (((List.length (Dt.L x0 4)) : Nat) : Int)) (0 : Int) x0 x1
            else
              value_Compare_j12 m self22)))
      else
        (bif ((Dt.I x0 0) == (7 : Int)) then
          (bif ((Dt.I x0 0) == (7 : Int)) then
            ((strings_Compare (Dt.S x0 2) (Dt.S x1 2)).bind fun r14 =>
              some r14)
          else
            (bif ((Dt.I x0 0) == (6 : Int)) then
              value_Compare_j1 m self22 (bif (decide ((((List.length (Dt.L x1 3)) : Nat) : Int) < (((List.length (Dt.L x0 3)) : Nat) : Int))) then (((List.length (Dt.L x1 3)) : Nat) : Int) else (((List.length (Dt.L x0 3)) : Nat) : Int)) (0 : Int) x0 x1
            else
              (bif ((Dt.I x0 0) == (5 : Int)) then
                value_Compare_j6 m self22 (bif (decide ((((List.length (Dt.L x1 4)) : Nat) : Int) < (((List.length (Dt.L x0 4)) : Nat) : Int))) then (((List.length (Dt.L x1 4)) : Nat) : Int) else (((List.length (Dt.L x0 4)) : Nat) : Int)) (0 : Int) x0 x1
              else
                value_Compare_j12 m self22)))
        else
          (bif ((Dt.I x0 0) == (8 : Int)) then
            ((strings_Compare (Dt.S x0 2) (Dt.S x1 2)).bind fun r15 =>
              some r15)
          else
            (bif ((Dt.I x0 0) == (6 : Int)) then
              value_Compare_j1 m self22 (bif (decide ((((List.length (Dt.L x1 3)) : Nat) : Int) < (((List.length (Dt.L x0 3)) : Nat) : Int))) then (((List.length (Dt.L x1 3)) : Nat) : Int) else (((List.length (Dt.L x0 3)) : Nat) : Int)) (0 : Int) x0 x1
            else
              (bif ((Dt.I x0 0) == (5 : Int)) then
                value_Compare_j6 m self22 (bif (decide ((((List.length (Dt.L x1 4)) : Nat) : Int) < (((List.length (Dt.L x0 4)) : Nat) : Int))) then (((List.length (Dt.L x1 4)) : Nat) : Int) else (((List.length (Dt.L x0 4)) : Nat) : Int)) (0 : Int) x0 x1
              else
                value_Compare_j12 m self22))))))
  else
    (bif ((Dt.I x0 0) == (9 : Int)) then
      (bif ((Dt.I x0 0) == (9 : Int)) then
        ((cmp_Compare m (Dt.I x0 1) (Dt.I x1 1)).bind fun r16 =>
          some r16)
      else
        (bif ((Dt.I x0 0) == (4 : Int)) then
          (bif ((Dt.I x0 0) == (4 : Int)) then
            ((strings_Compare (Dt.S x0 2) (Dt.S x1 2)).bind fun r17 =>
              some r17)
          else
            (bif ((Dt.I x0 0) == (6 : Int)) then
              value_Compare_j1 m self22 (bif (decide ((((List.length (Dt.L x1 3)) : Nat) : Int) < (((List.length (Dt.L x0 3)) : Nat) : Int))) then (((List.length (Dt.L x1 3)) : Nat) : Int) else (((List.length (Dt.L x0 3)) : Nat) : Int)) (0 : Int) x0 x1
            else
              (bif ((Dt.I x0 0) == (5 : Int)) then
                value_Compare_j6 m self22 (bif (decide ((((List.length (Dt.L x1 4)) : Nat) : Int) < (((List.length (Dt.L x0 4)) : Nat) : Int))) then (((List.length (Dt.L x1 4)) : Nat) : Int) else (((List.length (Dt.L x0 4)) : Nat) : Int)) (0 : Int) x0 x1
              else
                value_Compare_j12 m self22)))
        else
          (bif ((Dt.I x0 0) == (7 : Int)) then
            (bif ((Dt.I x0 0) == (7 : Int)) then
              ((strings_Compare (Dt.S x0 2) (Dt.S x1 2)).bind fun r18 =>
                some r18)
            else
              (bif ((Dt.I x0 0) == (6 : Int)) then
                value_Compare_j1 m self22 (bif (decide ((((List.length (Dt.L x1 3)) : Nat) : Int) < (((List.length (Dt.L x0 3)) : Nat) : Int))) then (((List.length (Dt.L x1 3)) : Nat) : Int) else (((List.length (Dt.L x0 3)) : Nat) : Int)) (0 : Int) x0 x1
              else
                (bif ((Dt.I x0 0) == (5 : Int)) then
                  value_Compare_j6 m self22 (bif (decide ((((List.length (Dt.L x1 4)) : Nat) : Int) < (((List.length (Dt.L x0 4)) : Nat) : Int))) then (((List.length (Dt.L x1 4)) : Nat) : Int) else (((List.length (Dt.L x0 4)) : Nat) : Int)) (0 : Int) x0 x1
                else
                  value_Compare_j12 m self22)))
          else
            (bif ((Dt.I x0 0) == (8 : Int)) then
              ((strings_Compare (Dt.S x0 2) (Dt.S x1 2)).bind fun r19 =>
                some r19)
            else
              (bif ((Dt.I x0 0) == (6 : Int)) then
                value_Compare_j1 m self22 (bif (decide ((((List.length (Dt.L x1 3)) : Nat) : Int) < (((List.length (Dt.L x0 3)) : Nat) : Int))) then (((List.length (Dt.L x1 3)) : Nat) : Int) else (((List.length (Dt.L x0 3)) : Nat) : Int)) (0 : Int) x0 x1
              else
                (bif ((Dt.I x0 0) == (5 : Int)) then
                  value_Compare_j6 m self22 (bif (decide ((((List.length (Dt.L x1 4)) : Nat) : Int) < (((List.length (Dt.L x0 4)) : Nat) : Int))) then (((List.length (Dt.L x1 4)) : Nat) : Int) else (((List.length (Dt.L x0 4)) : Nat) : Int)) (0 : Int) x0 x1
                else
                  value_Compare_j12 m self22))))))
    else
      (bif ((Dt.I x0 0) == (10 : Int)) then
        ((cmp_Compare m (Dt.I x0 1) (Dt.I x1 1)).bind fun r20 =>
          some r20)
      else
        (bif ((Dt.I x0 0) == (4 : Int)) then
          (bif ((Dt.I x0 0) == (4 : Int)) then
            ((strings_Compare (Dt.S x0 2) (Dt.S x1 2)).bind fun r21 =>
              some r21)
          else
            (bif ((Dt.I x0 0) == (6 : Int)) then
              value_Compare_j1 m self22 (bif (decide ((((List.length (Dt.L x1 3)) : Nat) : Int) < (((List.length (Dt.L x0 3)) : Nat) : Int))) then (((List.length (Dt.L x1 3)) : Nat) : Int) else (((List.length (Dt.L x0 3)) : Nat) : Int)) (0 : Int) x0 x1
            else
              (bif ((Dt.I x0 0) == (5 : Int)) then
                value_Compare_j6 m self22 (bif (decide ((((List.length (Dt.L x1 4)) : Nat) : Int) < (((List.length (Dt.L x0 4)) : Nat) : Int))) then (((List.length (Dt.L x1 4)) : Nat) : Int) else (((List.length (Dt.L x0 4)) : Nat) : Int)) (0 : Int) x0 x1
              else
                value_Compare_j12 m self22)))
        else
          (bif ((Dt.I x0 0) == (7 : Int)) then
            (bif ((Dt.I x0 0) == (7 : Int)) then
              ((strings_Compare (Dt.S x0 2) (Dt.S x1 2)).bind fun r22 =>
                some r22)
            else
              (bif ((Dt.I x0 0) == (6 : Int)) then
                value_Compare_j1 m self22 (bif (decide ((((List.length (Dt.L x1 3)) : Nat) : Int) < (((List.length (Dt.L x0 3)) : Nat) : Int))) then (((List.length (Dt.L x1 3)) : Nat) : Int) else (((List.length (Dt.L x0 3)) : Nat) : Int)) (0 : Int) x0 x1
              else
                (bif ((Dt.I x0 0) == (5 : Int)) then
                  value_Compare_j6 m self22 (bif (decide ((((List.length (Dt.L x1 4)) : Nat) : Int) < (((List.length (Dt.L x0 4)) : Nat) : Int))) then (((List.length (Dt.L x1 4)) : Nat) : Int) else (((List.length (Dt.L x0 4)) : Nat) : Int)) (0 : Int) x0 x1
                else
                  value_Compare_j12 m self22)))
          else
            (bif ((Dt.I x0 0) == (8 : Int)) then
              ((strings_Compare (Dt.S x0 2) (Dt.S x1 2)).bind fun r23 =>
                some r23)
            else
              (bif ((Dt.I x0 0) == (6 : Int)) then
                value_Compare_j1 m self22 (bif (decide ((((List.length (Dt.L x1 3)) : Nat) : Int) < (((List.length (Dt.L x0 3)) : Nat) : Int))) then (((List.length (Dt.L x1 3)) : Nat) : Int) else (((List.length (Dt.L x0 3)) : Nat) : Int)) (0 : Int) x0 x1
              else
                (bif ((Dt.I x0 0) == (5 : Int)) then
                  value_Compare_j6 m self22 (bif (decide ((((List.length (Dt.L x1 4)) : Nat) : Int) < (((List.length (Dt.L x0 4)) : Nat) : Int))) then (((List.length (Dt.L x1 4)) : Nat) : Int) else (((List.length (Dt.L x0 4)) : Nat) : Int)) (0 : Int) x0 x1
                else
                  value_Compare_j12 m self22))))))))
noncomputable def value_Compare : Nat → Dt → Dt → Option (Int)
  | 0, _, _ => none
  | m + 1, a0, a1 =>
    (bif ((Dt.I a0 0) != (Dt.I a1 0)) then
    ((cmp_Compare m (Dt.I a0 0) (Dt.I a1 0)).bind fun r0 =>
      some r0)
  else
    value_Compare_j0 m (value_Compare m) a0 a1)
noncomputable def order_key_j3 (m : Nat) (rec1 : List Dt → Int → Int → Dt → Dt → List Dt → Option (Dt)) (x0 : List Dt) (x1 : Int) (x2 : Int) (x3 : Dt) (x4 : Dt) (x5 : List Dt) : Option (Dt) :=
  rec1 x0 x1 (IntKind.wrap IntKind.i64 (x2 + (1 : Int))) x3 x4 x5
noncomputable def order_key_j2 (m : Nat) (rec1 : List Dt → Int → Int → Dt → Dt → List Dt → Option (Dt)) (x0 : List Dt) (x1 : Int) (x2 : Int) (x3 : Dt) (x4 : Dt) (x5 : List Dt) : Option (Dt) :=
  ((idx x0 x2).bind fun v1 =>
    (bif ((Dt.I v1 0) == (0 : Int)) then
      ((app x5 [(Dt.agg [(Dt.int (2 : Int)), (Dt.int (0 : Int)), (Dt.str (ByteArray.mk (List.toArray []))), (Dt.lst []), (Dt.lst [])])]).bind fun v2 =>
        order_key_j3 m rec1 x0 x1 x2 x3 x4 v2)
    else
      (bif ((Dt.I v1 0) == (6 : Int)) then
        (bif (decide ((0 : Int) < (((List.length (Dt.L v1 3)) : Nat) : Int))) then
          ((app x5 (Dt.L v1 3)).bind fun v3 =>
            order_key_j3 m rec1 x0 x1 x2 x3 x4 v3)
        else
          ((app x5 [v1]).bind fun v4 =>
            order_key_j3 m rec1 x0 x1 x2 x3 x4 v4))
      else
        ((app x5 [v1]).bind fun v5 =>
          order_key_j3 m rec1 x0 x1 x2 x3 x4 v5))))
noncomputable def order_key_j8 (m : Nat) (rec6 : List Dt → Int → Int → Dt → Dt → Dt → Option (Dt)) (x0 : List Dt) (x1 : Int) (x2 : Int) (x3 : Dt) (x4 : Dt) (x5 : Dt) : Option (Dt) :=
  rec6 x0 x1 (IntKind.wrap IntKind.i64 (x2 + (1 : Int))) x3 x4 x5
noncomputable def order_key_j7 (m : Nat) (rec6 : List Dt → Int → Int → Dt → Dt → Dt → Option (Dt)) (x0 : List Dt) (x1 : Int) (x2 : Int) (x3 : Dt) (x4 : Dt) (x5 : Dt) : Option (Dt) :=
  ((idx x0 x2).bind fun v9 =>
    ((value_Compare m v9 x5).bind fun r10 =>
      (bif (decide (r10 < (0 : Int))) then
        (bif (Bool.not (Dt.B x3 1)) then
          order_key_j8 m rec6 x0 x1 x2 x3 x4 v9
        else
          (bif (decide ((0 : Int) < r10)) then
            (bif (Dt.B x3 1) then
              order_key_j8 m rec6 x0 x1 x2 x3 x4 v9
            else
              order_key_j8 m rec6 x0 x1 x2 x3 x4 x5)
          else
            order_key_j8 m rec6 x0 x1 x2 x3 x4 x5))
      else
        (bif (decide ((0 : Int) < r10)) then
          (bif (Dt.B x3 1) then
            order_key_j8 m rec6 x0 x1 x2 x3 x4 v9
          else
            order_key_j8 m rec6 x0 x1 x2 x3 x4 x5)
        else
          order_key_j8 m rec6 x0 x1 x2 x3 x4 x5))))
noncomputable def order_key_j9 (m : Nat) (x0 : Dt) (x1 : Dt) : Option (Dt) :=
  some x1
noncomputable def order_key_l6 (m : Nat) : Nat → List Dt → Int → Int → Dt → Dt → Dt → Option (Dt)
  | 0, _, _, _, _, _, _ => none
  | M6 + 1, x0, x1, x2, x3, x4, x5 =>
    (bif (decide (x2 < x1)) then
    order_key_j7 m (order_key_l6 m M6) x0 x1 x2 x3 x4 x5
  else
    order_key_j9 m x4 x5)
noncomputable def order_key_j5 (m : Nat) (x0 : List Dt) (x1 : Int) (x2 : Int) (x3 : Dt) (x4 : Dt) (x5 : Dt) : Option (Dt) :=
  order_key_l6 m (Nat.succ m) x0 x1 x2 x3 x4 x5
noncomputable def order_key_j4 (m : Nat) (x0 : Dt) (x1 : Dt) (x2 : List Dt) : Option (Dt) :=
  ((inL x2 (0 : Int)).bind fun v6 =>
    ((x2[0]?).bind fun v7 =>
      ((cutL x2 (1 : Int) (((List.length x2) : Nat) : Int)).bind fun v8 =>
        order_key_j5 m v8 (((List.length v8) : Nat) : Int) (0 : Int) x0 x1 v7)))
noncomputable def order_key_l1 (m : Nat) : Nat → List Dt → Int → Int → Dt → Dt → List Dt → Option (Dt)
  | 0, _, _, _, _, _, _ => none
  | M1 + 1, x0, x1, x2, x3, x4, x5 =>
    (bif (decide (x2 < x1)) then
    order_key_j2 m (order_key_l1 m M1) x0 x1 x2 x3 x4 x5
  else
    order_key_j4 m x3 x4 x5)
noncomputable def order_key_j0 (m : Nat) (x0 : List Dt) (x1 : Int) (x2 : Int) (x3 : Dt) (x4 : Dt) (x5 : List Dt) : Option (Dt) :=
  order_key_l1 m (Nat.succ m) x0 x1 x2 x3 x4 x5
noncomputable def order_key : Nat → Dt → Dt → Option (Dt)
  | 0, _, _ => none
  | m + 1, a0, a1 =>
    ((path_Reach m a1 (Dt.L a0 0)).bind fun r0 =>
    order_key_j0 m r0 (((List.length r0) : Nat) : Int) (0 : Int) a0 (Dt.agg [(Dt.int (0 : Int)), (Dt.int (0 : Int)), (Dt.str (ByteArray.mk (List.toArray []))), (Dt.lst []), (Dt.lst [])]) [])
noncomputable def order_Keys_j3 (m : Nat) (rec1 : List Dt → Int → Int → Dt → List Dt → Option (List Dt)) (x0 : List Dt) (x1 : Int) (x2 : Int) (x3 : Dt) (x4 : List Dt) : Option (List Dt) :=
  rec1 x0 x1 (IntKind.wrap IntKind.i64 (x2 + (1 : Int))) x3 x4
noncomputable def order_Keys_j2 (m : Nat) (rec1 : List Dt → Int → Int → Dt → List Dt → Option (List Dt)) (x0 : List Dt) (x1 : Int) (x2 : Int) (x3 : Dt) (x4 : List Dt) : Option (List Dt) :=
  ((idx x0 x2).bind fun v0 =>
    ((order_key m v0 x3).bind fun r1 =>
      ((app x4 [r1]).bind fun v2 =>
        order_Keys_j3 m rec1 x0 x1 x2 x3 v2)))
noncomputable def order_Keys_j4 (m : Nat) (x0 : List Dt) : Option (List Dt) :=
  some x0
noncomputable def order_Keys_l1 (m : Nat) : Nat → List Dt → Int → Int → Dt → List Dt → Option (List Dt)
  | 0, _, _, _, _, _ => none
  | M1 + 1, x0, x1, x2, x3, x4 =>
    (bif (decide (x2 < x1)) then
    order_Keys_j2 m (order_Keys_l1 m M1) x0 x1 x2 x3 x4
  else
    order_Keys_j4 m x4)
noncomputable def order_Keys_j0 (m : Nat) (x0 : List Dt) (x1 : Int) (x2 : Int) (x3 : Dt) (x4 : List Dt) : Option (List Dt) :=
  order_Keys_l1 m (Nat.succ m) x0 x1 x2 x3 x4
noncomputable def order_Keys : Nat → List Dt → Dt → Option (List Dt)
  | 0, _, _ => none
  | m + 1, a0, a1 =>
    order_Keys_j0 m a0 (((List.length a0) : Nat) : Int) (0 : Int) a1 []
noncomputable def order_compare_j4 (m : Nat) (rec1 : List Dt → List Dt → List Dt → Int → Int → Option (Int)) (x0 : List Dt) (x1 : List Dt) (x2 : List Dt) (x3 : Int) (x4 : Int) : Option (Int) :=
  rec1 x0 x1 x2 x3 (IntKind.wrap IntKind.i64 (x4 + (1 : Int)))
noncomputable def order_compare_j3 (m : Nat) (rec1 : List Dt → List Dt → List Dt → Int → Int → Option (Int)) (x0 : List Dt) (x1 : List Dt) (x2 : Int) (x3 : List Dt) (x4 : Int) (x5 : Int) : Option (Int) :=
  (bif (x2 != (0 : Int)) then
    some x2
  else
    order_compare_j4 m rec1 x0 x1 x3 x4 x5)
noncomputable def order_compare_j2 (m : Nat) (rec1 : List Dt → List Dt → List Dt → Int → Int → Option (Int)) (x0 : List Dt) (x1 : List Dt) (x2 : List Dt) (x3 : Int) (x4 : Int) : Option (Int) :=
  ((idx x2 x4).bind fun v0 =>
    ((idx x0 x4).bind fun v1 =>
      ((idx x1 x4).bind fun v2 =>
        ((value_Compare m v1 v2).bind fun r3 =>
          (bif (Dt.B v0 1) then
            order_compare_j3 m rec1 x0 x1 (IntKind.wrap IntKind.i64 ((0 : Int) - r3)) x2 x3 x4
          else
            order_compare_j3 m rec1 x0 x1 r3 x2 x3 x4)))))
noncomputable def order_compare_j5 (m : Nat) : Option (Int) :=
  some (0 : Int)
noncomputable def order_compare_l1 (m : Nat) : Nat → List Dt → List Dt → List Dt → Int → Int → Option (Int)
  | 0, _, _, _, _, _ => none
  | M1 + 1, x0, x1, x2, x3, x4 =>
    (bif (decide (x4 < x3)) then
    order_compare_j2 m (order_compare_l1 m M1) x0 x1 x2 x3 x4
  else
    order_compare_j5 m)
noncomputable def order_compare_j0 (m : Nat) (x0 : List Dt) (x1 : List Dt) (x2 : List Dt) (x3 : Int) (x4 : Int) : Option (Int) :=
  order_compare_l1 m (Nat.succ m) x0 x1 x2 x3 x4
noncomputable def order_compare : Nat → List Dt → List Dt → List Dt → Option (Int)
  | 0, _, _, _ => none
  | m + 1, a0, a1, a2 =>
    order_compare_j0 m a1 a2 a0 (((List.length a0) : Nat) : Int) (0 : Int)
noncomputable def order_Compare : Nat → List Dt → Dt → Dt → Option (Int)
  | 0, _, _, _ => none
  | m + 1, a0, a1, a2 =>
    ((order_Keys m a0 a1).bind fun r0 =>
    ((order_Keys m a0 a2).bind fun r1 =>
      ((order_compare m a0 r0 r1).bind fun r2 =>
        some r2)))
noncomputable def law12_OrderTotal_j1 (m : Nat) (x0 : Int) (x1 : Int) (x2 : Int) : Option (Bool) :=
  (bif (decide ((0 : Int) < x0)) then
    (bif (decide ((0 : Int) ≤ x0)) then
      ((awakeC).bind fun r7 =>
        some r7)
    else
      (bif (decide ((0 : Int) < x1)) then
        ((awakeC).bind fun r8 =>
          some r8)
      else
        (bif (decide (x2 < (0 : Int))) then
          ((awakeC).bind fun r9 =>
            some r9)
        else
          some Bool.false)))
  else
    (bif (decide ((0 : Int) < x1)) then
      (bif (decide ((0 : Int) ≤ x0)) then
        ((awakeC).bind fun r10 =>
          some r10)
      else
        (bif (decide ((0 : Int) < x1)) then
          ((awakeC).bind fun r11 =>
            some r11)
        else
          (bif (decide (x2 < (0 : Int))) then
            ((awakeC).bind fun r12 =>
              some r12)
          else
            some Bool.false)))
    else
      (bif (decide (x2 ≤ (0 : Int))) then
        (bif (decide ((0 : Int) ≤ x0)) then
          ((awakeC).bind fun r13 =>
            some r13)
        else
          (bif (decide ((0 : Int) < x1)) then
            ((awakeC).bind fun r14 =>
              some r14)
          else
            (bif (decide (x2 < (0 : Int))) then
              ((awakeC).bind fun r15 =>
                some r15)
            else
              some Bool.false)))
      else
        some Bool.false)))
noncomputable def law12_OrderTotal_j0 (m : Nat) (x0 : List Dt) (x1 : Dt) (x2 : Dt) (x3 : Dt) : Option (Bool) :=
  ((order_Compare m x0 x1 x2).bind fun r2 =>
    ((order_Compare m x0 x2 x3).bind fun r3 =>
      ((order_Compare m x0 x1 x3).bind fun r4 =>
        (bif (decide (r2 < (-1 : Int))) then
          some Bool.false
        else
          (bif (decide ((1 : Int) < r2)) then
            some Bool.false
          else
            ((order_Compare m x0 x2 x1).bind fun r5 =>
              (bif (r2 != (IntKind.wrap IntKind.i64 ((0 : Int) - r5))) then
                some Bool.false
              else
                ((order_Compare m x0 x1 x1).bind fun r6 =>
                  (bif (r6 != (0 : Int)) then
                    some Bool.false
                  else
                    law12_OrderTotal_j1 m r2 r3 r4)))))))))
noncomputable def law12_OrderTotal : Nat → List Dt → Dt → Dt → Dt → Option (Bool)
  | 0, _, _, _, _ => none
  | m + 1, a0, a1, a2, a3 =>
    ((law12_Small m a0 [a1, a2, a3]).bind fun r0 =>
    (bif (Bool.not r0) then
      ((awakeC).bind fun r1 =>
        some r1)
    else
      law12_OrderTotal_j0 m a0 a1 a2 a3))
noncomputable def law12_OrderReverse_j4 (m : Nat) (rec2 : List Dt → Int → Int → Dt → Dt → List Dt → Option (Bool)) (x0 : List Dt) (x1 : Int) (x2 : Int) (x3 : Dt) (x4 : Dt) (x5 : List Dt) : Option (Bool) :=
  rec2 x0 x1 (IntKind.wrap IntKind.i64 (x2 + (1 : Int))) x3 x4 x5
noncomputable def law12_OrderReverse_j3 (m : Nat) (rec2 : List Dt → Int → Int → Dt → Dt → List Dt → Option (Bool)) (x0 : List Dt) (x1 : Int) (x2 : Int) (x3 : Dt) (x4 : Dt) (x5 : List Dt) : Option (Bool) :=
  ((inL x5 x2).bind fun v7 =>
    ((x5[(Int.toNat x2)]?).bind fun v8 =>
      ((inL x5 x2).bind fun v9 =>
        ((x5[(Int.toNat x2)]?).bind fun v10 =>
          law12_OrderReverse_j4 m rec2 x0 x1 x2 x3 x4 (List.set x5 (Int.toNat x2) (Dt.agg [(Dt.lst (Dt.L v10 0)), (Dt.bool (Bool.not (Dt.B v8 1)))]))))))
noncomputable def law12_OrderReverse_j5 (m : Nat) (x0 : List Dt) (x1 : Dt) (x2 : Dt) (x3 : List Dt) : Option (Bool) :=
  ((order_Compare m x0 x1 x2).bind fun r11 =>
    ((order_Compare m x3 x1 x2).bind fun r12 =>
      (bif (r11 == (IntKind.wrap IntKind.i64 ((0 : Int) - r12))) then
        ((order_Keys m x0 x1).bind fun r13 =>
          ((order_Keys m x3 x1).bind fun r14 =>
            ((law03_SameList m r13 r14).bind fun r15 =>
              (bif r15 then
                ((awakeC).bind fun r16 =>
                  some r16)
              else
                some Bool.false))))
      else
        some Bool.false)))
noncomputable def law12_OrderReverse_l2 (m : Nat) : Nat → List Dt → Int → Int → Dt → Dt → List Dt → Option (Bool)
  | 0, _, _, _, _, _, _ => none
  | M2 + 1, x0, x1, x2, x3, x4, x5 =>
    (bif (decide (x2 < x1)) then
    law12_OrderReverse_j3 m (law12_OrderReverse_l2 m M2) x0 x1 x2 x3 x4 x5
  else
    law12_OrderReverse_j5 m x0 x3 x4 x5)
noncomputable def law12_OrderReverse_j1 (m : Nat) (x0 : List Dt) (x1 : Int) (x2 : Int) (x3 : Dt) (x4 : Dt) (x5 : List Dt) : Option (Bool) :=
  law12_OrderReverse_l2 m (Nat.succ m) x0 x1 x2 x3 x4 x5
noncomputable def law12_OrderReverse_j0 (m : Nat) (x0 : List Dt) (x1 : Dt) (x2 : Dt) : Option (Bool) :=
  ((slices_Clone x0).bind fun r6 =>
    law12_OrderReverse_j1 m x0 (((List.length r6) : Nat) : Int) (0 : Int) x1 x2 r6)
noncomputable def law12_OrderReverse : Nat → List Dt → Dt → Dt → Option (Bool)
  | 0, _, _, _ => none
  | m + 1, a0, a1, a2 =>
    ((law12_Small m a0 [a1, a2]).bind fun r0 =>
    (bif (Bool.not r0) then
      ((awakeC).bind fun r1 =>
        some r1)
    else
      ((law12_lists m a1).bind fun r2 =>
        (bif r2 then
          ((awakeC).bind fun r3 =>
            some r3)
        else
          ((law12_lists m a2).bind fun r4 =>
            (bif r4 then
              ((awakeC).bind fun r5 =>
                some r5)
            else
              law12_OrderReverse_j0 m a0 a1 a2))))))
noncomputable def ref04_Number_j5 (m : Nat) (rec2 : ByteArray → Int → Int → Option (Int × Bool)) (x0 : ByteArray) (x1 : Int) (x2 : Int) : Option (Int × Bool) :=
  rec2 x0 x1 (IntKind.wrap IntKind.i64 (x2 + (1 : Int)))
noncomputable def ref04_Number_j4 (m : Nat) (rec2 : ByteArray → Int → Int → Option (Int × Bool)) (x0 : ByteArray) (x1 : Int) (x2 : Int) : Option (Int × Bool) :=
  ((idxS x0 x2).bind fun v3 =>
    ref04_Number_j5 m rec2 x0 (IntKind.wrap IntKind.i64 ((IntKind.wrap IntKind.i64 (x1 * (10 : Int))) + (IntKind.wrap IntKind.i64 (IntKind.wrap IntKind.u8 (v3 - (48 : Int)))))) x2)
noncomputable def ref04_Number_j3 (m : Nat) (rec2 : ByteArray → Int → Int → Option (Int × Bool)) (x0 : ByteArray) (x1 : Int) (x2 : Int) : Option (Int × Bool) :=
  ((idxS x0 x2).bind fun v1 =>
    (bif (decide (v1 < (48 : Int))) then
      some ((0 : Int), Bool.false)
    else
      ((idxS x0 x2).bind fun v2 =>
        (bif (decide ((57 : Int) < v2)) then
          some ((0 : Int), Bool.false)
        else
          ref04_Number_j4 m rec2 x0 x1 x2))))
noncomputable def ref04_Number_j6 (m : Nat) (x0 : Int) : Option (Int × Bool) :=
  some (x0, Bool.true)
noncomputable def ref04_Number_l2 (m : Nat) : Nat → ByteArray → Int → Int → Option (Int × Bool)
  | 0, _, _, _ => none
  | M2 + 1, x0, x1, x2 =>
    (bif (decide (x2 < (((ByteArray.size x0) : Nat) : Int))) then
    ref04_Number_j3 m (ref04_Number_l2 m M2) x0 x1 x2
  else
    ref04_Number_j6 m x1)
noncomputable def ref04_Number_j1 (m : Nat) (x0 : ByteArray) (x1 : Int) (x2 : Int) : Option (Int × Bool) :=
  ref04_Number_l2 m (Nat.succ m) x0 x1 x2
noncomputable def ref04_Number_j0 (m : Nat) (x0 : ByteArray) : Option (Int × Bool) :=
  ref04_Number_j1 m x0 (0 : Int) (0 : Int)
noncomputable def ref04_Number : Nat → ByteArray → Option (Int × Bool)
  | 0, _ => none
  | m + 1, a0 =>
    (bif (decide ((((ByteArray.size a0) : Nat) : Int) < (1 : Int))) then
    some ((0 : Int), Bool.false)
  else
    (bif (decide ((4 : Int) < (((ByteArray.size a0) : Nat) : Int))) then
      some ((0 : Int), Bool.false)
    else
      ((idxS a0 (0 : Int)).bind fun v0 =>
        (bif (v0 == (48 : Int)) then
          (bif (decide ((1 : Int) < (((ByteArray.size a0) : Nat) : Int))) then
            some ((0 : Int), Bool.false)
          else
            ref04_Number_j0 m a0)
        else
          ref04_Number_j0 m a0))))
noncomputable def ref01_at_j4 (m : Nat) (rec2 : ByteArray → Int → Dt → Option (Int)) (x0 : ByteArray) (x1 : Int) (x2 : Dt) : Option (Int) :=
  rec2 x0 (IntKind.wrap IntKind.i64 (x1 + (1 : Int))) x2
noncomputable def ref01_at_j3 (m : Nat) (rec2 : ByteArray → Int → Dt → Option (Int)) (x0 : ByteArray) (x1 : Int) (x2 : Dt) : Option (Int) :=
  ((idx (Dt.L x2 4) x1).bind fun v0 =>
    (bif ((ByteArray.toList (Dt.S v0 0)) == (ByteArray.toList x0)) then
      some x1
    else
      ref01_at_j4 m rec2 x0 x1 x2))
noncomputable def ref01_at_j5 (m : Nat) : Option (Int) :=
  some (-1 : Int)
noncomputable def ref01_at_l2 (m : Nat) : Nat → ByteArray → Int → Dt → Option (Int)
  | 0, _, _, _ => none
  | M2 + 1, x0, x1, x2 =>
    (bif (decide (x1 < (((List.length (Dt.L x2 4)) : Nat) : Int))) then
    ref01_at_j3 m (ref01_at_l2 m M2) x0 x1 x2
  else
    ref01_at_j5 m)
noncomputable def ref01_at_j1 (m : Nat) (x0 : ByteArray) (x1 : Int) (x2 : Dt) : Option (Int) :=
  ref01_at_l2 m (Nat.succ m) x0 x1 x2
noncomputable def ref01_at_j0 (m : Nat) (x0 : ByteArray) (x1 : Dt) : Option (Int) :=
  ref01_at_j1 m x0 (0 : Int) x1
noncomputable def ref01_at : Nat → Dt → ByteArray → Option (Int)
  | 0, _, _ => none
  | m + 1, a0, a1 =>
    (bif ((Dt.I a0 0) != (5 : Int)) then
    some (-1 : Int)
  else
    ref01_at_j0 m a1 a0)
noncomputable def ref01_Get_j0 (m : Nat) (x0 : Int) (x1 : Dt) (x2 : Dt) : Option (Dt × Bool) :=
  ((idx (Dt.L x1 4) x0).bind fun v1 =>
    some ((Dt.fld v1 1), Bool.true))
noncomputable def ref01_Get : Nat → Dt → ByteArray → Option (Dt × Bool)
  | 0, _, _ => none
  | m + 1, a0, a1 =>
    ((ref01_at m a0 a1).bind fun r0 =>
    (bif (decide (r0 < (0 : Int))) then
      some ((Dt.agg [(Dt.int (0 : Int)), (Dt.int (0 : Int)), (Dt.str (ByteArray.mk (List.toArray []))), (Dt.lst []), (Dt.lst [])]), Bool.false)
    else
      ref01_Get_j0 m r0 a0 (Dt.agg [(Dt.int (0 : Int)), (Dt.int (0 : Int)), (Dt.str (ByteArray.mk (List.toArray []))), (Dt.lst []), (Dt.lst [])])))
noncomputable def ref04_Pass_j1 (m : Nat) (self42 : Dt → List Dt → Option (List Dt)) : Option (List Dt) :=
  some []
noncomputable def ref04_Pass_j7 (m : Nat) (self42 : Dt → List Dt → Option (List Dt)) (rec5 : List Dt → Int → Dt → List Dt → Option (List Dt)) (x0 : List Dt) (x1 : Int) (x2 : Dt) (x3 : List Dt) : Option (List Dt) :=
  rec5 x0 (IntKind.wrap IntKind.i64 (x1 + (1 : Int))) x2 x3
noncomputable def ref04_Pass_j6 (m : Nat) (self42 : Dt → List Dt → Option (List Dt)) (rec5 : List Dt → Int → Dt → List Dt → Option (List Dt)) (x0 : List Dt) (x1 : Int) (x2 : Dt) (x3 : List Dt) : Option (List Dt) :=
  ((idx (Dt.L x2 3) x1).bind fun v4 =>
    (bif ((Dt.I v4 0) == (5 : Int)) then
      ((idx (Dt.L x2 3) x1).bind fun v5 =>
        ((self42 v5 x0).bind fun r6 =>
          ((app x3 r6).bind fun v7 =>
            ref04_Pass_j7 m self42 rec5 x0 x1 x2 v7)))
    else
      ref04_Pass_j7 m self42 rec5 x0 x1 x2 x3))
noncomputable def ref04_Pass_j9 (m : Nat) (self42 : Dt → List Dt → Option (List Dt)) (x0 : List Dt) : Option (List Dt) :=
  some x0
noncomputable def ref04_Pass_j8 (m : Nat) (self42 : Dt → List Dt → Option (List Dt)) (x0 : List Dt) (x1 : Dt) (x2 : List Dt) : Option (List Dt) :=
  ((idx x0 (0 : Int)).bind fun v8 =>
    ((ref04_Number m (Dt.toStr v8)).bind fun r9 =>
      (bif (Prod.snd r9) then
        (bif (decide ((Prod.fst r9) < (((List.length (Dt.L x1 3)) : Nat) : Int))) then
          ((idx (Dt.L x1 3) (Prod.fst r9)).bind fun v10 =>
            ((cutL x0 (1 : Int) (((List.length x0) : Nat) : Int)).bind fun v11 =>
              ((self42 v10 v11).bind fun r12 =>
                ((app x2 r12).bind fun v13 =>
                  ref04_Pass_j9 m self42 v13))))
        else
          ref04_Pass_j9 m self42 x2)
      else
        ref04_Pass_j9 m self42 x2)))
noncomputable def ref04_Pass_l5 (m : Nat) (self42 : Dt → List Dt → Option (List Dt)) : Nat → List Dt → Int → Dt → List Dt → Option (List Dt)
  | 0, _, _, _, _ => none
  | M5 + 1, x0, x1, x2, x3 =>
    (bif (decide (x1 < (((List.length (Dt.L x2 3)) : Nat) : Int))) then
    ref04_Pass_j6 m self42 (ref04_Pass_l5 m self42 M5) x0 x1 x2 x3
  else
    ref04_Pass_j8 m self42 x0 x2 x3)
noncomputable def ref04_Pass_j4 (m : Nat) (self42 : Dt → List Dt → Option (List Dt)) (x0 : List Dt) (x1 : Int) (x2 : Dt) (x3 : List Dt) : Option (List Dt) :=
  ref04_Pass_l5 m self42 (Nat.succ m) x0 x1 x2 x3
noncomputable def ref04_Pass_j3 (m : Nat) (self42 : Dt → List Dt → Option (List Dt)) (x0 : List Dt) (x1 : Dt) : Option (List Dt) :=
  ref04_Pass_j4 m self42 x0 (0 : Int) x1 []
noncomputable def ref04_Pass_j2 (m : Nat) (self42 : Dt → List Dt → Option (List Dt)) (x0 : List Dt) (x1 : Dt) : Option (List Dt) :=
  (bif ((Dt.I x1 0) != (6 : Int)) then
    some []
  else
    ref04_Pass_j3 m self42 x0 x1)
noncomputable def ref04_Pass_j0 (m : Nat) (self42 : Dt → List Dt → Option (List Dt)) (x0 : List Dt) (x1 : Dt) : Option (List Dt) :=
  (bif ((Dt.I x1 0) == (5 : Int)) then
    ((idx x0 (0 : Int)).bind fun v0 =>
      ((ref01_Get m x1 (Dt.toStr v0)).bind fun r1 =>
        (bif (Prod.snd r1) then
          ((cutL x0 (1 : Int) (((List.length x0) : Nat) : Int)).bind fun v2 =>
            ((self42 (Prod.fst r1) v2).bind fun r3 =>
              some r3))
        else
          ref04_Pass_j1 m self42)))
  else
    ref04_Pass_j2 m self42 x0 x1)
noncomputable def ref04_Pass : Nat → Dt → List Dt → Option (List Dt)
  | 0, _, _ => none
  | m + 1, a0, a1 =>
    (bif ((((List.length a1) : Nat) : Int) == (0 : Int)) then
    some [a0]
  else
    ref04_Pass_j0 m (ref04_Pass m) a1 a0)
noncomputable def ref04_Reach_j0 (m : Nat) (x0 : List Dt) : Option (List Dt) :=
  some x0
noncomputable def ref04_Reach : Nat → Dt → List Dt → Option (List Dt)
  | 0, _, _ => none
  | m + 1, a0, a1 =>
    ((ref04_Pass m a0 a1).bind fun r0 =>
    (bif ((((List.length r0) : Nat) : Int) == (0 : Int)) then
      some [(Dt.agg [(Dt.int (0 : Int)), (Dt.int (0 : Int)), (Dt.str (ByteArray.mk (List.toArray []))), (Dt.lst []), (Dt.lst [])])]
    else
      ref04_Reach_j0 m r0))
noncomputable def ref12_Values_j3 (m : Nat) (rec1 : List Dt → Int → List Dt → Option (List Dt)) (x0 : List Dt) (x1 : Int) (x2 : List Dt) : Option (List Dt) :=
  rec1 x0 (IntKind.wrap IntKind.i64 (x1 + (1 : Int))) x2
noncomputable def ref12_Values_j2 (m : Nat) (rec1 : List Dt → Int → List Dt → Option (List Dt)) (x0 : List Dt) (x1 : Int) (x2 : List Dt) : Option (List Dt) :=
  ((idx x0 x1).bind fun v1 =>
    (bif ((Dt.I v1 0) == (0 : Int)) then
      ((app x2 [(Dt.agg [(Dt.int (2 : Int)), (Dt.int (0 : Int)), (Dt.str (ByteArray.mk (List.toArray []))), (Dt.lst []), (Dt.lst [])])]).bind fun v2 =>
        ref12_Values_j3 m rec1 x0 x1 v2)
    else
      ((idx x0 x1).bind fun v3 =>
        (bif ((Dt.I v3 0) == (6 : Int)) then
          ((idx x0 x1).bind fun v4 =>
            (bif (decide ((0 : Int) < (((List.length (Dt.L v4 3)) : Nat) : Int))) then
              ((idx x0 x1).bind fun v5 =>
                ((app x2 (Dt.L v5 3)).bind fun v6 =>
                  ref12_Values_j3 m rec1 x0 x1 v6))
            else
              ((idx x0 x1).bind fun v7 =>
                ((app x2 [v7]).bind fun v8 =>
                  ref12_Values_j3 m rec1 x0 x1 v8))))
        else
          ((idx x0 x1).bind fun v9 =>
            ((app x2 [v9]).bind fun v10 =>
              ref12_Values_j3 m rec1 x0 x1 v10))))))
noncomputable def ref12_Values_j4 (m : Nat) (x0 : List Dt) : Option (List Dt) :=
  some x0
noncomputable def ref12_Values_l1 (m : Nat) : Nat → List Dt → Int → List Dt → Option (List Dt)
  | 0, _, _, _ => none
  | M1 + 1, x0, x1, x2 =>
    (bif (decide (x1 < (((List.length x0) : Nat) : Int))) then
    ref12_Values_j2 m (ref12_Values_l1 m M1) x0 x1 x2
  else
    ref12_Values_j4 m x2)
noncomputable def ref12_Values_j0 (m : Nat) (x0 : List Dt) (x1 : Int) (x2 : List Dt) : Option (List Dt) :=
  ref12_Values_l1 m (Nat.succ m) x0 x1 x2
noncomputable def ref12_Values : Nat → Dt → List Dt → Option (List Dt)
  | 0, _, _ => none
  | m + 1, a0, a1 =>
    ((ref04_Reach m a0 a1).bind fun r0 =>
    ref12_Values_j0 m r0 (0 : Int) [])
noncomputable def ref12_key_j3 (m : Nat) (rec1 : List Dt → Int → Dt → Dt → Dt → Option (Dt)) (x0 : List Dt) (x1 : Int) (x2 : Dt) (x3 : Dt) (x4 : Dt) : Option (Dt) :=
  rec1 x0 (IntKind.wrap IntKind.i64 (x1 + (1 : Int))) x2 x3 x4
noncomputable def ref12_key_j2 (m : Nat) (rec1 : List Dt → Int → Dt → Dt → Dt → Option (Dt)) (x0 : List Dt) (x1 : Int) (x2 : Dt) (x3 : Dt) (x4 : Dt) : Option (Dt) :=
  ((idx x0 x1).bind fun v2 =>
    ((ref01_Compare m v2 x4).bind fun r3 =>
      (bif (decide (r3 < (0 : Int))) then
        (bif (Bool.not (Dt.B x2 1)) then
          ((idx x0 x1).bind fun v4 =>
            ref12_key_j3 m rec1 x0 x1 x2 x3 v4)
        else
          (bif (decide ((0 : Int) < r3)) then
            (bif (Dt.B x2 1) then
              ((idx x0 x1).bind fun v5 =>
                ref12_key_j3 m rec1 x0 x1 x2 x3 v5)
            else
              ref12_key_j3 m rec1 x0 x1 x2 x3 x4)
          else
            ref12_key_j3 m rec1 x0 x1 x2 x3 x4))
      else
        (bif (decide ((0 : Int) < r3)) then
          (bif (Dt.B x2 1) then
            ((idx x0 x1).bind fun v6 =>
              ref12_key_j3 m rec1 x0 x1 x2 x3 v6)
          else
            ref12_key_j3 m rec1 x0 x1 x2 x3 x4)
        else
          ref12_key_j3 m rec1 x0 x1 x2 x3 x4))))
noncomputable def ref12_key_j4 (m : Nat) (x0 : Dt) (x1 : Dt) : Option (Dt) :=
  some x1
noncomputable def ref12_key_l1 (m : Nat) : Nat → List Dt → Int → Dt → Dt → Dt → Option (Dt)
  | 0, _, _, _, _, _ => none
  | M1 + 1, x0, x1, x2, x3, x4 =>
    (bif (decide (x1 < (((List.length x0) : Nat) : Int))) then
    ref12_key_j2 m (ref12_key_l1 m M1) x0 x1 x2 x3 x4
  else
    ref12_key_j4 m x3 x4)
noncomputable def ref12_key_j0 (m : Nat) (x0 : List Dt) (x1 : Int) (x2 : Dt) (x3 : Dt) (x4 : Dt) : Option (Dt) :=
  ref12_key_l1 m (Nat.succ m) x0 x1 x2 x3 x4
noncomputable def ref12_key : Nat → Dt → Dt → Option (Dt)
  | 0, _, _ => none
  | m + 1, a0, a1 =>
    ((ref12_Values m a1 (Dt.L a0 0)).bind fun r0 =>
    ((idx r0 (0 : Int)).bind fun v1 =>
      ref12_key_j0 m r0 (1 : Int) a0 (Dt.agg [(Dt.int (0 : Int)), (Dt.int (0 : Int)), (Dt.str (ByteArray.mk (List.toArray []))), (Dt.lst []), (Dt.lst [])]) v1))
noncomputable def ref12_Keys_j3 (m : Nat) (rec1 : List Dt → Int → Dt → List Dt → Option (List Dt)) (x0 : List Dt) (x1 : Int) (x2 : Dt) (x3 : List Dt) : Option (List Dt) :=
  rec1 x0 (IntKind.wrap IntKind.i64 (x1 + (1 : Int))) x2 x3
noncomputable def ref12_Keys_j2 (m : Nat) (rec1 : List Dt → Int → Dt → List Dt → Option (List Dt)) (x0 : List Dt) (x1 : Int) (x2 : Dt) (x3 : List Dt) : Option (List Dt) :=
  ((idx x0 x1).bind fun v0 =>
    ((ref12_key m v0 x2).bind fun r1 =>
      ((app x3 [r1]).bind fun v2 =>
        ref12_Keys_j3 m rec1 x0 x1 x2 v2)))
noncomputable def ref12_Keys_j4 (m : Nat) (x0 : List Dt) : Option (List Dt) :=
  some x0
noncomputable def ref12_Keys_l1 (m : Nat) : Nat → List Dt → Int → Dt → List Dt → Option (List Dt)
  | 0, _, _, _, _ => none
  | M1 + 1, x0, x1, x2, x3 =>
    (bif (decide (x1 < (((List.length x0) : Nat) : Int))) then
    ref12_Keys_j2 m (ref12_Keys_l1 m M1) x0 x1 x2 x3
  else
    ref12_Keys_j4 m x3)
noncomputable def ref12_Keys_j0 (m : Nat) (x0 : List Dt) (x1 : Int) (x2 : Dt) (x3 : List Dt) : Option (List Dt) :=
  ref12_Keys_l1 m (Nat.succ m) x0 x1 x2 x3
noncomputable def ref12_Keys : Nat → List Dt → Dt → Option (List Dt)
  | 0, _, _ => none
  | m + 1, a0, a1 =>
    ref12_Keys_j0 m a0 (0 : Int) a1 []
noncomputable def ref12_Compare_j4 (m : Nat) (rec1 : List Dt → Int → Dt → Dt → Option (Int)) (x0 : List Dt) (x1 : Int) (x2 : Dt) (x3 : Dt) : Option (Int) :=
  rec1 x0 (IntKind.wrap IntKind.i64 (x1 + (1 : Int))) x2 x3
noncomputable def ref12_Compare_j3 (m : Nat) (rec1 : List Dt → Int → Dt → Dt → Option (Int)) (x0 : List Dt) (x1 : Int) (x2 : Int) (x3 : Dt) (x4 : Dt) : Option (Int) :=
  (bif (x2 != (0 : Int)) then
    some x2
  else
    ref12_Compare_j4 m rec1 x0 x1 x3 x4)
noncomputable def ref12_Compare_j2 (m : Nat) (rec1 : List Dt → Int → Dt → Dt → Option (Int)) (x0 : List Dt) (x1 : Int) (x2 : Dt) (x3 : Dt) : Option (Int) :=
  ((idx x0 x1).bind fun v0 =>
    ((ref12_key m v0 x2).bind fun r1 =>
      ((idx x0 x1).bind fun v2 =>
        ((ref12_key m v2 x3).bind fun r3 =>
          ((ref01_Compare m r1 r3).bind fun r4 =>
            (bif (r4 != (0 : Int)) then
              ((idx x0 x1).bind fun v5 =>
                (bif (Dt.B v5 1) then
                  some (IntKind.wrap IntKind.i64 ((0 : Int) - r4))
                else
                  ref12_Compare_j3 m rec1 x0 x1 r4 x2 x3))
            else
              ref12_Compare_j3 m rec1 x0 x1 r4 x2 x3))))))
noncomputable def ref12_Compare_j5 (m : Nat) : Option (Int) :=
  some (0 : Int)
noncomputable def ref12_Compare_l1 (m : Nat) : Nat → List Dt → Int → Dt → Dt → Option (Int)
  | 0, _, _, _, _ => none
  | M1 + 1, x0, x1, x2, x3 =>
    (bif (decide (x1 < (((List.length x0) : Nat) : Int))) then
    ref12_Compare_j2 m (ref12_Compare_l1 m M1) x0 x1 x2 x3
  else
    ref12_Compare_j5 m)
noncomputable def ref12_Compare_j0 (m : Nat) (x0 : List Dt) (x1 : Int) (x2 : Dt) (x3 : Dt) : Option (Int) :=
  ref12_Compare_l1 m (Nat.succ m) x0 x1 x2 x3
noncomputable def ref12_Compare : Nat → List Dt → Dt → Dt → Option (Int)
  | 0, _, _, _ => none
  | m + 1, a0, a1, a2 =>
    ref12_Compare_j0 m a0 (0 : Int) a1 a2
noncomputable def law12_OrderKeys_j0 (m : Nat) (x0 : List Dt) (x1 : Dt) (x2 : Dt) : Option (Bool) :=
  ((order_Keys m x0 x1).bind fun r2 =>
    ((ref12_Keys m x0 x1).bind fun r3 =>
      ((law03_SameList m r2 r3).bind fun r4 =>
        (bif r4 then
          ((order_Compare m x0 x1 x2).bind fun r5 =>
            ((ref12_Compare m x0 x1 x2).bind fun r6 =>
              (bif (r5 == r6) then
                ((awakeC).bind fun r7 =>
                  some r7)
              else
                some Bool.false)))
        else
          some Bool.false))))
noncomputable def law12_OrderKeys : Nat → List Dt → Dt → Dt → Option (Bool)
  | 0, _, _, _ => none
  | m + 1, a0, a1, a2 =>
    ((law12_Small m a0 [a1, a2]).bind fun r0 =>
    (bif (Bool.not r0) then
      ((awakeC).bind fun r1 =>
        some r1)
    else
      law12_OrderKeys_j0 m a0 a1 a2))
end Go.Proofs.YtacchdeihafmnaaDoor
