/- Generated: what the Go functions compute, over plain data. -/
import Derived.Test.YtacchdeihafmnaaDoorAm20
import Derived.Test.YtacchdeihafmnaaDoorOAwake
import Derived.Test.YtacchdeihafmnaaDoorOClone2
set_option linter.unusedVariables false
set_option linter.unusedSimpArgs false
namespace Go.Proofs.YtacchdeihafmnaaDoor
open Go.Am
noncomputable def slices_Equal_j4 (m : Nat) (rec2 : List Dt → List Dt → Int → Int → Option (Bool)) (x0 : List Dt) (x1 : List Dt) (x2 : Int) (x3 : Int) : Option (Bool) :=
  rec2 x0 x1 x2 (IntKind.wrap IntKind.i64 (x3 + (1 : Int)))
noncomputable def slices_Equal_j3 (m : Nat) (rec2 : List Dt → List Dt → Int → Int → Option (Bool)) (x0 : List Dt) (x1 : List Dt) (x2 : Int) (x3 : Int) : Option (Bool) :=
  ((idx x0 x3).bind fun v0 =>
    ((idx x1 x3).bind fun v1 =>
      (bif (Bool.not ((ByteArray.toList (Dt.toStr v0)) == (ByteArray.toList (Dt.toStr v1)))) then
        some Bool.false
      else
        slices_Equal_j4 m rec2 x0 x1 x2 x3)))
noncomputable def slices_Equal_j5 (m : Nat) : Option (Bool) :=
  some Bool.true
noncomputable def slices_Equal_l2 (m : Nat) : Nat → List Dt → List Dt → Int → Int → Option (Bool)
  | 0, _, _, _, _ => none
  | M2 + 1, x0, x1, x2, x3 =>
    (bif (decide (x3 < x2)) then
    slices_Equal_j3 m (slices_Equal_l2 m M2) x0 x1 x2 x3
  else
    slices_Equal_j5 m)
noncomputable def slices_Equal_j1 (m : Nat) (x0 : List Dt) (x1 : List Dt) (x2 : Int) (x3 : Int) : Option (Bool) :=
  slices_Equal_l2 m (Nat.succ m) x0 x1 x2 x3
noncomputable def slices_Equal_j0 (m : Nat) (x0 : List Dt) (x1 : List Dt) : Option (Bool) :=
  slices_Equal_j1 m x0 x1 (((List.length x0) : Nat) : Int) (0 : Int)
noncomputable def slices_Equal : Nat → List Dt → List Dt → Option (Bool)
  | 0, _, _ => none
  | m + 1, a0, a1 =>
    (bif ((((List.length a0) : Nat) : Int) != (((List.length a1) : Nat) : Int)) then
    some Bool.false
  else
    slices_Equal_j0 m a0 a1)
noncomputable def law12_Same_j4 (m : Nat) (rec2 : List Dt → List Dt → Int → Int → Option (Bool)) (x0 : List Dt) (x1 : List Dt) (x2 : Int) (x3 : Int) : Option (Bool) :=
  rec2 x0 x1 x2 (IntKind.wrap IntKind.i64 (x3 + (1 : Int)))
noncomputable def law12_Same_j3 (m : Nat) (rec2 : List Dt → List Dt → Int → Int → Option (Bool)) (x0 : List Dt) (x1 : List Dt) (x2 : Int) (x3 : Int) : Option (Bool) :=
  ((idx x0 x3).bind fun v0 =>
    ((idx x1 x3).bind fun v1 =>
      (bif (Bool.not ((Dt.B v0 1) == (Dt.B v1 1))) then
        some Bool.false
      else
        ((idx x0 x3).bind fun v2 =>
          ((idx x1 x3).bind fun v3 =>
            ((slices_Equal m (Dt.L v2 0) (Dt.L v3 0)).bind fun r4 =>
              (bif (Bool.not r4) then
                some Bool.false
              else
                law12_Same_j4 m rec2 x0 x1 x2 x3)))))))
noncomputable def law12_Same_j5 (m : Nat) : Option (Bool) :=
  some Bool.true
noncomputable def law12_Same_l2 (m : Nat) : Nat → List Dt → List Dt → Int → Int → Option (Bool)
  | 0, _, _, _, _ => none
  | M2 + 1, x0, x1, x2, x3 =>
    (bif (decide (x3 < x2)) then
    law12_Same_j3 m (law12_Same_l2 m M2) x0 x1 x2 x3
  else
    law12_Same_j5 m)
noncomputable def law12_Same_j1 (m : Nat) (x0 : List Dt) (x1 : List Dt) (x2 : Int) (x3 : Int) : Option (Bool) :=
  law12_Same_l2 m (Nat.succ m) x0 x1 x2 x3
noncomputable def law12_Same_j0 (m : Nat) (x0 : List Dt) (x1 : List Dt) : Option (Bool) :=
  law12_Same_j1 m x0 x1 (((List.length x0) : Nat) : Int) (0 : Int)
noncomputable def law12_Same : Nat → List Dt → List Dt → Option (Bool)
  | 0, _, _ => none
  | m + 1, a0, a1 =>
    (bif ((((List.length a0) : Nat) : Int) != (((List.length a1) : Nat) : Int)) then
    some Bool.false
  else
    law12_Same_j0 m a0 a1)
noncomputable def ref12_same_j4 (m : Nat) (rec2 : List Dt → List Dt → Int → Option (Bool)) (x0 : List Dt) (x1 : List Dt) (x2 : Int) : Option (Bool) :=
  rec2 x0 x1 (IntKind.wrap IntKind.i64 (x2 + (1 : Int)))
noncomputable def ref12_same_j3 (m : Nat) (rec2 : List Dt → List Dt → Int → Option (Bool)) (x0 : List Dt) (x1 : List Dt) (x2 : Int) : Option (Bool) :=
  ((idx x0 x2).bind fun v0 =>
    ((idx x1 x2).bind fun v1 =>
      (bif (Bool.not ((ByteArray.toList (Dt.toStr v0)) == (ByteArray.toList (Dt.toStr v1)))) then
        some Bool.false
      else
        ref12_same_j4 m rec2 x0 x1 x2)))
noncomputable def ref12_same_j5 (m : Nat) : Option (Bool) :=
  some Bool.true
noncomputable def ref12_same_l2 (m : Nat) : Nat → List Dt → List Dt → Int → Option (Bool)
  | 0, _, _, _ => none
  | M2 + 1, x0, x1, x2 =>
    (bif (decide (x2 < (((List.length x0) : Nat) : Int))) then
    ref12_same_j3 m (ref12_same_l2 m M2) x0 x1 x2
  else
    ref12_same_j5 m)
noncomputable def ref12_same_j1 (m : Nat) (x0 : List Dt) (x1 : List Dt) (x2 : Int) : Option (Bool) :=
  ref12_same_l2 m (Nat.succ m) x0 x1 x2
noncomputable def ref12_same_j0 (m : Nat) (x0 : List Dt) (x1 : List Dt) : Option (Bool) :=
  ref12_same_j1 m x0 x1 (0 : Int)
noncomputable def ref12_same : Nat → List Dt → List Dt → Option (Bool)
  | 0, _, _ => none
  | m + 1, a0, a1 =>
    (bif ((((List.length a0) : Nat) : Int) != (((List.length a1) : Nat) : Int)) then
    some Bool.false
  else
    ref12_same_j0 m a0 a1)
noncomputable def path_notName_j4 (m : Nat) (rec2 : ByteArray → Int → Int → Option (Bool)) (x0 : ByteArray) (x1 : Int) (x2 : Int) : Option (Bool) :=
  rec2 x0 x1 (IntKind.wrap IntKind.i64 (x2 + (1 : Int)))
noncomputable def path_notName_j3 (m : Nat) (rec2 : ByteArray → Int → Int → Option (Bool)) (x0 : ByteArray) (x1 : Int) (x2 : Int) : Option (Bool) :=
  ((idxS x0 x2).bind fun v1 =>
    (bif (decide (v1 < (33 : Int))) then
      some Bool.true
    else
      ((idxS x0 x2).bind fun v2 =>
        (bif (decide ((126 : Int) < v2)) then
          some Bool.true
        else
          ((idxS x0 x2).bind fun v3 =>
            (bif (v3 == (46 : Int)) then
              some Bool.true
            else
              path_notName_j4 m rec2 x0 x1 x2))))))
noncomputable def path_notName_j5 (m : Nat) : Option (Bool) :=
  some Bool.false
noncomputable def path_notName_l2 (m : Nat) : Nat → ByteArray → Int → Int → Option (Bool)
  | 0, _, _, _ => none
  | M2 + 1, x0, x1, x2 =>
    (bif (decide (x2 < x1)) then
    path_notName_j3 m (path_notName_l2 m M2) x0 x1 x2
  else
    path_notName_j5 m)
noncomputable def path_notName_j1 (m : Nat) (x0 : ByteArray) (x1 : Int) (x2 : Int) : Option (Bool) :=
  path_notName_l2 m (Nat.succ m) x0 x1 x2
noncomputable def path_notName_j0 (m : Nat) (x0 : ByteArray) : Option (Bool) :=
  path_notName_j1 m x0 (((ByteArray.size x0) : Nat) : Int) (0 : Int)
noncomputable def path_notName : Nat → ByteArray → Option (Bool)
  | 0, _ => none
  | m + 1, a0 =>
    (bif (decide ((((ByteArray.size a0) : Nat) : Int) < (1 : Int))) then
    some Bool.true
  else
    (bif (decide ((32 : Int) < (((ByteArray.size a0) : Nat) : Int))) then
      some Bool.true
    else
      ((idxS a0 (0 : Int)).bind fun v0 =>
        (bif (v0 == (36 : Int)) then
          some Bool.true
        else
          path_notName_j0 m a0))))
noncomputable def slices_IndexFunc_i15_j3 (m : Nat) (rec1 : List Dt → Int → Int → Option (Int)) (x0 : List Dt) (x1 : Int) (x2 : Int) : Option (Int) :=
  rec1 x0 x1 (IntKind.wrap IntKind.i64 (x2 + (1 : Int)))
noncomputable def slices_IndexFunc_i15_j2 (m : Nat) (rec1 : List Dt → Int → Int → Option (Int)) (x0 : List Dt) (x1 : Int) (x2 : Int) : Option (Int) :=
  ((idx x0 x2).bind fun v0 =>
    ((path_notName m (Dt.toStr v0)).bind fun r1 =>
      (bif r1 then
        some x2
      else
        slices_IndexFunc_i15_j3 m rec1 x0 x1 x2)))
noncomputable def slices_IndexFunc_i15_j4 (m : Nat) : Option (Int) :=
  some (-1 : Int)
noncomputable def slices_IndexFunc_i15_l1 (m : Nat) : Nat → List Dt → Int → Int → Option (Int)
  | 0, _, _, _ => none
  | M1 + 1, x0, x1, x2 =>
    (bif (decide (x2 < x1)) then
    slices_IndexFunc_i15_j2 m (slices_IndexFunc_i15_l1 m M1) x0 x1 x2
  else
    slices_IndexFunc_i15_j4 m)
noncomputable def slices_IndexFunc_i15_j0 (m : Nat) (x0 : List Dt) (x1 : Int) (x2 : Int) : Option (Int) :=
  slices_IndexFunc_i15_l1 m (Nat.succ m) x0 x1 x2
noncomputable def slices_IndexFunc_i15 : Nat → List Dt → Option (Int)
  | 0, _ => none
  | m + 1, a0 =>
    slices_IndexFunc_i15_j0 m a0 (((List.length a0) : Nat) : Int) (0 : Int)
noncomputable def slices_ContainsFunc_i14 : Nat → List Dt → Option (Bool)
  | 0, _ => none
  | m + 1, a0 =>
    ((slices_IndexFunc_i15 m a0).bind fun r0 =>
    some (decide ((0 : Int) ≤ r0)))
noncomputable def path_Valid : Nat → List Dt → Option (Bool)
  | 0, _ => none
  | m + 1, a0 =>
    (bif (decide ((1 : Int) ≤ (((List.length a0) : Nat) : Int))) then
    (bif (decide ((((List.length a0) : Nat) : Int) ≤ (16 : Int))) then
      ((slices_ContainsFunc_i14 m a0).bind fun r0 =>
        some (Bool.not r0))
    else
      some Bool.false)
  else
    some Bool.false)
noncomputable def order_Valid_j8 (m : Nat) (rec2 : List Dt → List Dt → Int → Int → Option (Int)) (rec6 : List Dt → List Dt → Int → Int → List Dt → Int → Int → Dt → Option (Int)) (x0 : List Dt) (x1 : List Dt) (x2 : Int) (x3 : Int) (x4 : List Dt) (x5 : Int) (x6 : Int) (x7 : Dt) : Option (Int) :=
  rec6 x0 x1 x2 x3 x4 x5 (IntKind.wrap IntKind.i64 (x6 + (1 : Int))) x7
noncomputable def order_Valid_j7 (m : Nat) (rec2 : List Dt → List Dt → Int → Int → Option (Int)) (rec6 : List Dt → List Dt → Int → Int → List Dt → Int → Int → Dt → Option (Int)) (x0 : List Dt) (x1 : List Dt) (x2 : Int) (x3 : Int) (x4 : List Dt) (x5 : Int) (x6 : Int) (x7 : Dt) : Option (Int) :=
  ((idx x4 x6).bind fun v3 =>
    ((slices_Equal m (Dt.L v3 0) (Dt.L x7 0)).bind fun r4 =>
      (bif r4 then
        some (12 : Int)
      else
        order_Valid_j8 m rec2 rec6 x0 x1 x2 x3 x4 x5 x6 x7)))
noncomputable def order_Valid_j9 (m : Nat) (rec2 : List Dt → List Dt → Int → Int → Option (Int)) (x0 : List Dt) (x1 : List Dt) (x2 : Int) (x3 : Int) : Option (Int) :=
  rec2 x0 x1 x2 (IntKind.wrap IntKind.i64 (x3 + (1 : Int)))
noncomputable def order_Valid_l6 (m : Nat) (rec2 : List Dt → List Dt → Int → Int → Option (Int)) : Nat → List Dt → List Dt → Int → Int → List Dt → Int → Int → Dt → Option (Int)
  | 0, _, _, _, _, _, _, _, _ => none
  | M6 + 1, x0, x1, x2, x3, x4, x5, x6, x7 =>
    (bif (decide (x6 < x5)) then
    order_Valid_j7 m rec2 (order_Valid_l6 m rec2 M6) x0 x1 x2 x3 x4 x5 x6 x7
  else
    order_Valid_j9 m rec2 x0 x1 x2 x3)
noncomputable def order_Valid_j5 (m : Nat) (rec2 : List Dt → List Dt → Int → Int → Option (Int)) (x0 : List Dt) (x1 : List Dt) (x2 : Int) (x3 : Int) (x4 : List Dt) (x5 : Int) (x6 : Int) (x7 : Dt) : Option (Int) :=
  order_Valid_l6 m rec2 (Nat.succ m) x0 x1 x2 x3 x4 x5 x6 x7
noncomputable def order_Valid_j4 (m : Nat) (rec2 : List Dt → List Dt → Int → Int → Option (Int)) (x0 : List Dt) (x1 : Int) (x2 : List Dt) (x3 : Int) (x4 : Int) (x5 : Dt) : Option (Int) :=
  ((cutL x0 (0 : Int) x1).bind fun v2 =>
    order_Valid_j5 m rec2 x0 x2 x3 x4 v2 (((List.length v2) : Nat) : Int) (0 : Int) x5)
noncomputable def order_Valid_j3 (m : Nat) (rec2 : List Dt → List Dt → Int → Int → Option (Int)) (x0 : List Dt) (x1 : List Dt) (x2 : Int) (x3 : Int) : Option (Int) :=
  ((idx x1 x3).bind fun v0 =>
    ((path_Valid m (Dt.L v0 0)).bind fun r1 =>
      (bif (Bool.not r1) then
        some (10 : Int)
      else
        order_Valid_j4 m rec2 x0 x3 x1 x2 x3 v0)))
noncomputable def order_Valid_j10 (m : Nat) : Option (Int) :=
  some (0 : Int)
noncomputable def order_Valid_l2 (m : Nat) : Nat → List Dt → List Dt → Int → Int → Option (Int)
  | 0, _, _, _, _ => none
  | M2 + 1, x0, x1, x2, x3 =>
    (bif (decide (x3 < x2)) then
    order_Valid_j3 m (order_Valid_l2 m M2) x0 x1 x2 x3
  else
    order_Valid_j10 m)
noncomputable def order_Valid_j1 (m : Nat) (x0 : List Dt) (x1 : List Dt) (x2 : Int) (x3 : Int) : Option (Int) :=
  order_Valid_l2 m (Nat.succ m) x0 x1 x2 x3
noncomputable def order_Valid_j0 (m : Nat) (x0 : List Dt) : Option (Int) :=
  order_Valid_j1 m x0 x0 (((List.length x0) : Nat) : Int) (0 : Int)
noncomputable def order_Valid : Nat → List Dt → Option (Int)
  | 0, _ => none
  | m + 1, a0 =>
    (bif (decide ((8 : Int) < (((List.length a0) : Nat) : Int))) then
    some (2 : Int)
  else
    order_Valid_j0 m a0)
noncomputable def path_Parse_j0 (m : Nat) (x0 : List Dt) : Option (List Dt × Int) :=
  some (x0, (0 : Int))
noncomputable def path_Parse : Nat → ByteArray → Option (List Dt × Int)
  | 0, _ => none
  | m + 1, a0 =>
    ((strings_Split a0 (ByteArray.mk (List.toArray [(46 : UInt8)]))).bind fun r0 =>
    ((path_Valid m r0).bind fun r1 =>
      (bif (Bool.not r1) then
        some ([], (10 : Int))
      else
        path_Parse_j0 m r0)))
noncomputable def order_Parse_j6 (m : Nat) (rec2 : List Dt → Int → Int → List Dt → Option (List Dt × Int)) (x0 : List Dt) (x1 : Int) (x2 : Int) (x3 : List Dt) : Option (List Dt × Int) :=
  rec2 x0 x1 (IntKind.wrap IntKind.i64 (x2 + (1 : Int))) x3
noncomputable def order_Parse_j5 (m : Nat) (rec2 : List Dt → Int → Int → List Dt → Option (List Dt × Int)) (x0 : List Dt) (x1 : List Dt) (x2 : Int) (x3 : Int) (x4 : List Dt) (x5 : Dt) : Option (List Dt × Int) :=
  ((app x4 [(Dt.agg [(Dt.lst x0), (Dt.bool ((Dt.I (Dt.fld x5 1) 1) == (-1 : Int)))])]).bind fun v2 =>
    order_Parse_j6 m rec2 x1 x2 x3 v2)
noncomputable def order_Parse_j4 (m : Nat) (rec2 : List Dt → Int → Int → List Dt → Option (List Dt × Int)) (x0 : List Dt) (x1 : List Dt) (x2 : Int) (x3 : Int) (x4 : List Dt) (x5 : Dt) : Option (List Dt × Int) :=
  (bif ((Dt.I (Dt.fld x5 1) 0) != (3 : Int)) then
    some ([], (4 : Int))
  else
    (bif ((Dt.I (Dt.fld x5 1) 1) != (1 : Int)) then
      (bif ((Dt.I (Dt.fld x5 1) 1) != (-1 : Int)) then
        some ([], (4 : Int))
      else
        order_Parse_j5 m rec2 x0 x1 x2 x3 x4 x5)
    else
      order_Parse_j5 m rec2 x0 x1 x2 x3 x4 x5))
noncomputable def order_Parse_j3 (m : Nat) (rec2 : List Dt → Int → Int → List Dt → Option (List Dt × Int)) (x0 : List Dt) (x1 : Int) (x2 : Int) (x3 : List Dt) : Option (List Dt × Int) :=
  ((idx x0 x2).bind fun v0 =>
    ((path_Parse m (Dt.S v0 0)).bind fun r1 =>
      (bif ((Prod.snd r1) != (0 : Int)) then
        some ([], (Prod.snd r1))
      else
        order_Parse_j4 m rec2 (Prod.fst r1) x0 x1 x2 x3 v0)))
noncomputable def order_Parse_j8 (m : Nat) (x0 : List Dt) : Option (List Dt × Int) :=
  some (x0, (0 : Int))
noncomputable def order_Parse_j7 (m : Nat) (x0 : List Dt) : Option (List Dt × Int) :=
  ((order_Valid m x0).bind fun r3 =>
    (bif (r3 != (0 : Int)) then
      some ([], r3)
    else
      order_Parse_j8 m x0))
noncomputable def order_Parse_l2 (m : Nat) : Nat → List Dt → Int → Int → List Dt → Option (List Dt × Int)
  | 0, _, _, _, _ => none
  | M2 + 1, x0, x1, x2, x3 =>
    (bif (decide (x2 < x1)) then
    order_Parse_j3 m (order_Parse_l2 m M2) x0 x1 x2 x3
  else
    order_Parse_j7 m x3)
noncomputable def order_Parse_j1 (m : Nat) (x0 : List Dt) (x1 : Int) (x2 : Int) (x3 : List Dt) : Option (List Dt × Int) :=
  order_Parse_l2 m (Nat.succ m) x0 x1 x2 x3
noncomputable def order_Parse_j0 (m : Nat) (x0 : Dt) : Option (List Dt × Int) :=
  order_Parse_j1 m (Dt.L x0 4) (((List.length (Dt.L x0 4)) : Nat) : Int) (0 : Int) []
noncomputable def order_Parse : Nat → Dt → Option (List Dt × Int)
  | 0, _ => none
  | m + 1, a0 =>
    (bif ((Dt.I a0 0) != (5 : Int)) then
    some ([], (4 : Int))
  else
    order_Parse_j0 m a0)
noncomputable def ref01_Name_j4 (m : Nat) (rec2 : ByteArray → Int → Option (Bool)) (x0 : ByteArray) (x1 : Int) : Option (Bool) :=
  rec2 x0 (IntKind.wrap IntKind.i64 (x1 + (1 : Int)))
noncomputable def ref01_Name_j3 (m : Nat) (rec2 : ByteArray → Int → Option (Bool)) (x0 : ByteArray) (x1 : Int) : Option (Bool) :=
  ((idxS x0 x1).bind fun v1 =>
    (bif (decide (v1 < (33 : Int))) then
      some Bool.false
    else
      ((idxS x0 x1).bind fun v2 =>
        (bif (decide ((126 : Int) < v2)) then
          some Bool.false
        else
          ((idxS x0 x1).bind fun v3 =>
            (bif (v3 == (46 : Int)) then
              some Bool.false
            else
              ref01_Name_j4 m rec2 x0 x1))))))
noncomputable def ref01_Name_j5 (m : Nat) : Option (Bool) :=
  some Bool.true
noncomputable def ref01_Name_l2 (m : Nat) : Nat → ByteArray → Int → Option (Bool)
  | 0, _, _ => none
  | M2 + 1, x0, x1 =>
    (bif (decide (x1 < (((ByteArray.size x0) : Nat) : Int))) then
    ref01_Name_j3 m (ref01_Name_l2 m M2) x0 x1
  else
    ref01_Name_j5 m)
noncomputable def ref01_Name_j1 (m : Nat) (x0 : ByteArray) (x1 : Int) : Option (Bool) :=
  ref01_Name_l2 m (Nat.succ m) x0 x1
noncomputable def ref01_Name_j0 (m : Nat) (x0 : ByteArray) : Option (Bool) :=
  ref01_Name_j1 m x0 (0 : Int)
noncomputable def ref01_Name : Nat → ByteArray → Option (Bool)
  | 0, _ => none
  | m + 1, a0 =>
    (bif (decide ((((ByteArray.size a0) : Nat) : Int) < (1 : Int))) then
    some Bool.false
  else
    (bif (decide ((32 : Int) < (((ByteArray.size a0) : Nat) : Int))) then
      some Bool.false
    else
      ((idxS a0 (0 : Int)).bind fun v0 =>
        (bif (v0 == (36 : Int)) then
          some Bool.false
        else
          ref01_Name_j0 m a0))))
noncomputable def ref04_Valid_j4 (m : Nat) (rec2 : List Dt → Int → Option (Bool)) (x0 : List Dt) (x1 : Int) : Option (Bool) :=
  rec2 x0 (IntKind.wrap IntKind.i64 (x1 + (1 : Int)))
noncomputable def ref04_Valid_j3 (m : Nat) (rec2 : List Dt → Int → Option (Bool)) (x0 : List Dt) (x1 : Int) : Option (Bool) :=
  ((idx x0 x1).bind fun v0 =>
    ((ref01_Name m (Dt.toStr v0)).bind fun r1 =>
      (bif (Bool.not r1) then
        some Bool.false
      else
        ref04_Valid_j4 m rec2 x0 x1)))
noncomputable def ref04_Valid_j5 (m : Nat) : Option (Bool) :=
  some Bool.true
noncomputable def ref04_Valid_l2 (m : Nat) : Nat → List Dt → Int → Option (Bool)
  | 0, _, _ => none
  | M2 + 1, x0, x1 =>
    (bif (decide (x1 < (((List.length x0) : Nat) : Int))) then
    ref04_Valid_j3 m (ref04_Valid_l2 m M2) x0 x1
  else
    ref04_Valid_j5 m)
noncomputable def ref04_Valid_j1 (m : Nat) (x0 : List Dt) (x1 : Int) : Option (Bool) :=
  ref04_Valid_l2 m (Nat.succ m) x0 x1
noncomputable def ref04_Valid_j0 (m : Nat) (x0 : List Dt) : Option (Bool) :=
  ref04_Valid_j1 m x0 (0 : Int)
noncomputable def ref04_Valid : Nat → List Dt → Option (Bool)
  | 0, _ => none
  | m + 1, a0 =>
    (bif (decide ((((List.length a0) : Nat) : Int) < (1 : Int))) then
    some Bool.false
  else
    (bif (decide ((16 : Int) < (((List.length a0) : Nat) : Int))) then
      some Bool.false
    else
      ref04_Valid_j0 m a0))
noncomputable def ref12_Valid_j8 (m : Nat) (rec2 : List Dt → Int → Option (Int)) (rec6 : List Dt → Int → Int → Option (Int)) (x0 : List Dt) (x1 : Int) (x2 : Int) : Option (Int) :=
  rec6 x0 x1 (IntKind.wrap IntKind.i64 (x2 + (1 : Int)))
noncomputable def ref12_Valid_j7 (m : Nat) (rec2 : List Dt → Int → Option (Int)) (rec6 : List Dt → Int → Int → Option (Int)) (x0 : List Dt) (x1 : Int) (x2 : Int) : Option (Int) :=
  ((idx x0 x1).bind fun v2 =>
    ((idx x0 x2).bind fun v3 =>
      ((ref12_same m (Dt.L v2 0) (Dt.L v3 0)).bind fun r4 =>
        (bif r4 then
          some (12 : Int)
        else
          ref12_Valid_j8 m rec2 rec6 x0 x1 x2))))
noncomputable def ref12_Valid_j9 (m : Nat) (rec2 : List Dt → Int → Option (Int)) (x0 : List Dt) (x1 : Int) : Option (Int) :=
  rec2 x0 (IntKind.wrap IntKind.i64 (x1 + (1 : Int)))
noncomputable def ref12_Valid_l6 (m : Nat) (rec2 : List Dt → Int → Option (Int)) : Nat → List Dt → Int → Int → Option (Int)
  | 0, _, _, _ => none
  | M6 + 1, x0, x1, x2 =>
    (bif (decide (x2 < x1)) then
    ref12_Valid_j7 m rec2 (ref12_Valid_l6 m rec2 M6) x0 x1 x2
  else
    ref12_Valid_j9 m rec2 x0 x1)
noncomputable def ref12_Valid_j5 (m : Nat) (rec2 : List Dt → Int → Option (Int)) (x0 : List Dt) (x1 : Int) (x2 : Int) : Option (Int) :=
  ref12_Valid_l6 m rec2 (Nat.succ m) x0 x1 x2
noncomputable def ref12_Valid_j4 (m : Nat) (rec2 : List Dt → Int → Option (Int)) (x0 : List Dt) (x1 : Int) : Option (Int) :=
  ref12_Valid_j5 m rec2 x0 x1 (0 : Int)
noncomputable def ref12_Valid_j3 (m : Nat) (rec2 : List Dt → Int → Option (Int)) (x0 : List Dt) (x1 : Int) : Option (Int) :=
  ((idx x0 x1).bind fun v0 =>
    ((ref04_Valid m (Dt.L v0 0)).bind fun r1 =>
      (bif (Bool.not r1) then
        some (10 : Int)
      else
        ref12_Valid_j4 m rec2 x0 x1)))
noncomputable def ref12_Valid_j10 (m : Nat) : Option (Int) :=
  some (0 : Int)
noncomputable def ref12_Valid_l2 (m : Nat) : Nat → List Dt → Int → Option (Int)
  | 0, _, _ => none
  | M2 + 1, x0, x1 =>
    (bif (decide (x1 < (((List.length x0) : Nat) : Int))) then
    ref12_Valid_j3 m (ref12_Valid_l2 m M2) x0 x1
  else
    ref12_Valid_j10 m)
noncomputable def ref12_Valid_j1 (m : Nat) (x0 : List Dt) (x1 : Int) : Option (Int) :=
  ref12_Valid_l2 m (Nat.succ m) x0 x1
noncomputable def ref12_Valid_j0 (m : Nat) (x0 : List Dt) : Option (Int) :=
  ref12_Valid_j1 m x0 (0 : Int)
noncomputable def ref12_Valid : Nat → List Dt → Option (Int)
  | 0, _ => none
  | m + 1, a0 =>
    (bif (decide ((8 : Int) < (((List.length a0) : Nat) : Int))) then
    some (2 : Int)
  else
    ref12_Valid_j0 m a0)
noncomputable def law12_OrderValid : Nat → List Dt → Option (Bool)
  | 0, _ => none
  | m + 1, a0 =>
    ((order_Valid m a0).bind fun r0 =>
    ((ref12_Valid m a0).bind fun r1 =>
      (bif (r0 == r1) then
        ((awakeC).bind fun r2 =>
          some r2)
      else
        some Bool.false)))
noncomputable def ref04_split_j3 (m : Nat) (rec1 : ByteArray → Int → Int → List Dt → Option (List Dt)) (x0 : ByteArray) (x1 : Int) (x2 : Int) (x3 : List Dt) : Option (List Dt) :=
  rec1 x0 x1 (IntKind.wrap IntKind.i64 (x2 + (1 : Int))) x3
noncomputable def ref04_split_j2 (m : Nat) (rec1 : ByteArray → Int → Int → List Dt → Option (List Dt)) (x0 : ByteArray) (x1 : Int) (x2 : Int) (x3 : List Dt) : Option (List Dt) :=
  ((idxS x0 x2).bind fun v0 =>
    (bif (v0 == (46 : Int)) then
      ((cutS x0 x1 x2).bind fun v1 =>
        ((app x3 [(Dt.str v1)]).bind fun v2 =>
          ref04_split_j3 m rec1 x0 (IntKind.wrap IntKind.i64 (x2 + (1 : Int))) x2 v2))
    else
      ref04_split_j3 m rec1 x0 x1 x2 x3))
noncomputable def ref04_split_j4 (m : Nat) (x0 : ByteArray) (x1 : Int) (x2 : List Dt) : Option (List Dt) :=
  ((cutS x0 x1 (((ByteArray.size x0) : Nat) : Int)).bind fun v3 =>
    ((app x2 [(Dt.str v3)]).bind fun v4 =>
      some v4))
noncomputable def ref04_split_l1 (m : Nat) : Nat → ByteArray → Int → Int → List Dt → Option (List Dt)
  | 0, _, _, _, _ => none
  | M1 + 1, x0, x1, x2, x3 =>
    (bif (decide (x2 < (((ByteArray.size x0) : Nat) : Int))) then
    ref04_split_j2 m (ref04_split_l1 m M1) x0 x1 x2 x3
  else
    ref04_split_j4 m x0 x1 x3)
noncomputable def ref04_split_j0 (m : Nat) (x0 : ByteArray) (x1 : Int) (x2 : Int) (x3 : List Dt) : Option (List Dt) :=
  ref04_split_l1 m (Nat.succ m) x0 x1 x2 x3
noncomputable def ref04_split : Nat → ByteArray → Option (List Dt)
  | 0, _ => none
  | m + 1, a0 =>
    ref04_split_j0 m a0 (0 : Int) (0 : Int) []
noncomputable def ref04_Parse_j0 (m : Nat) (x0 : List Dt) : Option (List Dt × Int) :=
  some (x0, (0 : Int))
noncomputable def ref04_Parse : Nat → ByteArray → Option (List Dt × Int)
  | 0, _ => none
  | m + 1, a0 =>
    ((ref04_split m a0).bind fun r0 =>
    ((ref04_Valid m r0).bind fun r1 =>
      (bif (Bool.not r1) then
        some ([], (10 : Int))
      else
        ref04_Parse_j0 m r0)))
noncomputable def ref12_Parse_j6 (m : Nat) (rec2 : Int → Dt → List Dt → Option (List Dt × Int)) (x0 : Int) (x1 : Dt) (x2 : List Dt) : Option (List Dt × Int) :=
  rec2 (IntKind.wrap IntKind.i64 (x0 + (1 : Int))) x1 x2
noncomputable def ref12_Parse_j5 (m : Nat) (rec2 : Int → Dt → List Dt → Option (List Dt × Int)) (x0 : Int) (x1 : List Dt) (x2 : Dt) (x3 : List Dt) (x4 : Dt) : Option (List Dt × Int) :=
  ((app x3 [(Dt.agg [(Dt.lst x1), (Dt.bool ((Dt.I x4 1) == (-1 : Int)))])]).bind fun v3 =>
    ref12_Parse_j6 m rec2 x0 x2 v3)
noncomputable def ref12_Parse_j4 (m : Nat) (rec2 : Int → Dt → List Dt → Option (List Dt × Int)) (x0 : Int) (x1 : List Dt) (x2 : Dt) (x3 : List Dt) : Option (List Dt × Int) :=
  ((idx (Dt.L x2 4) x0).bind fun v2 =>
    (bif ((Dt.I (Dt.fld v2 1) 0) != (3 : Int)) then
      some ([], (4 : Int))
    else
      (bif ((Dt.I (Dt.fld v2 1) 1) != (1 : Int)) then
        (bif ((Dt.I (Dt.fld v2 1) 1) != (-1 : Int)) then
          some ([], (4 : Int))
        else
          ref12_Parse_j5 m rec2 x0 x1 x2 x3 (Dt.fld v2 1))
      else
        ref12_Parse_j5 m rec2 x0 x1 x2 x3 (Dt.fld v2 1))))
noncomputable def ref12_Parse_j3 (m : Nat) (rec2 : Int → Dt → List Dt → Option (List Dt × Int)) (x0 : Int) (x1 : Dt) (x2 : List Dt) : Option (List Dt × Int) :=
  ((idx (Dt.L x1 4) x0).bind fun v0 =>
    ((ref04_Parse m (Dt.S v0 0)).bind fun r1 =>
      (bif ((Prod.snd r1) != (0 : Int)) then
        some ([], (Prod.snd r1))
      else
        ref12_Parse_j4 m rec2 x0 (Prod.fst r1) x1 x2)))
noncomputable def ref12_Parse_j8 (m : Nat) (x0 : List Dt) : Option (List Dt × Int) :=
  some (x0, (0 : Int))
noncomputable def ref12_Parse_j7 (m : Nat) (x0 : List Dt) : Option (List Dt × Int) :=
  ((ref12_Valid m x0).bind fun r4 =>
    (bif (r4 != (0 : Int)) then
      some ([], r4)
    else
      ref12_Parse_j8 m x0))
noncomputable def ref12_Parse_l2 (m : Nat) : Nat → Int → Dt → List Dt → Option (List Dt × Int)
  | 0, _, _, _ => none
  | M2 + 1, x0, x1, x2 =>
    (bif (decide (x0 < (((List.length (Dt.L x1 4)) : Nat) : Int))) then
    ref12_Parse_j3 m (ref12_Parse_l2 m M2) x0 x1 x2
  else
    ref12_Parse_j7 m x2)
noncomputable def ref12_Parse_j1 (m : Nat) (x0 : Int) (x1 : Dt) (x2 : List Dt) : Option (List Dt × Int) :=
  ref12_Parse_l2 m (Nat.succ m) x0 x1 x2
noncomputable def ref12_Parse_j0 (m : Nat) (x0 : Dt) : Option (List Dt × Int) :=
  ref12_Parse_j1 m (0 : Int) x0 []
noncomputable def ref12_Parse : Nat → Dt → Option (List Dt × Int)
  | 0, _ => none
  | m + 1, a0 =>
    (bif ((Dt.I a0 0) != (5 : Int)) then
    some ([], (4 : Int))
  else
    ref12_Parse_j0 m a0)
noncomputable def law12_OrderParse_j0 (m : Nat) (x0 : Dt) : Option (Bool) :=
  ((order_Parse m x0).bind fun r1 =>
    ((ref12_Parse m x0).bind fun r2 =>
      (bif ((Prod.snd r1) == (Prod.snd r2)) then
        ((law12_Same m (Prod.fst r1) (Prod.fst r2)).bind fun r3 =>
          (bif r3 then
            ((awakeC).bind fun r4 =>
              some r4)
          else
            some Bool.false))
      else
        some Bool.false)))
noncomputable def law12_OrderParse : Nat → Dt → Option (Bool)
  | 0, _ => none
  | m + 1, a0 =>
    (bif (decide ((100 : Int) < (((List.length (Dt.L a0 4)) : Nat) : Int))) then
    ((awakeC).bind fun r0 =>
      some r0)
  else
    law12_OrderParse_j0 m a0)
end Go.Proofs.YtacchdeihafmnaaDoor
