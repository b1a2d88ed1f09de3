/- Generated: what the Go functions compute, over plain data. -/
import Derived.Test.YtmjnmiahblaanaaDoorAm20
import Derived.Test.YtmjnmiahblaanaaDoorOAwake
set_option linter.unusedVariables false
set_option linter.unusedSimpArgs false
namespace Go.Proofs.YtmjnmiahblaanaaDoor
open Go.Am
noncomputable def path_Text : Nat → List Dt → Option (ByteArray)
  | 0, _ => none
  | m + 1, a0 =>
    ((strings_Join a0 (Dt.toStr (Dt.str (ByteArray.mk (List.toArray [(46 : UInt8)]))))).bind fun r0 =>
    some r0)
noncomputable def ref04_Text_j4 (m : Nat) (rec1 : List Dt → ByteArray → Int → Option (ByteArray)) (x0 : List Dt) (x1 : ByteArray) (x2 : Int) : Option (ByteArray) :=
  rec1 x0 x1 (IntKind.wrap IntKind.i64 (x2 + (1 : Int)))
noncomputable def ref04_Text_j3 (m : Nat) (rec1 : List Dt → ByteArray → Int → Option (ByteArray)) (x0 : List Dt) (x1 : ByteArray) (x2 : Int) : Option (ByteArray) :=
  ((idx x0 x2).bind fun v0 =>
    (bif (Nat.ble ((ByteArray.size x1) + (ByteArray.size (Dt.toStr v0))) 1152921504606846976) then
      ref04_Text_j4 m rec1 x0 (x1 ++ (Dt.toStr v0)) x2
    else
      none))
noncomputable def ref04_Text_j2 (m : Nat) (rec1 : List Dt → ByteArray → Int → Option (ByteArray)) (x0 : List Dt) (x1 : ByteArray) (x2 : Int) : Option (ByteArray) :=
  (bif (decide ((0 : Int) < x2)) then
    (bif (Nat.ble ((ByteArray.size x1) + 1) 1152921504606846976) then
      ref04_Text_j3 m rec1 x0 (x1 ++ (Dt.toStr (Dt.str (ByteArray.mk (List.toArray [(46 : UInt8)]))))) x2
    else
      none)
  else
    ref04_Text_j3 m rec1 x0 x1 x2)
noncomputable def ref04_Text_j5 (m : Nat) (x0 : ByteArray) : Option (ByteArray) :=
  some x0
noncomputable def ref04_Text_l1 (m : Nat) : Nat → List Dt → ByteArray → Int → Option (ByteArray)
  | 0, _, _, _ => none
  | M1 + 1, x0, x1, x2 =>
    (bif (decide (x2 < (((List.length x0) : Nat) : Int))) then
    ref04_Text_j2 m (ref04_Text_l1 m M1) x0 x1 x2
  else
    ref04_Text_j5 m x1)
noncomputable def ref04_Text_j0 (m : Nat) (x0 : List Dt) (x1 : ByteArray) (x2 : Int) : Option (ByteArray) :=
  ref04_Text_l1 m (Nat.succ m) x0 x1 x2
noncomputable def ref04_Text : Nat → List Dt → Option (ByteArray)
  | 0, _ => none
  | m + 1, a0 =>
    ref04_Text_j0 m a0 (Dt.toStr (canD Proofs.Tryd.prog (Oper.type (Oper.mk (Option.some (3 : Nat)) (Op.assign (Operand.const (Value.string (ByteArray.mk (List.toArray []))))) (9 : Nat) "ref.go:46" (List.toArray []) (Option.none))) (Dt.str (ByteArray.mk (List.toArray []))))) (0 : Int)
noncomputable def path_Number_j5 (m : Nat) (rec2 : ByteArray → Int → Int → Int → Option (Int × Bool)) (x0 : ByteArray) (x1 : Int) (x2 : Int) (x3 : Int) : Option (Int × Bool) :=
  rec2 x0 x1 x2 (IntKind.wrap IntKind.i64 (x3 + (1 : Int)))
noncomputable def path_Number_j4 (m : Nat) (rec2 : ByteArray → Int → Int → Int → Option (Int × Bool)) (x0 : ByteArray) (x1 : Int) (x2 : Int) (x3 : Int) (x4 : Int) : Option (Int × Bool) :=
  ((idxS x0 x2).bind fun v3 =>
    path_Number_j5 m rec2 x0 (IntKind.wrap IntKind.i64 ((IntKind.wrap IntKind.i64 ((10 : Int) * x1)) + (IntKind.wrap IntKind.i64 (IntKind.wrap IntKind.u8 (v3 - (48 : Int)))))) x3 x4)
noncomputable def path_Number_j3 (m : Nat) (rec2 : ByteArray → Int → Int → Int → Option (Int × Bool)) (x0 : ByteArray) (x1 : Int) (x2 : Int) (x3 : Int) : Option (Int × Bool) :=
  ((idxS x0 x3).bind fun v1 =>
    (bif (decide (v1 < (48 : Int))) then
      some ((0 : Int), Bool.false)
    else
      ((idxS x0 x3).bind fun v2 =>
        (bif (decide ((57 : Int) < v2)) then
          some ((0 : Int), Bool.false)
        else
          path_Number_j4 m rec2 x0 x1 x3 x2 x3))))
noncomputable def path_Number_j6 (m : Nat) (x0 : Int) : Option (Int × Bool) :=
  some (x0, Bool.true)
noncomputable def path_Number_l2 (m : Nat) : Nat → ByteArray → Int → Int → Int → Option (Int × Bool)
  | 0, _, _, _, _ => none
  | M2 + 1, x0, x1, x2, x3 =>
    (bif (decide (x3 < x2)) then
    path_Number_j3 m (path_Number_l2 m M2) x0 x1 x2 x3
  else
    path_Number_j6 m x1)
noncomputable def path_Number_j1 (m : Nat) (x0 : ByteArray) (x1 : Int) (x2 : Int) (x3 : Int) : Option (Int × Bool) :=
  path_Number_l2 m (Nat.succ m) x0 x1 x2 x3
noncomputable def path_Number_j0 (m : Nat) (x0 : ByteArray) : Option (Int × Bool) :=
  path_Number_j1 m x0 (0 : Int) (((ByteArray.size x0) : Nat) : Int) (0 : Int)
noncomputable def path_Number : Nat → ByteArray → Option (Int × Bool)
  | 0, _ => none
  | m + 1, a0 =>
    (bif (decide ((((ByteArray.size a0) : Nat) : Int) < (1 : Int))) then
    some ((0 : Int), Bool.false)
  else
    (bif (decide ((4 : Int) < (((ByteArray.size a0) : Nat) : Int))) then
      some ((0 : Int), Bool.false)
    else
      ((idxS a0 (0 : Int)).bind fun v0 =>
        (bif (v0 == (48 : Int)) then
          (bif (decide ((1 : Int) < (((ByteArray.size a0) : Nat) : Int))) then
            some ((0 : Int), Bool.false)
          else
            path_Number_j0 m a0)
        else
          path_Number_j0 m a0))))
noncomputable def ref04_Number_j5 (m : Nat) (rec2 : ByteArray → Int → Int → Option (Int × Bool)) (x0 : ByteArray) (x1 : Int) (x2 : Int) : Option (Int × Bool) :=
  rec2 x0 x1 (IntKind.wrap IntKind.i64 (x2 + (1 : Int)))
noncomputable def ref04_Number_j4 (m : Nat) (rec2 : ByteArray → Int → Int → Option (Int × Bool)) (x0 : ByteArray) (x1 : Int) (x2 : Int) : Option (Int × Bool) :=
  ((idxS x0 x2).bind fun v3 =>
    ref04_Number_j5 m rec2 x0 (IntKind.wrap IntKind.i64 ((IntKind.wrap IntKind.i64 (x1 * (10 : Int))) + (IntKind.wrap IntKind.i64 (IntKind.wrap IntKind.u8 (v3 - (48 : Int)))))) x2)
noncomputable def ref04_Number_j3 (m : Nat) (rec2 : ByteArray → Int → Int → Option (Int × Bool)) (x0 : ByteArray) (x1 : Int) (x2 : Int) : Option (Int × Bool) :=
  ((idxS x0 x2).bind fun v1 =>
    (bif (decide (v1 < (48 : Int))) then
      some ((0 : Int), Bool.false)
    else
      ((idxS x0 x2).bind fun v2 =>
        (bif (decide ((57 : Int) < v2)) then
          some ((0 : Int), Bool.false)
        else
          ref04_Number_j4 m rec2 x0 x1 x2))))
noncomputable def ref04_Number_j6 (m : Nat) (x0 : Int) : Option (Int × Bool) :=
  some (x0, Bool.true)
noncomputable def ref04_Number_l2 (m : Nat) : Nat → ByteArray → Int → Int → Option (Int × Bool)
  | 0, _, _, _ => none
  | M2 + 1, x0, x1, x2 =>
    (bif (decide (x2 < (((ByteArray.size x0) : Nat) : Int))) then
    ref04_Number_j3 m (ref04_Number_l2 m M2) x0 x1 x2
  else
    ref04_Number_j6 m x1)
noncomputable def ref04_Number_j1 (m : Nat) (x0 : ByteArray) (x1 : Int) (x2 : Int) : Option (Int × Bool) :=
  ref04_Number_l2 m (Nat.succ m) x0 x1 x2
noncomputable def ref04_Number_j0 (m : Nat) (x0 : ByteArray) : Option (Int × Bool) :=
  ref04_Number_j1 m x0 (0 : Int) (0 : Int)
noncomputable def ref04_Number : Nat → ByteArray → Option (Int × Bool)
  | 0, _ => none
  | m + 1, a0 =>
    (bif (decide ((((ByteArray.size a0) : Nat) : Int) < (1 : Int))) then
    some ((0 : Int), Bool.false)
  else
    (bif (decide ((4 : Int) < (((ByteArray.size a0) : Nat) : Int))) then
      some ((0 : Int), Bool.false)
    else
      ((idxS a0 (0 : Int)).bind fun v0 =>
        (bif (v0 == (48 : Int)) then
          (bif (decide ((1 : Int) < (((ByteArray.size a0) : Nat) : Int))) then
            some ((0 : Int), Bool.false)
          else
            ref04_Number_j0 m a0)
        else
          ref04_Number_j0 m a0))))
noncomputable def law04_PathNumbers : Nat → ByteArray → Option (Bool)
  | 0, _ => none
  | m + 1, a0 =>
    ((path_Number m a0).bind fun r0 =>
    ((ref04_Number m a0).bind fun r1 =>
      (bif ((Prod.fst r0) == (Prod.fst r1)) then
        (bif ((Prod.snd r0) == (Prod.snd r1)) then
          ((awakeC).bind fun r2 =>
            some r2)
        else
          some Bool.false)
      else
        some Bool.false)))
noncomputable def ref04_split_j3 (m : Nat) (rec1 : ByteArray → Int → Int → List Dt → Option (List Dt)) (x0 : ByteArray) (x1 : Int) (x2 : Int) (x3 : List Dt) : Option (List Dt) :=
  rec1 x0 x1 (IntKind.wrap IntKind.i64 (x2 + (1 : Int))) x3
noncomputable def ref04_split_j2 (m : Nat) (rec1 : ByteArray → Int → Int → List Dt → Option (List Dt)) (x0 : ByteArray) (x1 : Int) (x2 : Int) (x3 : List Dt) : Option (List Dt) :=
  ((idxS x0 x2).bind fun v0 =>
    (bif (v0 == (46 : Int)) then
      ((cutS x0 x1 x2).bind fun v1 =>
        ((app x3 [(Dt.str v1)]).bind fun v2 =>
          ref04_split_j3 m rec1 x0 (IntKind.wrap IntKind.i64 (x2 + (1 : Int))) x2 v2))
    else
      ref04_split_j3 m rec1 x0 x1 x2 x3))
noncomputable def ref04_split_j4 (m : Nat) (x0 : ByteArray) (x1 : Int) (x2 : List Dt) : Option (List Dt) :=
  ((cutS x0 x1 (((ByteArray.size x0) : Nat) : Int)).bind fun v3 =>
    ((app x2 [(Dt.str v3)]).bind fun v4 =>
      some v4))
noncomputable def ref04_split_l1 (m : Nat) : Nat → ByteArray → Int → Int → List Dt → Option (List Dt)
  | 0, _, _, _, _ => none
  | M1 + 1, x0, x1, x2, x3 =>
    (bif (decide (x2 < (((ByteArray.size x0) : Nat) : Int))) then
    ref04_split_j2 m (ref04_split_l1 m M1) x0 x1 x2 x3
  else
    ref04_split_j4 m x0 x1 x3)
noncomputable def ref04_split_j0 (m : Nat) (x0 : ByteArray) (x1 : Int) (x2 : Int) (x3 : List Dt) : Option (List Dt) :=
  ref04_split_l1 m (Nat.succ m) x0 x1 x2 x3
noncomputable def ref04_split : Nat → ByteArray → Option (List Dt)
  | 0, _ => none
  | m + 1, a0 =>
    ref04_split_j0 m a0 (0 : Int) (0 : Int) []
noncomputable def ref04_prefix_j4 (m : Nat) (rec2 : List Dt → List Dt → Int → Option (Bool)) (x0 : List Dt) (x1 : List Dt) (x2 : Int) : Option (Bool) :=
  rec2 x0 x1 (IntKind.wrap IntKind.i64 (x2 + (1 : Int)))
noncomputable def ref04_prefix_j3 (m : Nat) (rec2 : List Dt → List Dt → Int → Option (Bool)) (x0 : List Dt) (x1 : List Dt) (x2 : Int) : Option (Bool) :=
  ((idx x0 x2).bind fun v0 =>
    ((idx x1 x2).bind fun v1 =>
      (bif (Bool.not ((ByteArray.toList (Dt.toStr v0)) == (ByteArray.toList (Dt.toStr v1)))) then
        some Bool.false
      else
        ref04_prefix_j4 m rec2 x0 x1 x2)))
noncomputable def ref04_prefix_j5 (m : Nat) : Option (Bool) :=
  some Bool.true
noncomputable def ref04_prefix_l2 (m : Nat) : Nat → List Dt → List Dt → Int → Option (Bool)
  | 0, _, _, _ => none
  | M2 + 1, x0, x1, x2 =>
    (bif (decide (x2 < (((List.length x0) : Nat) : Int))) then
    ref04_prefix_j3 m (ref04_prefix_l2 m M2) x0 x1 x2
  else
    ref04_prefix_j5 m)
noncomputable def ref04_prefix_j1 (m : Nat) (x0 : List Dt) (x1 : List Dt) (x2 : Int) : Option (Bool) :=
  ref04_prefix_l2 m (Nat.succ m) x0 x1 x2
noncomputable def ref04_prefix_j0 (m : Nat) (x0 : List Dt) (x1 : List Dt) : Option (Bool) :=
  ref04_prefix_j1 m x0 x1 (0 : Int)
noncomputable def ref04_prefix : Nat → List Dt → List Dt → Option (Bool)
  | 0, _, _ => none
  | m + 1, a0, a1 =>
    (bif (decide ((((List.length a1) : Nat) : Int) < (((List.length a0) : Nat) : Int))) then
    some Bool.false
  else
    ref04_prefix_j0 m a0 a1)
noncomputable def ref04_Same : Nat → List Dt → List Dt → Option (Bool)
  | 0, _, _ => none
  | m + 1, a0, a1 =>
    (bif ((((List.length a0) : Nat) : Int) == (((List.length a1) : Nat) : Int)) then
    ((ref04_prefix m a0 a1).bind fun r0 =>
      some r0)
  else
    some Bool.false)
noncomputable def ref04_Overlap : Nat → List Dt → List Dt → Option (Bool)
  | 0, _, _ => none
  | m + 1, a0, a1 =>
    ((ref04_prefix m a0 a1).bind fun r0 =>
    (bif r0 then
      some Bool.true
    else
      ((ref04_prefix m a1 a0).bind fun r1 =>
        some r1)))
noncomputable def path_notName_j4 (m : Nat) (rec2 : ByteArray → Int → Int → Option (Bool)) (x0 : ByteArray) (x1 : Int) (x2 : Int) : Option (Bool) :=
  rec2 x0 x1 (IntKind.wrap IntKind.i64 (x2 + (1 : Int)))
noncomputable def path_notName_j3 (m : Nat) (rec2 : ByteArray → Int → Int → Option (Bool)) (x0 : ByteArray) (x1 : Int) (x2 : Int) : Option (Bool) :=
  ((idxS x0 x2).bind fun v1 =>
    (bif (decide (v1 < (33 : Int))) then
      some Bool.true
    else
      ((idxS x0 x2).bind fun v2 =>
        (bif (decide ((126 : Int) < v2)) then
          some Bool.true
        else
          ((idxS x0 x2).bind fun v3 =>
            (bif (v3 == (46 : Int)) then
              some Bool.true
            else
              path_notName_j4 m rec2 x0 x1 x2))))))
noncomputable def path_notName_j5 (m : Nat) : Option (Bool) :=
  some Bool.false
noncomputable def path_notName_l2 (m : Nat) : Nat → ByteArray → Int → Int → Option (Bool)
  | 0, _, _, _ => none
  | M2 + 1, x0, x1, x2 =>
    (bif (decide (x2 < x1)) then
    path_notName_j3 m (path_notName_l2 m M2) x0 x1 x2
  else
    path_notName_j5 m)
noncomputable def path_notName_j1 (m : Nat) (x0 : ByteArray) (x1 : Int) (x2 : Int) : Option (Bool) :=
  path_notName_l2 m (Nat.succ m) x0 x1 x2
noncomputable def path_notName_j0 (m : Nat) (x0 : ByteArray) : Option (Bool) :=
  path_notName_j1 m x0 (((ByteArray.size x0) : Nat) : Int) (0 : Int)
noncomputable def path_notName : Nat → ByteArray → Option (Bool)
  | 0, _ => none
  | m + 1, a0 =>
    (bif (decide ((((ByteArray.size a0) : Nat) : Int) < (1 : Int))) then
    some Bool.true
  else
    (bif (decide ((32 : Int) < (((ByteArray.size a0) : Nat) : Int))) then
      some Bool.true
    else
      ((idxS a0 (0 : Int)).bind fun v0 =>
        (bif (v0 == (36 : Int)) then
          some Bool.true
        else
          path_notName_j0 m a0))))
noncomputable def slices_IndexFunc_i21_j3 (m : Nat) (rec1 : List Dt → Int → Int → Option (Int)) (x0 : List Dt) (x1 : Int) (x2 : Int) : Option (Int) :=
  rec1 x0 x1 (IntKind.wrap IntKind.i64 (x2 + (1 : Int)))
noncomputable def slices_IndexFunc_i21_j2 (m : Nat) (rec1 : List Dt → Int → Int → Option (Int)) (x0 : List Dt) (x1 : Int) (x2 : Int) : Option (Int) :=
  ((idx x0 x2).bind fun v0 =>
    ((path_notName m (Dt.toStr v0)).bind fun r1 =>
      (bif r1 then
        some x2
      else
        slices_IndexFunc_i21_j3 m rec1 x0 x1 x2)))
noncomputable def slices_IndexFunc_i21_j4 (m : Nat) : Option (Int) :=
  some (-1 : Int)
noncomputable def slices_IndexFunc_i21_l1 (m : Nat) : Nat → List Dt → Int → Int → Option (Int)
  | 0, _, _, _ => none
  | M1 + 1, x0, x1, x2 =>
    (bif (decide (x2 < x1)) then
    slices_IndexFunc_i21_j2 m (slices_IndexFunc_i21_l1 m M1) x0 x1 x2
  else
    slices_IndexFunc_i21_j4 m)
noncomputable def slices_IndexFunc_i21_j0 (m : Nat) (x0 : List Dt) (x1 : Int) (x2 : Int) : Option (Int) :=
  slices_IndexFunc_i21_l1 m (Nat.succ m) x0 x1 x2
noncomputable def slices_IndexFunc_i21 : Nat → List Dt → Option (Int)
  | 0, _ => none
  | m + 1, a0 =>
    slices_IndexFunc_i21_j0 m a0 (((List.length a0) : Nat) : Int) (0 : Int)
noncomputable def slices_ContainsFunc_i20 : Nat → List Dt → Option (Bool)
  | 0, _ => none
  | m + 1, a0 =>
    ((slices_IndexFunc_i21 m a0).bind fun r0 =>
    some (decide ((0 : Int) ≤ r0)))
noncomputable def path_Valid : Nat → List Dt → Option (Bool)
  | 0, _ => none
  | m + 1, a0 =>
    (bif (decide ((1 : Int) ≤ (((List.length a0) : Nat) : Int))) then
    (bif (decide ((((List.length a0) : Nat) : Int) ≤ (16 : Int))) then
      ((slices_ContainsFunc_i20 m a0).bind fun r0 =>
        some (Bool.not r0))
    else
      some Bool.false)
  else
    some Bool.false)
noncomputable def path_Parse_j0 (m : Nat) (x0 : List Dt) : Option (List Dt × Int) :=
  some (x0, (0 : Int))
noncomputable def path_Parse : Nat → ByteArray → Option (List Dt × Int)
  | 0, _ => none
  | m + 1, a0 =>
    ((strings_Split a0 (Dt.toStr (Dt.str (ByteArray.mk (List.toArray [(46 : UInt8)]))))).bind fun r0 =>
    ((path_Valid m r0).bind fun r1 =>
      (bif (Bool.not r1) then
        some ([], (10 : Int))
      else
        path_Parse_j0 m r0)))
noncomputable def ref01_Name_j4 (m : Nat) (rec2 : ByteArray → Int → Option (Bool)) (x0 : ByteArray) (x1 : Int) : Option (Bool) :=
  rec2 x0 (IntKind.wrap IntKind.i64 (x1 + (1 : Int)))
noncomputable def ref01_Name_j3 (m : Nat) (rec2 : ByteArray → Int → Option (Bool)) (x0 : ByteArray) (x1 : Int) : Option (Bool) :=
  ((idxS x0 x1).bind fun v1 =>
    (bif (decide (v1 < (33 : Int))) then
      some Bool.false
    else
      ((idxS x0 x1).bind fun v2 =>
        (bif (decide ((126 : Int) < v2)) then
          some Bool.false
        else
          ((idxS x0 x1).bind fun v3 =>
            (bif (v3 == (46 : Int)) then
              some Bool.false
            else
              ref01_Name_j4 m rec2 x0 x1))))))
noncomputable def ref01_Name_j5 (m : Nat) : Option (Bool) :=
  some Bool.true
noncomputable def ref01_Name_l2 (m : Nat) : Nat → ByteArray → Int → Option (Bool)
  | 0, _, _ => none
  | M2 + 1, x0, x1 =>
    (bif (decide (x1 < (((ByteArray.size x0) : Nat) : Int))) then
    ref01_Name_j3 m (ref01_Name_l2 m M2) x0 x1
  else
    ref01_Name_j5 m)
noncomputable def ref01_Name_j1 (m : Nat) (x0 : ByteArray) (x1 : Int) : Option (Bool) :=
  ref01_Name_l2 m (Nat.succ m) x0 x1
noncomputable def ref01_Name_j0 (m : Nat) (x0 : ByteArray) : Option (Bool) :=
  ref01_Name_j1 m x0 (0 : Int)
noncomputable def ref01_Name : Nat → ByteArray → Option (Bool)
  | 0, _ => none
  | m + 1, a0 =>
    (bif (decide ((((ByteArray.size a0) : Nat) : Int) < (1 : Int))) then
    some Bool.false
  else
    (bif (decide ((32 : Int) < (((ByteArray.size a0) : Nat) : Int))) then
      some Bool.false
    else
      ((idxS a0 (0 : Int)).bind fun v0 =>
        (bif (v0 == (36 : Int)) then
          some Bool.false
        else
          ref01_Name_j0 m a0))))
noncomputable def ref04_Valid_j4 (m : Nat) (rec2 : List Dt → Int → Option (Bool)) (x0 : List Dt) (x1 : Int) : Option (Bool) :=
  rec2 x0 (IntKind.wrap IntKind.i64 (x1 + (1 : Int)))
noncomputable def ref04_Valid_j3 (m : Nat) (rec2 : List Dt → Int → Option (Bool)) (x0 : List Dt) (x1 : Int) : Option (Bool) :=
  ((idx x0 x1).bind fun v0 =>
    ((ref01_Name m (Dt.toStr v0)).bind fun r1 =>
      (bif (Bool.not r1) then
        some Bool.false
      else
        ref04_Valid_j4 m rec2 x0 x1)))
noncomputable def ref04_Valid_j5 (m : Nat) : Option (Bool) :=
  some Bool.true
noncomputable def ref04_Valid_l2 (m : Nat) : Nat → List Dt → Int → Option (Bool)
  | 0, _, _ => none
  | M2 + 1, x0, x1 =>
    (bif (decide (x1 < (((List.length x0) : Nat) : Int))) then
    ref04_Valid_j3 m (ref04_Valid_l2 m M2) x0 x1
  else
    ref04_Valid_j5 m)
noncomputable def ref04_Valid_j1 (m : Nat) (x0 : List Dt) (x1 : Int) : Option (Bool) :=
  ref04_Valid_l2 m (Nat.succ m) x0 x1
noncomputable def ref04_Valid_j0 (m : Nat) (x0 : List Dt) : Option (Bool) :=
  ref04_Valid_j1 m x0 (0 : Int)
noncomputable def ref04_Valid : Nat → List Dt → Option (Bool)
  | 0, _ => none
  | m + 1, a0 =>
    (bif (decide ((((List.length a0) : Nat) : Int) < (1 : Int))) then
    some Bool.false
  else
    (bif (decide ((16 : Int) < (((List.length a0) : Nat) : Int))) then
      some Bool.false
    else
      ref04_Valid_j0 m a0))
noncomputable def law04_PathTexts_j4 (m : Nat) (rec2 : List Dt → List Dt → Int → Int → Option (Bool)) (x0 : List Dt) (x1 : List Dt) (x2 : Int) (x3 : Int) : Option (Bool) :=
  rec2 x0 x1 x2 (IntKind.wrap IntKind.i64 (x3 + (1 : Int)))
noncomputable def law04_PathTexts_j3 (m : Nat) (rec2 : List Dt → List Dt → Int → Int → Option (Bool)) (x0 : List Dt) (x1 : List Dt) (x2 : Int) (x3 : Int) : Option (Bool) :=
  ((idx x1 x3).bind fun v1 =>
    (bif (decide ((100 : Int) < (((ByteArray.size (Dt.toStr v1)) : Nat) : Int))) then
      ((awakeC).bind fun r2 =>
        some r2)
    else
      law04_PathTexts_j4 m rec2 x0 x1 x2 x3))
noncomputable def law04_PathTexts_j7 (m : Nat) : Option (Bool) :=
  ((awakeC).bind fun r10 =>
    some r10)
noncomputable def law04_PathTexts_j6 (m : Nat) (x0 : List Dt) (x1 : Bool) : Option (Bool) :=
  (bif x1 then
    ((path_Text m x0).bind fun r7 =>
      ((path_Parse m r7).bind fun r8 =>
        (bif ((Prod.snd r8) != (0 : Int)) then
          some Bool.false
        else
          ((ref04_Same m x0 (Prod.fst r8)).bind fun r9 =>
            (bif (Bool.not r9) then
              some Bool.false
            else
              law04_PathTexts_j7 m)))))
  else
    law04_PathTexts_j7 m)
noncomputable def law04_PathTexts_j5 (m : Nat) (x0 : List Dt) : Option (Bool) :=
  ((ref04_Valid m x0).bind fun r3 =>
    ((path_Text m x0).bind fun r4 =>
      ((ref04_Text m x0).bind fun r5 =>
        (bif (Bool.not ((ByteArray.toList r4) == (ByteArray.toList r5))) then
          some Bool.false
        else
          ((path_Valid m x0).bind fun r6 =>
            (bif (Bool.not (r6 == r3)) then
              some Bool.false
            else
              law04_PathTexts_j6 m x0 r3))))))
noncomputable def law04_PathTexts_l2 (m : Nat) : Nat → List Dt → List Dt → Int → Int → Option (Bool)
  | 0, _, _, _, _ => none
  | M2 + 1, x0, x1, x2, x3 =>
    (bif (decide (x3 < x2)) then
    law04_PathTexts_j3 m (law04_PathTexts_l2 m M2) x0 x1 x2 x3
  else
    law04_PathTexts_j5 m x0)
noncomputable def law04_PathTexts_j1 (m : Nat) (x0 : List Dt) (x1 : List Dt) (x2 : Int) (x3 : Int) : Option (Bool) :=
  law04_PathTexts_l2 m (Nat.succ m) x0 x1 x2 x3
noncomputable def law04_PathTexts_j0 (m : Nat) (x0 : List Dt) : Option (Bool) :=
  law04_PathTexts_j1 m x0 x0 (((List.length x0) : Nat) : Int) (0 : Int)
noncomputable def law04_PathTexts : Nat → List Dt → Option (Bool)
  | 0, _ => none
  | m + 1, a0 =>
    (bif (decide ((100 : Int) < (((List.length a0) : Nat) : Int))) then
    ((awakeC).bind fun r0 =>
      some r0)
  else
    law04_PathTexts_j0 m a0)
noncomputable def ref04_Parse_j0 (m : Nat) (x0 : List Dt) : Option (List Dt × Int) :=
  some (x0, (0 : Int))
noncomputable def ref04_Parse : Nat → ByteArray → Option (List Dt × Int)
  | 0, _ => none
  | m + 1, a0 =>
    ((ref04_split m a0).bind fun r0 =>
    ((ref04_Valid m r0).bind fun r1 =>
      (bif (Bool.not r1) then
        some ([], (10 : Int))
      else
        ref04_Parse_j0 m r0)))
noncomputable def law04_PathParses_j1 (m : Nat) : Option (Bool) :=
  ((awakeC).bind fun r6 =>
    some r6)
noncomputable def law04_PathParses_j0 (m : Nat) (x0 : ByteArray) : Option (Bool) :=
  ((path_Parse m x0).bind fun r1 =>
    ((ref04_Parse m x0).bind fun r2 =>
      (bif ((Prod.snd r1) != (Prod.snd r2)) then
        some Bool.false
      else
        ((ref04_Same m (Prod.fst r1) (Prod.fst r2)).bind fun r3 =>
          (bif (Bool.not r3) then
            some Bool.false
          else
            (bif ((Prod.snd r1) == (0 : Int)) then
              ((path_Text m (Prod.fst r1)).bind fun r4 =>
                (bif (Bool.not ((ByteArray.toList r4) == (ByteArray.toList x0))) then
                  some Bool.false
                else
                  ((path_Valid m (Prod.fst r1)).bind fun r5 =>
                    (bif (Bool.not r5) then
                      some Bool.false
                    else
                      law04_PathParses_j1 m))))
            else
              law04_PathParses_j1 m))))))
noncomputable def law04_PathParses : Nat → ByteArray → Option (Bool)
  | 0, _ => none
  | m + 1, a0 =>
    (bif (decide ((2000 : Int) < (((ByteArray.size a0) : Nat) : Int))) then
    ((awakeC).bind fun r0 =>
      some r0)
  else
    law04_PathParses_j0 m a0)
noncomputable def slices_Equal_j4 (m : Nat) (rec2 : List Dt → List Dt → Int → Int → Option (Bool)) (x0 : List Dt) (x1 : List Dt) (x2 : Int) (x3 : Int) : Option (Bool) :=
  rec2 x0 x1 x2 (IntKind.wrap IntKind.i64 (x3 + (1 : Int)))
noncomputable def slices_Equal_j3 (m : Nat) (rec2 : List Dt → List Dt → Int → Int → Option (Bool)) (x0 : List Dt) (x1 : List Dt) (x2 : Int) (x3 : Int) : Option (Bool) :=
  ((idx x0 x3).bind fun v0 =>
    ((idx x1 x3).bind fun v1 =>
      (bif (Bool.not ((ByteArray.toList (Dt.toStr v0)) == (ByteArray.toList (Dt.toStr v1)))) then
        some Bool.false
      else
        slices_Equal_j4 m rec2 x0 x1 x2 x3)))
noncomputable def slices_Equal_j5 (m : Nat) : Option (Bool) :=
  some Bool.true
noncomputable def slices_Equal_l2 (m : Nat) : Nat → List Dt → List Dt → Int → Int → Option (Bool)
  | 0, _, _, _, _ => none
  | M2 + 1, x0, x1, x2, x3 =>
    (bif (decide (x3 < x2)) then
    slices_Equal_j3 m (slices_Equal_l2 m M2) x0 x1 x2 x3
  else
    slices_Equal_j5 m)
noncomputable def slices_Equal_j1 (m : Nat) (x0 : List Dt) (x1 : List Dt) (x2 : Int) (x3 : Int) : Option (Bool) :=
  slices_Equal_l2 m (Nat.succ m) x0 x1 x2 x3
noncomputable def slices_Equal_j0 (m : Nat) (x0 : List Dt) (x1 : List Dt) : Option (Bool) :=
  slices_Equal_j1 m x0 x1 (((List.length x0) : Nat) : Int) (0 : Int)
noncomputable def slices_Equal : Nat → List Dt → List Dt → Option (Bool)
  | 0, _, _ => none
  | m + 1, a0, a1 =>
    (bif ((((List.length a0) : Nat) : Int) != (((List.length a1) : Nat) : Int)) then
    some Bool.false
  else
    slices_Equal_j0 m a0 a1)
noncomputable def path_Overlap : Nat → List Dt → List Dt → Option (Bool)
  | 0, _, _ => none
  | m + 1, a0, a1 =>
    ((cutL a0 (0 : Int) (bif (decide ((((List.length a1) : Nat) : Int) < (((List.length a0) : Nat) : Int))) then (((List.length a1) : Nat) : Int) else (((List.length a0) : Nat) : Int))).bind fun v0 =>
    ((cutL a1 (0 : Int) (bif (decide ((((List.length a1) : Nat) : Int) < (((List.length a0) : Nat) : Int))) then (((List.length a1) : Nat) : Int) else (((List.length a0) : Nat) : Int))).bind fun v1 =>
      ((slices_Equal m v0 v1).bind fun r2 =>
        some r2)))
noncomputable def law04_PathOverlaps_j2 (m : Nat) (x0 : List Dt) (x1 : Int) : Option (Bool) :=
  ((cutL x0 (0 : Int) x1).bind fun v5 =>
    ((path_Overlap m x0 v5).bind fun r6 =>
      (bif r6 then
        ((cutL x0 (0 : Int) x1).bind fun v7 =>
          ((path_Overlap m v7 x0).bind fun r8 =>
            (bif r8 then
              ((awakeC).bind fun r9 =>
                some r9)
            else
              some Bool.false)))
      else
        some Bool.false)))
noncomputable def law04_PathOverlaps_j1 (m : Nat) (x0 : List Dt) (x1 : Int) : Option (Bool) :=
  (bif (decide (x1 < (0 : Int))) then
    law04_PathOverlaps_j2 m x0 (((List.length x0) : Nat) : Int)
  else
    (bif (decide ((((List.length x0) : Nat) : Int) < x1)) then
      law04_PathOverlaps_j2 m x0 (((List.length x0) : Nat) : Int)
    else
      law04_PathOverlaps_j2 m x0 x1))
noncomputable def law04_PathOverlaps_j0 (m : Nat) (x0 : List Dt) (x1 : List Dt) (x2 : Int) : Option (Bool) :=
  ((path_Overlap m x0 x1).bind fun r2 =>
    ((path_Overlap m x1 x0).bind fun r3 =>
      (bif (Bool.not (r2 == r3)) then
        some Bool.false
      else
        ((ref04_Overlap m x0 x1).bind fun r4 =>
          (bif (Bool.not (r2 == r4)) then
            some Bool.false
          else
            law04_PathOverlaps_j1 m x0 x2)))))
noncomputable def law04_PathOverlaps : Nat → List Dt → List Dt → Int → Option (Bool)
  | 0, _, _, _ => none
  | m + 1, a0, a1, a2 =>
    (bif (decide ((100 : Int) < (((List.length a0) : Nat) : Int))) then
    ((awakeC).bind fun r0 =>
      some r0)
  else
    (bif (decide ((100 : Int) < (((List.length a1) : Nat) : Int))) then
      ((awakeC).bind fun r1 =>
        some r1)
    else
      law04_PathOverlaps_j0 m a0 a1 a2))
end Go.Proofs.YtmjnmiahblaanaaDoor
