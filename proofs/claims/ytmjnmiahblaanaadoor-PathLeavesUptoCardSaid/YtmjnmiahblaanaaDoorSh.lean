/- Generated: what the Go functions compute, over plain data. -/
import Derived.Test.YtmjnmiahblaanaaDoorAm20
import Derived.Test.YtmjnmiahblaanaaDoorOAwake
set_option linter.unusedVariables false
set_option linter.unusedSimpArgs false
namespace Go.Proofs.YtmjnmiahblaanaaDoor
open Go.Am
noncomputable def path_Text : Nat → List Dt → Option (ByteArray)
  | 0, _ => none
  | m + 1, a0 =>
    ((strings_Join a0 (ByteArray.mk (List.toArray [(46 : UInt8)]))).bind fun r0 =>
    some r0)
noncomputable def ref04_Text_j4 (m : Nat) (rec1 : List Dt → ByteArray → Int → Option (ByteArray)) (x0 : List Dt) (x1 : ByteArray) (x2 : Int) : Option (ByteArray) :=
  rec1 x0 x1 (IntKind.wrap IntKind.i64 (x2 + (1 : Int)))
noncomputable def ref04_Text_j3 (m : Nat) (rec1 : List Dt → ByteArray → Int → Option (ByteArray)) (x0 : List Dt) (x1 : ByteArray) (x2 : Int) : Option (ByteArray) :=
  ((idx x0 x2).bind fun v0 =>
    (bif (Nat.ble ((ByteArray.size x1) + (ByteArray.size (Dt.toStr v0))) 1152921504606846976) then
      ref04_Text_j4 m rec1 x0 (x1 ++ (Dt.toStr v0)) x2
    else
      none))
noncomputable def ref04_Text_j2 (m : Nat) (rec1 : List Dt → ByteArray → Int → Option (ByteArray)) (x0 : List Dt) (x1 : ByteArray) (x2 : Int) : Option (ByteArray) :=
  (bif (decide ((0 : Int) < x2)) then
    (bif (Nat.ble ((ByteArray.size x1) + 1) 1152921504606846976) then
      ref04_Text_j3 m rec1 x0 (x1 ++ (ByteArray.mk (List.toArray [(46 : UInt8)]))) x2
    else
      none)
  else
    ref04_Text_j3 m rec1 x0 x1 x2)
noncomputable def ref04_Text_j5 (m : Nat) (x0 : ByteArray) : Option (ByteArray) :=
  some x0
noncomputable def ref04_Text_l1 (m : Nat) : Nat → List Dt → ByteArray → Int → Option (ByteArray)
  | 0, _, _, _ => none
  | M1 + 1, x0, x1, x2 =>
    (bif (decide (x2 < (((List.length x0) : Nat) : Int))) then
    ref04_Text_j2 m (ref04_Text_l1 m M1) x0 x1 x2
  else
    ref04_Text_j5 m x1)
noncomputable def ref04_Text_j0 (m : Nat) (x0 : List Dt) (x1 : ByteArray) (x2 : Int) : Option (ByteArray) :=
  ref04_Text_l1 m (Nat.succ m) x0 x1 x2
noncomputable def ref04_Text : Nat → List Dt → Option (ByteArray)
  | 0, _ => none
  | m + 1, a0 =>
    ref04_Text_j0 m a0 (ByteArray.mk (List.toArray [])) (0 : Int)
noncomputable def path_Number_j5 (m : Nat) (rec2 : ByteArray → Int → Int → Int → Option (Int × Bool)) (x0 : ByteArray) (x1 : Int) (x2 : Int) (x3 : Int) : Option (Int × Bool) :=
  rec2 x0 x1 x2 (IntKind.wrap IntKind.i64 (x3 + (1 : Int)))
noncomputable def path_Number_j4 (m : Nat) (rec2 : ByteArray → Int → Int → Int → Option (Int × Bool)) (x0 : ByteArray) (x1 : Int) (x2 : Int) (x3 : Int) (x4 : Int) : Option (Int × Bool) :=
  ((idxS x0 x2).bind fun v3 =>
    path_Number_j5 m rec2 x0 (IntKind.wrap IntKind.i64 ((IntKind.wrap IntKind.i64 ((10 : Int) * x1)) + (IntKind.wrap IntKind.i64 (IntKind.wrap IntKind.u8 (v3 - (48 : Int)))))) x3 x4)
noncomputable def path_Number_j3 (m : Nat) (rec2 : ByteArray → Int → Int → Int → Option (Int × Bool)) (x0 : ByteArray) (x1 : Int) (x2 : Int) (x3 : Int) : Option (Int × Bool) :=
  ((idxS x0 x3).bind fun v1 =>
    (bif (decide (v1 < (48 : Int))) then
      some ((0 : Int), Bool.false)
    else
      ((idxS x0 x3).bind fun v2 =>
        (bif (decide ((57 : Int) < v2)) then
          some ((0 : Int), Bool.false)
        else
          path_Number_j4 m rec2 x0 x1 x3 x2 x3))))
noncomputable def path_Number_j6 (m : Nat) (x0 : Int) : Option (Int × Bool) :=
  some (x0, Bool.true)
noncomputable def path_Number_l2 (m : Nat) : Nat → ByteArray → Int → Int → Int → Option (Int × Bool)
  | 0, _, _, _, _ => none
  | M2 + 1, x0, x1, x2, x3 =>
    (bif (decide (x3 < x2)) then
    path_Number_j3 m (path_Number_l2 m M2) x0 x1 x2 x3
  else
    path_Number_j6 m x1)
noncomputable def path_Number_j1 (m : Nat) (x0 : ByteArray) (x1 : Int) (x2 : Int) (x3 : Int) : Option (Int × Bool) :=
  path_Number_l2 m (Nat.succ m) x0 x1 x2 x3
noncomputable def path_Number_j0 (m : Nat) (x0 : ByteArray) : Option (Int × Bool) :=
  path_Number_j1 m x0 (0 : Int) (((ByteArray.size x0) : Nat) : Int) (0 : Int)
noncomputable def path_Number : Nat → ByteArray → Option (Int × Bool)
  | 0, _ => none
  | m + 1, a0 =>
    (bif (decide ((((ByteArray.size a0) : Nat) : Int) < (1 : Int))) then
    some ((0 : Int), Bool.false)
  else
    (bif (decide ((4 : Int) < (((ByteArray.size a0) : Nat) : Int))) then
      some ((0 : Int), Bool.false)
    else
      ((idxS a0 (0 : Int)).bind fun v0 =>
        (bif (v0 == (48 : Int)) then
          (bif (decide ((1 : Int) < (((ByteArray.size a0) : Nat) : Int))) then
            some ((0 : Int), Bool.false)
          else
            path_Number_j0 m a0)
        else
          path_Number_j0 m a0))))
noncomputable def ref04_Number_j5 (m : Nat) (rec2 : ByteArray → Int → Int → Option (Int × Bool)) (x0 : ByteArray) (x1 : Int) (x2 : Int) : Option (Int × Bool) :=
  rec2 x0 x1 (IntKind.wrap IntKind.i64 (x2 + (1 : Int)))
noncomputable def ref04_Number_j4 (m : Nat) (rec2 : ByteArray → Int → Int → Option (Int × Bool)) (x0 : ByteArray) (x1 : Int) (x2 : Int) : Option (Int × Bool) :=
  ((idxS x0 x2).bind fun v3 =>
    ref04_Number_j5 m rec2 x0 (IntKind.wrap IntKind.i64 ((IntKind.wrap IntKind.i64 (x1 * (10 : Int))) + (IntKind.wrap IntKind.i64 (IntKind.wrap IntKind.u8 (v3 - (48 : Int)))))) x2)
noncomputable def ref04_Number_j3 (m : Nat) (rec2 : ByteArray → Int → Int → Option (Int × Bool)) (x0 : ByteArray) (x1 : Int) (x2 : Int) : Option (Int × Bool) :=
  ((idxS x0 x2).bind fun v1 =>
    (bif (decide (v1 < (48 : Int))) then
      some ((0 : Int), Bool.false)
    else
      ((idxS x0 x2).bind fun v2 =>
        (bif (decide ((57 : Int) < v2)) then
          some ((0 : Int), Bool.false)
        else
          ref04_Number_j4 m rec2 x0 x1 x2))))
noncomputable def ref04_Number_j6 (m : Nat) (x0 : Int) : Option (Int × Bool) :=
  some (x0, Bool.true)
noncomputable def ref04_Number_l2 (m : Nat) : Nat → ByteArray → Int → Int → Option (Int × Bool)
  | 0, _, _, _ => none
  | M2 + 1, x0, x1, x2 =>
    (bif (decide (x2 < (((ByteArray.size x0) : Nat) : Int))) then
    ref04_Number_j3 m (ref04_Number_l2 m M2) x0 x1 x2
  else
    ref04_Number_j6 m x1)
noncomputable def ref04_Number_j1 (m : Nat) (x0 : ByteArray) (x1 : Int) (x2 : Int) : Option (Int × Bool) :=
  ref04_Number_l2 m (Nat.succ m) x0 x1 x2
noncomputable def ref04_Number_j0 (m : Nat) (x0 : ByteArray) : Option (Int × Bool) :=
  ref04_Number_j1 m x0 (0 : Int) (0 : Int)
noncomputable def ref04_Number : Nat → ByteArray → Option (Int × Bool)
  | 0, _ => none
  | m + 1, a0 =>
    (bif (decide ((((ByteArray.size a0) : Nat) : Int) < (1 : Int))) then
    some ((0 : Int), Bool.false)
  else
    (bif (decide ((4 : Int) < (((ByteArray.size a0) : Nat) : Int))) then
      some ((0 : Int), Bool.false)
    else
      ((idxS a0 (0 : Int)).bind fun v0 =>
        (bif (v0 == (48 : Int)) then
          (bif (decide ((1 : Int) < (((ByteArray.size a0) : Nat) : Int))) then
            some ((0 : Int), Bool.false)
          else
            ref04_Number_j0 m a0)
        else
          ref04_Number_j0 m a0))))
noncomputable def law04_PathNumbers : Nat → ByteArray → Option (Bool)
  | 0, _ => none
  | m + 1, a0 =>
    ((path_Number m a0).bind fun r0 =>
    ((ref04_Number m a0).bind fun r1 =>
      (bif ((Prod.fst r0) == (Prod.fst r1)) then
        (bif ((Prod.snd r0) == (Prod.snd r1)) then
          ((awakeC).bind fun r2 =>
            some r2)
        else
          some Bool.false)
      else
        some Bool.false)))
noncomputable def ref01_Same_j4 (m : Nat) (self24 : Dt → Dt → Option (Bool)) (rec2 : Int → Dt → Dt → Option (Bool)) (x0 : Int) (x1 : Dt) (x2 : Dt) : Option (Bool) :=
  rec2 (IntKind.wrap IntKind.i64 (x0 + (1 : Int))) x1 x2
noncomputable def ref01_Same_j3 (m : Nat) (self24 : Dt → Dt → Option (Bool)) (rec2 : Int → Dt → Dt → Option (Bool)) (x0 : Int) (x1 : Dt) (x2 : Dt) : Option (Bool) :=
  ((idx (Dt.L x1 3) x0).bind fun v0 =>
    ((idx (Dt.L x2 3) x0).bind fun v1 =>
      ((self24 v0 v1).bind fun r2 =>
        (bif (Bool.not r2) then
          some Bool.false
        else
          ref01_Same_j4 m self24 rec2 x0 x1 x2))))
noncomputable def ref01_Same_j9 (m : Nat) (self24 : Dt → Dt → Option (Bool)) (rec7 : Int → Dt → Dt → Option (Bool)) (x0 : Int) (x1 : Dt) (x2 : Dt) : Option (Bool) :=
  rec7 (IntKind.wrap IntKind.i64 (x0 + (1 : Int))) x1 x2
noncomputable def ref01_Same_j8 (m : Nat) (self24 : Dt → Dt → Option (Bool)) (rec7 : Int → Dt → Dt → Option (Bool)) (x0 : Int) (x1 : Dt) (x2 : Dt) : Option (Bool) :=
  ((idx (Dt.L x1 4) x0).bind fun v3 =>
    ((idx (Dt.L x2 4) x0).bind fun v4 =>
      (bif (Bool.not ((ByteArray.toList (Dt.S v3 0)) == (ByteArray.toList (Dt.S v4 0)))) then
        some Bool.false
      else
        ((idx (Dt.L x1 4) x0).bind fun v5 =>
          ((idx (Dt.L x2 4) x0).bind fun v6 =>
            ((self24 (Dt.fld v5 1) (Dt.fld v6 1)).bind fun r7 =>
              (bif (Bool.not r7) then
                some Bool.false
              else
                ref01_Same_j9 m self24 rec7 x0 x1 x2)))))))
noncomputable def ref01_Same_j10 (m : Nat) (self24 : Dt → Dt → Option (Bool)) : Option (Bool) :=
  some Bool.true
noncomputable def ref01_Same_l7 (m : Nat) (self24 : Dt → Dt → Option (Bool)) : Nat → Int → Dt → Dt → Option (Bool)
  | 0, _, _, _ => none
  | M7 + 1, x0, x1, x2 =>
    (bif (decide (x0 < (((List.length (Dt.L x1 4)) : Nat) : Int))) then
    ref01_Same_j8 m self24 (ref01_Same_l7 m self24 M7) x0 x1 x2
  else
    ref01_Same_j10 m self24)
noncomputable def ref01_Same_j6 (m : Nat) (self24 : Dt → Dt → Option (Bool)) (x0 : Int) (x1 : Dt) (x2 : Dt) : Option (Bool) :=
  ref01_Same_l7 m self24 (Nat.succ m) x0 x1 x2
noncomputable def ref01_Same_j5 (m : Nat) (self24 : Dt → Dt → Option (Bool)) (x0 : Dt) (x1 : Dt) : Option (Bool) :=
  ref01_Same_j6 m self24 (0 : Int) x0 x1
noncomputable def ref01_Same_l2 (m : Nat) (self24 : Dt → Dt → Option (Bool)) : Nat → Int → Dt → Dt → Option (Bool)
  | 0, _, _, _ => none
  | M2 + 1, x0, x1, x2 =>
    (bif (decide (x0 < (((List.length (Dt.L x1 3)) : Nat) : Int))) then
    ref01_Same_j3 m self24 (ref01_Same_l2 m self24 M2) x0 x1 x2
  else
    ref01_Same_j5 m self24 x1 x2)
noncomputable def ref01_Same_j1 (m : Nat) (self24 : Dt → Dt → Option (Bool)) (x0 : Int) (x1 : Dt) (x2 : Dt) : Option (Bool) :=
  ref01_Same_l2 m self24 (Nat.succ m) x0 x1 x2
noncomputable def ref01_Same_j0 (m : Nat) (self24 : Dt → Dt → Option (Bool)) (x0 : Dt) (x1 : Dt) : Option (Bool) :=
  ref01_Same_j1 m self24 (0 : Int) x0 x1
noncomputable def ref01_Same : Nat → Dt → Dt → Option (Bool)
  | 0, _, _ => none
  | m + 1, a0, a1 =>
    (bif ((Dt.I a0 0) != (Dt.I a1 0)) then
    some Bool.false
  else
    (bif ((Dt.I a0 1) != (Dt.I a1 1)) then
      some Bool.false
    else
      (bif (Bool.not ((ByteArray.toList (Dt.S a0 2)) == (ByteArray.toList (Dt.S a1 2)))) then
        some Bool.false
      else
        (bif ((((List.length (Dt.L a0 3)) : Nat) : Int) != (((List.length (Dt.L a1 3)) : Nat) : Int)) then
          some Bool.false
        else
          (bif ((((List.length (Dt.L a0 4)) : Nat) : Int) != (((List.length (Dt.L a1 4)) : Nat) : Int)) then
            some Bool.false
          else
            ref01_Same_j0 m (ref01_Same m) a0 a1)))))
noncomputable def ref01_SameList : Nat → List Dt → List Dt → Option (Bool)
  | 0, _, _ => none
  | m + 1, a0, a1 =>
    ((ref01_Same m (Dt.agg [(Dt.int (6 : Int)), (Dt.int (0 : Int)), (Dt.str (ByteArray.mk (List.toArray []))), (Dt.lst a0), (Dt.lst [])]) (Dt.agg [(Dt.int (6 : Int)), (Dt.int (0 : Int)), (Dt.str (ByteArray.mk (List.toArray []))), (Dt.lst a1), (Dt.lst [])])).bind fun r0 =>
    some r0)
noncomputable def ref04_split_j3 (m : Nat) (rec1 : ByteArray → Int → Int → List Dt → Option (List Dt)) (x0 : ByteArray) (x1 : Int) (x2 : Int) (x3 : List Dt) : Option (List Dt) :=
  rec1 x0 x1 (IntKind.wrap IntKind.i64 (x2 + (1 : Int))) x3
noncomputable def ref04_split_j2 (m : Nat) (rec1 : ByteArray → Int → Int → List Dt → Option (List Dt)) (x0 : ByteArray) (x1 : Int) (x2 : Int) (x3 : List Dt) : Option (List Dt) :=
  ((idxS x0 x2).bind fun v0 =>
    (bif (v0 == (46 : Int)) then
      ((cutS x0 x1 x2).bind fun v1 =>
        ((app x3 [(Dt.str v1)]).bind fun v2 =>
          ref04_split_j3 m rec1 x0 (IntKind.wrap IntKind.i64 (x2 + (1 : Int))) x2 v2))
    else
      ref04_split_j3 m rec1 x0 x1 x2 x3))
noncomputable def ref04_split_j4 (m : Nat) (x0 : ByteArray) (x1 : Int) (x2 : List Dt) : Option (List Dt) :=
  ((cutS x0 x1 (((ByteArray.size x0) : Nat) : Int)).bind fun v3 =>
    ((app x2 [(Dt.str v3)]).bind fun v4 =>
      some v4))
noncomputable def ref04_split_l1 (m : Nat) : Nat → ByteArray → Int → Int → List Dt → Option (List Dt)
  | 0, _, _, _, _ => none
  | M1 + 1, x0, x1, x2, x3 =>
    (bif (decide (x2 < (((ByteArray.size x0) : Nat) : Int))) then
    ref04_split_j2 m (ref04_split_l1 m M1) x0 x1 x2 x3
  else
    ref04_split_j4 m x0 x1 x3)
noncomputable def ref04_split_j0 (m : Nat) (x0 : ByteArray) (x1 : Int) (x2 : Int) (x3 : List Dt) : Option (List Dt) :=
  ref04_split_l1 m (Nat.succ m) x0 x1 x2 x3
noncomputable def ref04_split : Nat → ByteArray → Option (List Dt)
  | 0, _ => none
  | m + 1, a0 =>
    ref04_split_j0 m a0 (0 : Int) (0 : Int) []
noncomputable def ref04_prefix_j4 (m : Nat) (rec2 : List Dt → List Dt → Int → Option (Bool)) (x0 : List Dt) (x1 : List Dt) (x2 : Int) : Option (Bool) :=
  rec2 x0 x1 (IntKind.wrap IntKind.i64 (x2 + (1 : Int)))
noncomputable def ref04_prefix_j3 (m : Nat) (rec2 : List Dt → List Dt → Int → Option (Bool)) (x0 : List Dt) (x1 : List Dt) (x2 : Int) : Option (Bool) :=
  ((idx x0 x2).bind fun v0 =>
    ((idx x1 x2).bind fun v1 =>
      (bif (Bool.not ((ByteArray.toList (Dt.toStr v0)) == (ByteArray.toList (Dt.toStr v1)))) then
        some Bool.false
      else
        ref04_prefix_j4 m rec2 x0 x1 x2)))
noncomputable def ref04_prefix_j5 (m : Nat) : Option (Bool) :=
  some Bool.true
noncomputable def ref04_prefix_l2 (m : Nat) : Nat → List Dt → List Dt → Int → Option (Bool)
  | 0, _, _, _ => none
  | M2 + 1, x0, x1, x2 =>
    (bif (decide (x2 < (((List.length x0) : Nat) : Int))) then
    ref04_prefix_j3 m (ref04_prefix_l2 m M2) x0 x1 x2
  else
    ref04_prefix_j5 m)
noncomputable def ref04_prefix_j1 (m : Nat) (x0 : List Dt) (x1 : List Dt) (x2 : Int) : Option (Bool) :=
  ref04_prefix_l2 m (Nat.succ m) x0 x1 x2
noncomputable def ref04_prefix_j0 (m : Nat) (x0 : List Dt) (x1 : List Dt) : Option (Bool) :=
  ref04_prefix_j1 m x0 x1 (0 : Int)
noncomputable def ref04_prefix : Nat → List Dt → List Dt → Option (Bool)
  | 0, _, _ => none
  | m + 1, a0, a1 =>
    (bif (decide ((((List.length a1) : Nat) : Int) < (((List.length a0) : Nat) : Int))) then
    some Bool.false
  else
    ref04_prefix_j0 m a0 a1)
noncomputable def ref04_Same : Nat → List Dt → List Dt → Option (Bool)
  | 0, _, _ => none
  | m + 1, a0, a1 =>
    (bif ((((List.length a0) : Nat) : Int) == (((List.length a1) : Nat) : Int)) then
    ((ref04_prefix m a0 a1).bind fun r0 =>
      some r0)
  else
    some Bool.false)
noncomputable def ref04_Overlap : Nat → List Dt → List Dt → Option (Bool)
  | 0, _, _ => none
  | m + 1, a0, a1 =>
    ((ref04_prefix m a0 a1).bind fun r0 =>
    (bif r0 then
      some Bool.true
    else
      ((ref04_prefix m a1 a0).bind fun r1 =>
        some r1)))
noncomputable def path_notName_j4 (m : Nat) (rec2 : ByteArray → Int → Int → Option (Bool)) (x0 : ByteArray) (x1 : Int) (x2 : Int) : Option (Bool) :=
  rec2 x0 x1 (IntKind.wrap IntKind.i64 (x2 + (1 : Int)))
noncomputable def path_notName_j3 (m : Nat) (rec2 : ByteArray → Int → Int → Option (Bool)) (x0 : ByteArray) (x1 : Int) (x2 : Int) : Option (Bool) :=
  ((idxS x0 x2).bind fun v1 =>
    (bif (decide (v1 < (33 : Int))) then
      some Bool.true
    else
      ((idxS x0 x2).bind fun v2 =>
        (bif (decide ((126 : Int) < v2)) then
          some Bool.true
        else
          ((idxS x0 x2).bind fun v3 =>
            (bif (v3 == (46 : Int)) then
              some Bool.true
            else
              path_notName_j4 m rec2 x0 x1 x2))))))
noncomputable def path_notName_j5 (m : Nat) : Option (Bool) :=
  some Bool.false
noncomputable def path_notName_l2 (m : Nat) : Nat → ByteArray → Int → Int → Option (Bool)
  | 0, _, _, _ => none
  | M2 + 1, x0, x1, x2 =>
    (bif (decide (x2 < x1)) then
    path_notName_j3 m (path_notName_l2 m M2) x0 x1 x2
  else
    path_notName_j5 m)
noncomputable def path_notName_j1 (m : Nat) (x0 : ByteArray) (x1 : Int) (x2 : Int) : Option (Bool) :=
  path_notName_l2 m (Nat.succ m) x0 x1 x2
noncomputable def path_notName_j0 (m : Nat) (x0 : ByteArray) : Option (Bool) :=
  path_notName_j1 m x0 (((ByteArray.size x0) : Nat) : Int) (0 : Int)
noncomputable def path_notName : Nat → ByteArray → Option (Bool)
  | 0, _ => none
  | m + 1, a0 =>
    (bif (decide ((((ByteArray.size a0) : Nat) : Int) < (1 : Int))) then
    some Bool.true
  else
    (bif (decide ((32 : Int) < (((ByteArray.size a0) : Nat) : Int))) then
      some Bool.true
    else
      ((idxS a0 (0 : Int)).bind fun v0 =>
        (bif (v0 == (36 : Int)) then
          some Bool.true
        else
          path_notName_j0 m a0))))
noncomputable def slices_IndexFunc_i31_j3 (m : Nat) (rec1 : List Dt → Int → Int → Option (Int)) (x0 : List Dt) (x1 : Int) (x2 : Int) : Option (Int) :=
  rec1 x0 x1 (IntKind.wrap IntKind.i64 (x2 + (1 : Int)))
noncomputable def slices_IndexFunc_i31_j2 (m : Nat) (rec1 : List Dt → Int → Int → Option (Int)) (x0 : List Dt) (x1 : Int) (x2 : Int) : Option (Int) :=
  ((idx x0 x2).bind fun v0 =>
    ((path_notName m (Dt.toStr v0)).bind fun r1 =>
      (bif r1 then
        some x2
      else
        slices_IndexFunc_i31_j3 m rec1 x0 x1 x2)))
noncomputable def slices_IndexFunc_i31_j4 (m : Nat) : Option (Int) :=
  some (-1 : Int)
noncomputable def slices_IndexFunc_i31_l1 (m : Nat) : Nat → List Dt → Int → Int → Option (Int)
  | 0, _, _, _ => none
  | M1 + 1, x0, x1, x2 =>
    (bif (decide (x2 < x1)) then
    slices_IndexFunc_i31_j2 m (slices_IndexFunc_i31_l1 m M1) x0 x1 x2
  else
    slices_IndexFunc_i31_j4 m)
noncomputable def slices_IndexFunc_i31_j0 (m : Nat) (x0 : List Dt) (x1 : Int) (x2 : Int) : Option (Int) :=
  slices_IndexFunc_i31_l1 m (Nat.succ m) x0 x1 x2
noncomputable def slices_IndexFunc_i31 : Nat → List Dt → Option (Int)
  | 0, _ => none
  | m + 1, a0 =>
    slices_IndexFunc_i31_j0 m a0 (((List.length a0) : Nat) : Int) (0 : Int)
noncomputable def slices_ContainsFunc_i30 : Nat → List Dt → Option (Bool)
  | 0, _ => none
  | m + 1, a0 =>
    ((slices_IndexFunc_i31 m a0).bind fun r0 =>
    some (decide ((0 : Int) ≤ r0)))
noncomputable def path_Valid : Nat → List Dt → Option (Bool)
  | 0, _ => none
  | m + 1, a0 =>
    (bif (decide ((1 : Int) ≤ (((List.length a0) : Nat) : Int))) then
    (bif (decide ((((List.length a0) : Nat) : Int) ≤ (16 : Int))) then
      ((slices_ContainsFunc_i30 m a0).bind fun r0 =>
        some (Bool.not r0))
    else
      some Bool.false)
  else
    some Bool.false)
noncomputable def path_Parse_j0 (m : Nat) (x0 : List Dt) : Option (List Dt × Int) :=
  some (x0, (0 : Int))
noncomputable def path_Parse : Nat → ByteArray → Option (List Dt × Int)
  | 0, _ => none
  | m + 1, a0 =>
    ((strings_Split a0 (ByteArray.mk (List.toArray [(46 : UInt8)]))).bind fun r0 =>
    ((path_Valid m r0).bind fun r1 =>
      (bif (Bool.not r1) then
        some ([], (10 : Int))
      else
        path_Parse_j0 m r0)))
noncomputable def ref01_Name_j4 (m : Nat) (rec2 : ByteArray → Int → Option (Bool)) (x0 : ByteArray) (x1 : Int) : Option (Bool) :=
  rec2 x0 (IntKind.wrap IntKind.i64 (x1 + (1 : Int)))
noncomputable def ref01_Name_j3 (m : Nat) (rec2 : ByteArray → Int → Option (Bool)) (x0 : ByteArray) (x1 : Int) : Option (Bool) :=
  ((idxS x0 x1).bind fun v1 =>
    (bif (decide (v1 < (33 : Int))) then
      some Bool.false
    else
      ((idxS x0 x1).bind fun v2 =>
        (bif (decide ((126 : Int) < v2)) then
          some Bool.false
        else
          ((idxS x0 x1).bind fun v3 =>
            (bif (v3 == (46 : Int)) then
              some Bool.false
            else
              ref01_Name_j4 m rec2 x0 x1))))))
noncomputable def ref01_Name_j5 (m : Nat) : Option (Bool) :=
  some Bool.true
noncomputable def ref01_Name_l2 (m : Nat) : Nat → ByteArray → Int → Option (Bool)
  | 0, _, _ => none
  | M2 + 1, x0, x1 =>
    (bif (decide (x1 < (((ByteArray.size x0) : Nat) : Int))) then
    ref01_Name_j3 m (ref01_Name_l2 m M2) x0 x1
  else
    ref01_Name_j5 m)
noncomputable def ref01_Name_j1 (m : Nat) (x0 : ByteArray) (x1 : Int) : Option (Bool) :=
  ref01_Name_l2 m (Nat.succ m) x0 x1
noncomputable def ref01_Name_j0 (m : Nat) (x0 : ByteArray) : Option (Bool) :=
  ref01_Name_j1 m x0 (0 : Int)
noncomputable def ref01_Name : Nat → ByteArray → Option (Bool)
  | 0, _ => none
  | m + 1, a0 =>
    (bif (decide ((((ByteArray.size a0) : Nat) : Int) < (1 : Int))) then
    some Bool.false
  else
    (bif (decide ((32 : Int) < (((ByteArray.size a0) : Nat) : Int))) then
      some Bool.false
    else
      ((idxS a0 (0 : Int)).bind fun v0 =>
        (bif (v0 == (36 : Int)) then
          some Bool.false
        else
          ref01_Name_j0 m a0))))
noncomputable def ref04_Valid_j4 (m : Nat) (rec2 : List Dt → Int → Option (Bool)) (x0 : List Dt) (x1 : Int) : Option (Bool) :=
  rec2 x0 (IntKind.wrap IntKind.i64 (x1 + (1 : Int)))
noncomputable def ref04_Valid_j3 (m : Nat) (rec2 : List Dt → Int → Option (Bool)) (x0 : List Dt) (x1 : Int) : Option (Bool) :=
  ((idx x0 x1).bind fun v0 =>
    ((ref01_Name m (Dt.toStr v0)).bind fun r1 =>
      (bif (Bool.not r1) then
        some Bool.false
      else
        ref04_Valid_j4 m rec2 x0 x1)))
noncomputable def ref04_Valid_j5 (m : Nat) : Option (Bool) :=
  some Bool.true
noncomputable def ref04_Valid_l2 (m : Nat) : Nat → List Dt → Int → Option (Bool)
  | 0, _, _ => none
  | M2 + 1, x0, x1 =>
    (bif (decide (x1 < (((List.length x0) : Nat) : Int))) then
    ref04_Valid_j3 m (ref04_Valid_l2 m M2) x0 x1
  else
    ref04_Valid_j5 m)
noncomputable def ref04_Valid_j1 (m : Nat) (x0 : List Dt) (x1 : Int) : Option (Bool) :=
  ref04_Valid_l2 m (Nat.succ m) x0 x1
noncomputable def ref04_Valid_j0 (m : Nat) (x0 : List Dt) : Option (Bool) :=
  ref04_Valid_j1 m x0 (0 : Int)
noncomputable def ref04_Valid : Nat → List Dt → Option (Bool)
  | 0, _ => none
  | m + 1, a0 =>
    (bif (decide ((((List.length a0) : Nat) : Int) < (1 : Int))) then
    some Bool.false
  else
    (bif (decide ((16 : Int) < (((List.length a0) : Nat) : Int))) then
      some Bool.false
    else
      ref04_Valid_j0 m a0))
noncomputable def law04_PathTexts_j4 (m : Nat) (rec2 : List Dt → List Dt → Int → Int → Option (Bool)) (x0 : List Dt) (x1 : List Dt) (x2 : Int) (x3 : Int) : Option (Bool) :=
  rec2 x0 x1 x2 (IntKind.wrap IntKind.i64 (x3 + (1 : Int)))
noncomputable def law04_PathTexts_j3 (m : Nat) (rec2 : List Dt → List Dt → Int → Int → Option (Bool)) (x0 : List Dt) (x1 : List Dt) (x2 : Int) (x3 : Int) : Option (Bool) :=
  ((idx x1 x3).bind fun v1 =>
    (bif (decide ((100 : Int) < (((ByteArray.size (Dt.toStr v1)) : Nat) : Int))) then
      ((awakeC).bind fun r2 =>
        some r2)
    else
      law04_PathTexts_j4 m rec2 x0 x1 x2 x3))
noncomputable def law04_PathTexts_j7 (m : Nat) : Option (Bool) :=
  ((awakeC).bind fun r10 =>
    some r10)
noncomputable def law04_PathTexts_j6 (m : Nat) (x0 : List Dt) (x1 : Bool) : Option (Bool) :=
  (bif x1 then
    ((path_Text m x0).bind fun r7 =>
      ((path_Parse m r7).bind fun r8 =>
        (bif ((Prod.snd r8) != (0 : Int)) then
          some Bool.false
        else
          ((ref04_Same m x0 (Prod.fst r8)).bind fun r9 =>
            (bif (Bool.not r9) then
              some Bool.false
            else
              law04_PathTexts_j7 m)))))
  else
    law04_PathTexts_j7 m)
noncomputable def law04_PathTexts_j5 (m : Nat) (x0 : List Dt) : Option (Bool) :=
  ((ref04_Valid m x0).bind fun r3 =>
    ((path_Text m x0).bind fun r4 =>
      ((ref04_Text m x0).bind fun r5 =>
        (bif (Bool.not ((ByteArray.toList r4) == (ByteArray.toList r5))) then
          some Bool.false
        else
          ((path_Valid m x0).bind fun r6 =>
            (bif (Bool.not (r6 == r3)) then
              some Bool.false
            else
              law04_PathTexts_j6 m x0 r3))))))
noncomputable def law04_PathTexts_l2 (m : Nat) : Nat → List Dt → List Dt → Int → Int → Option (Bool)
  | 0, _, _, _, _ => none
  | M2 + 1, x0, x1, x2, x3 =>
    (bif (decide (x3 < x2)) then
    law04_PathTexts_j3 m (law04_PathTexts_l2 m M2) x0 x1 x2 x3
  else
    law04_PathTexts_j5 m x0)
noncomputable def law04_PathTexts_j1 (m : Nat) (x0 : List Dt) (x1 : List Dt) (x2 : Int) (x3 : Int) : Option (Bool) :=
  law04_PathTexts_l2 m (Nat.succ m) x0 x1 x2 x3
noncomputable def law04_PathTexts_j0 (m : Nat) (x0 : List Dt) : Option (Bool) :=
  law04_PathTexts_j1 m x0 x0 (((List.length x0) : Nat) : Int) (0 : Int)
noncomputable def law04_PathTexts : Nat → List Dt → Option (Bool)
  | 0, _ => none
  | m + 1, a0 =>
    (bif (decide ((100 : Int) < (((List.length a0) : Nat) : Int))) then
    ((awakeC).bind fun r0 =>
      some r0)
  else
    law04_PathTexts_j0 m a0)
noncomputable def ref04_Parse_j0 (m : Nat) (x0 : List Dt) : Option (List Dt × Int) :=
  some (x0, (0 : Int))
noncomputable def ref04_Parse : Nat → ByteArray → Option (List Dt × Int)
  | 0, _ => none
  | m + 1, a0 =>
    ((ref04_split m a0).bind fun r0 =>
    ((ref04_Valid m r0).bind fun r1 =>
      (bif (Bool.not r1) then
        some ([], (10 : Int))
      else
        ref04_Parse_j0 m r0)))
noncomputable def law04_PathParses_j1 (m : Nat) : Option (Bool) :=
  ((awakeC).bind fun r6 =>
    some r6)
noncomputable def law04_PathParses_j0 (m : Nat) (x0 : ByteArray) : Option (Bool) :=
  ((path_Parse m x0).bind fun r1 =>
    ((ref04_Parse m x0).bind fun r2 =>
      (bif ((Prod.snd r1) != (Prod.snd r2)) then
        some Bool.false
      else
        ((ref04_Same m (Prod.fst r1) (Prod.fst r2)).bind fun r3 =>
          (bif (Bool.not r3) then
            some Bool.false
          else
            (bif ((Prod.snd r1) == (0 : Int)) then
              ((path_Text m (Prod.fst r1)).bind fun r4 =>
                (bif (Bool.not ((ByteArray.toList r4) == (ByteArray.toList x0))) then
                  some Bool.false
                else
                  ((path_Valid m (Prod.fst r1)).bind fun r5 =>
                    (bif (Bool.not r5) then
                      some Bool.false
                    else
                      law04_PathParses_j1 m))))
            else
              law04_PathParses_j1 m))))))
noncomputable def law04_PathParses : Nat → ByteArray → Option (Bool)
  | 0, _ => none
  | m + 1, a0 =>
    (bif (decide ((2000 : Int) < (((ByteArray.size a0) : Nat) : Int))) then
    ((awakeC).bind fun r0 =>
      some r0)
  else
    law04_PathParses_j0 m a0)
noncomputable def slices_Equal_j4 (m : Nat) (rec2 : List Dt → List Dt → Int → Int → Option (Bool)) (x0 : List Dt) (x1 : List Dt) (x2 : Int) (x3 : Int) : Option (Bool) :=
  rec2 x0 x1 x2 (IntKind.wrap IntKind.i64 (x3 + (1 : Int)))
noncomputable def slices_Equal_j3 (m : Nat) (rec2 : List Dt → List Dt → Int → Int → Option (Bool)) (x0 : List Dt) (x1 : List Dt) (x2 : Int) (x3 : Int) : Option (Bool) :=
  ((idx x0 x3).bind fun v0 =>
    ((idx x1 x3).bind fun v1 =>
      (bif (Bool.not ((ByteArray.toList (Dt.toStr v0)) == (ByteArray.toList (Dt.toStr v1)))) then
        some Bool.false
      else
        slices_Equal_j4 m rec2 x0 x1 x2 x3)))
noncomputable def slices_Equal_j5 (m : Nat) : Option (Bool) :=
  some Bool.true
noncomputable def slices_Equal_l2 (m : Nat) : Nat → List Dt → List Dt → Int → Int → Option (Bool)
  | 0, _, _, _, _ => none
  | M2 + 1, x0, x1, x2, x3 =>
    (bif (decide (x3 < x2)) then
    slices_Equal_j3 m (slices_Equal_l2 m M2) x0 x1 x2 x3
  else
    slices_Equal_j5 m)
noncomputable def slices_Equal_j1 (m : Nat) (x0 : List Dt) (x1 : List Dt) (x2 : Int) (x3 : Int) : Option (Bool) :=
  slices_Equal_l2 m (Nat.succ m) x0 x1 x2 x3
noncomputable def slices_Equal_j0 (m : Nat) (x0 : List Dt) (x1 : List Dt) : Option (Bool) :=
  slices_Equal_j1 m x0 x1 (((List.length x0) : Nat) : Int) (0 : Int)
noncomputable def slices_Equal : Nat → List Dt → List Dt → Option (Bool)
  | 0, _, _ => none
  | m + 1, a0, a1 =>
    (bif ((((List.length a0) : Nat) : Int) != (((List.length a1) : Nat) : Int)) then
    some Bool.false
  else
    slices_Equal_j0 m a0 a1)
noncomputable def path_Overlap : Nat → List Dt → List Dt → Option (Bool)
  | 0, _, _ => none
  | m + 1, a0, a1 =>
    ((cutL a0 (0 : Int) (bif (decide ((((List.length a1) : Nat) : Int) < (((List.length a0) : Nat) : Int))) then (((List.length a1) : Nat) : Int) else (((List.length a0) : Nat) : Int))).bind fun v0 =>
    ((cutL a1 (0 : Int) (bif (decide ((((List.length a1) : Nat) : Int) < (((List.length a0) : Nat) : Int))) then (((List.length a1) : Nat) : Int) else (((List.length a0) : Nat) : Int))).bind fun v1 =>
      ((slices_Equal m v0 v1).bind fun r2 =>
        some r2)))
noncomputable def law04_PathOverlaps_j2 (m : Nat) (x0 : List Dt) (x1 : Int) : Option (Bool) :=
  ((cutL x0 (0 : Int) x1).bind fun v5 =>
    ((path_Overlap m x0 v5).bind fun r6 =>
      (bif r6 then
        ((cutL x0 (0 : Int) x1).bind fun v7 =>
          ((path_Overlap m v7 x0).bind fun r8 =>
            (bif r8 then
              ((awakeC).bind fun r9 =>
                some r9)
            else
              some Bool.false)))
      else
        some Bool.false)))
noncomputable def law04_PathOverlaps_j1 (m : Nat) (x0 : List Dt) (x1 : Int) : Option (Bool) :=
  (bif (decide (x1 < (0 : Int))) then
    law04_PathOverlaps_j2 m x0 (((List.length x0) : Nat) : Int)
  else
    (bif (decide ((((List.length x0) : Nat) : Int) < x1)) then
      law04_PathOverlaps_j2 m x0 (((List.length x0) : Nat) : Int)
    else
      law04_PathOverlaps_j2 m x0 x1))
noncomputable def law04_PathOverlaps_j0 (m : Nat) (x0 : List Dt) (x1 : List Dt) (x2 : Int) : Option (Bool) :=
  ((path_Overlap m x0 x1).bind fun r2 =>
    ((path_Overlap m x1 x0).bind fun r3 =>
      (bif (Bool.not (r2 == r3)) then
        some Bool.false
      else
        ((ref04_Overlap m x0 x1).bind fun r4 =>
          (bif (Bool.not (r2 == r4)) then
            some Bool.false
          else
            law04_PathOverlaps_j1 m x0 x2)))))
noncomputable def law04_PathOverlaps : Nat → List Dt → List Dt → Int → Option (Bool)
  | 0, _, _, _ => none
  | m + 1, a0, a1, a2 =>
    (bif (decide ((100 : Int) < (((List.length a0) : Nat) : Int))) then
    ((awakeC).bind fun r0 =>
      some r0)
  else
    (bif (decide ((100 : Int) < (((List.length a1) : Nat) : Int))) then
      ((awakeC).bind fun r1 =>
        some r1)
    else
      law04_PathOverlaps_j0 m a0 a1 a2))
noncomputable def path_field_j3 (m : Nat) (rec1 : List Dt → ByteArray → Int → Int → Option (Int)) (x0 : List Dt) (x1 : ByteArray) (x2 : Int) (x3 : Int) : Option (Int) :=
  rec1 x0 x1 x2 (IntKind.wrap IntKind.i64 (x3 + (1 : Int)))
noncomputable def path_field_j2 (m : Nat) (rec1 : List Dt → ByteArray → Int → Int → Option (Int)) (x0 : List Dt) (x1 : ByteArray) (x2 : Int) (x3 : Int) : Option (Int) :=
  ((idx x0 x3).bind fun v0 =>
    (bif ((ByteArray.toList (Dt.S v0 0)) == (ByteArray.toList x1)) then
      some x3
    else
      path_field_j3 m rec1 x0 x1 x2 x3))
noncomputable def path_field_j4 (m : Nat) : Option (Int) :=
  some (-1 : Int)
noncomputable def path_field_l1 (m : Nat) : Nat → List Dt → ByteArray → Int → Int → Option (Int)
  | 0, _, _, _, _ => none
  | M1 + 1, x0, x1, x2, x3 =>
    (bif (decide (x3 < x2)) then
    path_field_j2 m (path_field_l1 m M1) x0 x1 x2 x3
  else
    path_field_j4 m)
noncomputable def path_field_j0 (m : Nat) (x0 : List Dt) (x1 : ByteArray) (x2 : Int) (x3 : Int) : Option (Int) :=
  path_field_l1 m (Nat.succ m) x0 x1 x2 x3
noncomputable def path_field : Nat → List Dt → ByteArray → Option (Int)
  | 0, _, _ => none
  | m + 1, a0, a1 =>
    path_field_j0 m a0 a1 (((List.length a0) : Nat) : Int) (0 : Int)
noncomputable def path_pass_i37_j1 (m : Nat) (self37 : Dt → List Dt → List Dt → Option (List Dt)) (x0 : List Dt) : Option (List Dt) :=
  some x0
noncomputable def path_pass_i37_j5 (m : Nat) (self37 : Dt → List Dt → List Dt → Option (List Dt)) (rec3 : List Dt → List Dt → Int → Int → List Dt → Dt → Option (List Dt)) (x0 : List Dt) (x1 : List Dt) (x2 : Int) (x3 : Int) (x4 : List Dt) (x5 : Dt) : Option (List Dt) :=
  rec3 x0 x1 x2 (IntKind.wrap IntKind.i64 (x3 + (1 : Int))) x4 x5
noncomputable def path_pass_i37_j4 (m : Nat) (self37 : Dt → List Dt → List Dt → Option (List Dt)) (rec3 : List Dt → List Dt → Int → Int → List Dt → Dt → Option (List Dt)) (x0 : List Dt) (x1 : List Dt) (x2 : Int) (x3 : Int) (x4 : List Dt) (x5 : Dt) : Option (List Dt) :=
  ((idx x1 x3).bind fun v6 =>
    (bif ((Dt.I v6 0) == (5 : Int)) then
      ((self37 v6 x0 x4).bind fun r7 =>
        path_pass_i37_j5 m self37 rec3 x0 x1 x2 x3 r7 x5)
    else
      path_pass_i37_j5 m self37 rec3 x0 x1 x2 x3 x4 x5))
noncomputable def path_pass_i37_j6 (m : Nat) (self37 : Dt → List Dt → List Dt → Option (List Dt)) (x0 : List Dt) (x1 : List Dt) (x2 : Dt) : Option (List Dt) :=
  ((idx x0 (0 : Int)).bind fun v8 =>
    ((path_Number m (Dt.toStr v8)).bind fun r9 =>
      (bif (Prod.snd r9) then
        (bif (decide ((Prod.fst r9) < (((List.length (Dt.L x2 3)) : Nat) : Int))) then
          ((idx (Dt.L x2 3) (Prod.fst r9)).bind fun v10 =>
            ((cutL x0 (1 : Int) (((List.length x0) : Nat) : Int)).bind fun v11 =>
              ((self37 v10 v11 x1).bind fun r12 =>
                path_pass_i37_j1 m self37 r12)))
        else
          path_pass_i37_j1 m self37 x1)
      else
        path_pass_i37_j1 m self37 x1)))
noncomputable def path_pass_i37_l3 (m : Nat) (self37 : Dt → List Dt → List Dt → Option (List Dt)) : Nat → List Dt → List Dt → Int → Int → List Dt → Dt → Option (List Dt)
  | 0, _, _, _, _, _, _ => none
  | M3 + 1, x0, x1, x2, x3, x4, x5 =>
    (bif (decide (x3 < x2)) then
    path_pass_i37_j4 m self37 (path_pass_i37_l3 m self37 M3) x0 x1 x2 x3 x4 x5
  else
    path_pass_i37_j6 m self37 x0 x4 x5)
noncomputable def path_pass_i37_j2 (m : Nat) (self37 : Dt → List Dt → List Dt → Option (List Dt)) (x0 : List Dt) (x1 : List Dt) (x2 : Int) (x3 : Int) (x4 : List Dt) (x5 : Dt) : Option (List Dt) :=
  path_pass_i37_l3 m self37 (Nat.succ m) x0 x1 x2 x3 x4 x5
noncomputable def path_pass_i37_j0 (m : Nat) (self37 : Dt → List Dt → List Dt → Option (List Dt)) (x0 : List Dt) (x1 : List Dt) (x2 : Dt) : Option (List Dt) :=
  (bif ((Dt.I x2 0) == (5 : Int)) then
    ((idx x0 (0 : Int)).bind fun v1 =>
      ((path_field m (Dt.L x2 4) (Dt.toStr v1)).bind fun r2 =>
        (bif (decide ((0 : Int) ≤ r2)) then
          ((idx (Dt.L x2 4) r2).bind fun v3 =>
            ((cutL x0 (1 : Int) (((List.length x0) : Nat) : Int)).bind fun v4 =>
              ((self37 (Dt.fld v3 1) v4 x1).bind fun r5 =>
                path_pass_i37_j1 m self37 r5)))
        else
          path_pass_i37_j1 m self37 x1)))
  else
    (bif ((Dt.I x2 0) == (6 : Int)) then
      path_pass_i37_j2 m self37 x0 (Dt.L x2 3) (((List.length (Dt.L x2 3)) : Nat) : Int) (0 : Int) x1 x2
    else
      path_pass_i37_j1 m self37 x1))
noncomputable def path_pass_i37 : Nat → Dt → List Dt → List Dt → Option (List Dt)
  | 0, _, _, _ => none
  | m + 1, a0, a1, a2 =>
    (bif ((((List.length a1) : Nat) : Int) == (0 : Int)) then
    ((app a2 [a0]).bind fun v0 =>
      some v0)
  else
    path_pass_i37_j0 m (path_pass_i37 m) a1 a2 a0)
noncomputable def path_clone_j3 (m : Nat) (self39 : Dt → Option (Dt)) (rec1 : List Dt → Int → Int → Dt → Dt → Int → Int → ByteArray → List Dt → Option (Dt)) (x0 : List Dt) (x1 : Int) (x2 : Int) (x3 : Dt) (x4 : Dt) (x5 : Int) (x6 : Int) (x7 : ByteArray) (x8 : List Dt) : Option (Dt) :=
  rec1 x0 x1 (IntKind.wrap IntKind.i64 (x2 + (1 : Int))) x3 x4 x5 x6 x7 x8
noncomputable def path_clone_j2 (m : Nat) (self39 : Dt → Option (Dt)) (rec1 : List Dt → Int → Int → Dt → Dt → Int → Int → ByteArray → List Dt → Option (Dt)) (x0 : List Dt) (x1 : Int) (x2 : Int) (x3 : Dt) (x4 : Dt) (x5 : Int) (x6 : Int) (x7 : ByteArray) (x8 : List Dt) : Option (Dt) :=
  ((idx x0 x2).bind fun v1 =>
    ((self39 v1).bind fun r2 =>
      ((inL x8 x2).bind fun v3 =>
        ((x8[(Int.toNat x2)]?).bind fun v4 =>
          path_clone_j3 m self39 rec1 x0 x1 x2 x3 x4 x5 x6 x7 (List.set x8 (Int.toNat x2) r2)))))
noncomputable def path_clone_j8 (m : Nat) (self39 : Dt → Option (Dt)) (rec6 : List Dt → Int → Int → Dt → Int → Int → ByteArray → List Dt → List Dt → Option (Dt)) (x0 : List Dt) (x1 : Int) (x2 : Int) (x3 : Dt) (x4 : Int) (x5 : Int) (x6 : ByteArray) (x7 : List Dt) (x8 : List Dt) : Option (Dt) :=
  rec6 x0 x1 (IntKind.wrap IntKind.i64 (x2 + (1 : Int))) x3 x4 x5 x6 x7 x8
noncomputable def path_clone_j7 (m : Nat) (self39 : Dt → Option (Dt)) (rec6 : List Dt → Int → Int → Dt → Int → Int → ByteArray → List Dt → List Dt → Option (Dt)) (x0 : List Dt) (x1 : Int) (x2 : Int) (x3 : Dt) (x4 : Int) (x5 : Int) (x6 : ByteArray) (x7 : List Dt) (x8 : List Dt) : Option (Dt) :=
  ((idx x0 x2).bind fun v6 =>
    ((self39 (Dt.fld v6 1)).bind fun r7 =>
      ((inL x8 x2).bind fun v8 =>
        ((x8[(Int.toNat x2)]?).bind fun v9 =>
          path_clone_j8 m self39 rec6 x0 x1 x2 x3 x4 x5 x6 x7 (List.set x8 (Int.toNat x2) (Dt.agg [(Dt.str (Dt.S v6 0)), r7]))))))
noncomputable def path_clone_j9 (m : Nat) (self39 : Dt → Option (Dt)) (x0 : Dt) (x1 : Int) (x2 : Int) (x3 : ByteArray) (x4 : List Dt) (x5 : List Dt) : Option (Dt) :=
  some (Dt.agg [(Dt.int x1), (Dt.int x2), (Dt.str x3), (Dt.lst x4), (Dt.lst x5)])
noncomputable def path_clone_l6 (m : Nat) (self39 : Dt → Option (Dt)) : Nat → List Dt → Int → Int → Dt → Int → Int → ByteArray → List Dt → List Dt → Option (Dt)
  | 0, _, _, _, _, _, _, _, _, _ => none
  | M6 + 1, x0, x1, x2, x3, x4, x5, x6, x7, x8 =>
    (bif (decide (x2 < x1)) then
    path_clone_j7 m self39 (path_clone_l6 m self39 M6) x0 x1 x2 x3 x4 x5 x6 x7 x8
  else
    path_clone_j9 m self39 x3 x4 x5 x6 x7 x8)
noncomputable def path_clone_j5 (m : Nat) (self39 : Dt → Option (Dt)) (x0 : List Dt) (x1 : Int) (x2 : Int) (x3 : Dt) (x4 : Int) (x5 : Int) (x6 : ByteArray) (x7 : List Dt) (x8 : List Dt) : Option (Dt) :=
  path_clone_l6 m self39 (Nat.succ m) x0 x1 x2 x3 x4 x5 x6 x7 x8
noncomputable def path_clone_j10 (m : Nat) (self39 : Dt → Option (Dt)) (x0 : Dt) (x1 : Int) (x2 : Int) (x3 : ByteArray) (x4 : List Dt) : Option (Dt) :=
  some (Dt.agg [(Dt.int x1), (Dt.int x2), (Dt.str x3), (Dt.lst x4), (Dt.lst [])])
noncomputable def path_clone_j4 (m : Nat) (self39 : Dt → Option (Dt)) (x0 : Dt) (x1 : Dt) (x2 : Int) (x3 : Int) (x4 : ByteArray) (x5 : List Dt) : Option (Dt) :=
  (bif (decide ((0 : Int) < (((List.length (Dt.L x0 4)) : Nat) : Int))) then
    ((mkL (((List.length (Dt.L x0 4)) : Nat) : Int) (((List.length (Dt.L x0 4)) : Nat) : Int) (Dt.agg [(Dt.str (ByteArray.mk (List.toArray []))), (Dt.agg [(Dt.int (0 : Int)), (Dt.int (0 : Int)), (Dt.str (ByteArray.mk (List.toArray []))), (Dt.lst []), (Dt.lst [])])])).bind fun v5 =>
      path_clone_j5 m self39 (Dt.L x0 4) (((List.length (Dt.L x0 4)) : Nat) : Int) (0 : Int) x1 x2 x3 x4 x5 v5)
  else
    path_clone_j10 m self39 x1 x2 x3 x4 x5)
noncomputable def path_clone_l1 (m : Nat) (self39 : Dt → Option (Dt)) : Nat → List Dt → Int → Int → Dt → Dt → Int → Int → ByteArray → List Dt → Option (Dt)
  | 0, _, _, _, _, _, _, _, _, _ => none
  | M1 + 1, x0, x1, x2, x3, x4, x5, x6, x7, x8 =>
    (bif (decide (x2 < x1)) then
    path_clone_j2 m self39 (path_clone_l1 m self39 M1) x0 x1 x2 x3 x4 x5 x6 x7 x8
  else
    path_clone_j4 m self39 x3 x4 x5 x6 x7 x8)
noncomputable def path_clone_j0 (m : Nat) (self39 : Dt → Option (Dt)) (x0 : List Dt) (x1 : Int) (x2 : Int) (x3 : Dt) (x4 : Dt) (x5 : Int) (x6 : Int) (x7 : ByteArray) (x8 : List Dt) : Option (Dt) :=
  path_clone_l1 m self39 (Nat.succ m) x0 x1 x2 x3 x4 x5 x6 x7 x8
noncomputable def path_clone_j15 (m : Nat) (self39 : Dt → Option (Dt)) (rec13 : List Dt → Int → Int → Dt → Int → Int → ByteArray → List Dt → List Dt → Option (Dt)) (x0 : List Dt) (x1 : Int) (x2 : Int) (x3 : Dt) (x4 : Int) (x5 : Int) (x6 : ByteArray) (x7 : List Dt) (x8 : List Dt) : Option (Dt) :=
  rec13 x0 x1 (IntKind.wrap IntKind.i64 (x2 + (1 : Int))) x3 x4 x5 x6 x7 x8
noncomputable def path_clone_j14 (m : Nat) (self39 : Dt → Option (Dt)) (rec13 : List Dt → Int → Int → Dt → Int → Int → ByteArray → List Dt → List Dt → Option (Dt)) (x0 : List Dt) (x1 : Int) (x2 : Int) (x3 : Dt) (x4 : Int) (x5 : Int) (x6 : ByteArray) (x7 : List Dt) (x8 : List Dt) : Option (Dt) :=
  ((idx x0 x2).bind fun v11 =>
    ((self39 (Dt.fld v11 1)).bind fun r12 =>
      ((inL x8 x2).bind fun v13 =>
        ((x8[(Int.toNat x2)]?).bind fun v14 =>
          path_clone_j15 m self39 rec13 x0 x1 x2 x3 x4 x5 x6 x7 (List.set x8 (Int.toNat x2) (Dt.agg [(Dt.str (Dt.S v11 0)), r12]))))))
noncomputable def path_clone_j16 (m : Nat) (self39 : Dt → Option (Dt)) (x0 : Dt) (x1 : Int) (x2 : Int) (x3 : ByteArray) (x4 : List Dt) (x5 : List Dt) : Option (Dt) :=
  some (Dt.agg [(Dt.int x1), (Dt.int x2), (Dt.str x3), (Dt.lst x4), (Dt.lst x5)])
noncomputable def path_clone_l13 (m : Nat) (self39 : Dt → Option (Dt)) : Nat → List Dt → Int → Int → Dt → Int → Int → ByteArray → List Dt → List Dt → Option (Dt)
  | 0, _, _, _, _, _, _, _, _, _ => none
  | M13 + 1, x0, x1, x2, x3, x4, x5, x6, x7, x8 =>
    (bif (decide (x2 < x1)) then
    path_clone_j14 m self39 (path_clone_l13 m self39 M13) x0 x1 x2 x3 x4 x5 x6 x7 x8
  else
    path_clone_j16 m self39 x3 x4 x5 x6 x7 x8)
noncomputable def path_clone_j12 (m : Nat) (self39 : Dt → Option (Dt)) (x0 : List Dt) (x1 : Int) (x2 : Int) (x3 : Dt) (x4 : Int) (x5 : Int) (x6 : ByteArray) (x7 : List Dt) (x8 : List Dt) : Option (Dt) :=
  path_clone_l13 m self39 (Nat.succ m) x0 x1 x2 x3 x4 x5 x6 x7 x8
noncomputable def path_clone_j17 (m : Nat) (self39 : Dt → Option (Dt)) (x0 : Dt) (x1 : Dt) : Option (Dt) :=
  some x1
noncomputable def path_clone_j11 (m : Nat) (self39 : Dt → Option (Dt)) (x0 : Dt) (x1 : Dt) (x2 : Dt) : Option (Dt) :=
  (bif (decide ((0 : Int) < (((List.length (Dt.L x0 4)) : Nat) : Int))) then
    ((mkL (((List.length (Dt.L x0 4)) : Nat) : Int) (((List.length (Dt.L x0 4)) : Nat) : Int) (Dt.agg [(Dt.str (ByteArray.mk (List.toArray []))), (Dt.agg [(Dt.int (0 : Int)), (Dt.int (0 : Int)), (Dt.str (ByteArray.mk (List.toArray []))), (Dt.lst []), (Dt.lst [])])])).bind fun v10 =>
      path_clone_j12 m self39 (Dt.L x0 4) (((List.length (Dt.L x0 4)) : Nat) : Int) (0 : Int) x1 (Dt.I x2 0) (Dt.I x2 1) (Dt.S x2 2) (Dt.L x2 3) v10)
  else
    path_clone_j17 m self39 x1 x2)
noncomputable def path_clone : Nat → Dt → Option (Dt)
  | 0, _ => none
  | m + 1, a0 =>
    (bif (decide ((0 : Int) < (((List.length (Dt.L a0 3)) : Nat) : Int))) then
    ((mkL (((List.length (Dt.L a0 3)) : Nat) : Int) (((List.length (Dt.L a0 3)) : Nat) : Int) (Dt.agg [(Dt.int (0 : Int)), (Dt.int (0 : Int)), (Dt.str (ByteArray.mk (List.toArray []))), (Dt.lst []), (Dt.lst [])])).bind fun v0 =>
      path_clone_j0 m (path_clone m) (Dt.L a0 3) (((List.length (Dt.L a0 3)) : Nat) : Int) (0 : Int) a0 (Dt.agg [(Dt.int (0 : Int)), (Dt.int (0 : Int)), (Dt.str (ByteArray.mk (List.toArray []))), (Dt.lst []), (Dt.lst [])]) (Dt.I a0 0) (Dt.I a0 1) (Dt.S a0 2) v0)
  else
    path_clone_j11 m (path_clone m) a0 (Dt.agg [(Dt.int (0 : Int)), (Dt.int (0 : Int)), (Dt.str (ByteArray.mk (List.toArray []))), (Dt.lst []), (Dt.lst [])]) (Dt.agg [(Dt.int (Dt.I a0 0)), (Dt.int (Dt.I a0 1)), (Dt.str (Dt.S a0 2)), (Dt.lst []), (Dt.lst [])]))
noncomputable def path_Reach_j4 (m : Nat) (rec2 : Int → Int → List Dt → Option (List Dt)) (x0 : Int) (x1 : Int) (x2 : List Dt) : Option (List Dt) :=
  rec2 x0 (IntKind.wrap IntKind.i64 (x1 + (1 : Int))) x2
noncomputable def path_Reach_j3 (m : Nat) (rec2 : Int → Int → List Dt → Option (List Dt)) (x0 : Int) (x1 : Int) (x2 : List Dt) : Option (List Dt) :=
  ((inL x2 x1).bind fun v1 =>
    ((x2[(Int.toNat x1)]?).bind fun v2 =>
      ((path_clone m v2).bind fun r3 =>
        ((inL x2 x1).bind fun v4 =>
          ((x2[(Int.toNat x1)]?).bind fun v5 =>
            path_Reach_j4 m rec2 x0 x1 (List.set x2 (Int.toNat x1) r3))))))
noncomputable def path_Reach_j5 (m : Nat) (x0 : List Dt) : Option (List Dt) :=
  some x0
noncomputable def path_Reach_l2 (m : Nat) : Nat → Int → Int → List Dt → Option (List Dt)
  | 0, _, _, _ => none
  | M2 + 1, x0, x1, x2 =>
    (bif (decide (x1 < x0)) then
    path_Reach_j3 m (path_Reach_l2 m M2) x0 x1 x2
  else
    path_Reach_j5 m x2)
noncomputable def path_Reach_j1 (m : Nat) (x0 : Int) (x1 : Int) (x2 : List Dt) : Option (List Dt) :=
  path_Reach_l2 m (Nat.succ m) x0 x1 x2
noncomputable def path_Reach_j0 (m : Nat) (x0 : List Dt) : Option (List Dt) :=
  path_Reach_j1 m (((List.length x0) : Nat) : Int) (0 : Int) x0
noncomputable def path_Reach : Nat → Dt → List Dt → Option (List Dt)
  | 0, _, _ => none
  | m + 1, a0, a1 =>
    ((path_pass_i37 m a0 a1 []).bind fun r0 =>
    (bif ((((List.length r0) : Nat) : Int) == (0 : Int)) then
      some [(Dt.agg [(Dt.int (0 : Int)), (Dt.int (0 : Int)), (Dt.str (ByteArray.mk (List.toArray []))), (Dt.lst []), (Dt.lst [])])]
    else
      path_Reach_j0 m r0))
noncomputable def path_Leaves_j6 (m : Nat) (rec1 : List Dt → Int → Int → List Dt → Option (List Dt)) (rec4 : List Dt → Int → Int → List Dt → Int → Int → List Dt → Option (List Dt)) (x0 : List Dt) (x1 : Int) (x2 : Int) (x3 : List Dt) (x4 : Int) (x5 : Int) (x6 : List Dt) : Option (List Dt) :=
  rec4 x0 x1 x2 x3 x4 (IntKind.wrap IntKind.i64 (x5 + (1 : Int))) x6
noncomputable def path_Leaves_j5 (m : Nat) (rec1 : List Dt → Int → Int → List Dt → Option (List Dt)) (rec4 : List Dt → Int → Int → List Dt → Int → Int → List Dt → Option (List Dt)) (x0 : List Dt) (x1 : Int) (x2 : Int) (x3 : List Dt) (x4 : Int) (x5 : Int) (x6 : List Dt) : Option (List Dt) :=
  ((idx x3 x5).bind fun v3 =>
    ((path_clone m v3).bind fun r4 =>
      ((app x6 [r4]).bind fun v5 =>
        path_Leaves_j6 m rec1 rec4 x0 x1 x2 x3 x4 x5 v5)))
noncomputable def path_Leaves_j7 (m : Nat) (rec1 : List Dt → Int → Int → List Dt → Option (List Dt)) (x0 : List Dt) (x1 : Int) (x2 : Int) (x3 : List Dt) : Option (List Dt) :=
  rec1 x0 x1 (IntKind.wrap IntKind.i64 (x2 + (1 : Int))) x3
noncomputable def path_Leaves_l4 (m : Nat) (rec1 : List Dt → Int → Int → List Dt → Option (List Dt)) : Nat → List Dt → Int → Int → List Dt → Int → Int → List Dt → Option (List Dt)
  | 0, _, _, _, _, _, _, _ => none
  | M4 + 1, x0, x1, x2, x3, x4, x5, x6 =>
    (bif (decide (x5 < x4)) then
    path_Leaves_j5 m rec1 (path_Leaves_l4 m rec1 M4) x0 x1 x2 x3 x4 x5 x6
  else
    path_Leaves_j7 m rec1 x0 x1 x2 x6)
noncomputable def path_Leaves_j3 (m : Nat) (rec1 : List Dt → Int → Int → List Dt → Option (List Dt)) (x0 : List Dt) (x1 : Int) (x2 : Int) (x3 : List Dt) (x4 : Int) (x5 : Int) (x6 : List Dt) : Option (List Dt) :=
  path_Leaves_l4 m rec1 (Nat.succ m) x0 x1 x2 x3 x4 x5 x6
noncomputable def path_Leaves_j2 (m : Nat) (rec1 : List Dt → Int → Int → List Dt → Option (List Dt)) (x0 : List Dt) (x1 : Int) (x2 : Int) (x3 : List Dt) : Option (List Dt) :=
  ((idx x0 x2).bind fun v1 =>
    ((app x3 [v1]).bind fun v2 =>
      (bif ((Dt.I v1 0) == (6 : Int)) then
        path_Leaves_j3 m rec1 x0 x1 x2 (Dt.L v1 3) (((List.length (Dt.L v1 3)) : Nat) : Int) (0 : Int) v2
      else
        path_Leaves_j7 m rec1 x0 x1 x2 v2)))
noncomputable def path_Leaves_j8 (m : Nat) (x0 : List Dt) : Option (List Dt) :=
  some x0
noncomputable def path_Leaves_l1 (m : Nat) : Nat → List Dt → Int → Int → List Dt → Option (List Dt)
  | 0, _, _, _, _ => none
  | M1 + 1, x0, x1, x2, x3 =>
    (bif (decide (x2 < x1)) then
    path_Leaves_j2 m (path_Leaves_l1 m M1) x0 x1 x2 x3
  else
    path_Leaves_j8 m x3)
noncomputable def path_Leaves_j0 (m : Nat) (x0 : List Dt) (x1 : Int) (x2 : Int) (x3 : List Dt) : Option (List Dt) :=
  path_Leaves_l1 m (Nat.succ m) x0 x1 x2 x3
noncomputable def path_Leaves : Nat → Dt → List Dt → Option (List Dt)
  | 0, _, _ => none
  | m + 1, a0, a1 =>
    ((path_Reach m a0 a1).bind fun r0 =>
    path_Leaves_j0 m r0 (((List.length r0) : Nat) : Int) (0 : Int) [])
noncomputable def ref01_Parts_j3 (m : Nat) (rec1 : Int → Dt → List Dt → Option (List Dt)) (x0 : Int) (x1 : Dt) (x2 : List Dt) : Option (List Dt) :=
  rec1 (IntKind.wrap IntKind.i64 (x0 + (1 : Int))) x1 x2
noncomputable def ref01_Parts_j2 (m : Nat) (rec1 : Int → Dt → List Dt → Option (List Dt)) (x0 : Int) (x1 : Dt) (x2 : List Dt) : Option (List Dt) :=
  ((idx (Dt.L x1 3) x0).bind fun v0 =>
    ((app x2 [v0]).bind fun v1 =>
      ref01_Parts_j3 m rec1 x0 x1 v1))
noncomputable def ref01_Parts_j8 (m : Nat) (rec6 : Int → Dt → List Dt → Option (List Dt)) (x0 : Int) (x1 : Dt) (x2 : List Dt) : Option (List Dt) :=
  rec6 (IntKind.wrap IntKind.i64 (x0 + (1 : Int))) x1 x2
noncomputable def ref01_Parts_j7 (m : Nat) (rec6 : Int → Dt → List Dt → Option (List Dt)) (x0 : Int) (x1 : Dt) (x2 : List Dt) : Option (List Dt) :=
  ((idx (Dt.L x1 4) x0).bind fun v2 =>
    ((app x2 [(Dt.fld v2 1)]).bind fun v3 =>
      ref01_Parts_j8 m rec6 x0 x1 v3))
noncomputable def ref01_Parts_j9 (m : Nat) (x0 : List Dt) : Option (List Dt) :=
  some x0
noncomputable def ref01_Parts_l6 (m : Nat) : Nat → Int → Dt → List Dt → Option (List Dt)
  | 0, _, _, _ => none
  | M6 + 1, x0, x1, x2 =>
    (bif (decide (x0 < (((List.length (Dt.L x1 4)) : Nat) : Int))) then
    ref01_Parts_j7 m (ref01_Parts_l6 m M6) x0 x1 x2
  else
    ref01_Parts_j9 m x2)
noncomputable def ref01_Parts_j5 (m : Nat) (x0 : Int) (x1 : Dt) (x2 : List Dt) : Option (List Dt) :=
  ref01_Parts_l6 m (Nat.succ m) x0 x1 x2
noncomputable def ref01_Parts_j4 (m : Nat) (x0 : Dt) (x1 : List Dt) : Option (List Dt) :=
  (bif ((Dt.I x0 0) == (5 : Int)) then
    ref01_Parts_j5 m (0 : Int) x0 x1
  else
    ref01_Parts_j9 m x1)
noncomputable def ref01_Parts_l1 (m : Nat) : Nat → Int → Dt → List Dt → Option (List Dt)
  | 0, _, _, _ => none
  | M1 + 1, x0, x1, x2 =>
    (bif (decide (x0 < (((List.length (Dt.L x1 3)) : Nat) : Int))) then
    ref01_Parts_j2 m (ref01_Parts_l1 m M1) x0 x1 x2
  else
    ref01_Parts_j4 m x1 x2)
noncomputable def ref01_Parts_j0 (m : Nat) (x0 : Int) (x1 : Dt) (x2 : List Dt) : Option (List Dt) :=
  ref01_Parts_l1 m (Nat.succ m) x0 x1 x2
noncomputable def ref01_Parts : Nat → Dt → Option (List Dt)
  | 0, _ => none
  | m + 1, a0 =>
    (bif ((Dt.I a0 0) == (6 : Int)) then
    ref01_Parts_j0 m (0 : Int) a0 []
  else
    ref01_Parts_j4 m a0 [])
noncomputable def law04_holes_j3 (m : Nat) (self25 : Dt → Option (Bool)) (rec1 : List Dt → Int → Option (Bool)) (x0 : List Dt) (x1 : Int) : Option (Bool) :=
  rec1 x0 (IntKind.wrap IntKind.i64 (x1 + (1 : Int)))
noncomputable def law04_holes_j2 (m : Nat) (self25 : Dt → Option (Bool)) (rec1 : List Dt → Int → Option (Bool)) (x0 : List Dt) (x1 : Int) : Option (Bool) :=
  ((idx x0 x1).bind fun v1 =>
    (bif ((Dt.I v1 0) == (0 : Int)) then
      some Bool.true
    else
      ((idx x0 x1).bind fun v2 =>
        ((self25 v2).bind fun r3 =>
          (bif r3 then
            some Bool.true
          else
            law04_holes_j3 m self25 rec1 x0 x1)))))
noncomputable def law04_holes_j4 (m : Nat) (self25 : Dt → Option (Bool)) : Option (Bool) :=
  some Bool.false
noncomputable def law04_holes_l1 (m : Nat) (self25 : Dt → Option (Bool)) : Nat → List Dt → Int → Option (Bool)
  | 0, _, _ => none
  | M1 + 1, x0, x1 =>
    (bif (decide (x1 < (((List.length x0) : Nat) : Int))) then
    law04_holes_j2 m self25 (law04_holes_l1 m self25 M1) x0 x1
  else
    law04_holes_j4 m self25)
noncomputable def law04_holes_j0 (m : Nat) (self25 : Dt → Option (Bool)) (x0 : List Dt) (x1 : Int) : Option (Bool) :=
  law04_holes_l1 m self25 (Nat.succ m) x0 x1
noncomputable def law04_holes : Nat → Dt → Option (Bool)
  | 0, _ => none
  | m + 1, a0 =>
    ((ref01_Parts m a0).bind fun r0 =>
    law04_holes_j0 m (law04_holes m) r0 (0 : Int))
noncomputable def ref01_levels_j4 (m : Nat) (self42 : Dt → Int → Option (Int)) (rec2 : Int → List Dt → Int → Int → Option (Int)) (x0 : Int) (x1 : List Dt) (x2 : Int) (x3 : Int) : Option (Int) :=
  rec2 x0 x1 x2 (IntKind.wrap IntKind.i64 (x3 + (1 : Int)))
noncomputable def ref01_levels_j3 (m : Nat) (self42 : Dt → Int → Option (Int)) (rec2 : Int → List Dt → Int → Int → Option (Int)) (x0 : Int) (x1 : List Dt) (x2 : Int) (x3 : Int) : Option (Int) :=
  ((idx x1 x3).bind fun v1 =>
    ((self42 v1 (IntKind.wrap IntKind.i64 (x0 - (1 : Int)))).bind fun r2 =>
      ref01_levels_j4 m self42 rec2 x0 x1 (bif (decide (x2 < r2)) then r2 else x2) x3))
noncomputable def ref01_levels_j5 (m : Nat) (self42 : Dt → Int → Option (Int)) (x0 : Int) : Option (Int) :=
  some (IntKind.wrap IntKind.i64 (x0 + (1 : Int)))
noncomputable def ref01_levels_l2 (m : Nat) (self42 : Dt → Int → Option (Int)) : Nat → Int → List Dt → Int → Int → Option (Int)
  | 0, _, _, _, _ => none
  | M2 + 1, x0, x1, x2, x3 =>
    (bif (decide (x3 < (((List.length x1) : Nat) : Int))) then
    ref01_levels_j3 m self42 (ref01_levels_l2 m self42 M2) x0 x1 x2 x3
  else
    ref01_levels_j5 m self42 x2)
noncomputable def ref01_levels_j1 (m : Nat) (self42 : Dt → Int → Option (Int)) (x0 : Int) (x1 : List Dt) (x2 : Int) (x3 : Int) : Option (Int) :=
  ref01_levels_l2 m self42 (Nat.succ m) x0 x1 x2 x3
noncomputable def ref01_levels_j0 (m : Nat) (self42 : Dt → Int → Option (Int)) (x0 : Int) (x1 : List Dt) : Option (Int) :=
  ref01_levels_j1 m self42 x0 x1 (0 : Int) (0 : Int)
noncomputable def ref01_levels : Nat → Dt → Int → Option (Int)
  | 0, _, _ => none
  | m + 1, a0, a1 =>
    ((ref01_Parts m a0).bind fun r0 =>
    (bif (decide (a1 < (2 : Int))) then
      some (1 : Int)
    else
      (bif ((((List.length r0) : Nat) : Int) == (0 : Int)) then
        some (1 : Int)
      else
        ref01_levels_j0 m (ref01_levels m) a1 r0)))
noncomputable def ref01_Depth : Nat → Dt → Option (Int)
  | 0, _ => none
  | m + 1, a0 =>
    ((ref01_levels m a0 (17 : Int)).bind fun r0 =>
    some r0)
noncomputable def ref01_count_j3 (m : Nat) (self43 : Dt → Int → Option (Int)) (rec1 : Int → Int → List Dt → Int → Option (Int)) (x0 : Int) (x1 : Int) (x2 : List Dt) (x3 : Int) : Option (Int) :=
  rec1 x0 x1 x2 (IntKind.wrap IntKind.i64 (x3 + (1 : Int)))
noncomputable def ref01_count_j2 (m : Nat) (self43 : Dt → Int → Option (Int)) (rec1 : Int → Int → List Dt → Int → Option (Int)) (x0 : Int) (x1 : Int) (x2 : List Dt) (x3 : Int) : Option (Int) :=
  ((idx x2 x3).bind fun v1 =>
    ((self43 v1 (IntKind.wrap IntKind.i64 (x0 - x1))).bind fun r2 =>
      ref01_count_j3 m self43 rec1 x0 (IntKind.wrap IntKind.i64 (x1 + r2)) x2 x3))
noncomputable def ref01_count_j4 (m : Nat) (self43 : Dt → Int → Option (Int)) (x0 : Int) : Option (Int) :=
  some x0
noncomputable def ref01_count_l1 (m : Nat) (self43 : Dt → Int → Option (Int)) : Nat → Int → Int → List Dt → Int → Option (Int)
  | 0, _, _, _, _ => none
  | M1 + 1, x0, x1, x2, x3 =>
    (bif (decide (x3 < (((List.length x2) : Nat) : Int))) then
    (bif (decide (x1 < x0)) then
      ref01_count_j2 m self43 (ref01_count_l1 m self43 M1) x0 x1 x2 x3
    else
      ref01_count_j4 m self43 x1)
  else
    ref01_count_j4 m self43 x1)
noncomputable def ref01_count_j0 (m : Nat) (self43 : Dt → Int → Option (Int)) (x0 : Int) (x1 : Int) (x2 : List Dt) (x3 : Int) : Option (Int) :=
  ref01_count_l1 m self43 (Nat.succ m) x0 x1 x2 x3
noncomputable def ref01_count : Nat → Dt → Int → Option (Int)
  | 0, _, _ => none
  | m + 1, a0, a1 =>
    ((ref01_Parts m a0).bind fun r0 =>
    ref01_count_j0 m (ref01_count m) a1 (1 : Int) r0 (0 : Int))
noncomputable def ref01_Nodes : Nat → Dt → Option (Int)
  | 0, _ => none
  | m + 1, a0 =>
    ((ref01_count m a0 (1025 : Int)).bind fun r0 =>
    some r0)
noncomputable def law04_small : Nat → Dt → List Dt → Option (Bool)
  | 0, _, _ => none
  | m + 1, a0, a1 =>
    ((ref01_Depth m a0).bind fun r0 =>
    (bif (decide (r0 ≤ (16 : Int))) then
      ((ref01_Nodes m a0).bind fun r1 =>
        (bif (decide (r1 ≤ (1024 : Int))) then
          some (decide ((((List.length a1) : Nat) : Int) ≤ (20 : Int)))
        else
          some Bool.false))
    else
      some Bool.false))
noncomputable def law04_PathLeaves_j6 (m : Nat) (rec2 : List Dt → List Dt → List Dt → Int → Int → Dt → Option (Bool)) (x0 : List Dt) (x1 : List Dt) (x2 : List Dt) (x3 : Int) (x4 : Int) (x5 : Dt) : Option (Bool) :=
  rec2 x0 x1 x2 x3 (IntKind.wrap IntKind.i64 (x4 + (1 : Int))) x5
noncomputable def law04_PathLeaves_j5 (m : Nat) (rec2 : List Dt → List Dt → List Dt → Int → Int → Dt → Option (Bool)) (x0 : List Dt) (x1 : List Dt) (x2 : List Dt) (x3 : Int) (x4 : Int) (x5 : Int) (x6 : Dt) : Option (Bool) :=
  law04_PathLeaves_j6 m rec2 x0 x1 x2 (IntKind.wrap IntKind.i64 (x3 + x5)) x4 x6
noncomputable def law04_PathLeaves_j4 (m : Nat) (rec2 : List Dt → List Dt → List Dt → Int → Int → Dt → Option (Bool)) (x0 : List Dt) (x1 : List Dt) (x2 : List Dt) (x3 : Int) (x4 : Int) (x5 : Int) (x6 : Dt) : Option (Bool) :=
  (bif (decide ((((List.length x2) : Nat) : Int) < (IntKind.wrap IntKind.i64 (x3 + x5)))) then
    some Bool.false
  else
    ((idx x2 x3).bind fun v6 =>
      ((idx x1 x4).bind fun v7 =>
        ((ref01_Same m v6 v7).bind fun r8 =>
          (bif (Bool.not r8) then
            some Bool.false
          else
            (bif (decide ((1 : Int) < x5)) then
              ((cutL x2 (IntKind.wrap IntKind.i64 (x3 + (1 : Int))) (IntKind.wrap IntKind.i64 (x3 + x5))).bind fun v9 =>
                ((idx x1 x4).bind fun v10 =>
                  ((ref01_SameList m v9 (Dt.L v10 3)).bind fun r11 =>
                    (bif (Bool.not r11) then
                      some Bool.false
                    else
                      ((idx x1 x4).bind fun v12 =>
                        (bif ((Dt.I v12 0) == (0 : Int)) then
                          (bif (decide ((0 : Int) < (((List.length x0) : Nat) : Int))) then
                            (bif (decide ((1 : Int) < (((List.length x1) : Nat) : Int))) then
                              ((law04_holes m x6).bind fun r13 =>
                                (bif (Bool.not r13) then
                                  some Bool.false
                                else
                                  law04_PathLeaves_j5 m rec2 x0 x1 x2 x3 x4 x5 x6))
                            else
                              law04_PathLeaves_j5 m rec2 x0 x1 x2 x3 x4 x5 x6)
                          else
                            law04_PathLeaves_j5 m rec2 x0 x1 x2 x3 x4 x5 x6)
                        else
                          law04_PathLeaves_j5 m rec2 x0 x1 x2 x3 x4 x5 x6))))))
            else
              ((idx x1 x4).bind fun v14 =>
                (bif ((Dt.I v14 0) == (0 : Int)) then
                  (bif (decide ((0 : Int) < (((List.length x0) : Nat) : Int))) then
                    (bif (decide ((1 : Int) < (((List.length x1) : Nat) : Int))) then
                      ((law04_holes m x6).bind fun r15 =>
                        (bif (Bool.not r15) then
                          some Bool.false
                        else
                          law04_PathLeaves_j5 m rec2 x0 x1 x2 x3 x4 x5 x6))
                    else
                      law04_PathLeaves_j5 m rec2 x0 x1 x2 x3 x4 x5 x6)
                  else
                    law04_PathLeaves_j5 m rec2 x0 x1 x2 x3 x4 x5 x6)
                else
                  law04_PathLeaves_j5 m rec2 x0 x1 x2 x3 x4 x5 x6))))))))
noncomputable def law04_PathLeaves_j3 (m : Nat) (rec2 : List Dt → List Dt → List Dt → Int → Int → Dt → Option (Bool)) (x0 : List Dt) (x1 : List Dt) (x2 : List Dt) (x3 : Int) (x4 : Int) (x5 : Dt) : Option (Bool) :=
  ((idx x1 x4).bind fun v4 =>
    (bif ((Dt.I v4 0) == (6 : Int)) then
      ((idx x1 x4).bind fun v5 =>
        law04_PathLeaves_j4 m rec2 x0 x1 x2 x3 x4 (IntKind.wrap IntKind.i64 ((1 : Int) + (((List.length (Dt.L v5 3)) : Nat) : Int))) x5)
    else
      law04_PathLeaves_j4 m rec2 x0 x1 x2 x3 x4 (1 : Int) x5))
noncomputable def law04_PathLeaves_j7 (m : Nat) (x0 : List Dt) (x1 : List Dt) (x2 : Int) : Option (Bool) :=
  (bif (decide ((0 : Int) < (((List.length x0) : Nat) : Int))) then
    (bif (x2 == (((List.length x1) : Nat) : Int)) then
      ((awakeC).bind fun r16 =>
        some r16)
    else
      some Bool.false)
  else
    some Bool.false)
noncomputable def law04_PathLeaves_l2 (m : Nat) : Nat → List Dt → List Dt → List Dt → Int → Int → Dt → Option (Bool)
  | 0, _, _, _, _, _, _ => none
  | M2 + 1, x0, x1, x2, x3, x4, x5 =>
    (bif (decide (x4 < (((List.length x1) : Nat) : Int))) then
    law04_PathLeaves_j3 m (law04_PathLeaves_l2 m M2) x0 x1 x2 x3 x4 x5
  else
    law04_PathLeaves_j7 m x1 x2 x3)
noncomputable def law04_PathLeaves_j1 (m : Nat) (x0 : List Dt) (x1 : List Dt) (x2 : List Dt) (x3 : Int) (x4 : Int) (x5 : Dt) : Option (Bool) :=
  law04_PathLeaves_l2 m (Nat.succ m) x0 x1 x2 x3 x4 x5
noncomputable def law04_PathLeaves_j0 (m : Nat) (x0 : List Dt) (x1 : Dt) : Option (Bool) :=
  ((path_Reach m x1 x0).bind fun r2 =>
    ((path_Leaves m x1 x0).bind fun r3 =>
      law04_PathLeaves_j1 m x0 r2 r3 (0 : Int) (0 : Int) x1))
noncomputable def law04_PathLeaves : Nat → Dt → List Dt → Option (Bool)
  | 0, _, _ => none
  | m + 1, a0, a1 =>
    ((law04_small m a0 a1).bind fun r0 =>
    (bif (Bool.not r0) then
      ((awakeC).bind fun r1 =>
        some r1)
    else
      law04_PathLeaves_j0 m a1 a0))
noncomputable def ref01_at_j4 (m : Nat) (rec2 : ByteArray → Int → Dt → Option (Int)) (x0 : ByteArray) (x1 : Int) (x2 : Dt) : Option (Int) :=
  rec2 x0 (IntKind.wrap IntKind.i64 (x1 + (1 : Int))) x2
noncomputable def ref01_at_j3 (m : Nat) (rec2 : ByteArray → Int → Dt → Option (Int)) (x0 : ByteArray) (x1 : Int) (x2 : Dt) : Option (Int) :=
  ((idx (Dt.L x2 4) x1).bind fun v0 =>
    (bif ((ByteArray.toList (Dt.S v0 0)) == (ByteArray.toList x0)) then
      some x1
    else
      ref01_at_j4 m rec2 x0 x1 x2))
noncomputable def ref01_at_j5 (m : Nat) : Option (Int) :=
  some (-1 : Int)
noncomputable def ref01_at_l2 (m : Nat) : Nat → ByteArray → Int → Dt → Option (Int)
  | 0, _, _, _ => none
  | M2 + 1, x0, x1, x2 =>
    (bif (decide (x1 < (((List.length (Dt.L x2 4)) : Nat) : Int))) then
    ref01_at_j3 m (ref01_at_l2 m M2) x0 x1 x2
  else
    ref01_at_j5 m)
noncomputable def ref01_at_j1 (m : Nat) (x0 : ByteArray) (x1 : Int) (x2 : Dt) : Option (Int) :=
  ref01_at_l2 m (Nat.succ m) x0 x1 x2
noncomputable def ref01_at_j0 (m : Nat) (x0 : ByteArray) (x1 : Dt) : Option (Int) :=
  ref01_at_j1 m x0 (0 : Int) x1
noncomputable def ref01_at : Nat → Dt → ByteArray → Option (Int)
  | 0, _, _ => none
  | m + 1, a0, a1 =>
    (bif ((Dt.I a0 0) != (5 : Int)) then
    some (-1 : Int)
  else
    ref01_at_j0 m a1 a0)
noncomputable def ref01_Get_j0 (m : Nat) (x0 : Int) (x1 : Dt) (x2 : Dt) : Option (Dt × Bool) :=
  ((idx (Dt.L x1 4) x0).bind fun v1 =>
    some ((Dt.fld v1 1), Bool.true))
noncomputable def ref01_Get : Nat → Dt → ByteArray → Option (Dt × Bool)
  | 0, _, _ => none
  | m + 1, a0, a1 =>
    ((ref01_at m a0 a1).bind fun r0 =>
    (bif (decide (r0 < (0 : Int))) then
      some ((Dt.agg [(Dt.int (0 : Int)), (Dt.int (0 : Int)), (Dt.str (ByteArray.mk (List.toArray []))), (Dt.lst []), (Dt.lst [])]), Bool.false)
    else
      ref01_Get_j0 m r0 a0 (Dt.agg [(Dt.int (0 : Int)), (Dt.int (0 : Int)), (Dt.str (ByteArray.mk (List.toArray []))), (Dt.lst []), (Dt.lst [])])))
noncomputable def ref04_Pass_j1 (m : Nat) (self40 : Dt → List Dt → Option (List Dt)) : Option (List Dt) :=
  some []
noncomputable def ref04_Pass_j7 (m : Nat) (self40 : Dt → List Dt → Option (List Dt)) (rec5 : List Dt → Int → Dt → List Dt → Option (List Dt)) (x0 : List Dt) (x1 : Int) (x2 : Dt) (x3 : List Dt) : Option (List Dt) :=
  rec5 x0 (IntKind.wrap IntKind.i64 (x1 + (1 : Int))) x2 x3
noncomputable def ref04_Pass_j6 (m : Nat) (self40 : Dt → List Dt → Option (List Dt)) (rec5 : List Dt → Int → Dt → List Dt → Option (List Dt)) (x0 : List Dt) (x1 : Int) (x2 : Dt) (x3 : List Dt) : Option (List Dt) :=
  ((idx (Dt.L x2 3) x1).bind fun v4 =>
    (bif ((Dt.I v4 0) == (5 : Int)) then
      ((idx (Dt.L x2 3) x1).bind fun v5 =>
        ((self40 v5 x0).bind fun r6 =>
          ((app x3 r6).bind fun v7 =>
            ref04_Pass_j7 m self40 rec5 x0 x1 x2 v7)))
    else
      ref04_Pass_j7 m self40 rec5 x0 x1 x2 x3))
noncomputable def ref04_Pass_j9 (m : Nat) (self40 : Dt → List Dt → Option (List Dt)) (x0 : List Dt) : Option (List Dt) :=
  some x0
noncomputable def ref04_Pass_j8 (m : Nat) (self40 : Dt → List Dt → Option (List Dt)) (x0 : List Dt) (x1 : Dt) (x2 : List Dt) : Option (List Dt) :=
  ((idx x0 (0 : Int)).bind fun v8 =>
    ((ref04_Number m (Dt.toStr v8)).bind fun r9 =>
      (bif (Prod.snd r9) then
        (bif (decide ((Prod.fst r9) < (((List.length (Dt.L x1 3)) : Nat) : Int))) then
          ((idx (Dt.L x1 3) (Prod.fst r9)).bind fun v10 =>
            ((cutL x0 (1 : Int) (((List.length x0) : Nat) : Int)).bind fun v11 =>
              ((self40 v10 v11).bind fun r12 =>
                ((app x2 r12).bind fun v13 =>
                  ref04_Pass_j9 m self40 v13))))
        else
          ref04_Pass_j9 m self40 x2)
      else
        ref04_Pass_j9 m self40 x2)))
noncomputable def ref04_Pass_l5 (m : Nat) (self40 : Dt → List Dt → Option (List Dt)) : Nat → List Dt → Int → Dt → List Dt → Option (List Dt)
  | 0, _, _, _, _ => none
  | M5 + 1, x0, x1, x2, x3 =>
    (bif (decide (x1 < (((List.length (Dt.L x2 3)) : Nat) : Int))) then
    ref04_Pass_j6 m self40 (ref04_Pass_l5 m self40 M5) x0 x1 x2 x3
  else
    ref04_Pass_j8 m self40 x0 x2 x3)
noncomputable def ref04_Pass_j4 (m : Nat) (self40 : Dt → List Dt → Option (List Dt)) (x0 : List Dt) (x1 : Int) (x2 : Dt) (x3 : List Dt) : Option (List Dt) :=
  ref04_Pass_l5 m self40 (Nat.succ m) x0 x1 x2 x3
noncomputable def ref04_Pass_j3 (m : Nat) (self40 : Dt → List Dt → Option (List Dt)) (x0 : List Dt) (x1 : Dt) : Option (List Dt) :=
  ref04_Pass_j4 m self40 x0 (0 : Int) x1 []
noncomputable def ref04_Pass_j2 (m : Nat) (self40 : Dt → List Dt → Option (List Dt)) (x0 : List Dt) (x1 : Dt) : Option (List Dt) :=
  (bif ((Dt.I x1 0) != (6 : Int)) then
    some []
  else
    ref04_Pass_j3 m self40 x0 x1)
noncomputable def ref04_Pass_j0 (m : Nat) (self40 : Dt → List Dt → Option (List Dt)) (x0 : List Dt) (x1 : Dt) : Option (List Dt) :=
  (bif ((Dt.I x1 0) == (5 : Int)) then
    ((idx x0 (0 : Int)).bind fun v0 =>
      ((ref01_Get m x1 (Dt.toStr v0)).bind fun r1 =>
        (bif (Prod.snd r1) then
          ((cutL x0 (1 : Int) (((List.length x0) : Nat) : Int)).bind fun v2 =>
            ((self40 (Prod.fst r1) v2).bind fun r3 =>
              some r3))
        else
          ref04_Pass_j1 m self40)))
  else
    ref04_Pass_j2 m self40 x0 x1)
noncomputable def ref04_Pass : Nat → Dt → List Dt → Option (List Dt)
  | 0, _, _ => none
  | m + 1, a0, a1 =>
    (bif ((((List.length a1) : Nat) : Int) == (0 : Int)) then
    some [a0]
  else
    ref04_Pass_j0 m (ref04_Pass m) a1 a0)
noncomputable def ref04_Reach_j0 (m : Nat) (x0 : List Dt) : Option (List Dt) :=
  some x0
noncomputable def ref04_Reach : Nat → Dt → List Dt → Option (List Dt)
  | 0, _, _ => none
  | m + 1, a0, a1 =>
    ((ref04_Pass m a0 a1).bind fun r0 =>
    (bif ((((List.length r0) : Nat) : Int) == (0 : Int)) then
      some [(Dt.agg [(Dt.int (0 : Int)), (Dt.int (0 : Int)), (Dt.str (ByteArray.mk (List.toArray []))), (Dt.lst []), (Dt.lst [])])]
    else
      ref04_Reach_j0 m r0))
noncomputable def ref04_Leaves_j3 (m : Nat) (rec1 : List Dt → Int → List Dt → Option (List Dt)) (x0 : List Dt) (x1 : Int) (x2 : List Dt) : Option (List Dt) :=
  rec1 x0 (IntKind.wrap IntKind.i64 (x1 + (1 : Int))) x2
noncomputable def ref04_Leaves_j2 (m : Nat) (rec1 : List Dt → Int → List Dt → Option (List Dt)) (x0 : List Dt) (x1 : Int) (x2 : List Dt) : Option (List Dt) :=
  ((idx x0 x1).bind fun v1 =>
    ((app x2 [v1]).bind fun v2 =>
      ((idx x0 x1).bind fun v3 =>
        (bif ((Dt.I v3 0) == (6 : Int)) then
          ((idx x0 x1).bind fun v4 =>
            ((app v2 (Dt.L v4 3)).bind fun v5 =>
              ref04_Leaves_j3 m rec1 x0 x1 v5))
        else
          ref04_Leaves_j3 m rec1 x0 x1 v2))))
noncomputable def ref04_Leaves_j4 (m : Nat) (x0 : List Dt) : Option (List Dt) :=
  some x0
noncomputable def ref04_Leaves_l1 (m : Nat) : Nat → List Dt → Int → List Dt → Option (List Dt)
  | 0, _, _, _ => none
  | M1 + 1, x0, x1, x2 =>
    (bif (decide (x1 < (((List.length x0) : Nat) : Int))) then
    ref04_Leaves_j2 m (ref04_Leaves_l1 m M1) x0 x1 x2
  else
    ref04_Leaves_j4 m x2)
noncomputable def ref04_Leaves_j0 (m : Nat) (x0 : List Dt) (x1 : Int) (x2 : List Dt) : Option (List Dt) :=
  ref04_Leaves_l1 m (Nat.succ m) x0 x1 x2
noncomputable def ref04_Leaves : Nat → Dt → List Dt → Option (List Dt)
  | 0, _, _ => none
  | m + 1, a0, a1 =>
    ((ref04_Reach m a0 a1).bind fun r0 =>
    ref04_Leaves_j0 m r0 (0 : Int) [])
noncomputable def law04_PathReaches_j0 (m : Nat) (x0 : List Dt) (x1 : Dt) : Option (Bool) :=
  ((path_Reach m x1 x0).bind fun r2 =>
    ((ref04_Reach m x1 x0).bind fun r3 =>
      ((ref01_SameList m r2 r3).bind fun r4 =>
        (bif r4 then
          ((path_Leaves m x1 x0).bind fun r5 =>
            ((ref04_Leaves m x1 x0).bind fun r6 =>
              ((ref01_SameList m r5 r6).bind fun r7 =>
                (bif r7 then
                  ((awakeC).bind fun r8 =>
                    some r8)
                else
                  some Bool.false))))
        else
          some Bool.false))))
noncomputable def law04_PathReaches : Nat → Dt → List Dt → Option (Bool)
  | 0, _, _ => none
  | m + 1, a0, a1 =>
    ((law04_small m a0 a1).bind fun r0 =>
    (bif (Bool.not r0) then
      ((awakeC).bind fun r1 =>
        some r1)
    else
      law04_PathReaches_j0 m a1 a0))
end Go.Proofs.YtmjnmiahblaanaaDoor
