/- Generated: what the Go functions compute, over plain data. -/
import Derived.Test.YtacchdeihafmnaaDoorAm20
import Derived.Test.YtacchdeihafmnaaDoorOAwake
set_option linter.unusedVariables false
set_option linter.unusedSimpArgs false
namespace Go.Proofs.YtacchdeihafmnaaDoor
open Go.Am
noncomputable def law03_SameList_j4 (m : Nat) (self13 : Dt → Dt → Option (Bool)) (rec2 : List Dt → List Dt → Int → Int → Option (Bool)) (x0 x1 : List Dt) (x2 x3 : Int) : Option (Bool) :=
  rec2 x0 x1 x2 (IntKind.wrap IntKind.i64 (x3 + (1 : Int)))
noncomputable def law03_SameList_j3 (m : Nat) (self13 : Dt → Dt → Option (Bool)) (rec2 : List Dt → List Dt → Int → Int → Option (Bool)) (x0 x1 : List Dt) (x2 x3 : Int) : Option (Bool) :=
  ((idx x0 x3).bind fun v0 =>
    ((idx x1 x3).bind fun v1 =>
     ((self13 v0 v1).bind fun r2 =>
     (bif (Bool.not r2) then
     some Bool.false
     else
     law03_SameList_j4 m self13 rec2 x0 x1 x2 x3))))
noncomputable def law03_SameList_j5 (m : Nat) (self13 : Dt → Dt → Option (Bool)) : Option (Bool) :=
  some Bool.true
noncomputable def law03_SameList_l2 (m : Nat) (self13 : Dt → Dt → Option (Bool)) : Nat → List Dt → List Dt → Int → Int → Option (Bool)
  | 0, _, _, _, _ => none
  | M2 + 1, x0, x1, x2, x3 =>
    (bif (decide (x3 < x2)) then
    law03_SameList_j3 m self13 (law03_SameList_l2 m self13 M2) x0 x1 x2 x3
  else
    law03_SameList_j5 m self13)
noncomputable def law03_SameList_j1 (m : Nat) (self13 : Dt → Dt → Option (Bool)) (x0 x1 : List Dt) (x2 x3 : Int) : Option (Bool) :=
  law03_SameList_l2 m self13 (Nat.succ m) x0 x1 x2 x3
noncomputable def law03_SameList_j0 (m : Nat) (self13 : Dt → Dt → Option (Bool)) (x0 x1 : List Dt) : Option (Bool) :=
  law03_SameList_j1 m self13 x0 x1 (((List.length x0) : Nat) : Int) (0 : Int)
noncomputable def law03_Same_j4 (m : Nat) (self6 : List Dt → List Dt → Option (Bool)) (self13 : Dt → Dt → Option (Bool)) (rec2 : Int → Int → Dt → Dt → Option (Bool)) (x0 x1 : Int) (x2 x3 : Dt) : Option (Bool) :=
  rec2 x0 (IntKind.wrap IntKind.i64 (x1 + (1 : Int))) x2 x3
noncomputable def law03_Same_j3 (m : Nat) (self6 : List Dt → List Dt → Option (Bool)) (self13 : Dt → Dt → Option (Bool)) (rec2 : Int → Int → Dt → Dt → Option (Bool)) (x0 x1 : Int) (x2 x3 : Dt) : Option (Bool) :=
  ((idx (Dt.L x2 4) x1).bind fun v0 =>
    ((idx (Dt.L x3 4) x1).bind fun v1 =>
     (bif (Bool.not ((ByteArray.toList (Dt.S v0 0)) == (ByteArray.toList (Dt.S v1 0)))) then
     some Bool.false
     else
     ((idx (Dt.L x2 4) x1).bind fun v2 =>
     ((idx (Dt.L x3 4) x1).bind fun v3 =>
     ((self13 (Dt.fld v2 1) (Dt.fld v3 1)).bind fun r4 =>
     (bif (Bool.not r4) then
     some Bool.false
     else
     law03_Same_j4 m self6 self13 rec2 x0 x1 x2 x3)))))))
noncomputable def law03_Same_j5 (m : Nat) (self6 : List Dt → List Dt → Option (Bool)) (self13 : Dt → Dt → Option (Bool)) (x0 x1 : Dt) : Option (Bool) :=
  ((self6 (Dt.L x0 3) (Dt.L x1 3)).bind fun r5 =>
    some r5)
noncomputable def law03_Same_l2 (m : Nat) (self6 : List Dt → List Dt → Option (Bool)) (self13 : Dt → Dt → Option (Bool)) : Nat → Int → Int → Dt → Dt → Option (Bool)
  | 0, _, _, _, _ => none
  | M2 + 1, x0, x1, x2, x3 =>
    (bif (decide (x1 < x0)) then
    law03_Same_j3 m self6 self13 (law03_Same_l2 m self6 self13 M2) x0 x1 x2 x3
  else
    law03_Same_j5 m self6 self13 x2 x3)
noncomputable def law03_Same_j1 (m : Nat) (self6 : List Dt → List Dt → Option (Bool)) (self13 : Dt → Dt → Option (Bool)) (x0 x1 : Int) (x2 x3 : Dt) : Option (Bool) :=
  law03_Same_l2 m self6 self13 (Nat.succ m) x0 x1 x2 x3
noncomputable def law03_Same_j0 (m : Nat) (self6 : List Dt → List Dt → Option (Bool)) (self13 : Dt → Dt → Option (Bool)) (x0 x1 : Dt) : Option (Bool) :=
  law03_Same_j1 m self6 self13 (((List.length (Dt.L x0 4)) : Nat) : Int) (0 : Int) x0 x1
mutual
noncomputable def law03_SameList : Nat → List Dt → List Dt → Option (Bool)
  | 0, _, _ => none
  | m + 1, a0, a1 =>
    (bif ((((List.length a0) : Nat) : Int) != (((List.length a1) : Nat) : Int)) then
    some Bool.false
  else
    law03_SameList_j0 m (law03_Same m) a0 a1)
noncomputable def law03_Same : Nat → Dt → Dt → Option (Bool)
  | 0, _, _ => none
  | m + 1, a0, a1 =>
    (bif ((Dt.I a0 0) != (Dt.I a1 0)) then
    some Bool.false
  else
    (bif ((Dt.I a0 1) != (Dt.I a1 1)) then
     some Bool.false
    else
     (bif (Bool.not ((ByteArray.toList (Dt.S a0 2)) == (ByteArray.toList (Dt.S a1 2)))) then
     some Bool.false
     else
     (bif ((((List.length (Dt.L a0 4)) : Nat) : Int) != (((List.length (Dt.L a1 4)) : Nat) : Int)) then
     some Bool.false
     else
     law03_Same_j0 m (law03_SameList m) (law03_Same m) a0 a1))))
end
noncomputable def i25_j3 (m : Nat) (rec1 : Int → Int → Int → Int → List Dt → List Dt → Option (List Dt × List Dt)) (x0 x1 x2 x3 : Int) (x4 x5 : List Dt) : Option (List Dt × List Dt) :=
  rec1 x0 x1 x2 (IntKind.wrap IntKind.i64 (x3 + (1 : Int))) x4 x5
noncomputable def i25_j2 (m : Nat) (rec1 : Int → Int → Int → Int → List Dt → List Dt → Option (List Dt × List Dt)) (x0 x1 x2 x3 : Int) (x4 x5 : List Dt) : Option (List Dt × List Dt) :=
  ((inL x4 (IntKind.wrap IntKind.i64 (x1 + x3))).bind fun v0 =>
    ((x4[(Int.toNat (IntKind.wrap IntKind.i64 (x1 + x3)))]?).bind fun v1 =>
     ((inL x4 (IntKind.wrap IntKind.i64 (x0 + x3))).bind fun v2 =>
     ((x4[(Int.toNat (IntKind.wrap IntKind.i64 (x0 + x3)))]?).bind fun v3 =>
     ((inL x4 (IntKind.wrap IntKind.i64 (x0 + x3))).bind fun v4 =>
     ((x4[(Int.toNat (IntKind.wrap IntKind.i64 (x0 + x3)))]?).bind fun v5 =>
     ((inL (List.set x4 (Int.toNat (IntKind.wrap IntKind.i64 (x0 + x3))) v1) (IntKind.wrap IntKind.i64 (x1 + x3))).bind fun v6 =>
     (((List.set x4 (Int.toNat (IntKind.wrap IntKind.i64 (x0 + x3))) v1)[(Int.toNat (IntKind.wrap IntKind.i64 (x1 + x3)))]?).bind fun v7 =>
     i25_j3 m rec1 x0 x1 x2 x3 (List.set (List.set x4 (Int.toNat (IntKind.wrap IntKind.i64 (x0 + x3))) v1) (Int.toNat (IntKind.wrap IntKind.i64 (x1 + x3))) v3) x5))))))))
noncomputable def i25_l1 (m : Nat) : Nat → Int → Int → Int → Int → List Dt → List Dt → Option (List Dt × List Dt)
  | 0, _, _, _, _, _, _ => none
  | M1 + 1, x0, x1, x2, x3, x4, x5 =>
    (bif (decide (x3 < x2)) then
    i25_j2 m (i25_l1 m M1) x0 x1 x2 x3 x4 x5
  else
    some (x4, x5))
noncomputable def i25_j0 (m : Nat) (x0 x1 x2 x3 : Int) (x4 x5 : List Dt) : Option (List Dt × List Dt) :=
  i25_l1 m (Nat.succ m) x0 x1 x2 x3 x4 x5
noncomputable def i25 : Nat → Int → Int → Int → List Dt → List Dt → Option (List Dt × List Dt)
  | 0, _, _, _, _, _ => none
  | m + 1, a0, a1, a2, a3, a4 =>
    i25_j0 m a0 a1 a2 (0 : Int) a3 a4
noncomputable def i24_j2 (m : Nat) (rec1 : Int → Int → Int → List Dt → List Dt → Option (List Dt × List Dt)) (x0 x1 x2 : Int) (x3 x4 : List Dt) : Option (List Dt × List Dt) :=
  (bif (decide (x2 < x1)) then
    ((i25 m (IntKind.wrap IntKind.i64 (x0 - x1)) x0 x2 x3 x4).bind fun r0 =>
     rec1 x0 (IntKind.wrap IntKind.i64 (x1 - x2)) x2 (Prod.fst r0) (Prod.snd r0))
  else
    ((i25 m (IntKind.wrap IntKind.i64 (x0 - x1)) (IntKind.wrap IntKind.i64 ((IntKind.wrap IntKind.i64 (x0 + x2)) - x1)) x1 x3 x4).bind fun r1 =>
     rec1 x0 x1 (IntKind.wrap IntKind.i64 (x2 - x1)) (Prod.fst r1) (Prod.snd r1)))
noncomputable def i24_j3 (m : Nat) (x0 x1 : Int) (x2 x3 : List Dt) : Option (List Dt × List Dt) :=
  ((i25 m (IntKind.wrap IntKind.i64 (x0 - x1)) x0 x1 x2 x3).bind fun r2 =>
    some ((Prod.fst r2), (Prod.snd r2)))
noncomputable def i24_l1 (m : Nat) : Nat → Int → Int → Int → List Dt → List Dt → Option (List Dt × List Dt)
  | 0, _, _, _, _, _ => none
  | M1 + 1, x0, x1, x2, x3, x4 =>
    (bif (x1 != x2) then
    i24_j2 m (i24_l1 m M1) x0 x1 x2 x3 x4
  else
    i24_j3 m x0 x1 x3 x4)
noncomputable def i24_j0 (m : Nat) (x0 x1 x2 : Int) (x3 x4 : List Dt) : Option (List Dt × List Dt) :=
  i24_l1 m (Nat.succ m) x0 x1 x2 x3 x4
noncomputable def i24 : Nat → Int → Int → Int → List Dt → List Dt → Option (List Dt × List Dt)
  | 0, _, _, _, _, _ => none
  | m + 1, a0, a1, a2, a3, a4 =>
    i24_j0 m a1 (IntKind.wrap IntKind.i64 (a1 - a0)) (IntKind.wrap IntKind.i64 (a2 - a1)) a3 a4
noncomputable def order_clone_j3 (m : Nat) (self26 : Dt → Option (Dt)) (rec1 : List Dt → Int → Int → Dt → Dt → Int → Int → ByteArray → List Dt → Option (Dt)) (x0 : List Dt) (x1 x2 : Int) (x3 x4 : Dt) (x5 x6 : Int) (x7 : ByteArray) (x8 : List Dt) : Option (Dt) :=
  rec1 x0 x1 (IntKind.wrap IntKind.i64 (x2 + (1 : Int))) x3 x4 x5 x6 x7 x8
noncomputable def order_clone_j2 (m : Nat) (self26 : Dt → Option (Dt)) (rec1 : List Dt → Int → Int → Dt → Dt → Int → Int → ByteArray → List Dt → Option (Dt)) (x0 : List Dt) (x1 x2 : Int) (x3 x4 : Dt) (x5 x6 : Int) (x7 : ByteArray) (x8 : List Dt) : Option (Dt) :=
  ((idx x0 x2).bind fun v1 =>
    ((self26 v1).bind fun r2 =>
     ((inL x8 x2).bind fun v3 =>
     ((x8[(Int.toNat x2)]?).bind fun v4 =>
     order_clone_j3 m self26 rec1 x0 x1 x2 x3 x4 x5 x6 x7 (List.set x8 (Int.toNat x2) r2)))))
noncomputable def order_clone_j8 (m : Nat) (self26 : Dt → Option (Dt)) (rec6 : List Dt → Int → Int → Dt → Int → Int → ByteArray → List Dt → List Dt → Option (Dt)) (x0 : List Dt) (x1 x2 : Int) (x3 : Dt) (x4 x5 : Int) (x6 : ByteArray) (x7 x8 : List Dt) : Option (Dt) :=
  rec6 x0 x1 (IntKind.wrap IntKind.i64 (x2 + (1 : Int))) x3 x4 x5 x6 x7 x8
noncomputable def order_clone_j7 (m : Nat) (self26 : Dt → Option (Dt)) (rec6 : List Dt → Int → Int → Dt → Int → Int → ByteArray → List Dt → List Dt → Option (Dt)) (x0 : List Dt) (x1 x2 : Int) (x3 : Dt) (x4 x5 : Int) (x6 : ByteArray) (x7 x8 : List Dt) : Option (Dt) :=
  ((idx x0 x2).bind fun v6 =>
    ((self26 (Dt.fld v6 1)).bind fun r7 =>
     ((inL x8 x2).bind fun v8 =>
     ((x8[(Int.toNat x2)]?).bind fun v9 =>
     order_clone_j8 m self26 rec6 x0 x1 x2 x3 x4 x5 x6 x7 (List.set x8 (Int.toNat x2) (Dt.agg [(Dt.str (Dt.S v6 0)), r7]))))))
noncomputable def order_clone_j9 (m : Nat) (self26 : Dt → Option (Dt)) (x0 : Dt) (x1 x2 : Int) (x3 : ByteArray) (x4 x5 : List Dt) : Option (Dt) :=
  some (Dt.agg [(Dt.int x1), (Dt.int x2), (Dt.str x3), (Dt.lst x4), (Dt.lst x5)])
noncomputable def order_clone_l6 (m : Nat) (self26 : Dt → Option (Dt)) : Nat → List Dt → Int → Int → Dt → Int → Int → ByteArray → List Dt → List Dt → Option (Dt)
  | 0, _, _, _, _, _, _, _, _, _ => none
  | M6 + 1, x0, x1, x2, x3, x4, x5, x6, x7, x8 =>
    (bif (decide (x2 < x1)) then
    order_clone_j7 m self26 (order_clone_l6 m self26 M6) x0 x1 x2 x3 x4 x5 x6 x7 x8
  else
    order_clone_j9 m self26 x3 x4 x5 x6 x7 x8)
noncomputable def order_clone_j5 (m : Nat) (self26 : Dt → Option (Dt)) (x0 : List Dt) (x1 x2 : Int) (x3 : Dt) (x4 x5 : Int) (x6 : ByteArray) (x7 x8 : List Dt) : Option (Dt) :=
  order_clone_l6 m self26 (Nat.succ m) x0 x1 x2 x3 x4 x5 x6 x7 x8
noncomputable def order_clone_j10 (m : Nat) (self26 : Dt → Option (Dt)) (x0 : Dt) (x1 x2 : Int) (x3 : ByteArray) (x4 : List Dt) : Option (Dt) :=
  some (Dt.agg [(Dt.int x1), (Dt.int x2), (Dt.str x3), (Dt.lst x4), (Dt.lst [])])
noncomputable def order_clone_j4 (m : Nat) (self26 : Dt → Option (Dt)) (x0 x1 : Dt) (x2 x3 : Int) (x4 : ByteArray) (x5 : List Dt) : Option (Dt) :=
  (bif (decide ((0 : Int) < (((List.length (Dt.L x0 4)) : Nat) : Int))) then
    ((mkL (((List.length (Dt.L x0 4)) : Nat) : Int) (((List.length (Dt.L x0 4)) : Nat) : Int) (Dt.agg [(Dt.str (ByteArray.mk (List.toArray []))), (Dt.agg [(Dt.int (0 : Int)), (Dt.int (0 : Int)), (Dt.str (ByteArray.mk (List.toArray []))), (Dt.lst []), (Dt.lst [])])])).bind fun v5 =>
     order_clone_j5 m self26 (Dt.L x0 4) (((List.length (Dt.L x0 4)) : Nat) : Int) (0 : Int) x1 x2 x3 x4 x5 v5)
  else
    order_clone_j10 m self26 x1 x2 x3 x4 x5)
noncomputable def order_clone_l1 (m : Nat) (self26 : Dt → Option (Dt)) : Nat → List Dt → Int → Int → Dt → Dt → Int → Int → ByteArray → List Dt → Option (Dt)
  | 0, _, _, _, _, _, _, _, _, _ => none
  | M1 + 1, x0, x1, x2, x3, x4, x5, x6, x7, x8 =>
    (bif (decide (x2 < x1)) then
    order_clone_j2 m self26 (order_clone_l1 m self26 M1) x0 x1 x2 x3 x4 x5 x6 x7 x8
  else
    order_clone_j4 m self26 x3 x4 x5 x6 x7 x8)
noncomputable def order_clone_j0 (m : Nat) (self26 : Dt → Option (Dt)) (x0 : List Dt) (x1 x2 : Int) (x3 x4 : Dt) (x5 x6 : Int) (x7 : ByteArray) (x8 : List Dt) : Option (Dt) :=
  order_clone_l1 m self26 (Nat.succ m) x0 x1 x2 x3 x4 x5 x6 x7 x8
noncomputable def order_clone_j15 (m : Nat) (self26 : Dt → Option (Dt)) (rec13 : List Dt → Int → Int → Dt → Int → Int → ByteArray → List Dt → List Dt → Option (Dt)) (x0 : List Dt) (x1 x2 : Int) (x3 : Dt) (x4 x5 : Int) (x6 : ByteArray) (x7 x8 : List Dt) : Option (Dt) :=
  rec13 x0 x1 (IntKind.wrap IntKind.i64 (x2 + (1 : Int))) x3 x4 x5 x6 x7 x8
noncomputable def order_clone_j14 (m : Nat) (self26 : Dt → Option (Dt)) (rec13 : List Dt → Int → Int → Dt → Int → Int → ByteArray → List Dt → List Dt → Option (Dt)) (x0 : List Dt) (x1 x2 : Int) (x3 : Dt) (x4 x5 : Int) (x6 : ByteArray) (x7 x8 : List Dt) : Option (Dt) :=
  ((idx x0 x2).bind fun v11 =>
    ((self26 (Dt.fld v11 1)).bind fun r12 =>
     ((inL x8 x2).bind fun v13 =>
     ((x8[(Int.toNat x2)]?).bind fun v14 =>
     order_clone_j15 m self26 rec13 x0 x1 x2 x3 x4 x5 x6 x7 (List.set x8 (Int.toNat x2) (Dt.agg [(Dt.str (Dt.S v11 0)), r12]))))))
noncomputable def order_clone_j16 (m : Nat) (self26 : Dt → Option (Dt)) (x0 : Dt) (x1 x2 : Int) (x3 : ByteArray) (x4 x5 : List Dt) : Option (Dt) :=
  some (Dt.agg [(Dt.int x1), (Dt.int x2), (Dt.str x3), (Dt.lst x4), (Dt.lst x5)])
noncomputable def order_clone_l13 (m : Nat) (self26 : Dt → Option (Dt)) : Nat → List Dt → Int → Int → Dt → Int → Int → ByteArray → List Dt → List Dt → Option (Dt)
  | 0, _, _, _, _, _, _, _, _, _ => none
  | M13 + 1, x0, x1, x2, x3, x4, x5, x6, x7, x8 =>
    (bif (decide (x2 < x1)) then
    order_clone_j14 m self26 (order_clone_l13 m self26 M13) x0 x1 x2 x3 x4 x5 x6 x7 x8
  else
    order_clone_j16 m self26 x3 x4 x5 x6 x7 x8)
noncomputable def order_clone_j12 (m : Nat) (self26 : Dt → Option (Dt)) (x0 : List Dt) (x1 x2 : Int) (x3 : Dt) (x4 x5 : Int) (x6 : ByteArray) (x7 x8 : List Dt) : Option (Dt) :=
  order_clone_l13 m self26 (Nat.succ m) x0 x1 x2 x3 x4 x5 x6 x7 x8
noncomputable def order_clone_j17 (m : Nat) (self26 : Dt → Option (Dt)) (x0 x1 : Dt) : Option (Dt) :=
  some x1
noncomputable def order_clone_j11 (m : Nat) (self26 : Dt → Option (Dt)) (x0 x1 x2 : Dt) : Option (Dt) :=
  (bif (decide ((0 : Int) < (((List.length (Dt.L x0 4)) : Nat) : Int))) then
    ((mkL (((List.length (Dt.L x0 4)) : Nat) : Int) (((List.length (Dt.L x0 4)) : Nat) : Int) (Dt.agg [(Dt.str (ByteArray.mk (List.toArray []))), (Dt.agg [(Dt.int (0 : Int)), (Dt.int (0 : Int)), (Dt.str (ByteArray.mk (List.toArray []))), (Dt.lst []), (Dt.lst [])])])).bind fun v10 =>
     order_clone_j12 m self26 (Dt.L x0 4) (((List.length (Dt.L x0 4)) : Nat) : Int) (0 : Int) x1 (Dt.I x2 0) (Dt.I x2 1) (Dt.S x2 2) (Dt.L x2 3) v10)
  else
    order_clone_j17 m self26 x1 x2)
noncomputable def order_clone : Nat → Dt → Option (Dt)
  | 0, _ => none
  | m + 1, a0 =>
    (bif (decide ((0 : Int) < (((List.length (Dt.L a0 3)) : Nat) : Int))) then
    ((mkL (((List.length (Dt.L a0 3)) : Nat) : Int) (((List.length (Dt.L a0 3)) : Nat) : Int) (Dt.agg [(Dt.int (0 : Int)), (Dt.int (0 : Int)), (Dt.str (ByteArray.mk (List.toArray []))), (Dt.lst []), (Dt.lst [])])).bind fun v0 =>
     order_clone_j0 m (order_clone m) (Dt.L a0 3) (((List.length (Dt.L a0 3)) : Nat) : Int) (0 : Int) a0 (Dt.agg [(Dt.int (0 : Int)), (Dt.int (0 : Int)), (Dt.str (ByteArray.mk (List.toArray []))), (Dt.lst []), (Dt.lst [])]) (Dt.I a0 0) (Dt.I a0 1) (Dt.S a0 2) v0)
  else
    order_clone_j11 m (order_clone m) a0 (Dt.agg [(Dt.int (0 : Int)), (Dt.int (0 : Int)), (Dt.str (ByteArray.mk (List.toArray []))), (Dt.lst []), (Dt.lst [])]) (Dt.agg [(Dt.int (Dt.I a0 0)), (Dt.int (Dt.I a0 1)), (Dt.str (Dt.S a0 2)), (Dt.lst []), (Dt.lst [])]))
noncomputable def ref01_Ints_j1 (m : Nat) : Option (Int) :=
  some (0 : Int)
noncomputable def ref01_Ints_j0 (m : Nat) (x0 x1 : Int) : Option (Int) :=
  (bif (decide (x1 < x0)) then
    some (1 : Int)
  else
    ref01_Ints_j1 m)
noncomputable def ref01_Ints : Nat → Int → Int → Option (Int)
  | 0, _, _ => none
  | m + 1, a0, a1 =>
    (bif (decide (a0 < a1)) then
    some (-1 : Int)
  else
    ref01_Ints_j0 m a0 a1)
noncomputable def ref01_Texts_j3 (m : Nat) (rec1 : ByteArray → ByteArray → Int → Option (Int)) (x0 x1 : ByteArray) (x2 : Int) : Option (Int) :=
  rec1 x0 x1 (IntKind.wrap IntKind.i64 (x2 + (1 : Int)))
noncomputable def ref01_Texts_j2 (m : Nat) (rec1 : ByteArray → ByteArray → Int → Option (Int)) (x0 x1 : ByteArray) (x2 : Int) : Option (Int) :=
  ((idxS x0 x2).bind fun v0 =>
    ((idxS x1 x2).bind fun v1 =>
     (bif (v0 != v1) then
     ((idxS x0 x2).bind fun v2 =>
     ((idxS x1 x2).bind fun v3 =>
     ((ref01_Ints m (IntKind.wrap IntKind.i64 v2) (IntKind.wrap IntKind.i64 v3)).bind fun r4 =>
     some r4)))
     else
     ref01_Texts_j3 m rec1 x0 x1 x2)))
noncomputable def ref01_Texts_j4 (m : Nat) (x0 x1 : ByteArray) : Option (Int) :=
  ((ref01_Ints m (((ByteArray.size x0) : Nat) : Int) (((ByteArray.size x1) : Nat) : Int)).bind fun r5 =>
    some r5)
noncomputable def ref01_Texts_l1 (m : Nat) : Nat → ByteArray → ByteArray → Int → Option (Int)
  | 0, _, _, _ => none
  | M1 + 1, x0, x1, x2 =>
    (bif (decide (x2 < (((ByteArray.size x0) : Nat) : Int))) then
    (bif (decide (x2 < (((ByteArray.size x1) : Nat) : Int))) then
     ref01_Texts_j2 m (ref01_Texts_l1 m M1) x0 x1 x2
    else
     ref01_Texts_j4 m x0 x1)
  else
    ref01_Texts_j4 m x0 x1)
noncomputable def ref01_Texts_j0 (m : Nat) (x0 x1 : ByteArray) (x2 : Int) : Option (Int) :=
  ref01_Texts_l1 m (Nat.succ m) x0 x1 x2
noncomputable def ref01_Texts : Nat → ByteArray → ByteArray → Option (Int)
  | 0, _, _ => none
  | m + 1, a0, a1 =>
    ref01_Texts_j0 m a0 a1 (0 : Int)
noncomputable def ref01_Compare_j4 (m : Nat) (self28 : Dt → Dt → Option (Int)) (rec2 : Int → Dt → Dt → Option (Int)) (x0 : Int) (x1 x2 : Dt) : Option (Int) :=
  rec2 (IntKind.wrap IntKind.i64 (x0 + (1 : Int))) x1 x2
noncomputable def ref01_Compare_j3 (m : Nat) (self28 : Dt → Dt → Option (Int)) (rec2 : Int → Dt → Dt → Option (Int)) (x0 : Int) (x1 x2 : Dt) : Option (Int) :=
  ((idx (Dt.L x1 3) x0).bind fun v3 =>
    ((idx (Dt.L x2 3) x0).bind fun v4 =>
     ((self28 v3 v4).bind fun r5 =>
     (bif (r5 != (0 : Int)) then
     some r5
     else
     ref01_Compare_j4 m self28 rec2 x0 x1 x2))))
noncomputable def ref01_Compare_j5 (m : Nat) (self28 : Dt → Dt → Option (Int)) (x0 x1 : Dt) : Option (Int) :=
  ((ref01_Ints m (((List.length (Dt.L x0 3)) : Nat) : Int) (((List.length (Dt.L x1 3)) : Nat) : Int)).bind fun r6 =>
    some r6)
noncomputable def ref01_Compare_l2 (m : Nat) (self28 : Dt → Dt → Option (Int)) : Nat → Int → Dt → Dt → Option (Int)
  | 0, _, _, _ => none
  | M2 + 1, x0, x1, x2 =>
    (bif (decide (x0 < (((List.length (Dt.L x1 3)) : Nat) : Int))) then
    (bif (decide (x0 < (((List.length (Dt.L x2 3)) : Nat) : Int))) then
     ref01_Compare_j3 m self28 (ref01_Compare_l2 m self28 M2) x0 x1 x2
    else
     ref01_Compare_j5 m self28 x1 x2)
  else
    ref01_Compare_j5 m self28 x1 x2)
noncomputable def ref01_Compare_j1 (m : Nat) (self28 : Dt → Dt → Option (Int)) (x0 : Int) (x1 x2 : Dt) : Option (Int) :=
  ref01_Compare_l2 m self28 (Nat.succ m) x0 x1 x2
noncomputable def ref01_Compare_j10 (m : Nat) (self28 : Dt → Dt → Option (Int)) (rec7 : Int → Dt → Dt → Option (Int)) (x0 : Int) (x1 x2 : Dt) : Option (Int) :=
  rec7 (IntKind.wrap IntKind.i64 (x0 + (1 : Int))) x1 x2
noncomputable def ref01_Compare_j9 (m : Nat) (self28 : Dt → Dt → Option (Int)) (rec7 : Int → Dt → Dt → Option (Int)) (x0 x1 : Int) (x2 x3 : Dt) : Option (Int) :=
  (bif (x1 != (0 : Int)) then
    some x1
  else
    ref01_Compare_j10 m self28 rec7 x0 x2 x3)
noncomputable def ref01_Compare_j8 (m : Nat) (self28 : Dt → Dt → Option (Int)) (rec7 : Int → Dt → Dt → Option (Int)) (x0 : Int) (x1 x2 : Dt) : Option (Int) :=
  ((idx (Dt.L x1 4) x0).bind fun v7 =>
    ((idx (Dt.L x2 4) x0).bind fun v8 =>
     ((ref01_Texts m (Dt.S v7 0) (Dt.S v8 0)).bind fun r9 =>
     (bif (r9 == (0 : Int)) then
     ((idx (Dt.L x1 4) x0).bind fun v10 =>
     ((idx (Dt.L x2 4) x0).bind fun v11 =>
     ((self28 (Dt.fld v10 1) (Dt.fld v11 1)).bind fun r12 =>
     ref01_Compare_j9 m self28 rec7 x0 r12 x1 x2)))
     else
     ref01_Compare_j9 m self28 rec7 x0 r9 x1 x2))))
noncomputable def ref01_Compare_j11 (m : Nat) (self28 : Dt → Dt → Option (Int)) (x0 x1 : Dt) : Option (Int) :=
  ((ref01_Ints m (((List.length (Dt.L x0 4)) : Nat) : Int) (((List.length (Dt.L x1 4)) : Nat) : Int)).bind fun r13 =>
    some r13)
noncomputable def ref01_Compare_l7 (m : Nat) (self28 : Dt → Dt → Option (Int)) : Nat → Int → Dt → Dt → Option (Int)
  | 0, _, _, _ => none
  | M7 + 1, x0, x1, x2 =>
    (bif (decide (x0 < (((List.length (Dt.L x1 4)) : Nat) : Int))) then
    (bif (decide (x0 < (((List.length (Dt.L x2 4)) : Nat) : Int))) then
     ref01_Compare_j8 m self28 (ref01_Compare_l7 m self28 M7) x0 x1 x2
    else
     ref01_Compare_j11 m self28 x1 x2)
  else
    ref01_Compare_j11 m self28 x1 x2)
noncomputable def ref01_Compare_j6 (m : Nat) (self28 : Dt → Dt → Option (Int)) (x0 : Int) (x1 x2 : Dt) : Option (Int) :=
  ref01_Compare_l7 m self28 (Nat.succ m) x0 x1 x2
noncomputable def ref01_Compare_j12 (m : Nat) (self28 : Dt → Dt → Option (Int)) : Option (Int) :=
  some (0 : Int)
noncomputable def ref01_Compare_j0 (m : Nat) (self28 : Dt → Dt → Option (Int)) (x0 x1 : Dt) : Option (Int) :=
  (bif ((Dt.I x0 0) == (3 : Int)) then
    (bif ((Dt.I x0 0) == (3 : Int)) then
     ((ref01_Ints m (Dt.I x0 1) (Dt.I x1 1)).bind fun r1 =>
     some r1)
    else
     (bif ((Dt.I x0 0) == (4 : Int)) then
     (bif ((Dt.I x0 0) == (4 : Int)) then
     ((ref01_Texts m (Dt.S x0 2) (Dt.S x1 2)).bind fun r2 =>
     some r2)
     else
     (bif ((Dt.I x0 0) == (6 : Int)) then
     ref01_Compare_j1 m self28 (0 : Int) x0 x1
     else
     (bif ((Dt.I x0 0) == (5 : Int)) then
     ref01_Compare_j6 m self28 (0 : Int) x0 x1
     else
     ref01_Compare_j12 m self28)))
     else
     (bif ((Dt.I x0 0) == (7 : Int)) then
     (bif ((Dt.I x0 0) == (7 : Int)) then
     ((ref01_Texts m (Dt.S x0 2) (Dt.S x1 2)).bind fun r14 =>
     some r14)
     else
     (bif ((Dt.I x0 0) == (6 : Int)) then
     ref01_Compare_j1 m self28 (0 : Int) x0 x1
     else
     (bif ((Dt.I x0 0) == (5 : Int)) then
     ref01_Compare_j6 m self28 (0 : Int) x0 x1
     else
     ref01_Compare_j12 m self28)))
     else
     (bif ((Dt.I x0 0) == (8 : Int)) then
     ((ref01_Texts m (Dt.S x0 2) (Dt.S x1 2)).bind fun r15 =>
     some r15)
     else
     (bif ((Dt.I x0 0) == (6 : Int)) then
     ref01_Compare_j1 m self28 (0 : Int) x0 x1
     else
     (bif ((Dt.I x0 0) == (5 : Int)) then
     ref01_Compare_j6 m self28 (0 : Int) x0 x1
     else
     ref01_Compare_j12 m self28))))))
  else
    (bif ((Dt.I x0 0) == (9 : Int)) then
     (bif ((Dt.I x0 0) == (9 : Int)) then
     ((ref01_Ints m (Dt.I x0 1) (Dt.I x1 1)).bind fun r16 =>
     some r16)
     else
     (bif ((Dt.I x0 0) == (4 : Int)) then
     (bif ((Dt.I x0 0) == (4 : Int)) then
     ((ref01_Texts m (Dt.S x0 2) (Dt.S x1 2)).bind fun r17 =>
     some r17)
     else
     (bif ((Dt.I x0 0) == (6 : Int)) then
     ref01_Compare_j1 m self28 (0 : Int) x0 x1
     else
     (bif ((Dt.I x0 0) == (5 : Int)) then
     ref01_Compare_j6 m self28 (0 : Int) x0 x1
     else
     ref01_Compare_j12 m self28)))
     else
     (bif ((Dt.I x0 0) == (7 : Int)) then
     (bif ((Dt.I x0 0) == (7 : Int)) then
     ((ref01_Texts m (Dt.S x0 2) (Dt.S x1 2)).bind fun r18 =>
     some r18)
     else
     (bif ((Dt.I x0 0) == (6 : Int)) then
     ref01_Compare_j1 m self28 (0 : Int) x0 x1
     else
     (bif ((Dt.I x0 0) == (5 : Int)) then
     ref01_Compare_j6 m self28 (0 : Int) x0 x1
     else
     ref01_Compare_j12 m self28)))
     else
     (bif ((Dt.I x0 0) == (8 : Int)) then
     ((ref01_Texts m (Dt.S x0 2) (Dt.S x1 2)).bind fun r19 =>
     some r19)
     else
     (bif ((Dt.I x0 0) == (6 : Int)) then
     ref01_Compare_j1 m self28 (0 : Int) x0 x1
     else
     (bif ((Dt.I x0 0) == (5 : Int)) then
     ref01_Compare_j6 m self28 (0 : Int) x0 x1
     else
     ref01_Compare_j12 m self28))))))
    else
     (bif ((Dt.I x0 0) == (10 : Int)) then
     ((ref01_Ints m (Dt.I x0 1) (Dt.I x1 1)).bind fun r20 =>
     some r20)
     else
     (bif ((Dt.I x0 0) == (4 : Int)) then
     (bif ((Dt.I x0 0) == (4 : Int)) then
     ((ref01_Texts m (Dt.S x0 2) (Dt.S x1 2)).bind fun r21 =>
     some r21)
     else
     (bif ((Dt.I x0 0) == (6 : Int)) then
     ref01_Compare_j1 m self28 (0 : Int) x0 x1
     else
     (bif ((Dt.I x0 0) == (5 : Int)) then
     ref01_Compare_j6 m self28 (0 : Int) x0 x1
     else
     ref01_Compare_j12 m self28)))
     else
     (bif ((Dt.I x0 0) == (7 : Int)) then
     (bif ((Dt.I x0 0) == (7 : Int)) then
     ((ref01_Texts m (Dt.S x0 2) (Dt.S x1 2)).bind fun r22 =>
     some r22)
     else
     (bif ((Dt.I x0 0) == (6 : Int)) then
     ref01_Compare_j1 m self28 (0 : Int) x0 x1
     else
     (bif ((Dt.I x0 0) == (5 : Int)) then
     ref01_Compare_j6 m self28 (0 : Int) x0 x1
     else
     ref01_Compare_j12 m self28)))
     else
     (bif ((Dt.I x0 0) == (8 : Int)) then
     ((ref01_Texts m (Dt.S x0 2) (Dt.S x1 2)).bind fun r23 =>
     some r23)
     else
     (bif ((Dt.I x0 0) == (6 : Int)) then
     ref01_Compare_j1 m self28 (0 : Int) x0 x1
     else
     (bif ((Dt.I x0 0) == (5 : Int)) then
     ref01_Compare_j6 m self28 (0 : Int) x0 x1
     else
     ref01_Compare_j12 m self28))))))))
noncomputable def ref01_Compare : Nat → Dt → Dt → Option (Int)
  | 0, _, _ => none
  | m + 1, a0, a1 =>
    (bif ((Dt.I a0 0) != (Dt.I a1 0)) then
    ((ref01_Ints m (Dt.I a0 0) (Dt.I a1 0)).bind fun r0 =>
     some r0)
  else
    ref01_Compare_j0 m (ref01_Compare m) a0 a1)
noncomputable def ref01_Parts_j3 (m : Nat) (rec1 : Int → Dt → List Dt → Option (List Dt)) (x0 : Int) (x1 : Dt) (x2 : List Dt) : Option (List Dt) :=
  rec1 (IntKind.wrap IntKind.i64 (x0 + (1 : Int))) x1 x2
noncomputable def ref01_Parts_j2 (m : Nat) (rec1 : Int → Dt → List Dt → Option (List Dt)) (x0 : Int) (x1 : Dt) (x2 : List Dt) : Option (List Dt) :=
  ((idx (Dt.L x1 3) x0).bind fun v0 =>
    ((app x2 [v0]).bind fun v1 =>
     ref01_Parts_j3 m rec1 x0 x1 v1))
noncomputable def ref01_Parts_j8 (m : Nat) (rec6 : Int → Dt → List Dt → Option (List Dt)) (x0 : Int) (x1 : Dt) (x2 : List Dt) : Option (List Dt) :=
  rec6 (IntKind.wrap IntKind.i64 (x0 + (1 : Int))) x1 x2
noncomputable def ref01_Parts_j7 (m : Nat) (rec6 : Int → Dt → List Dt → Option (List Dt)) (x0 : Int) (x1 : Dt) (x2 : List Dt) : Option (List Dt) :=
  ((idx (Dt.L x1 4) x0).bind fun v2 =>
    ((app x2 [(Dt.fld v2 1)]).bind fun v3 =>
     ref01_Parts_j8 m rec6 x0 x1 v3))
noncomputable def ref01_Parts_j9 (m : Nat) (x0 : List Dt) : Option (List Dt) :=
  some x0
noncomputable def ref01_Parts_l6 (m : Nat) : Nat → Int → Dt → List Dt → Option (List Dt)
  | 0, _, _, _ => none
  | M6 + 1, x0, x1, x2 =>
    (bif (decide (x0 < (((List.length (Dt.L x1 4)) : Nat) : Int))) then
    ref01_Parts_j7 m (ref01_Parts_l6 m M6) x0 x1 x2
  else
    ref01_Parts_j9 m x2)
noncomputable def ref01_Parts_j5 (m : Nat) (x0 : Int) (x1 : Dt) (x2 : List Dt) : Option (List Dt) :=
  ref01_Parts_l6 m (Nat.succ m) x0 x1 x2
noncomputable def ref01_Parts_j4 (m : Nat) (x0 : Dt) (x1 : List Dt) : Option (List Dt) :=
  (bif ((Dt.I x0 0) == (5 : Int)) then
    ref01_Parts_j5 m (0 : Int) x0 x1
  else
    ref01_Parts_j9 m x1)
noncomputable def ref01_Parts_l1 (m : Nat) : Nat → Int → Dt → List Dt → Option (List Dt)
  | 0, _, _, _ => none
  | M1 + 1, x0, x1, x2 =>
    (bif (decide (x0 < (((List.length (Dt.L x1 3)) : Nat) : Int))) then
    ref01_Parts_j2 m (ref01_Parts_l1 m M1) x0 x1 x2
  else
    ref01_Parts_j4 m x1 x2)
noncomputable def ref01_Parts_j0 (m : Nat) (x0 : Int) (x1 : Dt) (x2 : List Dt) : Option (List Dt) :=
  ref01_Parts_l1 m (Nat.succ m) x0 x1 x2
noncomputable def ref01_Parts : Nat → Dt → Option (List Dt)
  | 0, _ => none
  | m + 1, a0 =>
    (bif ((Dt.I a0 0) == (6 : Int)) then
    ref01_Parts_j0 m (0 : Int) a0 []
  else
    ref01_Parts_j4 m a0 [])
noncomputable def ref01_levels_j4 (m : Nat) (self31 : Dt → Int → Option (Int)) (rec2 : Int → List Dt → Int → Int → Option (Int)) (x0 : Int) (x1 : List Dt) (x2 x3 : Int) : Option (Int) :=
  rec2 x0 x1 x2 (IntKind.wrap IntKind.i64 (x3 + (1 : Int)))
noncomputable def ref01_levels_j3 (m : Nat) (self31 : Dt → Int → Option (Int)) (rec2 : Int → List Dt → Int → Int → Option (Int)) (x0 : Int) (x1 : List Dt) (x2 x3 : Int) : Option (Int) :=
  ((idx x1 x3).bind fun v1 =>
    ((self31 v1 (IntKind.wrap IntKind.i64 (x0 - (1 : Int)))).bind fun r2 =>
     ref01_levels_j4 m self31 rec2 x0 x1 (bif (decide (x2 < r2)) then r2 else x2) x3))
noncomputable def ref01_levels_j5 (m : Nat) (self31 : Dt → Int → Option (Int)) (x0 : Int) : Option (Int) :=
  some (IntKind.wrap IntKind.i64 (x0 + (1 : Int)))
noncomputable def ref01_levels_l2 (m : Nat) (self31 : Dt → Int → Option (Int)) : Nat → Int → List Dt → Int → Int → Option (Int)
  | 0, _, _, _, _ => none
  | M2 + 1, x0, x1, x2, x3 =>
    (bif (decide (x3 < (((List.length x1) : Nat) : Int))) then
    ref01_levels_j3 m self31 (ref01_levels_l2 m self31 M2) x0 x1 x2 x3
  else
    ref01_levels_j5 m self31 x2)
noncomputable def ref01_levels_j1 (m : Nat) (self31 : Dt → Int → Option (Int)) (x0 : Int) (x1 : List Dt) (x2 x3 : Int) : Option (Int) :=
  ref01_levels_l2 m self31 (Nat.succ m) x0 x1 x2 x3
noncomputable def ref01_levels_j0 (m : Nat) (self31 : Dt → Int → Option (Int)) (x0 : Int) (x1 : List Dt) : Option (Int) :=
  ref01_levels_j1 m self31 x0 x1 (0 : Int) (0 : Int)
noncomputable def ref01_levels : Nat → Dt → Int → Option (Int)
  | 0, _, _ => none
  | m + 1, a0, a1 =>
    ((ref01_Parts m a0).bind fun r0 =>
    (bif (decide (a1 < (2 : Int))) then
     some (1 : Int)
    else
     (bif ((((List.length r0) : Nat) : Int) == (0 : Int)) then
     some (1 : Int)
     else
     ref01_levels_j0 m (ref01_levels m) a1 r0)))
noncomputable def ref01_Depth : Nat → Dt → Option (Int)
  | 0, _ => none
  | m + 1, a0 =>
    ((ref01_levels m a0 (17 : Int)).bind fun r0 =>
    some r0)
noncomputable def ref01_count_j3 (m : Nat) (self32 : Dt → Int → Option (Int)) (rec1 : Int → Int → List Dt → Int → Option (Int)) (x0 x1 : Int) (x2 : List Dt) (x3 : Int) : Option (Int) :=
  rec1 x0 x1 x2 (IntKind.wrap IntKind.i64 (x3 + (1 : Int)))
noncomputable def ref01_count_j2 (m : Nat) (self32 : Dt → Int → Option (Int)) (rec1 : Int → Int → List Dt → Int → Option (Int)) (x0 x1 : Int) (x2 : List Dt) (x3 : Int) : Option (Int) :=
  ((idx x2 x3).bind fun v1 =>
    ((self32 v1 (IntKind.wrap IntKind.i64 (x0 - x1))).bind fun r2 =>
     ref01_count_j3 m self32 rec1 x0 (IntKind.wrap IntKind.i64 (x1 + r2)) x2 x3))
noncomputable def ref01_count_j4 (m : Nat) (self32 : Dt → Int → Option (Int)) (x0 : Int) : Option (Int) :=
  some x0
noncomputable def ref01_count_l1 (m : Nat) (self32 : Dt → Int → Option (Int)) : Nat → Int → Int → List Dt → Int → Option (Int)
  | 0, _, _, _, _ => none
  | M1 + 1, x0, x1, x2, x3 =>
    (bif (decide (x3 < (((List.length x2) : Nat) : Int))) then
    (bif (decide (x1 < x0)) then
     ref01_count_j2 m self32 (ref01_count_l1 m self32 M1) x0 x1 x2 x3
    else
     ref01_count_j4 m self32 x1)
  else
    ref01_count_j4 m self32 x1)
noncomputable def ref01_count_j0 (m : Nat) (self32 : Dt → Int → Option (Int)) (x0 x1 : Int) (x2 : List Dt) (x3 : Int) : Option (Int) :=
  ref01_count_l1 m self32 (Nat.succ m) x0 x1 x2 x3
noncomputable def ref01_count : Nat → Dt → Int → Option (Int)
  | 0, _, _ => none
  | m + 1, a0, a1 =>
    ((ref01_Parts m a0).bind fun r0 =>
    ref01_count_j0 m (ref01_count m) a1 (1 : Int) r0 (0 : Int))
noncomputable def ref01_Nodes : Nat → Dt → Option (Int)
  | 0, _ => none
  | m + 1, a0 =>
    ((ref01_count m a0 (1025 : Int)).bind fun r0 =>
    some r0)
noncomputable def ref01_tail_j4 (m : Nat) (rec2 : ByteArray → Int → Int → Int → Option (Bool)) (x0 : ByteArray) (x1 x2 x3 : Int) : Option (Bool) :=
  rec2 x0 x1 x2 (IntKind.wrap IntKind.i64 (x3 + (1 : Int)))
noncomputable def ref01_tail_j3 (m : Nat) (rec2 : ByteArray → Int → Int → Int → Option (Bool)) (x0 : ByteArray) (x1 x2 x3 : Int) : Option (Bool) :=
  ((idxS x0 (IntKind.wrap IntKind.i64 (x1 + x3))).bind fun v0 =>
    (bif (decide (v0 < (128 : Int))) then
     some Bool.false
    else
     ((idxS x0 (IntKind.wrap IntKind.i64 (x1 + x3))).bind fun v1 =>
     (bif (decide ((191 : Int) < v1)) then
     some Bool.false
     else
     ref01_tail_j4 m rec2 x0 x1 x2 x3))))
noncomputable def ref01_tail_j5 (m : Nat) : Option (Bool) :=
  some Bool.true
noncomputable def ref01_tail_l2 (m : Nat) : Nat → ByteArray → Int → Int → Int → Option (Bool)
  | 0, _, _, _, _ => none
  | M2 + 1, x0, x1, x2, x3 =>
    (bif (decide (x3 < x2)) then
    ref01_tail_j3 m (ref01_tail_l2 m M2) x0 x1 x2 x3
  else
    ref01_tail_j5 m)
noncomputable def ref01_tail_j1 (m : Nat) (x0 : ByteArray) (x1 x2 x3 : Int) : Option (Bool) :=
  ref01_tail_l2 m (Nat.succ m) x0 x1 x2 x3
noncomputable def ref01_tail_j0 (m : Nat) (x0 : ByteArray) (x1 x2 : Int) : Option (Bool) :=
  ref01_tail_j1 m x0 x1 x2 (0 : Int)
noncomputable def ref01_tail : Nat → ByteArray → Int → Int → Option (Bool)
  | 0, _, _, _ => none
  | m + 1, a0, a1, a2 =>
    (bif (decide ((((ByteArray.size a0) : Nat) : Int) < (IntKind.wrap IntKind.i64 (a1 + a2)))) then
    some Bool.false
  else
    ref01_tail_j0 m a0 a1 a2)
noncomputable def ref01_UTF8_j5 (m : Nat) (rec1 : ByteArray → Int → Option (Bool)) (x0 : ByteArray) (x1 x2 : Int) : Option (Bool) :=
  rec1 x0 (IntKind.wrap IntKind.i64 ((IntKind.wrap IntKind.i64 (x1 + x2)) + (1 : Int)))
noncomputable def ref01_UTF8_j4 (m : Nat) (rec1 : ByteArray → Int → Option (Bool)) (x0 : ByteArray) (x1 x2 x3 : Int) : Option (Bool) :=
  (bif (x2 == (224 : Int)) then
    ((idxS x0 (IntKind.wrap IntKind.i64 (x1 + (1 : Int)))).bind fun v2 =>
     (bif (decide (v2 < (160 : Int))) then
     some Bool.false
     else
     (bif (x2 == (237 : Int)) then
     ((idxS x0 (IntKind.wrap IntKind.i64 (x1 + (1 : Int)))).bind fun v3 =>
     (bif (decide ((159 : Int) < v3)) then
     some Bool.false
     else
     (bif (x2 == (240 : Int)) then
     ((idxS x0 (IntKind.wrap IntKind.i64 (x1 + (1 : Int)))).bind fun v4 =>
     (bif (decide (v4 < (144 : Int))) then
     some Bool.false
     else
     (bif (x2 == (244 : Int)) then
     ((idxS x0 (IntKind.wrap IntKind.i64 (x1 + (1 : Int)))).bind fun v5 =>
     (bif (decide ((143 : Int) < v5)) then
     some Bool.false
     else
     ref01_UTF8_j5 m rec1 x0 x1 x3))
     else
     ref01_UTF8_j5 m rec1 x0 x1 x3)))
     else
     (bif (x2 == (244 : Int)) then
     ((idxS x0 (IntKind.wrap IntKind.i64 (x1 + (1 : Int)))).bind fun v6 =>
     (bif (decide ((143 : Int) < v6)) then
     some Bool.false
     else
     ref01_UTF8_j5 m rec1 x0 x1 x3))
     else
     ref01_UTF8_j5 m rec1 x0 x1 x3))))
     else
     (bif (x2 == (240 : Int)) then
     ((idxS x0 (IntKind.wrap IntKind.i64 (x1 + (1 : Int)))).bind fun v7 =>
     (bif (decide (v7 < (144 : Int))) then
     some Bool.false
     else
     (bif (x2 == (244 : Int)) then
     ((idxS x0 (IntKind.wrap IntKind.i64 (x1 + (1 : Int)))).bind fun v8 =>
     (bif (decide ((143 : Int) < v8)) then
     some Bool.false
     else
     ref01_UTF8_j5 m rec1 x0 x1 x3))
     else
     ref01_UTF8_j5 m rec1 x0 x1 x3)))
     else
     (bif (x2 == (244 : Int)) then
     ((idxS x0 (IntKind.wrap IntKind.i64 (x1 + (1 : Int)))).bind fun v9 =>
     (bif (decide ((143 : Int) < v9)) then
     some Bool.false
     else
     ref01_UTF8_j5 m rec1 x0 x1 x3))
     else
     ref01_UTF8_j5 m rec1 x0 x1 x3)))))
  else
    (bif (x2 == (237 : Int)) then
     ((idxS x0 (IntKind.wrap IntKind.i64 (x1 + (1 : Int)))).bind fun v10 =>
     (bif (decide ((159 : Int) < v10)) then
     some Bool.false
     else
     (bif (x2 == (240 : Int)) then
     ((idxS x0 (IntKind.wrap IntKind.i64 (x1 + (1 : Int)))).bind fun v11 =>
     (bif (decide (v11 < (144 : Int))) then
     some Bool.false
     else
     (bif (x2 == (244 : Int)) then
     ((idxS x0 (IntKind.wrap IntKind.i64 (x1 + (1 : Int)))).bind fun v12 =>
     (bif (decide ((143 : Int) < v12)) then
     some Bool.false
     else
     ref01_UTF8_j5 m rec1 x0 x1 x3))
     else
     ref01_UTF8_j5 m rec1 x0 x1 x3)))
     else
     (bif (x2 == (244 : Int)) then
     ((idxS x0 (IntKind.wrap IntKind.i64 (x1 + (1 : Int)))).bind fun v13 =>
     (bif (decide ((143 : Int) < v13)) then
     some Bool.false
     else
     ref01_UTF8_j5 m rec1 x0 x1 x3))
     else
     ref01_UTF8_j5 m rec1 x0 x1 x3))))
    else
     (bif (x2 == (240 : Int)) then
     ((idxS x0 (IntKind.wrap IntKind.i64 (x1 + (1 : Int)))).bind fun v14 =>
     (bif (decide (v14 < (144 : Int))) then
     some Bool.false
     else
     (bif (x2 == (244 : Int)) then
     ((idxS x0 (IntKind.wrap IntKind.i64 (x1 + (1 : Int)))).bind fun v15 =>
     (bif (decide ((143 : Int) < v15)) then
     some Bool.false
     else
     ref01_UTF8_j5 m rec1 x0 x1 x3))
     else
     ref01_UTF8_j5 m rec1 x0 x1 x3)))
     else
     (bif (x2 == (244 : Int)) then
     ((idxS x0 (IntKind.wrap IntKind.i64 (x1 + (1 : Int)))).bind fun v16 =>
     (bif (decide ((143 : Int) < v16)) then
     some Bool.false
     else
     ref01_UTF8_j5 m rec1 x0 x1 x3))
     else
     ref01_UTF8_j5 m rec1 x0 x1 x3))))
noncomputable def ref01_UTF8_j3 (m : Nat) (rec1 : ByteArray → Int → Option (Bool)) (x0 : ByteArray) (x1 x2 x3 : Int) : Option (Bool) :=
  ((ref01_tail m x0 (IntKind.wrap IntKind.i64 (x1 + (1 : Int))) x3).bind fun r1 =>
    (bif (Bool.not r1) then
     some Bool.false
    else
     ref01_UTF8_j4 m rec1 x0 x1 x2 x3))
noncomputable def ref01_UTF8_j2 (m : Nat) (rec1 : ByteArray → Int → Option (Bool)) (x0 : ByteArray) (x1 : Int) : Option (Bool) :=
  ((idxS x0 x1).bind fun v0 =>
    (bif (decide (v0 < (128 : Int))) then
     ref01_UTF8_j3 m rec1 x0 x1 v0 (0 : Int)
    else
     (bif (decide ((194 : Int) ≤ v0)) then
     (bif (decide (v0 ≤ (223 : Int))) then
     ref01_UTF8_j3 m rec1 x0 x1 v0 (1 : Int)
     else
     (bif (decide ((224 : Int) ≤ v0)) then
     (bif (decide (v0 ≤ (239 : Int))) then
     ref01_UTF8_j3 m rec1 x0 x1 v0 (2 : Int)
     else
     (bif (decide ((240 : Int) ≤ v0)) then
     (bif (decide (v0 ≤ (244 : Int))) then
     ref01_UTF8_j3 m rec1 x0 x1 v0 (3 : Int)
     else
     some Bool.false)
     else
     some Bool.false))
     else
     (bif (decide ((240 : Int) ≤ v0)) then
     (bif (decide (v0 ≤ (244 : Int))) then
     ref01_UTF8_j3 m rec1 x0 x1 v0 (3 : Int)
     else
     some Bool.false)
     else
     some Bool.false)))
     else
     (bif (decide ((224 : Int) ≤ v0)) then
     (bif (decide (v0 ≤ (239 : Int))) then
     ref01_UTF8_j3 m rec1 x0 x1 v0 (2 : Int)
     else
     (bif (decide ((240 : Int) ≤ v0)) then
     (bif (decide (v0 ≤ (244 : Int))) then
     ref01_UTF8_j3 m rec1 x0 x1 v0 (3 : Int)
     else
     some Bool.false)
     else
     some Bool.false))
     else
     (bif (decide ((240 : Int) ≤ v0)) then
     (bif (decide (v0 ≤ (244 : Int))) then
     ref01_UTF8_j3 m rec1 x0 x1 v0 (3 : Int)
     else
     some Bool.false)
     else
     some Bool.false)))))
noncomputable def ref01_UTF8_j6 (m : Nat) : Option (Bool) :=
  some Bool.true
noncomputable def ref01_UTF8_l1 (m : Nat) : Nat → ByteArray → Int → Option (Bool)
  | 0, _, _ => none
  | M1 + 1, x0, x1 =>
    (bif (decide (x1 < (((ByteArray.size x0) : Nat) : Int))) then
    ref01_UTF8_j2 m (ref01_UTF8_l1 m M1) x0 x1
  else
    ref01_UTF8_j6 m)
noncomputable def ref01_UTF8_j0 (m : Nat) (x0 : ByteArray) (x1 : Int) : Option (Bool) :=
  ref01_UTF8_l1 m (Nat.succ m) x0 x1
noncomputable def ref01_UTF8 : Nat → ByteArray → Option (Bool)
  | 0, _ => none
  | m + 1, a0 =>
    ref01_UTF8_j0 m a0 (0 : Int)
noncomputable def ref01_Name_j4 (m : Nat) (rec2 : ByteArray → Int → Option (Bool)) (x0 : ByteArray) (x1 : Int) : Option (Bool) :=
  rec2 x0 (IntKind.wrap IntKind.i64 (x1 + (1 : Int)))
noncomputable def ref01_Name_j3 (m : Nat) (rec2 : ByteArray → Int → Option (Bool)) (x0 : ByteArray) (x1 : Int) : Option (Bool) :=
  ((idxS x0 x1).bind fun v1 =>
    (bif (decide (v1 < (33 : Int))) then
     some Bool.false
    else
     ((idxS x0 x1).bind fun v2 =>
     (bif (decide ((126 : Int) < v2)) then
     some Bool.false
     else
     ((idxS x0 x1).bind fun v3 =>
     (bif (v3 == (46 : Int)) then
     some Bool.false
     else
     ref01_Name_j4 m rec2 x0 x1))))))
noncomputable def ref01_Name_j5 (m : Nat) : Option (Bool) :=
  some Bool.true
noncomputable def ref01_Name_l2 (m : Nat) : Nat → ByteArray → Int → Option (Bool)
  | 0, _, _ => none
  | M2 + 1, x0, x1 =>
    (bif (decide (x1 < (((ByteArray.size x0) : Nat) : Int))) then
    ref01_Name_j3 m (ref01_Name_l2 m M2) x0 x1
  else
    ref01_Name_j5 m)
noncomputable def ref01_Name_j1 (m : Nat) (x0 : ByteArray) (x1 : Int) : Option (Bool) :=
  ref01_Name_l2 m (Nat.succ m) x0 x1
noncomputable def ref01_Name_j0 (m : Nat) (x0 : ByteArray) : Option (Bool) :=
  ref01_Name_j1 m x0 (0 : Int)
noncomputable def ref01_Name : Nat → ByteArray → Option (Bool)
  | 0, _ => none
  | m + 1, a0 =>
    (bif (decide ((((ByteArray.size a0) : Nat) : Int) < (1 : Int))) then
    some Bool.false
  else
    (bif (decide ((32 : Int) < (((ByteArray.size a0) : Nat) : Int))) then
     some Bool.false
    else
     ((idxS a0 (0 : Int)).bind fun v0 =>
     (bif (v0 == (36 : Int)) then
     some Bool.false
     else
     ref01_Name_j0 m a0))))
noncomputable def ref01_wide_j4 (m : Nat) (rec2 : ByteArray → Int → Option (Bool)) (x0 : ByteArray) (x1 : Int) : Option (Bool) :=
  rec2 x0 (IntKind.wrap IntKind.i64 (x1 + (1 : Int)))
noncomputable def ref01_wide_j3 (m : Nat) (rec2 : ByteArray → Int → Option (Bool)) (x0 : ByteArray) (x1 : Int) : Option (Bool) :=
  ((idxS x0 x1).bind fun v0 =>
    (bif (decide (v0 < (32 : Int))) then
     some Bool.false
    else
     ((idxS x0 x1).bind fun v1 =>
     (bif (decide ((126 : Int) < v1)) then
     some Bool.false
     else
     ref01_wide_j4 m rec2 x0 x1))))
noncomputable def ref01_wide_j5 (m : Nat) : Option (Bool) :=
  some Bool.true
noncomputable def ref01_wide_l2 (m : Nat) : Nat → ByteArray → Int → Option (Bool)
  | 0, _, _ => none
  | M2 + 1, x0, x1 =>
    (bif (decide (x1 < (((ByteArray.size x0) : Nat) : Int))) then
    ref01_wide_j3 m (ref01_wide_l2 m M2) x0 x1
  else
    ref01_wide_j5 m)
noncomputable def ref01_wide_j1 (m : Nat) (x0 : ByteArray) (x1 : Int) : Option (Bool) :=
  ref01_wide_l2 m (Nat.succ m) x0 x1
noncomputable def ref01_wide_j0 (m : Nat) (x0 : ByteArray) : Option (Bool) :=
  ref01_wide_j1 m x0 (0 : Int)
noncomputable def ref01_wide : Nat → ByteArray → Option (Bool)
  | 0, _ => none
  | m + 1, a0 =>
    (bif (decide ((((ByteArray.size a0) : Nat) : Int) < (1 : Int))) then
    some Bool.false
  else
    (bif (decide ((128 : Int) < (((ByteArray.size a0) : Nat) : Int))) then
     some Bool.false
    else
     ref01_wide_j0 m a0))
noncomputable def ref01_formed_j8 (m : Nat) (self18 : Dt → Bool → Option (Bool)) (self34 : Dt → Bool → Option (Bool)) (rec6 : Bool → Int → Dt → Option (Bool)) (x0 : Bool) (x1 : Int) (x2 : Dt) : Option (Bool) :=
  rec6 x0 (IntKind.wrap IntKind.i64 (x1 + (1 : Int))) x2
noncomputable def ref01_formed_j7 (m : Nat) (self18 : Dt → Bool → Option (Bool)) (self34 : Dt → Bool → Option (Bool)) (rec6 : Bool → Int → Dt → Option (Bool)) (x0 : Bool) (x1 : Int) (x2 : Dt) : Option (Bool) :=
  ((idx (Dt.L x2 3) x1).bind fun v1 =>
    ((self18 v1 x0).bind fun r2 =>
     (bif (Bool.not r2) then
     some Bool.false
     else
     ref01_formed_j8 m self18 self34 rec6 x0 x1 x2)))
noncomputable def ref01_formed_j9 (m : Nat) (self18 : Dt → Bool → Option (Bool)) (self34 : Dt → Bool → Option (Bool)) (x0 : Bool) (x1 : Dt) : Option (Bool) :=
  ((self34 x1 x0).bind fun r3 =>
    some r3)
noncomputable def ref01_formed_l6 (m : Nat) (self18 : Dt → Bool → Option (Bool)) (self34 : Dt → Bool → Option (Bool)) : Nat → Bool → Int → Dt → Option (Bool)
  | 0, _, _, _ => none
  | M6 + 1, x0, x1, x2 =>
    (bif (decide (x1 < (((List.length (Dt.L x2 3)) : Nat) : Int))) then
    ref01_formed_j7 m self18 self34 (ref01_formed_l6 m self18 self34 M6) x0 x1 x2
  else
    ref01_formed_j9 m self18 self34 x0 x2)
noncomputable def ref01_formed_j5 (m : Nat) (self18 : Dt → Bool → Option (Bool)) (self34 : Dt → Bool → Option (Bool)) (x0 : Bool) (x1 : Int) (x2 : Dt) : Option (Bool) :=
  ref01_formed_l6 m self18 self34 (Nat.succ m) x0 x1 x2
noncomputable def ref01_formed_j4 (m : Nat) (self18 : Dt → Bool → Option (Bool)) (self34 : Dt → Bool → Option (Bool)) (x0 : Bool) (x1 : Dt) : Option (Bool) :=
  ref01_formed_j5 m self18 self34 x0 (0 : Int) x1
noncomputable def ref01_formed_j3 (m : Nat) (self18 : Dt → Bool → Option (Bool)) (self34 : Dt → Bool → Option (Bool)) (x0 : Bool) (x1 : Dt) : Option (Bool) :=
  (bif ((Dt.I x1 0) == (9 : Int)) then
    (bif ((Dt.I x1 1) == (0 : Int)) then
     some Bool.true
    else
     some ((Dt.I x1 1) == (1 : Int)))
  else
    (bif ((Dt.I x1 0) == (10 : Int)) then
     some (decide ((0 : Int) ≤ (Dt.I x1 1)))
    else
     (bif ((Dt.I x1 0) == (4 : Int)) then
     (bif (decide ((((ByteArray.size (Dt.S x1 2)) : Nat) : Int) ≤ (4096 : Int))) then
     ((ref01_UTF8 m (Dt.S x1 2)).bind fun r0 =>
     some r0)
     else
     some Bool.false)
     else
     (bif ((Dt.I x1 0) == (7 : Int)) then
     some (decide ((((ByteArray.size (Dt.S x1 2)) : Nat) : Int) ≤ (4096 : Int)))
     else
     (bif ((Dt.I x1 0) == (8 : Int)) then
     some ((((ByteArray.size (Dt.S x1 2)) : Nat) : Int) == (12 : Int))
     else
     ref01_formed_j4 m self18 self34 x0 x1)))))
noncomputable def ref01_formed_j2 (m : Nat) (self18 : Dt → Bool → Option (Bool)) (self34 : Dt → Bool → Option (Bool)) (x0 x1 x2 : Bool) (x3 : Dt) : Option (Bool) :=
  (bif (Bool.not x1) then
    (bif (Bool.not ((ByteArray.toList (Dt.S x3 2)) == [])) then
     some Bool.false
    else
     (bif (Bool.not x2) then
     (bif ((Dt.I x3 1) != (0 : Int)) then
     some Bool.false
     else
     (bif (decide ((Dt.I x3 0) < (1 : Int))) then
     some Bool.false
     else
     (bif (decide ((11 : Int) < (Dt.I x3 0))) then
     some Bool.false
     else
     ref01_formed_j3 m self18 self34 x0 x3)))
     else
     (bif (decide ((Dt.I x3 0) < (1 : Int))) then
     some Bool.false
     else
     (bif (decide ((11 : Int) < (Dt.I x3 0))) then
     some Bool.false
     else
     ref01_formed_j3 m self18 self34 x0 x3))))
  else
    (bif (Bool.not x2) then
     (bif ((Dt.I x3 1) != (0 : Int)) then
     some Bool.false
     else
     (bif (decide ((Dt.I x3 0) < (1 : Int))) then
     some Bool.false
     else
     (bif (decide ((11 : Int) < (Dt.I x3 0))) then
     some Bool.false
     else
     ref01_formed_j3 m self18 self34 x0 x3)))
    else
     (bif (decide ((Dt.I x3 0) < (1 : Int))) then
     some Bool.false
     else
     (bif (decide ((11 : Int) < (Dt.I x3 0))) then
     some Bool.false
     else
     ref01_formed_j3 m self18 self34 x0 x3))))
noncomputable def ref01_formed_j1 (m : Nat) (self18 : Dt → Bool → Option (Bool)) (self34 : Dt → Bool → Option (Bool)) (x0 x1 : Bool) (x2 : Dt) : Option (Bool) :=
  (bif ((Dt.I x2 0) == (3 : Int)) then
    ref01_formed_j2 m self18 self34 x0 x1 Bool.true x2
  else
    (bif ((Dt.I x2 0) == (9 : Int)) then
     ref01_formed_j2 m self18 self34 x0 x1 Bool.true x2
    else
     ref01_formed_j2 m self18 self34 x0 x1 ((Dt.I x2 0) == (10 : Int)) x2))
noncomputable def ref01_formed_j0 (m : Nat) (self18 : Dt → Bool → Option (Bool)) (self34 : Dt → Bool → Option (Bool)) (x0 : Bool) (x1 : Dt) : Option (Bool) :=
  (bif ((Dt.I x1 0) == (4 : Int)) then
    ref01_formed_j1 m self18 self34 x0 Bool.true x1
  else
    (bif ((Dt.I x1 0) == (7 : Int)) then
     ref01_formed_j1 m self18 self34 x0 Bool.true x1
    else
     ref01_formed_j1 m self18 self34 x0 ((Dt.I x1 0) == (8 : Int)) x1))
noncomputable def ref01_fields_j7 (m : Nat) (self18 : Dt → Bool → Option (Bool)) (rec1 : Bool → Int → Dt → Option (Bool)) (rec5 : Bool → Int → Int → Dt → Dt → Option (Bool)) (x0 : Bool) (x1 x2 : Int) (x3 x4 : Dt) : Option (Bool) :=
  rec5 x0 x1 (IntKind.wrap IntKind.i64 (x2 + (1 : Int))) x3 x4
noncomputable def ref01_fields_j6 (m : Nat) (self18 : Dt → Bool → Option (Bool)) (rec1 : Bool → Int → Dt → Option (Bool)) (rec5 : Bool → Int → Int → Dt → Dt → Option (Bool)) (x0 : Bool) (x1 x2 : Int) (x3 x4 : Dt) : Option (Bool) :=
  ((idx (Dt.L x3 4) x2).bind fun v4 =>
    (bif ((ByteArray.toList (Dt.S v4 0)) == (ByteArray.toList (Dt.S x4 0))) then
     some Bool.false
    else
     ref01_fields_j7 m self18 rec1 rec5 x0 x1 x2 x3 x4))
noncomputable def ref01_fields_j8 (m : Nat) (self18 : Dt → Bool → Option (Bool)) (rec1 : Bool → Int → Dt → Option (Bool)) (x0 : Bool) (x1 : Int) (x2 : Dt) : Option (Bool) :=
  rec1 x0 (IntKind.wrap IntKind.i64 (x1 + (1 : Int))) x2
noncomputable def ref01_fields_l5 (m : Nat) (self18 : Dt → Bool → Option (Bool)) (rec1 : Bool → Int → Dt → Option (Bool)) : Nat → Bool → Int → Int → Dt → Dt → Option (Bool)
  | 0, _, _, _, _, _ => none
  | M5 + 1, x0, x1, x2, x3, x4 =>
    (bif (decide (x2 < x1)) then
    ref01_fields_j6 m self18 rec1 (ref01_fields_l5 m self18 rec1 M5) x0 x1 x2 x3 x4
  else
    ref01_fields_j8 m self18 rec1 x0 x1 x3)
noncomputable def ref01_fields_j4 (m : Nat) (self18 : Dt → Bool → Option (Bool)) (rec1 : Bool → Int → Dt → Option (Bool)) (x0 : Bool) (x1 x2 : Int) (x3 x4 : Dt) : Option (Bool) :=
  ref01_fields_l5 m self18 rec1 (Nat.succ m) x0 x1 x2 x3 x4
noncomputable def ref01_fields_j3 (m : Nat) (self18 : Dt → Bool → Option (Bool)) (rec1 : Bool → Int → Dt → Option (Bool)) (x0 : Bool) (x1 : Int) (x2 x3 : Dt) : Option (Bool) :=
  ref01_fields_j4 m self18 rec1 x0 x1 (0 : Int) x2 x3
noncomputable def ref01_fields_j2 (m : Nat) (self18 : Dt → Bool → Option (Bool)) (rec1 : Bool → Int → Dt → Option (Bool)) (x0 : Bool) (x1 : Int) (x2 : Dt) : Option (Bool) :=
  ((idx (Dt.L x2 4) x1).bind fun v0 =>
    (bif x0 then
     ((ref01_Name m (Dt.S v0 0)).bind fun r1 =>
     (bif (Bool.not r1) then
     some Bool.false
     else
     (bif (Bool.not x0) then
     ((ref01_wide m (Dt.S v0 0)).bind fun r2 =>
     (bif (Bool.not r2) then
     some Bool.false
     else
     ((self18 (Dt.fld v0 1) x0).bind fun r3 =>
     (bif (Bool.not r3) then
     some Bool.false
     else
     ref01_fields_j3 m self18 rec1 x0 x1 x2 v0))))
     else
     ((self18 (Dt.fld v0 1) x0).bind fun r5 =>
     (bif (Bool.not r5) then
     some Bool.false
     else
     ref01_fields_j3 m self18 rec1 x0 x1 x2 v0)))))
    else
     (bif (Bool.not x0) then
     ((ref01_wide m (Dt.S v0 0)).bind fun r6 =>
     (bif (Bool.not r6) then
     some Bool.false
     else
     ((self18 (Dt.fld v0 1) x0).bind fun r7 =>
     (bif (Bool.not r7) then
     some Bool.false
     else
     ref01_fields_j3 m self18 rec1 x0 x1 x2 v0))))
     else
     ((self18 (Dt.fld v0 1) x0).bind fun r8 =>
     (bif (Bool.not r8) then
     some Bool.false
     else
     ref01_fields_j3 m self18 rec1 x0 x1 x2 v0)))))
noncomputable def ref01_fields_j9 (m : Nat) (self18 : Dt → Bool → Option (Bool)) : Option (Bool) :=
  some Bool.true
noncomputable def ref01_fields_l1 (m : Nat) (self18 : Dt → Bool → Option (Bool)) : Nat → Bool → Int → Dt → Option (Bool)
  | 0, _, _, _ => none
  | M1 + 1, x0, x1, x2 =>
    (bif (decide (x1 < (((List.length (Dt.L x2 4)) : Nat) : Int))) then
    ref01_fields_j2 m self18 (ref01_fields_l1 m self18 M1) x0 x1 x2
  else
    ref01_fields_j9 m self18)
noncomputable def ref01_fields_j0 (m : Nat) (self18 : Dt → Bool → Option (Bool)) (x0 : Bool) (x1 : Int) (x2 : Dt) : Option (Bool) :=
  ref01_fields_l1 m self18 (Nat.succ m) x0 x1 x2
mutual
noncomputable def ref01_formed : Nat → Dt → Bool → Option (Bool)
  | 0, _, _ => none
  | m + 1, a0, a1 =>
    (bif ((Dt.I a0 0) != (6 : Int)) then
    (bif (decide ((0 : Int) < (((List.length (Dt.L a0 3)) : Nat) : Int))) then
     some Bool.false
    else
     (bif ((Dt.I a0 0) != (5 : Int)) then
     (bif (decide ((0 : Int) < (((List.length (Dt.L a0 4)) : Nat) : Int))) then
     some Bool.false
     else
     ref01_formed_j0 m (ref01_formed m) (ref01_fields m) a1 a0)
     else
     ref01_formed_j0 m (ref01_formed m) (ref01_fields m) a1 a0))
  else
    (bif ((Dt.I a0 0) != (5 : Int)) then
     (bif (decide ((0 : Int) < (((List.length (Dt.L a0 4)) : Nat) : Int))) then
     some Bool.false
     else
     ref01_formed_j0 m (ref01_formed m) (ref01_fields m) a1 a0)
    else
     ref01_formed_j0 m (ref01_formed m) (ref01_fields m) a1 a0))
noncomputable def ref01_fields : Nat → Dt → Bool → Option (Bool)
  | 0, _, _ => none
  | m + 1, a0, a1 =>
    ref01_fields_j0 m (ref01_formed m) a1 (0 : Int) a0
end
noncomputable def ref01_Valid : Nat → Dt → Option (Bool)
  | 0, _ => none
  | m + 1, a0 =>
    ((ref01_Depth m a0).bind fun r0 =>
    (bif (decide (r0 ≤ (16 : Int))) then
     ((ref01_Nodes m a0).bind fun r1 =>
     (bif (decide (r1 ≤ (1024 : Int))) then
     ((ref01_formed m a0 Bool.true).bind fun r2 =>
     some r2)
     else
     some Bool.false))
    else
     some Bool.false))
noncomputable def law12_Small_j4 (m : Nat) (rec2 : List Dt → List Dt → Int → Int → Option (Bool)) (x0 x1 : List Dt) (x2 x3 : Int) : Option (Bool) :=
  rec2 x0 x1 x2 (IntKind.wrap IntKind.i64 (x3 + (1 : Int)))
noncomputable def law12_Small_j3 (m : Nat) (rec2 : List Dt → List Dt → Int → Int → Option (Bool)) (x0 x1 : List Dt) (x2 x3 : Int) : Option (Bool) :=
  ((idx x0 x3).bind fun v0 =>
    (bif (decide ((16 : Int) < (((List.length (Dt.L v0 0)) : Nat) : Int))) then
     some Bool.false
    else
     law12_Small_j4 m rec2 x0 x1 x2 x3))
noncomputable def law12_Small_j9 (m : Nat) (rec7 : List Dt → Int → Int → Option (Bool)) (x0 : List Dt) (x1 x2 : Int) : Option (Bool) :=
  rec7 x0 x1 (IntKind.wrap IntKind.i64 (x2 + (1 : Int)))
noncomputable def law12_Small_j8 (m : Nat) (rec7 : List Dt → Int → Int → Option (Bool)) (x0 : List Dt) (x1 x2 : Int) : Option (Bool) :=
  ((idx x0 x2).bind fun v1 =>
    ((ref01_Valid m v1).bind fun r2 =>
     (bif (Bool.not r2) then
     some Bool.false
     else
     law12_Small_j9 m rec7 x0 x1 x2)))
noncomputable def law12_Small_j10 (m : Nat) : Option (Bool) :=
  some Bool.true
noncomputable def law12_Small_l7 (m : Nat) : Nat → List Dt → Int → Int → Option (Bool)
  | 0, _, _, _ => none
  | M7 + 1, x0, x1, x2 =>
    (bif (decide (x2 < x1)) then
    law12_Small_j8 m (law12_Small_l7 m M7) x0 x1 x2
  else
    law12_Small_j10 m)
noncomputable def law12_Small_j6 (m : Nat) (x0 : List Dt) (x1 x2 : Int) : Option (Bool) :=
  law12_Small_l7 m (Nat.succ m) x0 x1 x2
noncomputable def law12_Small_j5 (m : Nat) (x0 : List Dt) : Option (Bool) :=
  law12_Small_j6 m x0 (((List.length x0) : Nat) : Int) (0 : Int)
noncomputable def law12_Small_l2 (m : Nat) : Nat → List Dt → List Dt → Int → Int → Option (Bool)
  | 0, _, _, _, _ => none
  | M2 + 1, x0, x1, x2, x3 =>
    (bif (decide (x3 < x2)) then
    law12_Small_j3 m (law12_Small_l2 m M2) x0 x1 x2 x3
  else
    law12_Small_j5 m x1)
noncomputable def law12_Small_j1 (m : Nat) (x0 x1 : List Dt) (x2 x3 : Int) : Option (Bool) :=
  law12_Small_l2 m (Nat.succ m) x0 x1 x2 x3
noncomputable def law12_Small_j0 (m : Nat) (x0 x1 : List Dt) : Option (Bool) :=
  law12_Small_j1 m x0 x1 (((List.length x0) : Nat) : Int) (0 : Int)
noncomputable def law12_Small : Nat → List Dt → List Dt → Option (Bool)
  | 0, _, _ => none
  | m + 1, a0, a1 =>
    (bif (decide ((8 : Int) < (((List.length a0) : Nat) : Int))) then
    some Bool.false
  else
    (bif (decide ((40 : Int) < (((List.length a1) : Nat) : Int))) then
     some Bool.false
    else
     law12_Small_j0 m a0 a1))
noncomputable def path_field_j3 (m : Nat) (rec1 : List Dt → ByteArray → Int → Int → Option (Int)) (x0 : List Dt) (x1 : ByteArray) (x2 x3 : Int) : Option (Int) :=
  rec1 x0 x1 x2 (IntKind.wrap IntKind.i64 (x3 + (1 : Int)))
noncomputable def path_field_j2 (m : Nat) (rec1 : List Dt → ByteArray → Int → Int → Option (Int)) (x0 : List Dt) (x1 : ByteArray) (x2 x3 : Int) : Option (Int) :=
  ((idx x0 x3).bind fun v0 =>
    (bif ((ByteArray.toList (Dt.S v0 0)) == (ByteArray.toList x1)) then
     some x3
    else
     path_field_j3 m rec1 x0 x1 x2 x3))
noncomputable def path_field_j4 (m : Nat) : Option (Int) :=
  some (-1 : Int)
noncomputable def path_field_l1 (m : Nat) : Nat → List Dt → ByteArray → Int → Int → Option (Int)
  | 0, _, _, _, _ => none
  | M1 + 1, x0, x1, x2, x3 =>
    (bif (decide (x3 < x2)) then
    path_field_j2 m (path_field_l1 m M1) x0 x1 x2 x3
  else
    path_field_j4 m)
noncomputable def path_field_j0 (m : Nat) (x0 : List Dt) (x1 : ByteArray) (x2 x3 : Int) : Option (Int) :=
  path_field_l1 m (Nat.succ m) x0 x1 x2 x3
noncomputable def path_field : Nat → List Dt → ByteArray → Option (Int)
  | 0, _, _ => none
  | m + 1, a0, a1 =>
    path_field_j0 m a0 a1 (((List.length a0) : Nat) : Int) (0 : Int)
noncomputable def path_Number_j5 (m : Nat) (rec2 : ByteArray → Int → Int → Int → Option (Int × Bool)) (x0 : ByteArray) (x1 x2 x3 : Int) : Option (Int × Bool) :=
  rec2 x0 x1 x2 (IntKind.wrap IntKind.i64 (x3 + (1 : Int)))
noncomputable def path_Number_j4 (m : Nat) (rec2 : ByteArray → Int → Int → Int → Option (Int × Bool)) (x0 : ByteArray) (x1 x2 x3 x4 : Int) : Option (Int × Bool) :=
  ((idxS x0 x2).bind fun v3 =>
    path_Number_j5 m rec2 x0 (IntKind.wrap IntKind.i64 ((IntKind.wrap IntKind.i64 ((10 : Int) * x1)) + (IntKind.wrap IntKind.i64 (IntKind.wrap IntKind.u8 (v3 - (48 : Int)))))) x3 x4)
noncomputable def path_Number_j3 (m : Nat) (rec2 : ByteArray → Int → Int → Int → Option (Int × Bool)) (x0 : ByteArray) (x1 x2 x3 : Int) : Option (Int × Bool) :=
  ((idxS x0 x3).bind fun v1 =>
    (bif (decide (v1 < (48 : Int))) then
     some ((0 : Int), Bool.false)
    else
     ((idxS x0 x3).bind fun v2 =>
     (bif (decide ((57 : Int) < v2)) then
     some ((0 : Int), Bool.false)
     else
     path_Number_j4 m rec2 x0 x1 x3 x2 x3))))
noncomputable def path_Number_j6 (m : Nat) (x0 : Int) : Option (Int × Bool) :=
  some (x0, Bool.true)
noncomputable def path_Number_l2 (m : Nat) : Nat → ByteArray → Int → Int → Int → Option (Int × Bool)
  | 0, _, _, _, _ => none
  | M2 + 1, x0, x1, x2, x3 =>
    (bif (decide (x3 < x2)) then
    path_Number_j3 m (path_Number_l2 m M2) x0 x1 x2 x3
  else
    path_Number_j6 m x1)
noncomputable def path_Number_j1 (m : Nat) (x0 : ByteArray) (x1 x2 x3 : Int) : Option (Int × Bool) :=
  path_Number_l2 m (Nat.succ m) x0 x1 x2 x3
noncomputable def path_Number_j0 (m : Nat) (x0 : ByteArray) : Option (Int × Bool) :=
  path_Number_j1 m x0 (0 : Int) (((ByteArray.size x0) : Nat) : Int) (0 : Int)
noncomputable def path_Number : Nat → ByteArray → Option (Int × Bool)
  | 0, _ => none
  | m + 1, a0 =>
    (bif (decide ((((ByteArray.size a0) : Nat) : Int) < (1 : Int))) then
    some ((0 : Int), Bool.false)
  else
    (bif (decide ((4 : Int) < (((ByteArray.size a0) : Nat) : Int))) then
     some ((0 : Int), Bool.false)
    else
     ((idxS a0 (0 : Int)).bind fun v0 =>
     (bif (v0 == (48 : Int)) then
     (bif (decide ((1 : Int) < (((ByteArray.size a0) : Nat) : Int))) then
     some ((0 : Int), Bool.false)
     else
     path_Number_j0 m a0)
     else
     path_Number_j0 m a0))))
noncomputable def i46_j1 (m : Nat) (self46 : Dt → List Dt → List Dt → Option (List Dt)) (x0 : List Dt) : Option (List Dt) :=
  some x0
noncomputable def i46_j5 (m : Nat) (self46 : Dt → List Dt → List Dt → Option (List Dt)) (rec3 : List Dt → List Dt → Int → Int → List Dt → Dt → Option (List Dt)) (x0 x1 : List Dt) (x2 x3 : Int) (x4 : List Dt) (x5 : Dt) : Option (List Dt) :=
  rec3 x0 x1 x2 (IntKind.wrap IntKind.i64 (x3 + (1 : Int))) x4 x5
noncomputable def i46_j4 (m : Nat) (self46 : Dt → List Dt → List Dt → Option (List Dt)) (rec3 : List Dt → List Dt → Int → Int → List Dt → Dt → Option (List Dt)) (x0 x1 : List Dt) (x2 x3 : Int) (x4 : List Dt) (x5 : Dt) : Option (List Dt) :=
  ((idx x1 x3).bind fun v6 =>
    (bif ((Dt.I v6 0) == (5 : Int)) then
     ((self46 v6 x0 x4).bind fun r7 =>
     i46_j5 m self46 rec3 x0 x1 x2 x3 r7 x5)
    else
     i46_j5 m self46 rec3 x0 x1 x2 x3 x4 x5))
noncomputable def i46_j6 (m : Nat) (self46 : Dt → List Dt → List Dt → Option (List Dt)) (x0 x1 : List Dt) (x2 : Dt) : Option (List Dt) :=
  ((idx x0 (0 : Int)).bind fun v8 =>
    ((path_Number m (Dt.toStr v8)).bind fun r9 =>
     (bif (Prod.snd r9) then
     (bif (decide ((Prod.fst r9) < (((List.length (Dt.L x2 3)) : Nat) : Int))) then
     ((idx (Dt.L x2 3) (Prod.fst r9)).bind fun v10 =>
     ((cutL x0 (1 : Int) (((List.length x0) : Nat) : Int)).bind fun v11 =>
     ((self46 v10 v11 x1).bind fun r12 =>
     i46_j1 m self46 r12)))
     else
     i46_j1 m self46 x1)
     else
     i46_j1 m self46 x1)))
noncomputable def i46_l3 (m : Nat) (self46 : Dt → List Dt → List Dt → Option (List Dt)) : Nat → List Dt → List Dt → Int → Int → List Dt → Dt → Option (List Dt)
  | 0, _, _, _, _, _, _ => none
  | M3 + 1, x0, x1, x2, x3, x4, x5 =>
    (bif (decide (x3 < x2)) then
    i46_j4 m self46 (i46_l3 m self46 M3) x0 x1 x2 x3 x4 x5
  else
    i46_j6 m self46 x0 x4 x5)
noncomputable def i46_j2 (m : Nat) (self46 : Dt → List Dt → List Dt → Option (List Dt)) (x0 x1 : List Dt) (x2 x3 : Int) (x4 : List Dt) (x5 : Dt) : Option (List Dt) :=
  i46_l3 m self46 (Nat.succ m) x0 x1 x2 x3 x4 x5
noncomputable def i46_j0 (m : Nat) (self46 : Dt → List Dt → List Dt → Option (List Dt)) (x0 x1 : List Dt) (x2 : Dt) : Option (List Dt) :=
  (bif ((Dt.I x2 0) == (5 : Int)) then
    ((idx x0 (0 : Int)).bind fun v1 =>
     ((path_field m (Dt.L x2 4) (Dt.toStr v1)).bind fun r2 =>
     (bif (decide ((0 : Int) ≤ r2)) then
     ((idx (Dt.L x2 4) r2).bind fun v3 =>
     ((cutL x0 (1 : Int) (((List.length x0) : Nat) : Int)).bind fun v4 =>
     ((self46 (Dt.fld v3 1) v4 x1).bind fun r5 =>
     i46_j1 m self46 r5)))
     else
     i46_j1 m self46 x1)))
  else
    (bif ((Dt.I x2 0) == (6 : Int)) then
     i46_j2 m self46 x0 (Dt.L x2 3) (((List.length (Dt.L x2 3)) : Nat) : Int) (0 : Int) x1 x2
    else
     i46_j1 m self46 x1))
noncomputable def i46 : Nat → Dt → List Dt → List Dt → Option (List Dt)
  | 0, _, _, _ => none
  | m + 1, a0, a1, a2 =>
    (bif ((((List.length a1) : Nat) : Int) == (0 : Int)) then
    ((app a2 [a0]).bind fun v0 =>
     some v0)
  else
    i46_j0 m (i46 m) a1 a2 a0)
noncomputable def path_clone_j3 (m : Nat) (self49 : Dt → Option (Dt)) (rec1 : List Dt → Int → Int → Dt → Dt → Int → Int → ByteArray → List Dt → Option (Dt)) (x0 : List Dt) (x1 x2 : Int) (x3 x4 : Dt) (x5 x6 : Int) (x7 : ByteArray) (x8 : List Dt) : Option (Dt) :=
  rec1 x0 x1 (IntKind.wrap IntKind.i64 (x2 + (1 : Int))) x3 x4 x5 x6 x7 x8
noncomputable def path_clone_j2 (m : Nat) (self49 : Dt → Option (Dt)) (rec1 : List Dt → Int → Int → Dt → Dt → Int → Int → ByteArray → List Dt → Option (Dt)) (x0 : List Dt) (x1 x2 : Int) (x3 x4 : Dt) (x5 x6 : Int) (x7 : ByteArray) (x8 : List Dt) : Option (Dt) :=
  ((idx x0 x2).bind fun v1 =>
    ((self49 v1).bind fun r2 =>
     ((inL x8 x2).bind fun v3 =>
     ((x8[(Int.toNat x2)]?).bind fun v4 =>
     path_clone_j3 m self49 rec1 x0 x1 x2 x3 x4 x5 x6 x7 (List.set x8 (Int.toNat x2) r2)))))
noncomputable def path_clone_j8 (m : Nat) (self49 : Dt → Option (Dt)) (rec6 : List Dt → Int → Int → Dt → Int → Int → ByteArray → List Dt → List Dt → Option (Dt)) (x0 : List Dt) (x1 x2 : Int) (x3 : Dt) (x4 x5 : Int) (x6 : ByteArray) (x7 x8 : List Dt) : Option (Dt) :=
  rec6 x0 x1 (IntKind.wrap IntKind.i64 (x2 + (1 : Int))) x3 x4 x5 x6 x7 x8
noncomputable def path_clone_j7 (m : Nat) (self49 : Dt → Option (Dt)) (rec6 : List Dt → Int → Int → Dt → Int → Int → ByteArray → List Dt → List Dt → Option (Dt)) (x0 : List Dt) (x1 x2 : Int) (x3 : Dt) (x4 x5 : Int) (x6 : ByteArray) (x7 x8 : List Dt) : Option (Dt) :=
  ((idx x0 x2).bind fun v6 =>
    ((self49 (Dt.fld v6 1)).bind fun r7 =>
     ((inL x8 x2).bind fun v8 =>
     ((x8[(Int.toNat x2)]?).bind fun v9 =>
     path_clone_j8 m self49 rec6 x0 x1 x2 x3 x4 x5 x6 x7 (List.set x8 (Int.toNat x2) (Dt.agg [(Dt.str (Dt.S v6 0)), r7]))))))
noncomputable def path_clone_j9 (m : Nat) (self49 : Dt → Option (Dt)) (x0 : Dt) (x1 x2 : Int) (x3 : ByteArray) (x4 x5 : List Dt) : Option (Dt) :=
  some (Dt.agg [(Dt.int x1), (Dt.int x2), (Dt.str x3), (Dt.lst x4), (Dt.lst x5)])
noncomputable def path_clone_l6 (m : Nat) (self49 : Dt → Option (Dt)) : Nat → List Dt → Int → Int → Dt → Int → Int → ByteArray → List Dt → List Dt → Option (Dt)
  | 0, _, _, _, _, _, _, _, _, _ => none
  | M6 + 1, x0, x1, x2, x3, x4, x5, x6, x7, x8 =>
    (bif (decide (x2 < x1)) then
    path_clone_j7 m self49 (path_clone_l6 m self49 M6) x0 x1 x2 x3 x4 x5 x6 x7 x8
  else
    path_clone_j9 m self49 x3 x4 x5 x6 x7 x8)
noncomputable def path_clone_j5 (m : Nat) (self49 : Dt → Option (Dt)) (x0 : List Dt) (x1 x2 : Int) (x3 : Dt) (x4 x5 : Int) (x6 : ByteArray) (x7 x8 : List Dt) : Option (Dt) :=
  path_clone_l6 m self49 (Nat.succ m) x0 x1 x2 x3 x4 x5 x6 x7 x8
noncomputable def path_clone_j10 (m : Nat) (self49 : Dt → Option (Dt)) (x0 : Dt) (x1 x2 : Int) (x3 : ByteArray) (x4 : List Dt) : Option (Dt) :=
  some (Dt.agg [(Dt.int x1), (Dt.int x2), (Dt.str x3), (Dt.lst x4), (Dt.lst [])])
noncomputable def path_clone_j4 (m : Nat) (self49 : Dt → Option (Dt)) (x0 x1 : Dt) (x2 x3 : Int) (x4 : ByteArray) (x5 : List Dt) : Option (Dt) :=
  (bif (decide ((0 : Int) < (((List.length (Dt.L x0 4)) : Nat) : Int))) then
    ((mkL (((List.length (Dt.L x0 4)) : Nat) : Int) (((List.length (Dt.L x0 4)) : Nat) : Int) (Dt.agg [(Dt.str (ByteArray.mk (List.toArray []))), (Dt.agg [(Dt.int (0 : Int)), (Dt.int (0 : Int)), (Dt.str (ByteArray.mk (List.toArray []))), (Dt.lst []), (Dt.lst [])])])).bind fun v5 =>
     path_clone_j5 m self49 (Dt.L x0 4) (((List.length (Dt.L x0 4)) : Nat) : Int) (0 : Int) x1 x2 x3 x4 x5 v5)
  else
    path_clone_j10 m self49 x1 x2 x3 x4 x5)
noncomputable def path_clone_l1 (m : Nat) (self49 : Dt → Option (Dt)) : Nat → List Dt → Int → Int → Dt → Dt → Int → Int → ByteArray → List Dt → Option (Dt)
  | 0, _, _, _, _, _, _, _, _, _ => none
  | M1 + 1, x0, x1, x2, x3, x4, x5, x6, x7, x8 =>
    (bif (decide (x2 < x1)) then
    path_clone_j2 m self49 (path_clone_l1 m self49 M1) x0 x1 x2 x3 x4 x5 x6 x7 x8
  else
    path_clone_j4 m self49 x3 x4 x5 x6 x7 x8)
noncomputable def path_clone_j0 (m : Nat) (self49 : Dt → Option (Dt)) (x0 : List Dt) (x1 x2 : Int) (x3 x4 : Dt) (x5 x6 : Int) (x7 : ByteArray) (x8 : List Dt) : Option (Dt) :=
  path_clone_l1 m self49 (Nat.succ m) x0 x1 x2 x3 x4 x5 x6 x7 x8
noncomputable def path_clone_j15 (m : Nat) (self49 : Dt → Option (Dt)) (rec13 : List Dt → Int → Int → Dt → Int → Int → ByteArray → List Dt → List Dt → Option (Dt)) (x0 : List Dt) (x1 x2 : Int) (x3 : Dt) (x4 x5 : Int) (x6 : ByteArray) (x7 x8 : List Dt) : Option (Dt) :=
  rec13 x0 x1 (IntKind.wrap IntKind.i64 (x2 + (1 : Int))) x3 x4 x5 x6 x7 x8
noncomputable def path_clone_j14 (m : Nat) (self49 : Dt → Option (Dt)) (rec13 : List Dt → Int → Int → Dt → Int → Int → ByteArray → List Dt → List Dt → Option (Dt)) (x0 : List Dt) (x1 x2 : Int) (x3 : Dt) (x4 x5 : Int) (x6 : ByteArray) (x7 x8 : List Dt) : Option (Dt) :=
  ((idx x0 x2).bind fun v11 =>
    ((self49 (Dt.fld v11 1)).bind fun r12 =>
     ((inL x8 x2).bind fun v13 =>
     ((x8[(Int.toNat x2)]?).bind fun v14 =>
     path_clone_j15 m self49 rec13 x0 x1 x2 x3 x4 x5 x6 x7 (List.set x8 (Int.toNat x2) (Dt.agg [(Dt.str (Dt.S v11 0)), r12]))))))
noncomputable def path_clone_j16 (m : Nat) (self49 : Dt → Option (Dt)) (x0 : Dt) (x1 x2 : Int) (x3 : ByteArray) (x4 x5 : List Dt) : Option (Dt) :=
  some (Dt.agg [(Dt.int x1), (Dt.int x2), (Dt.str x3), (Dt.lst x4), (Dt.lst x5)])
noncomputable def path_clone_l13 (m : Nat) (self49 : Dt → Option (Dt)) : Nat → List Dt → Int → Int → Dt → Int → Int → ByteArray → List Dt → List Dt → Option (Dt)
  | 0, _, _, _, _, _, _, _, _, _ => none
  | M13 + 1, x0, x1, x2, x3, x4, x5, x6, x7, x8 =>
    (bif (decide (x2 < x1)) then
    path_clone_j14 m self49 (path_clone_l13 m self49 M13) x0 x1 x2 x3 x4 x5 x6 x7 x8
  else
    path_clone_j16 m self49 x3 x4 x5 x6 x7 x8)
noncomputable def path_clone_j12 (m : Nat) (self49 : Dt → Option (Dt)) (x0 : List Dt) (x1 x2 : Int) (x3 : Dt) (x4 x5 : Int) (x6 : ByteArray) (x7 x8 : List Dt) : Option (Dt) :=
  path_clone_l13 m self49 (Nat.succ m) x0 x1 x2 x3 x4 x5 x6 x7 x8
noncomputable def path_clone_j17 (m : Nat) (self49 : Dt → Option (Dt)) (x0 x1 : Dt) : Option (Dt) :=
  some x1
noncomputable def path_clone_j11 (m : Nat) (self49 : Dt → Option (Dt)) (x0 x1 x2 : Dt) : Option (Dt) :=
  (bif (decide ((0 : Int) < (((List.length (Dt.L x0 4)) : Nat) : Int))) then
    ((mkL (((List.length (Dt.L x0 4)) : Nat) : Int) (((List.length (Dt.L x0 4)) : Nat) : Int) (Dt.agg [(Dt.str (ByteArray.mk (List.toArray []))), (Dt.agg [(Dt.int (0 : Int)), (Dt.int (0 : Int)), (Dt.str (ByteArray.mk (List.toArray []))), (Dt.lst []), (Dt.lst [])])])).bind fun v10 =>
     path_clone_j12 m self49 (Dt.L x0 4) (((List.length (Dt.L x0 4)) : Nat) : Int) (0 : Int) x1 (Dt.I x2 0) (Dt.I x2 1) (Dt.S x2 2) (Dt.L x2 3) v10)
  else
    path_clone_j17 m self49 x1 x2)
noncomputable def path_clone : Nat → Dt → Option (Dt)
  | 0, _ => none
  | m + 1, a0 =>
    (bif (decide ((0 : Int) < (((List.length (Dt.L a0 3)) : Nat) : Int))) then
    ((mkL (((List.length (Dt.L a0 3)) : Nat) : Int) (((List.length (Dt.L a0 3)) : Nat) : Int) (Dt.agg [(Dt.int (0 : Int)), (Dt.int (0 : Int)), (Dt.str (ByteArray.mk (List.toArray []))), (Dt.lst []), (Dt.lst [])])).bind fun v0 =>
     path_clone_j0 m (path_clone m) (Dt.L a0 3) (((List.length (Dt.L a0 3)) : Nat) : Int) (0 : Int) a0 (Dt.agg [(Dt.int (0 : Int)), (Dt.int (0 : Int)), (Dt.str (ByteArray.mk (List.toArray []))), (Dt.lst []), (Dt.lst [])]) (Dt.I a0 0) (Dt.I a0 1) (Dt.S a0 2) v0)
  else
    path_clone_j11 m (path_clone m) a0 (Dt.agg [(Dt.int (0 : Int)), (Dt.int (0 : Int)), (Dt.str (ByteArray.mk (List.toArray []))), (Dt.lst []), (Dt.lst [])]) (Dt.agg [(Dt.int (Dt.I a0 0)), (Dt.int (Dt.I a0 1)), (Dt.str (Dt.S a0 2)), (Dt.lst []), (Dt.lst [])]))
noncomputable def path_Reach_j4 (m : Nat) (rec2 : Int → Int → List Dt → Option (List Dt)) (x0 x1 : Int) (x2 : List Dt) : Option (List Dt) :=
  rec2 x0 (IntKind.wrap IntKind.i64 (x1 + (1 : Int))) x2
noncomputable def path_Reach_j3 (m : Nat) (rec2 : Int → Int → List Dt → Option (List Dt)) (x0 x1 : Int) (x2 : List Dt) : Option (List Dt) :=
  ((inL x2 x1).bind fun v1 =>
    ((x2[(Int.toNat x1)]?).bind fun v2 =>
     ((path_clone m v2).bind fun r3 =>
     ((inL x2 x1).bind fun v4 =>
     ((x2[(Int.toNat x1)]?).bind fun v5 =>
     path_Reach_j4 m rec2 x0 x1 (List.set x2 (Int.toNat x1) r3))))))
noncomputable def path_Reach_j5 (m : Nat) (x0 : List Dt) : Option (List Dt) :=
  some x0
noncomputable def path_Reach_l2 (m : Nat) : Nat → Int → Int → List Dt → Option (List Dt)
  | 0, _, _, _ => none
  | M2 + 1, x0, x1, x2 =>
    (bif (decide (x1 < x0)) then
    path_Reach_j3 m (path_Reach_l2 m M2) x0 x1 x2
  else
    path_Reach_j5 m x2)
noncomputable def path_Reach_j1 (m : Nat) (x0 x1 : Int) (x2 : List Dt) : Option (List Dt) :=
  path_Reach_l2 m (Nat.succ m) x0 x1 x2
noncomputable def path_Reach_j0 (m : Nat) (x0 : List Dt) : Option (List Dt) :=
  path_Reach_j1 m (((List.length x0) : Nat) : Int) (0 : Int) x0
noncomputable def path_Reach : Nat → Dt → List Dt → Option (List Dt)
  | 0, _, _ => none
  | m + 1, a0, a1 =>
    ((i46 m a0 a1 []).bind fun r0 =>
    (bif ((((List.length r0) : Nat) : Int) == (0 : Int)) then
     some [(Dt.agg [(Dt.int (0 : Int)), (Dt.int (0 : Int)), (Dt.str (ByteArray.mk (List.toArray []))), (Dt.lst []), (Dt.lst [])])]
    else
     path_Reach_j0 m r0))
noncomputable def cmp_isNaN : Nat → Int → Option (Bool)
  | 0, _ => none
  | m + 1, a0 =>
    some (a0 != a0)
noncomputable def cmp_Compare_j0 (m : Nat) : Option (Int) :=
  some (-1 : Int)
noncomputable def cmp_Compare_j4 (m : Nat) : Option (Int) :=
  some (0 : Int)
noncomputable def cmp_Compare_j3 (m : Nat) (x0 x1 : Int) : Option (Int) :=
  (bif (decide (x1 < x0)) then
    some (1 : Int)
  else
    cmp_Compare_j4 m)
noncomputable def cmp_Compare_j2 (m : Nat) (x0 x1 : Int) : Option (Int) :=
  (bif (decide (x0 < x1)) then
    some (-1 : Int)
  else
    cmp_Compare_j3 m x0 x1)
noncomputable def cmp_Compare_j1 (m : Nat) (x0 x1 : Int) (x2 : Bool) : Option (Int) :=
  (bif x2 then
    some (1 : Int)
  else
    cmp_Compare_j2 m x0 x1)
noncomputable def cmp_Compare : Nat → Int → Int → Option (Int)
  | 0, _, _ => none
  | m + 1, a0, a1 =>
    ((cmp_isNaN m a0).bind fun r0 =>
    ((cmp_isNaN m a1).bind fun r1 =>
     (bif r0 then
     (bif r1 then
     some (0 : Int)
     else
     cmp_Compare_j0 m)
     else
     cmp_Compare_j1 m a0 a1 r1)))
noncomputable def value_Compare_j4 (m : Nat) (self30 : Dt → Dt → Option (Int)) (rec2 : Int → Int → Dt → Dt → Option (Int)) (x0 x1 : Int) (x2 x3 : Dt) : Option (Int) :=
  rec2 x0 (IntKind.wrap IntKind.i64 (x1 + (1 : Int))) x2 x3
noncomputable def value_Compare_j3 (m : Nat) (self30 : Dt → Dt → Option (Int)) (rec2 : Int → Int → Dt → Dt → Option (Int)) (x0 x1 : Int) (x2 x3 : Dt) : Option (Int) :=
  ((idx (Dt.L x2 3) x1).bind fun v3 =>
    ((idx (Dt.L x3 3) x1).bind fun v4 =>
     ((self30 v3 v4).bind fun r5 =>
     (bif (r5 != (0 : Int)) then
     some r5
     else
     value_Compare_j4 m self30 rec2 x0 x1 x2 x3))))
noncomputable def value_Compare_j5 (m : Nat) (self30 : Dt → Dt → Option (Int)) (x0 x1 : Dt) : Option (Int) :=
  ((cmp_Compare m (((List.length (Dt.L x0 3)) : Nat) : Int) (((List.length (Dt.L x1 3)) : Nat) : Int)).bind fun r6 =>
    some r6)
noncomputable def value_Compare_l2 (m : Nat) (self30 : Dt → Dt → Option (Int)) : Nat → Int → Int → Dt → Dt → Option (Int)
  | 0, _, _, _, _ => none
  | M2 + 1, x0, x1, x2, x3 =>
    (bif (decide (x1 < x0)) then
    value_Compare_j3 m self30 (value_Compare_l2 m self30 M2) x0 x1 x2 x3
  else
    value_Compare_j5 m self30 x2 x3)
noncomputable def value_Compare_j1 (m : Nat) (self30 : Dt → Dt → Option (Int)) (x0 x1 : Int) (x2 x3 : Dt) : Option (Int) :=
  value_Compare_l2 m self30 (Nat.succ m) x0 x1 x2 x3
noncomputable def value_Compare_j10 (m : Nat) (self30 : Dt → Dt → Option (Int)) (rec7 : Int → Int → Dt → Dt → Option (Int)) (x0 x1 : Int) (x2 x3 : Dt) : Option (Int) :=
  rec7 x0 (IntKind.wrap IntKind.i64 (x1 + (1 : Int))) x2 x3
noncomputable def value_Compare_j9 (m : Nat) (self30 : Dt → Dt → Option (Int)) (rec7 : Int → Int → Dt → Dt → Option (Int)) (x0 x1 x2 : Int) (x3 x4 : Dt) : Option (Int) :=
  ((idx (Dt.L x3 4) x0).bind fun v10 =>
    ((idx (Dt.L x4 4) x0).bind fun v11 =>
     ((self30 (Dt.fld v10 1) (Dt.fld v11 1)).bind fun r12 =>
     (bif (r12 != (0 : Int)) then
     some r12
     else
     value_Compare_j10 m self30 rec7 x1 x2 x3 x4))))
noncomputable def value_Compare_j8 (m : Nat) (self30 : Dt → Dt → Option (Int)) (rec7 : Int → Int → Dt → Dt → Option (Int)) (x0 x1 : Int) (x2 x3 : Dt) : Option (Int) :=
  ((idx (Dt.L x2 4) x1).bind fun v7 =>
    ((idx (Dt.L x3 4) x1).bind fun v8 =>
     ((strings_Compare (Dt.S v7 0) (Dt.S v8 0)).bind fun r9 =>
     (bif (r9 != (0 : Int)) then
     some r9
     else
     value_Compare_j9 m self30 rec7 x1 x0 x1 x2 x3))))
noncomputable def value_Compare_j11 (m : Nat) (self30 : Dt → Dt → Option (Int)) (x0 x1 : Dt) : Option (Int) :=
  ((cmp_Compare m (((List.length (Dt.L x0 4)) : Nat) : Int) (((List.length (Dt.L x1 4)) : Nat) : Int)).bind fun r13 =>
    some r13)
noncomputable def value_Compare_l7 (m : Nat) (self30 : Dt → Dt → Option (Int)) : Nat → Int → Int → Dt → Dt → Option (Int)
  | 0, _, _, _, _ => none
  | M7 + 1, x0, x1, x2, x3 =>
    (bif (decide (x1 < x0)) then
    value_Compare_j8 m self30 (value_Compare_l7 m self30 M7) x0 x1 x2 x3
  else
    value_Compare_j11 m self30 x2 x3)
noncomputable def value_Compare_j6 (m : Nat) (self30 : Dt → Dt → Option (Int)) (x0 x1 : Int) (x2 x3 : Dt) : Option (Int) :=
  value_Compare_l7 m self30 (Nat.succ m) x0 x1 x2 x3
noncomputable def value_Compare_j12 (m : Nat) (self30 : Dt → Dt → Option (Int)) : Option (Int) :=
  some (0 : Int)
noncomputable def value_Compare_j0 (m : Nat) (self30 : Dt → Dt → Option (Int)) (x0 x1 : Dt) : Option (Int) :=
  (bif ((Dt.I x0 0) == (3 : Int)) then
    (bif ((Dt.I x0 0) == (3 : Int)) then
     ((cmp_Compare m (Dt.I x0 1) (Dt.I x1 1)).bind fun r1 =>
     some r1)
    else
     (bif ((Dt.I x0 0) == (4 : Int)) then
     (bif ((Dt.I x0 0) == (4 : Int)) then
     ((strings_Compare (Dt.S x0 2) (Dt.S x1 2)).bind fun r2 =>
     some r2)
     else
     (bif ((Dt.I x0 0) == (6 : Int)) then
     value_Compare_j1 m self30 (bif (decide ((((List.length (Dt.L x1 3)) : Nat) : Int) < (((List.length (Dt.L x0 3)) : Nat) : Int))) then (((List.length (Dt.L x1 3)) : Nat) : Int) else (((List.length (Dt.L x0 3)) : Nat) : Int)) (0 : Int) x0 x1
     else
     (bif ((Dt.I x0 0) == (5 : Int)) then
     value_Compare_j6 m self30 (bif (decide ((((List.length (Dt.L x1 4)) : Nat) : Int) < (((List.length (Dt.L x0 4)) : Nat) : Int))) then (((List.length (Dt.L x1 4)) : Nat) : Int) else (((List.length (Dt.L x0 4)) : Nat) : Int)) (0 : Int) x0 x1
     else
     value_Compare_j12 m self30)))
     else
     (bif ((Dt.I x0 0) == (7 : Int)) then
     (bif ((Dt.I x0 0) == (7 : Int)) then
     ((strings_Compare (Dt.S x0 2) (Dt.S x1 2)).bind fun r14 =>
     some r14)
     else
     (bif ((Dt.I x0 0) == (6 : Int)) then
     value_Compare_j1 m self30 (bif (decide ((((List.length (Dt.L x1 3)) : Nat) : Int) < (((List.length (Dt.L x0 3)) : Nat) : Int))) then (((List.length (Dt.L x1 3)) : Nat) : Int) else (((List.length (Dt.L x0 3)) : Nat) : Int)) (0 : Int) x0 x1
     else
     (bif ((Dt.I x0 0) == (5 : Int)) then
     value_Compare_j6 m self30 (bif (decide ((((List.length (Dt.L x1 4)) : Nat) : Int) < (((List.length (Dt.L x0 4)) : Nat) : Int))) then (((List.length (Dt.L x1 4)) : Nat) : Int) else (((List.length (Dt.L x0 4)) : Nat) : Int)) (0 : Int) x0 x1
     else
     value_Compare_j12 m self30)))
     else
     (bif ((Dt.I x0 0) == (8 : Int)) then
     ((strings_Compare (Dt.S x0 2) (Dt.S x1 2)).bind fun r15 =>
     some r15)
     else
     (bif ((Dt.I x0 0) == (6 : Int)) then
     value_Compare_j1 m self30 (bif (decide ((((List.length (Dt.L x1 3)) : Nat) : Int) < (((List.length (Dt.L x0 3)) : Nat) : Int))) then (((List.length (Dt.L x1 3)) : Nat) : Int) else (((List.length (Dt.L x0 3)) : Nat) : Int)) (0 : Int) x0 x1
     else
     (bif ((Dt.I x0 0) == (5 : Int)) then
     value_Compare_j6 m self30 (bif (decide ((((List.length (Dt.L x1 4)) : Nat) : Int) < (((List.length (Dt.L x0 4)) : Nat) : Int))) then (((List.length (Dt.L x1 4)) : Nat) : Int) else (((List.length (Dt.L x0 4)) : Nat) : Int)) (0 : Int) x0 x1
     else
     value_Compare_j12 m self30))))))
  else
    (bif ((Dt.I x0 0) == (9 : Int)) then
     (bif ((Dt.I x0 0) == (9 : Int)) then
     ((cmp_Compare m (Dt.I x0 1) (Dt.I x1 1)).bind fun r16 =>
     some r16)
     else
     (bif ((Dt.I x0 0) == (4 : Int)) then
     (bif ((Dt.I x0 0) == (4 : Int)) then
     ((strings_Compare (Dt.S x0 2) (Dt.S x1 2)).bind fun r17 =>
     some r17)
     else
     (bif ((Dt.I x0 0) == (6 : Int)) then
     value_Compare_j1 m self30 (bif (decide ((((List.length (Dt.L x1 3)) : Nat) : Int) < (((List.length (Dt.L x0 3)) : Nat) : Int))) then (((List.length (Dt.L x1 3)) : Nat) : Int) else (((List.length (Dt.L x0 3)) : Nat) : Int)) (0 : Int) x0 x1
     else
     (bif ((Dt.I x0 0) == (5 : Int)) then
     value_Compare_j6 m self30 (bif (decide ((((List.length (Dt.L x1 4)) : Nat) : Int) < (((List.length (Dt.L x0 4)) : Nat) : Int))) then (((List.length (Dt.L x1 4)) : Nat) : Int) else (((List.length (Dt.L x0 4)) : Nat) : Int)) (0 : Int) x0 x1
     else
     value_Compare_j12 m self30)))
     else
     (bif ((Dt.I x0 0) == (7 : Int)) then
     (bif ((Dt.I x0 0) == (7 : Int)) then
     ((strings_Compare (Dt.S x0 2) (Dt.S x1 2)).bind fun r18 =>
     some r18)
     else
     (bif ((Dt.I x0 0) == (6 : Int)) then
     value_Compare_j1 m self30 (bif (decide ((((List.length (Dt.L x1 3)) : Nat) : Int) < (((List.length (Dt.L x0 3)) : Nat) : Int))) then (((List.length (Dt.L x1 3)) : Nat) : Int) else (((List.length (Dt.L x0 3)) : Nat) : Int)) (0 : Int) x0 x1
     else
     (bif ((Dt.I x0 0) == (5 : Int)) then
     value_Compare_j6 m self30 (bif (decide ((((List.length (Dt.L x1 4)) : Nat) : Int) < (((List.length (Dt.L x0 4)) : Nat) : Int))) then (((List.length (Dt.L x1 4)) : Nat) : Int) else (((List.length (Dt.L x0 4)) : Nat) : Int)) (0 : Int) x0 x1
     else
     value_Compare_j12 m self30)))
     else
     (bif ((Dt.I x0 0) == (8 : Int)) then
     ((strings_Compare (Dt.S x0 2) (Dt.S x1 2)).bind fun r19 =>
     some r19)
     else
     (bif ((Dt.I x0 0) == (6 : Int)) then
     value_Compare_j1 m self30 (bif (decide ((((List.length (Dt.L x1 3)) : Nat) : Int) < (((List.length (Dt.L x0 3)) : Nat) : Int))) then (((List.length (Dt.L x1 3)) : Nat) : Int) else (((List.length (Dt.L x0 3)) : Nat) : Int)) (0 : Int) x0 x1
     else
     (bif ((Dt.I x0 0) == (5 : Int)) then
     value_Compare_j6 m self30 (bif (decide ((((List.length (Dt.L x1 4)) : Nat) : Int) < (((List.length (Dt.L x0 4)) : Nat) : Int))) then (((List.length (Dt.L x1 4)) : Nat) : Int) else (((List.length (Dt.L x0 4)) : Nat) : Int)) (0 : Int) x0 x1
     else
     value_Compare_j12 m self30))))))
    else
     (bif ((Dt.I x0 0) == (10 : Int)) then
     ((cmp_Compare m (Dt.I x0 1) (Dt.I x1 1)).bind fun r20 =>
     some r20)
     else
     (bif ((Dt.I x0 0) == (4 : Int)) then
     (bif ((Dt.I x0 0) == (4 : Int)) then
     ((strings_Compare (Dt.S x0 2) (Dt.S x1 2)).bind fun r21 =>
     some r21)
     else
     (bif ((Dt.I x0 0) == (6 : Int)) then
     value_Compare_j1 m self30 (bif (decide ((((List.length (Dt.L x1 3)) : Nat) : Int) < (((List.length (Dt.L x0 3)) : Nat) : Int))) then (((List.length (Dt.L x1 3)) : Nat) : Int) else (((List.length (Dt.L x0 3)) : Nat) : Int)) (0 : Int) x0 x1
     else
     (bif ((Dt.I x0 0) == (5 : Int)) then
     value_Compare_j6 m self30 (bif (decide ((((List.length (Dt.L x1 4)) : Nat) : Int) < (((List.length (Dt.L x0 4)) : Nat) : Int))) then (((List.length (Dt.L x1 4)) : Nat) : Int) else (((List.length (Dt.L x0 4)) : Nat) : Int)) (0 : Int) x0 x1
     else
     value_Compare_j12 m self30)))
     else
     (bif ((Dt.I x0 0) == (7 : Int)) then
     (bif ((Dt.I x0 0) == (7 : Int)) then
     ((strings_Compare (Dt.S x0 2) (Dt.S x1 2)).bind fun r22 =>
     some r22)
     else
     (bif ((Dt.I x0 0) == (6 : Int)) then
     value_Compare_j1 m self30 (bif (decide ((((List.length (Dt.L x1 3)) : Nat) : Int) < (((List.length (Dt.L x0 3)) : Nat) : Int))) then (((List.length (Dt.L x1 3)) : Nat) : Int) else (((List.length (Dt.L x0 3)) : Nat) : Int)) (0 : Int) x0 x1
     else
     (bif ((Dt.I x0 0) == (5 : Int)) then
     value_Compare_j6 m self30 (bif (decide ((((List.length (Dt.L x1 4)) : Nat) : Int) < (((List.length (Dt.L x0 4)) : Nat) : Int))) then (((List.length (Dt.L x1 4)) : Nat) : Int) else (((List.length (Dt.L x0 4)) : Nat) : Int)) (0 : Int) x0 x1
     else
     value_Compare_j12 m self30)))
     else
     (bif ((Dt.I x0 0) == (8 : Int)) then
     ((strings_Compare (Dt.S x0 2) (Dt.S x1 2)).bind fun r23 =>
     some r23)
     else
     (bif ((Dt.I x0 0) == (6 : Int)) then
     value_Compare_j1 m self30 (bif (decide ((((List.length (Dt.L x1 3)) : Nat) : Int) < (((List.length (Dt.L x0 3)) : Nat) : Int))) then (((List.length (Dt.L x1 3)) : Nat) : Int) else (((List.length (Dt.L x0 3)) : Nat) : Int)) (0 : Int) x0 x1
     else
     (bif ((Dt.I x0 0) == (5 : Int)) then
     value_Compare_j6 m self30 (bif (decide ((((List.length (Dt.L x1 4)) : Nat) : Int) < (((List.length (Dt.L x0 4)) : Nat) : Int))) then (((List.length (Dt.L x1 4)) : Nat) : Int) else (((List.length (Dt.L x0 4)) : Nat) : Int)) (0 : Int) x0 x1
     else
     value_Compare_j12 m self30))))))))
noncomputable def value_Compare : Nat → Dt → Dt → Option (Int)
  | 0, _, _ => none
  | m + 1, a0, a1 =>
    (bif ((Dt.I a0 0) != (Dt.I a1 0)) then
    ((cmp_Compare m (Dt.I a0 0) (Dt.I a1 0)).bind fun r0 =>
     some r0)
  else
    value_Compare_j0 m (value_Compare m) a0 a1)
noncomputable def order_compare_j4 (m : Nat) (rec1 : List Dt → List Dt → List Dt → Int → Int → Option (Int)) (x0 x1 x2 : List Dt) (x3 x4 : Int) : Option (Int) :=
  rec1 x0 x1 x2 x3 (IntKind.wrap IntKind.i64 (x4 + (1 : Int)))
noncomputable def order_compare_j3 (m : Nat) (rec1 : List Dt → List Dt → List Dt → Int → Int → Option (Int)) (x0 x1 : List Dt) (x2 : Int) (x3 : List Dt) (x4 x5 : Int) : Option (Int) :=
  (bif (x2 != (0 : Int)) then
    some x2
  else
    order_compare_j4 m rec1 x0 x1 x3 x4 x5)
noncomputable def order_compare_j2 (m : Nat) (rec1 : List Dt → List Dt → List Dt → Int → Int → Option (Int)) (x0 x1 x2 : List Dt) (x3 x4 : Int) : Option (Int) :=
  ((idx x2 x4).bind fun v0 =>
    ((idx x0 x4).bind fun v1 =>
     ((idx x1 x4).bind fun v2 =>
     ((value_Compare m v1 v2).bind fun r3 =>
     (bif (Dt.B v0 1) then
     order_compare_j3 m rec1 x0 x1 (IntKind.wrap IntKind.i64 ((0 : Int) - r3)) x2 x3 x4
     else
     order_compare_j3 m rec1 x0 x1 r3 x2 x3 x4)))))
noncomputable def order_compare_j5 (m : Nat) : Option (Int) :=
  some (0 : Int)
noncomputable def order_compare_l1 (m : Nat) : Nat → List Dt → List Dt → List Dt → Int → Int → Option (Int)
  | 0, _, _, _, _, _ => none
  | M1 + 1, x0, x1, x2, x3, x4 =>
    (bif (decide (x4 < x3)) then
    order_compare_j2 m (order_compare_l1 m M1) x0 x1 x2 x3 x4
  else
    order_compare_j5 m)
noncomputable def order_compare_j0 (m : Nat) (x0 x1 x2 : List Dt) (x3 x4 : Int) : Option (Int) :=
  order_compare_l1 m (Nat.succ m) x0 x1 x2 x3 x4
noncomputable def order_compare : Nat → List Dt → List Dt → List Dt → Option (Int)
  | 0, _, _, _ => none
  | m + 1, a0, a1, a2 =>
    order_compare_j0 m a1 a2 a0 (((List.length a0) : Nat) : Int) (0 : Int)
noncomputable def i22 : Nat → Dt → Dt → List Dt → Option (Int × List Dt)
  | 0, _, _, _ => none
  | m + 1, a0, a1, a2 =>
    ((order_compare m a2 (Dt.L a0 1) (Dt.L a1 1)).bind fun r0 =>
    some (r0, a2))
noncomputable def i21_j6 (m : Nat) (rec1 : Int → Int → Int → List Dt → List Dt → Option (List Dt × List Dt)) (rec4 : Int → Int → Int → Int → List Dt → List Dt → Option (List Dt × List Dt)) (x0 x1 x2 x3 : Int) (x4 x5 : List Dt) : Option (List Dt × List Dt) :=
  rec4 x0 x1 x2 (IntKind.wrap IntKind.i64 (x3 - (1 : Int))) x4 x5
noncomputable def i21_j5 (m : Nat) (rec1 : Int → Int → Int → List Dt → List Dt → Option (List Dt × List Dt)) (rec4 : Int → Int → Int → Int → List Dt → List Dt → Option (List Dt × List Dt)) (x0 x1 x2 x3 : Int) (x4 x5 : List Dt) : Option (List Dt × List Dt) :=
  ((inL x4 (IntKind.wrap IntKind.i64 (x3 - (1 : Int)))).bind fun v5 =>
    ((x4[(Int.toNat (IntKind.wrap IntKind.i64 (x3 - (1 : Int))))]?).bind fun v6 =>
     ((inL x4 x3).bind fun v7 =>
     ((x4[(Int.toNat x3)]?).bind fun v8 =>
     ((inL x4 x3).bind fun v9 =>
     ((x4[(Int.toNat x3)]?).bind fun v10 =>
     ((inL (List.set x4 (Int.toNat x3) v6) (IntKind.wrap IntKind.i64 (x3 - (1 : Int)))).bind fun v11 =>
     (((List.set x4 (Int.toNat x3) v6)[(Int.toNat (IntKind.wrap IntKind.i64 (x3 - (1 : Int))))]?).bind fun v12 =>
     i21_j6 m rec1 rec4 x0 x1 x2 x3 (List.set (List.set x4 (Int.toNat x3) v6) (Int.toNat (IntKind.wrap IntKind.i64 (x3 - (1 : Int)))) v8) x5))))))))
noncomputable def i21_j7 (m : Nat) (rec1 : Int → Int → Int → List Dt → List Dt → Option (List Dt × List Dt)) (x0 x1 x2 : Int) (x3 x4 : List Dt) : Option (List Dt × List Dt) :=
  rec1 x0 x1 (IntKind.wrap IntKind.i64 (x2 + (1 : Int))) x3 x4
noncomputable def i21_l4 (m : Nat) (rec1 : Int → Int → Int → List Dt → List Dt → Option (List Dt × List Dt)) : Nat → Int → Int → Int → Int → List Dt → List Dt → Option (List Dt × List Dt)
  | 0, _, _, _, _, _, _ => none
  | M4 + 1, x0, x1, x2, x3, x4, x5 =>
    (bif (decide (x0 < x3)) then
    ((inL x4 x3).bind fun v0 =>
     ((x4[(Int.toNat x3)]?).bind fun v1 =>
     ((inL x4 (IntKind.wrap IntKind.i64 (x3 - (1 : Int)))).bind fun v2 =>
     ((x4[(Int.toNat (IntKind.wrap IntKind.i64 (x3 - (1 : Int))))]?).bind fun v3 =>
     ((i22 m v1 v3 x5).bind fun r4 =>
     (bif (decide ((Prod.fst r4) < (0 : Int))) then
     i21_j5 m rec1 (i21_l4 m rec1 M4) x0 x1 x2 x3 x4 (Prod.snd r4)
     else
     i21_j7 m rec1 x0 x1 x2 x4 (Prod.snd r4)))))))
  else
    i21_j7 m rec1 x0 x1 x2 x4 x5)
noncomputable def i21_j3 (m : Nat) (rec1 : Int → Int → Int → List Dt → List Dt → Option (List Dt × List Dt)) (x0 x1 x2 x3 : Int) (x4 x5 : List Dt) : Option (List Dt × List Dt) :=
  i21_l4 m rec1 (Nat.succ m) x0 x1 x2 x3 x4 x5
noncomputable def i21_j2 (m : Nat) (rec1 : Int → Int → Int → List Dt → List Dt → Option (List Dt × List Dt)) (x0 x1 x2 : Int) (x3 x4 : List Dt) : Option (List Dt × List Dt) :=
  i21_j3 m rec1 x0 x1 x2 x2 x3 x4
noncomputable def i21_l1 (m : Nat) : Nat → Int → Int → Int → List Dt → List Dt → Option (List Dt × List Dt)
  | 0, _, _, _, _, _ => none
  | M1 + 1, x0, x1, x2, x3, x4 =>
    (bif (decide (x2 < x1)) then
    i21_j2 m (i21_l1 m M1) x0 x1 x2 x3 x4
  else
    some (x3, x4))
noncomputable def i21_j0 (m : Nat) (x0 x1 x2 : Int) (x3 x4 : List Dt) : Option (List Dt × List Dt) :=
  i21_l1 m (Nat.succ m) x0 x1 x2 x3 x4
noncomputable def i21 : Nat → Int → Int → List Dt → List Dt → Option (List Dt × List Dt)
  | 0, _, _, _, _ => none
  | m + 1, a0, a1, a2, a3 =>
    i21_j0 m a0 a1 (IntKind.wrap IntKind.i64 (a0 + (1 : Int))) a2 a3
noncomputable def i23_j2 (m : Nat) (self23 : Int → Int → Int → List Dt → List Dt → Option (List Dt × List Dt)) (rec1 : Int → Int → Int → List Dt → List Dt → Option (List Dt × List Dt)) (x0 x1 x2 : Int) (x3 x4 : List Dt) : Option (List Dt × List Dt) :=
  ((inL x3 (IntKind.wrap IntKind.i64 (shrI IntKind.u64 (IntKind.wrap IntKind.u64 (IntKind.wrap IntKind.i64 (x1 + x2))) (1 : Int)))).bind fun v0 =>
    ((x3[(Int.toNat (IntKind.wrap IntKind.i64 (shrI IntKind.u64 (IntKind.wrap IntKind.u64 (IntKind.wrap IntKind.i64 (x1 + x2))) (1 : Int))))]?).bind fun v1 =>
     ((inL x3 x0).bind fun v2 =>
     ((x3[(Int.toNat x0)]?).bind fun v3 =>
     ((i22 m v1 v3 x4).bind fun r4 =>
     (bif (decide ((Prod.fst r4) < (0 : Int))) then
     rec1 x0 (IntKind.wrap IntKind.i64 ((IntKind.wrap IntKind.i64 (shrI IntKind.u64 (IntKind.wrap IntKind.u64 (IntKind.wrap IntKind.i64 (x1 + x2))) (1 : Int))) + (1 : Int))) x2 x3 (Prod.snd r4)
     else
     rec1 x0 x1 (IntKind.wrap IntKind.i64 (shrI IntKind.u64 (IntKind.wrap IntKind.u64 (IntKind.wrap IntKind.i64 (x1 + x2))) (1 : Int))) x3 (Prod.snd r4)))))))
noncomputable def i23_j7 (m : Nat) (self23 : Int → Int → Int → List Dt → List Dt → Option (List Dt × List Dt)) (rec5 : Int → Int → List Dt → List Dt → Option (List Dt × List Dt)) (x0 x1 : Int) (x2 x3 : List Dt) : Option (List Dt × List Dt) :=
  rec5 x0 (IntKind.wrap IntKind.i64 (x1 + (1 : Int))) x2 x3
noncomputable def i23_j6 (m : Nat) (self23 : Int → Int → Int → List Dt → List Dt → Option (List Dt × List Dt)) (rec5 : Int → Int → List Dt → List Dt → Option (List Dt × List Dt)) (x0 x1 : Int) (x2 x3 : List Dt) : Option (List Dt × List Dt) :=
  ((inL x2 (IntKind.wrap IntKind.i64 (x1 + (1 : Int)))).bind fun v5 =>
    ((x2[(Int.toNat (IntKind.wrap IntKind.i64 (x1 + (1 : Int))))]?).bind fun v6 =>
     ((inL x2 x1).bind fun v7 =>
     ((x2[(Int.toNat x1)]?).bind fun v8 =>
     ((inL x2 x1).bind fun v9 =>
     ((x2[(Int.toNat x1)]?).bind fun v10 =>
     ((inL (List.set x2 (Int.toNat x1) v6) (IntKind.wrap IntKind.i64 (x1 + (1 : Int)))).bind fun v11 =>
     (((List.set x2 (Int.toNat x1) v6)[(Int.toNat (IntKind.wrap IntKind.i64 (x1 + (1 : Int))))]?).bind fun v12 =>
     i23_j7 m self23 rec5 x0 x1 (List.set (List.set x2 (Int.toNat x1) v6) (Int.toNat (IntKind.wrap IntKind.i64 (x1 + (1 : Int)))) v8) x3))))))))
noncomputable def i23_l5 (m : Nat) (self23 : Int → Int → Int → List Dt → List Dt → Option (List Dt × List Dt)) : Nat → Int → Int → List Dt → List Dt → Option (List Dt × List Dt)
  | 0, _, _, _, _ => none
  | M5 + 1, x0, x1, x2, x3 =>
    (bif (decide (x1 < (IntKind.wrap IntKind.i64 (x0 - (1 : Int))))) then
    i23_j6 m self23 (i23_l5 m self23 M5) x0 x1 x2 x3
  else
    some (x2, x3))
noncomputable def i23_j4 (m : Nat) (self23 : Int → Int → Int → List Dt → List Dt → Option (List Dt × List Dt)) (x0 x1 : Int) (x2 x3 : List Dt) : Option (List Dt × List Dt) :=
  i23_l5 m self23 (Nat.succ m) x0 x1 x2 x3
noncomputable def i23_j3 (m : Nat) (self23 : Int → Int → Int → List Dt → List Dt → Option (List Dt × List Dt)) (x0 x1 : Int) (x2 x3 : List Dt) : Option (List Dt × List Dt) :=
  i23_j4 m self23 x1 x0 x2 x3
noncomputable def i23_l1 (m : Nat) (self23 : Int → Int → Int → List Dt → List Dt → Option (List Dt × List Dt)) : Nat → Int → Int → Int → List Dt → List Dt → Option (List Dt × List Dt)
  | 0, _, _, _, _, _ => none
  | M1 + 1, x0, x1, x2, x3, x4 =>
    (bif (decide (x1 < x2)) then
    i23_j2 m self23 (i23_l1 m self23 M1) x0 x1 x2 x3 x4
  else
    i23_j3 m self23 x0 x1 x3 x4)
noncomputable def i23_j0 (m : Nat) (self23 : Int → Int → Int → List Dt → List Dt → Option (List Dt × List Dt)) (x0 x1 x2 : Int) (x3 x4 : List Dt) : Option (List Dt × List Dt) :=
  i23_l1 m self23 (Nat.succ m) x0 x1 x2 x3 x4
noncomputable def i23_j11 (m : Nat) (self23 : Int → Int → Int → List Dt → List Dt → Option (List Dt × List Dt)) (rec10 : Int → Int → Int → List Dt → List Dt → Option (List Dt × List Dt)) (x0 x1 x2 : Int) (x3 x4 : List Dt) : Option (List Dt × List Dt) :=
  ((inL x3 x0).bind fun v13 =>
    ((x3[(Int.toNat x0)]?).bind fun v14 =>
     ((inL x3 (IntKind.wrap IntKind.i64 (shrI IntKind.u64 (IntKind.wrap IntKind.u64 (IntKind.wrap IntKind.i64 (x1 + x2))) (1 : Int)))).bind fun v15 =>
     ((x3[(Int.toNat (IntKind.wrap IntKind.i64 (shrI IntKind.u64 (IntKind.wrap IntKind.u64 (IntKind.wrap IntKind.i64 (x1 + x2))) (1 : Int))))]?).bind fun v16 =>
     ((i22 m v14 v16 x4).bind fun r17 =>
     (bif (Bool.not (decide ((Prod.fst r17) < (0 : Int)))) then
     rec10 x0 (IntKind.wrap IntKind.i64 ((IntKind.wrap IntKind.i64 (shrI IntKind.u64 (IntKind.wrap IntKind.u64 (IntKind.wrap IntKind.i64 (x1 + x2))) (1 : Int))) + (1 : Int))) x2 x3 (Prod.snd r17)
     else
     rec10 x0 x1 (IntKind.wrap IntKind.i64 (shrI IntKind.u64 (IntKind.wrap IntKind.u64 (IntKind.wrap IntKind.i64 (x1 + x2))) (1 : Int))) x3 (Prod.snd r17)))))))
noncomputable def i23_j16 (m : Nat) (self23 : Int → Int → Int → List Dt → List Dt → Option (List Dt × List Dt)) (rec14 : Int → Int → List Dt → List Dt → Option (List Dt × List Dt)) (x0 x1 : Int) (x2 x3 : List Dt) : Option (List Dt × List Dt) :=
  rec14 x0 (IntKind.wrap IntKind.i64 (x1 - (1 : Int))) x2 x3
noncomputable def i23_j15 (m : Nat) (self23 : Int → Int → Int → List Dt → List Dt → Option (List Dt × List Dt)) (rec14 : Int → Int → List Dt → List Dt → Option (List Dt × List Dt)) (x0 x1 : Int) (x2 x3 : List Dt) : Option (List Dt × List Dt) :=
  ((inL x2 (IntKind.wrap IntKind.i64 (x1 - (1 : Int)))).bind fun v18 =>
    ((x2[(Int.toNat (IntKind.wrap IntKind.i64 (x1 - (1 : Int))))]?).bind fun v19 =>
     ((inL x2 x1).bind fun v20 =>
     ((x2[(Int.toNat x1)]?).bind fun v21 =>
     ((inL x2 x1).bind fun v22 =>
     ((x2[(Int.toNat x1)]?).bind fun v23 =>
     ((inL (List.set x2 (Int.toNat x1) v19) (IntKind.wrap IntKind.i64 (x1 - (1 : Int)))).bind fun v24 =>
     (((List.set x2 (Int.toNat x1) v19)[(Int.toNat (IntKind.wrap IntKind.i64 (x1 - (1 : Int))))]?).bind fun v25 =>
     i23_j16 m self23 rec14 x0 x1 (List.set (List.set x2 (Int.toNat x1) v19) (Int.toNat (IntKind.wrap IntKind.i64 (x1 - (1 : Int)))) v21) x3))))))))
noncomputable def i23_l14 (m : Nat) (self23 : Int → Int → Int → List Dt → List Dt → Option (List Dt × List Dt)) : Nat → Int → Int → List Dt → List Dt → Option (List Dt × List Dt)
  | 0, _, _, _, _ => none
  | M14 + 1, x0, x1, x2, x3 =>
    (bif (decide (x0 < x1)) then
    i23_j15 m self23 (i23_l14 m self23 M14) x0 x1 x2 x3
  else
    some (x2, x3))
noncomputable def i23_j13 (m : Nat) (self23 : Int → Int → Int → List Dt → List Dt → Option (List Dt × List Dt)) (x0 x1 : Int) (x2 x3 : List Dt) : Option (List Dt × List Dt) :=
  i23_l14 m self23 (Nat.succ m) x0 x1 x2 x3
noncomputable def i23_j12 (m : Nat) (self23 : Int → Int → Int → List Dt → List Dt → Option (List Dt × List Dt)) (x0 x1 : Int) (x2 x3 : List Dt) : Option (List Dt × List Dt) :=
  i23_j13 m self23 x1 x0 x2 x3
noncomputable def i23_l10 (m : Nat) (self23 : Int → Int → Int → List Dt → List Dt → Option (List Dt × List Dt)) : Nat → Int → Int → Int → List Dt → List Dt → Option (List Dt × List Dt)
  | 0, _, _, _, _, _ => none
  | M10 + 1, x0, x1, x2, x3, x4 =>
    (bif (decide (x1 < x2)) then
    i23_j11 m self23 (i23_l10 m self23 M10) x0 x1 x2 x3 x4
  else
    i23_j12 m self23 x0 x1 x3 x4)
noncomputable def i23_j9 (m : Nat) (self23 : Int → Int → Int → List Dt → List Dt → Option (List Dt × List Dt)) (x0 x1 x2 : Int) (x3 x4 : List Dt) : Option (List Dt × List Dt) :=
  i23_l10 m self23 (Nat.succ m) x0 x1 x2 x3 x4
noncomputable def i23_j21 (m : Nat) (self23 : Int → Int → Int → List Dt → List Dt → Option (List Dt × List Dt)) (rec20 : Int → Int → Int → Int → Int → Int → Int → Int → List Dt → List Dt → Option (List Dt × List Dt)) (x0 x1 x2 x3 x4 x5 x6 x7 : Int) (x8 x9 : List Dt) : Option (List Dt × List Dt) :=
  ((inL x8 (IntKind.wrap IntKind.i64 (x7 - (IntKind.wrap IntKind.i64 (shrI IntKind.u64 (IntKind.wrap IntKind.u64 (IntKind.wrap IntKind.i64 (x5 + x6))) (1 : Int)))))).bind fun v26 =>
    ((x8[(Int.toNat (IntKind.wrap IntKind.i64 (x7 - (IntKind.wrap IntKind.i64 (shrI IntKind.u64 (IntKind.wrap IntKind.u64 (IntKind.wrap IntKind.i64 (x5 + x6))) (1 : Int))))))]?).bind fun v27 =>
     ((inL x8 (IntKind.wrap IntKind.i64 (shrI IntKind.u64 (IntKind.wrap IntKind.u64 (IntKind.wrap IntKind.i64 (x5 + x6))) (1 : Int)))).bind fun v28 =>
     ((x8[(Int.toNat (IntKind.wrap IntKind.i64 (shrI IntKind.u64 (IntKind.wrap IntKind.u64 (IntKind.wrap IntKind.i64 (x5 + x6))) (1 : Int))))]?).bind fun v29 =>
     ((i22 m v27 v29 x9).bind fun r30 =>
     (bif (Bool.not (decide ((Prod.fst r30) < (0 : Int)))) then
     rec20 x0 x1 x2 x3 x4 (IntKind.wrap IntKind.i64 ((IntKind.wrap IntKind.i64 (shrI IntKind.u64 (IntKind.wrap IntKind.u64 (IntKind.wrap IntKind.i64 (x5 + x6))) (1 : Int))) + (1 : Int))) x6 x7 x8 (Prod.snd r30)
     else
     rec20 x0 x1 x2 x3 x4 x5 (IntKind.wrap IntKind.i64 (shrI IntKind.u64 (IntKind.wrap IntKind.u64 (IntKind.wrap IntKind.i64 (x5 + x6))) (1 : Int))) x7 x8 (Prod.snd r30)))))))
noncomputable def i23_j24 (m : Nat) (self23 : Int → Int → Int → List Dt → List Dt → Option (List Dt × List Dt)) (x0 x1 x2 : Int) (x3 x4 : List Dt) : Option (List Dt × List Dt) :=
  (bif (decide (x1 < x2)) then
    (bif (decide (x2 < x0)) then
     ((self23 x1 x2 x0 x3 x4).bind fun r33 =>
     some ((Prod.fst r33), (Prod.snd r33)))
    else
     some (x3, x4))
  else
    some (x3, x4))
noncomputable def i23_j23 (m : Nat) (self23 : Int → Int → Int → List Dt → List Dt → Option (List Dt × List Dt)) (x0 x1 x2 x3 x4 : Int) (x5 x6 : List Dt) : Option (List Dt × List Dt) :=
  (bif (decide (x0 < x3)) then
    (bif (decide (x3 < x2)) then
     ((self23 x0 x3 x2 x5 x6).bind fun r32 =>
     i23_j24 m self23 x1 x2 x4 (Prod.fst r32) (Prod.snd r32))
    else
     i23_j24 m self23 x1 x2 x4 x5 x6)
  else
    i23_j24 m self23 x1 x2 x4 x5 x6)
noncomputable def i23_j22 (m : Nat) (self23 : Int → Int → Int → List Dt → List Dt → Option (List Dt × List Dt)) (x0 x1 x2 x3 x4 x5 : Int) (x6 x7 : List Dt) : Option (List Dt × List Dt) :=
  (bif (decide (x5 < x1)) then
    (bif (decide (x1 < (IntKind.wrap IntKind.i64 (x4 - x5)))) then
     ((i24 m x5 x1 (IntKind.wrap IntKind.i64 (x4 - x5)) x6 x7).bind fun r31 =>
     i23_j23 m self23 x0 x2 x3 x5 (IntKind.wrap IntKind.i64 (x4 - x5)) (Prod.fst r31) (Prod.snd r31))
    else
     i23_j23 m self23 x0 x2 x3 x5 (IntKind.wrap IntKind.i64 (x4 - x5)) x6 x7)
  else
    i23_j23 m self23 x0 x2 x3 x5 (IntKind.wrap IntKind.i64 (x4 - x5)) x6 x7)
noncomputable def i23_l20 (m : Nat) (self23 : Int → Int → Int → List Dt → List Dt → Option (List Dt × List Dt)) : Nat → Int → Int → Int → Int → Int → Int → Int → Int → List Dt → List Dt → Option (List Dt × List Dt)
  | 0, _, _, _, _, _, _, _, _, _, _ => none
  | M20 + 1, x0, x1, x2, x3, x4, x5, x6, x7, x8, x9 =>
    (bif (decide (x5 < x6)) then
    i23_j21 m self23 (i23_l20 m self23 M20) x0 x1 x2 x3 x4 x5 x6 x7 x8 x9
  else
    i23_j22 m self23 x0 x1 x2 x3 x4 x5 x8 x9)
noncomputable def i23_j19 (m : Nat) (self23 : Int → Int → Int → List Dt → List Dt → Option (List Dt × List Dt)) (x0 x1 x2 x3 x4 x5 x6 x7 : Int) (x8 x9 : List Dt) : Option (List Dt × List Dt) :=
  i23_l20 m self23 (Nat.succ m) x0 x1 x2 x3 x4 x5 x6 x7 x8 x9
noncomputable def i23_j18 (m : Nat) (self23 : Int → Int → Int → List Dt → List Dt → Option (List Dt × List Dt)) (x0 x1 x2 x3 x4 x5 x6 : Int) (x7 x8 : List Dt) : Option (List Dt × List Dt) :=
  i23_j19 m self23 x0 x1 x2 x3 x4 x5 x6 (IntKind.wrap IntKind.i64 (x4 - (1 : Int))) x7 x8
noncomputable def i23_j17 (m : Nat) (self23 : Int → Int → Int → List Dt → List Dt → Option (List Dt × List Dt)) (x0 x1 x2 : Int) (x3 x4 : List Dt) : Option (List Dt × List Dt) :=
  (bif (decide ((IntKind.wrap IntKind.i64 (shrI IntKind.u64 (IntKind.wrap IntKind.u64 (IntKind.wrap IntKind.i64 (x0 + x2))) (1 : Int))) < x1)) then
    i23_j18 m self23 x0 x1 x2 (IntKind.wrap IntKind.i64 (shrI IntKind.u64 (IntKind.wrap IntKind.u64 (IntKind.wrap IntKind.i64 (x0 + x2))) (1 : Int))) (IntKind.wrap IntKind.i64 ((IntKind.wrap IntKind.i64 (shrI IntKind.u64 (IntKind.wrap IntKind.u64 (IntKind.wrap IntKind.i64 (x0 + x2))) (1 : Int))) + x1)) (IntKind.wrap IntKind.i64 ((IntKind.wrap IntKind.i64 ((IntKind.wrap IntKind.i64 (shrI IntKind.u64 (IntKind.wrap IntKind.u64 (IntKind.wrap IntKind.i64 (x0 + x2))) (1 : Int))) + x1)) - x2)) (IntKind.wrap IntKind.i64 (shrI IntKind.u64 (IntKind.wrap IntKind.u64 (IntKind.wrap IntKind.i64 (x0 + x2))) (1 : Int))) x3 x4
  else
    i23_j18 m self23 x0 x1 x2 (IntKind.wrap IntKind.i64 (shrI IntKind.u64 (IntKind.wrap IntKind.u64 (IntKind.wrap IntKind.i64 (x0 + x2))) (1 : Int))) (IntKind.wrap IntKind.i64 ((IntKind.wrap IntKind.i64 (shrI IntKind.u64 (IntKind.wrap IntKind.u64 (IntKind.wrap IntKind.i64 (x0 + x2))) (1 : Int))) + x1)) x0 x1 x3 x4)
noncomputable def i23_j8 (m : Nat) (self23 : Int → Int → Int → List Dt → List Dt → Option (List Dt × List Dt)) (x0 x1 x2 : Int) (x3 x4 : List Dt) : Option (List Dt × List Dt) :=
  (bif ((IntKind.wrap IntKind.i64 (x2 - x1)) == (1 : Int)) then
    i23_j9 m self23 x1 x0 x1 x3 x4
  else
    i23_j17 m self23 x0 x1 x2 x3 x4)
noncomputable def i23 : Nat → Int → Int → Int → List Dt → List Dt → Option (List Dt × List Dt)
  | 0, _, _, _, _, _ => none
  | m + 1, a0, a1, a2, a3, a4 =>
    (bif ((IntKind.wrap IntKind.i64 (a1 - a0)) == (1 : Int)) then
    i23_j0 m (i23 m) a0 a1 a2 a3 a4
  else
    i23_j8 m (i23 m) a0 a1 a2 a3 a4)
noncomputable def i20_j2 (m : Nat) (rec1 : Int → Int → Int → Int → List Dt → List Dt → Option (List Dt × List Dt)) (x0 x1 x2 x3 : Int) (x4 x5 : List Dt) : Option (List Dt × List Dt) :=
  ((i21 m x2 x3 x4 x5).bind fun r0 =>
    rec1 x0 x1 x3 (IntKind.wrap IntKind.i64 (x3 + x1)) (Prod.fst r0) (Prod.snd r0))
noncomputable def i20_j9 (m : Nat) (rec5 : Int → Int → List Dt → List Dt → Option (List Dt × List Dt)) (rec8 : Int → Int → Int → Int → List Dt → List Dt → Option (List Dt × List Dt)) (x0 x1 x2 x3 : Int) (x4 x5 : List Dt) : Option (List Dt × List Dt) :=
  ((i23 m x2 (IntKind.wrap IntKind.i64 (x2 + x1)) x3 x4 x5).bind fun r2 =>
    rec8 x0 x1 x3 (IntKind.wrap IntKind.i64 (x3 + (IntKind.wrap IntKind.i64 ((2 : Int) * x1)))) (Prod.fst r2) (Prod.snd r2))
noncomputable def i20_j11 (m : Nat) (rec5 : Int → Int → List Dt → List Dt → Option (List Dt × List Dt)) (x0 x1 : Int) (x2 x3 : List Dt) : Option (List Dt × List Dt) :=
  rec5 x0 (IntKind.wrap IntKind.i64 (x1 * (2 : Int))) x2 x3
noncomputable def i20_j10 (m : Nat) (rec5 : Int → Int → List Dt → List Dt → Option (List Dt × List Dt)) (x0 x1 x2 : Int) (x3 x4 : List Dt) : Option (List Dt × List Dt) :=
  (bif (decide ((IntKind.wrap IntKind.i64 (x2 + x1)) < x0)) then
    ((i23 m x2 (IntKind.wrap IntKind.i64 (x2 + x1)) x0 x3 x4).bind fun r3 =>
     i20_j11 m rec5 x0 x1 (Prod.fst r3) (Prod.snd r3))
  else
    i20_j11 m rec5 x0 x1 x3 x4)
noncomputable def i20_l8 (m : Nat) (rec5 : Int → Int → List Dt → List Dt → Option (List Dt × List Dt)) : Nat → Int → Int → Int → Int → List Dt → List Dt → Option (List Dt × List Dt)
  | 0, _, _, _, _, _, _ => none
  | M8 + 1, x0, x1, x2, x3, x4, x5 =>
    (bif (decide (x3 ≤ x0)) then
    i20_j9 m rec5 (i20_l8 m rec5 M8) x0 x1 x2 x3 x4 x5
  else
    i20_j10 m rec5 x0 x1 x2 x4 x5)
noncomputable def i20_j7 (m : Nat) (rec5 : Int → Int → List Dt → List Dt → Option (List Dt × List Dt)) (x0 x1 x2 x3 : Int) (x4 x5 : List Dt) : Option (List Dt × List Dt) :=
  i20_l8 m rec5 (Nat.succ m) x0 x1 x2 x3 x4 x5
noncomputable def i20_j6 (m : Nat) (rec5 : Int → Int → List Dt → List Dt → Option (List Dt × List Dt)) (x0 x1 : Int) (x2 x3 : List Dt) : Option (List Dt × List Dt) :=
  i20_j7 m rec5 x0 x1 (0 : Int) (IntKind.wrap IntKind.i64 ((2 : Int) * x1)) x2 x3
noncomputable def i20_l5 (m : Nat) : Nat → Int → Int → List Dt → List Dt → Option (List Dt × List Dt)
  | 0, _, _, _, _ => none
  | M5 + 1, x0, x1, x2, x3 =>
    (bif (decide (x1 < x0)) then
    i20_j6 m (i20_l5 m M5) x0 x1 x2 x3
  else
    some (x2, x3))
noncomputable def i20_j4 (m : Nat) (x0 x1 : Int) (x2 x3 : List Dt) : Option (List Dt × List Dt) :=
  i20_l5 m (Nat.succ m) x0 x1 x2 x3
noncomputable def i20_j3 (m : Nat) (x0 x1 x2 : Int) (x3 x4 : List Dt) : Option (List Dt × List Dt) :=
  ((i21 m x2 x0 x3 x4).bind fun r1 =>
    i20_j4 m x0 x1 (Prod.fst r1) (Prod.snd r1))
noncomputable def i20_l1 (m : Nat) : Nat → Int → Int → Int → Int → List Dt → List Dt → Option (List Dt × List Dt)
  | 0, _, _, _, _, _, _ => none
  | M1 + 1, x0, x1, x2, x3, x4, x5 =>
    (bif (decide (x3 ≤ x0)) then
    i20_j2 m (i20_l1 m M1) x0 x1 x2 x3 x4 x5
  else
    i20_j3 m x0 x1 x2 x4 x5)
noncomputable def i20_j0 (m : Nat) (x0 x1 x2 x3 : Int) (x4 x5 : List Dt) : Option (List Dt × List Dt) :=
  i20_l1 m (Nat.succ m) x0 x1 x2 x3 x4 x5
noncomputable def i20 : Nat → Int → List Dt → List Dt → Option (List Dt × List Dt)
  | 0, _, _, _ => none
  | m + 1, a0, a1, a2 =>
    i20_j0 m a0 (20 : Int) (0 : Int) (20 : Int) a1 a2
noncomputable def i19 : Nat → List Dt → List Dt → Option (List Dt × List Dt)
  | 0, _, _ => none
  | m + 1, a0, a1 =>
    ((i20 m (((List.length a0) : Nat) : Int) a0 a1).bind fun r0 =>
    some ((Prod.fst r0), (Prod.snd r0)))
noncomputable def order_key_j3 (m : Nat) (rec1 : List Dt → Int → Int → Dt → Dt → List Dt → Option (Dt)) (x0 : List Dt) (x1 x2 : Int) (x3 x4 : Dt) (x5 : List Dt) : Option (Dt) :=
  rec1 x0 x1 (IntKind.wrap IntKind.i64 (x2 + (1 : Int))) x3 x4 x5
noncomputable def order_key_j2 (m : Nat) (rec1 : List Dt → Int → Int → Dt → Dt → List Dt → Option (Dt)) (x0 : List Dt) (x1 x2 : Int) (x3 x4 : Dt) (x5 : List Dt) : Option (Dt) :=
  ((idx x0 x2).bind fun v1 =>
    (bif ((Dt.I v1 0) == (0 : Int)) then
     ((app x5 [(Dt.agg [(Dt.int (2 : Int)), (Dt.int (0 : Int)), (Dt.str (ByteArray.mk (List.toArray []))), (Dt.lst []), (Dt.lst [])])]).bind fun v2 =>
     order_key_j3 m rec1 x0 x1 x2 x3 x4 v2)
    else
     (bif ((Dt.I v1 0) == (6 : Int)) then
     (bif (decide ((0 : Int) < (((List.length (Dt.L v1 3)) : Nat) : Int))) then
     ((app x5 (Dt.L v1 3)).bind fun v3 =>
     order_key_j3 m rec1 x0 x1 x2 x3 x4 v3)
     else
     ((app x5 [v1]).bind fun v4 =>
     order_key_j3 m rec1 x0 x1 x2 x3 x4 v4))
     else
     ((app x5 [v1]).bind fun v5 =>
     order_key_j3 m rec1 x0 x1 x2 x3 x4 v5))))
noncomputable def order_key_j8 (m : Nat) (rec6 : List Dt → Int → Int → Dt → Dt → Dt → Option (Dt)) (x0 : List Dt) (x1 x2 : Int) (x3 x4 x5 : Dt) : Option (Dt) :=
  rec6 x0 x1 (IntKind.wrap IntKind.i64 (x2 + (1 : Int))) x3 x4 x5
noncomputable def order_key_j7 (m : Nat) (rec6 : List Dt → Int → Int → Dt → Dt → Dt → Option (Dt)) (x0 : List Dt) (x1 x2 : Int) (x3 x4 x5 : Dt) : Option (Dt) :=
  ((idx x0 x2).bind fun v9 =>
    ((value_Compare m v9 x5).bind fun r10 =>
     (bif (decide (r10 < (0 : Int))) then
     (bif (Bool.not (Dt.B x3 1)) then
     order_key_j8 m rec6 x0 x1 x2 x3 x4 v9
     else
     (bif (decide ((0 : Int) < r10)) then
     (bif (Dt.B x3 1) then
     order_key_j8 m rec6 x0 x1 x2 x3 x4 v9
     else
     order_key_j8 m rec6 x0 x1 x2 x3 x4 x5)
     else
     order_key_j8 m rec6 x0 x1 x2 x3 x4 x5))
     else
     (bif (decide ((0 : Int) < r10)) then
     (bif (Dt.B x3 1) then
     order_key_j8 m rec6 x0 x1 x2 x3 x4 v9
     else
     order_key_j8 m rec6 x0 x1 x2 x3 x4 x5)
     else
     order_key_j8 m rec6 x0 x1 x2 x3 x4 x5))))
noncomputable def order_key_j9 (m : Nat) (x0 x1 : Dt) : Option (Dt) :=
  some x1
noncomputable def order_key_l6 (m : Nat) : Nat → List Dt → Int → Int → Dt → Dt → Dt → Option (Dt)
  | 0, _, _, _, _, _, _ => none
  | M6 + 1, x0, x1, x2, x3, x4, x5 =>
    (bif (decide (x2 < x1)) then
    order_key_j7 m (order_key_l6 m M6) x0 x1 x2 x3 x4 x5
  else
    order_key_j9 m x4 x5)
noncomputable def order_key_j5 (m : Nat) (x0 : List Dt) (x1 x2 : Int) (x3 x4 x5 : Dt) : Option (Dt) :=
  order_key_l6 m (Nat.succ m) x0 x1 x2 x3 x4 x5
noncomputable def order_key_j4 (m : Nat) (x0 x1 : Dt) (x2 : List Dt) : Option (Dt) :=
  ((inL x2 (0 : Int)).bind fun v6 =>
    ((x2[0]?).bind fun v7 =>
     ((cutL x2 (1 : Int) (((List.length x2) : Nat) : Int)).bind fun v8 =>
     order_key_j5 m v8 (((List.length v8) : Nat) : Int) (0 : Int) x0 x1 v7)))
noncomputable def order_key_l1 (m : Nat) : Nat → List Dt → Int → Int → Dt → Dt → List Dt → Option (Dt)
  | 0, _, _, _, _, _, _ => none
  | M1 + 1, x0, x1, x2, x3, x4, x5 =>
    (bif (decide (x2 < x1)) then
    order_key_j2 m (order_key_l1 m M1) x0 x1 x2 x3 x4 x5
  else
    order_key_j4 m x3 x4 x5)
noncomputable def order_key_j0 (m : Nat) (x0 : List Dt) (x1 x2 : Int) (x3 x4 : Dt) (x5 : List Dt) : Option (Dt) :=
  order_key_l1 m (Nat.succ m) x0 x1 x2 x3 x4 x5
noncomputable def order_key : Nat → Dt → Dt → Option (Dt)
  | 0, _, _ => none
  | m + 1, a0, a1 =>
    ((path_Reach m a1 (Dt.L a0 0)).bind fun r0 =>
    order_key_j0 m r0 (((List.length r0) : Nat) : Int) (0 : Int) a0 (Dt.agg [(Dt.int (0 : Int)), (Dt.int (0 : Int)), (Dt.str (ByteArray.mk (List.toArray []))), (Dt.lst []), (Dt.lst [])]) [])
noncomputable def order_Keys_j3 (m : Nat) (rec1 : List Dt → Int → Int → Dt → List Dt → Option (List Dt)) (x0 : List Dt) (x1 x2 : Int) (x3 : Dt) (x4 : List Dt) : Option (List Dt) :=
  rec1 x0 x1 (IntKind.wrap IntKind.i64 (x2 + (1 : Int))) x3 x4
noncomputable def order_Keys_j2 (m : Nat) (rec1 : List Dt → Int → Int → Dt → List Dt → Option (List Dt)) (x0 : List Dt) (x1 x2 : Int) (x3 : Dt) (x4 : List Dt) : Option (List Dt) :=
  ((idx x0 x2).bind fun v0 =>
    ((order_key m v0 x3).bind fun r1 =>
     ((app x4 [r1]).bind fun v2 =>
     order_Keys_j3 m rec1 x0 x1 x2 x3 v2)))
noncomputable def order_Keys_j4 (m : Nat) (x0 : List Dt) : Option (List Dt) :=
  some x0
noncomputable def order_Keys_l1 (m : Nat) : Nat → List Dt → Int → Int → Dt → List Dt → Option (List Dt)
  | 0, _, _, _, _, _ => none
  | M1 + 1, x0, x1, x2, x3, x4 =>
    (bif (decide (x2 < x1)) then
    order_Keys_j2 m (order_Keys_l1 m M1) x0 x1 x2 x3 x4
  else
    order_Keys_j4 m x4)
noncomputable def order_Keys_j0 (m : Nat) (x0 : List Dt) (x1 x2 : Int) (x3 : Dt) (x4 : List Dt) : Option (List Dt) :=
  order_Keys_l1 m (Nat.succ m) x0 x1 x2 x3 x4
noncomputable def order_Keys : Nat → List Dt → Dt → Option (List Dt)
  | 0, _, _ => none
  | m + 1, a0, a1 =>
    order_Keys_j0 m a0 (((List.length a0) : Nat) : Int) (0 : Int) a1 []
noncomputable def order_Compare : Nat → List Dt → Dt → Dt → Option (Int)
  | 0, _, _, _ => none
  | m + 1, a0, a1, a2 =>
    ((order_Keys m a0 a1).bind fun r0 =>
    ((order_Keys m a0 a2).bind fun r1 =>
     ((order_compare m a0 r0 r1).bind fun r2 =>
     some r2)))
noncomputable def order_first_j3 (m : Nat) (rec1 : Int → List Dt → Int → Int → List Dt → List Dt → Option (List Dt)) (x0 : Int) (x1 : List Dt) (x2 x3 : Int) (x4 x5 : List Dt) : Option (List Dt) :=
  rec1 x0 x1 x2 (IntKind.wrap IntKind.i64 (x3 + (1 : Int))) x4 x5
noncomputable def order_first_j2 (m : Nat) (rec1 : Int → List Dt → Int → Int → List Dt → List Dt → Option (List Dt)) (x0 : Int) (x1 : List Dt) (x2 x3 : Int) (x4 x5 : List Dt) : Option (List Dt) :=
  ((idx x1 x3).bind fun v1 =>
    ((order_Keys m x4 v1).bind fun r2 =>
     ((inL x5 x3).bind fun v3 =>
     ((x5[(Int.toNat x3)]?).bind fun v4 =>
     order_first_j3 m rec1 x0 x1 x2 x3 x4 (List.set x5 (Int.toNat x3) (Dt.agg [v1, (Dt.lst r2)]))))))
noncomputable def order_first_j8 (m : Nat) (rec6 : List Dt → Int → Int → List Dt → Option (List Dt)) (x0 : List Dt) (x1 x2 : Int) (x3 : List Dt) : Option (List Dt) :=
  rec6 x0 x1 (IntKind.wrap IntKind.i64 (x2 + (1 : Int))) x3
noncomputable def order_first_j7 (m : Nat) (rec6 : List Dt → Int → Int → List Dt → Option (List Dt)) (x0 : List Dt) (x1 x2 : Int) (x3 : List Dt) : Option (List Dt) :=
  ((idx x0 x2).bind fun v7 =>
    ((order_clone m (Dt.fld v7 0)).bind fun r8 =>
     ((app x3 [r8]).bind fun v9 =>
     order_first_j8 m rec6 x0 x1 x2 v9)))
noncomputable def order_first_j9 (m : Nat) (x0 : List Dt) : Option (List Dt) :=
  some x0
noncomputable def order_first_l6 (m : Nat) : Nat → List Dt → Int → Int → List Dt → Option (List Dt)
  | 0, _, _, _, _ => none
  | M6 + 1, x0, x1, x2, x3 =>
    (bif (decide (x2 < x1)) then
    order_first_j7 m (order_first_l6 m M6) x0 x1 x2 x3
  else
    order_first_j9 m x3)
noncomputable def order_first_j5 (m : Nat) (x0 : List Dt) (x1 x2 : Int) (x3 : List Dt) : Option (List Dt) :=
  order_first_l6 m (Nat.succ m) x0 x1 x2 x3
noncomputable def order_first_j4 (m : Nat) (x0 : Int) (x1 x2 : List Dt) : Option (List Dt) :=
  ((i19 m x2 x1).bind fun r5 =>
    ((cutL (Prod.fst r5) (0 : Int) x0).bind fun v6 =>
     order_first_j5 m v6 (((List.length v6) : Nat) : Int) (0 : Int) []))
noncomputable def order_first_l1 (m : Nat) : Nat → Int → List Dt → Int → Int → List Dt → List Dt → Option (List Dt)
  | 0, _, _, _, _, _, _ => none
  | M1 + 1, x0, x1, x2, x3, x4, x5 =>
    (bif (decide (x3 < x2)) then
    order_first_j2 m (order_first_l1 m M1) x0 x1 x2 x3 x4 x5
  else
    order_first_j4 m x0 x4 x5)
noncomputable def order_first_j0 (m : Nat) (x0 : Int) (x1 : List Dt) (x2 x3 : Int) (x4 x5 : List Dt) : Option (List Dt) :=
  order_first_l1 m (Nat.succ m) x0 x1 x2 x3 x4 x5
noncomputable def order_first : Nat → List Dt → List Dt → Int → Option (List Dt)
  | 0, _, _, _ => none
  | m + 1, a0, a1, a2 =>
    ((mkL (((List.length a1) : Nat) : Int) (((List.length a1) : Nat) : Int) (Dt.agg [(Dt.agg [(Dt.int (0 : Int)), (Dt.int (0 : Int)), (Dt.str (ByteArray.mk (List.toArray []))), (Dt.lst []), (Dt.lst [])]), (Dt.lst [])])).bind fun v0 =>
    order_first_j0 m a2 a1 (((List.length a1) : Nat) : Int) (0 : Int) a0 v0)
noncomputable def order_Sort : Nat → List Dt → List Dt → Option (List Dt)
  | 0, _, _ => none
  | m + 1, a0, a1 =>
    ((order_first m a0 a1 (((List.length a1) : Nat) : Int)).bind fun r0 =>
    some r0)
noncomputable def law12_OrderStable_j5 (m : Nat) (rec3 : List Dt → List Dt → List Dt → Int → Int → Option (Bool)) (x0 x1 x2 : List Dt) (x3 x4 : Int) : Option (Bool) :=
  rec3 x0 x1 x2 x3 (IntKind.wrap IntKind.i64 (x4 + (1 : Int)))
noncomputable def law12_OrderStable_j4 (m : Nat) (rec3 : List Dt → List Dt → List Dt → Int → Int → Option (Bool)) (x0 x1 x2 : List Dt) (x3 x4 : Int) : Option (Bool) :=
  (bif (decide ((0 : Int) < x4)) then
    ((idx x2 (IntKind.wrap IntKind.i64 (x4 - (1 : Int)))).bind fun v3 =>
     ((idx x2 x4).bind fun v4 =>
     ((order_Compare m x0 v3 v4).bind fun r5 =>
     (bif (decide ((0 : Int) < r5)) then
     some Bool.false
     else
     law12_OrderStable_j5 m rec3 x0 x1 x2 x3 x4))))
  else
    law12_OrderStable_j5 m rec3 x0 x1 x2 x3 x4)
noncomputable def law12_OrderStable_j14 (m : Nat) (rec8 : List Dt → List Dt → List Dt → Int → Int → Option (Bool)) (rec11 : List Dt → List Dt → List Dt → Int → Int → Int → Int → Int → List Dt → List Dt → Option (Bool)) (x0 x1 x2 : List Dt) (x3 x4 x5 x6 x7 : Int) (x8 x9 : List Dt) : Option (Bool) :=
  rec11 x0 x1 x2 x3 x4 x5 x6 (IntKind.wrap IntKind.i64 (x7 + (1 : Int))) x8 x9
noncomputable def law12_OrderStable_j13 (m : Nat) (rec8 : List Dt → List Dt → List Dt → Int → Int → Option (Bool)) (rec11 : List Dt → List Dt → List Dt → Int → Int → Int → Int → Int → List Dt → List Dt → Option (Bool)) (x0 x1 x2 : List Dt) (x3 x4 x5 x6 x7 x8 : Int) (x9 x10 : List Dt) : Option (Bool) :=
  ((idx x2 x4).bind fun v11 =>
    ((idx x1 x3).bind fun v12 =>
     ((order_Compare m x0 v11 v12).bind fun r13 =>
     (bif (r13 == (0 : Int)) then
     ((idx x2 x4).bind fun v14 =>
     ((app x10 [v14]).bind fun v15 =>
     law12_OrderStable_j14 m rec8 rec11 x0 x1 x2 x3 x5 x6 x7 x8 x9 v15))
     else
     law12_OrderStable_j14 m rec8 rec11 x0 x1 x2 x3 x5 x6 x7 x8 x9 x10))))
noncomputable def law12_OrderStable_j12 (m : Nat) (rec8 : List Dt → List Dt → List Dt → Int → Int → Option (Bool)) (rec11 : List Dt → List Dt → List Dt → Int → Int → Int → Int → Int → List Dt → List Dt → Option (Bool)) (x0 x1 x2 : List Dt) (x3 x4 x5 x6 x7 : Int) (x8 x9 : List Dt) : Option (Bool) :=
  ((idx x1 x7).bind fun v6 =>
    ((idx x1 x3).bind fun v7 =>
     ((order_Compare m x0 v6 v7).bind fun r8 =>
     (bif (r8 == (0 : Int)) then
     ((idx x1 x7).bind fun v9 =>
     ((app x8 [v9]).bind fun v10 =>
     law12_OrderStable_j13 m rec8 rec11 x0 x1 x2 x3 x7 x4 x5 x6 x7 v10 x9))
     else
     law12_OrderStable_j13 m rec8 rec11 x0 x1 x2 x3 x7 x4 x5 x6 x7 x8 x9))))
noncomputable def law12_OrderStable_j16 (m : Nat) (rec8 : List Dt → List Dt → List Dt → Int → Int → Option (Bool)) (x0 x1 x2 : List Dt) (x3 x4 : Int) : Option (Bool) :=
  rec8 x0 x1 x2 x3 (IntKind.wrap IntKind.i64 (x4 + (1 : Int)))
noncomputable def law12_OrderStable_j15 (m : Nat) (rec8 : List Dt → List Dt → List Dt → Int → Int → Option (Bool)) (x0 x1 x2 : List Dt) (x3 x4 : Int) (x5 x6 : List Dt) : Option (Bool) :=
  ((law03_SameList m x5 x6).bind fun r16 =>
    (bif (Bool.not r16) then
     some Bool.false
    else
     law12_OrderStable_j16 m rec8 x0 x1 x2 x3 x4))
noncomputable def law12_OrderStable_l11 (m : Nat) (rec8 : List Dt → List Dt → List Dt → Int → Int → Option (Bool)) : Nat → List Dt → List Dt → List Dt → Int → Int → Int → Int → Int → List Dt → List Dt → Option (Bool)
  | 0, _, _, _, _, _, _, _, _, _, _ => none
  | M11 + 1, x0, x1, x2, x3, x4, x5, x6, x7, x8, x9 =>
    (bif (decide (x7 < x6)) then
    law12_OrderStable_j12 m rec8 (law12_OrderStable_l11 m rec8 M11) x0 x1 x2 x3 x4 x5 x6 x7 x8 x9
  else
    law12_OrderStable_j15 m rec8 x0 x1 x2 x4 x5 x8 x9)
noncomputable def law12_OrderStable_j10 (m : Nat) (rec8 : List Dt → List Dt → List Dt → Int → Int → Option (Bool)) (x0 x1 x2 : List Dt) (x3 x4 x5 x6 x7 : Int) (x8 x9 : List Dt) : Option (Bool) :=
  law12_OrderStable_l11 m rec8 (Nat.succ m) x0 x1 x2 x3 x4 x5 x6 x7 x8 x9
noncomputable def law12_OrderStable_j9 (m : Nat) (rec8 : List Dt → List Dt → List Dt → Int → Int → Option (Bool)) (x0 x1 x2 : List Dt) (x3 x4 : Int) : Option (Bool) :=
  law12_OrderStable_j10 m rec8 x0 x1 x2 x4 x3 x4 (((List.length x1) : Nat) : Int) (0 : Int) [] []
noncomputable def law12_OrderStable_j17 (m : Nat) : Option (Bool) :=
  ((awakeC).bind fun r17 =>
    some r17)
noncomputable def law12_OrderStable_l8 (m : Nat) : Nat → List Dt → List Dt → List Dt → Int → Int → Option (Bool)
  | 0, _, _, _, _, _ => none
  | M8 + 1, x0, x1, x2, x3, x4 =>
    (bif (decide (x4 < x3)) then
    law12_OrderStable_j9 m (law12_OrderStable_l8 m M8) x0 x1 x2 x3 x4
  else
    law12_OrderStable_j17 m)
noncomputable def law12_OrderStable_j7 (m : Nat) (x0 x1 x2 : List Dt) (x3 x4 : Int) : Option (Bool) :=
  law12_OrderStable_l8 m (Nat.succ m) x0 x1 x2 x3 x4
noncomputable def law12_OrderStable_j6 (m : Nat) (x0 x1 x2 : List Dt) : Option (Bool) :=
  law12_OrderStable_j7 m x0 x1 x2 (((List.length x1) : Nat) : Int) (0 : Int)
noncomputable def law12_OrderStable_l3 (m : Nat) : Nat → List Dt → List Dt → List Dt → Int → Int → Option (Bool)
  | 0, _, _, _, _, _ => none
  | M3 + 1, x0, x1, x2, x3, x4 =>
    (bif (decide (x4 < x3)) then
    law12_OrderStable_j4 m (law12_OrderStable_l3 m M3) x0 x1 x2 x3 x4
  else
    law12_OrderStable_j6 m x0 x1 x2)
noncomputable def law12_OrderStable_j2 (m : Nat) (x0 x1 x2 : List Dt) (x3 x4 : Int) : Option (Bool) :=
  law12_OrderStable_l3 m (Nat.succ m) x0 x1 x2 x3 x4
noncomputable def law12_OrderStable_j1 (m : Nat) (x0 x1 x2 : List Dt) : Option (Bool) :=
  law12_OrderStable_j2 m x0 x1 x2 (((List.length x2) : Nat) : Int) (0 : Int)
noncomputable def law12_OrderStable_j0 (m : Nat) (x0 x1 : List Dt) : Option (Bool) :=
  ((order_Sort m x0 x1).bind fun r2 =>
    (bif ((((List.length r2) : Nat) : Int) != (((List.length x1) : Nat) : Int)) then
     some Bool.false
    else
     law12_OrderStable_j1 m x0 x1 r2))
noncomputable def law12_OrderStable : Nat → List Dt → List Dt → Option (Bool)
  | 0, _, _ => none
  | m + 1, a0, a1 =>
    ((law12_Small m a0 a1).bind fun r0 =>
    (bif (Bool.not r0) then
     ((awakeC).bind fun r1 =>
     some r1)
    else
     law12_OrderStable_j0 m a0 a1))
noncomputable def order_Top : Nat → List Dt → List Dt → Int → Option (List Dt)
  | 0, _, _, _ => none
  | m + 1, a0, a1, a2 =>
    ((order_first m a0 a1 (bif (decide ((0 : Int) < (bif (decide ((((List.length a1) : Nat) : Int) < a2)) then (((List.length a1) : Nat) : Int) else a2))) then (bif (decide ((((List.length a1) : Nat) : Int) < a2)) then (((List.length a1) : Nat) : Int) else a2) else (0 : Int))).bind fun r0 =>
    some r0)
noncomputable def ref04_Number_j5 (m : Nat) (rec2 : ByteArray → Int → Int → Option (Int × Bool)) (x0 : ByteArray) (x1 x2 : Int) : Option (Int × Bool) :=
  rec2 x0 x1 (IntKind.wrap IntKind.i64 (x2 + (1 : Int)))
noncomputable def ref04_Number_j4 (m : Nat) (rec2 : ByteArray → Int → Int → Option (Int × Bool)) (x0 : ByteArray) (x1 x2 : Int) : Option (Int × Bool) :=
  ((idxS x0 x2).bind fun v3 =>
    ref04_Number_j5 m rec2 x0 (IntKind.wrap IntKind.i64 ((IntKind.wrap IntKind.i64 (x1 * (10 : Int))) + (IntKind.wrap IntKind.i64 (IntKind.wrap IntKind.u8 (v3 - (48 : Int)))))) x2)
noncomputable def ref04_Number_j3 (m : Nat) (rec2 : ByteArray → Int → Int → Option (Int × Bool)) (x0 : ByteArray) (x1 x2 : Int) : Option (Int × Bool) :=
  ((idxS x0 x2).bind fun v1 =>
    (bif (decide (v1 < (48 : Int))) then
     some ((0 : Int), Bool.false)
    else
     ((idxS x0 x2).bind fun v2 =>
     (bif (decide ((57 : Int) < v2)) then
     some ((0 : Int), Bool.false)
     else
     ref04_Number_j4 m rec2 x0 x1 x2))))
noncomputable def ref04_Number_j6 (m : Nat) (x0 : Int) : Option (Int × Bool) :=
  some (x0, Bool.true)
noncomputable def ref04_Number_l2 (m : Nat) : Nat → ByteArray → Int → Int → Option (Int × Bool)
  | 0, _, _, _ => none
  | M2 + 1, x0, x1, x2 =>
    (bif (decide (x2 < (((ByteArray.size x0) : Nat) : Int))) then
    ref04_Number_j3 m (ref04_Number_l2 m M2) x0 x1 x2
  else
    ref04_Number_j6 m x1)
noncomputable def ref04_Number_j1 (m : Nat) (x0 : ByteArray) (x1 x2 : Int) : Option (Int × Bool) :=
  ref04_Number_l2 m (Nat.succ m) x0 x1 x2
noncomputable def ref04_Number_j0 (m : Nat) (x0 : ByteArray) : Option (Int × Bool) :=
  ref04_Number_j1 m x0 (0 : Int) (0 : Int)
noncomputable def ref04_Number : Nat → ByteArray → Option (Int × Bool)
  | 0, _ => none
  | m + 1, a0 =>
    (bif (decide ((((ByteArray.size a0) : Nat) : Int) < (1 : Int))) then
    some ((0 : Int), Bool.false)
  else
    (bif (decide ((4 : Int) < (((ByteArray.size a0) : Nat) : Int))) then
     some ((0 : Int), Bool.false)
    else
     ((idxS a0 (0 : Int)).bind fun v0 =>
     (bif (v0 == (48 : Int)) then
     (bif (decide ((1 : Int) < (((ByteArray.size a0) : Nat) : Int))) then
     some ((0 : Int), Bool.false)
     else
     ref04_Number_j0 m a0)
     else
     ref04_Number_j0 m a0))))
noncomputable def ref01_at_j4 (m : Nat) (rec2 : ByteArray → Int → Dt → Option (Int)) (x0 : ByteArray) (x1 : Int) (x2 : Dt) : Option (Int) :=
  rec2 x0 (IntKind.wrap IntKind.i64 (x1 + (1 : Int))) x2
noncomputable def ref01_at_j3 (m : Nat) (rec2 : ByteArray → Int → Dt → Option (Int)) (x0 : ByteArray) (x1 : Int) (x2 : Dt) : Option (Int) :=
  ((idx (Dt.L x2 4) x1).bind fun v0 =>
    (bif ((ByteArray.toList (Dt.S v0 0)) == (ByteArray.toList x0)) then
     some x1
    else
     ref01_at_j4 m rec2 x0 x1 x2))
noncomputable def ref01_at_j5 (m : Nat) : Option (Int) :=
  some (-1 : Int)
noncomputable def ref01_at_l2 (m : Nat) : Nat → ByteArray → Int → Dt → Option (Int)
  | 0, _, _, _ => none
  | M2 + 1, x0, x1, x2 =>
    (bif (decide (x1 < (((List.length (Dt.L x2 4)) : Nat) : Int))) then
    ref01_at_j3 m (ref01_at_l2 m M2) x0 x1 x2
  else
    ref01_at_j5 m)
noncomputable def ref01_at_j1 (m : Nat) (x0 : ByteArray) (x1 : Int) (x2 : Dt) : Option (Int) :=
  ref01_at_l2 m (Nat.succ m) x0 x1 x2
noncomputable def ref01_at_j0 (m : Nat) (x0 : ByteArray) (x1 : Dt) : Option (Int) :=
  ref01_at_j1 m x0 (0 : Int) x1
noncomputable def ref01_at : Nat → Dt → ByteArray → Option (Int)
  | 0, _, _ => none
  | m + 1, a0, a1 =>
    (bif ((Dt.I a0 0) != (5 : Int)) then
    some (-1 : Int)
  else
    ref01_at_j0 m a1 a0)
noncomputable def ref01_Get_j0 (m : Nat) (x0 : Int) (x1 x2 : Dt) : Option (Dt × Bool) :=
  ((idx (Dt.L x1 4) x0).bind fun v1 =>
    some ((Dt.fld v1 1), Bool.true))
noncomputable def ref01_Get : Nat → Dt → ByteArray → Option (Dt × Bool)
  | 0, _, _ => none
  | m + 1, a0, a1 =>
    ((ref01_at m a0 a1).bind fun r0 =>
    (bif (decide (r0 < (0 : Int))) then
     some ((Dt.agg [(Dt.int (0 : Int)), (Dt.int (0 : Int)), (Dt.str (ByteArray.mk (List.toArray []))), (Dt.lst []), (Dt.lst [])]), Bool.false)
    else
     ref01_Get_j0 m r0 a0 (Dt.agg [(Dt.int (0 : Int)), (Dt.int (0 : Int)), (Dt.str (ByteArray.mk (List.toArray []))), (Dt.lst []), (Dt.lst [])])))
noncomputable def ref04_Pass_j1 (m : Nat) (self51 : Dt → List Dt → Option (List Dt)) : Option (List Dt) :=
  some []
noncomputable def ref04_Pass_j7 (m : Nat) (self51 : Dt → List Dt → Option (List Dt)) (rec5 : List Dt → Int → Dt → List Dt → Option (List Dt)) (x0 : List Dt) (x1 : Int) (x2 : Dt) (x3 : List Dt) : Option (List Dt) :=
  rec5 x0 (IntKind.wrap IntKind.i64 (x1 + (1 : Int))) x2 x3
noncomputable def ref04_Pass_j6 (m : Nat) (self51 : Dt → List Dt → Option (List Dt)) (rec5 : List Dt → Int → Dt → List Dt → Option (List Dt)) (x0 : List Dt) (x1 : Int) (x2 : Dt) (x3 : List Dt) : Option (List Dt) :=
  ((idx (Dt.L x2 3) x1).bind fun v4 =>
    (bif ((Dt.I v4 0) == (5 : Int)) then
     ((idx (Dt.L x2 3) x1).bind fun v5 =>
     ((self51 v5 x0).bind fun r6 =>
     ((app x3 r6).bind fun v7 =>
     ref04_Pass_j7 m self51 rec5 x0 x1 x2 v7)))
    else
     ref04_Pass_j7 m self51 rec5 x0 x1 x2 x3))
noncomputable def ref04_Pass_j9 (m : Nat) (self51 : Dt → List Dt → Option (List Dt)) (x0 : List Dt) : Option (List Dt) :=
  some x0
noncomputable def ref04_Pass_j8 (m : Nat) (self51 : Dt → List Dt → Option (List Dt)) (x0 : List Dt) (x1 : Dt) (x2 : List Dt) : Option (List Dt) :=
  ((idx x0 (0 : Int)).bind fun v8 =>
    ((ref04_Number m (Dt.toStr v8)).bind fun r9 =>
     (bif (Prod.snd r9) then
     (bif (decide ((Prod.fst r9) < (((List.length (Dt.L x1 3)) : Nat) : Int))) then
     ((idx (Dt.L x1 3) (Prod.fst r9)).bind fun v10 =>
     ((cutL x0 (1 : Int) (((List.length x0) : Nat) : Int)).bind fun v11 =>
     ((self51 v10 v11).bind fun r12 =>
     ((app x2 r12).bind fun v13 =>
     ref04_Pass_j9 m self51 v13))))
     else
     ref04_Pass_j9 m self51 x2)
     else
     ref04_Pass_j9 m self51 x2)))
noncomputable def ref04_Pass_l5 (m : Nat) (self51 : Dt → List Dt → Option (List Dt)) : Nat → List Dt → Int → Dt → List Dt → Option (List Dt)
  | 0, _, _, _, _ => none
  | M5 + 1, x0, x1, x2, x3 =>
    (bif (decide (x1 < (((List.length (Dt.L x2 3)) : Nat) : Int))) then
    ref04_Pass_j6 m self51 (ref04_Pass_l5 m self51 M5) x0 x1 x2 x3
  else
    ref04_Pass_j8 m self51 x0 x2 x3)
noncomputable def ref04_Pass_j4 (m : Nat) (self51 : Dt → List Dt → Option (List Dt)) (x0 : List Dt) (x1 : Int) (x2 : Dt) (x3 : List Dt) : Option (List Dt) :=
  ref04_Pass_l5 m self51 (Nat.succ m) x0 x1 x2 x3
noncomputable def ref04_Pass_j3 (m : Nat) (self51 : Dt → List Dt → Option (List Dt)) (x0 : List Dt) (x1 : Dt) : Option (List Dt) :=
  ref04_Pass_j4 m self51 x0 (0 : Int) x1 []
noncomputable def ref04_Pass_j2 (m : Nat) (self51 : Dt → List Dt → Option (List Dt)) (x0 : List Dt) (x1 : Dt) : Option (List Dt) :=
  (bif ((Dt.I x1 0) != (6 : Int)) then
    some []
  else
    ref04_Pass_j3 m self51 x0 x1)
noncomputable def ref04_Pass_j0 (m : Nat) (self51 : Dt → List Dt → Option (List Dt)) (x0 : List Dt) (x1 : Dt) : Option (List Dt) :=
  (bif ((Dt.I x1 0) == (5 : Int)) then
    ((idx x0 (0 : Int)).bind fun v0 =>
     ((ref01_Get m x1 (Dt.toStr v0)).bind fun r1 =>
     (bif (Prod.snd r1) then
     ((cutL x0 (1 : Int) (((List.length x0) : Nat) : Int)).bind fun v2 =>
     ((self51 (Prod.fst r1) v2).bind fun r3 =>
     some r3))
     else
     ref04_Pass_j1 m self51)))
  else
    ref04_Pass_j2 m self51 x0 x1)
noncomputable def ref04_Pass : Nat → Dt → List Dt → Option (List Dt)
  | 0, _, _ => none
  | m + 1, a0, a1 =>
    (bif ((((List.length a1) : Nat) : Int) == (0 : Int)) then
    some [a0]
  else
    ref04_Pass_j0 m (ref04_Pass m) a1 a0)
noncomputable def ref04_Reach_j0 (m : Nat) (x0 : List Dt) : Option (List Dt) :=
  some x0
noncomputable def ref04_Reach : Nat → Dt → List Dt → Option (List Dt)
  | 0, _, _ => none
  | m + 1, a0, a1 =>
    ((ref04_Pass m a0 a1).bind fun r0 =>
    (bif ((((List.length r0) : Nat) : Int) == (0 : Int)) then
     some [(Dt.agg [(Dt.int (0 : Int)), (Dt.int (0 : Int)), (Dt.str (ByteArray.mk (List.toArray []))), (Dt.lst []), (Dt.lst [])])]
    else
     ref04_Reach_j0 m r0))
noncomputable def ref12_Values_j3 (m : Nat) (rec1 : List Dt → Int → List Dt → Option (List Dt)) (x0 : List Dt) (x1 : Int) (x2 : List Dt) : Option (List Dt) :=
  rec1 x0 (IntKind.wrap IntKind.i64 (x1 + (1 : Int))) x2
noncomputable def ref12_Values_j2 (m : Nat) (rec1 : List Dt → Int → List Dt → Option (List Dt)) (x0 : List Dt) (x1 : Int) (x2 : List Dt) : Option (List Dt) :=
  ((idx x0 x1).bind fun v1 =>
    (bif ((Dt.I v1 0) == (0 : Int)) then
     ((app x2 [(Dt.agg [(Dt.int (2 : Int)), (Dt.int (0 : Int)), (Dt.str (ByteArray.mk (List.toArray []))), (Dt.lst []), (Dt.lst [])])]).bind fun v2 =>
     ref12_Values_j3 m rec1 x0 x1 v2)
    else
     ((idx x0 x1).bind fun v3 =>
     (bif ((Dt.I v3 0) == (6 : Int)) then
     ((idx x0 x1).bind fun v4 =>
     (bif (decide ((0 : Int) < (((List.length (Dt.L v4 3)) : Nat) : Int))) then
     ((idx x0 x1).bind fun v5 =>
     ((app x2 (Dt.L v5 3)).bind fun v6 =>
     ref12_Values_j3 m rec1 x0 x1 v6))
     else
     ((idx x0 x1).bind fun v7 =>
     ((app x2 [v7]).bind fun v8 =>
     ref12_Values_j3 m rec1 x0 x1 v8))))
     else
     ((idx x0 x1).bind fun v9 =>
     ((app x2 [v9]).bind fun v10 =>
     ref12_Values_j3 m rec1 x0 x1 v10))))))
noncomputable def ref12_Values_j4 (m : Nat) (x0 : List Dt) : Option (List Dt) :=
  some x0
noncomputable def ref12_Values_l1 (m : Nat) : Nat → List Dt → Int → List Dt → Option (List Dt)
  | 0, _, _, _ => none
  | M1 + 1, x0, x1, x2 =>
    (bif (decide (x1 < (((List.length x0) : Nat) : Int))) then
    ref12_Values_j2 m (ref12_Values_l1 m M1) x0 x1 x2
  else
    ref12_Values_j4 m x2)
noncomputable def ref12_Values_j0 (m : Nat) (x0 : List Dt) (x1 : Int) (x2 : List Dt) : Option (List Dt) :=
  ref12_Values_l1 m (Nat.succ m) x0 x1 x2
noncomputable def ref12_Values : Nat → Dt → List Dt → Option (List Dt)
  | 0, _, _ => none
  | m + 1, a0, a1 =>
    ((ref04_Reach m a0 a1).bind fun r0 =>
    ref12_Values_j0 m r0 (0 : Int) [])
noncomputable def ref12_key_j3 (m : Nat) (rec1 : List Dt → Int → Dt → Dt → Dt → Option (Dt)) (x0 : List Dt) (x1 : Int) (x2 x3 x4 : Dt) : Option (Dt) :=
  rec1 x0 (IntKind.wrap IntKind.i64 (x1 + (1 : Int))) x2 x3 x4
noncomputable def ref12_key_j2 (m : Nat) (rec1 : List Dt → Int → Dt → Dt → Dt → Option (Dt)) (x0 : List Dt) (x1 : Int) (x2 x3 x4 : Dt) : Option (Dt) :=
  ((idx x0 x1).bind fun v2 =>
    ((ref01_Compare m v2 x4).bind fun r3 =>
     (bif (decide (r3 < (0 : Int))) then
     (bif (Bool.not (Dt.B x2 1)) then
     ((idx x0 x1).bind fun v4 =>
     ref12_key_j3 m rec1 x0 x1 x2 x3 v4)
     else
     (bif (decide ((0 : Int) < r3)) then
     (bif (Dt.B x2 1) then
     ((idx x0 x1).bind fun v5 =>
     ref12_key_j3 m rec1 x0 x1 x2 x3 v5)
     else
     ref12_key_j3 m rec1 x0 x1 x2 x3 x4)
     else
     ref12_key_j3 m rec1 x0 x1 x2 x3 x4))
     else
     (bif (decide ((0 : Int) < r3)) then
     (bif (Dt.B x2 1) then
     ((idx x0 x1).bind fun v6 =>
     ref12_key_j3 m rec1 x0 x1 x2 x3 v6)
     else
     ref12_key_j3 m rec1 x0 x1 x2 x3 x4)
     else
     ref12_key_j3 m rec1 x0 x1 x2 x3 x4))))
noncomputable def ref12_key_j4 (m : Nat) (x0 x1 : Dt) : Option (Dt) :=
  some x1
noncomputable def ref12_key_l1 (m : Nat) : Nat → List Dt → Int → Dt → Dt → Dt → Option (Dt)
  | 0, _, _, _, _, _ => none
  | M1 + 1, x0, x1, x2, x3, x4 =>
    (bif (decide (x1 < (((List.length x0) : Nat) : Int))) then
    ref12_key_j2 m (ref12_key_l1 m M1) x0 x1 x2 x3 x4
  else
    ref12_key_j4 m x3 x4)
noncomputable def ref12_key_j0 (m : Nat) (x0 : List Dt) (x1 : Int) (x2 x3 x4 : Dt) : Option (Dt) :=
  ref12_key_l1 m (Nat.succ m) x0 x1 x2 x3 x4
noncomputable def ref12_key : Nat → Dt → Dt → Option (Dt)
  | 0, _, _ => none
  | m + 1, a0, a1 =>
    ((ref12_Values m a1 (Dt.L a0 0)).bind fun r0 =>
    ((idx r0 (0 : Int)).bind fun v1 =>
     ref12_key_j0 m r0 (1 : Int) a0 (Dt.agg [(Dt.int (0 : Int)), (Dt.int (0 : Int)), (Dt.str (ByteArray.mk (List.toArray []))), (Dt.lst []), (Dt.lst [])]) v1))
noncomputable def ref12_Compare_j4 (m : Nat) (rec1 : List Dt → Int → Dt → Dt → Option (Int)) (x0 : List Dt) (x1 : Int) (x2 x3 : Dt) : Option (Int) :=
  rec1 x0 (IntKind.wrap IntKind.i64 (x1 + (1 : Int))) x2 x3
noncomputable def ref12_Compare_j3 (m : Nat) (rec1 : List Dt → Int → Dt → Dt → Option (Int)) (x0 : List Dt) (x1 x2 : Int) (x3 x4 : Dt) : Option (Int) :=
  (bif (x2 != (0 : Int)) then
    some x2
  else
    ref12_Compare_j4 m rec1 x0 x1 x3 x4)
noncomputable def ref12_Compare_j2 (m : Nat) (rec1 : List Dt → Int → Dt → Dt → Option (Int)) (x0 : List Dt) (x1 : Int) (x2 x3 : Dt) : Option (Int) :=
  ((idx x0 x1).bind fun v0 =>
    ((ref12_key m v0 x2).bind fun r1 =>
     ((idx x0 x1).bind fun v2 =>
     ((ref12_key m v2 x3).bind fun r3 =>
     ((ref01_Compare m r1 r3).bind fun r4 =>
     (bif (r4 != (0 : Int)) then
     ((idx x0 x1).bind fun v5 =>
     (bif (Dt.B v5 1) then
     some (IntKind.wrap IntKind.i64 ((0 : Int) - r4))
     else
     ref12_Compare_j3 m rec1 x0 x1 r4 x2 x3))
     else
     ref12_Compare_j3 m rec1 x0 x1 r4 x2 x3))))))
noncomputable def ref12_Compare_j5 (m : Nat) : Option (Int) :=
  some (0 : Int)
noncomputable def ref12_Compare_l1 (m : Nat) : Nat → List Dt → Int → Dt → Dt → Option (Int)
  | 0, _, _, _, _ => none
  | M1 + 1, x0, x1, x2, x3 =>
    (bif (decide (x1 < (((List.length x0) : Nat) : Int))) then
    ref12_Compare_j2 m (ref12_Compare_l1 m M1) x0 x1 x2 x3
  else
    ref12_Compare_j5 m)
noncomputable def ref12_Compare_j0 (m : Nat) (x0 : List Dt) (x1 : Int) (x2 x3 : Dt) : Option (Int) :=
  ref12_Compare_l1 m (Nat.succ m) x0 x1 x2 x3
noncomputable def ref12_Compare : Nat → List Dt → Dt → Dt → Option (Int)
  | 0, _, _, _ => none
  | m + 1, a0, a1, a2 =>
    ref12_Compare_j0 m a0 (0 : Int) a1 a2
noncomputable def ref12_Sort_j5 (m : Nat) (rec1 : List Dt → List Dt → List Dt → Int → Option (List Dt)) (rec4 : List Dt → List Dt → List Dt → Int → Int → Option (List Dt)) (x0 x1 x2 : List Dt) (x3 x4 : Int) : Option (List Dt) :=
  rec4 x0 x1 x2 x3 (IntKind.wrap IntKind.i64 (x4 - (1 : Int)))
noncomputable def ref12_Sort_j7 (m : Nat) (rec1 : List Dt → List Dt → List Dt → Int → Option (List Dt)) (x0 x1 x2 : List Dt) (x3 : Int) : Option (List Dt) :=
  rec1 x0 x1 x2 (IntKind.wrap IntKind.i64 (x3 + (1 : Int)))
noncomputable def ref12_Sort_j6 (m : Nat) (rec1 : List Dt → List Dt → List Dt → Int → Option (List Dt)) (x0 x1 x2 : List Dt) (x3 x4 : Int) : Option (List Dt) :=
  ((cutL x2 (0 : Int) x4).bind fun v3 =>
    ((app [] v3).bind fun v4 =>
     ((idx x1 x3).bind fun v5 =>
     ((app v4 [v5]).bind fun v6 =>
     ((cutL x2 x4 (((List.length x2) : Nat) : Int)).bind fun v7 =>
     ((app v6 v7).bind fun v8 =>
     ref12_Sort_j7 m rec1 x0 x1 v8 x3))))))
noncomputable def ref12_Sort_l4 (m : Nat) (rec1 : List Dt → List Dt → List Dt → Int → Option (List Dt)) : Nat → List Dt → List Dt → List Dt → Int → Int → Option (List Dt)
  | 0, _, _, _, _, _ => none
  | M4 + 1, x0, x1, x2, x3, x4 =>
    (bif (decide ((0 : Int) < x4)) then
    ((idx x2 (IntKind.wrap IntKind.i64 (x4 - (1 : Int)))).bind fun v0 =>
     ((idx x1 x3).bind fun v1 =>
     ((ref12_Compare m x0 v0 v1).bind fun r2 =>
     (bif (decide ((0 : Int) < r2)) then
     ref12_Sort_j5 m rec1 (ref12_Sort_l4 m rec1 M4) x0 x1 x2 x3 x4
     else
     ref12_Sort_j6 m rec1 x0 x1 x2 x3 x4))))
  else
    ref12_Sort_j6 m rec1 x0 x1 x2 x3 x4)
noncomputable def ref12_Sort_j3 (m : Nat) (rec1 : List Dt → List Dt → List Dt → Int → Option (List Dt)) (x0 x1 x2 : List Dt) (x3 x4 : Int) : Option (List Dt) :=
  ref12_Sort_l4 m rec1 (Nat.succ m) x0 x1 x2 x3 x4
noncomputable def ref12_Sort_j2 (m : Nat) (rec1 : List Dt → List Dt → List Dt → Int → Option (List Dt)) (x0 x1 x2 : List Dt) (x3 : Int) : Option (List Dt) :=
  ref12_Sort_j3 m rec1 x0 x1 x2 x3 (((List.length x2) : Nat) : Int)
noncomputable def ref12_Sort_j8 (m : Nat) (x0 : List Dt) : Option (List Dt) :=
  some x0
noncomputable def ref12_Sort_l1 (m : Nat) : Nat → List Dt → List Dt → List Dt → Int → Option (List Dt)
  | 0, _, _, _, _ => none
  | M1 + 1, x0, x1, x2, x3 =>
    (bif (decide (x3 < (((List.length x1) : Nat) : Int))) then
    ref12_Sort_j2 m (ref12_Sort_l1 m M1) x0 x1 x2 x3
  else
    ref12_Sort_j8 m x2)
noncomputable def ref12_Sort_j0 (m : Nat) (x0 x1 x2 : List Dt) (x3 : Int) : Option (List Dt) :=
  ref12_Sort_l1 m (Nat.succ m) x0 x1 x2 x3
noncomputable def ref12_Sort : Nat → List Dt → List Dt → Option (List Dt)
  | 0, _, _ => none
  | m + 1, a0, a1 =>
    ref12_Sort_j0 m a0 a1 [] (0 : Int)
noncomputable def ref12_Top : Nat → List Dt → List Dt → Int → Option (List Dt)
  | 0, _, _, _ => none
  | m + 1, a0, a1, a2 =>
    ((ref12_Sort m a0 a1).bind fun r0 =>
    ((cutL r0 (0 : Int) (bif (decide ((((List.length r0) : Nat) : Int) < (bif (decide (a2 < (0 : Int))) then (0 : Int) else a2))) then (((List.length r0) : Nat) : Int) else (bif (decide (a2 < (0 : Int))) then (0 : Int) else a2))).bind fun v1 =>
     some v1))
noncomputable def law12_OrderSort_j0 (m : Nat) (x0 x1 : List Dt) (x2 : Int) : Option (Bool) :=
  ((order_Sort m x0 x1).bind fun r2 =>
    ((ref12_Sort m x0 x1).bind fun r3 =>
     ((law03_SameList m r2 r3).bind fun r4 =>
     (bif r4 then
     ((order_Top m x0 x1 x2).bind fun r5 =>
     ((ref12_Top m x0 x1 x2).bind fun r6 =>
     ((law03_SameList m r5 r6).bind fun r7 =>
     (bif r7 then
     ((awakeC).bind fun r8 =>
     some r8)
     else
     some Bool.false))))
     else
     some Bool.false))))
noncomputable def law12_OrderSort : Nat → List Dt → List Dt → Int → Option (Bool)
  | 0, _, _, _ => none
  | m + 1, a0, a1, a2 =>
    ((law12_Small m a0 a1).bind fun r0 =>
    (bif (Bool.not r0) then
     ((awakeC).bind fun r1 =>
     some r1)
    else
     law12_OrderSort_j0 m a0 a1 a2))
end Go.Proofs.YtacchdeihafmnaaDoor
