/- Generated: what the Go functions compute, over plain data. -/
import Derived.Test.YtacpcknpliomoaaGreatAm20
import Derived.Test.YtacpcknpliomoaaGreatOAwake
import Derived.Test.YtacpcknpliomoaaGreatOMc
import Derived.Test.YtacpcknpliomoaaGreatOInz
set_option linter.unusedVariables false
set_option linter.unusedSimpArgs false
namespace Go.Proofs.YtacpcknpliomoaaGreat
open Go.Am
def kza2373 : Dt := Dt.agg [(Dt.int 0), (Dt.int 0), (Dt.str (ByteArray.mk (List.toArray []))), (Dt.lst []), (Dt.lst [])]
def kzc575d : Dt := Dt.agg [(Dt.int 0), (Dt.int 0), (Dt.int 0), (Dt.agg [(Dt.int 0), (Dt.int 0), (Dt.str (ByteArray.mk (List.toArray []))), (Dt.lst []), (Dt.lst [])]), (Dt.lst []), (Dt.lst [])]
def kz3c25e : Dt := Dt.agg [(Dt.int 2), (Dt.int 0), (Dt.str (ByteArray.mk (List.toArray []))), (Dt.lst []), (Dt.lst [])]
def kz92500 : Dt := Dt.agg [(Dt.str (ByteArray.mk (List.toArray []))), (Dt.int 8), (Dt.agg [(Dt.int 2), (Dt.lst [(Dt.str (ByteArray.mk (List.toArray [97])))]), (Dt.str (ByteArray.mk (List.toArray []))), (Dt.lst []), (Dt.agg [(Dt.int 0), (Dt.int 0), (Dt.str (ByteArray.mk (List.toArray []))), (Dt.lst []), (Dt.lst [])]), (Dt.int 0), (Dt.lst [])]), (Dt.lst []), (Dt.int 0)]
def kzdee71 : Dt := Dt.agg [(Dt.str (ByteArray.mk (List.toArray []))), (Dt.int 9), (Dt.agg [(Dt.int 2), (Dt.lst [(Dt.str (ByteArray.mk (List.toArray [97])))]), (Dt.str (ByteArray.mk (List.toArray []))), (Dt.lst []), (Dt.agg [(Dt.int 0), (Dt.int 0), (Dt.str (ByteArray.mk (List.toArray []))), (Dt.lst []), (Dt.lst [])]), (Dt.int 0), (Dt.lst [])]), (Dt.lst []), (Dt.int 0)]
noncomputable def ref01_Same_j5 (m : Nat) (self4 : Dt → Dt → Option Bool) (rec3 : Int → Dt → Dt → Option Bool) (x0 : Int) (x1 x2 : Dt) : Option Bool :=
  rec3 (IntKind.wrap .i64 (x0 + 1)) x1 x2
noncomputable def ref01_Same_j4 (m : Nat) (self4 : Dt → Dt → Option Bool) (rec3 : Int → Dt → Dt → Option Bool) (x0 : Int) (x1 x2 : Dt) : Option Bool :=
  ((idx (Dt.L x1 3) x0).bind fun v0 =>
    ((idx (Dt.L x2 3) x0).bind fun v1 =>
 ((self4 v0 v1).bind fun r2 =>
 (bif (Bool.not r2) then
 some false
 else
 ref01_Same_j5 m self4 rec3 x0 x1 x2))))
noncomputable def ref01_Same_j11 (m : Nat) (self4 : Dt → Dt → Option Bool) (rec8 : Int → Dt → Dt → Option Bool) (x0 : Int) (x1 x2 : Dt) : Option Bool :=
  rec8 (IntKind.wrap .i64 (x0 + 1)) x1 x2
noncomputable def ref01_Same_j10 (m : Nat) (self4 : Dt → Dt → Option Bool) (rec8 : Int → Dt → Dt → Option Bool) (x0 : Int) (x1 : Bool) (x2 x3 : Dt) : Option Bool :=
  (bif x1 then
    some false
  else
    ref01_Same_j11 m self4 rec8 x0 x2 x3)
noncomputable def ref01_Same_j9 (m : Nat) (self4 : Dt → Dt → Option Bool) (rec8 : Int → Dt → Dt → Option Bool) (x0 : Int) (x1 x2 : Dt) : Option Bool :=
  ((idx (Dt.L x1 4) x0).bind fun v3 =>
    ((idx (Dt.L x2 4) x0).bind fun v4 =>
 (bif (Bool.not ((ByteArray.toList (Dt.S v3 0)) == (ByteArray.toList (Dt.S v4 0)))) then
 ref01_Same_j10 m self4 rec8 x0 true x1 x2
 else
 ((idx (Dt.L x1 4) x0).bind fun v5 =>
 ((idx (Dt.L x2 4) x0).bind fun v6 =>
 ((self4 (Dt.fld v5 1) (Dt.fld v6 1)).bind fun r7 =>
 ref01_Same_j10 m self4 rec8 x0 (Bool.not r7) x1 x2))))))
noncomputable def ref01_Same_j12 (m : Nat) (self4 : Dt → Dt → Option Bool) : Option Bool :=
  some true
noncomputable def ref01_Same_l8 (m : Nat) (self4 : Dt → Dt → Option Bool) : Nat → Int → Dt → Dt → Option Bool
  | 0, _, _, _ => none
  | M8 + 1, x0, x1, x2 =>
    (bif (decide (x0 < (List.length (Dt.L x1 4) : Int))) then
    ref01_Same_j9 m self4 (ref01_Same_l8 m self4 M8) x0 x1 x2
  else
    ref01_Same_j12 m self4)
noncomputable def ref01_Same_j7 (m : Nat) (self4 : Dt → Dt → Option Bool) (x0 : Int) (x1 x2 : Dt) : Option Bool :=
  ref01_Same_l8 m self4 (Nat.succ m) x0 x1 x2
noncomputable def ref01_Same_j6 (m : Nat) (self4 : Dt → Dt → Option Bool) (x0 x1 : Dt) : Option Bool :=
  ref01_Same_j7 m self4 0 x0 x1
noncomputable def ref01_Same_l3 (m : Nat) (self4 : Dt → Dt → Option Bool) : Nat → Int → Dt → Dt → Option Bool
  | 0, _, _, _ => none
  | M3 + 1, x0, x1, x2 =>
    (bif (decide (x0 < (List.length (Dt.L x1 3) : Int))) then
    ref01_Same_j4 m self4 (ref01_Same_l3 m self4 M3) x0 x1 x2
  else
    ref01_Same_j6 m self4 x1 x2)
noncomputable def ref01_Same_j2 (m : Nat) (self4 : Dt → Dt → Option Bool) (x0 : Int) (x1 x2 : Dt) : Option Bool :=
  ref01_Same_l3 m self4 (Nat.succ m) x0 x1 x2
noncomputable def ref01_Same_j1 (m : Nat) (self4 : Dt → Dt → Option Bool) (x0 x1 : Dt) : Option Bool :=
  ref01_Same_j2 m self4 0 x0 x1
noncomputable def ref01_Same_j0 (m : Nat) (self4 : Dt → Dt → Option Bool) (x0 : Bool) (x1 x2 : Dt) : Option Bool :=
  (bif x0 then
    some false
  else
    ref01_Same_j1 m self4 x1 x2)
noncomputable def ref01_Same : Nat → Dt → Dt → Option Bool
  | 0, _, _ => none
  | m + 1, a0, a1 =>
    (bif ((Dt.I a0 0) != (Dt.I a1 0)) then
    ref01_Same_j0 m (ref01_Same m) true a0 a1
  else
    (bif ((Dt.I a0 1) != (Dt.I a1 1)) then
 ref01_Same_j0 m (ref01_Same m) true a0 a1
    else
 (bif (Bool.not ((ByteArray.toList (Dt.S a0 2)) == (ByteArray.toList (Dt.S a1 2)))) then
 ref01_Same_j0 m (ref01_Same m) true a0 a1
 else
 (bif ((List.length (Dt.L a0 3) : Int) != (List.length (Dt.L a1 3) : Int)) then
 ref01_Same_j0 m (ref01_Same m) true a0 a1
 else
 ref01_Same_j0 m (ref01_Same m) ((List.length (Dt.L a0 4) : Int) != (List.length (Dt.L a1 4) : Int)) a0 a1))))
noncomputable def ref01_Int : Nat → Int → Option Dt
  | 0, _ => none
  | m + 1, a0 =>
    some (Dt.agg [(Dt.int 3), (Dt.int a0), (Dt.str (ByteArray.mk (List.toArray []))), (Dt.lst []), (Dt.lst [])])
noncomputable def law32_doc : Nat → Int → Option Dt
  | 0, _ => none
  | m + 1, a0 =>
    ((ref01_Int m a0).bind fun r0 =>
    some (Dt.agg [(Dt.int 5), (Dt.int 0), (Dt.str (ByteArray.mk (List.toArray []))), (Dt.lst []), (Dt.lst [(Dt.agg [(Dt.str (ByteArray.mk (List.toArray [97]))), r0])])]))
noncomputable def accum_Start : Nat → Dt → Option Dt
  | 0, _ => none
  | m + 1, a0 =>
    some (Dt.agg [(Dt.int (Dt.I a0 1)), (Dt.int 0), (Dt.int 0), kza2373, (Dt.lst []), (Dt.lst [])])
noncomputable def accum_copyValue_j3 (m : Nat) (self10 : Dt → Option Dt) (self11 : List Dt → Option (List Dt)) (rec1 : List Dt → Int → Int → Dt → Int → Int → ByteArray → List Dt → List Dt → Option Dt) (x0 : List Dt) (x1 x2 : Int) (x3 : Dt) (x4 x5 : Int) (x6 : ByteArray) (x7 x8 : List Dt) : Option Dt :=
  rec1 x0 x1 (IntKind.wrap .i64 (x2 + 1)) x3 x4 x5 x6 x7 x8
noncomputable def accum_copyValue_j2 (m : Nat) (self10 : Dt → Option Dt) (self11 : List Dt → Option (List Dt)) (rec1 : List Dt → Int → Int → Dt → Int → Int → ByteArray → List Dt → List Dt → Option Dt) (x0 : List Dt) (x1 x2 : Int) (x3 : Dt) (x4 x5 : Int) (x6 : ByteArray) (x7 x8 : List Dt) : Option Dt :=
  ((idx x0 x2).bind fun v1 =>
    ((self10 (Dt.fld v1 1)).bind fun r2 =>
 ((app x8 [(Dt.agg [(Dt.str (Dt.S v1 0)), r2])]).bind fun v3 =>
 accum_copyValue_j3 m self10 self11 rec1 x0 x1 x2 x3 x4 x5 x6 x7 v3)))
noncomputable def accum_copyValue_j4 (m : Nat) (self10 : Dt → Option Dt) (self11 : List Dt → Option (List Dt)) (x0 : Dt) (x1 x2 : Int) (x3 : ByteArray) (x4 x5 : List Dt) : Option Dt :=
  some (Dt.agg [(Dt.int x1), (Dt.int x2), (Dt.str x3), (Dt.lst x4), (Dt.lst x5)])
noncomputable def accum_copyValue_l1 (m : Nat) (self10 : Dt → Option Dt) (self11 : List Dt → Option (List Dt)) : Nat → List Dt → Int → Int → Dt → Int → Int → ByteArray → List Dt → List Dt → Option Dt
  | 0, _, _, _, _, _, _, _, _, _ => none
  | M1 + 1, x0, x1, x2, x3, x4, x5, x6, x7, x8 =>
    (bif (decide (x2 < x1)) then
    accum_copyValue_j2 m self10 self11 (accum_copyValue_l1 m self10 self11 M1) x0 x1 x2 x3 x4 x5 x6 x7 x8
  else
    accum_copyValue_j4 m self10 self11 x3 x4 x5 x6 x7 x8)
noncomputable def accum_copyValue_j0 (m : Nat) (self10 : Dt → Option Dt) (self11 : List Dt → Option (List Dt)) (x0 : List Dt) (x1 x2 : Int) (x3 : Dt) (x4 x5 : Int) (x6 : ByteArray) (x7 x8 : List Dt) : Option Dt :=
  accum_copyValue_l1 m self10 self11 (Nat.succ m) x0 x1 x2 x3 x4 x5 x6 x7 x8
noncomputable def accum_copyList_j4 (m : Nat) (self10 : Dt → Option Dt) (rec2 : List Dt → Int → Int → List Dt → Option (List Dt)) (x0 : List Dt) (x1 x2 : Int) (x3 : List Dt) : Option (List Dt) :=
  rec2 x0 x1 (IntKind.wrap .i64 (x2 + 1)) x3
noncomputable def accum_copyList_j3 (m : Nat) (self10 : Dt → Option Dt) (rec2 : List Dt → Int → Int → List Dt → Option (List Dt)) (x0 : List Dt) (x1 x2 : Int) (x3 : List Dt) : Option (List Dt) :=
  ((idx x0 x2).bind fun v1 =>
    ((self10 v1).bind fun r2 =>
 ((inL x3 x2).bind fun v3 =>
 ((x3[(Int.toNat x2)]?).bind fun v4 =>
 accum_copyList_j4 m self10 rec2 x0 x1 x2 (List.set x3 (Int.toNat x2) r2)))))
noncomputable def accum_copyList_j5 (m : Nat) (self10 : Dt → Option Dt) (x0 : List Dt) : Option (List Dt) :=
  some x0
noncomputable def accum_copyList_l2 (m : Nat) (self10 : Dt → Option Dt) : Nat → List Dt → Int → Int → List Dt → Option (List Dt)
  | 0, _, _, _, _ => none
  | M2 + 1, x0, x1, x2, x3 =>
    (bif (decide (x2 < x1)) then
    accum_copyList_j3 m self10 (accum_copyList_l2 m self10 M2) x0 x1 x2 x3
  else
    accum_copyList_j5 m self10 x3)
noncomputable def accum_copyList_j1 (m : Nat) (self10 : Dt → Option Dt) (x0 : List Dt) (x1 x2 : Int) (x3 : List Dt) : Option (List Dt) :=
  accum_copyList_l2 m self10 (Nat.succ m) x0 x1 x2 x3
noncomputable def accum_copyList_j0 (m : Nat) (self10 : Dt → Option Dt) (x0 : List Dt) : Option (List Dt) :=
  ((mkL (List.length x0 : Int) (List.length x0 : Int) kza2373).bind fun v0 =>
    accum_copyList_j1 m self10 x0 (List.length x0 : Int) 0 v0)
mutual
noncomputable def accum_copyValue : Nat → Dt → Option Dt
  | 0, _ => none
  | m + 1, a0 =>
    ((accum_copyList m (Dt.L a0 3)).bind fun r0 =>
    accum_copyValue_j0 m (accum_copyValue m) (accum_copyList m) (Dt.L a0 4) (List.length (Dt.L a0 4) : Int) 0 kza2373 (Dt.I a0 0) (Dt.I a0 1) (Dt.S a0 2) r0 [])
noncomputable def accum_copyList : Nat → List Dt → Option (List Dt)
  | 0, _ => none
  | m + 1, a0 =>
    (bif ((List.length a0 : Int) == 0) then
    some []
  else
    accum_copyList_j0 m (accum_copyValue m) a0)
end
noncomputable def accum_copyPart : Nat → Dt → Option (Int × Int × Int × Dt × List Dt × List Dt)
  | 0, _ => none
  | m + 1, a0 =>
    ((accum_copyValue m (Dt.fld a0 3)).bind fun r0 =>
    ((accum_copyList m (Dt.L a0 4)).bind fun r1 =>
 ((accum_copyList m (Dt.L a0 5)).bind fun r2 =>
 some ((Dt.I a0 0), (Dt.I a0 1), (Dt.I a0 2), r0, r1, r2))))
noncomputable def i12_j3 (m : Nat) (rec1 : List Dt → Int → Int → List Dt → List Dt → Int → Int → Int → Dt → List Dt → List Dt → Dt → Option (Dt × List Dt × List Dt)) (x0 : List Dt) (x1 x2 : Int) (x3 x4 : List Dt) (x5 x6 x7 : Int) (x8 : Dt) (x9 x10 : List Dt) (x11 : Dt) : Option (Dt × List Dt × List Dt) :=
  rec1 x0 x1 (IntKind.wrap .i64 (x2 + 1)) x3 x4 x5 x6 x7 x8 x9 x10 x11
noncomputable def i12_j2 (m : Nat) (rec1 : List Dt → Int → Int → List Dt → List Dt → Int → Int → Int → Dt → List Dt → List Dt → Dt → Option (Dt × List Dt × List Dt)) (x0 : List Dt) (x1 x2 : Int) (x3 x4 : List Dt) (x5 x6 x7 : Int) (x8 : Dt) (x9 x10 : List Dt) (x11 : Dt) : Option (Dt × List Dt × List Dt) :=
  ((idx x0 x2).bind fun v0 =>
    (bif (decide ((List.length x9 : Int) < 1024)) then
 ((app x9 [v0]).bind fun v1 =>
 i12_j3 m rec1 x0 x1 x2 x3 x4 x5 x6 x7 x8 v1 x10 x11)
    else
 i12_j3 m rec1 x0 x1 x2 x3 x4 x5 x6 x7 x8 x9 x10 x11))
noncomputable def i12_j4 (m : Nat) (x0 x1 : List Dt) (x2 x3 x4 : Int) (x5 : Dt) (x6 x7 : List Dt) (x8 : Dt) : Option (Dt × List Dt × List Dt) :=
  some ((Dt.agg [(Dt.int x2), (Dt.int x3), (Dt.int x4), x5, (Dt.lst x6), (Dt.lst x7)]), x0, x1)
noncomputable def i12_l1 (m : Nat) : Nat → List Dt → Int → Int → List Dt → List Dt → Int → Int → Int → Dt → List Dt → List Dt → Dt → Option (Dt × List Dt × List Dt)
  | 0, _, _, _, _, _, _, _, _, _, _, _, _ => none
  | M1 + 1, x0, x1, x2, x3, x4, x5, x6, x7, x8, x9, x10, x11 =>
    (bif (decide (x2 < x1)) then
    i12_j2 m (i12_l1 m M1) x0 x1 x2 x3 x4 x5 x6 x7 x8 x9 x10 x11
  else
    i12_j4 m x3 x4 x5 x6 x7 x8 x9 x10 x11)
noncomputable def i12_j0 (m : Nat) (x0 : List Dt) (x1 x2 : Int) (x3 x4 : List Dt) (x5 x6 x7 : Int) (x8 : Dt) (x9 x10 : List Dt) (x11 : Dt) : Option (Dt × List Dt × List Dt) :=
  i12_l1 m (Nat.succ m) x0 x1 x2 x3 x4 x5 x6 x7 x8 x9 x10 x11
noncomputable def i12 : Nat → Dt → Int → Int → Int → Dt → Int → Int → Int → Dt → List Dt → List Dt → List Dt → List Dt → Option (Dt × List Dt × List Dt)
  | 0, _, _, _, _, _, _, _, _, _, _, _, _, _ => none
  | m + 1, a0, a1, a2, a3, a4, a5, a6, a7, a8, a9, a10, a11, a12 =>
    i12_j0 m a11 (List.length a11 : Int) 0 a11 a12 a1 a2 a3 a4 a9 a10 kzc575d
noncomputable def accum_orNull_j0 (m : Nat) (x0 x1 : Dt) : Option Dt :=
  some x0
noncomputable def accum_orNull : Nat → Dt → Option Dt
  | 0, _ => none
  | m + 1, a0 =>
    (bif ((Dt.I a0 0) == 0) then
    some kz3c25e
  else
    accum_orNull_j0 m a0 kza2373)
noncomputable def i18_j0 (m : Nat) (x0 x1 x2 : Int) (x3 : Dt) (x4 x5 : List Dt) (x6 : Dt) : Option Dt :=
  some (Dt.agg [(Dt.int x0), (Dt.int x1), (Dt.int x2), x3, (Dt.lst x4), (Dt.lst x5)])
noncomputable def i18 : Nat → Dt → Int → Int → Int → Dt → Dt → List Dt → List Dt → Option Dt
  | 0, _, _, _, _, _, _, _, _ => none
  | m + 1, a0, a1, a2, a3, a4, a5, a6, a7 =>
    (bif (decide ((List.length a6 : Int) < 1024)) then
    ((expr_EvalC (Dt.fld a0 2) a5).bind fun r0 =>
 ((accum_orNull m r0).bind fun r1 =>
 ((app a6 [r1]).bind fun v2 =>
 i18_j0 m a1 a2 a3 a4 v2 a7 kzc575d)))
  else
    i18_j0 m a1 a2 a3 a4 a6 a7 kzc575d)
noncomputable def cmp_isNaN : Nat → Int → Option Bool
  | 0, _ => none
  | m + 1, a0 =>
    some (a0 != a0)
noncomputable def cmp_Compare_j0 (m : Nat) : Option Int :=
  some (-1)
noncomputable def cmp_Compare_j4 (m : Nat) : Option Int :=
  some 0
noncomputable def cmp_Compare_j3 (m : Nat) (x0 x1 : Int) : Option Int :=
  (bif (decide (x1 < x0)) then
    some 1
  else
    cmp_Compare_j4 m)
noncomputable def cmp_Compare_j2 (m : Nat) (x0 x1 : Int) : Option Int :=
  (bif (decide (x0 < x1)) then
    some (-1)
  else
    cmp_Compare_j3 m x0 x1)
noncomputable def cmp_Compare_j1 (m : Nat) (x0 x1 : Int) (x2 : Bool) : Option Int :=
  (bif x2 then
    some 1
  else
    cmp_Compare_j2 m x0 x1)
noncomputable def cmp_Compare : Nat → Int → Int → Option Int
  | 0, _, _ => none
  | m + 1, a0, a1 =>
    ((cmp_isNaN m a0).bind fun r0 =>
    ((cmp_isNaN m a1).bind fun r1 =>
 (bif r0 then
 (bif r1 then
 some 0
 else
 cmp_Compare_j0 m)
 else
 cmp_Compare_j1 m a0 a1 r1)))
noncomputable def value_Compare_j6 (m : Nat) (self16 : Dt → Dt → Option Int) (rec4 : Int → Int → Dt → Dt → Option Int) (x0 x1 : Int) (x2 x3 : Dt) : Option Int :=
  rec4 x0 (IntKind.wrap .i64 (x1 + 1)) x2 x3
noncomputable def value_Compare_j5 (m : Nat) (self16 : Dt → Dt → Option Int) (rec4 : Int → Int → Dt → Dt → Option Int) (x0 x1 : Int) (x2 x3 : Dt) : Option Int :=
  ((idx (Dt.L x2 3) x1).bind fun v3 =>
    ((idx (Dt.L x3 3) x1).bind fun v4 =>
 ((self16 v3 v4).bind fun r5 =>
 (bif (r5 != 0) then
 some r5
 else
 value_Compare_j6 m self16 rec4 x0 x1 x2 x3))))
noncomputable def value_Compare_j7 (m : Nat) (self16 : Dt → Dt → Option Int) (x0 x1 : Dt) : Option Int :=
  ((cmp_Compare m (List.length (Dt.L x0 3) : Int) (List.length (Dt.L x1 3) : Int)).bind fun r6 =>
    some r6)
noncomputable def value_Compare_l4 (m : Nat) (self16 : Dt → Dt → Option Int) : Nat → Int → Int → Dt → Dt → Option Int
  | 0, _, _, _, _ => none
  | M4 + 1, x0, x1, x2, x3 =>
    (bif (decide (x1 < x0)) then
    value_Compare_j5 m self16 (value_Compare_l4 m self16 M4) x0 x1 x2 x3
  else
    value_Compare_j7 m self16 x2 x3)
noncomputable def value_Compare_j3 (m : Nat) (self16 : Dt → Dt → Option Int) (x0 x1 : Int) (x2 x3 : Dt) : Option Int :=
  value_Compare_l4 m self16 (Nat.succ m) x0 x1 x2 x3
noncomputable def value_Compare_j12 (m : Nat) (self16 : Dt → Dt → Option Int) (rec9 : Int → Int → Dt → Dt → Option Int) (x0 x1 : Int) (x2 x3 : Dt) : Option Int :=
  rec9 x0 (IntKind.wrap .i64 (x1 + 1)) x2 x3
noncomputable def value_Compare_j11 (m : Nat) (self16 : Dt → Dt → Option Int) (rec9 : Int → Int → Dt → Dt → Option Int) (x0 x1 x2 : Int) (x3 x4 : Dt) : Option Int :=
  ((idx (Dt.L x3 4) x0).bind fun v10 =>
    ((idx (Dt.L x4 4) x0).bind fun v11 =>
 ((self16 (Dt.fld v10 1) (Dt.fld v11 1)).bind fun r12 =>
 (bif (r12 != 0) then
 some r12
 else
 value_Compare_j12 m self16 rec9 x1 x2 x3 x4))))
noncomputable def value_Compare_j10 (m : Nat) (self16 : Dt → Dt → Option Int) (rec9 : Int → Int → Dt → Dt → Option Int) (x0 x1 : Int) (x2 x3 : Dt) : Option Int :=
  ((idx (Dt.L x2 4) x1).bind fun v7 =>
    ((idx (Dt.L x3 4) x1).bind fun v8 =>
 ((strings_CompareN (Dt.S v7 0) (Dt.S v8 0)).bind fun r9 =>
 (bif (r9 != 0) then
 some r9
 else
 value_Compare_j11 m self16 rec9 x1 x0 x1 x2 x3))))
noncomputable def value_Compare_j13 (m : Nat) (self16 : Dt → Dt → Option Int) (x0 x1 : Dt) : Option Int :=
  ((cmp_Compare m (List.length (Dt.L x0 4) : Int) (List.length (Dt.L x1 4) : Int)).bind fun r13 =>
    some r13)
noncomputable def value_Compare_l9 (m : Nat) (self16 : Dt → Dt → Option Int) : Nat → Int → Int → Dt → Dt → Option Int
  | 0, _, _, _, _ => none
  | M9 + 1, x0, x1, x2, x3 =>
    (bif (decide (x1 < x0)) then
    value_Compare_j10 m self16 (value_Compare_l9 m self16 M9) x0 x1 x2 x3
  else
    value_Compare_j13 m self16 x2 x3)
noncomputable def value_Compare_j8 (m : Nat) (self16 : Dt → Dt → Option Int) (x0 x1 : Int) (x2 x3 : Dt) : Option Int :=
  value_Compare_l9 m self16 (Nat.succ m) x0 x1 x2 x3
noncomputable def value_Compare_j14 (m : Nat) (self16 : Dt → Dt → Option Int) : Option Int :=
  some 0
noncomputable def value_Compare_j2 (m : Nat) (self16 : Dt → Dt → Option Int) (x0 : Int) (x1 : Bool) (x2 x3 : Dt) : Option Int :=
  (bif x1 then
    ((strings_CompareN (Dt.S x2 2) (Dt.S x3 2)).bind fun r2 =>
 some r2)
  else
    (bif (x0 == 6) then
 value_Compare_j3 m self16 (bif (decide ((List.length (Dt.L x3 3) : Int) < (List.length (Dt.L x2 3) : Int))) then (List.length (Dt.L x3 3) : Int) else (List.length (Dt.L x2 3) : Int)) 0 x2 x3
    else
 (bif (x0 == 5) then
 value_Compare_j8 m self16 (bif (decide ((List.length (Dt.L x3 4) : Int) < (List.length (Dt.L x2 4) : Int))) then (List.length (Dt.L x3 4) : Int) else (List.length (Dt.L x2 4) : Int)) 0 x2 x3
 else
 value_Compare_j14 m self16)))
noncomputable def value_Compare_j1 (m : Nat) (self16 : Dt → Dt → Option Int) (x0 : Int) (x1 : Bool) (x2 x3 : Dt) : Option Int :=
  (bif x1 then
    ((cmp_Compare m (Dt.I x2 1) (Dt.I x3 1)).bind fun r1 =>
 some r1)
  else
    (bif (x0 == 4) then
 value_Compare_j2 m self16 x0 (x0 == 4) x2 x3
    else
 (bif (x0 == 7) then
 value_Compare_j2 m self16 x0 (x0 == 7) x2 x3
 else
 value_Compare_j2 m self16 x0 (x0 == 8) x2 x3)))
noncomputable def value_Compare_j0 (m : Nat) (self16 : Dt → Dt → Option Int) (x0 x1 : Dt) : Option Int :=
  (bif ((Dt.I x0 0) == 3) then
    value_Compare_j1 m self16 (Dt.I x0 0) ((Dt.I x0 0) == 3) x0 x1
  else
    (bif ((Dt.I x0 0) == 9) then
 value_Compare_j1 m self16 (Dt.I x0 0) ((Dt.I x0 0) == 9) x0 x1
    else
 value_Compare_j1 m self16 (Dt.I x0 0) ((Dt.I x0 0) == 10) x0 x1))
noncomputable def value_Compare : Nat → Dt → Dt → Option Int
  | 0, _, _ => none
  | m + 1, a0, a1 =>
    (bif ((Dt.I a0 0) != (Dt.I a1 0)) then
    ((cmp_Compare m (Dt.I a0 0) (Dt.I a1 0)).bind fun r0 =>
 some r0)
  else
    value_Compare_j0 m (value_Compare m) a0 a1)
noncomputable def i15_j2 (m : Nat) (rec1 : List Dt → Int → Int → Int → Dt → Option (Int × Bool)) (x0 : List Dt) (x1 x2 x3 : Int) (x4 : Dt) : Option (Int × Bool) :=
  ((idx x0 (IntKind.wrap .i64 (shrI IntKind.u64 (IntKind.wrap IntKind.u64 (IntKind.wrap .i64 (x2 + x3))) 1))).bind fun v0 =>
    ((value_Compare m v0 x4).bind fun r1 =>
 (bif (decide (r1 < 0)) then
 rec1 x0 x1 (IntKind.wrap .i64 ((IntKind.wrap .i64 (shrI IntKind.u64 (IntKind.wrap IntKind.u64 (IntKind.wrap .i64 (x2 + x3))) 1)) + 1)) x3 x4
 else
 rec1 x0 x1 x2 (IntKind.wrap .i64 (shrI IntKind.u64 (IntKind.wrap IntKind.u64 (IntKind.wrap .i64 (x2 + x3))) 1)) x4)))
noncomputable def i15_j3 (m : Nat) (x0 : List Dt) (x1 x2 : Int) (x3 : Dt) : Option (Int × Bool) :=
  (bif (decide (x2 < x1)) then
    ((idx x0 x2).bind fun v2 =>
 ((value_Compare m v2 x3).bind fun r3 =>
 some (x2, (r3 == 0))))
  else
    some (x2, false))
noncomputable def i15_l1 (m : Nat) : Nat → List Dt → Int → Int → Int → Dt → Option (Int × Bool)
  | 0, _, _, _, _, _ => none
  | M1 + 1, x0, x1, x2, x3, x4 =>
    (bif (decide (x2 < x3)) then
    i15_j2 m (i15_l1 m M1) x0 x1 x2 x3 x4
  else
    i15_j3 m x0 x1 x2 x4)
noncomputable def i15_j0 (m : Nat) (x0 : List Dt) (x1 x2 x3 : Int) (x4 : Dt) : Option (Int × Bool) :=
  i15_l1 m (Nat.succ m) x0 x1 x2 x3 x4
noncomputable def i15 : Nat → List Dt → Dt → Option (Int × Bool)
  | 0, _, _ => none
  | m + 1, a0, a1 =>
    i15_j0 m a0 (List.length a0 : Int) 0 (List.length a0 : Int) a1
noncomputable def i14_j1 (m : Nat) (x0 : List Dt) : Option (List Dt) :=
  some x0
noncomputable def i14_j0 (m : Nat) (x0 : Int) (x1 : Bool) (x2 : List Dt) (x3 : Dt) : Option (List Dt) :=
  (bif x1 then
    ((slices_Insert x0 x2 [x3]).bind fun r1 =>
 ((cutL r1 0 (bif (decide (1024 < (List.length r1 : Int))) then 1024 else (List.length r1 : Int))).bind fun v2 =>
 i14_j1 m v2))
  else
    i14_j1 m x2)
noncomputable def i14 : Nat → Dt → Dt → List Dt → Option (List Dt)
  | 0, _, _, _ => none
  | m + 1, a0, a1, a2 =>
    ((i15 m a2 a1).bind fun r0 =>
    (bif (Bool.not r0.2) then
 i14_j0 m r0.1 (decide (r0.1 < 1024)) a2 a1
    else
 i14_j0 m r0.1 false a2 a1))
noncomputable def i13_j3 (m : Nat) (rec1 : List Dt → Int → Int → List Dt → List Dt → Dt → Int → Int → Int → Dt → List Dt → List Dt → Dt → Option (Dt × List Dt × List Dt)) (x0 : List Dt) (x1 x2 : Int) (x3 x4 : List Dt) (x5 : Dt) (x6 x7 x8 : Int) (x9 : Dt) (x10 x11 : List Dt) (x12 : Dt) : Option (Dt × List Dt × List Dt) :=
  rec1 x0 x1 (IntKind.wrap .i64 (x2 + 1)) x3 x4 x5 x6 x7 x8 x9 x10 x11 x12
noncomputable def i13_j2 (m : Nat) (rec1 : List Dt → Int → Int → List Dt → List Dt → Dt → Int → Int → Int → Dt → List Dt → List Dt → Dt → Option (Dt × List Dt × List Dt)) (x0 : List Dt) (x1 x2 : Int) (x3 x4 : List Dt) (x5 : Dt) (x6 x7 x8 : Int) (x9 : Dt) (x10 x11 : List Dt) (x12 : Dt) : Option (Dt × List Dt × List Dt) :=
  ((idx x0 x2).bind fun v0 =>
    ((i14 m x5 v0 x10).bind fun r1 =>
 i13_j3 m rec1 x0 x1 x2 x3 x4 x5 x6 x7 x8 x9 r1 x11 x12))
noncomputable def i13_j4 (m : Nat) (x0 x1 : List Dt) (x2 x3 x4 : Int) (x5 : Dt) (x6 x7 : List Dt) (x8 : Dt) : Option (Dt × List Dt × List Dt) :=
  some ((Dt.agg [(Dt.int x2), (Dt.int x3), (Dt.int x4), x5, (Dt.lst x6), (Dt.lst x7)]), x0, x1)
noncomputable def i13_l1 (m : Nat) : Nat → List Dt → Int → Int → List Dt → List Dt → Dt → Int → Int → Int → Dt → List Dt → List Dt → Dt → Option (Dt × List Dt × List Dt)
  | 0, _, _, _, _, _, _, _, _, _, _, _, _, _ => none
  | M1 + 1, x0, x1, x2, x3, x4, x5, x6, x7, x8, x9, x10, x11, x12 =>
    (bif (decide (x2 < x1)) then
    i13_j2 m (i13_l1 m M1) x0 x1 x2 x3 x4 x5 x6 x7 x8 x9 x10 x11 x12
  else
    i13_j4 m x3 x4 x6 x7 x8 x9 x10 x11 x12)
noncomputable def i13_j0 (m : Nat) (x0 : List Dt) (x1 x2 : Int) (x3 x4 : List Dt) (x5 : Dt) (x6 x7 x8 : Int) (x9 : Dt) (x10 x11 : List Dt) (x12 : Dt) : Option (Dt × List Dt × List Dt) :=
  i13_l1 m (Nat.succ m) x0 x1 x2 x3 x4 x5 x6 x7 x8 x9 x10 x11 x12
noncomputable def i13 : Nat → Dt → Int → Int → Int → Dt → Int → Int → Int → Dt → List Dt → List Dt → List Dt → List Dt → Option (Dt × List Dt × List Dt)
  | 0, _, _, _, _, _, _, _, _, _, _, _, _, _ => none
  | m + 1, a0, a1, a2, a3, a4, a5, a6, a7, a8, a9, a10, a11, a12 =>
    i13_j0 m a11 (List.length a11 : Int) 0 a11 a12 (Dt.agg []) a1 a2 a3 a4 a9 a10 kzc575d
noncomputable def accum_Join : Nat → Dt → Dt → Dt → Option Dt
  | 0, _, _, _ => none
  | m + 1, a0, a1, a2 =>
    ((accum_copyPart m a1).bind fun r0 =>
    (bif ((Dt.I a0 1) == 8) then
 ((accum_copyPart m a2).bind fun r1 =>
 ((i12 m a0 r0.1 r0.2.1 r0.2.2.1 r0.2.2.2.1 r1.1 r1.2.1 r1.2.2.1 r1.2.2.2.1 r0.2.2.2.2.1 r0.2.2.2.2.2 r1.2.2.2.2.1 r1.2.2.2.2.2).bind fun r2 =>
 some r2.1))
    else
 (bif ((Dt.I a0 1) == 9) then
 ((accum_copyPart m a2).bind fun r3 =>
 ((i13 m a0 r0.1 r0.2.1 r0.2.2.1 r0.2.2.2.1 r3.1 r3.2.1 r3.2.2.1 r3.2.2.2.1 r0.2.2.2.2.1 r0.2.2.2.2.2 r3.2.2.2.2.1 r3.2.2.2.2.2).bind fun r4 =>
 some r4.1))
 else
 none)))
noncomputable def i22_j1 (m : Nat) (x0 : List Dt) : Option (List Dt) :=
  some x0
noncomputable def i22_j0 (m : Nat) (x0 : Int) (x1 : Bool) (x2 : List Dt) (x3 : Dt) : Option (List Dt) :=
  (bif x1 then
    ((slices_Insert x0 x2 [x3]).bind fun r1 =>
 ((cutL r1 0 (bif (decide (1024 < (List.length r1 : Int))) then 1024 else (List.length r1 : Int))).bind fun v2 =>
 i22_j1 m v2))
  else
    i22_j1 m x2)
noncomputable def i22 : Nat → Dt → List Dt → Option (List Dt)
  | 0, _, _ => none
  | m + 1, a0, a1 =>
    ((i15 m a1 a0).bind fun r0 =>
    (bif (Bool.not r0.2) then
 i22_j0 m r0.1 (decide (r0.1 < 1024)) a1 a0
    else
 i22_j0 m r0.1 false a1 a0))
noncomputable def i21 : Nat → Dt → Int → Int → Int → Dt → Dt → List Dt → List Dt → Option (Dt × List Dt)
  | 0, _, _, _, _, _, _, _, _ => none
  | m + 1, a0, a1, a2, a3, a4, a5, a6, a7 =>
    ((expr_EvalC (Dt.fld a0 2) a5).bind fun r0 =>
    ((accum_orNull m r0).bind fun r1 =>
 ((i22 m r1 a6).bind fun r2 =>
 some ((Dt.agg [(Dt.int a1), (Dt.int a2), (Dt.int a3), a4, (Dt.lst r2), (Dt.lst a7)]), a7))))
noncomputable def accum_Add : Nat → Dt → Dt → Dt → Option Dt
  | 0, _, _, _ => none
  | m + 1, a0, a1, a2 =>
    ((accum_copyPart m a1).bind fun r0 =>
    (bif ((Dt.I a0 1) == 8) then
 ((i18 m a0 r0.1 r0.2.1 r0.2.2.1 r0.2.2.2.1 a2 r0.2.2.2.2.1 r0.2.2.2.2.2).bind fun r1 =>
 some r1)
    else
 (bif ((Dt.I a0 1) == 9) then
 ((i21 m a0 r0.1 r0.2.1 r0.2.2.1 r0.2.2.2.1 a2 r0.2.2.2.2.1 r0.2.2.2.2.2).bind fun r2 =>
 some r2.1)
 else
 none)))
noncomputable def law32_run_j3 (m : Nat) (rec1 : List Dt → Int → Dt → Dt → Dt → Option Dt) (x0 : List Dt) (x1 : Int) (x2 x3 x4 : Dt) : Option Dt :=
  rec1 x0 (IntKind.wrap .i64 (x1 + 1)) x2 x3 x4
noncomputable def law32_run_j2 (m : Nat) (rec1 : List Dt → Int → Dt → Dt → Dt → Option Dt) (x0 : List Dt) (x1 : Int) (x2 x3 x4 : Dt) : Option Dt :=
  ((idx x0 x1).bind fun v1 =>
    ((accum_Add m x2 x4 v1).bind fun r2 =>
 law32_run_j3 m rec1 x0 x1 x2 x3 r2))
noncomputable def law32_run_j4 (m : Nat) (x0 x1 : Dt) : Option Dt :=
  some x1
noncomputable def law32_run_l1 (m : Nat) : Nat → List Dt → Int → Dt → Dt → Dt → Option Dt
  | 0, _, _, _, _, _ => none
  | M1 + 1, x0, x1, x2, x3, x4 =>
    (bif (decide (x1 < (List.length x0 : Int))) then
    law32_run_j2 m (law32_run_l1 m M1) x0 x1 x2 x3 x4
  else
    law32_run_j4 m x3 x4)
noncomputable def law32_run_j0 (m : Nat) (x0 : List Dt) (x1 : Int) (x2 x3 x4 : Dt) : Option Dt :=
  law32_run_l1 m (Nat.succ m) x0 x1 x2 x3 x4
noncomputable def law32_run : Nat → Dt → List Dt → Option Dt
  | 0, _, _ => none
  | m + 1, a0, a1 =>
    ((accum_Start m a0).bind fun r0 =>
    law32_run_j0 m a1 0 a0 kzc575d r0)
noncomputable def law32_AccumMany_j3 (m : Nat) (rec1 : Int → Int → Int → Int → Dt → Dt → List Dt → Option Bool) (x0 x1 x2 x3 : Int) (x4 x5 : Dt) (x6 : List Dt) : Option Bool :=
  rec1 x0 x1 x2 (IntKind.wrap .i64 (x3 + 1)) x4 x5 x6
noncomputable def law32_AccumMany_j2 (m : Nat) (rec1 : Int → Int → Int → Int → Dt → Dt → List Dt → Option Bool) (x0 x1 x2 x3 : Int) (x4 x5 : Dt) (x6 : List Dt) : Option Bool :=
  ((law32_doc m (Int.tmod (IntKind.wrap .i64 (x3 * (IntKind.wrap .i64 ((IntKind.wrap .i64 (2 * (IntKind.wrap .i64 x1))) + 1)))) 2048)).bind fun r0 =>
    ((app x6 [r0]).bind fun v1 =>
 law32_AccumMany_j3 m rec1 x0 x1 x2 x3 x4 x5 v1))
noncomputable def law32_AccumMany_j11 (m : Nat) (rec9 : Int → List Dt → Int → Int → Dt → Dt → Dt → Option Bool) (x0 : Int) (x1 : List Dt) (x2 x3 : Int) (x4 x5 x6 : Dt) : Option Bool :=
  rec9 x0 x1 x2 (IntKind.wrap .i64 (x3 + 1)) x4 x5 x6
noncomputable def law32_AccumMany_j10 (m : Nat) (rec9 : Int → List Dt → Int → Int → Dt → Dt → Dt → Option Bool) (x0 : Int) (x1 : List Dt) (x2 x3 : Int) (x4 x5 x6 : Dt) : Option Bool :=
  ((idx x1 x3).bind fun v12 =>
    ((idx (Dt.L v12 4) 0).bind fun v13 =>
 ((inL (Dt.toLst x6) (Dt.I (Dt.fld v13 1) 1)).bind fun v14 =>
 (((Dt.toLst x6)[(Int.toNat (Dt.I (Dt.fld v13 1) 1))]?).bind fun v15 =>
 law32_AccumMany_j11 m rec9 x0 x1 x2 x3 x4 x5 (Dt.lst (List.set (Dt.toLst x6) (Int.toNat (Dt.I (Dt.fld v13 1) 1)) (Dt.bool true)))))))
noncomputable def law32_AccumMany_j17 (m : Nat) (rec14 : List Dt → Int → Int → Int → Dt → Dt → Dt → Option Bool) (rec16 : List Dt → Int → Int → Int → Dt → Dt → Dt → Option Bool) (x0 : List Dt) (x1 x2 x3 : Int) (x4 x5 x6 : Dt) : Option Bool :=
  rec16 x0 x1 (IntKind.wrap .i64 (x2 + 1)) x3 x4 x5 x6
noncomputable def law32_AccumMany_j21 (m : Nat) (rec14 : List Dt → Int → Int → Int → Dt → Dt → Dt → Option Bool) (x0 : List Dt) (x1 x2 x3 : Int) (x4 x5 x6 : Dt) : Option Bool :=
  rec14 x0 x1 x2 (IntKind.wrap .i64 (x3 + 1)) x4 x5 x6
noncomputable def law32_AccumMany_j20 (m : Nat) (rec14 : List Dt → Int → Int → Int → Dt → Dt → Dt → Option Bool) (x0 : List Dt) (x1 x2 x3 : Int) (x4 x5 x6 : Dt) : Option Bool :=
  law32_AccumMany_j21 m rec14 x0 x1 (IntKind.wrap .i64 (x2 + 1)) x3 x4 x5 x6
noncomputable def law32_AccumMany_j19 (m : Nat) (rec14 : List Dt → Int → Int → Int → Dt → Dt → Dt → Option Bool) (x0 : List Dt) (x1 x2 x3 : Int) (x4 : Bool) (x5 x6 x7 : Dt) : Option Bool :=
  (bif x4 then
    some false
  else
    law32_AccumMany_j20 m rec14 x0 x1 x2 x3 x5 x6 x7)
noncomputable def law32_AccumMany_j18 (m : Nat) (rec14 : List Dt → Int → Int → Int → Dt → Dt → Dt → Option Bool) (x0 : List Dt) (x1 x2 x3 : Int) (x4 x5 x6 : Dt) : Option Bool :=
  ((idx (Dt.L x4 4) x3).bind fun v18 =>
    ((idx x0 x3).bind fun v19 =>
 ((idx (Dt.L v19 4) 0).bind fun v20 =>
 ((ref01_Same m v18 (Dt.fld v20 1)).bind fun r21 =>
 (bif (Bool.not r21) then
 law32_AccumMany_j19 m rec14 x0 x1 x2 x3 true x4 x5 x6
 else
 ((idx (Dt.L x5 4) x3).bind fun v22 =>
 (bif ((Dt.I v22 0) != 3) then
 law32_AccumMany_j19 m rec14 x0 x1 x2 x3 true x4 x5 x6
 else
 ((idx (Dt.L x5 4) x3).bind fun v23 =>
 law32_AccumMany_j19 m rec14 x0 x1 x2 x3 ((Dt.I v23 1) != x2) x4 x5 x6))))))))
noncomputable def law32_AccumMany_l16 (m : Nat) (rec14 : List Dt → Int → Int → Int → Dt → Dt → Dt → Option Bool) : Nat → List Dt → Int → Int → Int → Dt → Dt → Dt → Option Bool
  | 0, _, _, _, _, _, _, _ => none
  | M16 + 1, x0, x1, x2, x3, x4, x5, x6 =>
    (bif (decide (x2 < 2047)) then
    ((inL (Dt.toLst x6) x2).bind fun v16 =>
 (((Dt.toLst x6)[(Int.toNat x2)]?).bind fun v17 =>
 (bif (Bool.not (Dt.toBool v17)) then
 law32_AccumMany_j17 m rec14 (law32_AccumMany_l16 m rec14 M16) x0 x1 x2 x3 x4 x5 x6
 else
 law32_AccumMany_j18 m rec14 x0 x1 x2 x3 x4 x5 x6)))
  else
    law32_AccumMany_j18 m rec14 x0 x1 x2 x3 x4 x5 x6)
noncomputable def law32_AccumMany_j15 (m : Nat) (rec14 : List Dt → Int → Int → Int → Dt → Dt → Dt → Option Bool) (x0 : List Dt) (x1 x2 x3 : Int) (x4 x5 x6 : Dt) : Option Bool :=
  law32_AccumMany_l16 m rec14 (Nat.succ m) x0 x1 x2 x3 x4 x5 x6
noncomputable def law32_AccumMany_j22 (m : Nat) : Option Bool :=
  ((awakeC).bind fun r24 =>
    some r24)
noncomputable def law32_AccumMany_l14 (m : Nat) : Nat → List Dt → Int → Int → Int → Dt → Dt → Dt → Option Bool
  | 0, _, _, _, _, _, _, _ => none
  | M14 + 1, x0, x1, x2, x3, x4, x5, x6 =>
    (bif (decide (x3 < x1)) then
    law32_AccumMany_j15 m (law32_AccumMany_l14 m M14) x0 x1 x2 x3 x4 x5 x6
  else
    law32_AccumMany_j22 m)
noncomputable def law32_AccumMany_j13 (m : Nat) (x0 : List Dt) (x1 x2 x3 : Int) (x4 x5 x6 : Dt) : Option Bool :=
  law32_AccumMany_l14 m (Nat.succ m) x0 x1 x2 x3 x4 x5 x6
noncomputable def law32_AccumMany_j12 (m : Nat) (x0 : List Dt) (x1 : Int) (x2 x3 x4 : Dt) : Option Bool :=
  law32_AccumMany_j13 m x0 x1 0 0 x2 x3 x4
noncomputable def law32_AccumMany_l9 (m : Nat) : Nat → Int → List Dt → Int → Int → Dt → Dt → Dt → Option Bool
  | 0, _, _, _, _, _, _, _ => none
  | M9 + 1, x0, x1, x2, x3, x4, x5, x6 =>
    (bif (decide (x3 < x0)) then
    law32_AccumMany_j10 m (law32_AccumMany_l9 m M9) x0 x1 x2 x3 x4 x5 x6
  else
    law32_AccumMany_j12 m x1 x2 x4 x5 x6)
noncomputable def law32_AccumMany_j8 (m : Nat) (x0 : Int) (x1 : List Dt) (x2 x3 : Int) (x4 x5 x6 : Dt) : Option Bool :=
  law32_AccumMany_l9 m (Nat.succ m) x0 x1 x2 x3 x4 x5 x6
noncomputable def law32_AccumMany_j7 (m : Nat) (x0 : Int) (x1 : List Dt) (x2 : Int) (x3 x4 : Dt) : Option Bool :=
  law32_AccumMany_j8 m x0 x1 x2 0 x3 x4 (Dt.lst (offs 2048))
noncomputable def law32_AccumMany_j6 (m : Nat) (x0 : Int) (x1 : List Dt) (x2 : Int) (x3 : Bool) (x4 x5 : Dt) : Option Bool :=
  (bif x3 then
    some false
  else
    law32_AccumMany_j7 m x0 x1 x2 x4 x5)
noncomputable def law32_AccumMany_j5 (m : Nat) (x0 : Int) (x1 : List Dt) (x2 : Int) (x3 x4 : Dt) : Option Bool :=
  (bif ((List.length (Dt.L x3 4) : Int) != x2) then
    law32_AccumMany_j6 m x0 x1 x2 true x3 x4
  else
    law32_AccumMany_j6 m x0 x1 x2 ((List.length (Dt.L x4 4) : Int) != x2) x3 x4)
noncomputable def law32_AccumMany_j4 (m : Nat) (x0 x1 : Int) (x2 : List Dt) (x3 x4 : Dt) : Option Bool :=
  (bif (decide ((IntKind.wrap .i64 (x1 + 1)) = 0)) then
    none
  else
    ((cutL x2 0 (Int.tmod (IntKind.wrap .i64 x0) (IntKind.wrap .i64 (x1 + 1)))).bind fun v2 =>
 ((law32_run m x3 v2).bind fun r3 =>
 ((cutL x2 (Int.tmod (IntKind.wrap .i64 x0) (IntKind.wrap .i64 (x1 + 1))) (List.length x2 : Int)).bind fun v4 =>
 ((law32_run m x3 v4).bind fun r5 =>
 ((accum_Join m x3 r3 r5).bind fun r6 =>
 ((cutL x2 0 (Int.tmod (IntKind.wrap .i64 x0) (IntKind.wrap .i64 (x1 + 1)))).bind fun v7 =>
 ((law32_run m x4 v7).bind fun r8 =>
 ((cutL x2 (Int.tmod (IntKind.wrap .i64 x0) (IntKind.wrap .i64 (x1 + 1))) (List.length x2 : Int)).bind fun v9 =>
 ((law32_run m x4 v9).bind fun r10 =>
 ((accum_Join m x4 r8 r10).bind fun r11 =>
 (bif (decide (1024 < x1)) then
 law32_AccumMany_j5 m x1 x2 1024 r6 r11
 else
 law32_AccumMany_j5 m x1 x2 x1 r6 r11))))))))))))
noncomputable def law32_AccumMany_l1 (m : Nat) : Nat → Int → Int → Int → Int → Dt → Dt → List Dt → Option Bool
  | 0, _, _, _, _, _, _, _ => none
  | M1 + 1, x0, x1, x2, x3, x4, x5, x6 =>
    (bif (decide (x3 < x2)) then
    law32_AccumMany_j2 m (law32_AccumMany_l1 m M1) x0 x1 x2 x3 x4 x5 x6
  else
    law32_AccumMany_j4 m x0 x2 x6 x4 x5)
noncomputable def law32_AccumMany_j0 (m : Nat) (x0 x1 x2 x3 : Int) (x4 x5 : Dt) (x6 : List Dt) : Option Bool :=
  law32_AccumMany_l1 m (Nat.succ m) x0 x1 x2 x3 x4 x5 x6
noncomputable def law32_AccumMany : Nat → Int → Int → Int → Option Bool
  | 0, _, _, _ => none
  | m + 1, a0, a1, a2 =>
    law32_AccumMany_j0 m a1 a2 (Int.tmod (IntKind.wrap .i64 a0) 1200) 0 kz92500 kzdee71 []
end Go.Proofs.YtacpcknpliomoaaGreat
