/- Generated: what the Go functions compute, over plain data. -/
import Derived.Test.YtfneddmmeadacaaGreatDoorAmF
import Derived.Test.YtfneddmmeadacaaGreatDoorOAwake
import Derived.Test.YtfneddmmeadacaaGreatDoorOLib
import Derived.Test.YtfneddmmeadacaaGreatDoorOGrow
set_option linter.unusedVariables false
set_option linter.unusedSimpArgs false
namespace Go.Proofs.YtfneddmmeadacaaGreatDoor
open Go.Am
def kzcda49 : Dt := Dt.agg [(Dt.str (ByteArray.mk (List.toArray []))), (Dt.agg [(Dt.int 0), (Dt.int 0), (Dt.str (ByteArray.mk (List.toArray []))), (Dt.lst []), (Dt.lst [])])]
def kza2373 : Dt := Dt.agg [(Dt.int 0), (Dt.int 0), (Dt.str (ByteArray.mk (List.toArray []))), (Dt.lst []), (Dt.lst [])]
def kza2d60 : Dt := Dt.agg [(Dt.int 0), (Dt.bool Bool.false), (Dt.agg [(Dt.int 0), (Dt.int 0), (Dt.str (ByteArray.mk (List.toArray []))), (Dt.lst []), (Dt.lst [])]), (Dt.bool Bool.false), (Dt.agg [(Dt.int 0), (Dt.int 0), (Dt.str (ByteArray.mk (List.toArray []))), (Dt.lst []), (Dt.lst [])]), (Dt.lst []), (Dt.int 0), (Dt.int 0), (Dt.lst []), (Dt.lst []), (Dt.bool Bool.false), (Dt.lst []), (Dt.bool Bool.false)]
def kz8469e : Dt := Dt.agg [(Dt.int 0), (Dt.bool Bool.false), (Dt.agg [(Dt.int 0), (Dt.int 0), (Dt.str (ByteArray.mk (List.toArray []))), (Dt.lst []), (Dt.lst [])]), (Dt.bool Bool.false), (Dt.agg [(Dt.int 0), (Dt.int 0), (Dt.str (ByteArray.mk (List.toArray []))), (Dt.lst []), (Dt.lst [])]), (Dt.lst []), (Dt.int 0), (Dt.int (-1)), (Dt.lst []), (Dt.lst []), (Dt.bool Bool.false), (Dt.lst []), (Dt.bool Bool.false)]
noncomputable def ref02_count_j5 (m : Nat) (self6 : Dt → Int → Int → Option Int) (rec3 : Int → Int → Int → Dt → Option Int) (x0 x1 x2 : Int) (x3 : Dt) : Option Int :=
  rec3 x0 x1 (IntKind.wrap .i64 (x2 + 1)) x3
noncomputable def ref02_count_j4 (m : Nat) (self6 : Dt → Int → Int → Option Int) (rec3 : Int → Int → Int → Dt → Option Int) (x0 x1 x2 : Int) (x3 : Dt) : Option Int :=
  ((idx (Dt.L x3 3) x2).bind fun v0 =>
    ((self6 v0 (IntKind.wrap .i64 (x0 + 1)) x1).bind fun r1 =>
 ref02_count_j5 m self6 rec3 x0 r1 x2 x3))
noncomputable def ref02_count_j11 (m : Nat) (self6 : Dt → Int → Int → Option Int) (rec8 : Int → Int → Int → Dt → Option Int) (x0 x1 x2 : Int) (x3 : Dt) : Option Int :=
  rec8 x0 x1 (IntKind.wrap .i64 (x2 + 1)) x3
noncomputable def ref02_count_j10 (m : Nat) (self6 : Dt → Int → Int → Option Int) (rec8 : Int → Int → Int → Dt → Option Int) (x0 x1 x2 : Int) (x3 : Dt) : Option Int :=
  ((idx (Dt.L x3 4) x2).bind fun v3 =>
    ((self6 (Dt.fld v3 1) (IntKind.wrap .i64 (x0 + 1)) x1).bind fun r4 =>
 ref02_count_j11 m self6 rec8 x0 r4 x2 x3))
noncomputable def ref02_count_j9 (m : Nat) (self6 : Dt → Int → Int → Option Int) (rec8 : Int → Int → Int → Dt → Option Int) (x0 x1 x2 : Int) (x3 : Dt) : Option Int :=
  ((idx (Dt.L x3 4) x2).bind fun v2 =>
    (bif (decide (200 < (ByteArray.size (Dt.S v2 0) : Int))) then
 some (-1)
    else
 ref02_count_j10 m self6 rec8 x0 x1 x2 x3))
noncomputable def ref02_count_j12 (m : Nat) (self6 : Dt → Int → Int → Option Int) (x0 : Int) : Option Int :=
  some x0
noncomputable def ref02_count_l8 (m : Nat) (self6 : Dt → Int → Int → Option Int) : Nat → Int → Int → Int → Dt → Option Int
  | 0, _, _, _, _ => none
  | M8 + 1, x0, x1, x2, x3 =>
    (bif (decide (x2 < (List.length (Dt.L x3 4) : Int))) then
    (bif (decide (0 ≤ x1)) then
 ref02_count_j9 m self6 (ref02_count_l8 m self6 M8) x0 x1 x2 x3
    else
 ref02_count_j12 m self6 x1)
  else
    ref02_count_j12 m self6 x1)
noncomputable def ref02_count_j7 (m : Nat) (self6 : Dt → Int → Int → Option Int) (x0 x1 x2 : Int) (x3 : Dt) : Option Int :=
  ref02_count_l8 m self6 (Nat.succ m) x0 x1 x2 x3
noncomputable def ref02_count_j6 (m : Nat) (self6 : Dt → Int → Int → Option Int) (x0 x1 : Int) (x2 : Dt) : Option Int :=
  ref02_count_j7 m self6 x0 x1 0 x2
noncomputable def ref02_count_l3 (m : Nat) (self6 : Dt → Int → Int → Option Int) : Nat → Int → Int → Int → Dt → Option Int
  | 0, _, _, _, _ => none
  | M3 + 1, x0, x1, x2, x3 =>
    (bif (decide (x2 < (List.length (Dt.L x3 3) : Int))) then
    (bif (decide (0 ≤ x1)) then
 ref02_count_j4 m self6 (ref02_count_l3 m self6 M3) x0 x1 x2 x3
    else
 ref02_count_j6 m self6 x0 x1 x3)
  else
    ref02_count_j6 m self6 x0 x1 x3)
noncomputable def ref02_count_j2 (m : Nat) (self6 : Dt → Int → Int → Option Int) (x0 x1 x2 : Int) (x3 : Dt) : Option Int :=
  ref02_count_l3 m self6 (Nat.succ m) x0 x1 x2 x3
noncomputable def ref02_count_j1 (m : Nat) (self6 : Dt → Int → Int → Option Int) (x0 x1 : Int) (x2 : Dt) : Option Int :=
  ref02_count_j2 m self6 x0 x1 0 x2
noncomputable def ref02_count_j0 (m : Nat) (self6 : Dt → Int → Int → Option Int) (x0 x1 : Int) (x2 : Bool) (x3 : Dt) : Option Int :=
  (bif x2 then
    some (-1)
  else
    ref02_count_j1 m self6 x0 x1 x3)
noncomputable def ref02_count : Nat → Dt → Int → Int → Option Int
  | 0, _, _, _ => none
  | m + 1, a0, a1, a2 =>
    (bif (decide (40 < a1)) then
    ref02_count_j0 m (ref02_count m) a1 (IntKind.wrap .i64 (a2 - 1)) true a0
  else
    ref02_count_j0 m (ref02_count m) a1 (IntKind.wrap .i64 (a2 - 1)) (decide (5000 < (ByteArray.size (Dt.S a0 2) : Int))) a0)
noncomputable def ref02_Few : Nat → Dt → Int → Option Bool
  | 0, _, _ => none
  | m + 1, a0, a1 =>
    ((ref02_count m a0 1 a1).bind fun r0 =>
    some (decide (0 ≤ r0)))
noncomputable def ref01_Same_j5 (m : Nat) (self14 : Dt → Dt → Option Bool) (rec3 : Int → Dt → Dt → Option Bool) (x0 : Int) (x1 x2 : Dt) : Option Bool :=
  rec3 (IntKind.wrap .i64 (x0 + 1)) x1 x2
noncomputable def ref01_Same_j4 (m : Nat) (self14 : Dt → Dt → Option Bool) (rec3 : Int → Dt → Dt → Option Bool) (x0 : Int) (x1 x2 : Dt) : Option Bool :=
  ((idx (Dt.L x1 3) x0).bind fun v0 =>
    ((idx (Dt.L x2 3) x0).bind fun v1 =>
 ((self14 v0 v1).bind fun r2 =>
 (bif (Bool.not r2) then
 some false
 else
 ref01_Same_j5 m self14 rec3 x0 x1 x2))))
noncomputable def ref01_Same_j11 (m : Nat) (self14 : Dt → Dt → Option Bool) (rec8 : Int → Dt → Dt → Option Bool) (x0 : Int) (x1 x2 : Dt) : Option Bool :=
  rec8 (IntKind.wrap .i64 (x0 + 1)) x1 x2
noncomputable def ref01_Same_j10 (m : Nat) (self14 : Dt → Dt → Option Bool) (rec8 : Int → Dt → Dt → Option Bool) (x0 : Int) (x1 : Bool) (x2 x3 : Dt) : Option Bool :=
  (bif x1 then
    some false
  else
    ref01_Same_j11 m self14 rec8 x0 x2 x3)
noncomputable def ref01_Same_j9 (m : Nat) (self14 : Dt → Dt → Option Bool) (rec8 : Int → Dt → Dt → Option Bool) (x0 : Int) (x1 x2 : Dt) : Option Bool :=
  ((idx (Dt.L x1 4) x0).bind fun v3 =>
    ((idx (Dt.L x2 4) x0).bind fun v4 =>
 (bif (Bool.not ((ByteArray.toList (Dt.S v3 0)) == (ByteArray.toList (Dt.S v4 0)))) then
 ref01_Same_j10 m self14 rec8 x0 true x1 x2
 else
 ((idx (Dt.L x1 4) x0).bind fun v5 =>
 ((idx (Dt.L x2 4) x0).bind fun v6 =>
 ((self14 (Dt.fld v5 1) (Dt.fld v6 1)).bind fun r7 =>
 ref01_Same_j10 m self14 rec8 x0 (Bool.not r7) x1 x2))))))
noncomputable def ref01_Same_j12 (m : Nat) (self14 : Dt → Dt → Option Bool) : Option Bool :=
  some true
noncomputable def ref01_Same_l8 (m : Nat) (self14 : Dt → Dt → Option Bool) : Nat → Int → Dt → Dt → Option Bool
  | 0, _, _, _ => none
  | M8 + 1, x0, x1, x2 =>
    (bif (decide (x0 < (List.length (Dt.L x1 4) : Int))) then
    ref01_Same_j9 m self14 (ref01_Same_l8 m self14 M8) x0 x1 x2
  else
    ref01_Same_j12 m self14)
noncomputable def ref01_Same_j7 (m : Nat) (self14 : Dt → Dt → Option Bool) (x0 : Int) (x1 x2 : Dt) : Option Bool :=
  ref01_Same_l8 m self14 (Nat.succ m) x0 x1 x2
noncomputable def ref01_Same_j6 (m : Nat) (self14 : Dt → Dt → Option Bool) (x0 x1 : Dt) : Option Bool :=
  ref01_Same_j7 m self14 0 x0 x1
noncomputable def ref01_Same_l3 (m : Nat) (self14 : Dt → Dt → Option Bool) : Nat → Int → Dt → Dt → Option Bool
  | 0, _, _, _ => none
  | M3 + 1, x0, x1, x2 =>
    (bif (decide (x0 < (List.length (Dt.L x1 3) : Int))) then
    ref01_Same_j4 m self14 (ref01_Same_l3 m self14 M3) x0 x1 x2
  else
    ref01_Same_j6 m self14 x1 x2)
noncomputable def ref01_Same_j2 (m : Nat) (self14 : Dt → Dt → Option Bool) (x0 : Int) (x1 x2 : Dt) : Option Bool :=
  ref01_Same_l3 m self14 (Nat.succ m) x0 x1 x2
noncomputable def ref01_Same_j1 (m : Nat) (self14 : Dt → Dt → Option Bool) (x0 x1 : Dt) : Option Bool :=
  ref01_Same_j2 m self14 0 x0 x1
noncomputable def ref01_Same_j0 (m : Nat) (self14 : Dt → Dt → Option Bool) (x0 : Bool) (x1 x2 : Dt) : Option Bool :=
  (bif x0 then
    some false
  else
    ref01_Same_j1 m self14 x1 x2)
noncomputable def ref01_Same : Nat → Dt → Dt → Option Bool
  | 0, _, _ => none
  | m + 1, a0, a1 =>
    (bif ((Dt.I a0 0) != (Dt.I a1 0)) then
    ref01_Same_j0 m (ref01_Same m) true a0 a1
  else
    (bif ((Dt.I a0 1) != (Dt.I a1 1)) then
 ref01_Same_j0 m (ref01_Same m) true a0 a1
    else
 (bif (Bool.not ((ByteArray.toList (Dt.S a0 2)) == (ByteArray.toList (Dt.S a1 2)))) then
 ref01_Same_j0 m (ref01_Same m) true a0 a1
 else
 (bif ((List.length (Dt.L a0 3) : Int) != (List.length (Dt.L a1 3) : Int)) then
 ref01_Same_j0 m (ref01_Same m) true a0 a1
 else
 ref01_Same_j0 m (ref01_Same m) ((List.length (Dt.L a0 4) : Int) != (List.length (Dt.L a1 4) : Int)) a0 a1))))
noncomputable def ref01_SameList : Nat → List Dt → List Dt → Option Bool
  | 0, _, _ => none
  | m + 1, a0, a1 =>
    ((ref01_Same m (Dt.agg [(Dt.int 6), (Dt.int 0), (Dt.str (ByteArray.mk (List.toArray []))), (Dt.lst a0), (Dt.lst [])]) (Dt.agg [(Dt.int 6), (Dt.int 0), (Dt.str (ByteArray.mk (List.toArray []))), (Dt.lst a1), (Dt.lst [])])).bind fun r0 =>
    some r0)
noncomputable def schema_clone_j3 (m : Nat) (self18 : Dt → Option Dt) (rec1 : List Dt → Int → Int → Dt → Dt → Int → Int → ByteArray → List Dt → Option Dt) (x0 : List Dt) (x1 x2 : Int) (x3 x4 : Dt) (x5 x6 : Int) (x7 : ByteArray) (x8 : List Dt) : Option Dt :=
  rec1 x0 x1 (IntKind.wrap .i64 (x2 + 1)) x3 x4 x5 x6 x7 x8
noncomputable def schema_clone_j2 (m : Nat) (self18 : Dt → Option Dt) (rec1 : List Dt → Int → Int → Dt → Dt → Int → Int → ByteArray → List Dt → Option Dt) (x0 : List Dt) (x1 x2 : Int) (x3 x4 : Dt) (x5 x6 : Int) (x7 : ByteArray) (x8 : List Dt) : Option Dt :=
  ((idx x0 x2).bind fun v1 =>
    ((self18 v1).bind fun r2 =>
 ((inL x8 x2).bind fun v3 =>
 ((x8[(Int.toNat x2)]?).bind fun v4 =>
 schema_clone_j3 m self18 rec1 x0 x1 x2 x3 x4 x5 x6 x7 (List.set x8 (Int.toNat x2) r2)))))
noncomputable def schema_clone_j8 (m : Nat) (self18 : Dt → Option Dt) (rec6 : List Dt → Int → Int → Dt → Int → Int → ByteArray → List Dt → List Dt → Option Dt) (x0 : List Dt) (x1 x2 : Int) (x3 : Dt) (x4 x5 : Int) (x6 : ByteArray) (x7 x8 : List Dt) : Option Dt :=
  rec6 x0 x1 (IntKind.wrap .i64 (x2 + 1)) x3 x4 x5 x6 x7 x8
noncomputable def schema_clone_j7 (m : Nat) (self18 : Dt → Option Dt) (rec6 : List Dt → Int → Int → Dt → Int → Int → ByteArray → List Dt → List Dt → Option Dt) (x0 : List Dt) (x1 x2 : Int) (x3 : Dt) (x4 x5 : Int) (x6 : ByteArray) (x7 x8 : List Dt) : Option Dt :=
  ((idx x0 x2).bind fun v6 =>
    ((self18 (Dt.fld v6 1)).bind fun r7 =>
 ((inL x8 x2).bind fun v8 =>
 ((x8[(Int.toNat x2)]?).bind fun v9 =>
 schema_clone_j8 m self18 rec6 x0 x1 x2 x3 x4 x5 x6 x7 (List.set x8 (Int.toNat x2) (Dt.agg [(Dt.str (Dt.S v6 0)), r7]))))))
noncomputable def schema_clone_j9 (m : Nat) (self18 : Dt → Option Dt) (x0 : Dt) (x1 x2 : Int) (x3 : ByteArray) (x4 x5 : List Dt) : Option Dt :=
  some (Dt.agg [(Dt.int x1), (Dt.int x2), (Dt.str x3), (Dt.lst x4), (Dt.lst x5)])
noncomputable def schema_clone_l6 (m : Nat) (self18 : Dt → Option Dt) : Nat → List Dt → Int → Int → Dt → Int → Int → ByteArray → List Dt → List Dt → Option Dt
  | 0, _, _, _, _, _, _, _, _, _ => none
  | M6 + 1, x0, x1, x2, x3, x4, x5, x6, x7, x8 =>
    (bif (decide (x2 < x1)) then
    schema_clone_j7 m self18 (schema_clone_l6 m self18 M6) x0 x1 x2 x3 x4 x5 x6 x7 x8
  else
    schema_clone_j9 m self18 x3 x4 x5 x6 x7 x8)
noncomputable def schema_clone_j5 (m : Nat) (self18 : Dt → Option Dt) (x0 : List Dt) (x1 x2 : Int) (x3 : Dt) (x4 x5 : Int) (x6 : ByteArray) (x7 x8 : List Dt) : Option Dt :=
  schema_clone_l6 m self18 (Nat.succ m) x0 x1 x2 x3 x4 x5 x6 x7 x8
noncomputable def schema_clone_j10 (m : Nat) (self18 : Dt → Option Dt) (x0 : Dt) (x1 x2 : Int) (x3 : ByteArray) (x4 : List Dt) : Option Dt :=
  some (Dt.agg [(Dt.int x1), (Dt.int x2), (Dt.str x3), (Dt.lst x4), (Dt.lst [])])
noncomputable def schema_clone_j4 (m : Nat) (self18 : Dt → Option Dt) (x0 x1 : Dt) (x2 x3 : Int) (x4 : ByteArray) (x5 : List Dt) : Option Dt :=
  (bif (decide (0 < (List.length (Dt.L x0 4) : Int))) then
    ((mkL (List.length (Dt.L x0 4) : Int) (List.length (Dt.L x0 4) : Int) kzcda49).bind fun v5 =>
 schema_clone_j5 m self18 (Dt.L x0 4) (List.length (Dt.L x0 4) : Int) 0 x1 x2 x3 x4 x5 v5)
  else
    schema_clone_j10 m self18 x1 x2 x3 x4 x5)
noncomputable def schema_clone_l1 (m : Nat) (self18 : Dt → Option Dt) : Nat → List Dt → Int → Int → Dt → Dt → Int → Int → ByteArray → List Dt → Option Dt
  | 0, _, _, _, _, _, _, _, _, _ => none
  | M1 + 1, x0, x1, x2, x3, x4, x5, x6, x7, x8 =>
    (bif (decide (x2 < x1)) then
    schema_clone_j2 m self18 (schema_clone_l1 m self18 M1) x0 x1 x2 x3 x4 x5 x6 x7 x8
  else
    schema_clone_j4 m self18 x3 x4 x5 x6 x7 x8)
noncomputable def schema_clone_j0 (m : Nat) (self18 : Dt → Option Dt) (x0 : List Dt) (x1 x2 : Int) (x3 x4 : Dt) (x5 x6 : Int) (x7 : ByteArray) (x8 : List Dt) : Option Dt :=
  schema_clone_l1 m self18 (Nat.succ m) x0 x1 x2 x3 x4 x5 x6 x7 x8
noncomputable def schema_clone_j15 (m : Nat) (self18 : Dt → Option Dt) (rec13 : List Dt → Int → Int → Dt → Int → Int → ByteArray → List Dt → List Dt → Option Dt) (x0 : List Dt) (x1 x2 : Int) (x3 : Dt) (x4 x5 : Int) (x6 : ByteArray) (x7 x8 : List Dt) : Option Dt :=
  rec13 x0 x1 (IntKind.wrap .i64 (x2 + 1)) x3 x4 x5 x6 x7 x8
noncomputable def schema_clone_j14 (m : Nat) (self18 : Dt → Option Dt) (rec13 : List Dt → Int → Int → Dt → Int → Int → ByteArray → List Dt → List Dt → Option Dt) (x0 : List Dt) (x1 x2 : Int) (x3 : Dt) (x4 x5 : Int) (x6 : ByteArray) (x7 x8 : List Dt) : Option Dt :=
  ((idx x0 x2).bind fun v11 =>
    ((self18 (Dt.fld v11 1)).bind fun r12 =>
 ((inL x8 x2).bind fun v13 =>
 ((x8[(Int.toNat x2)]?).bind fun v14 =>
 schema_clone_j15 m self18 rec13 x0 x1 x2 x3 x4 x5 x6 x7 (List.set x8 (Int.toNat x2) (Dt.agg [(Dt.str (Dt.S v11 0)), r12]))))))
noncomputable def schema_clone_j16 (m : Nat) (self18 : Dt → Option Dt) (x0 : Dt) (x1 x2 : Int) (x3 : ByteArray) (x4 x5 : List Dt) : Option Dt :=
  some (Dt.agg [(Dt.int x1), (Dt.int x2), (Dt.str x3), (Dt.lst x4), (Dt.lst x5)])
noncomputable def schema_clone_l13 (m : Nat) (self18 : Dt → Option Dt) : Nat → List Dt → Int → Int → Dt → Int → Int → ByteArray → List Dt → List Dt → Option Dt
  | 0, _, _, _, _, _, _, _, _, _ => none
  | M13 + 1, x0, x1, x2, x3, x4, x5, x6, x7, x8 =>
    (bif (decide (x2 < x1)) then
    schema_clone_j14 m self18 (schema_clone_l13 m self18 M13) x0 x1 x2 x3 x4 x5 x6 x7 x8
  else
    schema_clone_j16 m self18 x3 x4 x5 x6 x7 x8)
noncomputable def schema_clone_j12 (m : Nat) (self18 : Dt → Option Dt) (x0 : List Dt) (x1 x2 : Int) (x3 : Dt) (x4 x5 : Int) (x6 : ByteArray) (x7 x8 : List Dt) : Option Dt :=
  schema_clone_l13 m self18 (Nat.succ m) x0 x1 x2 x3 x4 x5 x6 x7 x8
noncomputable def schema_clone_j17 (m : Nat) (self18 : Dt → Option Dt) (x0 x1 : Dt) : Option Dt :=
  some x1
noncomputable def schema_clone_j11 (m : Nat) (self18 : Dt → Option Dt) (x0 x1 x2 : Dt) : Option Dt :=
  (bif (decide (0 < (List.length (Dt.L x0 4) : Int))) then
    ((mkL (List.length (Dt.L x0 4) : Int) (List.length (Dt.L x0 4) : Int) kzcda49).bind fun v10 =>
 schema_clone_j12 m self18 (Dt.L x0 4) (List.length (Dt.L x0 4) : Int) 0 x1 (Dt.I x2 0) (Dt.I x2 1) (Dt.S x2 2) (Dt.L x2 3) v10)
  else
    schema_clone_j17 m self18 x1 x2)
noncomputable def schema_clone : Nat → Dt → Option Dt
  | 0, _ => none
  | m + 1, a0 =>
    (bif (decide (0 < (List.length (Dt.L a0 3) : Int))) then
    ((mkL (List.length (Dt.L a0 3) : Int) (List.length (Dt.L a0 3) : Int) kza2373).bind fun v0 =>
 schema_clone_j0 m (schema_clone m) (Dt.L a0 3) (List.length (Dt.L a0 3) : Int) 0 a0 kza2373 (Dt.I a0 0) (Dt.I a0 1) (Dt.S a0 2) v0)
  else
    schema_clone_j11 m (schema_clone m) a0 kza2373 (Dt.agg [(Dt.int (Dt.I a0 0)), (Dt.int (Dt.I a0 1)), (Dt.str (Dt.S a0 2)), (Dt.lst []), (Dt.lst [])]))
noncomputable def schema_parseNames_j5 (m : Nat) (rec2 : List Dt → Int → Int → List Dt → Option (List Dt × Bool)) (x0 : List Dt) (x1 x2 : Int) (x3 : List Dt) : Option (List Dt × Bool) :=
  rec2 x0 x1 (IntKind.wrap .i64 (x2 + 1)) x3
noncomputable def schema_parseNames_j4 (m : Nat) (rec2 : List Dt → Int → Int → List Dt → Option (List Dt × Bool)) (x0 : List Dt) (x1 x2 : Int) (x3 : List Dt) (x4 : Dt) : Option (List Dt × Bool) :=
  ((app x3 [(Dt.str (Dt.S x4 2))]).bind fun v1 =>
    schema_parseNames_j5 m rec2 x0 x1 x2 v1)
noncomputable def schema_parseNames_j3 (m : Nat) (rec2 : List Dt → Int → Int → List Dt → Option (List Dt × Bool)) (x0 : List Dt) (x1 x2 : Int) (x3 : List Dt) : Option (List Dt × Bool) :=
  ((idx x0 x2).bind fun v0 =>
    (bif ((Dt.I v0 0) != 4) then
 some ([], false)
    else
 schema_parseNames_j4 m rec2 x0 x1 x2 x3 v0))
noncomputable def schema_parseNames_j6 (m : Nat) (x0 : List Dt) : Option (List Dt × Bool) :=
  some (x0, true)
noncomputable def schema_parseNames_l2 (m : Nat) : Nat → List Dt → Int → Int → List Dt → Option (List Dt × Bool)
  | 0, _, _, _, _ => none
  | M2 + 1, x0, x1, x2, x3 =>
    (bif (decide (x2 < x1)) then
    schema_parseNames_j3 m (schema_parseNames_l2 m M2) x0 x1 x2 x3
  else
    schema_parseNames_j6 m x3)
noncomputable def schema_parseNames_j1 (m : Nat) (x0 : List Dt) (x1 x2 : Int) (x3 : List Dt) : Option (List Dt × Bool) :=
  schema_parseNames_l2 m (Nat.succ m) x0 x1 x2 x3
noncomputable def schema_parseNames_j0 (m : Nat) (x0 : Dt) : Option (List Dt × Bool) :=
  schema_parseNames_j1 m (Dt.L x0 3) (List.length (Dt.L x0 3) : Int) 0 []
noncomputable def schema_parseNames : Nat → Dt → Option (List Dt × Bool)
  | 0, _ => none
  | m + 1, a0 =>
    (bif ((Dt.I a0 0) != 6) then
    some ([], false)
  else
    schema_parseNames_j0 m a0)
noncomputable def ref04_prefix_j4 (m : Nat) (rec2 : List Dt → List Dt → Int → Option Bool) (x0 x1 : List Dt) (x2 : Int) : Option Bool :=
  rec2 x0 x1 (IntKind.wrap .i64 (x2 + 1))
noncomputable def ref04_prefix_j3 (m : Nat) (rec2 : List Dt → List Dt → Int → Option Bool) (x0 x1 : List Dt) (x2 : Int) : Option Bool :=
  ((idx x0 x2).bind fun v0 =>
    ((idx x1 x2).bind fun v1 =>
 (bif (Bool.not ((ByteArray.toList (Dt.toStr v0)) == (ByteArray.toList (Dt.toStr v1)))) then
 some false
 else
 ref04_prefix_j4 m rec2 x0 x1 x2)))
noncomputable def ref04_prefix_j5 (m : Nat) : Option Bool :=
  some true
noncomputable def ref04_prefix_l2 (m : Nat) : Nat → List Dt → List Dt → Int → Option Bool
  | 0, _, _, _ => none
  | M2 + 1, x0, x1, x2 =>
    (bif (decide (x2 < (List.length x0 : Int))) then
    ref04_prefix_j3 m (ref04_prefix_l2 m M2) x0 x1 x2
  else
    ref04_prefix_j5 m)
noncomputable def ref04_prefix_j1 (m : Nat) (x0 x1 : List Dt) (x2 : Int) : Option Bool :=
  ref04_prefix_l2 m (Nat.succ m) x0 x1 x2
noncomputable def ref04_prefix_j0 (m : Nat) (x0 x1 : List Dt) : Option Bool :=
  ref04_prefix_j1 m x0 x1 0
noncomputable def ref04_prefix : Nat → List Dt → List Dt → Option Bool
  | 0, _, _ => none
  | m + 1, a0, a1 =>
    (bif (decide ((List.length a1 : Int) < (List.length a0 : Int))) then
    some false
  else
    ref04_prefix_j0 m a0 a1)
noncomputable def ref04_Same : Nat → List Dt → List Dt → Option Bool
  | 0, _, _ => none
  | m + 1, a0, a1 =>
    (bif ((List.length a0 : Int) == (List.length a1 : Int)) then
    ((ref04_prefix m a0 a1).bind fun r0 =>
 some r0)
  else
    some false)
noncomputable def ref14_Same_j8 (m : Nat) (self5 : Dt → Dt → Option Bool) (rec5 : Int → Dt → Dt → Option Bool) (x0 : Int) (x1 x2 : Dt) : Option Bool :=
  rec5 (IntKind.wrap .i64 (x0 + 1)) x1 x2
noncomputable def ref14_Same_j7 (m : Nat) (self5 : Dt → Dt → Option Bool) (rec5 : Int → Dt → Dt → Option Bool) (x0 : Int) (x1 : Bool) (x2 x3 : Dt) : Option Bool :=
  (bif x1 then
    some false
  else
    ref14_Same_j8 m self5 rec5 x0 x2 x3)
noncomputable def ref14_Same_j6 (m : Nat) (self5 : Dt → Dt → Option Bool) (rec5 : Int → Dt → Dt → Option Bool) (x0 : Int) (x1 x2 : Dt) : Option Bool :=
  ((idx (Dt.L x1 9) x0).bind fun v0 =>
    ((idx (Dt.L x2 9) x0).bind fun v1 =>
 (bif (Bool.not ((ByteArray.toList (Dt.S v0 0)) == (ByteArray.toList (Dt.S v1 0)))) then
 ref14_Same_j7 m self5 rec5 x0 true x1 x2
 else
 ((idx (Dt.L x1 9) x0).bind fun v2 =>
 ((idx (Dt.L x2 9) x0).bind fun v3 =>
 ((self5 (Dt.fld v2 1) (Dt.fld v3 1)).bind fun r4 =>
 ref14_Same_j7 m self5 rec5 x0 (Bool.not r4) x1 x2))))))
noncomputable def ref14_Same_j13 (m : Nat) (self5 : Dt → Dt → Option Bool) (rec11 : Int → Dt → Dt → Option Bool) (x0 : Int) (x1 x2 : Dt) : Option Bool :=
  rec11 (IntKind.wrap .i64 (x0 + 1)) x1 x2
noncomputable def ref14_Same_j12 (m : Nat) (self5 : Dt → Dt → Option Bool) (rec11 : Int → Dt → Dt → Option Bool) (x0 : Int) (x1 x2 : Dt) : Option Bool :=
  ((idx (Dt.L x1 11) x0).bind fun v5 =>
    ((idx (Dt.L x2 11) x0).bind fun v6 =>
 ((self5 v5 v6).bind fun r7 =>
 (bif (Bool.not r7) then
 some false
 else
 ref14_Same_j13 m self5 rec11 x0 x1 x2))))
noncomputable def ref14_Same_j14 (m : Nat) (self5 : Dt → Dt → Option Bool) : Option Bool :=
  some true
noncomputable def ref14_Same_l11 (m : Nat) (self5 : Dt → Dt → Option Bool) : Nat → Int → Dt → Dt → Option Bool
  | 0, _, _, _ => none
  | M11 + 1, x0, x1, x2 =>
    (bif (decide (x0 < (List.length (Dt.L x1 11) : Int))) then
    ref14_Same_j12 m self5 (ref14_Same_l11 m self5 M11) x0 x1 x2
  else
    ref14_Same_j14 m self5)
noncomputable def ref14_Same_j10 (m : Nat) (self5 : Dt → Dt → Option Bool) (x0 : Int) (x1 x2 : Dt) : Option Bool :=
  ref14_Same_l11 m self5 (Nat.succ m) x0 x1 x2
noncomputable def ref14_Same_j9 (m : Nat) (self5 : Dt → Dt → Option Bool) (x0 x1 : Dt) : Option Bool :=
  ref14_Same_j10 m self5 0 x0 x1
noncomputable def ref14_Same_l5 (m : Nat) (self5 : Dt → Dt → Option Bool) : Nat → Int → Dt → Dt → Option Bool
  | 0, _, _, _ => none
  | M5 + 1, x0, x1, x2 =>
    (bif (decide (x0 < (List.length (Dt.L x1 9) : Int))) then
    ref14_Same_j6 m self5 (ref14_Same_l5 m self5 M5) x0 x1 x2
  else
    ref14_Same_j9 m self5 x1 x2)
noncomputable def ref14_Same_j4 (m : Nat) (self5 : Dt → Dt → Option Bool) (x0 : Int) (x1 x2 : Dt) : Option Bool :=
  ref14_Same_l5 m self5 (Nat.succ m) x0 x1 x2
noncomputable def ref14_Same_j3 (m : Nat) (self5 : Dt → Dt → Option Bool) (x0 x1 : Dt) : Option Bool :=
  ref14_Same_j4 m self5 0 x0 x1
noncomputable def ref14_Same_j2 (m : Nat) (self5 : Dt → Dt → Option Bool) (x0 : Bool) (x1 x2 : Dt) : Option Bool :=
  (bif x0 then
    some false
  else
    ref14_Same_j3 m self5 x1 x2)
noncomputable def ref14_Same_j1 (m : Nat) (self5 : Dt → Dt → Option Bool) (x0 x1 : Dt) : Option Bool :=
  (bif ((Dt.I x0 6) != (Dt.I x1 6)) then
    ref14_Same_j2 m self5 true x0 x1
  else
    (bif ((Dt.I x0 7) != (Dt.I x1 7)) then
 ref14_Same_j2 m self5 true x0 x1
    else
 (bif (Bool.not ((Dt.B x0 10) == (Dt.B x1 10))) then
 ref14_Same_j2 m self5 true x0 x1
 else
 (bif (Bool.not ((Dt.B x0 12) == (Dt.B x1 12))) then
 ref14_Same_j2 m self5 true x0 x1
 else
 ((ref04_Same m (Dt.L x0 8) (Dt.L x1 8)).bind fun r8 =>
 (bif (Bool.not r8) then
 ref14_Same_j2 m self5 true x0 x1
 else
 (bif ((List.length (Dt.L x0 9) : Int) != (List.length (Dt.L x1 9) : Int)) then
 ref14_Same_j2 m self5 true x0 x1
 else
 ref14_Same_j2 m self5 ((List.length (Dt.L x0 11) : Int) != (List.length (Dt.L x1 11) : Int)) x0 x1)))))))
noncomputable def ref14_Same_j0 (m : Nat) (self5 : Dt → Dt → Option Bool) (x0 : Bool) (x1 x2 : Dt) : Option Bool :=
  (bif x0 then
    some false
  else
    ref14_Same_j1 m self5 x1 x2)
noncomputable def ref14_Same : Nat → Dt → Dt → Option Bool
  | 0, _, _ => none
  | m + 1, a0, a1 =>
    (bif ((Dt.I a0 0) != (Dt.I a1 0)) then
    ref14_Same_j0 m (ref14_Same m) true a0 a1
  else
    (bif (Bool.not ((Dt.B a0 1) == (Dt.B a1 1))) then
 ref14_Same_j0 m (ref14_Same m) true a0 a1
    else
 (bif (Bool.not ((Dt.B a0 3) == (Dt.B a1 3))) then
 ref14_Same_j0 m (ref14_Same m) true a0 a1
 else
 ((ref01_Same m (Dt.fld a0 2) (Dt.fld a1 2)).bind fun r9 =>
 (bif (Bool.not r9) then
 ref14_Same_j0 m (ref14_Same m) true a0 a1
 else
 ((ref01_Same m (Dt.fld a0 4) (Dt.fld a1 4)).bind fun r10 =>
 (bif (Bool.not r10) then
 ref14_Same_j0 m (ref14_Same m) true a0 a1
 else
 ((ref01_SameList m (Dt.L a0 5) (Dt.L a1 5)).bind fun r11 =>
 ref14_Same_j0 m (ref14_Same m) (Bool.not r11) a0 a1))))))))
noncomputable def schema_kindOf_j4 (m : Nat) (rec2 : Int → Dt → Option Int) (x0 : Int) (x1 : Dt) : Option Int :=
  rec2 (IntKind.wrap .i64 (x0 + 1)) x1
noncomputable def schema_kindOf_j3 (m : Nat) (rec2 : Int → Dt → Option Int) (x0 : Int) (x1 : Dt) : Option Int :=
  ((idx [(Dt.str (ByteArray.mk (List.toArray [109, 105, 110]))), (Dt.str (ByteArray.mk (List.toArray [110, 117, 108, 108]))), (Dt.str (ByteArray.mk (List.toArray [105, 110, 116]))), (Dt.str (ByteArray.mk (List.toArray [116, 101, 120, 116]))), (Dt.str (ByteArray.mk (List.toArray [100, 111, 99]))), (Dt.str (ByteArray.mk (List.toArray [108, 105, 115, 116]))), (Dt.str (ByteArray.mk (List.toArray [98, 121, 116, 101, 115]))), (Dt.str (ByteArray.mk (List.toArray [105, 100]))), (Dt.str (ByteArray.mk (List.toArray [98, 111, 111, 108]))), (Dt.str (ByteArray.mk (List.toArray [116, 105, 109, 101]))), (Dt.str (ByteArray.mk (List.toArray [109, 97, 120])))] x0).bind fun v0 =>
    (bif ((ByteArray.toList (Dt.toStr v0)) == (ByteArray.toList (Dt.S x1 2))) then
 some (IntKind.wrap .i64 (x0 + 1))
    else
 schema_kindOf_j4 m rec2 x0 x1))
noncomputable def schema_kindOf_j5 (m : Nat) : Option Int :=
  some 0
noncomputable def schema_kindOf_l2 (m : Nat) : Nat → Int → Dt → Option Int
  | 0, _, _ => none
  | M2 + 1, x0, x1 =>
    (bif (decide (x0 < 11)) then
    schema_kindOf_j3 m (schema_kindOf_l2 m M2) x0 x1
  else
    schema_kindOf_j5 m)
noncomputable def schema_kindOf_j1 (m : Nat) (x0 : Int) (x1 : Dt) : Option Int :=
  schema_kindOf_l2 m (Nat.succ m) x0 x1
noncomputable def schema_kindOf_j0 (m : Nat) (x0 : Dt) : Option Int :=
  schema_kindOf_j1 m 0 x0
noncomputable def schema_kindOf : Nat → Dt → Option Int
  | 0, _ => none
  | m + 1, a0 =>
    (bif ((Dt.I a0 0) != 4) then
    some 0
  else
    schema_kindOf_j0 m a0)
noncomputable def schema_parseKinds_j5 (m : Nat) (rec2 : List Dt → Int → List Dt → Int → Int → Option (Int × Bool)) (x0 : List Dt) (x1 : Int) (x2 : List Dt) (x3 x4 : Int) : Option (Int × Bool) :=
  rec2 x0 x1 x2 x3 (IntKind.wrap .i64 (x4 + 1))
noncomputable def schema_parseKinds_j4 (m : Nat) (rec2 : List Dt → Int → List Dt → Int → Int → Option (Int × Bool)) (x0 : List Dt) (x1 x2 : Int) (x3 : List Dt) (x4 x5 : Int) : Option (Int × Bool) :=
  (bif (decide (0 ≤ x2)) then
    schema_parseKinds_j5 m rec2 x0 (orI IntKind.i64 x1 (shlI IntKind.i64 1 x2)) x3 x4 x5
  else
    none)
noncomputable def schema_parseKinds_j3 (m : Nat) (rec2 : List Dt → Int → List Dt → Int → Int → Option (Int × Bool)) (x0 : List Dt) (x1 : Int) (x2 : List Dt) (x3 x4 : Int) : Option (Int × Bool) :=
  ((idx x2 x4).bind fun v0 =>
    ((schema_kindOf m v0).bind fun r1 =>
 (bif (r1 == 0) then
 some (0, false)
 else
 schema_parseKinds_j4 m rec2 x0 x1 r1 x2 x3 x4)))
noncomputable def schema_parseKinds_j6 (m : Nat) (x0 : List Dt) (x1 : Int) : Option (Int × Bool) :=
  some (x1, (decide (0 < (List.length x0 : Int))))
noncomputable def schema_parseKinds_l2 (m : Nat) : Nat → List Dt → Int → List Dt → Int → Int → Option (Int × Bool)
  | 0, _, _, _, _, _ => none
  | M2 + 1, x0, x1, x2, x3, x4 =>
    (bif (decide (x4 < x3)) then
    schema_parseKinds_j3 m (schema_parseKinds_l2 m M2) x0 x1 x2 x3 x4
  else
    schema_parseKinds_j6 m x0 x1)
noncomputable def schema_parseKinds_j1 (m : Nat) (x0 : List Dt) (x1 : Int) (x2 : List Dt) (x3 x4 : Int) : Option (Int × Bool) :=
  schema_parseKinds_l2 m (Nat.succ m) x0 x1 x2 x3 x4
noncomputable def schema_parseKinds_j0 (m : Nat) (x0 : List Dt) : Option (Int × Bool) :=
  schema_parseKinds_j1 m x0 0 x0 (List.length x0 : Int) 0
noncomputable def schema_parseKinds : Nat → Dt → Option (Int × Bool)
  | 0, _ => none
  | m + 1, a0 =>
    (bif ((Dt.I a0 0) == 6) then
    schema_parseKinds_j0 m (Dt.L a0 3)
  else
    schema_parseKinds_j0 m [a0])
noncomputable def schema_parse_j4 (m : Nat) (self16 : ByteArray → Dt → Dt → Option (Bool × Dt)) (rec2 : List Dt → Int → Int → Dt → Dt → Option (Dt × Bool)) (x0 : List Dt) (x1 x2 : Int) (x3 x4 : Dt) : Option (Dt × Bool) :=
  rec2 x0 x1 (IntKind.wrap .i64 (x2 + 1)) x3 x4
noncomputable def schema_parse_j3 (m : Nat) (self16 : ByteArray → Dt → Dt → Option (Bool × Dt)) (rec2 : List Dt → Int → Int → Dt → Dt → Option (Dt × Bool)) (x0 : List Dt) (x1 x2 : Int) (x3 x4 : Dt) : Option (Dt × Bool) :=
  ((idx x0 x2).bind fun v0 =>
    ((self16 (Dt.S v0 0) (Dt.fld v0 1) x4).bind fun r1 =>
 (bif (Bool.not r1.1) then
 some (kza2d60, false)
 else
 schema_parse_j4 m self16 rec2 x0 x1 x2 x3 r1.2)))
noncomputable def schema_parse_j5 (m : Nat) (self16 : ByteArray → Dt → Dt → Option (Bool × Dt)) (x0 x1 : Dt) : Option (Dt × Bool) :=
  some (x1, true)
noncomputable def schema_parse_l2 (m : Nat) (self16 : ByteArray → Dt → Dt → Option (Bool × Dt)) : Nat → List Dt → Int → Int → Dt → Dt → Option (Dt × Bool)
  | 0, _, _, _, _, _ => none
  | M2 + 1, x0, x1, x2, x3, x4 =>
    (bif (decide (x2 < x1)) then
    schema_parse_j3 m self16 (schema_parse_l2 m self16 M2) x0 x1 x2 x3 x4
  else
    schema_parse_j5 m self16 x3 x4)
noncomputable def schema_parse_j1 (m : Nat) (self16 : ByteArray → Dt → Dt → Option (Bool × Dt)) (x0 : List Dt) (x1 x2 : Int) (x3 x4 : Dt) : Option (Dt × Bool) :=
  schema_parse_l2 m self16 (Nat.succ m) x0 x1 x2 x3 x4
noncomputable def schema_parse_j0 (m : Nat) (self16 : ByteArray → Dt → Dt → Option (Bool × Dt)) (x0 x1 x2 : Dt) : Option (Dt × Bool) :=
  schema_parse_j1 m self16 (Dt.L x0 4) (List.length (Dt.L x0 4) : Int) 0 x1 x2
noncomputable def i16_j0 (m : Nat) (self7 : Dt → Option (Dt × Bool)) (self20 : Dt → Option (List Dt × Bool)) (x0 : Bool) (x1 : Dt) : Option (Bool × Dt) :=
  some (x0, x1)
noncomputable def schema_parseProps_j5 (m : Nat) (self7 : Dt → Option (Dt × Bool)) (rec2 : List Dt → Int → Int → List Dt → Option (List Dt × Bool)) (x0 : List Dt) (x1 x2 : Int) (x3 : List Dt) : Option (List Dt × Bool) :=
  rec2 x0 x1 (IntKind.wrap .i64 (x2 + 1)) x3
noncomputable def schema_parseProps_j4 (m : Nat) (self7 : Dt → Option (Dt × Bool)) (rec2 : List Dt → Int → Int → List Dt → Option (List Dt × Bool)) (x0 : List Dt) (x1 x2 : Int) (x3 : List Dt) (x4 x5 : Dt) : Option (List Dt × Bool) :=
  ((app x3 [(Dt.agg [(Dt.str (Dt.S x4 0)), x5])]).bind fun v2 =>
    schema_parseProps_j5 m self7 rec2 x0 x1 x2 v2)
noncomputable def schema_parseProps_j3 (m : Nat) (self7 : Dt → Option (Dt × Bool)) (rec2 : List Dt → Int → Int → List Dt → Option (List Dt × Bool)) (x0 : List Dt) (x1 x2 : Int) (x3 : List Dt) : Option (List Dt × Bool) :=
  ((idx x0 x2).bind fun v0 =>
    ((self7 (Dt.fld v0 1)).bind fun r1 =>
 (bif (Bool.not r1.2) then
 some ([], false)
 else
 schema_parseProps_j4 m self7 rec2 x0 x1 x2 x3 v0 r1.1)))
noncomputable def schema_parseProps_j6 (m : Nat) (self7 : Dt → Option (Dt × Bool)) (x0 : List Dt) : Option (List Dt × Bool) :=
  some (x0, true)
noncomputable def schema_parseProps_l2 (m : Nat) (self7 : Dt → Option (Dt × Bool)) : Nat → List Dt → Int → Int → List Dt → Option (List Dt × Bool)
  | 0, _, _, _, _ => none
  | M2 + 1, x0, x1, x2, x3 =>
    (bif (decide (x2 < x1)) then
    schema_parseProps_j3 m self7 (schema_parseProps_l2 m self7 M2) x0 x1 x2 x3
  else
    schema_parseProps_j6 m self7 x3)
noncomputable def schema_parseProps_j1 (m : Nat) (self7 : Dt → Option (Dt × Bool)) (x0 : List Dt) (x1 x2 : Int) (x3 : List Dt) : Option (List Dt × Bool) :=
  schema_parseProps_l2 m self7 (Nat.succ m) x0 x1 x2 x3
noncomputable def schema_parseProps_j0 (m : Nat) (self7 : Dt → Option (Dt × Bool)) (x0 : Dt) : Option (List Dt × Bool) :=
  schema_parseProps_j1 m self7 (Dt.L x0 4) (List.length (Dt.L x0 4) : Int) 0 []
mutual
noncomputable def schema_parse : Nat → Dt → Option (Dt × Bool)
  | 0, _ => none
  | m + 1, a0 =>
    (bif ((Dt.I a0 0) != 5) then
    some (kza2d60, false)
  else
    schema_parse_j0 m (i16 m) a0 kza2d60 kz8469e)
noncomputable def i16 : Nat → ByteArray → Dt → Dt → Option (Bool × Dt)
  | 0, _, _, _ => none
  | m + 1, a0, a1, a2 =>
    (bif ((ByteArray.toList a0) == [107, 105, 110, 100]) then
    ((schema_parseKinds m a1).bind fun r0 =>
 i16_j0 m (schema_parse m) (schema_parseProps m) r0.2 (Dt.agg [(Dt.int r0.1), (Dt.bool (Dt.B a2 1)), (Dt.fld a2 2), (Dt.bool (Dt.B a2 3)), (Dt.fld a2 4), (Dt.lst (Dt.L a2 5)), (Dt.int (Dt.I a2 6)), (Dt.int (Dt.I a2 7)), (Dt.lst (Dt.L a2 8)), (Dt.lst (Dt.L a2 9)), (Dt.bool (Dt.B a2 10)), (Dt.lst (Dt.L a2 11)), (Dt.bool (Dt.B a2 12))]))
  else
    (bif ((ByteArray.toList a0) == [109, 105, 110]) then
 ((schema_clone m a1).bind fun r1 =>
 i16_j0 m (schema_parse m) (schema_parseProps m) true (Dt.agg [(Dt.int (Dt.I a2 0)), (Dt.bool true), r1, (Dt.bool (Dt.B a2 3)), (Dt.fld a2 4), (Dt.lst (Dt.L a2 5)), (Dt.int (Dt.I a2 6)), (Dt.int (Dt.I a2 7)), (Dt.lst (Dt.L a2 8)), (Dt.lst (Dt.L a2 9)), (Dt.bool (Dt.B a2 10)), (Dt.lst (Dt.L a2 11)), (Dt.bool (Dt.B a2 12))]))
    else
 (bif ((ByteArray.toList a0) == [109, 97, 120]) then
 ((schema_clone m a1).bind fun r2 =>
 i16_j0 m (schema_parse m) (schema_parseProps m) true (Dt.agg [(Dt.int (Dt.I a2 0)), (Dt.bool (Dt.B a2 1)), (Dt.fld a2 2), (Dt.bool true), r2, (Dt.lst (Dt.L a2 5)), (Dt.int (Dt.I a2 6)), (Dt.int (Dt.I a2 7)), (Dt.lst (Dt.L a2 8)), (Dt.lst (Dt.L a2 9)), (Dt.bool (Dt.B a2 10)), (Dt.lst (Dt.L a2 11)), (Dt.bool (Dt.B a2 12))]))
 else
 (bif ((ByteArray.toList a0) == [101, 110, 117, 109]) then
 ((schema_clone m a1).bind fun r3 =>
 i16_j0 m (schema_parse m) (schema_parseProps m) ((Dt.I a1 0) == 6) (Dt.agg [(Dt.int (Dt.I a2 0)), (Dt.bool (Dt.B a2 1)), (Dt.fld a2 2), (Dt.bool (Dt.B a2 3)), (Dt.fld a2 4), (Dt.lst (Dt.L r3 3)), (Dt.int (Dt.I a2 6)), (Dt.int (Dt.I a2 7)), (Dt.lst (Dt.L a2 8)), (Dt.lst (Dt.L a2 9)), (Dt.bool (Dt.B a2 10)), (Dt.lst (Dt.L a2 11)), (Dt.bool (Dt.B a2 12))]))
 else
 (bif ((ByteArray.toList a0) == [109, 105, 110, 76, 101, 110]) then
 i16_j0 m (schema_parse m) (schema_parseProps m) ((Dt.I a1 0) == 3) (Dt.agg [(Dt.int (Dt.I a2 0)), (Dt.bool (Dt.B a2 1)), (Dt.fld a2 2), (Dt.bool (Dt.B a2 3)), (Dt.fld a2 4), (Dt.lst (Dt.L a2 5)), (Dt.int (Dt.I a1 1)), (Dt.int (Dt.I a2 7)), (Dt.lst (Dt.L a2 8)), (Dt.lst (Dt.L a2 9)), (Dt.bool (Dt.B a2 10)), (Dt.lst (Dt.L a2 11)), (Dt.bool (Dt.B a2 12))])
 else
 (bif ((ByteArray.toList a0) == [109, 97, 120, 76, 101, 110]) then
 i16_j0 m (schema_parse m) (schema_parseProps m) ((Dt.I a1 0) == 3) (Dt.agg [(Dt.int (Dt.I a2 0)), (Dt.bool (Dt.B a2 1)), (Dt.fld a2 2), (Dt.bool (Dt.B a2 3)), (Dt.fld a2 4), (Dt.lst (Dt.L a2 5)), (Dt.int (Dt.I a2 6)), (Dt.int (Dt.I a1 1)), (Dt.lst (Dt.L a2 8)), (Dt.lst (Dt.L a2 9)), (Dt.bool (Dt.B a2 10)), (Dt.lst (Dt.L a2 11)), (Dt.bool (Dt.B a2 12))])
 else
 (bif ((ByteArray.toList a0) == [114, 101, 113, 117, 105, 114, 101, 100]) then
 ((schema_parseNames m a1).bind fun r4 =>
 i16_j0 m (schema_parse m) (schema_parseProps m) r4.2 (Dt.agg [(Dt.int (Dt.I a2 0)), (Dt.bool (Dt.B a2 1)), (Dt.fld a2 2), (Dt.bool (Dt.B a2 3)), (Dt.fld a2 4), (Dt.lst (Dt.L a2 5)), (Dt.int (Dt.I a2 6)), (Dt.int (Dt.I a2 7)), (Dt.lst r4.1), (Dt.lst (Dt.L a2 9)), (Dt.bool (Dt.B a2 10)), (Dt.lst (Dt.L a2 11)), (Dt.bool (Dt.B a2 12))]))
 else
 (bif ((ByteArray.toList a0) == [112, 114, 111, 112, 115]) then
 ((schema_parseProps m a1).bind fun r5 =>
 i16_j0 m (schema_parse m) (schema_parseProps m) r5.2 (Dt.agg [(Dt.int (Dt.I a2 0)), (Dt.bool (Dt.B a2 1)), (Dt.fld a2 2), (Dt.bool (Dt.B a2 3)), (Dt.fld a2 4), (Dt.lst (Dt.L a2 5)), (Dt.int (Dt.I a2 6)), (Dt.int (Dt.I a2 7)), (Dt.lst (Dt.L a2 8)), (Dt.lst r5.1), (Dt.bool (Dt.B a2 10)), (Dt.lst (Dt.L a2 11)), (Dt.bool (Dt.B a2 12))]))
 else
 (bif ((ByteArray.toList a0) == [99, 108, 111, 115, 101, 100]) then
 i16_j0 m (schema_parse m) (schema_parseProps m) ((Dt.I a1 0) == 9) (Dt.agg [(Dt.int (Dt.I a2 0)), (Dt.bool (Dt.B a2 1)), (Dt.fld a2 2), (Dt.bool (Dt.B a2 3)), (Dt.fld a2 4), (Dt.lst (Dt.L a2 5)), (Dt.int (Dt.I a2 6)), (Dt.int (Dt.I a2 7)), (Dt.lst (Dt.L a2 8)), (Dt.lst (Dt.L a2 9)), (Dt.bool ((Dt.I a1 1) == 1)), (Dt.lst (Dt.L a2 11)), (Dt.bool (Dt.B a2 12))])
 else
 (bif ((ByteArray.toList a0) == [117, 110, 105, 113, 117, 101]) then
 i16_j0 m (schema_parse m) (schema_parseProps m) ((Dt.I a1 0) == 9) (Dt.agg [(Dt.int (Dt.I a2 0)), (Dt.bool (Dt.B a2 1)), (Dt.fld a2 2), (Dt.bool (Dt.B a2 3)), (Dt.fld a2 4), (Dt.lst (Dt.L a2 5)), (Dt.int (Dt.I a2 6)), (Dt.int (Dt.I a2 7)), (Dt.lst (Dt.L a2 8)), (Dt.lst (Dt.L a2 9)), (Dt.bool (Dt.B a2 10)), (Dt.lst (Dt.L a2 11)), (Dt.bool ((Dt.I a1 1) == 1))])
 else
 (bif ((ByteArray.toList a0) == [105, 116, 101, 109, 115]) then
 ((schema_parse m a1).bind fun r6 =>
 i16_j0 m (schema_parse m) (schema_parseProps m) r6.2 (Dt.agg [(Dt.int (Dt.I a2 0)), (Dt.bool (Dt.B a2 1)), (Dt.fld a2 2), (Dt.bool (Dt.B a2 3)), (Dt.fld a2 4), (Dt.lst (Dt.L a2 5)), (Dt.int (Dt.I a2 6)), (Dt.int (Dt.I a2 7)), (Dt.lst (Dt.L a2 8)), (Dt.lst (Dt.L a2 9)), (Dt.bool (Dt.B a2 10)), (Dt.lst [r6.1]), (Dt.bool (Dt.B a2 12))]))
 else
 i16_j0 m (schema_parse m) (schema_parseProps m) false a2)))))))))))
noncomputable def schema_parseProps : Nat → Dt → Option (List Dt × Bool)
  | 0, _ => none
  | m + 1, a0 =>
    (bif ((Dt.I a0 0) != 5) then
    some ([], false)
  else
    schema_parseProps_j0 m (schema_parse m) a0)
end
noncomputable def schema_isName_j6 (m : Nat) (rec3 : ByteArray → Int → Int → Option Bool) (x0 : ByteArray) (x1 x2 : Int) : Option Bool :=
  rec3 x0 x1 (IntKind.wrap .i64 (x2 + 1))
noncomputable def schema_isName_j5 (m : Nat) (rec3 : ByteArray → Int → Int → Option Bool) (x0 : ByteArray) (x1 x2 : Int) (x3 : Bool) : Option Bool :=
  (bif x3 then
    some false
  else
    schema_isName_j6 m rec3 x0 x1 x2)
noncomputable def schema_isName_j4 (m : Nat) (rec3 : ByteArray → Int → Int → Option Bool) (x0 : ByteArray) (x1 x2 : Int) : Option Bool :=
  ((idxS x0 x2).bind fun v0 =>
    (bif (decide (v0 < 33)) then
 schema_isName_j5 m rec3 x0 x1 x2 true
    else
 ((idxS x0 x2).bind fun v1 =>
 (bif (decide (126 < v1)) then
 schema_isName_j5 m rec3 x0 x1 x2 true
 else
 ((idxS x0 x2).bind fun v2 =>
 schema_isName_j5 m rec3 x0 x1 x2 (v2 == 46))))))
noncomputable def schema_isName_j7 (m : Nat) : Option Bool :=
  some true
noncomputable def schema_isName_l3 (m : Nat) : Nat → ByteArray → Int → Int → Option Bool
  | 0, _, _, _ => none
  | M3 + 1, x0, x1, x2 =>
    (bif (decide (x2 < x1)) then
    schema_isName_j4 m (schema_isName_l3 m M3) x0 x1 x2
  else
    schema_isName_j7 m)
noncomputable def schema_isName_j2 (m : Nat) (x0 : ByteArray) (x1 x2 : Int) : Option Bool :=
  schema_isName_l3 m (Nat.succ m) x0 x1 x2
noncomputable def schema_isName_j1 (m : Nat) (x0 : ByteArray) : Option Bool :=
  schema_isName_j2 m x0 (ByteArray.size x0 : Int) 0
noncomputable def schema_isName_j0 (m : Nat) (x0 : ByteArray) (x1 : Bool) : Option Bool :=
  (bif x1 then
    some false
  else
    schema_isName_j1 m x0)
noncomputable def schema_isName : Nat → ByteArray → Option Bool
  | 0, _ => none
  | m + 1, a0 =>
    (bif (decide ((ByteArray.size a0 : Int) < 1)) then
    schema_isName_j0 m a0 true
  else
    (bif (decide (32 < (ByteArray.size a0 : Int))) then
 schema_isName_j0 m a0 true
    else
 ((idxS a0 0).bind fun v3 =>
 schema_isName_j0 m a0 (v3 == 36))))
noncomputable def value_nodes_j0 (m : Nat) (self49 : Dt → Int → Int → Option (Int × Int)) (x0 : Dt) (x1 x2 : Int) : Option Int :=
  ((self49 x0 x2 x1).bind fun r0 =>
    some r0.1)
noncomputable def i49_j3 (m : Nat) (self50 : Dt → Int → Int → Option (Bool × Int × Int)) (rec1 : List Dt → Int → Int → Int → Int → Option (Int × Int)) (x0 : List Dt) (x1 x2 x3 x4 : Int) : Option (Int × Int) :=
  rec1 x0 x1 (IntKind.wrap .i64 (x2 + 1)) x3 x4
noncomputable def i49_j2 (m : Nat) (self50 : Dt → Int → Int → Option (Bool × Int × Int)) (rec1 : List Dt → Int → Int → Int → Int → Option (Int × Int)) (x0 : List Dt) (x1 x2 x3 x4 : Int) : Option (Int × Int) :=
  ((idx x0 x2).bind fun v0 =>
    ((self50 v0 x3 x4).bind fun r1 =>
 (bif (Bool.not r1.1) then
 some (r1.2.1, r1.2.2)
 else
 i49_j3 m self50 rec1 x0 x1 x2 r1.2.1 r1.2.2)))
noncomputable def i49_l1 (m : Nat) (self50 : Dt → Int → Int → Option (Bool × Int × Int)) : Nat → List Dt → Int → Int → Int → Int → Option (Int × Int)
  | 0, _, _, _, _, _ => none
  | M1 + 1, x0, x1, x2, x3, x4 =>
    (bif (decide (x2 < x1)) then
    i49_j2 m self50 (i49_l1 m self50 M1) x0 x1 x2 x3 x4
  else
    some (x3, x4))
noncomputable def i49_j0 (m : Nat) (self50 : Dt → Int → Int → Option (Bool × Int × Int)) (x0 : List Dt) (x1 x2 x3 x4 : Int) : Option (Int × Int) :=
  i49_l1 m self50 (Nat.succ m) x0 x1 x2 x3 x4
noncomputable def i49_j7 (m : Nat) (self50 : Dt → Int → Int → Option (Bool × Int × Int)) (rec5 : List Dt → Int → Int → Int → Int → Option (Int × Int)) (x0 : List Dt) (x1 x2 x3 x4 : Int) : Option (Int × Int) :=
  rec5 x0 x1 (IntKind.wrap .i64 (x2 + 1)) x3 x4
noncomputable def i49_j6 (m : Nat) (self50 : Dt → Int → Int → Option (Bool × Int × Int)) (rec5 : List Dt → Int → Int → Int → Int → Option (Int × Int)) (x0 : List Dt) (x1 x2 x3 x4 : Int) : Option (Int × Int) :=
  ((idx x0 x2).bind fun v2 =>
    ((self50 (Dt.fld v2 1) x3 x4).bind fun r3 =>
 (bif (Bool.not r3.1) then
 some (r3.2.1, r3.2.2)
 else
 i49_j7 m self50 rec5 x0 x1 x2 r3.2.1 r3.2.2)))
noncomputable def i49_l5 (m : Nat) (self50 : Dt → Int → Int → Option (Bool × Int × Int)) : Nat → List Dt → Int → Int → Int → Int → Option (Int × Int)
  | 0, _, _, _, _, _ => none
  | M5 + 1, x0, x1, x2, x3, x4 =>
    (bif (decide (x2 < x1)) then
    i49_j6 m self50 (i49_l5 m self50 M5) x0 x1 x2 x3 x4
  else
    some (x3, x4))
noncomputable def i49_j4 (m : Nat) (self50 : Dt → Int → Int → Option (Bool × Int × Int)) (x0 : List Dt) (x1 x2 x3 x4 : Int) : Option (Int × Int) :=
  i49_l5 m self50 (Nat.succ m) x0 x1 x2 x3 x4
mutual
noncomputable def value_nodes : Nat → Dt → Int → Option Int
  | 0, _, _ => none
  | m + 1, a0, a1 =>
    (bif (1 == a1) then
    some 1
  else
    value_nodes_j0 m (i49 m) a0 a1 1)
noncomputable def i49 : Nat → Dt → Int → Int → Option (Int × Int)
  | 0, _, _, _ => none
  | m + 1, a0, a1, a2 =>
    (bif ((Dt.I a0 0) == 6) then
    i49_j0 m (i50 m) (Dt.L a0 3) (List.length (Dt.L a0 3) : Int) 0 a1 a2
  else
    (bif ((Dt.I a0 0) == 5) then
 i49_j4 m (i50 m) (Dt.L a0 4) (List.length (Dt.L a0 4) : Int) 0 a1 a2
    else
 some (a1, a2)))
noncomputable def i50 : Nat → Dt → Int → Int → Option (Bool × Int × Int)
  | 0, _, _, _ => none
  | m + 1, a0, a1, a2 =>
    ((value_nodes m a0 (IntKind.wrap .i64 (a2 - a1))).bind fun r0 =>
    some ((decide ((IntKind.wrap .i64 (a1 + r0)) < a2)), (IntKind.wrap .i64 (a1 + r0)), a2))
end
noncomputable def value_Nodes : Nat → Dt → Option Int
  | 0, _ => none
  | m + 1, a0 =>
    ((value_nodes m a0 1025).bind fun r0 =>
    some r0)
noncomputable def schema_isField_j4 (m : Nat) (rec1 : ByteArray → Int → Int → Option Bool) (x0 : ByteArray) (x1 x2 : Int) : Option Bool :=
  rec1 x0 x1 (IntKind.wrap .i64 (x2 + 1))
noncomputable def schema_isField_j3 (m : Nat) (rec1 : ByteArray → Int → Int → Option Bool) (x0 : ByteArray) (x1 x2 : Int) (x3 : Bool) : Option Bool :=
  (bif x3 then
    some false
  else
    schema_isField_j4 m rec1 x0 x1 x2)
noncomputable def schema_isField_j2 (m : Nat) (rec1 : ByteArray → Int → Int → Option Bool) (x0 : ByteArray) (x1 x2 : Int) : Option Bool :=
  ((idxS x0 x2).bind fun v0 =>
    (bif (decide (v0 < 32)) then
 schema_isField_j3 m rec1 x0 x1 x2 true
    else
 ((idxS x0 x2).bind fun v1 =>
 schema_isField_j3 m rec1 x0 x1 x2 (decide (126 < v1)))))
noncomputable def schema_isField_j5 (m : Nat) (x0 : ByteArray) : Option Bool :=
  (bif (decide (1 ≤ (ByteArray.size x0 : Int))) then
    some (decide ((ByteArray.size x0 : Int) ≤ 128))
  else
    some false)
noncomputable def schema_isField_l1 (m : Nat) : Nat → ByteArray → Int → Int → Option Bool
  | 0, _, _, _ => none
  | M1 + 1, x0, x1, x2 =>
    (bif (decide (x2 < x1)) then
    schema_isField_j2 m (schema_isField_l1 m M1) x0 x1 x2
  else
    schema_isField_j5 m x0)
noncomputable def schema_isField_j0 (m : Nat) (x0 : ByteArray) (x1 x2 : Int) : Option Bool :=
  schema_isField_l1 m (Nat.succ m) x0 x1 x2
noncomputable def schema_isField : Nat → ByteArray → Option Bool
  | 0, _ => none
  | m + 1, a0 =>
    schema_isField_j0 m a0 (ByteArray.size a0 : Int) 0
noncomputable def schema_rename_j4 (m : Nat) (self24 : Dt → Option (Dt × Bool)) (rec1 : List Dt → Int → Int → Dt → Dt → List Dt → Option (Dt × Bool)) (x0 : List Dt) (x1 x2 : Int) (x3 x4 : Dt) (x5 : List Dt) : Option (Dt × Bool) :=
  rec1 x0 x1 (IntKind.wrap .i64 (x2 + 1)) x3 x4 x5
noncomputable def schema_rename_j3 (m : Nat) (self24 : Dt → Option (Dt × Bool)) (rec1 : List Dt → Int → Int → Dt → Dt → List Dt → Option (Dt × Bool)) (x0 : Int) (x1 : List Dt) (x2 x3 : Int) (x4 x5 : Dt) (x6 : List Dt) (x7 : Dt) : Option (Dt × Bool) :=
  ((inL x6 x0).bind fun v3 =>
    ((x6[(Int.toNat x0)]?).bind fun v4 =>
 schema_rename_j4 m self24 rec1 x1 x2 x3 x4 x5 (List.set x6 (Int.toNat x0) x7)))
noncomputable def schema_rename_j2 (m : Nat) (self24 : Dt → Option (Dt × Bool)) (rec1 : List Dt → Int → Int → Dt → Dt → List Dt → Option (Dt × Bool)) (x0 : List Dt) (x1 x2 : Int) (x3 x4 : Dt) (x5 : List Dt) : Option (Dt × Bool) :=
  ((idx x0 x2).bind fun v1 =>
    ((self24 v1).bind fun r2 =>
 (bif (Bool.not r2.2) then
 some (kza2373, false)
 else
 schema_rename_j3 m self24 rec1 x2 x0 x1 x2 x3 x4 x5 r2.1)))
noncomputable def schema_rename_j6 (m : Nat) (self24 : Dt → Option (Dt × Bool)) (x0 x1 : Dt) : Option (Dt × Bool) :=
  some (x0, true)
noncomputable def schema_rename_j5 (m : Nat) (self24 : Dt → Option (Dt × Bool)) (x0 x1 : Dt) (x2 : List Dt) : Option (Dt × Bool) :=
  schema_rename_j6 m self24 (Dt.agg [(Dt.int (Dt.I x0 0)), (Dt.int (Dt.I x0 1)), (Dt.str (Dt.S x0 2)), (Dt.lst x2), (Dt.lst (Dt.L x0 4))]) x1
noncomputable def schema_rename_l1 (m : Nat) (self24 : Dt → Option (Dt × Bool)) : Nat → List Dt → Int → Int → Dt → Dt → List Dt → Option (Dt × Bool)
  | 0, _, _, _, _, _, _ => none
  | M1 + 1, x0, x1, x2, x3, x4, x5 =>
    (bif (decide (x2 < x1)) then
    schema_rename_j2 m self24 (schema_rename_l1 m self24 M1) x0 x1 x2 x3 x4 x5
  else
    schema_rename_j5 m self24 x3 x4 x5)
noncomputable def schema_rename_j0 (m : Nat) (self24 : Dt → Option (Dt × Bool)) (x0 : List Dt) (x1 x2 : Int) (x3 x4 : Dt) (x5 : List Dt) : Option (Dt × Bool) :=
  schema_rename_l1 m self24 (Nat.succ m) x0 x1 x2 x3 x4 x5
noncomputable def schema_rename_j12 (m : Nat) (self24 : Dt → Option (Dt × Bool)) (rec8 : List Dt → Int → Int → Dt → Dt → List Dt → List Dt → Option (Dt × Bool)) (x0 : List Dt) (x1 x2 : Int) (x3 x4 : Dt) (x5 x6 : List Dt) : Option (Dt × Bool) :=
  rec8 x0 x1 (IntKind.wrap .i64 (x2 + 1)) x3 x4 x5 x6
noncomputable def schema_rename_j11 (m : Nat) (self24 : Dt → Option (Dt × Bool)) (rec8 : List Dt → Int → Int → Dt → Dt → List Dt → List Dt → Option (Dt × Bool)) (x0 : Int) (x1 : List Dt) (x2 x3 : Int) (x4 x5 : Dt) (x6 x7 : List Dt) (x8 x9 : Dt) : Option (Dt × Bool) :=
  ((strconv_Itoa x0).bind fun r8 =>
    ((inL x6 x0).bind fun v9 =>
 ((x6[(Int.toNat x0)]?).bind fun v10 =>
 schema_rename_j12 m self24 rec8 x1 x2 x3 x4 x5 (List.set x6 (Int.toNat x0) (Dt.agg [(Dt.str r8), x9])) (mput x7 (Dt.S x8 0) (Dt.bool true)))))
noncomputable def schema_rename_j10 (m : Nat) (self24 : Dt → Option (Dt × Bool)) (rec8 : List Dt → Int → Int → Dt → Dt → List Dt → List Dt → Option (Dt × Bool)) (x0 : Int) (x1 : List Dt) (x2 x3 : Int) (x4 : Bool) (x5 x6 : Dt) (x7 x8 : List Dt) (x9 x10 : Dt) : Option (Dt × Bool) :=
  (bif x4 then
    some (kza2373, false)
  else
    schema_rename_j11 m self24 rec8 x0 x1 x2 x3 x5 x6 x7 x8 x9 x10)
noncomputable def schema_rename_j9 (m : Nat) (self24 : Dt → Option (Dt × Bool)) (rec8 : List Dt → Int → Int → Dt → Dt → List Dt → List Dt → Option (Dt × Bool)) (x0 : List Dt) (x1 x2 : Int) (x3 x4 : Dt) (x5 x6 : List Dt) : Option (Dt × Bool) :=
  ((idx x0 x2).bind fun v6 =>
    ((self24 (Dt.fld v6 1)).bind fun r7 =>
 (bif (Bool.not r7.2) then
 schema_rename_j10 m self24 rec8 x2 x0 x1 x2 true x3 x4 x5 x6 v6 r7.1
 else
 ((schema_isField m (Dt.S v6 0)).bind fun r11 =>
 (bif (Bool.not r11) then
 schema_rename_j10 m self24 rec8 x2 x0 x1 x2 true x3 x4 x5 x6 v6 r7.1
 else
 schema_rename_j10 m self24 rec8 x2 x0 x1 x2 (Dt.toBool (mgetD x6 (Dt.S v6 0) (Dt.bool false))) x3 x4 x5 x6 v6 r7.1)))))
noncomputable def schema_rename_j13 (m : Nat) (self24 : Dt → Option (Dt × Bool)) (x0 x1 : Dt) (x2 : List Dt) : Option (Dt × Bool) :=
  schema_rename_j6 m self24 (Dt.agg [(Dt.int (Dt.I x0 0)), (Dt.int (Dt.I x0 1)), (Dt.str (Dt.S x0 2)), (Dt.lst (Dt.L x0 3)), (Dt.lst x2)]) x1
noncomputable def schema_rename_l8 (m : Nat) (self24 : Dt → Option (Dt × Bool)) : Nat → List Dt → Int → Int → Dt → Dt → List Dt → List Dt → Option (Dt × Bool)
  | 0, _, _, _, _, _, _, _ => none
  | M8 + 1, x0, x1, x2, x3, x4, x5, x6 =>
    (bif (decide (x2 < x1)) then
    schema_rename_j9 m self24 (schema_rename_l8 m self24 M8) x0 x1 x2 x3 x4 x5 x6
  else
    schema_rename_j13 m self24 x3 x4 x5)
noncomputable def schema_rename_j7 (m : Nat) (self24 : Dt → Option (Dt × Bool)) (x0 : List Dt) (x1 x2 : Int) (x3 x4 : Dt) (x5 x6 : List Dt) : Option (Dt × Bool) :=
  schema_rename_l8 m self24 (Nat.succ m) x0 x1 x2 x3 x4 x5 x6
noncomputable def schema_rename : Nat → Dt → Option (Dt × Bool)
  | 0, _ => none
  | m + 1, a0 =>
    (bif ((Dt.I a0 0) == 6) then
    ((mkL (List.length (Dt.L a0 3) : Int) (List.length (Dt.L a0 3) : Int) kza2373).bind fun v0 =>
 schema_rename_j0 m (schema_rename m) (Dt.L a0 3) (List.length (Dt.L a0 3) : Int) 0 a0 kza2373 v0)
  else
    (bif ((Dt.I a0 0) == 5) then
 ((mkL (List.length (Dt.L a0 4) : Int) (List.length (Dt.L a0 4) : Int) kzcda49).bind fun v5 =>
 schema_rename_j7 m (schema_rename m) (Dt.L a0 4) (List.length (Dt.L a0 4) : Int) 0 a0 kza2373 v5 [])
    else
 schema_rename_j6 m (schema_rename m) a0 kza2373))
noncomputable def value_depth_j0 (m : Nat) (self53 : Dt → Int → Int → Option (Int × Int)) (x0 : Dt) (x1 : Int) : Option Int :=
  ((self53 x0 0 x1).bind fun r0 =>
    some (IntKind.wrap .i64 (1 + r0.1)))
noncomputable def i53_j3 (m : Nat) (self54 : Dt → Int → Int → Option (Bool × Int × Int)) (rec1 : List Dt → Int → Int → Int → Int → Option (Int × Int)) (x0 : List Dt) (x1 x2 x3 x4 : Int) : Option (Int × Int) :=
  rec1 x0 x1 (IntKind.wrap .i64 (x2 + 1)) x3 x4
noncomputable def i53_j2 (m : Nat) (self54 : Dt → Int → Int → Option (Bool × Int × Int)) (rec1 : List Dt → Int → Int → Int → Int → Option (Int × Int)) (x0 : List Dt) (x1 x2 x3 x4 : Int) : Option (Int × Int) :=
  ((idx x0 x2).bind fun v0 =>
    ((self54 v0 x3 x4).bind fun r1 =>
 (bif (Bool.not r1.1) then
 some (r1.2.1, r1.2.2)
 else
 i53_j3 m self54 rec1 x0 x1 x2 r1.2.1 r1.2.2)))
noncomputable def i53_l1 (m : Nat) (self54 : Dt → Int → Int → Option (Bool × Int × Int)) : Nat → List Dt → Int → Int → Int → Int → Option (Int × Int)
  | 0, _, _, _, _, _ => none
  | M1 + 1, x0, x1, x2, x3, x4 =>
    (bif (decide (x2 < x1)) then
    i53_j2 m self54 (i53_l1 m self54 M1) x0 x1 x2 x3 x4
  else
    some (x3, x4))
noncomputable def i53_j0 (m : Nat) (self54 : Dt → Int → Int → Option (Bool × Int × Int)) (x0 : List Dt) (x1 x2 x3 x4 : Int) : Option (Int × Int) :=
  i53_l1 m self54 (Nat.succ m) x0 x1 x2 x3 x4
noncomputable def i53_j7 (m : Nat) (self54 : Dt → Int → Int → Option (Bool × Int × Int)) (rec5 : List Dt → Int → Int → Int → Int → Option (Int × Int)) (x0 : List Dt) (x1 x2 x3 x4 : Int) : Option (Int × Int) :=
  rec5 x0 x1 (IntKind.wrap .i64 (x2 + 1)) x3 x4
noncomputable def i53_j6 (m : Nat) (self54 : Dt → Int → Int → Option (Bool × Int × Int)) (rec5 : List Dt → Int → Int → Int → Int → Option (Int × Int)) (x0 : List Dt) (x1 x2 x3 x4 : Int) : Option (Int × Int) :=
  ((idx x0 x2).bind fun v2 =>
    ((self54 (Dt.fld v2 1) x3 x4).bind fun r3 =>
 (bif (Bool.not r3.1) then
 some (r3.2.1, r3.2.2)
 else
 i53_j7 m self54 rec5 x0 x1 x2 r3.2.1 r3.2.2)))
noncomputable def i53_l5 (m : Nat) (self54 : Dt → Int → Int → Option (Bool × Int × Int)) : Nat → List Dt → Int → Int → Int → Int → Option (Int × Int)
  | 0, _, _, _, _, _ => none
  | M5 + 1, x0, x1, x2, x3, x4 =>
    (bif (decide (x2 < x1)) then
    i53_j6 m self54 (i53_l5 m self54 M5) x0 x1 x2 x3 x4
  else
    some (x3, x4))
noncomputable def i53_j4 (m : Nat) (self54 : Dt → Int → Int → Option (Bool × Int × Int)) (x0 : List Dt) (x1 x2 x3 x4 : Int) : Option (Int × Int) :=
  i53_l5 m self54 (Nat.succ m) x0 x1 x2 x3 x4
mutual
noncomputable def value_depth : Nat → Dt → Int → Option Int
  | 0, _, _ => none
  | m + 1, a0, a1 =>
    (bif (a1 == 1) then
    some 1
  else
    value_depth_j0 m (i53 m) a0 a1)
noncomputable def i53 : Nat → Dt → Int → Int → Option (Int × Int)
  | 0, _, _, _ => none
  | m + 1, a0, a1, a2 =>
    (bif ((Dt.I a0 0) == 6) then
    i53_j0 m (i54 m) (Dt.L a0 3) (List.length (Dt.L a0 3) : Int) 0 a1 a2
  else
    (bif ((Dt.I a0 0) == 5) then
 i53_j4 m (i54 m) (Dt.L a0 4) (List.length (Dt.L a0 4) : Int) 0 a1 a2
    else
 some (a1, a2)))
noncomputable def i54 : Nat → Dt → Int → Int → Option (Bool × Int × Int)
  | 0, _, _, _ => none
  | m + 1, a0, a1, a2 =>
    ((value_depth m a0 (IntKind.wrap .i64 (a2 - 1))).bind fun r0 =>
    some ((decide ((bif (decide (a1 < r0)) then r0 else a1) < (IntKind.wrap .i64 (a2 - 1)))), (bif (decide (a1 < r0)) then r0 else a1), a2))
end
noncomputable def value_Depth : Nat → Dt → Option Int
  | 0, _ => none
  | m + 1, a0 =>
    ((value_depth m a0 17).bind fun r0 =>
    some r0)
noncomputable def ref14_texts_j5 (m : Nat) (rec2 : Int → Dt → List Dt → Option (List Dt × Bool)) (x0 : Int) (x1 : Dt) (x2 : List Dt) : Option (List Dt × Bool) :=
  rec2 (IntKind.wrap .i64 (x0 + 1)) x1 x2
noncomputable def ref14_texts_j4 (m : Nat) (rec2 : Int → Dt → List Dt → Option (List Dt × Bool)) (x0 : Int) (x1 : Dt) (x2 : List Dt) : Option (List Dt × Bool) :=
  ((idx (Dt.L x1 3) x0).bind fun v1 =>
    ((app x2 [(Dt.str (Dt.S v1 2))]).bind fun v2 =>
 ref14_texts_j5 m rec2 x0 x1 v2))
noncomputable def ref14_texts_j3 (m : Nat) (rec2 : Int → Dt → List Dt → Option (List Dt × Bool)) (x0 : Int) (x1 : Dt) (x2 : List Dt) : Option (List Dt × Bool) :=
  ((idx (Dt.L x1 3) x0).bind fun v0 =>
    (bif ((Dt.I v0 0) != 4) then
 some ([], false)
    else
 ref14_texts_j4 m rec2 x0 x1 x2))
noncomputable def ref14_texts_j6 (m : Nat) (x0 : List Dt) : Option (List Dt × Bool) :=
  some (x0, true)
noncomputable def ref14_texts_l2 (m : Nat) : Nat → Int → Dt → List Dt → Option (List Dt × Bool)
  | 0, _, _, _ => none
  | M2 + 1, x0, x1, x2 =>
    (bif (decide (x0 < (List.length (Dt.L x1 3) : Int))) then
    ref14_texts_j3 m (ref14_texts_l2 m M2) x0 x1 x2
  else
    ref14_texts_j6 m x2)
noncomputable def ref14_texts_j1 (m : Nat) (x0 : Int) (x1 : Dt) (x2 : List Dt) : Option (List Dt × Bool) :=
  ref14_texts_l2 m (Nat.succ m) x0 x1 x2
noncomputable def ref14_texts_j0 (m : Nat) (x0 : Dt) : Option (List Dt × Bool) :=
  ref14_texts_j1 m 0 x0 []
noncomputable def ref14_texts : Nat → Dt → Option (List Dt × Bool)
  | 0, _ => none
  | m + 1, a0 =>
    (bif ((Dt.I a0 0) != 6) then
    some ([], false)
  else
    ref14_texts_j0 m a0)
noncomputable def ref14_kind_j4 (m : Nat) (rec1 : List Dt → Int → Dt → Option Int) (x0 : List Dt) (x1 : Int) (x2 : Dt) : Option Int :=
  rec1 x0 (IntKind.wrap .i64 (x1 + 1)) x2
noncomputable def ref14_kind_j3 (m : Nat) (rec1 : List Dt → Int → Dt → Option Int) (x0 : List Dt) (x1 : Int) (x2 : Bool) (x3 : Dt) : Option Int :=
  (bif x2 then
    some x1
  else
    ref14_kind_j4 m rec1 x0 x1 x3)
noncomputable def ref14_kind_j2 (m : Nat) (rec1 : List Dt → Int → Dt → Option Int) (x0 : List Dt) (x1 : Int) (x2 : Dt) : Option Int :=
  (bif ((Dt.I x2 0) == 4) then
    ((idx x0 x1).bind fun v0 =>
 ref14_kind_j3 m rec1 x0 x1 ((ByteArray.toList (Dt.S x2 2)) == (ByteArray.toList (Dt.toStr v0))) x2)
  else
    ref14_kind_j3 m rec1 x0 x1 false x2)
noncomputable def ref14_kind_j5 (m : Nat) : Option Int :=
  some 0
noncomputable def ref14_kind_l1 (m : Nat) : Nat → List Dt → Int → Dt → Option Int
  | 0, _, _, _ => none
  | M1 + 1, x0, x1, x2 =>
    (bif (decide (x1 < (List.length x0 : Int))) then
    ref14_kind_j2 m (ref14_kind_l1 m M1) x0 x1 x2
  else
    ref14_kind_j5 m)
noncomputable def ref14_kind_j0 (m : Nat) (x0 : List Dt) (x1 : Int) (x2 : Dt) : Option Int :=
  ref14_kind_l1 m (Nat.succ m) x0 x1 x2
noncomputable def ref14_kind : Nat → Dt → Option Int
  | 0, _ => none
  | m + 1, a0 =>
    ref14_kind_j0 m [(Dt.str (ByteArray.mk (List.toArray []))), (Dt.str (ByteArray.mk (List.toArray [109, 105, 110]))), (Dt.str (ByteArray.mk (List.toArray [110, 117, 108, 108]))), (Dt.str (ByteArray.mk (List.toArray [105, 110, 116]))), (Dt.str (ByteArray.mk (List.toArray [116, 101, 120, 116]))), (Dt.str (ByteArray.mk (List.toArray [100, 111, 99]))), (Dt.str (ByteArray.mk (List.toArray [108, 105, 115, 116]))), (Dt.str (ByteArray.mk (List.toArray [98, 121, 116, 101, 115]))), (Dt.str (ByteArray.mk (List.toArray [105, 100]))), (Dt.str (ByteArray.mk (List.toArray [98, 111, 111, 108]))), (Dt.str (ByteArray.mk (List.toArray [116, 105, 109, 101]))), (Dt.str (ByteArray.mk (List.toArray [109, 97, 120])))] 1 a0
noncomputable def ref14_kinds_j5 (m : Nat) (rec2 : List Dt → Int → Int → Option Int) (x0 : List Dt) (x1 x2 : Int) : Option Int :=
  rec2 x0 x1 (IntKind.wrap .i64 (x2 + 1))
noncomputable def ref14_kinds_j4 (m : Nat) (rec2 : List Dt → Int → Int → Option Int) (x0 : List Dt) (x1 x2 x3 : Int) : Option Int :=
  (bif (decide (0 ≤ x3)) then
    ref14_kinds_j5 m rec2 x0 (orI IntKind.i64 x1 (shlI IntKind.i64 1 x3)) x2
  else
    none)
noncomputable def ref14_kinds_j3 (m : Nat) (rec2 : List Dt → Int → Int → Option Int) (x0 : List Dt) (x1 x2 : Int) : Option Int :=
  ((idx x0 x2).bind fun v0 =>
    ((ref14_kind m v0).bind fun r1 =>
 (bif (r1 == 0) then
 some 0
 else
 ref14_kinds_j4 m rec2 x0 x1 x2 r1)))
noncomputable def ref14_kinds_j6 (m : Nat) (x0 : Int) : Option Int :=
  some x0
noncomputable def ref14_kinds_l2 (m : Nat) : Nat → List Dt → Int → Int → Option Int
  | 0, _, _, _ => none
  | M2 + 1, x0, x1, x2 =>
    (bif (decide (x2 < (List.length x0 : Int))) then
    ref14_kinds_j3 m (ref14_kinds_l2 m M2) x0 x1 x2
  else
    ref14_kinds_j6 m x1)
noncomputable def ref14_kinds_j1 (m : Nat) (x0 : List Dt) (x1 x2 : Int) : Option Int :=
  ref14_kinds_l2 m (Nat.succ m) x0 x1 x2
noncomputable def ref14_kinds_j0 (m : Nat) (x0 : List Dt) : Option Int :=
  ref14_kinds_j1 m x0 0 0
noncomputable def ref14_kinds : Nat → Dt → Option Int
  | 0, _ => none
  | m + 1, a0 =>
    (bif ((Dt.I a0 0) == 6) then
    ref14_kinds_j0 m (Dt.L a0 3)
  else
    ref14_kinds_j0 m [a0])
noncomputable def ref14_parse_j5 (m : Nat) (self27 : Dt → Dt → Option (Dt × Bool)) (rec2 : Int → Dt → Dt → Dt → Option (Dt × Bool)) (x0 : Int) (x1 x2 x3 : Dt) : Option (Dt × Bool) :=
  rec2 (IntKind.wrap .i64 (x0 + 1)) x1 x2 x3
noncomputable def ref14_parse_j4 (m : Nat) (self27 : Dt → Dt → Option (Dt × Bool)) (rec2 : Int → Dt → Dt → Dt → Option (Dt × Bool)) (x0 : Int) (x1 x2 x3 x4 : Dt) : Option (Dt × Bool) :=
  ref14_parse_j5 m self27 rec2 x0 x1 x2 x4
noncomputable def ref14_parse_j3 (m : Nat) (self27 : Dt → Dt → Option (Dt × Bool)) (rec2 : Int → Dt → Dt → Dt → Option (Dt × Bool)) (x0 : Int) (x1 x2 x3 : Dt) : Option (Dt × Bool) :=
  ((idx (Dt.L x1 4) x0).bind fun v0 =>
    ((self27 x3 v0).bind fun r1 =>
 (bif (Bool.not r1.2) then
 some (x3, false)
 else
 ref14_parse_j4 m self27 rec2 x0 x1 x2 x3 r1.1)))
noncomputable def ref14_parse_j6 (m : Nat) (self27 : Dt → Dt → Option (Dt × Bool)) (x0 x1 : Dt) : Option (Dt × Bool) :=
  some (x1, true)
noncomputable def ref14_parse_l2 (m : Nat) (self27 : Dt → Dt → Option (Dt × Bool)) : Nat → Int → Dt → Dt → Dt → Option (Dt × Bool)
  | 0, _, _, _, _ => none
  | M2 + 1, x0, x1, x2, x3 =>
    (bif (decide (x0 < (List.length (Dt.L x1 4) : Int))) then
    ref14_parse_j3 m self27 (ref14_parse_l2 m self27 M2) x0 x1 x2 x3
  else
    ref14_parse_j6 m self27 x2 x3)
noncomputable def ref14_parse_j1 (m : Nat) (self27 : Dt → Dt → Option (Dt × Bool)) (x0 : Int) (x1 x2 x3 : Dt) : Option (Dt × Bool) :=
  ref14_parse_l2 m self27 (Nat.succ m) x0 x1 x2 x3
noncomputable def ref14_parse_j0 (m : Nat) (self27 : Dt → Dt → Option (Dt × Bool)) (x0 x1 x2 : Dt) : Option (Dt × Bool) :=
  ref14_parse_j1 m self27 0 x0 x1 x2
noncomputable def ref14_field_j0 (m : Nat) (self10 : Dt → Option (Dt × Bool)) (self43 : Dt → Option (List Dt × Bool)) (x0 : Bool) (x1 x2 : Dt) : Option (Dt × Bool) :=
  some (x1, x0)
noncomputable def ref14_props_j5 (m : Nat) (self10 : Dt → Option (Dt × Bool)) (rec2 : Int → Dt → List Dt → Option (List Dt × Bool)) (x0 : Int) (x1 : Dt) (x2 : List Dt) : Option (List Dt × Bool) :=
  rec2 (IntKind.wrap .i64 (x0 + 1)) x1 x2
noncomputable def ref14_props_j4 (m : Nat) (self10 : Dt → Option (Dt × Bool)) (rec2 : Int → Dt → List Dt → Option (List Dt × Bool)) (x0 : Int) (x1 : Dt) (x2 : List Dt) (x3 : Dt) : Option (List Dt × Bool) :=
  ((idx (Dt.L x1 4) x0).bind fun v2 =>
    ((app x2 [(Dt.agg [(Dt.str (Dt.S v2 0)), x3])]).bind fun v3 =>
 ref14_props_j5 m self10 rec2 x0 x1 v3))
noncomputable def ref14_props_j3 (m : Nat) (self10 : Dt → Option (Dt × Bool)) (rec2 : Int → Dt → List Dt → Option (List Dt × Bool)) (x0 : Int) (x1 : Dt) (x2 : List Dt) : Option (List Dt × Bool) :=
  ((idx (Dt.L x1 4) x0).bind fun v0 =>
    ((self10 (Dt.fld v0 1)).bind fun r1 =>
 (bif (Bool.not r1.2) then
 some ([], false)
 else
 ref14_props_j4 m self10 rec2 x0 x1 x2 r1.1)))
noncomputable def ref14_props_j6 (m : Nat) (self10 : Dt → Option (Dt × Bool)) (x0 : List Dt) : Option (List Dt × Bool) :=
  some (x0, true)
noncomputable def ref14_props_l2 (m : Nat) (self10 : Dt → Option (Dt × Bool)) : Nat → Int → Dt → List Dt → Option (List Dt × Bool)
  | 0, _, _, _ => none
  | M2 + 1, x0, x1, x2 =>
    (bif (decide (x0 < (List.length (Dt.L x1 4) : Int))) then
    ref14_props_j3 m self10 (ref14_props_l2 m self10 M2) x0 x1 x2
  else
    ref14_props_j6 m self10 x2)
noncomputable def ref14_props_j1 (m : Nat) (self10 : Dt → Option (Dt × Bool)) (x0 : Int) (x1 : Dt) (x2 : List Dt) : Option (List Dt × Bool) :=
  ref14_props_l2 m self10 (Nat.succ m) x0 x1 x2
noncomputable def ref14_props_j0 (m : Nat) (self10 : Dt → Option (Dt × Bool)) (x0 : Dt) : Option (List Dt × Bool) :=
  ref14_props_j1 m self10 0 x0 []
mutual
noncomputable def ref14_parse : Nat → Dt → Option (Dt × Bool)
  | 0, _ => none
  | m + 1, a0 =>
    (bif ((Dt.I a0 0) != 5) then
    some (kz8469e, false)
  else
    ref14_parse_j0 m (ref14_field m) a0 kza2d60 kz8469e)
noncomputable def ref14_field : Nat → Dt → Dt → Option (Dt × Bool)
  | 0, _, _ => none
  | m + 1, a0, a1 =>
    (bif ((ByteArray.toList (Dt.S a1 0)) == [107, 105, 110, 100]) then
    ((ref14_kinds m (Dt.fld a1 1)).bind fun r0 =>
 ref14_field_j0 m (ref14_parse m) (ref14_props m) (r0 != 0) (Dt.agg [(Dt.int r0), (Dt.bool (Dt.B a0 1)), (Dt.fld a0 2), (Dt.bool (Dt.B a0 3)), (Dt.fld a0 4), (Dt.lst (Dt.L a0 5)), (Dt.int (Dt.I a0 6)), (Dt.int (Dt.I a0 7)), (Dt.lst (Dt.L a0 8)), (Dt.lst (Dt.L a0 9)), (Dt.bool (Dt.B a0 10)), (Dt.lst (Dt.L a0 11)), (Dt.bool (Dt.B a0 12))]) kza2d60)
  else
    (bif ((ByteArray.toList (Dt.S a1 0)) == [109, 105, 110]) then
 ref14_field_j0 m (ref14_parse m) (ref14_props m) true (Dt.agg [(Dt.int (Dt.I a0 0)), (Dt.bool true), (Dt.fld a1 1), (Dt.bool (Dt.B a0 3)), (Dt.fld a0 4), (Dt.lst (Dt.L a0 5)), (Dt.int (Dt.I a0 6)), (Dt.int (Dt.I a0 7)), (Dt.lst (Dt.L a0 8)), (Dt.lst (Dt.L a0 9)), (Dt.bool (Dt.B a0 10)), (Dt.lst (Dt.L a0 11)), (Dt.bool (Dt.B a0 12))]) kza2d60
    else
 (bif ((ByteArray.toList (Dt.S a1 0)) == [109, 97, 120]) then
 ref14_field_j0 m (ref14_parse m) (ref14_props m) true (Dt.agg [(Dt.int (Dt.I a0 0)), (Dt.bool (Dt.B a0 1)), (Dt.fld a0 2), (Dt.bool true), (Dt.fld a1 1), (Dt.lst (Dt.L a0 5)), (Dt.int (Dt.I a0 6)), (Dt.int (Dt.I a0 7)), (Dt.lst (Dt.L a0 8)), (Dt.lst (Dt.L a0 9)), (Dt.bool (Dt.B a0 10)), (Dt.lst (Dt.L a0 11)), (Dt.bool (Dt.B a0 12))]) kza2d60
 else
 (bif ((ByteArray.toList (Dt.S a1 0)) == [101, 110, 117, 109]) then
 ref14_field_j0 m (ref14_parse m) (ref14_props m) ((Dt.I (Dt.fld a1 1) 0) == 6) (Dt.agg [(Dt.int (Dt.I a0 0)), (Dt.bool (Dt.B a0 1)), (Dt.fld a0 2), (Dt.bool (Dt.B a0 3)), (Dt.fld a0 4), (Dt.lst (Dt.L (Dt.fld a1 1) 3)), (Dt.int (Dt.I a0 6)), (Dt.int (Dt.I a0 7)), (Dt.lst (Dt.L a0 8)), (Dt.lst (Dt.L a0 9)), (Dt.bool (Dt.B a0 10)), (Dt.lst (Dt.L a0 11)), (Dt.bool (Dt.B a0 12))]) kza2d60
 else
 (bif ((ByteArray.toList (Dt.S a1 0)) == [109, 105, 110, 76, 101, 110]) then
 ref14_field_j0 m (ref14_parse m) (ref14_props m) ((Dt.I (Dt.fld a1 1) 0) == 3) (Dt.agg [(Dt.int (Dt.I a0 0)), (Dt.bool (Dt.B a0 1)), (Dt.fld a0 2), (Dt.bool (Dt.B a0 3)), (Dt.fld a0 4), (Dt.lst (Dt.L a0 5)), (Dt.int (Dt.I (Dt.fld a1 1) 1)), (Dt.int (Dt.I a0 7)), (Dt.lst (Dt.L a0 8)), (Dt.lst (Dt.L a0 9)), (Dt.bool (Dt.B a0 10)), (Dt.lst (Dt.L a0 11)), (Dt.bool (Dt.B a0 12))]) kza2d60
 else
 (bif ((ByteArray.toList (Dt.S a1 0)) == [109, 97, 120, 76, 101, 110]) then
 ref14_field_j0 m (ref14_parse m) (ref14_props m) ((Dt.I (Dt.fld a1 1) 0) == 3) (Dt.agg [(Dt.int (Dt.I a0 0)), (Dt.bool (Dt.B a0 1)), (Dt.fld a0 2), (Dt.bool (Dt.B a0 3)), (Dt.fld a0 4), (Dt.lst (Dt.L a0 5)), (Dt.int (Dt.I a0 6)), (Dt.int (Dt.I (Dt.fld a1 1) 1)), (Dt.lst (Dt.L a0 8)), (Dt.lst (Dt.L a0 9)), (Dt.bool (Dt.B a0 10)), (Dt.lst (Dt.L a0 11)), (Dt.bool (Dt.B a0 12))]) kza2d60
 else
 (bif ((ByteArray.toList (Dt.S a1 0)) == [114, 101, 113, 117, 105, 114, 101, 100]) then
 ((ref14_texts m (Dt.fld a1 1)).bind fun r1 =>
 ref14_field_j0 m (ref14_parse m) (ref14_props m) r1.2 (Dt.agg [(Dt.int (Dt.I a0 0)), (Dt.bool (Dt.B a0 1)), (Dt.fld a0 2), (Dt.bool (Dt.B a0 3)), (Dt.fld a0 4), (Dt.lst (Dt.L a0 5)), (Dt.int (Dt.I a0 6)), (Dt.int (Dt.I a0 7)), (Dt.lst r1.1), (Dt.lst (Dt.L a0 9)), (Dt.bool (Dt.B a0 10)), (Dt.lst (Dt.L a0 11)), (Dt.bool (Dt.B a0 12))]) kza2d60)
 else
 (bif ((ByteArray.toList (Dt.S a1 0)) == [112, 114, 111, 112, 115]) then
 ((ref14_props m (Dt.fld a1 1)).bind fun r2 =>
 ref14_field_j0 m (ref14_parse m) (ref14_props m) r2.2 (Dt.agg [(Dt.int (Dt.I a0 0)), (Dt.bool (Dt.B a0 1)), (Dt.fld a0 2), (Dt.bool (Dt.B a0 3)), (Dt.fld a0 4), (Dt.lst (Dt.L a0 5)), (Dt.int (Dt.I a0 6)), (Dt.int (Dt.I a0 7)), (Dt.lst (Dt.L a0 8)), (Dt.lst r2.1), (Dt.bool (Dt.B a0 10)), (Dt.lst (Dt.L a0 11)), (Dt.bool (Dt.B a0 12))]) kza2d60)
 else
 (bif ((ByteArray.toList (Dt.S a1 0)) == [99, 108, 111, 115, 101, 100]) then
 ref14_field_j0 m (ref14_parse m) (ref14_props m) ((Dt.I (Dt.fld a1 1) 0) == 9) (Dt.agg [(Dt.int (Dt.I a0 0)), (Dt.bool (Dt.B a0 1)), (Dt.fld a0 2), (Dt.bool (Dt.B a0 3)), (Dt.fld a0 4), (Dt.lst (Dt.L a0 5)), (Dt.int (Dt.I a0 6)), (Dt.int (Dt.I a0 7)), (Dt.lst (Dt.L a0 8)), (Dt.lst (Dt.L a0 9)), (Dt.bool ((Dt.I (Dt.fld a1 1) 1) == 1)), (Dt.lst (Dt.L a0 11)), (Dt.bool (Dt.B a0 12))]) kza2d60
 else
 (bif ((ByteArray.toList (Dt.S a1 0)) == [117, 110, 105, 113, 117, 101]) then
 ref14_field_j0 m (ref14_parse m) (ref14_props m) ((Dt.I (Dt.fld a1 1) 0) == 9) (Dt.agg [(Dt.int (Dt.I a0 0)), (Dt.bool (Dt.B a0 1)), (Dt.fld a0 2), (Dt.bool (Dt.B a0 3)), (Dt.fld a0 4), (Dt.lst (Dt.L a0 5)), (Dt.int (Dt.I a0 6)), (Dt.int (Dt.I a0 7)), (Dt.lst (Dt.L a0 8)), (Dt.lst (Dt.L a0 9)), (Dt.bool (Dt.B a0 10)), (Dt.lst (Dt.L a0 11)), (Dt.bool ((Dt.I (Dt.fld a1 1) 1) == 1))]) kza2d60
 else
 (bif ((ByteArray.toList (Dt.S a1 0)) == [105, 116, 101, 109, 115]) then
 ((ref14_parse m (Dt.fld a1 1)).bind fun r3 =>
 ref14_field_j0 m (ref14_parse m) (ref14_props m) r3.2 (Dt.agg [(Dt.int (Dt.I a0 0)), (Dt.bool (Dt.B a0 1)), (Dt.fld a0 2), (Dt.bool (Dt.B a0 3)), (Dt.fld a0 4), (Dt.lst (Dt.L a0 5)), (Dt.int (Dt.I a0 6)), (Dt.int (Dt.I a0 7)), (Dt.lst (Dt.L a0 8)), (Dt.lst (Dt.L a0 9)), (Dt.bool (Dt.B a0 10)), (Dt.lst [r3.1]), (Dt.bool (Dt.B a0 12))]) kza2d60)
 else
 ref14_field_j0 m (ref14_parse m) (ref14_props m) false a0 kza2d60)))))))))))
noncomputable def ref14_props : Nat → Dt → Option (List Dt × Bool)
  | 0, _ => none
  | m + 1, a0 =>
    (bif ((Dt.I a0 0) != 5) then
    some ([], false)
  else
    ref14_props_j0 m (ref14_parse m) a0)
end
noncomputable def ref01_Parts_j3 (m : Nat) (rec1 : Int → Dt → List Dt → Option (List Dt)) (x0 : Int) (x1 : Dt) (x2 : List Dt) : Option (List Dt) :=
  rec1 (IntKind.wrap .i64 (x0 + 1)) x1 x2
noncomputable def ref01_Parts_j2 (m : Nat) (rec1 : Int → Dt → List Dt → Option (List Dt)) (x0 : Int) (x1 : Dt) (x2 : List Dt) : Option (List Dt) :=
  ((idx (Dt.L x1 3) x0).bind fun v0 =>
    ((app x2 [v0]).bind fun v1 =>
 ref01_Parts_j3 m rec1 x0 x1 v1))
noncomputable def ref01_Parts_j8 (m : Nat) (rec6 : Int → Dt → List Dt → Option (List Dt)) (x0 : Int) (x1 : Dt) (x2 : List Dt) : Option (List Dt) :=
  rec6 (IntKind.wrap .i64 (x0 + 1)) x1 x2
noncomputable def ref01_Parts_j7 (m : Nat) (rec6 : Int → Dt → List Dt → Option (List Dt)) (x0 : Int) (x1 : Dt) (x2 : List Dt) : Option (List Dt) :=
  ((idx (Dt.L x1 4) x0).bind fun v2 =>
    ((app x2 [(Dt.fld v2 1)]).bind fun v3 =>
 ref01_Parts_j8 m rec6 x0 x1 v3))
noncomputable def ref01_Parts_j9 (m : Nat) (x0 : List Dt) : Option (List Dt) :=
  some x0
noncomputable def ref01_Parts_l6 (m : Nat) : Nat → Int → Dt → List Dt → Option (List Dt)
  | 0, _, _, _ => none
  | M6 + 1, x0, x1, x2 =>
    (bif (decide (x0 < (List.length (Dt.L x1 4) : Int))) then
    ref01_Parts_j7 m (ref01_Parts_l6 m M6) x0 x1 x2
  else
    ref01_Parts_j9 m x2)
noncomputable def ref01_Parts_j5 (m : Nat) (x0 : Int) (x1 : Dt) (x2 : List Dt) : Option (List Dt) :=
  ref01_Parts_l6 m (Nat.succ m) x0 x1 x2
noncomputable def ref01_Parts_j4 (m : Nat) (x0 : Dt) (x1 : List Dt) : Option (List Dt) :=
  (bif ((Dt.I x0 0) == 5) then
    ref01_Parts_j5 m 0 x0 x1
  else
    ref01_Parts_j9 m x1)
noncomputable def ref01_Parts_l1 (m : Nat) : Nat → Int → Dt → List Dt → Option (List Dt)
  | 0, _, _, _ => none
  | M1 + 1, x0, x1, x2 =>
    (bif (decide (x0 < (List.length (Dt.L x1 3) : Int))) then
    ref01_Parts_j2 m (ref01_Parts_l1 m M1) x0 x1 x2
  else
    ref01_Parts_j4 m x1 x2)
noncomputable def ref01_Parts_j0 (m : Nat) (x0 : Int) (x1 : Dt) (x2 : List Dt) : Option (List Dt) :=
  ref01_Parts_l1 m (Nat.succ m) x0 x1 x2
noncomputable def ref01_Parts : Nat → Dt → Option (List Dt)
  | 0, _ => none
  | m + 1, a0 =>
    (bif ((Dt.I a0 0) == 6) then
    ref01_Parts_j0 m 0 a0 []
  else
    ref01_Parts_j4 m a0 [])
noncomputable def ref01_levels_j5 (m : Nat) (self45 : Dt → Int → Option Int) (rec3 : Int → List Dt → Int → Int → Option Int) (x0 : Int) (x1 : List Dt) (x2 x3 : Int) : Option Int :=
  rec3 x0 x1 x2 (IntKind.wrap .i64 (x3 + 1))
noncomputable def ref01_levels_j4 (m : Nat) (self45 : Dt → Int → Option Int) (rec3 : Int → List Dt → Int → Int → Option Int) (x0 : Int) (x1 : List Dt) (x2 x3 : Int) : Option Int :=
  ((idx x1 x3).bind fun v1 =>
    ((self45 v1 (IntKind.wrap .i64 (x0 - 1))).bind fun r2 =>
 ref01_levels_j5 m self45 rec3 x0 x1 (bif (decide (x2 < r2)) then r2 else x2) x3))
noncomputable def ref01_levels_j6 (m : Nat) (self45 : Dt → Int → Option Int) (x0 : Int) : Option Int :=
  some (IntKind.wrap .i64 (x0 + 1))
noncomputable def ref01_levels_l3 (m : Nat) (self45 : Dt → Int → Option Int) : Nat → Int → List Dt → Int → Int → Option Int
  | 0, _, _, _, _ => none
  | M3 + 1, x0, x1, x2, x3 =>
    (bif (decide (x3 < (List.length x1 : Int))) then
    ref01_levels_j4 m self45 (ref01_levels_l3 m self45 M3) x0 x1 x2 x3
  else
    ref01_levels_j6 m self45 x2)
noncomputable def ref01_levels_j2 (m : Nat) (self45 : Dt → Int → Option Int) (x0 : Int) (x1 : List Dt) (x2 x3 : Int) : Option Int :=
  ref01_levels_l3 m self45 (Nat.succ m) x0 x1 x2 x3
noncomputable def ref01_levels_j1 (m : Nat) (self45 : Dt → Int → Option Int) (x0 : Int) (x1 : List Dt) : Option Int :=
  ref01_levels_j2 m self45 x0 x1 0 0
noncomputable def ref01_levels_j0 (m : Nat) (self45 : Dt → Int → Option Int) (x0 : Int) (x1 : List Dt) (x2 : Bool) : Option Int :=
  (bif x2 then
    some 1
  else
    ref01_levels_j1 m self45 x0 x1)
noncomputable def ref01_levels : Nat → Dt → Int → Option Int
  | 0, _, _ => none
  | m + 1, a0, a1 =>
    ((ref01_Parts m a0).bind fun r0 =>
    (bif (decide (a1 < 2)) then
 ref01_levels_j0 m (ref01_levels m) a1 r0 true
    else
 ref01_levels_j0 m (ref01_levels m) a1 r0 ((List.length r0 : Int) == 0)))
noncomputable def ref01_Depth : Nat → Dt → Option Int
  | 0, _ => none
  | m + 1, a0 =>
    ((ref01_levels m a0 17).bind fun r0 =>
    some r0)
noncomputable def ref01_count_j3 (m : Nat) (self46 : Dt → Int → Option Int) (rec1 : Int → Int → List Dt → Int → Option Int) (x0 x1 : Int) (x2 : List Dt) (x3 : Int) : Option Int :=
  rec1 x0 x1 x2 (IntKind.wrap .i64 (x3 + 1))
noncomputable def ref01_count_j2 (m : Nat) (self46 : Dt → Int → Option Int) (rec1 : Int → Int → List Dt → Int → Option Int) (x0 x1 : Int) (x2 : List Dt) (x3 : Int) : Option Int :=
  ((idx x2 x3).bind fun v1 =>
    ((self46 v1 (IntKind.wrap .i64 (x0 - x1))).bind fun r2 =>
 ref01_count_j3 m self46 rec1 x0 (IntKind.wrap .i64 (x1 + r2)) x2 x3))
noncomputable def ref01_count_j4 (m : Nat) (self46 : Dt → Int → Option Int) (x0 : Int) : Option Int :=
  some x0
noncomputable def ref01_count_l1 (m : Nat) (self46 : Dt → Int → Option Int) : Nat → Int → Int → List Dt → Int → Option Int
  | 0, _, _, _, _ => none
  | M1 + 1, x0, x1, x2, x3 =>
    (bif (decide (x3 < (List.length x2 : Int))) then
    (bif (decide (x1 < x0)) then
 ref01_count_j2 m self46 (ref01_count_l1 m self46 M1) x0 x1 x2 x3
    else
 ref01_count_j4 m self46 x1)
  else
    ref01_count_j4 m self46 x1)
noncomputable def ref01_count_j0 (m : Nat) (self46 : Dt → Int → Option Int) (x0 x1 : Int) (x2 : List Dt) (x3 : Int) : Option Int :=
  ref01_count_l1 m self46 (Nat.succ m) x0 x1 x2 x3
noncomputable def ref01_count : Nat → Dt → Int → Option Int
  | 0, _, _ => none
  | m + 1, a0, a1 =>
    ((ref01_Parts m a0).bind fun r0 =>
    ref01_count_j0 m (ref01_count m) a1 1 r0 0)
noncomputable def ref01_Nodes : Nat → Dt → Option Int
  | 0, _ => none
  | m + 1, a0 =>
    ((ref01_count m a0 1025).bind fun r0 =>
    some r0)
noncomputable def ref01_tail_j5 (m : Nat) (rec2 : ByteArray → Int → Int → Int → Option Bool) (x0 : ByteArray) (x1 x2 x3 : Int) : Option Bool :=
  rec2 x0 x1 x2 (IntKind.wrap .i64 (x3 + 1))
noncomputable def ref01_tail_j4 (m : Nat) (rec2 : ByteArray → Int → Int → Int → Option Bool) (x0 : ByteArray) (x1 x2 x3 : Int) (x4 : Bool) : Option Bool :=
  (bif x4 then
    some false
  else
    ref01_tail_j5 m rec2 x0 x1 x2 x3)
noncomputable def ref01_tail_j3 (m : Nat) (rec2 : ByteArray → Int → Int → Int → Option Bool) (x0 : ByteArray) (x1 x2 x3 : Int) : Option Bool :=
  ((idxS x0 (IntKind.wrap .i64 (x1 + x3))).bind fun v0 =>
    (bif (decide (v0 < 128)) then
 ref01_tail_j4 m rec2 x0 x1 x2 x3 true
    else
 ((idxS x0 (IntKind.wrap .i64 (x1 + x3))).bind fun v1 =>
 ref01_tail_j4 m rec2 x0 x1 x2 x3 (decide (191 < v1)))))
noncomputable def ref01_tail_j6 (m : Nat) : Option Bool :=
  some true
noncomputable def ref01_tail_l2 (m : Nat) : Nat → ByteArray → Int → Int → Int → Option Bool
  | 0, _, _, _, _ => none
  | M2 + 1, x0, x1, x2, x3 =>
    (bif (decide (x3 < x2)) then
    ref01_tail_j3 m (ref01_tail_l2 m M2) x0 x1 x2 x3
  else
    ref01_tail_j6 m)
noncomputable def ref01_tail_j1 (m : Nat) (x0 : ByteArray) (x1 x2 x3 : Int) : Option Bool :=
  ref01_tail_l2 m (Nat.succ m) x0 x1 x2 x3
noncomputable def ref01_tail_j0 (m : Nat) (x0 : ByteArray) (x1 x2 : Int) : Option Bool :=
  ref01_tail_j1 m x0 x1 x2 0
noncomputable def ref01_tail : Nat → ByteArray → Int → Int → Option Bool
  | 0, _, _, _ => none
  | m + 1, a0, a1, a2 =>
    (bif (decide ((ByteArray.size a0 : Int) < (IntKind.wrap .i64 (a1 + a2)))) then
    some false
  else
    ref01_tail_j0 m a0 a1 a2)
noncomputable def ref01_UTF8_j6 (m : Nat) (rec1 : ByteArray → Int → Option Bool) (x0 : ByteArray) (x1 x2 : Int) : Option Bool :=
  rec1 x0 (IntKind.wrap .i64 ((IntKind.wrap .i64 (x1 + x2)) + 1))
noncomputable def ref01_UTF8_j5 (m : Nat) (rec1 : ByteArray → Int → Option Bool) (x0 : ByteArray) (x1 x2 : Int) (x3 : Bool) : Option Bool :=
  (bif x3 then
    some false
  else
    ref01_UTF8_j6 m rec1 x0 x1 x2)
noncomputable def ref01_UTF8_j4 (m : Nat) (rec1 : ByteArray → Int → Option Bool) (x0 : ByteArray) (x1 x2 x3 : Int) : Option Bool :=
  (bif (x2 == 224) then
    ((idxS x0 (IntKind.wrap .i64 (x1 + 1))).bind fun v2 =>
 (bif (decide (v2 < 160)) then
 ref01_UTF8_j5 m rec1 x0 x1 x3 true
 else
 (bif (x2 == 237) then
 ((idxS x0 (IntKind.wrap .i64 (x1 + 1))).bind fun v3 =>
 (bif (decide (159 < v3)) then
 ref01_UTF8_j5 m rec1 x0 x1 x3 true
 else
 (bif (x2 == 240) then
 ((idxS x0 (IntKind.wrap .i64 (x1 + 1))).bind fun v4 =>
 (bif (decide (v4 < 144)) then
 ref01_UTF8_j5 m rec1 x0 x1 x3 true
 else
 (bif (x2 == 244) then
 ((idxS x0 (IntKind.wrap .i64 (x1 + 1))).bind fun v5 =>
 ref01_UTF8_j5 m rec1 x0 x1 x3 (decide (143 < v5)))
 else
 ref01_UTF8_j5 m rec1 x0 x1 x3 false)))
 else
 (bif (x2 == 244) then
 ((idxS x0 (IntKind.wrap .i64 (x1 + 1))).bind fun v6 =>
 ref01_UTF8_j5 m rec1 x0 x1 x3 (decide (143 < v6)))
 else
 ref01_UTF8_j5 m rec1 x0 x1 x3 false))))
 else
 (bif (x2 == 240) then
 ((idxS x0 (IntKind.wrap .i64 (x1 + 1))).bind fun v7 =>
 (bif (decide (v7 < 144)) then
 ref01_UTF8_j5 m rec1 x0 x1 x3 true
 else
 (bif (x2 == 244) then
 ((idxS x0 (IntKind.wrap .i64 (x1 + 1))).bind fun v8 =>
 ref01_UTF8_j5 m rec1 x0 x1 x3 (decide (143 < v8)))
 else
 ref01_UTF8_j5 m rec1 x0 x1 x3 false)))
 else
 (bif (x2 == 244) then
 ((idxS x0 (IntKind.wrap .i64 (x1 + 1))).bind fun v9 =>
 ref01_UTF8_j5 m rec1 x0 x1 x3 (decide (143 < v9)))
 else
 ref01_UTF8_j5 m rec1 x0 x1 x3 false)))))
  else
    (bif (x2 == 237) then
 ((idxS x0 (IntKind.wrap .i64 (x1 + 1))).bind fun v10 =>
 (bif (decide (159 < v10)) then
 ref01_UTF8_j5 m rec1 x0 x1 x3 true
 else
 (bif (x2 == 240) then
 ((idxS x0 (IntKind.wrap .i64 (x1 + 1))).bind fun v11 =>
 (bif (decide (v11 < 144)) then
 ref01_UTF8_j5 m rec1 x0 x1 x3 true
 else
 (bif (x2 == 244) then
 ((idxS x0 (IntKind.wrap .i64 (x1 + 1))).bind fun v12 =>
 ref01_UTF8_j5 m rec1 x0 x1 x3 (decide (143 < v12)))
 else
 ref01_UTF8_j5 m rec1 x0 x1 x3 false)))
 else
 (bif (x2 == 244) then
 ((idxS x0 (IntKind.wrap .i64 (x1 + 1))).bind fun v13 =>
 ref01_UTF8_j5 m rec1 x0 x1 x3 (decide (143 < v13)))
 else
 ref01_UTF8_j5 m rec1 x0 x1 x3 false))))
    else
 (bif (x2 == 240) then
 ((idxS x0 (IntKind.wrap .i64 (x1 + 1))).bind fun v14 =>
 (bif (decide (v14 < 144)) then
 ref01_UTF8_j5 m rec1 x0 x1 x3 true
 else
 (bif (x2 == 244) then
 ((idxS x0 (IntKind.wrap .i64 (x1 + 1))).bind fun v15 =>
 ref01_UTF8_j5 m rec1 x0 x1 x3 (decide (143 < v15)))
 else
 ref01_UTF8_j5 m rec1 x0 x1 x3 false)))
 else
 (bif (x2 == 244) then
 ((idxS x0 (IntKind.wrap .i64 (x1 + 1))).bind fun v16 =>
 ref01_UTF8_j5 m rec1 x0 x1 x3 (decide (143 < v16)))
 else
 ref01_UTF8_j5 m rec1 x0 x1 x3 false))))
noncomputable def ref01_UTF8_j3 (m : Nat) (rec1 : ByteArray → Int → Option Bool) (x0 : ByteArray) (x1 x2 x3 : Int) : Option Bool :=
  ((ref01_tail m x0 (IntKind.wrap .i64 (x1 + 1)) x3).bind fun r1 =>
    (bif (Bool.not r1) then
 some false
    else
 ref01_UTF8_j4 m rec1 x0 x1 x2 x3))
noncomputable def ref01_UTF8_j9 (m : Nat) (rec1 : ByteArray → Int → Option Bool) (x0 : ByteArray) (x1 x2 : Int) (x3 : Bool) : Option Bool :=
  (bif x3 then
    ref01_UTF8_j3 m rec1 x0 x1 x2 3
  else
    some false)
noncomputable def ref01_UTF8_j8 (m : Nat) (rec1 : ByteArray → Int → Option Bool) (x0 : ByteArray) (x1 x2 : Int) (x3 : Bool) : Option Bool :=
  (bif x3 then
    ref01_UTF8_j3 m rec1 x0 x1 x2 2
  else
    (bif (decide (240 ≤ x2)) then
 ref01_UTF8_j9 m rec1 x0 x1 x2 (decide (x2 ≤ 244))
    else
 ref01_UTF8_j9 m rec1 x0 x1 x2 false))
noncomputable def ref01_UTF8_j7 (m : Nat) (rec1 : ByteArray → Int → Option Bool) (x0 : ByteArray) (x1 x2 : Int) (x3 : Bool) : Option Bool :=
  (bif x3 then
    ref01_UTF8_j3 m rec1 x0 x1 x2 1
  else
    (bif (decide (224 ≤ x2)) then
 ref01_UTF8_j8 m rec1 x0 x1 x2 (decide (x2 ≤ 239))
    else
 ref01_UTF8_j8 m rec1 x0 x1 x2 false))
noncomputable def ref01_UTF8_j2 (m : Nat) (rec1 : ByteArray → Int → Option Bool) (x0 : ByteArray) (x1 : Int) : Option Bool :=
  ((idxS x0 x1).bind fun v0 =>
    (bif (decide (v0 < 128)) then
 ref01_UTF8_j3 m rec1 x0 x1 v0 0
    else
 (bif (decide (194 ≤ v0)) then
 ref01_UTF8_j7 m rec1 x0 x1 v0 (decide (v0 ≤ 223))
 else
 ref01_UTF8_j7 m rec1 x0 x1 v0 false)))
noncomputable def ref01_UTF8_j10 (m : Nat) : Option Bool :=
  some true
noncomputable def ref01_UTF8_l1 (m : Nat) : Nat → ByteArray → Int → Option Bool
  | 0, _, _ => none
  | M1 + 1, x0, x1 =>
    (bif (decide (x1 < (ByteArray.size x0 : Int))) then
    ref01_UTF8_j2 m (ref01_UTF8_l1 m M1) x0 x1
  else
    ref01_UTF8_j10 m)
noncomputable def ref01_UTF8_j0 (m : Nat) (x0 : ByteArray) (x1 : Int) : Option Bool :=
  ref01_UTF8_l1 m (Nat.succ m) x0 x1
noncomputable def ref01_UTF8 : Nat → ByteArray → Option Bool
  | 0, _ => none
  | m + 1, a0 =>
    ref01_UTF8_j0 m a0 0
noncomputable def ref01_Name_j6 (m : Nat) (rec3 : ByteArray → Int → Option Bool) (x0 : ByteArray) (x1 : Int) : Option Bool :=
  rec3 x0 (IntKind.wrap .i64 (x1 + 1))
noncomputable def ref01_Name_j5 (m : Nat) (rec3 : ByteArray → Int → Option Bool) (x0 : ByteArray) (x1 : Int) (x2 : Bool) : Option Bool :=
  (bif x2 then
    some false
  else
    ref01_Name_j6 m rec3 x0 x1)
noncomputable def ref01_Name_j4 (m : Nat) (rec3 : ByteArray → Int → Option Bool) (x0 : ByteArray) (x1 : Int) : Option Bool :=
  ((idxS x0 x1).bind fun v0 =>
    (bif (decide (v0 < 33)) then
 ref01_Name_j5 m rec3 x0 x1 true
    else
 ((idxS x0 x1).bind fun v1 =>
 (bif (decide (126 < v1)) then
 ref01_Name_j5 m rec3 x0 x1 true
 else
 ((idxS x0 x1).bind fun v2 =>
 ref01_Name_j5 m rec3 x0 x1 (v2 == 46))))))
noncomputable def ref01_Name_j7 (m : Nat) : Option Bool :=
  some true
noncomputable def ref01_Name_l3 (m : Nat) : Nat → ByteArray → Int → Option Bool
  | 0, _, _ => none
  | M3 + 1, x0, x1 =>
    (bif (decide (x1 < (ByteArray.size x0 : Int))) then
    ref01_Name_j4 m (ref01_Name_l3 m M3) x0 x1
  else
    ref01_Name_j7 m)
noncomputable def ref01_Name_j2 (m : Nat) (x0 : ByteArray) (x1 : Int) : Option Bool :=
  ref01_Name_l3 m (Nat.succ m) x0 x1
noncomputable def ref01_Name_j1 (m : Nat) (x0 : ByteArray) : Option Bool :=
  ref01_Name_j2 m x0 0
noncomputable def ref01_Name_j0 (m : Nat) (x0 : ByteArray) (x1 : Bool) : Option Bool :=
  (bif x1 then
    some false
  else
    ref01_Name_j1 m x0)
noncomputable def ref01_Name : Nat → ByteArray → Option Bool
  | 0, _ => none
  | m + 1, a0 =>
    (bif (decide ((ByteArray.size a0 : Int) < 1)) then
    ref01_Name_j0 m a0 true
  else
    (bif (decide (32 < (ByteArray.size a0 : Int))) then
 ref01_Name_j0 m a0 true
    else
 ((idxS a0 0).bind fun v3 =>
 ref01_Name_j0 m a0 (v3 == 36))))
noncomputable def ref14_different_j7 (m : Nat) (rec1 : List Dt → Int → Option Bool) (rec5 : List Dt → Int → Int → Option Bool) (x0 : List Dt) (x1 x2 : Int) : Option Bool :=
  rec5 x0 x1 (IntKind.wrap .i64 (x2 + 1))
noncomputable def ref14_different_j6 (m : Nat) (rec1 : List Dt → Int → Option Bool) (rec5 : List Dt → Int → Int → Option Bool) (x0 : List Dt) (x1 x2 : Int) : Option Bool :=
  ((idx x0 x2).bind fun v2 =>
    ((idx x0 x1).bind fun v3 =>
 (bif ((ByteArray.toList (Dt.toStr v2)) == (ByteArray.toList (Dt.toStr v3))) then
 some false
 else
 ref14_different_j7 m rec1 rec5 x0 x1 x2)))
noncomputable def ref14_different_j8 (m : Nat) (rec1 : List Dt → Int → Option Bool) (x0 : List Dt) (x1 : Int) : Option Bool :=
  rec1 x0 (IntKind.wrap .i64 (x1 + 1))
noncomputable def ref14_different_l5 (m : Nat) (rec1 : List Dt → Int → Option Bool) : Nat → List Dt → Int → Int → Option Bool
  | 0, _, _, _ => none
  | M5 + 1, x0, x1, x2 =>
    (bif (decide (x2 < x1)) then
    ref14_different_j6 m rec1 (ref14_different_l5 m rec1 M5) x0 x1 x2
  else
    ref14_different_j8 m rec1 x0 x1)
noncomputable def ref14_different_j4 (m : Nat) (rec1 : List Dt → Int → Option Bool) (x0 : List Dt) (x1 x2 : Int) : Option Bool :=
  ref14_different_l5 m rec1 (Nat.succ m) x0 x1 x2
noncomputable def ref14_different_j3 (m : Nat) (rec1 : List Dt → Int → Option Bool) (x0 : List Dt) (x1 : Int) : Option Bool :=
  ref14_different_j4 m rec1 x0 x1 0
noncomputable def ref14_different_j2 (m : Nat) (rec1 : List Dt → Int → Option Bool) (x0 : List Dt) (x1 : Int) : Option Bool :=
  ((idx x0 x1).bind fun v0 =>
    ((ref01_Name m (Dt.toStr v0)).bind fun r1 =>
 (bif (Bool.not r1) then
 some false
 else
 ref14_different_j3 m rec1 x0 x1)))
noncomputable def ref14_different_j9 (m : Nat) : Option Bool :=
  some true
noncomputable def ref14_different_l1 (m : Nat) : Nat → List Dt → Int → Option Bool
  | 0, _, _ => none
  | M1 + 1, x0, x1 =>
    (bif (decide (x1 < (List.length x0 : Int))) then
    ref14_different_j2 m (ref14_different_l1 m M1) x0 x1
  else
    ref14_different_j9 m)
noncomputable def ref14_different_j0 (m : Nat) (x0 : List Dt) (x1 : Int) : Option Bool :=
  ref14_different_l1 m (Nat.succ m) x0 x1
noncomputable def ref14_different : Nat → List Dt → Option Bool
  | 0, _ => none
  | m + 1, a0 =>
    ref14_different_j0 m a0 0
noncomputable def ref01_wide_j6 (m : Nat) (rec3 : ByteArray → Int → Option Bool) (x0 : ByteArray) (x1 : Int) : Option Bool :=
  rec3 x0 (IntKind.wrap .i64 (x1 + 1))
noncomputable def ref01_wide_j5 (m : Nat) (rec3 : ByteArray → Int → Option Bool) (x0 : ByteArray) (x1 : Int) (x2 : Bool) : Option Bool :=
  (bif x2 then
    some false
  else
    ref01_wide_j6 m rec3 x0 x1)
noncomputable def ref01_wide_j4 (m : Nat) (rec3 : ByteArray → Int → Option Bool) (x0 : ByteArray) (x1 : Int) : Option Bool :=
  ((idxS x0 x1).bind fun v0 =>
    (bif (decide (v0 < 32)) then
 ref01_wide_j5 m rec3 x0 x1 true
    else
 ((idxS x0 x1).bind fun v1 =>
 ref01_wide_j5 m rec3 x0 x1 (decide (126 < v1)))))
noncomputable def ref01_wide_j7 (m : Nat) : Option Bool :=
  some true
noncomputable def ref01_wide_l3 (m : Nat) : Nat → ByteArray → Int → Option Bool
  | 0, _, _ => none
  | M3 + 1, x0, x1 =>
    (bif (decide (x1 < (ByteArray.size x0 : Int))) then
    ref01_wide_j4 m (ref01_wide_l3 m M3) x0 x1
  else
    ref01_wide_j7 m)
noncomputable def ref01_wide_j2 (m : Nat) (x0 : ByteArray) (x1 : Int) : Option Bool :=
  ref01_wide_l3 m (Nat.succ m) x0 x1
noncomputable def ref01_wide_j1 (m : Nat) (x0 : ByteArray) : Option Bool :=
  ref01_wide_j2 m x0 0
noncomputable def ref01_wide_j0 (m : Nat) (x0 : ByteArray) (x1 : Bool) : Option Bool :=
  (bif x1 then
    some false
  else
    ref01_wide_j1 m x0)
noncomputable def ref01_wide : Nat → ByteArray → Option Bool
  | 0, _ => none
  | m + 1, a0 =>
    (bif (decide ((ByteArray.size a0 : Int) < 1)) then
    ref01_wide_j0 m a0 true
  else
    ref01_wide_j0 m a0 (decide (128 < (ByteArray.size a0 : Int))))
noncomputable def ref01_formed_j10 (m : Nat) (self31 : Dt → Bool → Option Bool) (self48 : Dt → Bool → Option Bool) (rec8 : Bool → Int → Dt → Option Bool) (x0 : Bool) (x1 : Int) (x2 : Dt) : Option Bool :=
  rec8 x0 (IntKind.wrap .i64 (x1 + 1)) x2
noncomputable def ref01_formed_j9 (m : Nat) (self31 : Dt → Bool → Option Bool) (self48 : Dt → Bool → Option Bool) (rec8 : Bool → Int → Dt → Option Bool) (x0 : Bool) (x1 : Int) (x2 : Dt) : Option Bool :=
  ((idx (Dt.L x2 3) x1).bind fun v1 =>
    ((self31 v1 x0).bind fun r2 =>
 (bif (Bool.not r2) then
 some false
 else
 ref01_formed_j10 m self31 self48 rec8 x0 x1 x2)))
noncomputable def ref01_formed_j11 (m : Nat) (self31 : Dt → Bool → Option Bool) (self48 : Dt → Bool → Option Bool) (x0 : Bool) (x1 : Dt) : Option Bool :=
  ((self48 x1 x0).bind fun r3 =>
    some r3)
noncomputable def ref01_formed_l8 (m : Nat) (self31 : Dt → Bool → Option Bool) (self48 : Dt → Bool → Option Bool) : Nat → Bool → Int → Dt → Option Bool
  | 0, _, _, _ => none
  | M8 + 1, x0, x1, x2 =>
    (bif (decide (x1 < (List.length (Dt.L x2 3) : Int))) then
    ref01_formed_j9 m self31 self48 (ref01_formed_l8 m self31 self48 M8) x0 x1 x2
  else
    ref01_formed_j11 m self31 self48 x0 x2)
noncomputable def ref01_formed_j7 (m : Nat) (self31 : Dt → Bool → Option Bool) (self48 : Dt → Bool → Option Bool) (x0 : Bool) (x1 : Int) (x2 : Dt) : Option Bool :=
  ref01_formed_l8 m self31 self48 (Nat.succ m) x0 x1 x2
noncomputable def ref01_formed_j6 (m : Nat) (self31 : Dt → Bool → Option Bool) (self48 : Dt → Bool → Option Bool) (x0 : Bool) (x1 : Dt) : Option Bool :=
  ref01_formed_j7 m self31 self48 x0 0 x1
noncomputable def ref01_formed_j5 (m : Nat) (self31 : Dt → Bool → Option Bool) (self48 : Dt → Bool → Option Bool) (x0 : Bool) (x1 : Dt) : Option Bool :=
  (bif ((Dt.I x1 0) == 9) then
    (bif ((Dt.I x1 1) == 0) then
 some true
    else
 some ((Dt.I x1 1) == 1))
  else
    (bif ((Dt.I x1 0) == 10) then
 some (decide (0 ≤ (Dt.I x1 1)))
    else
 (bif ((Dt.I x1 0) == 4) then
 (bif (decide ((ByteArray.size (Dt.S x1 2) : Int) ≤ 4096)) then
 ((ref01_UTF8 m (Dt.S x1 2)).bind fun r0 =>
 some r0)
 else
 some false)
 else
 (bif ((Dt.I x1 0) == 7) then
 some (decide ((ByteArray.size (Dt.S x1 2) : Int) ≤ 4096))
 else
 (bif ((Dt.I x1 0) == 8) then
 some ((ByteArray.size (Dt.S x1 2) : Int) == 12)
 else
 ref01_formed_j6 m self31 self48 x0 x1)))))
noncomputable def ref01_formed_j4 (m : Nat) (self31 : Dt → Bool → Option Bool) (self48 : Dt → Bool → Option Bool) (x0 x1 : Bool) (x2 : Dt) : Option Bool :=
  (bif x1 then
    some false
  else
    ref01_formed_j5 m self31 self48 x0 x2)
noncomputable def ref01_formed_j3 (m : Nat) (self31 : Dt → Bool → Option Bool) (self48 : Dt → Bool → Option Bool) (x0 x1 x2 : Bool) (x3 : Dt) : Option Bool :=
  (bif (Bool.not x1) then
    (bif (Bool.not ((ByteArray.toList (Dt.S x3 2)) == [])) then
 ref01_formed_j4 m self31 self48 x0 true x3
    else
 (bif (Bool.not x2) then
 (bif ((Dt.I x3 1) != 0) then
 ref01_formed_j4 m self31 self48 x0 true x3
 else
 (bif (decide ((Dt.I x3 0) < 1)) then
 ref01_formed_j4 m self31 self48 x0 true x3
 else
 ref01_formed_j4 m self31 self48 x0 (decide (11 < (Dt.I x3 0))) x3))
 else
 (bif (decide ((Dt.I x3 0) < 1)) then
 ref01_formed_j4 m self31 self48 x0 true x3
 else
 ref01_formed_j4 m self31 self48 x0 (decide (11 < (Dt.I x3 0))) x3)))
  else
    (bif (Bool.not x2) then
 (bif ((Dt.I x3 1) != 0) then
 ref01_formed_j4 m self31 self48 x0 true x3
 else
 (bif (decide ((Dt.I x3 0) < 1)) then
 ref01_formed_j4 m self31 self48 x0 true x3
 else
 ref01_formed_j4 m self31 self48 x0 (decide (11 < (Dt.I x3 0))) x3))
    else
 (bif (decide ((Dt.I x3 0) < 1)) then
 ref01_formed_j4 m self31 self48 x0 true x3
 else
 ref01_formed_j4 m self31 self48 x0 (decide (11 < (Dt.I x3 0))) x3)))
noncomputable def ref01_formed_j2 (m : Nat) (self31 : Dt → Bool → Option Bool) (self48 : Dt → Bool → Option Bool) (x0 x1 : Bool) (x2 : Dt) : Option Bool :=
  (bif ((Dt.I x2 0) == 3) then
    ref01_formed_j3 m self31 self48 x0 x1 true x2
  else
    (bif ((Dt.I x2 0) == 9) then
 ref01_formed_j3 m self31 self48 x0 x1 true x2
    else
 ref01_formed_j3 m self31 self48 x0 x1 ((Dt.I x2 0) == 10) x2))
noncomputable def ref01_formed_j1 (m : Nat) (self31 : Dt → Bool → Option Bool) (self48 : Dt → Bool → Option Bool) (x0 : Bool) (x1 : Dt) : Option Bool :=
  (bif ((Dt.I x1 0) == 4) then
    ref01_formed_j2 m self31 self48 x0 true x1
  else
    (bif ((Dt.I x1 0) == 7) then
 ref01_formed_j2 m self31 self48 x0 true x1
    else
 ref01_formed_j2 m self31 self48 x0 ((Dt.I x1 0) == 8) x1))
noncomputable def ref01_formed_j0 (m : Nat) (self31 : Dt → Bool → Option Bool) (self48 : Dt → Bool → Option Bool) (x0 x1 : Bool) (x2 : Dt) : Option Bool :=
  (bif x1 then
    some false
  else
    ref01_formed_j1 m self31 self48 x0 x2)
noncomputable def ref01_fields_j8 (m : Nat) (self31 : Dt → Bool → Option Bool) (rec1 : Bool → Int → Dt → Option Bool) (rec6 : Bool → Int → Int → Dt → Dt → Option Bool) (x0 : Bool) (x1 x2 : Int) (x3 x4 : Dt) : Option Bool :=
  rec6 x0 x1 (IntKind.wrap .i64 (x2 + 1)) x3 x4
noncomputable def ref01_fields_j7 (m : Nat) (self31 : Dt → Bool → Option Bool) (rec1 : Bool → Int → Dt → Option Bool) (rec6 : Bool → Int → Int → Dt → Dt → Option Bool) (x0 : Bool) (x1 x2 : Int) (x3 x4 : Dt) : Option Bool :=
  ((idx (Dt.L x3 4) x2).bind fun v2 =>
    (bif ((ByteArray.toList (Dt.S v2 0)) == (ByteArray.toList (Dt.S x4 0))) then
 some false
    else
 ref01_fields_j8 m self31 rec1 rec6 x0 x1 x2 x3 x4))
noncomputable def ref01_fields_j9 (m : Nat) (self31 : Dt → Bool → Option Bool) (rec1 : Bool → Int → Dt → Option Bool) (x0 : Bool) (x1 : Int) (x2 : Dt) : Option Bool :=
  rec1 x0 (IntKind.wrap .i64 (x1 + 1)) x2
noncomputable def ref01_fields_l6 (m : Nat) (self31 : Dt → Bool → Option Bool) (rec1 : Bool → Int → Dt → Option Bool) : Nat → Bool → Int → Int → Dt → Dt → Option Bool
  | 0, _, _, _, _, _ => none
  | M6 + 1, x0, x1, x2, x3, x4 =>
    (bif (decide (x2 < x1)) then
    ref01_fields_j7 m self31 rec1 (ref01_fields_l6 m self31 rec1 M6) x0 x1 x2 x3 x4
  else
    ref01_fields_j9 m self31 rec1 x0 x1 x3)
noncomputable def ref01_fields_j5 (m : Nat) (self31 : Dt → Bool → Option Bool) (rec1 : Bool → Int → Dt → Option Bool) (x0 : Bool) (x1 x2 : Int) (x3 x4 : Dt) : Option Bool :=
  ref01_fields_l6 m self31 rec1 (Nat.succ m) x0 x1 x2 x3 x4
noncomputable def ref01_fields_j4 (m : Nat) (self31 : Dt → Bool → Option Bool) (rec1 : Bool → Int → Dt → Option Bool) (x0 : Bool) (x1 : Int) (x2 x3 : Dt) : Option Bool :=
  ref01_fields_j5 m self31 rec1 x0 x1 0 x2 x3
noncomputable def ref01_fields_j3 (m : Nat) (self31 : Dt → Bool → Option Bool) (rec1 : Bool → Int → Dt → Option Bool) (x0 : Bool) (x1 : Int) (x2 : Bool) (x3 x4 : Dt) : Option Bool :=
  (bif x2 then
    some false
  else
    ref01_fields_j4 m self31 rec1 x0 x1 x3 x4)
noncomputable def ref01_fields_j2 (m : Nat) (self31 : Dt → Bool → Option Bool) (rec1 : Bool → Int → Dt → Option Bool) (x0 : Bool) (x1 : Int) (x2 : Dt) : Option Bool :=
  ((idx (Dt.L x2 4) x1).bind fun v0 =>
    (bif x0 then
 ((ref01_Name m (Dt.S v0 0)).bind fun r1 =>
 (bif (Bool.not r1) then
 ref01_fields_j3 m self31 rec1 x0 x1 true x2 v0
 else
 (bif (Bool.not x0) then
 ((ref01_wide m (Dt.S v0 0)).bind fun r3 =>
 (bif (Bool.not r3) then
 ref01_fields_j3 m self31 rec1 x0 x1 true x2 v0
 else
 ((self31 (Dt.fld v0 1) x0).bind fun r4 =>
 ref01_fields_j3 m self31 rec1 x0 x1 (Bool.not r4) x2 v0)))
 else
 ((self31 (Dt.fld v0 1) x0).bind fun r5 =>
 ref01_fields_j3 m self31 rec1 x0 x1 (Bool.not r5) x2 v0))))
    else
 (bif (Bool.not x0) then
 ((ref01_wide m (Dt.S v0 0)).bind fun r6 =>
 (bif (Bool.not r6) then
 ref01_fields_j3 m self31 rec1 x0 x1 true x2 v0
 else
 ((self31 (Dt.fld v0 1) x0).bind fun r7 =>
 ref01_fields_j3 m self31 rec1 x0 x1 (Bool.not r7) x2 v0)))
 else
 ((self31 (Dt.fld v0 1) x0).bind fun r8 =>
 ref01_fields_j3 m self31 rec1 x0 x1 (Bool.not r8) x2 v0))))
noncomputable def ref01_fields_j10 (m : Nat) (self31 : Dt → Bool → Option Bool) : Option Bool :=
  some true
noncomputable def ref01_fields_l1 (m : Nat) (self31 : Dt → Bool → Option Bool) : Nat → Bool → Int → Dt → Option Bool
  | 0, _, _, _ => none
  | M1 + 1, x0, x1, x2 =>
    (bif (decide (x1 < (List.length (Dt.L x2 4) : Int))) then
    ref01_fields_j2 m self31 (ref01_fields_l1 m self31 M1) x0 x1 x2
  else
    ref01_fields_j10 m self31)
noncomputable def ref01_fields_j0 (m : Nat) (self31 : Dt → Bool → Option Bool) (x0 : Bool) (x1 : Int) (x2 : Dt) : Option Bool :=
  ref01_fields_l1 m self31 (Nat.succ m) x0 x1 x2
mutual
noncomputable def ref01_formed : Nat → Dt → Bool → Option Bool
  | 0, _, _ => none
  | m + 1, a0, a1 =>
    (bif ((Dt.I a0 0) != 6) then
    (bif (decide (0 < (List.length (Dt.L a0 3) : Int))) then
 ref01_formed_j0 m (ref01_formed m) (ref01_fields m) a1 true a0
    else
 (bif ((Dt.I a0 0) != 5) then
 ref01_formed_j0 m (ref01_formed m) (ref01_fields m) a1 (decide (0 < (List.length (Dt.L a0 4) : Int))) a0
 else
 ref01_formed_j0 m (ref01_formed m) (ref01_fields m) a1 false a0))
  else
    (bif ((Dt.I a0 0) != 5) then
 ref01_formed_j0 m (ref01_formed m) (ref01_fields m) a1 (decide (0 < (List.length (Dt.L a0 4) : Int))) a0
    else
 ref01_formed_j0 m (ref01_formed m) (ref01_fields m) a1 false a0))
noncomputable def ref01_fields : Nat → Dt → Bool → Option Bool
  | 0, _, _ => none
  | m + 1, a0, a1 =>
    ref01_fields_j0 m (ref01_formed m) a1 0 a0
end
noncomputable def ref01_Formed : Nat → Dt → Option Bool
  | 0, _ => none
  | m + 1, a0 =>
    ((ref01_Depth m a0).bind fun r0 =>
    (bif (decide (r0 ≤ 16)) then
 ((ref01_Nodes m a0).bind fun r1 =>
 (bif (decide (r1 ≤ 1024)) then
 ((ref01_formed m a0 false).bind fun r2 =>
 some r2)
 else
 some false))
    else
 some false))
noncomputable def ref01_Valid : Nat → Dt → Option Bool
  | 0, _ => none
  | m + 1, a0 =>
    ((ref01_Depth m a0).bind fun r0 =>
    (bif (decide (r0 ≤ 16)) then
 ((ref01_Nodes m a0).bind fun r1 =>
 (bif (decide (r1 ≤ 1024)) then
 ((ref01_formed m a0 true).bind fun r2 =>
 some r2)
 else
 some false))
    else
 some false))
noncomputable def ref14_unused : Nat → Bool → Dt → Option Bool
  | 0, _, _ => none
  | m + 1, a0, a1 =>
    (bif a0 then
    ((ref01_Valid m a1).bind fun r0 =>
 (bif (Bool.not r0) then
 some true
 else
 (bif (Bool.not a0) then
 ((ref01_Same m a1 kza2373).bind fun r1 =>
 some (Bool.not r1))
 else
 some false)))
  else
    (bif (Bool.not a0) then
 ((ref01_Same m a1 kza2373).bind fun r2 =>
 some (Bool.not r2))
    else
 some false))
noncomputable def ref14_single_j3 (m : Nat) (rec1 : Int → Dt → List Dt → Option Int) (x0 : Int) (x1 : Dt) (x2 : List Dt) : Option Int :=
  rec1 (IntKind.wrap .i64 (x0 + 1)) x1 x2
noncomputable def ref14_single_j2 (m : Nat) (rec1 : Int → Dt → List Dt → Option Int) (x0 : Int) (x1 : Dt) (x2 : List Dt) : Option Int :=
  ((idx (Dt.L x1 9) x0).bind fun v0 =>
    ((app x2 [(Dt.str (Dt.S v0 0))]).bind fun v1 =>
 ref14_single_j3 m rec1 x0 x1 v1))
noncomputable def ref14_single_j14 (m : Nat) (rec12 : Int → Dt → Option Int) (x0 : Int) (x1 : Dt) : Option Int :=
  rec12 (IntKind.wrap .i64 (x0 + 1)) x1
noncomputable def ref14_single_j13 (m : Nat) (rec12 : Int → Dt → Option Int) (x0 : Int) (x1 : Dt) : Option Int :=
  ((idx (Dt.L x1 5) x0).bind fun v4 =>
    ((ref01_Valid m v4).bind fun r5 =>
 (bif (Bool.not r5) then
 some 8
 else
 ref14_single_j14 m rec12 x0 x1)))
noncomputable def ref14_single_j15 (m : Nat) : Option Int :=
  some 0
noncomputable def ref14_single_l12 (m : Nat) : Nat → Int → Dt → Option Int
  | 0, _, _ => none
  | M12 + 1, x0, x1 =>
    (bif (decide (x0 < (List.length (Dt.L x1 5) : Int))) then
    ref14_single_j13 m (ref14_single_l12 m M12) x0 x1
  else
    ref14_single_j15 m)
noncomputable def ref14_single_j11 (m : Nat) (x0 : Int) (x1 : Dt) : Option Int :=
  ref14_single_l12 m (Nat.succ m) x0 x1
noncomputable def ref14_single_j10 (m : Nat) (x0 : Dt) : Option Int :=
  ref14_single_j11 m 0 x0
noncomputable def ref14_single_j9 (m : Nat) (x0 : Bool) (x1 : Dt) : Option Int :=
  (bif x0 then
    some 8
  else
    ref14_single_j10 m x1)
noncomputable def ref14_single_j8 (m : Nat) (x0 : Dt) : Option Int :=
  ((ref14_unused m (Dt.B x0 1) (Dt.fld x0 2)).bind fun r3 =>
    (bif r3 then
 ref14_single_j9 m true x0
    else
 ((ref14_unused m (Dt.B x0 3) (Dt.fld x0 4)).bind fun r6 =>
 ref14_single_j9 m r6 x0)))
noncomputable def ref14_single_j7 (m : Nat) (x0 : Bool) (x1 : Dt) : Option Int :=
  (bif x0 then
    some 1
  else
    ref14_single_j8 m x1)
noncomputable def ref14_single_j6 (m : Nat) (x0 : Dt) : Option Int :=
  (bif (decide ((Dt.I x0 0) < 0)) then
    ref14_single_j7 m true x0
  else
    (bif ((Int.tmod (Dt.I x0 0) 2) == 1) then
 ref14_single_j7 m true x0
    else
 (bif (decide (4096 ≤ (Dt.I x0 0))) then
 ref14_single_j7 m true x0
 else
 (bif (decide ((Dt.I x0 6) < 0)) then
 ref14_single_j7 m true x0
 else
 (bif (decide ((Dt.I x0 7) < (-1))) then
 ref14_single_j7 m true x0
 else
 ref14_single_j7 m (decide (1 < (List.length (Dt.L x0 11) : Int))) x0)))))
noncomputable def ref14_single_j5 (m : Nat) (x0 : Bool) (x1 : Dt) : Option Int :=
  (bif x0 then
    some 9
  else
    ref14_single_j6 m x1)
noncomputable def ref14_single_j4 (m : Nat) (x0 : Dt) (x1 : List Dt) : Option Int :=
  ((ref14_different m (Dt.L x0 8)).bind fun r2 =>
    (bif (Bool.not r2) then
 ref14_single_j5 m true x0
    else
 ((ref14_different m x1).bind fun r7 =>
 ref14_single_j5 m (Bool.not r7) x0)))
noncomputable def ref14_single_l1 (m : Nat) : Nat → Int → Dt → List Dt → Option Int
  | 0, _, _, _ => none
  | M1 + 1, x0, x1, x2 =>
    (bif (decide (x0 < (List.length (Dt.L x1 9) : Int))) then
    ref14_single_j2 m (ref14_single_l1 m M1) x0 x1 x2
  else
    ref14_single_j4 m x1 x2)
noncomputable def ref14_single_j0 (m : Nat) (x0 : Int) (x1 : Dt) (x2 : List Dt) : Option Int :=
  ref14_single_l1 m (Nat.succ m) x0 x1 x2
noncomputable def ref14_single : Nat → Dt → Option Int
  | 0, _ => none
  | m + 1, a0 =>
    ref14_single_j0 m 0 a0 []
noncomputable def ref14_check_j8 (m : Nat) (self28 : Dt → Int → Int → Option (Int × Int)) (rec4 : Int → Int → Int → Dt → Option (Int × Int)) (x0 x1 x2 : Int) (x3 : Dt) : Option (Int × Int) :=
  rec4 x0 x1 (IntKind.wrap .i64 (x2 + 1)) x3
noncomputable def ref14_check_j7 (m : Nat) (self28 : Dt → Int → Int → Option (Int × Int)) (rec4 : Int → Int → Int → Dt → Option (Int × Int)) (x0 x1 x2 : Int) (x3 : Dt) : Option (Int × Int) :=
  ref14_check_j8 m self28 rec4 x2 x0 x1 x3
noncomputable def ref14_check_j6 (m : Nat) (self28 : Dt → Int → Int → Option (Int × Int)) (rec4 : Int → Int → Int → Dt → Option (Int × Int)) (x0 x1 x2 : Int) (x3 x4 : Dt) : Option (Int × Int) :=
  ((self28 x4 (IntKind.wrap .i64 (x0 + 1)) (IntKind.wrap .i64 (x1 + 1))).bind fun r2 =>
    (bif (r2.2 != 0) then
 some (r2.1, r2.2)
    else
 ref14_check_j7 m self28 rec4 x1 x2 r2.1 x3))
noncomputable def ref14_check_j5 (m : Nat) (self28 : Dt → Int → Int → Option (Int × Int)) (rec4 : Int → Int → Int → Dt → Option (Int × Int)) (x0 x1 x2 : Int) (x3 : Dt) : Option (Int × Int) :=
  (bif (decide (x2 < (List.length (Dt.L x3 9) : Int))) then
    ((idx (Dt.L x3 9) x2).bind fun v1 =>
 ref14_check_j6 m self28 rec4 x0 x1 x2 x3 (Dt.fld v1 1))
  else
    ((idx (Dt.L x3 11) (IntKind.wrap .i64 (x2 - (List.length (Dt.L x3 9) : Int)))).bind fun v3 =>
 ref14_check_j6 m self28 rec4 x0 x1 x2 x3 v3))
noncomputable def ref14_check_j9 (m : Nat) (self28 : Dt → Int → Int → Option (Int × Int)) (x0 : Int) : Option (Int × Int) :=
  some (x0, 0)
noncomputable def ref14_check_l4 (m : Nat) (self28 : Dt → Int → Int → Option (Int × Int)) : Nat → Int → Int → Int → Dt → Option (Int × Int)
  | 0, _, _, _, _ => none
  | M4 + 1, x0, x1, x2, x3 =>
    (bif (decide (x2 < (IntKind.wrap .i64 ((List.length (Dt.L x3 9) : Int) + (List.length (Dt.L x3 11) : Int))))) then
    ref14_check_j5 m self28 (ref14_check_l4 m self28 M4) x0 x1 x2 x3
  else
    ref14_check_j9 m self28 x0)
noncomputable def ref14_check_j3 (m : Nat) (self28 : Dt → Int → Int → Option (Int × Int)) (x0 x1 x2 : Int) (x3 : Dt) : Option (Int × Int) :=
  ref14_check_l4 m self28 (Nat.succ m) x0 x1 x2 x3
noncomputable def ref14_check_j2 (m : Nat) (self28 : Dt → Int → Int → Option (Int × Int)) (x0 x1 : Int) (x2 : Dt) : Option (Int × Int) :=
  ref14_check_j3 m self28 x0 x1 0 x2
noncomputable def ref14_check_j1 (m : Nat) (self28 : Dt → Int → Int → Option (Int × Int)) (x0 x1 : Int) (x2 : Dt) : Option (Int × Int) :=
  ((ref14_single m x2).bind fun r0 =>
    (bif (r0 != 0) then
 some (x0, r0)
    else
 ref14_check_j2 m self28 x0 x1 x2))
noncomputable def ref14_check_j0 (m : Nat) (self28 : Dt → Int → Int → Option (Int × Int)) (x0 x1 : Int) (x2 : Bool) (x3 : Dt) : Option (Int × Int) :=
  (bif x2 then
    some (x0, 2)
  else
    ref14_check_j1 m self28 x0 x1 x3)
noncomputable def ref14_check : Nat → Dt → Int → Int → Option (Int × Int)
  | 0, _, _, _ => none
  | m + 1, a0, a1, a2 =>
    (bif (decide (16 < a2)) then
    ref14_check_j0 m (ref14_check m) a1 a2 true a0
  else
    ref14_check_j0 m (ref14_check m) a1 a2 (decide (64 < a1)) a0)
noncomputable def ref14_Valid : Nat → Dt → Option Int
  | 0, _ => none
  | m + 1, a0 =>
    ((ref14_check m a0 1 1).bind fun r0 =>
    some r0.2)
noncomputable def ref14_Parse_j3 (m : Nat) (x0 x1 : Dt) : Option (Dt × Int) :=
  some (x1, 0)
noncomputable def ref14_Parse_j2 (m : Nat) (x0 x1 : Dt) : Option (Dt × Int) :=
  ((ref14_Valid m x1).bind fun r1 =>
    (bif (r1 != 0) then
 some (kza2d60, r1)
    else
 ref14_Parse_j3 m x0 x1))
noncomputable def ref14_Parse_j1 (m : Nat) (x0 x1 : Dt) : Option (Dt × Int) :=
  ((ref14_parse m x0).bind fun r0 =>
    (bif (Bool.not r0.2) then
 some (kza2d60, 4)
    else
 ref14_Parse_j2 m x1 r0.1))
noncomputable def ref14_Parse_j0 (m : Nat) (x0 : Bool) (x1 x2 : Dt) : Option (Dt × Int) :=
  (bif x0 then
    some (kza2d60, 8)
  else
    ref14_Parse_j1 m x1 x2)
noncomputable def ref14_Parse : Nat → Dt → Option (Dt × Int)
  | 0, _ => none
  | m + 1, a0 =>
    (bif ((Dt.I a0 0) != 5) then
    ref14_Parse_j0 m true a0 kza2d60
  else
    ((ref01_Formed m a0).bind fun r2 =>
 ref14_Parse_j0 m (Bool.not r2) a0 kza2d60))
noncomputable def value_isName_j6 (m : Nat) (rec3 : ByteArray → Int → Int → Option Bool) (x0 : ByteArray) (x1 x2 : Int) : Option Bool :=
  rec3 x0 x1 (IntKind.wrap .i64 (x2 + 1))
noncomputable def value_isName_j5 (m : Nat) (rec3 : ByteArray → Int → Int → Option Bool) (x0 : ByteArray) (x1 x2 : Int) (x3 : Bool) : Option Bool :=
  (bif x3 then
    some false
  else
    value_isName_j6 m rec3 x0 x1 x2)
noncomputable def value_isName_j4 (m : Nat) (rec3 : ByteArray → Int → Int → Option Bool) (x0 : ByteArray) (x1 x2 : Int) : Option Bool :=
  ((idxS x0 x2).bind fun v0 =>
    (bif (decide (v0 < 33)) then
 value_isName_j5 m rec3 x0 x1 x2 true
    else
 ((idxS x0 x2).bind fun v1 =>
 (bif (decide (126 < v1)) then
 value_isName_j5 m rec3 x0 x1 x2 true
 else
 ((idxS x0 x2).bind fun v2 =>
 value_isName_j5 m rec3 x0 x1 x2 (v2 == 46))))))
noncomputable def value_isName_j7 (m : Nat) : Option Bool :=
  some true
noncomputable def value_isName_l3 (m : Nat) : Nat → ByteArray → Int → Int → Option Bool
  | 0, _, _, _ => none
  | M3 + 1, x0, x1, x2 =>
    (bif (decide (x2 < x1)) then
    value_isName_j4 m (value_isName_l3 m M3) x0 x1 x2
  else
    value_isName_j7 m)
noncomputable def value_isName_j2 (m : Nat) (x0 : ByteArray) (x1 x2 : Int) : Option Bool :=
  value_isName_l3 m (Nat.succ m) x0 x1 x2
noncomputable def value_isName_j1 (m : Nat) (x0 : ByteArray) : Option Bool :=
  value_isName_j2 m x0 (ByteArray.size x0 : Int) 0
noncomputable def value_isName_j0 (m : Nat) (x0 : ByteArray) (x1 : Bool) : Option Bool :=
  (bif x1 then
    some false
  else
    value_isName_j1 m x0)
noncomputable def value_isName : Nat → ByteArray → Option Bool
  | 0, _ => none
  | m + 1, a0 =>
    (bif (decide ((ByteArray.size a0 : Int) < 1)) then
    value_isName_j0 m a0 true
  else
    (bif (decide (32 < (ByteArray.size a0 : Int))) then
 value_isName_j0 m a0 true
    else
 ((idxS a0 0).bind fun v3 =>
 value_isName_j0 m a0 (v3 == 36))))
noncomputable def value_sound_j10 (m : Nat) (self39 : Dt → Option Bool) (self52 : List Dt → Option Bool) (rec8 : List Dt → Int → Int → Option Bool) (x0 : List Dt) (x1 x2 : Int) : Option Bool :=
  rec8 x0 x1 (IntKind.wrap .i64 (x2 + 1))
noncomputable def value_sound_j9 (m : Nat) (self39 : Dt → Option Bool) (self52 : List Dt → Option Bool) (rec8 : List Dt → Int → Int → Option Bool) (x0 : List Dt) (x1 x2 : Int) : Option Bool :=
  ((idx x0 x2).bind fun v1 =>
    ((self39 v1).bind fun r2 =>
 (bif (Bool.not r2) then
 some false
 else
 value_sound_j10 m self39 self52 rec8 x0 x1 x2)))
noncomputable def value_sound_j11 (m : Nat) (self39 : Dt → Option Bool) (self52 : List Dt → Option Bool) : Option Bool :=
  some true
noncomputable def value_sound_l8 (m : Nat) (self39 : Dt → Option Bool) (self52 : List Dt → Option Bool) : Nat → List Dt → Int → Int → Option Bool
  | 0, _, _, _ => none
  | M8 + 1, x0, x1, x2 =>
    (bif (decide (x2 < x1)) then
    value_sound_j9 m self39 self52 (value_sound_l8 m self39 self52 M8) x0 x1 x2
  else
    value_sound_j11 m self39 self52)
noncomputable def value_sound_j7 (m : Nat) (self39 : Dt → Option Bool) (self52 : List Dt → Option Bool) (x0 : List Dt) (x1 x2 : Int) : Option Bool :=
  value_sound_l8 m self39 self52 (Nat.succ m) x0 x1 x2
noncomputable def value_sound_j12 (m : Nat) (self39 : Dt → Option Bool) (self52 : List Dt → Option Bool) : Option Bool :=
  some false
noncomputable def value_sound_j6 (m : Nat) (self39 : Dt → Option Bool) (self52 : List Dt → Option Bool) (x0 : Int) (x1 : Bool) (x2 : Dt) : Option Bool :=
  (bif x1 then
    some true
  else
    (bif (x0 == 9) then
 (bif ((Dt.I x2 1) == 0) then
 some true
 else
 some ((Dt.I x2 1) == 1))
    else
 (bif (x0 == 10) then
 some (decide (0 ≤ (Dt.I x2 1)))
 else
 (bif (x0 == 4) then
 (bif (decide ((ByteArray.size (Dt.S x2 2) : Int) ≤ 4096)) then
 ((utf8_ValidString (Dt.S x2 2)).bind fun r0 =>
 some r0)
 else
 some false)
 else
 (bif (x0 == 7) then
 some (decide ((ByteArray.size (Dt.S x2 2) : Int) ≤ 4096))
 else
 (bif (x0 == 8) then
 some ((ByteArray.size (Dt.S x2 2) : Int) == 12)
 else
 (bif (x0 == 6) then
 value_sound_j7 m self39 self52 (Dt.L x2 3) (List.length (Dt.L x2 3) : Int) 0
 else
 (bif (x0 == 5) then
 ((self52 (Dt.L x2 4)).bind fun r3 =>
 some r3)
 else
 value_sound_j12 m self39 self52))))))))
noncomputable def value_sound_j5 (m : Nat) (self39 : Dt → Option Bool) (self52 : List Dt → Option Bool) (x0 : Dt) : Option Bool :=
  (bif ((Dt.I x0 0) == 1) then
    value_sound_j6 m self39 self52 (Dt.I x0 0) ((Dt.I x0 0) == 1) x0
  else
    (bif ((Dt.I x0 0) == 2) then
 value_sound_j6 m self39 self52 (Dt.I x0 0) ((Dt.I x0 0) == 2) x0
    else
 (bif ((Dt.I x0 0) == 11) then
 value_sound_j6 m self39 self52 (Dt.I x0 0) ((Dt.I x0 0) == 11) x0
 else
 value_sound_j6 m self39 self52 (Dt.I x0 0) ((Dt.I x0 0) == 3) x0)))
noncomputable def value_sound_j4 (m : Nat) (self39 : Dt → Option Bool) (self52 : List Dt → Option Bool) (x0 : Bool) (x1 : Dt) : Option Bool :=
  (bif x0 then
    some false
  else
    value_sound_j5 m self39 self52 x1)
noncomputable def value_sound_j3 (m : Nat) (self39 : Dt → Option Bool) (self52 : List Dt → Option Bool) (x0 : Dt) : Option Bool :=
  (bif ((Dt.I x0 0) != 6) then
    (bif (decide (0 < (List.length (Dt.L x0 3) : Int))) then
 value_sound_j4 m self39 self52 true x0
    else
 (bif ((Dt.I x0 0) != 5) then
 value_sound_j4 m self39 self52 (decide (0 < (List.length (Dt.L x0 4) : Int))) x0
 else
 value_sound_j4 m self39 self52 false x0))
  else
    (bif ((Dt.I x0 0) != 5) then
 value_sound_j4 m self39 self52 (decide (0 < (List.length (Dt.L x0 4) : Int))) x0
    else
 value_sound_j4 m self39 self52 false x0))
noncomputable def value_sound_j2 (m : Nat) (self39 : Dt → Option Bool) (self52 : List Dt → Option Bool) (x0 : Bool) (x1 : Dt) : Option Bool :=
  (bif x0 then
    some false
  else
    value_sound_j3 m self39 self52 x1)
noncomputable def value_sound_j1 (m : Nat) (self39 : Dt → Option Bool) (self52 : List Dt → Option Bool) (x0 x1 : Bool) (x2 : Dt) : Option Bool :=
  (bif (Bool.not x0) then
    (bif ((Dt.I x2 1) != 0) then
 value_sound_j2 m self39 self52 true x2
    else
 (bif (Bool.not x1) then
 value_sound_j2 m self39 self52 (Bool.not ((ByteArray.toList (Dt.S x2 2)) == [])) x2
 else
 value_sound_j2 m self39 self52 false x2))
  else
    (bif (Bool.not x1) then
 value_sound_j2 m self39 self52 (Bool.not ((ByteArray.toList (Dt.S x2 2)) == [])) x2
    else
 value_sound_j2 m self39 self52 false x2))
noncomputable def value_sound_j0 (m : Nat) (self39 : Dt → Option Bool) (self52 : List Dt → Option Bool) (x0 : Bool) (x1 : Dt) : Option Bool :=
  (bif ((Dt.I x1 0) == 4) then
    value_sound_j1 m self39 self52 x0 true x1
  else
    (bif ((Dt.I x1 0) == 7) then
 value_sound_j1 m self39 self52 x0 true x1
    else
 value_sound_j1 m self39 self52 x0 ((Dt.I x1 0) == 8) x1))
noncomputable def value_soundFields_j5 (m : Nat) (self39 : Dt → Option Bool) (rec1 : List Dt → Int → Int → List Dt → Option Bool) (x0 : List Dt) (x1 x2 : Int) (x3 : List Dt) : Option Bool :=
  rec1 x0 x1 (IntKind.wrap .i64 (x2 + 1)) x3
noncomputable def value_soundFields_j4 (m : Nat) (self39 : Dt → Option Bool) (rec1 : List Dt → Int → Int → List Dt → Option Bool) (x0 : List Dt) (x1 x2 : Int) (x3 : List Dt) (x4 : Dt) : Option Bool :=
  value_soundFields_j5 m self39 rec1 x0 x1 x2 (mput x3 (Dt.S x4 0) (Dt.bool true))
noncomputable def value_soundFields_j3 (m : Nat) (self39 : Dt → Option Bool) (rec1 : List Dt → Int → Int → List Dt → Option Bool) (x0 : List Dt) (x1 x2 : Int) (x3 : Bool) (x4 : List Dt) (x5 : Dt) : Option Bool :=
  (bif x3 then
    some false
  else
    value_soundFields_j4 m self39 rec1 x0 x1 x2 x4 x5)
noncomputable def value_soundFields_j2 (m : Nat) (self39 : Dt → Option Bool) (rec1 : List Dt → Int → Int → List Dt → Option Bool) (x0 : List Dt) (x1 x2 : Int) (x3 : List Dt) : Option Bool :=
  ((idx x0 x2).bind fun v0 =>
    ((value_isName m (Dt.S v0 0)).bind fun r1 =>
 (bif (Bool.not r1) then
 value_soundFields_j3 m self39 rec1 x0 x1 x2 true x3 v0
 else
 (bif (Dt.toBool (mgetD x3 (Dt.S v0 0) (Dt.bool false))) then
 value_soundFields_j3 m self39 rec1 x0 x1 x2 true x3 v0
 else
 ((self39 (Dt.fld v0 1)).bind fun r2 =>
 value_soundFields_j3 m self39 rec1 x0 x1 x2 (Bool.not r2) x3 v0)))))
noncomputable def value_soundFields_j6 (m : Nat) (self39 : Dt → Option Bool) : Option Bool :=
  some true
noncomputable def value_soundFields_l1 (m : Nat) (self39 : Dt → Option Bool) : Nat → List Dt → Int → Int → List Dt → Option Bool
  | 0, _, _, _, _ => none
  | M1 + 1, x0, x1, x2, x3 =>
    (bif (decide (x2 < x1)) then
    value_soundFields_j2 m self39 (value_soundFields_l1 m self39 M1) x0 x1 x2 x3
  else
    value_soundFields_j6 m self39)
noncomputable def value_soundFields_j0 (m : Nat) (self39 : Dt → Option Bool) (x0 : List Dt) (x1 x2 : Int) (x3 : List Dt) : Option Bool :=
  value_soundFields_l1 m self39 (Nat.succ m) x0 x1 x2 x3
mutual
noncomputable def value_sound : Nat → Dt → Option Bool
  | 0, _ => none
  | m + 1, a0 =>
    (bif ((Dt.I a0 0) == 3) then
    value_sound_j0 m (value_sound m) (value_soundFields m) true a0
  else
    (bif ((Dt.I a0 0) == 9) then
 value_sound_j0 m (value_sound m) (value_soundFields m) true a0
    else
 value_sound_j0 m (value_sound m) (value_soundFields m) ((Dt.I a0 0) == 10) a0))
noncomputable def value_soundFields : Nat → List Dt → Option Bool
  | 0, _ => none
  | m + 1, a0 =>
    value_soundFields_j0 m (value_sound m) a0 (List.length a0 : Int) 0 []
end
noncomputable def value_Valid : Nat → Dt → Option Bool
  | 0, _ => none
  | m + 1, a0 =>
    ((value_Nodes m a0).bind fun r0 =>
    (bif (decide (r0 ≤ 1024)) then
 ((value_Depth m a0).bind fun r1 =>
 (bif (decide (r1 ≤ 16)) then
 ((value_sound m a0).bind fun r2 =>
 some r2)
 else
 some false))
    else
 some false))
noncomputable def schema_wellFormed_j1 (m : Nat) (x0 : Dt) : Option Bool :=
  ((schema_rename m x0).bind fun r1 =>
    (bif r1.2 then
 ((value_Valid m r1.1).bind fun r2 =>
 some r2)
    else
 some false))
noncomputable def schema_wellFormed_j0 (m : Nat) (x0 : Bool) (x1 : Dt) : Option Bool :=
  (bif x0 then
    some false
  else
    schema_wellFormed_j1 m x1)
noncomputable def schema_wellFormed : Nat → Dt → Option Bool
  | 0, _ => none
  | m + 1, a0 =>
    ((value_Nodes m a0).bind fun r0 =>
    (bif (decide (1024 < r0)) then
 schema_wellFormed_j0 m true a0
    else
 ((value_Depth m a0).bind fun r3 =>
 schema_wellFormed_j0 m (decide (16 < r3)) a0)))
noncomputable def schema_bound_j0 (m : Nat) (x0 : Dt) : Option Bool :=
  (bif ((Dt.I x0 0) == 0) then
    (bif ((Dt.I x0 1) == 0) then
 (bif ((ByteArray.toList (Dt.S x0 2)) == []) then
 (bif ((List.length (Dt.L x0 3) : Int) == 0) then
 some ((List.length (Dt.L x0 4) : Int) == 0)
 else
 some false)
 else
 some false)
    else
 some false)
  else
    some false)
noncomputable def schema_bound : Nat → Bool → Dt → Option Bool
  | 0, _, _ => none
  | m + 1, a0, a1 =>
    (bif a0 then
    ((value_Valid m a1).bind fun r0 =>
 some r0)
  else
    schema_bound_j0 m a1)
noncomputable def schema_checkOne_j5 (m : Nat) (rec1 : List Dt → Int → Int → Dt → List Dt → Option Int) (x0 : List Dt) (x1 x2 : Int) (x3 : Dt) (x4 : List Dt) : Option Int :=
  rec1 x0 x1 (IntKind.wrap .i64 (x2 + 1)) x3 x4
noncomputable def schema_checkOne_j4 (m : Nat) (rec1 : List Dt → Int → Int → Dt → List Dt → Option Int) (x0 : ByteArray) (x1 : List Dt) (x2 x3 : Int) (x4 : Dt) (x5 : List Dt) : Option Int :=
  schema_checkOne_j5 m rec1 x1 x2 x3 x4 (mput x5 x0 (Dt.bool true))
noncomputable def schema_checkOne_j3 (m : Nat) (rec1 : List Dt → Int → Int → Dt → List Dt → Option Int) (x0 : ByteArray) (x1 : List Dt) (x2 x3 : Int) (x4 : Bool) (x5 : Dt) (x6 : List Dt) : Option Int :=
  (bif x4 then
    some 9
  else
    schema_checkOne_j4 m rec1 x0 x1 x2 x3 x5 x6)
noncomputable def schema_checkOne_j2 (m : Nat) (rec1 : List Dt → Int → Int → Dt → List Dt → Option Int) (x0 : List Dt) (x1 x2 : Int) (x3 : Dt) (x4 : List Dt) : Option Int :=
  ((idx x0 x2).bind fun v0 =>
    ((schema_isName m (Dt.toStr v0)).bind fun r1 =>
 (bif (Bool.not r1) then
 schema_checkOne_j3 m rec1 (Dt.toStr v0) x0 x1 x2 true x3 x4
 else
 schema_checkOne_j3 m rec1 (Dt.toStr v0) x0 x1 x2 (Dt.toBool (mgetD x4 (Dt.toStr v0) (Dt.bool false))) x3 x4)))
noncomputable def schema_checkOne_j12 (m : Nat) (rec8 : List Dt → Int → Int → Dt → List Dt → Option Int) (x0 : List Dt) (x1 x2 : Int) (x3 : Dt) (x4 : List Dt) : Option Int :=
  rec8 x0 x1 (IntKind.wrap .i64 (x2 + 1)) x3 x4
noncomputable def schema_checkOne_j11 (m : Nat) (rec8 : List Dt → Int → Int → Dt → List Dt → Option Int) (x0 : List Dt) (x1 x2 : Int) (x3 : Dt) (x4 : List Dt) (x5 : Dt) : Option Int :=
  schema_checkOne_j12 m rec8 x0 x1 x2 x3 (mput x4 (Dt.S x5 0) (Dt.bool true))
noncomputable def schema_checkOne_j10 (m : Nat) (rec8 : List Dt → Int → Int → Dt → List Dt → Option Int) (x0 : List Dt) (x1 x2 : Int) (x3 : Bool) (x4 : Dt) (x5 : List Dt) (x6 : Dt) : Option Int :=
  (bif x3 then
    some 9
  else
    schema_checkOne_j11 m rec8 x0 x1 x2 x4 x5 x6)
noncomputable def schema_checkOne_j9 (m : Nat) (rec8 : List Dt → Int → Int → Dt → List Dt → Option Int) (x0 : List Dt) (x1 x2 : Int) (x3 : Dt) (x4 : List Dt) : Option Int :=
  ((idx x0 x2).bind fun v2 =>
    ((schema_isName m (Dt.S v2 0)).bind fun r3 =>
 (bif (Bool.not r3) then
 schema_checkOne_j10 m rec8 x0 x1 x2 true x3 x4 v2
 else
 schema_checkOne_j10 m rec8 x0 x1 x2 (Dt.toBool (mgetD x4 (Dt.S v2 0) (Dt.bool false))) x3 x4 v2)))
noncomputable def schema_checkOne_j21 (m : Nat) (rec19 : List Dt → Int → Int → Option Int) (x0 : List Dt) (x1 x2 : Int) : Option Int :=
  rec19 x0 x1 (IntKind.wrap .i64 (x2 + 1))
noncomputable def schema_checkOne_j20 (m : Nat) (rec19 : List Dt → Int → Int → Option Int) (x0 : List Dt) (x1 x2 : Int) : Option Int :=
  ((idx x0 x2).bind fun v5 =>
    ((value_Valid m v5).bind fun r6 =>
 (bif (Bool.not r6) then
 some 8
 else
 schema_checkOne_j21 m rec19 x0 x1 x2)))
noncomputable def schema_checkOne_j22 (m : Nat) : Option Int :=
  some 0
noncomputable def schema_checkOne_l19 (m : Nat) : Nat → List Dt → Int → Int → Option Int
  | 0, _, _, _ => none
  | M19 + 1, x0, x1, x2 =>
    (bif (decide (x2 < x1)) then
    schema_checkOne_j20 m (schema_checkOne_l19 m M19) x0 x1 x2
  else
    schema_checkOne_j22 m)
noncomputable def schema_checkOne_j18 (m : Nat) (x0 : List Dt) (x1 x2 : Int) : Option Int :=
  schema_checkOne_l19 m (Nat.succ m) x0 x1 x2
noncomputable def schema_checkOne_j17 (m : Nat) (x0 : Dt) : Option Int :=
  schema_checkOne_j18 m (Dt.L x0 5) (List.length (Dt.L x0 5) : Int) 0
noncomputable def schema_checkOne_j16 (m : Nat) (x0 : Bool) (x1 : Dt) : Option Int :=
  (bif x0 then
    some 8
  else
    schema_checkOne_j17 m x1)
noncomputable def schema_checkOne_j15 (m : Nat) (x0 : Dt) : Option Int :=
  ((schema_bound m (Dt.B x0 1) (Dt.fld x0 2)).bind fun r4 =>
    (bif (Bool.not r4) then
 schema_checkOne_j16 m true x0
    else
 ((schema_bound m (Dt.B x0 3) (Dt.fld x0 4)).bind fun r7 =>
 schema_checkOne_j16 m (Bool.not r7) x0)))
noncomputable def schema_checkOne_j14 (m : Nat) (x0 : Bool) (x1 : Dt) : Option Int :=
  (bif x0 then
    some 1
  else
    schema_checkOne_j15 m x1)
noncomputable def schema_checkOne_j13 (m : Nat) (x0 : Dt) : Option Int :=
  (bif ((bicI IntKind.i64 (Dt.I x0 0) 4094) != 0) then
    schema_checkOne_j14 m true x0
  else
    (bif (decide ((Dt.I x0 6) < 0)) then
 schema_checkOne_j14 m true x0
    else
 (bif (decide ((Dt.I x0 7) < (-1))) then
 schema_checkOne_j14 m true x0
 else
 schema_checkOne_j14 m (decide (1 < (List.length (Dt.L x0 11) : Int))) x0)))
noncomputable def schema_checkOne_l8 (m : Nat) : Nat → List Dt → Int → Int → Dt → List Dt → Option Int
  | 0, _, _, _, _, _ => none
  | M8 + 1, x0, x1, x2, x3, x4 =>
    (bif (decide (x2 < x1)) then
    schema_checkOne_j9 m (schema_checkOne_l8 m M8) x0 x1 x2 x3 x4
  else
    schema_checkOne_j13 m x3)
noncomputable def schema_checkOne_j7 (m : Nat) (x0 : List Dt) (x1 x2 : Int) (x3 : Dt) (x4 : List Dt) : Option Int :=
  schema_checkOne_l8 m (Nat.succ m) x0 x1 x2 x3 x4
noncomputable def schema_checkOne_j6 (m : Nat) (x0 : Dt) : Option Int :=
  schema_checkOne_j7 m (Dt.L x0 9) (List.length (Dt.L x0 9) : Int) 0 x0 []
noncomputable def schema_checkOne_l1 (m : Nat) : Nat → List Dt → Int → Int → Dt → List Dt → Option Int
  | 0, _, _, _, _, _ => none
  | M1 + 1, x0, x1, x2, x3, x4 =>
    (bif (decide (x2 < x1)) then
    schema_checkOne_j2 m (schema_checkOne_l1 m M1) x0 x1 x2 x3 x4
  else
    schema_checkOne_j6 m x3)
noncomputable def schema_checkOne_j0 (m : Nat) (x0 : List Dt) (x1 x2 : Int) (x3 : Dt) (x4 : List Dt) : Option Int :=
  schema_checkOne_l1 m (Nat.succ m) x0 x1 x2 x3 x4
noncomputable def schema_checkOne : Nat → Dt → Option Int
  | 0, _ => none
  | m + 1, a0 =>
    schema_checkOne_j0 m (Dt.L a0 8) (List.length (Dt.L a0 8) : Int) 0 a0 []
noncomputable def i21_j6 (m : Nat) (self21 : Dt → Int → Int → Option (Int × Int)) (rec4 : Int → List Dt → Int → Int → Int → Dt → Option (Int × Int)) (x0 : Int) (x1 : List Dt) (x2 x3 x4 : Int) (x5 : Dt) : Option (Int × Int) :=
  rec4 x0 x1 x2 (IntKind.wrap .i64 (x3 + 1)) x4 x5
noncomputable def i21_j5 (m : Nat) (self21 : Dt → Int → Int → Option (Int × Int)) (rec4 : Int → List Dt → Int → Int → Int → Dt → Option (Int × Int)) (x0 : Int) (x1 : List Dt) (x2 x3 x4 : Int) (x5 : Dt) : Option (Int × Int) :=
  ((idx x1 x3).bind fun v1 =>
    ((self21 (Dt.fld v1 1) (IntKind.wrap .i64 (x0 + 1)) x4).bind fun r2 =>
 (bif (r2.1 != 0) then
 some (r2.1, r2.2)
 else
 i21_j6 m self21 rec4 x0 x1 x2 x3 r2.2 x5)))
noncomputable def i21_j11 (m : Nat) (self21 : Dt → Int → Int → Option (Int × Int)) (rec9 : Int → List Dt → Int → Int → Int → Option (Int × Int)) (x0 : Int) (x1 : List Dt) (x2 x3 x4 : Int) : Option (Int × Int) :=
  rec9 x0 x1 x2 (IntKind.wrap .i64 (x3 + 1)) x4
noncomputable def i21_j10 (m : Nat) (self21 : Dt → Int → Int → Option (Int × Int)) (rec9 : Int → List Dt → Int → Int → Int → Option (Int × Int)) (x0 : Int) (x1 : List Dt) (x2 x3 x4 : Int) : Option (Int × Int) :=
  ((idx x1 x3).bind fun v3 =>
    ((self21 v3 (IntKind.wrap .i64 (x0 + 1)) x4).bind fun r4 =>
 (bif (r4.1 != 0) then
 some (r4.1, r4.2)
 else
 i21_j11 m self21 rec9 x0 x1 x2 x3 r4.2)))
noncomputable def i21_j12 (m : Nat) (self21 : Dt → Int → Int → Option (Int × Int)) (x0 : Int) : Option (Int × Int) :=
  some (0, x0)
noncomputable def i21_l9 (m : Nat) (self21 : Dt → Int → Int → Option (Int × Int)) : Nat → Int → List Dt → Int → Int → Int → Option (Int × Int)
  | 0, _, _, _, _, _ => none
  | M9 + 1, x0, x1, x2, x3, x4 =>
    (bif (decide (x3 < x2)) then
    i21_j10 m self21 (i21_l9 m self21 M9) x0 x1 x2 x3 x4
  else
    i21_j12 m self21 x4)
noncomputable def i21_j8 (m : Nat) (self21 : Dt → Int → Int → Option (Int × Int)) (x0 : Int) (x1 : List Dt) (x2 x3 x4 : Int) : Option (Int × Int) :=
  i21_l9 m self21 (Nat.succ m) x0 x1 x2 x3 x4
noncomputable def i21_j7 (m : Nat) (self21 : Dt → Int → Int → Option (Int × Int)) (x0 x1 : Int) (x2 : Dt) : Option (Int × Int) :=
  i21_j8 m self21 x0 (Dt.L x2 11) (List.length (Dt.L x2 11) : Int) 0 x1
noncomputable def i21_l4 (m : Nat) (self21 : Dt → Int → Int → Option (Int × Int)) : Nat → Int → List Dt → Int → Int → Int → Dt → Option (Int × Int)
  | 0, _, _, _, _, _, _ => none
  | M4 + 1, x0, x1, x2, x3, x4, x5 =>
    (bif (decide (x3 < x2)) then
    i21_j5 m self21 (i21_l4 m self21 M4) x0 x1 x2 x3 x4 x5
  else
    i21_j7 m self21 x0 x4 x5)
noncomputable def i21_j3 (m : Nat) (self21 : Dt → Int → Int → Option (Int × Int)) (x0 : Int) (x1 : List Dt) (x2 x3 x4 : Int) (x5 : Dt) : Option (Int × Int) :=
  i21_l4 m self21 (Nat.succ m) x0 x1 x2 x3 x4 x5
noncomputable def i21_j2 (m : Nat) (self21 : Dt → Int → Int → Option (Int × Int)) (x0 x1 : Int) (x2 : Dt) : Option (Int × Int) :=
  i21_j3 m self21 x0 (Dt.L x2 9) (List.length (Dt.L x2 9) : Int) 0 x1 x2
noncomputable def i21_j1 (m : Nat) (self21 : Dt → Int → Int → Option (Int × Int)) (x0 x1 : Int) (x2 : Dt) : Option (Int × Int) :=
  ((schema_checkOne m x2).bind fun r0 =>
    (bif (r0 != 0) then
 some (r0, (IntKind.wrap .i64 (x1 + 1)))
    else
 i21_j2 m self21 x0 (IntKind.wrap .i64 (x1 + 1)) x2))
noncomputable def i21_j0 (m : Nat) (self21 : Dt → Int → Int → Option (Int × Int)) (x0 : Int) (x1 : Bool) (x2 : Int) (x3 : Dt) : Option (Int × Int) :=
  (bif x1 then
    some (2, x2)
  else
    i21_j1 m self21 x0 x2 x3)
noncomputable def i21 : Nat → Dt → Int → Int → Option (Int × Int)
  | 0, _, _, _ => none
  | m + 1, a0, a1, a2 =>
    (bif (decide (16 < a1)) then
    i21_j0 m (i21 m) a1 true a2 a0
  else
    i21_j0 m (i21 m) a1 (a2 == 64) a2 a0)
noncomputable def schema_Valid : Nat → Dt → Option Int
  | 0, _ => none
  | m + 1, a0 =>
    ((i21 m a0 1 0).bind fun r0 =>
    some r0.1)
noncomputable def schema_Parse_j3 (m : Nat) (x0 x1 : Dt) : Option (Dt × Int) :=
  some (x1, 0)
noncomputable def schema_Parse_j2 (m : Nat) (x0 x1 : Dt) : Option (Dt × Int) :=
  ((schema_Valid m x1).bind fun r1 =>
    (bif (r1 != 0) then
 some (kza2d60, r1)
    else
 schema_Parse_j3 m x0 x1))
noncomputable def schema_Parse_j1 (m : Nat) (x0 x1 : Dt) : Option (Dt × Int) :=
  ((schema_parse m x0).bind fun r0 =>
    (bif (Bool.not r0.2) then
 some (kza2d60, 4)
    else
 schema_Parse_j2 m x1 r0.1))
noncomputable def schema_Parse_j0 (m : Nat) (x0 : Bool) (x1 x2 : Dt) : Option (Dt × Int) :=
  (bif x0 then
    some (kza2d60, 8)
  else
    schema_Parse_j1 m x1 x2)
noncomputable def schema_Parse : Nat → Dt → Option (Dt × Int)
  | 0, _ => none
  | m + 1, a0 =>
    (bif ((Dt.I a0 0) != 5) then
    schema_Parse_j0 m true a0 kza2d60
  else
    ((schema_wellFormed m a0).bind fun r2 =>
 schema_Parse_j0 m (Bool.not r2) a0 kza2d60))
noncomputable def law14_SchemaParses_j0 (m : Nat) (x0 : Dt) : Option Bool :=
  ((schema_Parse m x0).bind fun r2 =>
    ((ref14_Parse m x0).bind fun r3 =>
 ((ref14_Same m r2.1 r3.1).bind fun r4 =>
 (bif r4 then
 (bif (r2.2 == r3.2) then
 ((awakeC).bind fun r5 =>
 some r5)
 else
 some false)
 else
 some false))))
noncomputable def law14_SchemaParses : Nat → Dt → Option Bool
  | 0, _ => none
  | m + 1, a0 =>
    ((ref02_Few m a0 2000).bind fun r0 =>
    (bif (Bool.not r0) then
 ((awakeC).bind fun r1 =>
 some r1)
    else
 law14_SchemaParses_j0 m a0))
end Go.Proofs.YtfneddmmeadacaaGreatDoor
