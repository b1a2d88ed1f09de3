/- Generated: what the Go functions compute, over plain data. -/
import Derived.Test.YtacpcknpliomoaaGreatAm20
import Derived.Test.YtacpcknpliomoaaGreatOAwake
set_option linter.unusedVariables false
set_option linter.unusedSimpArgs false
namespace Go.Proofs.YtacpcknpliomoaaGreat
open Go.Am
def kza2373 : Dt := Dt.agg [(Dt.int 0), (Dt.int 0), (Dt.str (ByteArray.mk (List.toArray []))), (Dt.lst []), (Dt.lst [])]
def kzc575d : Dt := Dt.agg [(Dt.int 0), (Dt.int 0), (Dt.int 0), (Dt.agg [(Dt.int 0), (Dt.int 0), (Dt.str (ByteArray.mk (List.toArray []))), (Dt.lst []), (Dt.lst [])]), (Dt.lst []), (Dt.lst [])]
noncomputable def ref02_count_j5 (m : Nat) (self6 : Dt → Int → Int → Option Int) (rec3 : Int → Int → Int → Dt → Option Int) (x0 x1 x2 : Int) (x3 : Dt) : Option Int :=
  rec3 x0 x1 (IntKind.wrap .i64 (x2 + 1)) x3
noncomputable def ref02_count_j4 (m : Nat) (self6 : Dt → Int → Int → Option Int) (rec3 : Int → Int → Int → Dt → Option Int) (x0 x1 x2 : Int) (x3 : Dt) : Option Int :=
  ((idx (Dt.L x3 3) x2).bind fun v0 =>
    ((self6 v0 (IntKind.wrap .i64 (x0 + 1)) x1).bind fun r1 =>
 ref02_count_j5 m self6 rec3 x0 r1 x2 x3))
noncomputable def ref02_count_j11 (m : Nat) (self6 : Dt → Int → Int → Option Int) (rec8 : Int → Int → Int → Dt → Option Int) (x0 x1 x2 : Int) (x3 : Dt) : Option Int :=
  rec8 x0 x1 (IntKind.wrap .i64 (x2 + 1)) x3
noncomputable def ref02_count_j10 (m : Nat) (self6 : Dt → Int → Int → Option Int) (rec8 : Int → Int → Int → Dt → Option Int) (x0 x1 x2 : Int) (x3 : Dt) : Option Int :=
  ((idx (Dt.L x3 4) x2).bind fun v3 =>
    ((self6 (Dt.fld v3 1) (IntKind.wrap .i64 (x0 + 1)) x1).bind fun r4 =>
 ref02_count_j11 m self6 rec8 x0 r4 x2 x3))
noncomputable def ref02_count_j9 (m : Nat) (self6 : Dt → Int → Int → Option Int) (rec8 : Int → Int → Int → Dt → Option Int) (x0 x1 x2 : Int) (x3 : Dt) : Option Int :=
  ((idx (Dt.L x3 4) x2).bind fun v2 =>
    (bif (decide (200 < (ByteArray.size (Dt.S v2 0) : Int))) then
 some (-1)
    else
 ref02_count_j10 m self6 rec8 x0 x1 x2 x3))
noncomputable def ref02_count_j12 (m : Nat) (self6 : Dt → Int → Int → Option Int) (x0 : Int) : Option Int :=
  some x0
noncomputable def ref02_count_l8 (m : Nat) (self6 : Dt → Int → Int → Option Int) : Nat → Int → Int → Int → Dt → Option Int
  | 0, _, _, _, _ => none
  | M8 + 1, x0, x1, x2, x3 =>
    (bif (decide (x2 < (List.length (Dt.L x3 4) : Int))) then
    (bif (decide (0 ≤ x1)) then
 ref02_count_j9 m self6 (ref02_count_l8 m self6 M8) x0 x1 x2 x3
    else
 ref02_count_j12 m self6 x1)
  else
    ref02_count_j12 m self6 x1)
noncomputable def ref02_count_j7 (m : Nat) (self6 : Dt → Int → Int → Option Int) (x0 x1 x2 : Int) (x3 : Dt) : Option Int :=
  ref02_count_l8 m self6 (Nat.succ m) x0 x1 x2 x3
noncomputable def ref02_count_j6 (m : Nat) (self6 : Dt → Int → Int → Option Int) (x0 x1 : Int) (x2 : Dt) : Option Int :=
  ref02_count_j7 m self6 x0 x1 0 x2
noncomputable def ref02_count_l3 (m : Nat) (self6 : Dt → Int → Int → Option Int) : Nat → Int → Int → Int → Dt → Option Int
  | 0, _, _, _, _ => none
  | M3 + 1, x0, x1, x2, x3 =>
    (bif (decide (x2 < (List.length (Dt.L x3 3) : Int))) then
    (bif (decide (0 ≤ x1)) then
 ref02_count_j4 m self6 (ref02_count_l3 m self6 M3) x0 x1 x2 x3
    else
 ref02_count_j6 m self6 x0 x1 x3)
  else
    ref02_count_j6 m self6 x0 x1 x3)
noncomputable def ref02_count_j2 (m : Nat) (self6 : Dt → Int → Int → Option Int) (x0 x1 x2 : Int) (x3 : Dt) : Option Int :=
  ref02_count_l3 m self6 (Nat.succ m) x0 x1 x2 x3
noncomputable def ref02_count_j1 (m : Nat) (self6 : Dt → Int → Int → Option Int) (x0 x1 : Int) (x2 : Dt) : Option Int :=
  ref02_count_j2 m self6 x0 x1 0 x2
noncomputable def ref02_count_j0 (m : Nat) (self6 : Dt → Int → Int → Option Int) (x0 x1 : Int) (x2 : Bool) (x3 : Dt) : Option Int :=
  (bif x2 then
    some (-1)
  else
    ref02_count_j1 m self6 x0 x1 x3)
noncomputable def ref02_count : Nat → Dt → Int → Int → Option Int
  | 0, _, _, _ => none
  | m + 1, a0, a1, a2 =>
    (bif (decide (40 < a1)) then
    ref02_count_j0 m (ref02_count m) a1 (IntKind.wrap .i64 (a2 - 1)) true a0
  else
    ref02_count_j0 m (ref02_count m) a1 (IntKind.wrap .i64 (a2 - 1)) (decide (5000 < (ByteArray.size (Dt.S a0 2) : Int))) a0)
noncomputable def ref02_Few : Nat → Dt → Int → Option Bool
  | 0, _, _ => none
  | m + 1, a0, a1 =>
    ((ref02_count m a0 1 a1).bind fun r0 =>
    some (decide (0 ≤ r0)))
noncomputable def accum_isInteger : Nat → Dt → Option Bool
  | 0, _ => none
  | m + 1, a0 =>
    (bif ((Dt.I a0 0) == 3) then
    (bif ((ByteArray.toList (Dt.S a0 2)) == []) then
 (bif ((List.length (Dt.L a0 3) : Int) == 0) then
 some ((List.length (Dt.L a0 4) : Int) == 0)
 else
 some false)
    else
 some false)
  else
    some false)
noncomputable def accum_copyValue_j3 (m : Nat) (self8 : Dt → Option Dt) (self10 : List Dt → Option (List Dt)) (rec1 : List Dt → Int → Int → Dt → Int → Int → ByteArray → List Dt → List Dt → Option Dt) (x0 : List Dt) (x1 x2 : Int) (x3 : Dt) (x4 x5 : Int) (x6 : ByteArray) (x7 x8 : List Dt) : Option Dt :=
  rec1 x0 x1 (IntKind.wrap .i64 (x2 + 1)) x3 x4 x5 x6 x7 x8
noncomputable def accum_copyValue_j2 (m : Nat) (self8 : Dt → Option Dt) (self10 : List Dt → Option (List Dt)) (rec1 : List Dt → Int → Int → Dt → Int → Int → ByteArray → List Dt → List Dt → Option Dt) (x0 : List Dt) (x1 x2 : Int) (x3 : Dt) (x4 x5 : Int) (x6 : ByteArray) (x7 x8 : List Dt) : Option Dt :=
  ((idx x0 x2).bind fun v1 =>
    ((self8 (Dt.fld v1 1)).bind fun r2 =>
 ((app x8 [(Dt.agg [(Dt.str (Dt.S v1 0)), r2])]).bind fun v3 =>
 accum_copyValue_j3 m self8 self10 rec1 x0 x1 x2 x3 x4 x5 x6 x7 v3)))
noncomputable def accum_copyValue_j4 (m : Nat) (self8 : Dt → Option Dt) (self10 : List Dt → Option (List Dt)) (x0 : Dt) (x1 x2 : Int) (x3 : ByteArray) (x4 x5 : List Dt) : Option Dt :=
  some (Dt.agg [(Dt.int x1), (Dt.int x2), (Dt.str x3), (Dt.lst x4), (Dt.lst x5)])
noncomputable def accum_copyValue_l1 (m : Nat) (self8 : Dt → Option Dt) (self10 : List Dt → Option (List Dt)) : Nat → List Dt → Int → Int → Dt → Int → Int → ByteArray → List Dt → List Dt → Option Dt
  | 0, _, _, _, _, _, _, _, _, _ => none
  | M1 + 1, x0, x1, x2, x3, x4, x5, x6, x7, x8 =>
    (bif (decide (x2 < x1)) then
    accum_copyValue_j2 m self8 self10 (accum_copyValue_l1 m self8 self10 M1) x0 x1 x2 x3 x4 x5 x6 x7 x8
  else
    accum_copyValue_j4 m self8 self10 x3 x4 x5 x6 x7 x8)
noncomputable def accum_copyValue_j0 (m : Nat) (self8 : Dt → Option Dt) (self10 : List Dt → Option (List Dt)) (x0 : List Dt) (x1 x2 : Int) (x3 : Dt) (x4 x5 : Int) (x6 : ByteArray) (x7 x8 : List Dt) : Option Dt :=
  accum_copyValue_l1 m self8 self10 (Nat.succ m) x0 x1 x2 x3 x4 x5 x6 x7 x8
noncomputable def accum_copyList_j4 (m : Nat) (self8 : Dt → Option Dt) (rec2 : List Dt → Int → Int → List Dt → Option (List Dt)) (x0 : List Dt) (x1 x2 : Int) (x3 : List Dt) : Option (List Dt) :=
  rec2 x0 x1 (IntKind.wrap .i64 (x2 + 1)) x3
noncomputable def accum_copyList_j3 (m : Nat) (self8 : Dt → Option Dt) (rec2 : List Dt → Int → Int → List Dt → Option (List Dt)) (x0 : List Dt) (x1 x2 : Int) (x3 : List Dt) : Option (List Dt) :=
  ((idx x0 x2).bind fun v1 =>
    ((self8 v1).bind fun r2 =>
 ((inL x3 x2).bind fun v3 =>
 ((x3[(Int.toNat x2)]?).bind fun v4 =>
 accum_copyList_j4 m self8 rec2 x0 x1 x2 (List.set x3 (Int.toNat x2) r2)))))
noncomputable def accum_copyList_j5 (m : Nat) (self8 : Dt → Option Dt) (x0 : List Dt) : Option (List Dt) :=
  some x0
noncomputable def accum_copyList_l2 (m : Nat) (self8 : Dt → Option Dt) : Nat → List Dt → Int → Int → List Dt → Option (List Dt)
  | 0, _, _, _, _ => none
  | M2 + 1, x0, x1, x2, x3 =>
    (bif (decide (x2 < x1)) then
    accum_copyList_j3 m self8 (accum_copyList_l2 m self8 M2) x0 x1 x2 x3
  else
    accum_copyList_j5 m self8 x3)
noncomputable def accum_copyList_j1 (m : Nat) (self8 : Dt → Option Dt) (x0 : List Dt) (x1 x2 : Int) (x3 : List Dt) : Option (List Dt) :=
  accum_copyList_l2 m self8 (Nat.succ m) x0 x1 x2 x3
noncomputable def accum_copyList_j0 (m : Nat) (self8 : Dt → Option Dt) (x0 : List Dt) : Option (List Dt) :=
  ((mkL (List.length x0 : Int) (List.length x0 : Int) kza2373).bind fun v0 =>
    accum_copyList_j1 m self8 x0 (List.length x0 : Int) 0 v0)
mutual
noncomputable def accum_copyValue : Nat → Dt → Option Dt
  | 0, _ => none
  | m + 1, a0 =>
    ((accum_copyList m (Dt.L a0 3)).bind fun r0 =>
    accum_copyValue_j0 m (accum_copyValue m) (accum_copyList m) (Dt.L a0 4) (List.length (Dt.L a0 4) : Int) 0 kza2373 (Dt.I a0 0) (Dt.I a0 1) (Dt.S a0 2) r0 [])
noncomputable def accum_copyList : Nat → List Dt → Option (List Dt)
  | 0, _ => none
  | m + 1, a0 =>
    (bif ((List.length a0 : Int) == 0) then
    some []
  else
    accum_copyList_j0 m (accum_copyValue m) a0)
end
noncomputable def accum_isList : Nat → Dt → Option Bool
  | 0, _ => none
  | m + 1, a0 =>
    (bif ((Dt.I a0 0) == 6) then
    (bif ((Dt.I a0 1) == 0) then
 (bif ((ByteArray.toList (Dt.S a0 2)) == []) then
 (bif (decide (0 < (List.length (Dt.L a0 3) : Int))) then
 some ((List.length (Dt.L a0 4) : Int) == 0)
 else
 some false)
 else
 some false)
    else
 some false)
  else
    some false)
noncomputable def accum_keysFit_j4 (m : Nat) (rec2 : List Dt → Int → Int → Dt → Option Bool) (x0 : List Dt) (x1 x2 : Int) (x3 : Dt) : Option Bool :=
  rec2 x0 x1 (IntKind.wrap .i64 (x2 + 1)) x3
noncomputable def accum_keysFit_j3 (m : Nat) (rec2 : List Dt → Int → Int → Dt → Option Bool) (x0 : List Dt) (x1 x2 : Int) (x3 : Dt) : Option Bool :=
  ((idx x0 x2).bind fun v0 =>
    (bif ((Dt.I v0 0) != 6) then
 some false
    else
 accum_keysFit_j4 m rec2 x0 x1 x2 x3))
noncomputable def accum_keysFit_j5 (m : Nat) (x0 : Dt) : Option Bool :=
  some ((List.length (Dt.L x0 5) : Int) == (List.length (Dt.L x0 4) : Int))
noncomputable def accum_keysFit_l2 (m : Nat) : Nat → List Dt → Int → Int → Dt → Option Bool
  | 0, _, _, _, _ => none
  | M2 + 1, x0, x1, x2, x3 =>
    (bif (decide (x2 < x1)) then
    accum_keysFit_j3 m (accum_keysFit_l2 m M2) x0 x1 x2 x3
  else
    accum_keysFit_j5 m x3)
noncomputable def accum_keysFit_j1 (m : Nat) (x0 : List Dt) (x1 x2 : Int) (x3 : Dt) : Option Bool :=
  accum_keysFit_l2 m (Nat.succ m) x0 x1 x2 x3
noncomputable def accum_keysFit_j0 (m : Nat) (x0 : Dt) : Option Bool :=
  accum_keysFit_j1 m (Dt.L x0 5) (List.length (Dt.L x0 5) : Int) 0 x0
noncomputable def accum_keysFit : Nat → Dt → Option Bool
  | 0, _ => none
  | m + 1, a0 =>
    (bif ((Dt.I a0 0) != 10) then
    some ((List.length (Dt.L a0 5) : Int) == 0)
  else
    accum_keysFit_j0 m a0)
noncomputable def accum_Unpack_j6 (m : Nat) (rec3 : Dt → Int → Dt → Dt → Option (Dt × Int)) (x0 : Dt) (x1 : Int) (x2 x3 : Dt) : Option (Dt × Int) :=
  rec3 x0 (IntKind.wrap .i64 (x1 + 1)) x2 x3
noncomputable def accum_Unpack_j5 (m : Nat) (rec3 : Dt → Int → Dt → Dt → Option (Dt × Int)) (x0 : Dt) (x1 : Int) (x2 : Bool) (x3 x4 : Dt) : Option (Dt × Int) :=
  (bif x2 then
    some (kzc575d, 4)
  else
    accum_Unpack_j6 m rec3 x0 x1 x3 x4)
noncomputable def accum_Unpack_j4 (m : Nat) (rec3 : Dt → Int → Dt → Dt → Option (Dt × Int)) (x0 : Dt) (x1 : Int) (x2 x3 : Dt) : Option (Dt × Int) :=
  ((idx (Dt.toLst x0) x1).bind fun v0 =>
    ((idx (Dt.L x2 4) x1).bind fun v1 =>
 (bif (Bool.not ((ByteArray.toList (Dt.S v1 0)) == (ByteArray.toList (Dt.toStr v0)))) then
 accum_Unpack_j5 m rec3 x0 x1 true x2 x3
 else
 ((idx (Dt.L x2 4) x1).bind fun v2 =>
 ((accum_isInteger m (Dt.fld v2 1)).bind fun r3 =>
 accum_Unpack_j5 m rec3 x0 x1 (Bool.not r3) x2 x3)))))
noncomputable def accum_Unpack_j15 (m : Nat) (x0 x1 : Dt) : Option (Dt × Int) :=
  some (x1, 0)
noncomputable def accum_Unpack_j14 (m : Nat) (x0 : Bool) (x1 x2 : Dt) : Option (Dt × Int) :=
  (bif x0 then
    some (kzc575d, 4)
  else
    accum_Unpack_j15 m x1 x2)
noncomputable def accum_Unpack_j13 (m : Nat) (x0 : List Dt) (x1 x2 : Dt) : Option (Dt × Int) :=
  (bif (decide (0 < (List.length x0 : Int))) then
    accum_Unpack_j14 m true x1 x2
  else
    ((accum_keysFit m x2).bind fun r25 =>
 accum_Unpack_j14 m (Bool.not r25) x1 x2))
noncomputable def accum_Unpack_j12 (m : Nat) (x0 : List Dt) (x1 : Bool) (x2 x3 : Dt) : Option (Dt × Int) :=
  (bif x1 then
    ((idx x0 0).bind fun v22 =>
 ((accum_copyList m (Dt.L (Dt.fld v22 1) 3)).bind fun r23 =>
 ((cutL x0 1 (List.length x0 : Int)).bind fun v24 =>
 accum_Unpack_j13 m v24 x2 (Dt.agg [(Dt.int (Dt.I x3 0)), (Dt.int (Dt.I x3 1)), (Dt.int (Dt.I x3 2)), (Dt.fld x3 3), (Dt.lst (Dt.L x3 4)), (Dt.lst r23)]))))
  else
    accum_Unpack_j13 m x0 x2 x3)
noncomputable def accum_Unpack_j11 (m : Nat) (x0 : List Dt) (x1 x2 : Dt) : Option (Dt × Int) :=
  (bif (decide (0 < (List.length x0 : Int))) then
    ((idx x0 0).bind fun v19 =>
 (bif ((ByteArray.toList (Dt.S v19 0)) == [107, 101, 121, 115]) then
 ((idx x0 0).bind fun v20 =>
 ((accum_isList m (Dt.fld v20 1)).bind fun r21 =>
 accum_Unpack_j12 m x0 r21 x1 x2))
 else
 accum_Unpack_j12 m x0 false x1 x2))
  else
    accum_Unpack_j12 m x0 false x1 x2)
noncomputable def accum_Unpack_j10 (m : Nat) (x0 : List Dt) (x1 : Bool) (x2 x3 : Dt) : Option (Dt × Int) :=
  (bif x1 then
    ((idx x0 0).bind fun v16 =>
 ((accum_copyList m (Dt.L (Dt.fld v16 1) 3)).bind fun r17 =>
 ((cutL x0 1 (List.length x0 : Int)).bind fun v18 =>
 accum_Unpack_j11 m v18 x2 (Dt.agg [(Dt.int (Dt.I x3 0)), (Dt.int (Dt.I x3 1)), (Dt.int (Dt.I x3 2)), (Dt.fld x3 3), (Dt.lst r17), (Dt.lst (Dt.L x3 5))]))))
  else
    accum_Unpack_j11 m x0 x2 x3)
noncomputable def accum_Unpack_j9 (m : Nat) (x0 : List Dt) (x1 x2 : Dt) : Option (Dt × Int) :=
  (bif (decide (0 < (List.length x0 : Int))) then
    ((idx x0 0).bind fun v13 =>
 (bif ((ByteArray.toList (Dt.S v13 0)) == [108, 105, 115, 116]) then
 ((idx x0 0).bind fun v14 =>
 ((accum_isList m (Dt.fld v14 1)).bind fun r15 =>
 accum_Unpack_j10 m x0 r15 x1 x2))
 else
 accum_Unpack_j10 m x0 false x1 x2))
  else
    accum_Unpack_j10 m x0 false x1 x2)
noncomputable def accum_Unpack_j8 (m : Nat) (x0 : List Dt) (x1 : Bool) (x2 x3 : Dt) : Option (Dt × Int) :=
  (bif x1 then
    ((idx x0 0).bind fun v10 =>
 ((accum_copyValue m (Dt.fld v10 1)).bind fun r11 =>
 ((cutL x0 1 (List.length x0 : Int)).bind fun v12 =>
 accum_Unpack_j9 m v12 x2 (Dt.agg [(Dt.int (Dt.I x3 0)), (Dt.int (Dt.I x3 1)), (Dt.int (Dt.I x3 2)), r11, (Dt.lst (Dt.L x3 4)), (Dt.lst (Dt.L x3 5))]))))
  else
    accum_Unpack_j9 m x0 x2 x3)
noncomputable def accum_Unpack_j7 (m : Nat) (x0 x1 : Dt) : Option (Dt × Int) :=
  ((idx (Dt.L x0 4) 0).bind fun v4 =>
    ((idx (Dt.L x0 4) 1).bind fun v5 =>
 ((idx (Dt.L x0 4) 2).bind fun v6 =>
 ((cutL (Dt.L x0 4) 3 (List.length (Dt.L x0 4) : Int)).bind fun v7 =>
 (bif (decide (0 < (List.length v7 : Int))) then
 ((idx v7 0).bind fun v8 =>
 (bif ((ByteArray.toList (Dt.S v8 0)) == [118, 97, 108, 117, 101]) then
 ((idx v7 0).bind fun v9 =>
 accum_Unpack_j8 m v7 ((Dt.I (Dt.fld v9 1) 0) != 0) x1 (Dt.agg [(Dt.int (Dt.I (Dt.fld v4 1) 1)), (Dt.int (Dt.I (Dt.fld v5 1) 1)), (Dt.int (Dt.I (Dt.fld v6 1) 1)), kza2373, (Dt.lst []), (Dt.lst [])]))
 else
 accum_Unpack_j8 m v7 false x1 (Dt.agg [(Dt.int (Dt.I (Dt.fld v4 1) 1)), (Dt.int (Dt.I (Dt.fld v5 1) 1)), (Dt.int (Dt.I (Dt.fld v6 1) 1)), kza2373, (Dt.lst []), (Dt.lst [])])))
 else
 accum_Unpack_j8 m v7 false x1 (Dt.agg [(Dt.int (Dt.I (Dt.fld v4 1) 1)), (Dt.int (Dt.I (Dt.fld v5 1) 1)), (Dt.int (Dt.I (Dt.fld v6 1) 1)), kza2373, (Dt.lst []), (Dt.lst [])]))))))
noncomputable def accum_Unpack_l3 (m : Nat) : Nat → Dt → Int → Dt → Dt → Option (Dt × Int)
  | 0, _, _, _, _ => none
  | M3 + 1, x0, x1, x2, x3 =>
    (bif (decide (x1 < 3)) then
    accum_Unpack_j4 m (accum_Unpack_l3 m M3) x0 x1 x2 x3
  else
    accum_Unpack_j7 m x2 x3)
noncomputable def accum_Unpack_j2 (m : Nat) (x0 : Dt) (x1 : Int) (x2 x3 : Dt) : Option (Dt × Int) :=
  accum_Unpack_l3 m (Nat.succ m) x0 x1 x2 x3
noncomputable def accum_Unpack_j1 (m : Nat) (x0 x1 : Dt) : Option (Dt × Int) :=
  accum_Unpack_j2 m (Dt.lst [(Dt.str (ByteArray.mk (List.toArray [111, 112]))), (Dt.str (ByteArray.mk (List.toArray [115, 117, 109]))), (Dt.str (ByteArray.mk (List.toArray [99, 111, 117, 110, 116])))]) 0 x0 x1
noncomputable def accum_Unpack_j0 (m : Nat) (x0 : Bool) (x1 x2 : Dt) : Option (Dt × Int) :=
  (bif x0 then
    some (kzc575d, 4)
  else
    accum_Unpack_j1 m x1 x2)
noncomputable def accum_Unpack : Nat → Dt → Option (Dt × Int)
  | 0, _ => none
  | m + 1, a0 =>
    (bif ((Dt.I a0 0) != 5) then
    accum_Unpack_j0 m true a0 kzc575d
  else
    (bif ((Dt.I a0 1) != 0) then
 accum_Unpack_j0 m true a0 kzc575d
    else
 (bif (Bool.not ((ByteArray.toList (Dt.S a0 2)) == [])) then
 accum_Unpack_j0 m true a0 kzc575d
 else
 (bif (decide (0 < (List.length (Dt.L a0 3) : Int))) then
 accum_Unpack_j0 m true a0 kzc575d
 else
 accum_Unpack_j0 m (decide ((List.length (Dt.L a0 4) : Int) < 3)) a0 kzc575d))))
noncomputable def ref01_Same_j5 (m : Nat) (self13 : Dt → Dt → Option Bool) (rec3 : Int → Dt → Dt → Option Bool) (x0 : Int) (x1 x2 : Dt) : Option Bool :=
  rec3 (IntKind.wrap .i64 (x0 + 1)) x1 x2
noncomputable def ref01_Same_j4 (m : Nat) (self13 : Dt → Dt → Option Bool) (rec3 : Int → Dt → Dt → Option Bool) (x0 : Int) (x1 x2 : Dt) : Option Bool :=
  ((idx (Dt.L x1 3) x0).bind fun v0 =>
    ((idx (Dt.L x2 3) x0).bind fun v1 =>
 ((self13 v0 v1).bind fun r2 =>
 (bif (Bool.not r2) then
 some false
 else
 ref01_Same_j5 m self13 rec3 x0 x1 x2))))
noncomputable def ref01_Same_j11 (m : Nat) (self13 : Dt → Dt → Option Bool) (rec8 : Int → Dt → Dt → Option Bool) (x0 : Int) (x1 x2 : Dt) : Option Bool :=
  rec8 (IntKind.wrap .i64 (x0 + 1)) x1 x2
noncomputable def ref01_Same_j10 (m : Nat) (self13 : Dt → Dt → Option Bool) (rec8 : Int → Dt → Dt → Option Bool) (x0 : Int) (x1 : Bool) (x2 x3 : Dt) : Option Bool :=
  (bif x1 then
    some false
  else
    ref01_Same_j11 m self13 rec8 x0 x2 x3)
noncomputable def ref01_Same_j9 (m : Nat) (self13 : Dt → Dt → Option Bool) (rec8 : Int → Dt → Dt → Option Bool) (x0 : Int) (x1 x2 : Dt) : Option Bool :=
  ((idx (Dt.L x1 4) x0).bind fun v3 =>
    ((idx (Dt.L x2 4) x0).bind fun v4 =>
 (bif (Bool.not ((ByteArray.toList (Dt.S v3 0)) == (ByteArray.toList (Dt.S v4 0)))) then
 ref01_Same_j10 m self13 rec8 x0 true x1 x2
 else
 ((idx (Dt.L x1 4) x0).bind fun v5 =>
 ((idx (Dt.L x2 4) x0).bind fun v6 =>
 ((self13 (Dt.fld v5 1) (Dt.fld v6 1)).bind fun r7 =>
 ref01_Same_j10 m self13 rec8 x0 (Bool.not r7) x1 x2))))))
noncomputable def ref01_Same_j12 (m : Nat) (self13 : Dt → Dt → Option Bool) : Option Bool :=
  some true
noncomputable def ref01_Same_l8 (m : Nat) (self13 : Dt → Dt → Option Bool) : Nat → Int → Dt → Dt → Option Bool
  | 0, _, _, _ => none
  | M8 + 1, x0, x1, x2 =>
    (bif (decide (x0 < (List.length (Dt.L x1 4) : Int))) then
    ref01_Same_j9 m self13 (ref01_Same_l8 m self13 M8) x0 x1 x2
  else
    ref01_Same_j12 m self13)
noncomputable def ref01_Same_j7 (m : Nat) (self13 : Dt → Dt → Option Bool) (x0 : Int) (x1 x2 : Dt) : Option Bool :=
  ref01_Same_l8 m self13 (Nat.succ m) x0 x1 x2
noncomputable def ref01_Same_j6 (m : Nat) (self13 : Dt → Dt → Option Bool) (x0 x1 : Dt) : Option Bool :=
  ref01_Same_j7 m self13 0 x0 x1
noncomputable def ref01_Same_l3 (m : Nat) (self13 : Dt → Dt → Option Bool) : Nat → Int → Dt → Dt → Option Bool
  | 0, _, _, _ => none
  | M3 + 1, x0, x1, x2 =>
    (bif (decide (x0 < (List.length (Dt.L x1 3) : Int))) then
    ref01_Same_j4 m self13 (ref01_Same_l3 m self13 M3) x0 x1 x2
  else
    ref01_Same_j6 m self13 x1 x2)
noncomputable def ref01_Same_j2 (m : Nat) (self13 : Dt → Dt → Option Bool) (x0 : Int) (x1 x2 : Dt) : Option Bool :=
  ref01_Same_l3 m self13 (Nat.succ m) x0 x1 x2
noncomputable def ref01_Same_j1 (m : Nat) (self13 : Dt → Dt → Option Bool) (x0 x1 : Dt) : Option Bool :=
  ref01_Same_j2 m self13 0 x0 x1
noncomputable def ref01_Same_j0 (m : Nat) (self13 : Dt → Dt → Option Bool) (x0 : Bool) (x1 x2 : Dt) : Option Bool :=
  (bif x0 then
    some false
  else
    ref01_Same_j1 m self13 x1 x2)
noncomputable def ref01_Same : Nat → Dt → Dt → Option Bool
  | 0, _, _ => none
  | m + 1, a0, a1 =>
    (bif ((Dt.I a0 0) != (Dt.I a1 0)) then
    ref01_Same_j0 m (ref01_Same m) true a0 a1
  else
    (bif ((Dt.I a0 1) != (Dt.I a1 1)) then
 ref01_Same_j0 m (ref01_Same m) true a0 a1
    else
 (bif (Bool.not ((ByteArray.toList (Dt.S a0 2)) == (ByteArray.toList (Dt.S a1 2)))) then
 ref01_Same_j0 m (ref01_Same m) true a0 a1
 else
 (bif ((List.length (Dt.L a0 3) : Int) != (List.length (Dt.L a1 3) : Int)) then
 ref01_Same_j0 m (ref01_Same m) true a0 a1
 else
 ref01_Same_j0 m (ref01_Same m) ((List.length (Dt.L a0 4) : Int) != (List.length (Dt.L a1 4) : Int)) a0 a1))))
noncomputable def ref01_SameList : Nat → List Dt → List Dt → Option Bool
  | 0, _, _ => none
  | m + 1, a0, a1 =>
    ((ref01_Same m (Dt.agg [(Dt.int 6), (Dt.int 0), (Dt.str (ByteArray.mk (List.toArray []))), (Dt.lst a0), (Dt.lst [])]) (Dt.agg [(Dt.int 6), (Dt.int 0), (Dt.str (ByteArray.mk (List.toArray []))), (Dt.lst a1), (Dt.lst [])])).bind fun r0 =>
    some r0)
noncomputable def ref32_Same : Nat → Dt → Dt → Option Bool
  | 0, _, _ => none
  | m + 1, a0, a1 =>
    (bif ((Dt.I a0 0) == (Dt.I a1 0)) then
    (bif ((Dt.I a0 1) == (Dt.I a1 1)) then
 (bif ((Dt.I a0 2) == (Dt.I a1 2)) then
 ((ref01_Same m (Dt.fld a0 3) (Dt.fld a1 3)).bind fun r0 =>
 (bif r0 then
 ((ref01_SameList m (Dt.L a0 4) (Dt.L a1 4)).bind fun r1 =>
 (bif r1 then
 ((ref01_SameList m (Dt.L a0 5) (Dt.L a1 5)).bind fun r2 =>
 some r2)
 else
 some false))
 else
 some false))
 else
 some false)
    else
 some false)
  else
    some false)
noncomputable def ref01_Int : Nat → Int → Option Dt
  | 0, _ => none
  | m + 1, a0 =>
    some (Dt.agg [(Dt.int 3), (Dt.int a0), (Dt.str (ByteArray.mk (List.toArray []))), (Dt.lst []), (Dt.lst [])])
noncomputable def ref01_List : Nat → List Dt → Option Dt
  | 0, _ => none
  | m + 1, a0 =>
    some (Dt.agg [(Dt.int 6), (Dt.int 0), (Dt.str (ByteArray.mk (List.toArray []))), (Dt.lst a0), (Dt.lst [])])
noncomputable def ref32_Pack_j2 (m : Nat) (x0 : Dt) (x1 x2 : Int) (x3 : ByteArray) (x4 x5 : List Dt) : Option Dt :=
  some (Dt.agg [(Dt.int x1), (Dt.int x2), (Dt.str x3), (Dt.lst x4), (Dt.lst x5)])
noncomputable def ref32_Pack_j1 (m : Nat) (x0 x1 : Dt) (x2 x3 : Int) (x4 : ByteArray) (x5 x6 : List Dt) : Option Dt :=
  (bif (decide (0 < (List.length (Dt.L x0 5) : Int))) then
    ((ref01_List m (Dt.L x0 5)).bind fun r5 =>
 ((app x6 [(Dt.agg [(Dt.str (ByteArray.mk (List.toArray [107, 101, 121, 115]))), r5])]).bind fun v6 =>
 ref32_Pack_j2 m x1 x2 x3 x4 x5 v6))
  else
    ref32_Pack_j2 m x1 x2 x3 x4 x5 x6)
noncomputable def ref32_Pack_j0 (m : Nat) (x0 x1 : Dt) (x2 x3 : Int) (x4 : ByteArray) (x5 x6 : List Dt) : Option Dt :=
  (bif (decide (0 < (List.length (Dt.L x0 4) : Int))) then
    ((ref01_List m (Dt.L x0 4)).bind fun r3 =>
 ((app x6 [(Dt.agg [(Dt.str (ByteArray.mk (List.toArray [108, 105, 115, 116]))), r3])]).bind fun v4 =>
 ref32_Pack_j1 m x0 x1 x2 x3 x4 x5 v4))
  else
    ref32_Pack_j1 m x0 x1 x2 x3 x4 x5 x6)
noncomputable def ref32_Pack : Nat → Dt → Option Dt
  | 0, _ => none
  | m + 1, a0 =>
    ((ref01_Int m (Dt.I a0 0)).bind fun r0 =>
    ((ref01_Int m (Dt.I a0 1)).bind fun r1 =>
 ((ref01_Int m (Dt.I a0 2)).bind fun r2 =>
 (bif ((Dt.I (Dt.fld a0 3) 0) != 0) then
 ref32_Pack_j0 m a0 kza2373 5 0 (ByteArray.mk (List.toArray [])) [] [(Dt.agg [(Dt.str (ByteArray.mk (List.toArray [111, 112]))), r0]), (Dt.agg [(Dt.str (ByteArray.mk (List.toArray [115, 117, 109]))), r1]), (Dt.agg [(Dt.str (ByteArray.mk (List.toArray [99, 111, 117, 110, 116]))), r2]), (Dt.agg [(Dt.str (ByteArray.mk (List.toArray [118, 97, 108, 117, 101]))), (Dt.fld a0 3)])]
 else
 ref32_Pack_j0 m a0 kza2373 5 0 (ByteArray.mk (List.toArray [])) [] [(Dt.agg [(Dt.str (ByteArray.mk (List.toArray [111, 112]))), r0]), (Dt.agg [(Dt.str (ByteArray.mk (List.toArray [115, 117, 109]))), r1]), (Dt.agg [(Dt.str (ByteArray.mk (List.toArray [99, 111, 117, 110, 116]))), r2])]))))
noncomputable def ref32_Unpack_j3 (m : Nat) (rec1 : Int → Dt → Dt → Dt → Option (Dt × Int)) (x0 : Int) (x1 x2 x3 : Dt) : Option (Dt × Int) :=
  rec1 (IntKind.wrap .i64 (x0 + 1)) x1 x2 x3
noncomputable def ref32_Unpack_j2 (m : Nat) (rec1 : Int → Dt → Dt → Dt → Option (Dt × Int)) (x0 : Int) (x1 x2 x3 : Dt) : Option (Dt × Int) :=
  ((idx (Dt.L x1 4) x0).bind fun v0 =>
    ((idx (Dt.L x1 4) x0).bind fun v1 =>
 (bif ((ByteArray.toList (Dt.S v1 0)) == [111, 112]) then
 ref32_Unpack_j3 m rec1 x0 x1 x2 (Dt.agg [(Dt.int (Dt.I (Dt.fld v0 1) 1)), (Dt.int (Dt.I x3 1)), (Dt.int (Dt.I x3 2)), (Dt.fld x3 3), (Dt.lst (Dt.L x3 4)), (Dt.lst (Dt.L x3 5))])
 else
 (bif ((ByteArray.toList (Dt.S v1 0)) == [115, 117, 109]) then
 ref32_Unpack_j3 m rec1 x0 x1 x2 (Dt.agg [(Dt.int (Dt.I x3 0)), (Dt.int (Dt.I (Dt.fld v0 1) 1)), (Dt.int (Dt.I x3 2)), (Dt.fld x3 3), (Dt.lst (Dt.L x3 4)), (Dt.lst (Dt.L x3 5))])
 else
 (bif ((ByteArray.toList (Dt.S v1 0)) == [99, 111, 117, 110, 116]) then
 ref32_Unpack_j3 m rec1 x0 x1 x2 (Dt.agg [(Dt.int (Dt.I x3 0)), (Dt.int (Dt.I x3 1)), (Dt.int (Dt.I (Dt.fld v0 1) 1)), (Dt.fld x3 3), (Dt.lst (Dt.L x3 4)), (Dt.lst (Dt.L x3 5))])
 else
 (bif ((ByteArray.toList (Dt.S v1 0)) == [118, 97, 108, 117, 101]) then
 ref32_Unpack_j3 m rec1 x0 x1 x2 (Dt.agg [(Dt.int (Dt.I x3 0)), (Dt.int (Dt.I x3 1)), (Dt.int (Dt.I x3 2)), (Dt.fld v0 1), (Dt.lst (Dt.L x3 4)), (Dt.lst (Dt.L x3 5))])
 else
 (bif ((ByteArray.toList (Dt.S v1 0)) == [108, 105, 115, 116]) then
 ref32_Unpack_j3 m rec1 x0 x1 x2 (Dt.agg [(Dt.int (Dt.I x3 0)), (Dt.int (Dt.I x3 1)), (Dt.int (Dt.I x3 2)), (Dt.fld x3 3), (Dt.lst (Dt.L (Dt.fld v0 1) 3)), (Dt.lst (Dt.L x3 5))])
 else
 (bif ((ByteArray.toList (Dt.S v1 0)) == [107, 101, 121, 115]) then
 ref32_Unpack_j3 m rec1 x0 x1 x2 (Dt.agg [(Dt.int (Dt.I x3 0)), (Dt.int (Dt.I x3 1)), (Dt.int (Dt.I x3 2)), (Dt.fld x3 3), (Dt.lst (Dt.L x3 4)), (Dt.lst (Dt.L (Dt.fld v0 1) 3))])
 else
 ref32_Unpack_j3 m rec1 x0 x1 x2 x3))))))))
noncomputable def ref32_Unpack_j10 (m : Nat) (rec8 : Int → Dt → Dt → Dt → Option (Dt × Int)) (x0 : Int) (x1 x2 x3 : Dt) : Option (Dt × Int) :=
  rec8 (IntKind.wrap .i64 (x0 + 1)) x1 x2 x3
noncomputable def ref32_Unpack_j9 (m : Nat) (rec8 : Int → Dt → Dt → Dt → Option (Dt × Int)) (x0 : Int) (x1 x2 x3 : Dt) : Option (Dt × Int) :=
  ((idx (Dt.L x3 5) x0).bind fun v2 =>
    (bif ((Dt.I v2 0) != 6) then
 some (kzc575d, 4)
    else
 ref32_Unpack_j10 m rec8 x0 x1 x2 x3))
noncomputable def ref32_Unpack_j12 (m : Nat) (x0 x1 : Dt) : Option (Dt × Int) :=
  some (x1, 0)
noncomputable def ref32_Unpack_j11 (m : Nat) (x0 x1 x2 : Dt) : Option (Dt × Int) :=
  ((ref32_Pack m x2).bind fun r3 =>
    ((ref01_Same m r3 x0).bind fun r4 =>
 (bif (Bool.not r4) then
 some (kzc575d, 4)
 else
 ref32_Unpack_j12 m x1 x2)))
noncomputable def ref32_Unpack_l8 (m : Nat) : Nat → Int → Dt → Dt → Dt → Option (Dt × Int)
  | 0, _, _, _, _ => none
  | M8 + 1, x0, x1, x2, x3 =>
    (bif (decide (x0 < (List.length (Dt.L x3 5) : Int))) then
    ref32_Unpack_j9 m (ref32_Unpack_l8 m M8) x0 x1 x2 x3
  else
    ref32_Unpack_j11 m x1 x2 x3)
noncomputable def ref32_Unpack_j7 (m : Nat) (x0 : Int) (x1 x2 x3 : Dt) : Option (Dt × Int) :=
  ref32_Unpack_l8 m (Nat.succ m) x0 x1 x2 x3
noncomputable def ref32_Unpack_j6 (m : Nat) (x0 x1 x2 : Dt) : Option (Dt × Int) :=
  ref32_Unpack_j7 m 0 x0 x1 x2
noncomputable def ref32_Unpack_j5 (m : Nat) (x0 : Bool) (x1 x2 x3 : Dt) : Option (Dt × Int) :=
  (bif x0 then
    some (kzc575d, 4)
  else
    ref32_Unpack_j6 m x1 x2 x3)
noncomputable def ref32_Unpack_j4 (m : Nat) (x0 x1 x2 : Dt) : Option (Dt × Int) :=
  (bif ((Dt.I x2 0) == 10) then
    (bif ((List.length (Dt.L x2 5) : Int) != (List.length (Dt.L x2 4) : Int)) then
 ref32_Unpack_j5 m true x0 x1 x2
    else
 (bif ((Dt.I x2 0) != 10) then
 ref32_Unpack_j5 m (decide (0 < (List.length (Dt.L x2 5) : Int))) x0 x1 x2
 else
 ref32_Unpack_j5 m false x0 x1 x2))
  else
    (bif ((Dt.I x2 0) != 10) then
 ref32_Unpack_j5 m (decide (0 < (List.length (Dt.L x2 5) : Int))) x0 x1 x2
    else
 ref32_Unpack_j5 m false x0 x1 x2))
noncomputable def ref32_Unpack_l1 (m : Nat) : Nat → Int → Dt → Dt → Dt → Option (Dt × Int)
  | 0, _, _, _, _ => none
  | M1 + 1, x0, x1, x2, x3 =>
    (bif (decide (x0 < (List.length (Dt.L x1 4) : Int))) then
    ref32_Unpack_j2 m (ref32_Unpack_l1 m M1) x0 x1 x2 x3
  else
    ref32_Unpack_j4 m x1 x2 x3)
noncomputable def ref32_Unpack_j0 (m : Nat) (x0 : Int) (x1 x2 x3 : Dt) : Option (Dt × Int) :=
  ref32_Unpack_l1 m (Nat.succ m) x0 x1 x2 x3
noncomputable def ref32_Unpack : Nat → Dt → Option (Dt × Int)
  | 0, _ => none
  | m + 1, a0 =>
    ref32_Unpack_j0 m 0 a0 kzc575d kzc575d
noncomputable def law32_AccumUnpacks_j0 (m : Nat) (x0 : Dt) : Option Bool :=
  ((accum_Unpack m x0).bind fun r2 =>
    ((ref32_Unpack m x0).bind fun r3 =>
 ((ref32_Same m r2.1 r3.1).bind fun r4 =>
 (bif r4 then
 (bif (r2.2 == r3.2) then
 ((awakeC).bind fun r5 =>
 some r5)
 else
 some false)
 else
 some false))))
noncomputable def law32_AccumUnpacks : Nat → Dt → Option Bool
  | 0, _ => none
  | m + 1, a0 =>
    ((ref02_Few m a0 2000).bind fun r0 =>
    (bif (Bool.not r0) then
 ((awakeC).bind fun r1 =>
 some r1)
    else
 law32_AccumUnpacks_j0 m a0))
end Go.Proofs.YtacpcknpliomoaaGreat
