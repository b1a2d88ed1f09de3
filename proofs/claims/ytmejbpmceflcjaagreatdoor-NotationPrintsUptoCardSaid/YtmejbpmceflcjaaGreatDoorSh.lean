/- Generated: what the Go functions compute, over plain data. -/
import Derived.Test.YtmejbpmceflcjaaGreatDoorAm20
import Derived.Test.YtmejbpmceflcjaaGreatDoorOAwake
import Derived.Test.YtmejbpmceflcjaaGreatDoorOLibN
import Derived.Test.YtmejbpmceflcjaaGreatDoorOAppF
set_option linter.unusedVariables false
set_option linter.unusedSimpArgs false
namespace Go.Proofs.YtmejbpmceflcjaaGreatDoor
open Go.Am
def kza2373 : Dt := Dt.agg [(Dt.int 0), (Dt.int 0), (Dt.str (ByteArray.mk (List.toArray []))), (Dt.lst []), (Dt.lst [])]
def kz2ef54 : Dt := Dt.agg [(Dt.int 1), (Dt.int 0), (Dt.str (ByteArray.mk (List.toArray []))), (Dt.lst []), (Dt.lst [])]
def kzedecf : Dt := Dt.agg [(Dt.int 11), (Dt.int 0), (Dt.str (ByteArray.mk (List.toArray []))), (Dt.lst []), (Dt.lst [])]
def kzcda49 : Dt := Dt.agg [(Dt.str (ByteArray.mk (List.toArray []))), (Dt.agg [(Dt.int 0), (Dt.int 0), (Dt.str (ByteArray.mk (List.toArray []))), (Dt.lst []), (Dt.lst [])])]
noncomputable def ref02_count_j5 (m : Nat) (self5 : Dt → Int → Int → Option Int) (rec3 : Int → Int → Int → Dt → Option Int) (x0 x1 x2 : Int) (x3 : Dt) : Option Int :=
  rec3 x0 x1 (IntKind.wrap .i64 (x2 + 1)) x3
noncomputable def ref02_count_j4 (m : Nat) (self5 : Dt → Int → Int → Option Int) (rec3 : Int → Int → Int → Dt → Option Int) (x0 x1 x2 : Int) (x3 : Dt) : Option Int :=
  ((idx (Dt.L x3 3) x2).bind fun v0 =>
    ((self5 v0 (IntKind.wrap .i64 (x0 + 1)) x1).bind fun r1 =>
 ref02_count_j5 m self5 rec3 x0 r1 x2 x3))
noncomputable def ref02_count_j11 (m : Nat) (self5 : Dt → Int → Int → Option Int) (rec8 : Int → Int → Int → Dt → Option Int) (x0 x1 x2 : Int) (x3 : Dt) : Option Int :=
  rec8 x0 x1 (IntKind.wrap .i64 (x2 + 1)) x3
noncomputable def ref02_count_j10 (m : Nat) (self5 : Dt → Int → Int → Option Int) (rec8 : Int → Int → Int → Dt → Option Int) (x0 x1 x2 : Int) (x3 : Dt) : Option Int :=
  ((idx (Dt.L x3 4) x2).bind fun v3 =>
    ((self5 (Dt.fld v3 1) (IntKind.wrap .i64 (x0 + 1)) x1).bind fun r4 =>
 ref02_count_j11 m self5 rec8 x0 r4 x2 x3))
noncomputable def ref02_count_j9 (m : Nat) (self5 : Dt → Int → Int → Option Int) (rec8 : Int → Int → Int → Dt → Option Int) (x0 x1 x2 : Int) (x3 : Dt) : Option Int :=
  ((idx (Dt.L x3 4) x2).bind fun v2 =>
    (bif (decide (200 < (ByteArray.size (Dt.S v2 0) : Int))) then
 some (-1)
    else
 ref02_count_j10 m self5 rec8 x0 x1 x2 x3))
noncomputable def ref02_count_j12 (m : Nat) (self5 : Dt → Int → Int → Option Int) (x0 : Int) : Option Int :=
  some x0
noncomputable def ref02_count_l8 (m : Nat) (self5 : Dt → Int → Int → Option Int) : Nat → Int → Int → Int → Dt → Option Int
  | 0, _, _, _, _ => none
  | M8 + 1, x0, x1, x2, x3 =>
    (bif (decide (x2 < (List.length (Dt.L x3 4) : Int))) then
    (bif (decide (0 ≤ x1)) then
 ref02_count_j9 m self5 (ref02_count_l8 m self5 M8) x0 x1 x2 x3
    else
 ref02_count_j12 m self5 x1)
  else
    ref02_count_j12 m self5 x1)
noncomputable def ref02_count_j7 (m : Nat) (self5 : Dt → Int → Int → Option Int) (x0 x1 x2 : Int) (x3 : Dt) : Option Int :=
  ref02_count_l8 m self5 (Nat.succ m) x0 x1 x2 x3
noncomputable def ref02_count_j6 (m : Nat) (self5 : Dt → Int → Int → Option Int) (x0 x1 : Int) (x2 : Dt) : Option Int :=
  ref02_count_j7 m self5 x0 x1 0 x2
noncomputable def ref02_count_l3 (m : Nat) (self5 : Dt → Int → Int → Option Int) : Nat → Int → Int → Int → Dt → Option Int
  | 0, _, _, _, _ => none
  | M3 + 1, x0, x1, x2, x3 =>
    (bif (decide (x2 < (List.length (Dt.L x3 3) : Int))) then
    (bif (decide (0 ≤ x1)) then
 ref02_count_j4 m self5 (ref02_count_l3 m self5 M3) x0 x1 x2 x3
    else
 ref02_count_j6 m self5 x0 x1 x3)
  else
    ref02_count_j6 m self5 x0 x1 x3)
noncomputable def ref02_count_j2 (m : Nat) (self5 : Dt → Int → Int → Option Int) (x0 x1 x2 : Int) (x3 : Dt) : Option Int :=
  ref02_count_l3 m self5 (Nat.succ m) x0 x1 x2 x3
noncomputable def ref02_count_j1 (m : Nat) (self5 : Dt → Int → Int → Option Int) (x0 x1 : Int) (x2 : Dt) : Option Int :=
  ref02_count_j2 m self5 x0 x1 0 x2
noncomputable def ref02_count_j0 (m : Nat) (self5 : Dt → Int → Int → Option Int) (x0 x1 : Int) (x2 : Bool) (x3 : Dt) : Option Int :=
  (bif x2 then
    some (-1)
  else
    ref02_count_j1 m self5 x0 x1 x3)
noncomputable def ref02_count : Nat → Dt → Int → Int → Option Int
  | 0, _, _, _ => none
  | m + 1, a0, a1, a2 =>
    (bif (decide (40 < a1)) then
    ref02_count_j0 m (ref02_count m) a1 (IntKind.wrap .i64 (a2 - 1)) true a0
  else
    ref02_count_j0 m (ref02_count m) a1 (IntKind.wrap .i64 (a2 - 1)) (decide (5000 < (ByteArray.size (Dt.S a0 2) : Int))) a0)
noncomputable def ref02_Few : Nat → Dt → Int → Option Bool
  | 0, _, _ => none
  | m + 1, a0, a1 =>
    ((ref02_count m a0 1 a1).bind fun r0 =>
    some (decide (0 ≤ r0)))
noncomputable def i9_j0 (m : Nat) (x0 : List Dt) : Option (List Dt) :=
  ((app x0 [(Dt.int 102), (Dt.int 97), (Dt.int 108), (Dt.int 115), (Dt.int 101)]).bind fun v1 =>
    some v1)
noncomputable def i9 : Nat → Bool → List Dt → Option (List Dt)
  | 0, _, _ => none
  | m + 1, a0, a1 =>
    (bif a0 then
    ((app a1 [(Dt.int 116), (Dt.int 114), (Dt.int 117), (Dt.int 101)]).bind fun v0 =>
 some v0)
  else
    i9_j0 m a1)
noncomputable def i8 : Nat → Bool → List Dt → Option (List Dt)
  | 0, _, _ => none
  | m + 1, a0, a1 =>
    ((i9 m a0 a1).bind fun r0 =>
    some r0)
noncomputable def notation_Quote_j4 (m : Nat) (rec1 : ByteArray → Int → Int → List Dt → Option ByteArray) (x0 : ByteArray) (x1 x2 : Int) (x3 : List Dt) : Option ByteArray :=
  rec1 x0 x1 (IntKind.wrap .i64 (x2 + 1)) x3
noncomputable def notation_Quote_j5 (m : Nat) (rec1 : ByteArray → Int → Int → List Dt → Option ByteArray) (x0 : ByteArray) (x1 x2 x3 : Int) (x4 : Bool) (x5 : List Dt) : Option ByteArray :=
  (bif x4 then
    ((app x5 [(Dt.int 92), (Dt.int 117), (Dt.int 48), (Dt.int 48)]).bind fun v5 =>
 ((idxS (ByteArray.mk (List.toArray [48, 49, 50, 51, 52, 53, 54, 55, 56, 57, 97, 98, 99, 100, 101, 102])) (shrI IntKind.u8 x1 4)).bind fun v6 =>
 ((idxS (ByteArray.mk (List.toArray [48, 49, 50, 51, 52, 53, 54, 55, 56, 57, 97, 98, 99, 100, 101, 102])) (andI IntKind.u8 x1 15)).bind fun v7 =>
 ((app v5 [(Dt.int v6), (Dt.int v7)]).bind fun v8 =>
 notation_Quote_j4 m rec1 x0 x2 x3 v8))))
  else
    ((app x5 [(Dt.int x1)]).bind fun v9 =>
 notation_Quote_j4 m rec1 x0 x2 x3 v9))
noncomputable def notation_Quote_j3 (m : Nat) (rec1 : ByteArray → Int → Int → List Dt → Option ByteArray) (x0 : ByteArray) (x1 x2 x3 : Int) (x4 : Bool) (x5 : List Dt) : Option ByteArray :=
  (bif x4 then
    ((app x5 [(Dt.int 92), (Dt.int x1)]).bind fun v1 =>
 notation_Quote_j4 m rec1 x0 x2 x3 v1)
  else
    (bif (x1 == 10) then
 ((app x5 [(Dt.int 92), (Dt.int 110)]).bind fun v2 =>
 notation_Quote_j4 m rec1 x0 x2 x3 v2)
    else
 (bif (x1 == 13) then
 ((app x5 [(Dt.int 92), (Dt.int 114)]).bind fun v3 =>
 notation_Quote_j4 m rec1 x0 x2 x3 v3)
 else
 (bif (x1 == 9) then
 ((app x5 [(Dt.int 92), (Dt.int 116)]).bind fun v4 =>
 notation_Quote_j4 m rec1 x0 x2 x3 v4)
 else
 (bif (decide (x1 < 32)) then
 notation_Quote_j5 m rec1 x0 x1 x2 x3 true x5
 else
 notation_Quote_j5 m rec1 x0 x1 x2 x3 (x1 == 127) x5)))))
noncomputable def notation_Quote_j2 (m : Nat) (rec1 : ByteArray → Int → Int → List Dt → Option ByteArray) (x0 : ByteArray) (x1 x2 : Int) (x3 : List Dt) : Option ByteArray :=
  ((idxS x0 x2).bind fun v0 =>
    (bif (v0 == 34) then
 notation_Quote_j3 m rec1 x0 v0 x1 x2 true x3
    else
 notation_Quote_j3 m rec1 x0 v0 x1 x2 (v0 == 92) x3))
noncomputable def notation_Quote_j6 (m : Nat) (x0 : List Dt) : Option ByteArray :=
  ((app x0 [(Dt.int 34)]).bind fun v10 =>
    ((bif (Nat.ble (List.length v10) 137438953472) then (Option.some (strOfNums (List.map Dt.toInt v10))) else (Option.none)).bind fun v11 =>
 some v11))
noncomputable def notation_Quote_l1 (m : Nat) : Nat → ByteArray → Int → Int → List Dt → Option ByteArray
  | 0, _, _, _, _ => none
  | M1 + 1, x0, x1, x2, x3 =>
    (bif (decide (x2 < x1)) then
    notation_Quote_j2 m (notation_Quote_l1 m M1) x0 x1 x2 x3
  else
    notation_Quote_j6 m x3)
noncomputable def notation_Quote_j0 (m : Nat) (x0 : ByteArray) (x1 x2 : Int) (x3 : List Dt) : Option ByteArray :=
  notation_Quote_l1 m (Nat.succ m) x0 x1 x2 x3
noncomputable def notation_Quote : Nat → ByteArray → Option ByteArray
  | 0, _ => none
  | m + 1, a0 =>
    notation_Quote_j0 m a0 (ByteArray.size a0 : Int) 0 [(Dt.int 34)]
noncomputable def i12_j3 (m : Nat) (rec1 : ByteArray → Int → Int → List Dt → Option (List Dt)) (x0 : ByteArray) (x1 x2 : Int) (x3 : List Dt) : Option (List Dt) :=
  rec1 x0 x1 (IntKind.wrap .i64 (x2 + 1)) x3
noncomputable def i12_j2 (m : Nat) (rec1 : ByteArray → Int → Int → List Dt → Option (List Dt)) (x0 : ByteArray) (x1 x2 : Int) (x3 : List Dt) : Option (List Dt) :=
  ((idxS x0 x2).bind fun v0 =>
    ((idxS (ByteArray.mk (List.toArray [48, 49, 50, 51, 52, 53, 54, 55, 56, 57, 97, 98, 99, 100, 101, 102])) (shrI IntKind.u8 v0 4)).bind fun v1 =>
 ((idxS x0 x2).bind fun v2 =>
 ((idxS (ByteArray.mk (List.toArray [48, 49, 50, 51, 52, 53, 54, 55, 56, 57, 97, 98, 99, 100, 101, 102])) (andI IntKind.u8 v2 15)).bind fun v3 =>
 ((app x3 [(Dt.int v1), (Dt.int v3)]).bind fun v4 =>
 i12_j3 m rec1 x0 x1 x2 v4)))))
noncomputable def i12_j4 (m : Nat) (x0 : List Dt) : Option (List Dt) :=
  some x0
noncomputable def i12_l1 (m : Nat) : Nat → ByteArray → Int → Int → List Dt → Option (List Dt)
  | 0, _, _, _, _ => none
  | M1 + 1, x0, x1, x2, x3 =>
    (bif (decide (x2 < x1)) then
    i12_j2 m (i12_l1 m M1) x0 x1 x2 x3
  else
    i12_j4 m x3)
noncomputable def i12_j0 (m : Nat) (x0 : ByteArray) (x1 x2 : Int) (x3 : List Dt) : Option (List Dt) :=
  i12_l1 m (Nat.succ m) x0 x1 x2 x3
noncomputable def i12 : Nat → ByteArray → List Dt → Option (List Dt)
  | 0, _, _ => none
  | m + 1, a0, a1 =>
    i12_j0 m a0 (ByteArray.size a0 : Int) 0 a1
noncomputable def notation_fromHex_j8 (m : Nat) (rec3 : Int → Int → Dt → List Dt → Option (ByteArray × Bool)) (x0 x1 : Int) (x2 : Dt) (x3 : List Dt) : Option (ByteArray × Bool) :=
  rec3 x0 (IntKind.wrap .i64 (x1 + 1)) x2 x3
noncomputable def notation_fromHex_j7 (m : Nat) (rec3 : Int → Int → Dt → List Dt → Option (ByteArray × Bool)) (x0 x1 x2 x3 : Int) (x4 : Dt) (x5 : List Dt) : Option (ByteArray × Bool) :=
  ((inL x5 (IntKind.wrap .i64 (Int.tdiv x0 2))).bind fun v2 =>
    ((x5[(Int.toNat (IntKind.wrap .i64 (Int.tdiv x0 2)))]?).bind fun v3 =>
 ((inL x5 (IntKind.wrap .i64 (Int.tdiv x0 2))).bind fun v4 =>
 ((x5[(Int.toNat (IntKind.wrap .i64 (Int.tdiv x0 2)))]?).bind fun v5 =>
 notation_fromHex_j8 m rec3 x2 x3 x4 (List.set x5 (Int.toNat (IntKind.wrap .i64 (Int.tdiv x0 2))) (Dt.int (orI IntKind.u8 (shlI IntKind.u8 (Dt.toInt v3) 4) (IntKind.wrap IntKind.u8 x1))))))))
noncomputable def notation_fromHex_j6 (m : Nat) (rec3 : Int → Int → Dt → List Dt → Option (ByteArray × Bool)) (x0 x1 x2 x3 : Int) (x4 : Dt) (x5 : List Dt) : Option (ByteArray × Bool) :=
  (bif (decide (x1 < 0)) then
    some ((ByteArray.mk (List.toArray [])), false)
  else
    notation_fromHex_j7 m rec3 x0 x1 x2 x3 x4 x5)
noncomputable def notation_fromHex_j9 (m : Nat) (rec3 : Int → Int → Dt → List Dt → Option (ByteArray × Bool)) (x0 x1 x2 x3 x4 : Int) (x5 : Bool) (x6 : Dt) (x7 : List Dt) : Option (ByteArray × Bool) :=
  (bif x5 then
    notation_fromHex_j6 m rec3 x0 (IntKind.wrap .i64 ((IntKind.wrap .i64 (IntKind.wrap IntKind.u8 (x2 - 97))) + 10)) x3 x4 x6 x7
  else
    notation_fromHex_j6 m rec3 x0 x1 x3 x4 x6 x7)
noncomputable def notation_fromHex_j5 (m : Nat) (rec3 : Int → Int → Dt → List Dt → Option (ByteArray × Bool)) (x0 x1 x2 x3 x4 : Int) (x5 : Bool) (x6 : Dt) (x7 : List Dt) : Option (ByteArray × Bool) :=
  (bif x5 then
    notation_fromHex_j6 m rec3 x0 (IntKind.wrap .i64 (IntKind.wrap IntKind.u8 (x2 - 48))) x3 x4 x6 x7
  else
    (bif (decide (97 ≤ x2)) then
 notation_fromHex_j9 m rec3 x0 x1 x2 x3 x4 (decide (x2 ≤ 102)) x6 x7
    else
 notation_fromHex_j9 m rec3 x0 x1 x2 x3 x4 false x6 x7))
noncomputable def notation_fromHex_j4 (m : Nat) (rec3 : Int → Int → Dt → List Dt → Option (ByteArray × Bool)) (x0 x1 : Int) (x2 : Dt) (x3 : List Dt) : Option (ByteArray × Bool) :=
  ((idxS (Dt.S x2 2) x1).bind fun v1 =>
    (bif (decide (48 ≤ v1)) then
 notation_fromHex_j5 m rec3 x1 (-1) v1 x0 x1 (decide (v1 ≤ 57)) x2 x3
    else
 notation_fromHex_j5 m rec3 x1 (-1) v1 x0 x1 false x2 x3))
noncomputable def notation_fromHex_j10 (m : Nat) (x0 : List Dt) : Option (ByteArray × Bool) :=
  ((bif (Nat.ble (List.length x0) 137438953472) then (Option.some (strOfNums (List.map Dt.toInt x0))) else (Option.none)).bind fun v6 =>
    some (v6, true))
noncomputable def notation_fromHex_l3 (m : Nat) : Nat → Int → Int → Dt → List Dt → Option (ByteArray × Bool)
  | 0, _, _, _, _ => none
  | M3 + 1, x0, x1, x2, x3 =>
    (bif (decide (x1 < x0)) then
    notation_fromHex_j4 m (notation_fromHex_l3 m M3) x0 x1 x2 x3
  else
    notation_fromHex_j10 m x3)
noncomputable def notation_fromHex_j2 (m : Nat) (x0 x1 : Int) (x2 : Dt) (x3 : List Dt) : Option (ByteArray × Bool) :=
  notation_fromHex_l3 m (Nat.succ m) x0 x1 x2 x3
noncomputable def notation_fromHex_j1 (m : Nat) (x0 : Dt) : Option (ByteArray × Bool) :=
  ((mkL (IntKind.wrap .i64 (Int.tdiv (ByteArray.size (Dt.S x0 2) : Int) 2)) (IntKind.wrap .i64 (Int.tdiv (ByteArray.size (Dt.S x0 2) : Int) 2)) (Dt.int 0)).bind fun v0 =>
    notation_fromHex_j2 m (ByteArray.size (Dt.S x0 2) : Int) 0 x0 v0)
noncomputable def notation_fromHex_j0 (m : Nat) (x0 : Bool) (x1 : Dt) : Option (ByteArray × Bool) :=
  (bif x0 then
    some ((ByteArray.mk (List.toArray [])), false)
  else
    notation_fromHex_j1 m x1)
noncomputable def notation_fromHex : Nat → Dt → Option (ByteArray × Bool)
  | 0, _ => none
  | m + 1, a0 =>
    (bif ((Dt.I a0 0) != 4) then
    notation_fromHex_j0 m true a0
  else
    notation_fromHex_j0 m ((Int.tmod (ByteArray.size (Dt.S a0 2) : Int) 2) != 0) a0)
noncomputable def notation_special_j1 (m : Nat) (x0 : Dt) : Option (Dt × Bool) :=
  some (kza2373, false)
noncomputable def notation_special_j0 (m : Nat) (x0 : List Dt) (x1 : Dt) : Option (Dt × Bool) :=
  ((idx x0 0).bind fun v0 =>
    ((idx x0 0).bind fun v1 =>
 (bif ((ByteArray.toList (Dt.S v1 0)) == [36, 105, 100]) then
 ((notation_fromHex m (Dt.fld v0 1)).bind fun r2 =>
 (bif r2.2 then
 some ((Dt.agg [(Dt.int 8), (Dt.int 0), (Dt.str r2.1), (Dt.lst []), (Dt.lst [])]), ((ByteArray.size r2.1 : Int) == 12))
 else
 some ((Dt.agg [(Dt.int 8), (Dt.int 0), (Dt.str r2.1), (Dt.lst []), (Dt.lst [])]), false)))
 else
 (bif ((ByteArray.toList (Dt.S v1 0)) == [36, 98, 121, 116, 101, 115]) then
 ((notation_fromHex m (Dt.fld v0 1)).bind fun r3 =>
 some ((Dt.agg [(Dt.int 7), (Dt.int 0), (Dt.str r3.1), (Dt.lst []), (Dt.lst [])]), r3.2))
 else
 (bif ((ByteArray.toList (Dt.S v1 0)) == [36, 116, 105, 109, 101]) then
 (bif ((Dt.I (Dt.fld v0 1) 0) == 3) then
 some ((Dt.agg [(Dt.int 10), (Dt.int (Dt.I (Dt.fld v0 1) 1)), (Dt.str (ByteArray.mk (List.toArray []))), (Dt.lst []), (Dt.lst [])]), (decide (0 ≤ (Dt.I (Dt.fld v0 1) 1))))
 else
 some ((Dt.agg [(Dt.int 10), (Dt.int (Dt.I (Dt.fld v0 1) 1)), (Dt.str (ByteArray.mk (List.toArray []))), (Dt.lst []), (Dt.lst [])]), false))
 else
 (bif ((ByteArray.toList (Dt.S v1 0)) == [36, 109, 105, 110]) then
 (bif ((Dt.I (Dt.fld v0 1) 0) == 3) then
 some (kz2ef54, ((Dt.I (Dt.fld v0 1) 1) == 1))
 else
 some (kz2ef54, false))
 else
 (bif ((ByteArray.toList (Dt.S v1 0)) == [36, 109, 97, 120]) then
 (bif ((Dt.I (Dt.fld v0 1) 0) == 3) then
 some (kzedecf, ((Dt.I (Dt.fld v0 1) 1) == 1))
 else
 some (kzedecf, false))
 else
 notation_special_j1 m x1)))))))
noncomputable def notation_special : Nat → List Dt → Option (Dt × Bool)
  | 0, _ => none
  | m + 1, a0 =>
    (bif ((List.length a0 : Int) != 1) then
    some (kza2373, false)
  else
    notation_special_j0 m a0 kza2373)
noncomputable def i7_j0 (m : Nat) (self13 : List Dt → List Dt → Option (Int × List Dt)) (self14 : List Dt → List Dt → Option (Int × List Dt)) (x0 : List Dt) : Option (Int × List Dt) :=
  some (0, x0)
noncomputable def i7_j1 (m : Nat) (self13 : List Dt → List Dt → Option (Int × List Dt)) (self14 : List Dt → List Dt → Option (Int × List Dt)) (x0 : List Dt) (x1 : Dt) : Option (Int × List Dt) :=
  ((app x0 [(Dt.int 123), (Dt.int 34), (Dt.int 36), (Dt.int 98), (Dt.int 121), (Dt.int 116), (Dt.int 101), (Dt.int 115), (Dt.int 34), (Dt.int 58), (Dt.int 34)]).bind fun v13 =>
    ((i12 m (Dt.S x1 2) v13).bind fun r14 =>
 ((app r14 [(Dt.int 34), (Dt.int 125)]).bind fun v15 =>
 i7_j0 m self13 self14 v15)))
noncomputable def i13_j4 (m : Nat) (self7 : Dt → List Dt → Option (Int × List Dt)) (rec1 : List Dt → Int → Int → List Dt → Option (Int × List Dt)) (x0 : List Dt) (x1 x2 : Int) (x3 : List Dt) : Option (Int × List Dt) :=
  rec1 x0 x1 (IntKind.wrap .i64 (x2 + 1)) x3
noncomputable def i13_j3 (m : Nat) (self7 : Dt → List Dt → Option (Int × List Dt)) (rec1 : List Dt → Int → Int → List Dt → Option (Int × List Dt)) (x0 : List Dt) (x1 x2 : Int) (x3 : List Dt) (x4 : Dt) : Option (Int × List Dt) :=
  ((self7 x4 x3).bind fun r3 =>
    (bif (r3.1 != 0) then
 some (r3.1, [])
    else
 i13_j4 m self7 rec1 x0 x1 x2 r3.2))
noncomputable def i13_j2 (m : Nat) (self7 : Dt → List Dt → Option (Int × List Dt)) (rec1 : List Dt → Int → Int → List Dt → Option (Int × List Dt)) (x0 : List Dt) (x1 x2 : Int) (x3 : List Dt) : Option (Int × List Dt) :=
  ((idx x0 x2).bind fun v1 =>
    (bif (decide (0 < x2)) then
 ((app x3 [(Dt.int 44)]).bind fun v2 =>
 i13_j3 m self7 rec1 x0 x1 x2 v2 v1)
    else
 i13_j3 m self7 rec1 x0 x1 x2 x3 v1))
noncomputable def i13_j5 (m : Nat) (self7 : Dt → List Dt → Option (Int × List Dt)) (x0 : List Dt) : Option (Int × List Dt) :=
  ((app x0 [(Dt.int 93)]).bind fun v4 =>
    some (0, v4))
noncomputable def i13_l1 (m : Nat) (self7 : Dt → List Dt → Option (Int × List Dt)) : Nat → List Dt → Int → Int → List Dt → Option (Int × List Dt)
  | 0, _, _, _, _ => none
  | M1 + 1, x0, x1, x2, x3 =>
    (bif (decide (x2 < x1)) then
    i13_j2 m self7 (i13_l1 m self7 M1) x0 x1 x2 x3
  else
    i13_j5 m self7 x3)
noncomputable def i13_j0 (m : Nat) (self7 : Dt → List Dt → Option (Int × List Dt)) (x0 : List Dt) (x1 x2 : Int) (x3 : List Dt) : Option (Int × List Dt) :=
  i13_l1 m self7 (Nat.succ m) x0 x1 x2 x3
noncomputable def i14_j5 (m : Nat) (self7 : Dt → List Dt → Option (Int × List Dt)) (rec2 : List Dt → Int → Int → List Dt → Option (Int × List Dt)) (x0 : List Dt) (x1 x2 : Int) (x3 : List Dt) : Option (Int × List Dt) :=
  rec2 x0 x1 (IntKind.wrap .i64 (x2 + 1)) x3
noncomputable def i14_j4 (m : Nat) (self7 : Dt → List Dt → Option (Int × List Dt)) (rec2 : List Dt → Int → Int → List Dt → Option (Int × List Dt)) (x0 : List Dt) (x1 x2 : Int) (x3 : List Dt) (x4 : Dt) : Option (Int × List Dt) :=
  ((notation_Quote m (Dt.S x4 0)).bind fun r4 =>
    ((app x3 (List.map (fun b => (Dt.int ((UInt8.toNat b) : Int))) (Array.toList (ByteArray.data (Dt.toStr (Dt.str r4)))))).bind fun v5 =>
 ((app v5 [(Dt.int 58)]).bind fun v6 =>
 ((self7 (Dt.fld x4 1) v6).bind fun r7 =>
 (bif (r7.1 != 0) then
 some (r7.1, [])
 else
 i14_j5 m self7 rec2 x0 x1 x2 r7.2)))))
noncomputable def i14_j3 (m : Nat) (self7 : Dt → List Dt → Option (Int × List Dt)) (rec2 : List Dt → Int → Int → List Dt → Option (Int × List Dt)) (x0 : List Dt) (x1 x2 : Int) (x3 : List Dt) : Option (Int × List Dt) :=
  ((idx x0 x2).bind fun v2 =>
    (bif (decide (0 < x2)) then
 ((app x3 [(Dt.int 44)]).bind fun v3 =>
 i14_j4 m self7 rec2 x0 x1 x2 v3 v2)
    else
 i14_j4 m self7 rec2 x0 x1 x2 x3 v2))
noncomputable def i14_j6 (m : Nat) (self7 : Dt → List Dt → Option (Int × List Dt)) (x0 : List Dt) : Option (Int × List Dt) :=
  ((app x0 [(Dt.int 125)]).bind fun v8 =>
    some (0, v8))
noncomputable def i14_l2 (m : Nat) (self7 : Dt → List Dt → Option (Int × List Dt)) : Nat → List Dt → Int → Int → List Dt → Option (Int × List Dt)
  | 0, _, _, _, _ => none
  | M2 + 1, x0, x1, x2, x3 =>
    (bif (decide (x2 < x1)) then
    i14_j3 m self7 (i14_l2 m self7 M2) x0 x1 x2 x3
  else
    i14_j6 m self7 x3)
noncomputable def i14_j1 (m : Nat) (self7 : Dt → List Dt → Option (Int × List Dt)) (x0 : List Dt) (x1 x2 : Int) (x3 : List Dt) : Option (Int × List Dt) :=
  i14_l2 m self7 (Nat.succ m) x0 x1 x2 x3
noncomputable def i14_j0 (m : Nat) (self7 : Dt → List Dt → Option (Int × List Dt)) (x0 x1 : List Dt) : Option (Int × List Dt) :=
  ((app x1 [(Dt.int 123)]).bind fun v1 =>
    i14_j1 m self7 x0 (List.length x0 : Int) 0 v1)
mutual
noncomputable def i7 : Nat → Dt → List Dt → Option (Int × List Dt)
  | 0, _, _ => none
  | m + 1, a0, a1 =>
    (bif ((Dt.I a0 0) == 1) then
    ((app a1 [(Dt.int 123), (Dt.int 34), (Dt.int 36), (Dt.int 109), (Dt.int 105), (Dt.int 110), (Dt.int 34), (Dt.int 58), (Dt.int 49), (Dt.int 125)]).bind fun v0 =>
 i7_j0 m (i13 m) (i14 m) v0)
  else
    (bif ((Dt.I a0 0) == 11) then
 ((app a1 [(Dt.int 123), (Dt.int 34), (Dt.int 36), (Dt.int 109), (Dt.int 97), (Dt.int 120), (Dt.int 34), (Dt.int 58), (Dt.int 49), (Dt.int 125)]).bind fun v1 =>
 i7_j0 m (i13 m) (i14 m) v1)
    else
 (bif ((Dt.I a0 0) == 2) then
 ((app a1 [(Dt.int 110), (Dt.int 117), (Dt.int 108), (Dt.int 108)]).bind fun v2 =>
 i7_j0 m (i13 m) (i14 m) v2)
 else
 (bif ((Dt.I a0 0) == 9) then
 ((i8 m ((Dt.I a0 1) == 1) a1).bind fun r3 =>
 i7_j0 m (i13 m) (i14 m) r3)
 else
 (bif ((Dt.I a0 0) == 3) then
 ((strconv_AppendInt (Dt.I a0 1) 10 a1).bind fun r4 =>
 i7_j0 m (i13 m) (i14 m) r4)
 else
 (bif ((Dt.I a0 0) == 10) then
 ((app a1 [(Dt.int 123), (Dt.int 34), (Dt.int 36), (Dt.int 116), (Dt.int 105), (Dt.int 109), (Dt.int 101), (Dt.int 34), (Dt.int 58)]).bind fun v5 =>
 ((strconv_AppendInt (Dt.I a0 1) 10 v5).bind fun r6 =>
 ((app r6 [(Dt.int 125)]).bind fun v7 =>
 i7_j0 m (i13 m) (i14 m) v7)))
 else
 (bif ((Dt.I a0 0) == 4) then
 ((notation_Quote m (Dt.S a0 2)).bind fun r8 =>
 ((app a1 (List.map (fun b => (Dt.int ((UInt8.toNat b) : Int))) (Array.toList (ByteArray.data (Dt.toStr (Dt.str r8)))))).bind fun v9 =>
 i7_j0 m (i13 m) (i14 m) v9))
 else
 (bif ((Dt.I a0 0) == 8) then
 ((app a1 [(Dt.int 123), (Dt.int 34), (Dt.int 36), (Dt.int 105), (Dt.int 100), (Dt.int 34), (Dt.int 58), (Dt.int 34)]).bind fun v10 =>
 ((i12 m (Dt.S a0 2) v10).bind fun r11 =>
 ((app r11 [(Dt.int 34), (Dt.int 125)]).bind fun v12 =>
 i7_j0 m (i13 m) (i14 m) v12)))
 else
 (bif ((Dt.I a0 0) == 7) then
 (bif (decide (2048 < (ByteArray.size (Dt.S a0 2) : Int))) then
 some (2, [])
 else
 i7_j1 m (i13 m) (i14 m) a1 a0)
 else
 (bif ((Dt.I a0 0) == 6) then
 ((i13 m (Dt.L a0 3) a1).bind fun r16 =>
 some (r16.1, r16.2))
 else
 (bif ((Dt.I a0 0) == 5) then
 ((i14 m (Dt.L a0 4) a1).bind fun r17 =>
 some (r17.1, r17.2))
 else
 i7_j0 m (i13 m) (i14 m) a1)))))))))))
noncomputable def i13 : Nat → List Dt → List Dt → Option (Int × List Dt)
  | 0, _, _ => none
  | m + 1, a0, a1 =>
    ((app a1 [(Dt.int 91)]).bind fun v0 =>
    i13_j0 m (i7 m) a0 (List.length a0 : Int) 0 v0)
noncomputable def i14 : Nat → List Dt → List Dt → Option (Int × List Dt)
  | 0, _, _ => none
  | m + 1, a0, a1 =>
    ((notation_special m a0).bind fun r0 =>
    (bif r0.2 then
 some (4, [])
    else
 i14_j0 m (i7 m) a0 a1))
end
noncomputable def value_nodes_j0 (m : Nat) (self42 : Dt → Int → Int → Option (Int × Int)) (x0 : Dt) (x1 x2 : Int) : Option Int :=
  ((self42 x0 x2 x1).bind fun r0 =>
    some r0.1)
noncomputable def i42_j3 (m : Nat) (self43 : Dt → Int → Int → Option (Bool × Int × Int)) (rec1 : List Dt → Int → Int → Int → Int → Option (Int × Int)) (x0 : List Dt) (x1 x2 x3 x4 : Int) : Option (Int × Int) :=
  rec1 x0 x1 (IntKind.wrap .i64 (x2 + 1)) x3 x4
noncomputable def i42_j2 (m : Nat) (self43 : Dt → Int → Int → Option (Bool × Int × Int)) (rec1 : List Dt → Int → Int → Int → Int → Option (Int × Int)) (x0 : List Dt) (x1 x2 x3 x4 : Int) : Option (Int × Int) :=
  ((idx x0 x2).bind fun v0 =>
    ((self43 v0 x3 x4).bind fun r1 =>
 (bif (Bool.not r1.1) then
 some (r1.2.1, r1.2.2)
 else
 i42_j3 m self43 rec1 x0 x1 x2 r1.2.1 r1.2.2)))
noncomputable def i42_l1 (m : Nat) (self43 : Dt → Int → Int → Option (Bool × Int × Int)) : Nat → List Dt → Int → Int → Int → Int → Option (Int × Int)
  | 0, _, _, _, _, _ => none
  | M1 + 1, x0, x1, x2, x3, x4 =>
    (bif (decide (x2 < x1)) then
    i42_j2 m self43 (i42_l1 m self43 M1) x0 x1 x2 x3 x4
  else
    some (x3, x4))
noncomputable def i42_j0 (m : Nat) (self43 : Dt → Int → Int → Option (Bool × Int × Int)) (x0 : List Dt) (x1 x2 x3 x4 : Int) : Option (Int × Int) :=
  i42_l1 m self43 (Nat.succ m) x0 x1 x2 x3 x4
noncomputable def i42_j7 (m : Nat) (self43 : Dt → Int → Int → Option (Bool × Int × Int)) (rec5 : List Dt → Int → Int → Int → Int → Option (Int × Int)) (x0 : List Dt) (x1 x2 x3 x4 : Int) : Option (Int × Int) :=
  rec5 x0 x1 (IntKind.wrap .i64 (x2 + 1)) x3 x4
noncomputable def i42_j6 (m : Nat) (self43 : Dt → Int → Int → Option (Bool × Int × Int)) (rec5 : List Dt → Int → Int → Int → Int → Option (Int × Int)) (x0 : List Dt) (x1 x2 x3 x4 : Int) : Option (Int × Int) :=
  ((idx x0 x2).bind fun v2 =>
    ((self43 (Dt.fld v2 1) x3 x4).bind fun r3 =>
 (bif (Bool.not r3.1) then
 some (r3.2.1, r3.2.2)
 else
 i42_j7 m self43 rec5 x0 x1 x2 r3.2.1 r3.2.2)))
noncomputable def i42_l5 (m : Nat) (self43 : Dt → Int → Int → Option (Bool × Int × Int)) : Nat → List Dt → Int → Int → Int → Int → Option (Int × Int)
  | 0, _, _, _, _, _ => none
  | M5 + 1, x0, x1, x2, x3, x4 =>
    (bif (decide (x2 < x1)) then
    i42_j6 m self43 (i42_l5 m self43 M5) x0 x1 x2 x3 x4
  else
    some (x3, x4))
noncomputable def i42_j4 (m : Nat) (self43 : Dt → Int → Int → Option (Bool × Int × Int)) (x0 : List Dt) (x1 x2 x3 x4 : Int) : Option (Int × Int) :=
  i42_l5 m self43 (Nat.succ m) x0 x1 x2 x3 x4
mutual
noncomputable def value_nodes : Nat → Dt → Int → Option Int
  | 0, _, _ => none
  | m + 1, a0, a1 =>
    (bif (1 == a1) then
    some 1
  else
    value_nodes_j0 m (i42 m) a0 a1 1)
noncomputable def i42 : Nat → Dt → Int → Int → Option (Int × Int)
  | 0, _, _, _ => none
  | m + 1, a0, a1, a2 =>
    (bif ((Dt.I a0 0) == 6) then
    i42_j0 m (i43 m) (Dt.L a0 3) (List.length (Dt.L a0 3) : Int) 0 a1 a2
  else
    (bif ((Dt.I a0 0) == 5) then
 i42_j4 m (i43 m) (Dt.L a0 4) (List.length (Dt.L a0 4) : Int) 0 a1 a2
    else
 some (a1, a2)))
noncomputable def i43 : Nat → Dt → Int → Int → Option (Bool × Int × Int)
  | 0, _, _, _ => none
  | m + 1, a0, a1, a2 =>
    ((value_nodes m a0 (IntKind.wrap .i64 (a2 - a1))).bind fun r0 =>
    some ((decide ((IntKind.wrap .i64 (a1 + r0)) < a2)), (IntKind.wrap .i64 (a1 + r0)), a2))
end
noncomputable def value_Nodes : Nat → Dt → Option Int
  | 0, _ => none
  | m + 1, a0 =>
    ((value_nodes m a0 1025).bind fun r0 =>
    some r0)
noncomputable def notation_isField_j4 (m : Nat) (rec1 : ByteArray → Int → Int → Option Bool) (x0 : ByteArray) (x1 x2 : Int) : Option Bool :=
  rec1 x0 x1 (IntKind.wrap .i64 (x2 + 1))
noncomputable def notation_isField_j3 (m : Nat) (rec1 : ByteArray → Int → Int → Option Bool) (x0 : ByteArray) (x1 x2 : Int) (x3 : Bool) : Option Bool :=
  (bif x3 then
    some false
  else
    notation_isField_j4 m rec1 x0 x1 x2)
noncomputable def notation_isField_j2 (m : Nat) (rec1 : ByteArray → Int → Int → Option Bool) (x0 : ByteArray) (x1 x2 : Int) : Option Bool :=
  ((idxS x0 x2).bind fun v0 =>
    (bif (decide (v0 < 32)) then
 notation_isField_j3 m rec1 x0 x1 x2 true
    else
 ((idxS x0 x2).bind fun v1 =>
 notation_isField_j3 m rec1 x0 x1 x2 (decide (126 < v1)))))
noncomputable def notation_isField_j5 (m : Nat) (x0 : ByteArray) : Option Bool :=
  some (Bool.not ((ByteArray.toList x0) == []))
noncomputable def notation_isField_l1 (m : Nat) : Nat → ByteArray → Int → Int → Option Bool
  | 0, _, _, _ => none
  | M1 + 1, x0, x1, x2 =>
    (bif (decide (x2 < x1)) then
    notation_isField_j2 m (notation_isField_l1 m M1) x0 x1 x2
  else
    notation_isField_j5 m x0)
noncomputable def notation_isField_j0 (m : Nat) (x0 : ByteArray) (x1 x2 : Int) : Option Bool :=
  notation_isField_l1 m (Nat.succ m) x0 x1 x2
noncomputable def notation_isField : Nat → ByteArray → Option Bool
  | 0, _ => none
  | m + 1, a0 =>
    notation_isField_j0 m a0 (ByteArray.size a0 : Int) 0
noncomputable def notation_rename_j4 (m : Nat) (self20 : Dt → Option (Dt × Bool)) (rec1 : List Dt → Int → Int → Dt → Dt → List Dt → Option (Dt × Bool)) (x0 : List Dt) (x1 x2 : Int) (x3 x4 : Dt) (x5 : List Dt) : Option (Dt × Bool) :=
  rec1 x0 x1 (IntKind.wrap .i64 (x2 + 1)) x3 x4 x5
noncomputable def notation_rename_j3 (m : Nat) (self20 : Dt → Option (Dt × Bool)) (rec1 : List Dt → Int → Int → Dt → Dt → List Dt → Option (Dt × Bool)) (x0 : Int) (x1 : List Dt) (x2 x3 : Int) (x4 x5 : Dt) (x6 : List Dt) (x7 : Dt) : Option (Dt × Bool) :=
  ((inL x6 x0).bind fun v3 =>
    ((x6[(Int.toNat x0)]?).bind fun v4 =>
 notation_rename_j4 m self20 rec1 x1 x2 x3 x4 x5 (List.set x6 (Int.toNat x0) x7)))
noncomputable def notation_rename_j2 (m : Nat) (self20 : Dt → Option (Dt × Bool)) (rec1 : List Dt → Int → Int → Dt → Dt → List Dt → Option (Dt × Bool)) (x0 : List Dt) (x1 x2 : Int) (x3 x4 : Dt) (x5 : List Dt) : Option (Dt × Bool) :=
  ((idx x0 x2).bind fun v1 =>
    ((self20 v1).bind fun r2 =>
 (bif (Bool.not r2.2) then
 some (kza2373, false)
 else
 notation_rename_j3 m self20 rec1 x2 x0 x1 x2 x3 x4 x5 r2.1)))
noncomputable def notation_rename_j6 (m : Nat) (self20 : Dt → Option (Dt × Bool)) (x0 x1 : Dt) : Option (Dt × Bool) :=
  some (x0, true)
noncomputable def notation_rename_j5 (m : Nat) (self20 : Dt → Option (Dt × Bool)) (x0 x1 : Dt) (x2 : List Dt) : Option (Dt × Bool) :=
  notation_rename_j6 m self20 (Dt.agg [(Dt.int (Dt.I x0 0)), (Dt.int (Dt.I x0 1)), (Dt.str (Dt.S x0 2)), (Dt.lst x2), (Dt.lst (Dt.L x0 4))]) x1
noncomputable def notation_rename_l1 (m : Nat) (self20 : Dt → Option (Dt × Bool)) : Nat → List Dt → Int → Int → Dt → Dt → List Dt → Option (Dt × Bool)
  | 0, _, _, _, _, _, _ => none
  | M1 + 1, x0, x1, x2, x3, x4, x5 =>
    (bif (decide (x2 < x1)) then
    notation_rename_j2 m self20 (notation_rename_l1 m self20 M1) x0 x1 x2 x3 x4 x5
  else
    notation_rename_j5 m self20 x3 x4 x5)
noncomputable def notation_rename_j0 (m : Nat) (self20 : Dt → Option (Dt × Bool)) (x0 : List Dt) (x1 x2 : Int) (x3 x4 : Dt) (x5 : List Dt) : Option (Dt × Bool) :=
  notation_rename_l1 m self20 (Nat.succ m) x0 x1 x2 x3 x4 x5
noncomputable def notation_rename_j12 (m : Nat) (self20 : Dt → Option (Dt × Bool)) (rec8 : List Dt → Int → Int → Dt → Dt → List Dt → List Dt → Option (Dt × Bool)) (x0 : List Dt) (x1 x2 : Int) (x3 x4 : Dt) (x5 x6 : List Dt) : Option (Dt × Bool) :=
  rec8 x0 x1 (IntKind.wrap .i64 (x2 + 1)) x3 x4 x5 x6
noncomputable def notation_rename_j11 (m : Nat) (self20 : Dt → Option (Dt × Bool)) (rec8 : List Dt → Int → Int → Dt → Dt → List Dt → List Dt → Option (Dt × Bool)) (x0 : Int) (x1 : List Dt) (x2 x3 : Int) (x4 x5 : Dt) (x6 x7 : List Dt) (x8 x9 : Dt) : Option (Dt × Bool) :=
  ((strconv_Itoa x0).bind fun r8 =>
    ((inL x6 x0).bind fun v9 =>
 ((x6[(Int.toNat x0)]?).bind fun v10 =>
 notation_rename_j12 m self20 rec8 x1 x2 x3 x4 x5 (List.set x6 (Int.toNat x0) (Dt.agg [(Dt.str r8), x9])) (mput x7 (Dt.S x8 0) (Dt.bool true)))))
noncomputable def notation_rename_j10 (m : Nat) (self20 : Dt → Option (Dt × Bool)) (rec8 : List Dt → Int → Int → Dt → Dt → List Dt → List Dt → Option (Dt × Bool)) (x0 : Int) (x1 : List Dt) (x2 x3 : Int) (x4 : Bool) (x5 x6 : Dt) (x7 x8 : List Dt) (x9 x10 : Dt) : Option (Dt × Bool) :=
  (bif x4 then
    some (kza2373, false)
  else
    notation_rename_j11 m self20 rec8 x0 x1 x2 x3 x5 x6 x7 x8 x9 x10)
noncomputable def notation_rename_j9 (m : Nat) (self20 : Dt → Option (Dt × Bool)) (rec8 : List Dt → Int → Int → Dt → Dt → List Dt → List Dt → Option (Dt × Bool)) (x0 : List Dt) (x1 x2 : Int) (x3 x4 : Dt) (x5 x6 : List Dt) : Option (Dt × Bool) :=
  ((idx x0 x2).bind fun v6 =>
    ((self20 (Dt.fld v6 1)).bind fun r7 =>
 (bif (Bool.not r7.2) then
 notation_rename_j10 m self20 rec8 x2 x0 x1 x2 true x3 x4 x5 x6 v6 r7.1
 else
 (bif (decide (128 < (ByteArray.size (Dt.S v6 0) : Int))) then
 notation_rename_j10 m self20 rec8 x2 x0 x1 x2 true x3 x4 x5 x6 v6 r7.1
 else
 ((notation_isField m (Dt.S v6 0)).bind fun r11 =>
 (bif (Bool.not r11) then
 notation_rename_j10 m self20 rec8 x2 x0 x1 x2 true x3 x4 x5 x6 v6 r7.1
 else
 notation_rename_j10 m self20 rec8 x2 x0 x1 x2 (Dt.toBool (mgetD x6 (Dt.S v6 0) (Dt.bool false))) x3 x4 x5 x6 v6 r7.1))))))
noncomputable def notation_rename_j13 (m : Nat) (self20 : Dt → Option (Dt × Bool)) (x0 x1 : Dt) (x2 : List Dt) : Option (Dt × Bool) :=
  notation_rename_j6 m self20 (Dt.agg [(Dt.int (Dt.I x0 0)), (Dt.int (Dt.I x0 1)), (Dt.str (Dt.S x0 2)), (Dt.lst (Dt.L x0 3)), (Dt.lst x2)]) x1
noncomputable def notation_rename_l8 (m : Nat) (self20 : Dt → Option (Dt × Bool)) : Nat → List Dt → Int → Int → Dt → Dt → List Dt → List Dt → Option (Dt × Bool)
  | 0, _, _, _, _, _, _, _ => none
  | M8 + 1, x0, x1, x2, x3, x4, x5, x6 =>
    (bif (decide (x2 < x1)) then
    notation_rename_j9 m self20 (notation_rename_l8 m self20 M8) x0 x1 x2 x3 x4 x5 x6
  else
    notation_rename_j13 m self20 x3 x4 x5)
noncomputable def notation_rename_j7 (m : Nat) (self20 : Dt → Option (Dt × Bool)) (x0 : List Dt) (x1 x2 : Int) (x3 x4 : Dt) (x5 x6 : List Dt) : Option (Dt × Bool) :=
  notation_rename_l8 m self20 (Nat.succ m) x0 x1 x2 x3 x4 x5 x6
noncomputable def notation_rename : Nat → Dt → Option (Dt × Bool)
  | 0, _ => none
  | m + 1, a0 =>
    (bif ((Dt.I a0 0) == 6) then
    ((mkL (List.length (Dt.L a0 3) : Int) (List.length (Dt.L a0 3) : Int) kza2373).bind fun v0 =>
 notation_rename_j0 m (notation_rename m) (Dt.L a0 3) (List.length (Dt.L a0 3) : Int) 0 a0 kza2373 v0)
  else
    (bif ((Dt.I a0 0) == 5) then
 ((mkL (List.length (Dt.L a0 4) : Int) (List.length (Dt.L a0 4) : Int) kzcda49).bind fun v5 =>
 notation_rename_j7 m (notation_rename m) (Dt.L a0 4) (List.length (Dt.L a0 4) : Int) 0 a0 kza2373 v5 [])
    else
 notation_rename_j6 m (notation_rename m) a0 kza2373))
noncomputable def value_depth_j0 (m : Nat) (self46 : Dt → Int → Int → Option (Int × Int)) (x0 : Dt) (x1 : Int) : Option Int :=
  ((self46 x0 0 x1).bind fun r0 =>
    some (IntKind.wrap .i64 (1 + r0.1)))
noncomputable def i46_j3 (m : Nat) (self47 : Dt → Int → Int → Option (Bool × Int × Int)) (rec1 : List Dt → Int → Int → Int → Int → Option (Int × Int)) (x0 : List Dt) (x1 x2 x3 x4 : Int) : Option (Int × Int) :=
  rec1 x0 x1 (IntKind.wrap .i64 (x2 + 1)) x3 x4
noncomputable def i46_j2 (m : Nat) (self47 : Dt → Int → Int → Option (Bool × Int × Int)) (rec1 : List Dt → Int → Int → Int → Int → Option (Int × Int)) (x0 : List Dt) (x1 x2 x3 x4 : Int) : Option (Int × Int) :=
  ((idx x0 x2).bind fun v0 =>
    ((self47 v0 x3 x4).bind fun r1 =>
 (bif (Bool.not r1.1) then
 some (r1.2.1, r1.2.2)
 else
 i46_j3 m self47 rec1 x0 x1 x2 r1.2.1 r1.2.2)))
noncomputable def i46_l1 (m : Nat) (self47 : Dt → Int → Int → Option (Bool × Int × Int)) : Nat → List Dt → Int → Int → Int → Int → Option (Int × Int)
  | 0, _, _, _, _, _ => none
  | M1 + 1, x0, x1, x2, x3, x4 =>
    (bif (decide (x2 < x1)) then
    i46_j2 m self47 (i46_l1 m self47 M1) x0 x1 x2 x3 x4
  else
    some (x3, x4))
noncomputable def i46_j0 (m : Nat) (self47 : Dt → Int → Int → Option (Bool × Int × Int)) (x0 : List Dt) (x1 x2 x3 x4 : Int) : Option (Int × Int) :=
  i46_l1 m self47 (Nat.succ m) x0 x1 x2 x3 x4
noncomputable def i46_j7 (m : Nat) (self47 : Dt → Int → Int → Option (Bool × Int × Int)) (rec5 : List Dt → Int → Int → Int → Int → Option (Int × Int)) (x0 : List Dt) (x1 x2 x3 x4 : Int) : Option (Int × Int) :=
  rec5 x0 x1 (IntKind.wrap .i64 (x2 + 1)) x3 x4
noncomputable def i46_j6 (m : Nat) (self47 : Dt → Int → Int → Option (Bool × Int × Int)) (rec5 : List Dt → Int → Int → Int → Int → Option (Int × Int)) (x0 : List Dt) (x1 x2 x3 x4 : Int) : Option (Int × Int) :=
  ((idx x0 x2).bind fun v2 =>
    ((self47 (Dt.fld v2 1) x3 x4).bind fun r3 =>
 (bif (Bool.not r3.1) then
 some (r3.2.1, r3.2.2)
 else
 i46_j7 m self47 rec5 x0 x1 x2 r3.2.1 r3.2.2)))
noncomputable def i46_l5 (m : Nat) (self47 : Dt → Int → Int → Option (Bool × Int × Int)) : Nat → List Dt → Int → Int → Int → Int → Option (Int × Int)
  | 0, _, _, _, _, _ => none
  | M5 + 1, x0, x1, x2, x3, x4 =>
    (bif (decide (x2 < x1)) then
    i46_j6 m self47 (i46_l5 m self47 M5) x0 x1 x2 x3 x4
  else
    some (x3, x4))
noncomputable def i46_j4 (m : Nat) (self47 : Dt → Int → Int → Option (Bool × Int × Int)) (x0 : List Dt) (x1 x2 x3 x4 : Int) : Option (Int × Int) :=
  i46_l5 m self47 (Nat.succ m) x0 x1 x2 x3 x4
mutual
noncomputable def value_depth : Nat → Dt → Int → Option Int
  | 0, _, _ => none
  | m + 1, a0, a1 =>
    (bif (a1 == 1) then
    some 1
  else
    value_depth_j0 m (i46 m) a0 a1)
noncomputable def i46 : Nat → Dt → Int → Int → Option (Int × Int)
  | 0, _, _, _ => none
  | m + 1, a0, a1, a2 =>
    (bif ((Dt.I a0 0) == 6) then
    i46_j0 m (i47 m) (Dt.L a0 3) (List.length (Dt.L a0 3) : Int) 0 a1 a2
  else
    (bif ((Dt.I a0 0) == 5) then
 i46_j4 m (i47 m) (Dt.L a0 4) (List.length (Dt.L a0 4) : Int) 0 a1 a2
    else
 some (a1, a2)))
noncomputable def i47 : Nat → Dt → Int → Int → Option (Bool × Int × Int)
  | 0, _, _, _ => none
  | m + 1, a0, a1, a2 =>
    ((value_depth m a0 (IntKind.wrap .i64 (a2 - 1))).bind fun r0 =>
    some ((decide ((bif (decide (a1 < r0)) then r0 else a1) < (IntKind.wrap .i64 (a2 - 1)))), (bif (decide (a1 < r0)) then r0 else a1), a2))
end
noncomputable def value_Depth : Nat → Dt → Option Int
  | 0, _ => none
  | m + 1, a0 =>
    ((value_depth m a0 17).bind fun r0 =>
    some r0)
noncomputable def ref05_Label_j4 (m : Nat) (rec1 : ByteArray → Int → Option Bool) (x0 : ByteArray) (x1 : Int) : Option Bool :=
  rec1 x0 (IntKind.wrap .i64 (x1 + 1))
noncomputable def ref05_Label_j3 (m : Nat) (rec1 : ByteArray → Int → Option Bool) (x0 : ByteArray) (x1 : Int) (x2 : Bool) : Option Bool :=
  (bif x2 then
    some false
  else
    ref05_Label_j4 m rec1 x0 x1)
noncomputable def ref05_Label_j2 (m : Nat) (rec1 : ByteArray → Int → Option Bool) (x0 : ByteArray) (x1 : Int) : Option Bool :=
  ((idxS x0 x1).bind fun v0 =>
    (bif (decide (v0 < 32)) then
 ref05_Label_j3 m rec1 x0 x1 true
    else
 ((idxS x0 x1).bind fun v1 =>
 ref05_Label_j3 m rec1 x0 x1 (decide (126 < v1)))))
noncomputable def ref05_Label_j5 (m : Nat) (x0 : ByteArray) : Option Bool :=
  (bif (decide (1 ≤ (ByteArray.size x0 : Int))) then
    some (decide ((ByteArray.size x0 : Int) ≤ 128))
  else
    some false)
noncomputable def ref05_Label_l1 (m : Nat) : Nat → ByteArray → Int → Option Bool
  | 0, _, _ => none
  | M1 + 1, x0, x1 =>
    (bif (decide (x1 < (ByteArray.size x0 : Int))) then
    ref05_Label_j2 m (ref05_Label_l1 m M1) x0 x1
  else
    ref05_Label_j5 m x0)
noncomputable def ref05_Label_j0 (m : Nat) (x0 : ByteArray) (x1 : Int) : Option Bool :=
  ref05_Label_l1 m (Nat.succ m) x0 x1
noncomputable def ref05_Label : Nat → ByteArray → Option Bool
  | 0, _ => none
  | m + 1, a0 =>
    ref05_Label_j0 m a0 0
noncomputable def ref05_digit : Nat → Int → Option ByteArray
  | 0, _ => none
  | m + 1, a0 =>
    ((cutS (ByteArray.mk (List.toArray [48, 49, 50, 51, 52, 53, 54, 55, 56, 57, 97, 98, 99, 100, 101, 102])) a0 (IntKind.wrap .i64 (a0 + 1))).bind fun v0 =>
    some v0)
noncomputable def ref05_Decimal_j4 (m : Nat) (rec2 : Int → Int → ByteArray → Int → Option ByteArray) (x0 x1 : Int) (x2 : ByteArray) (x3 : Int) : Option ByteArray :=
  rec2 x0 x1 x2 (IntKind.wrap .i64 (x3 + 1))
noncomputable def ref05_Decimal_j3 (m : Nat) (rec2 : Int → Int → ByteArray → Int → Option ByteArray) (x0 x1 : Int) (x2 : ByteArray) (x3 : Int) : Option ByteArray :=
  ((ref05_digit m (IntKind.wrap .i64 (Int.tmod (IntKind.wrap IntKind.u64 (Int.tdiv x1 10)) 10))).bind fun r1 =>
    (bif (Nat.ble ((ByteArray.size r1) + (ByteArray.size x2)) 1152921504606846976) then
 ref05_Decimal_j4 m rec2 x0 (IntKind.wrap IntKind.u64 (Int.tdiv x1 10)) (r1 ++ x2) x3
    else
 none))
noncomputable def ref05_Decimal_j6 (m : Nat) (x0 : ByteArray) : Option ByteArray :=
  some x0
noncomputable def ref05_Decimal_j5 (m : Nat) (x0 : Int) (x1 : ByteArray) : Option ByteArray :=
  (bif (decide (x0 < 0)) then
    (bif (Nat.ble (1 + (ByteArray.size x1)) 1152921504606846976) then
 ref05_Decimal_j6 m ((ByteArray.mk (List.toArray [45])) ++ x1)
    else
 none)
  else
    ref05_Decimal_j6 m x1)
noncomputable def ref05_Decimal_l2 (m : Nat) : Nat → Int → Int → ByteArray → Int → Option ByteArray
  | 0, _, _, _, _ => none
  | M2 + 1, x0, x1, x2, x3 =>
    (bif (decide (x3 < 20)) then
    (bif (decide (10 ≤ x1)) then
 ref05_Decimal_j3 m (ref05_Decimal_l2 m M2) x0 x1 x2 x3
    else
 ref05_Decimal_j5 m x0 x2)
  else
    ref05_Decimal_j5 m x0 x2)
noncomputable def ref05_Decimal_j1 (m : Nat) (x0 x1 : Int) (x2 : ByteArray) (x3 : Int) : Option ByteArray :=
  ref05_Decimal_l2 m (Nat.succ m) x0 x1 x2 x3
noncomputable def ref05_Decimal_j0 (m : Nat) (x0 x1 : Int) : Option ByteArray :=
  ((ref05_digit m (IntKind.wrap .i64 (Int.tmod x1 10))).bind fun r0 =>
    ref05_Decimal_j1 m x0 x1 r0 0)
noncomputable def ref05_Decimal : Nat → Int → Option ByteArray
  | 0, _ => none
  | m + 1, a0 =>
    (bif (decide (a0 < 0)) then
    ref05_Decimal_j0 m a0 (IntKind.wrap IntKind.u64 (0 - (IntKind.wrap IntKind.u64 a0)))
  else
    ref05_Decimal_j0 m a0 (IntKind.wrap IntKind.u64 a0))
noncomputable def ref05_Quote_j4 (m : Nat) (rec1 : ByteArray → ByteArray → Int → Option ByteArray) (x0 x1 : ByteArray) (x2 : Int) : Option ByteArray :=
  rec1 x0 x1 (IntKind.wrap .i64 (x2 + 1))
noncomputable def ref05_Quote_j5 (m : Nat) (rec1 : ByteArray → ByteArray → Int → Option ByteArray) (x0 x1 : ByteArray) (x2 : Int) (x3 : Bool) : Option ByteArray :=
  (bif x3 then
    (bif (Nat.ble ((ByteArray.size x1) + 4) 1152921504606846976) then
 ((idxS x0 x2).bind fun v6 =>
 ((ref05_digit m (IntKind.wrap .i64 (Int.tdiv (IntKind.wrap .i64 v6) 16))).bind fun r7 =>
 (bif (Nat.ble ((ByteArray.size (x1 ++ (ByteArray.mk (List.toArray [92, 117, 48, 48])))) + (ByteArray.size r7)) 1152921504606846976) then
 ((idxS x0 x2).bind fun v8 =>
 ((ref05_digit m (Int.tmod (IntKind.wrap .i64 v8) 16)).bind fun r9 =>
 (bif (Nat.ble ((ByteArray.size ((x1 ++ (ByteArray.mk (List.toArray [92, 117, 48, 48]))) ++ r7)) + (ByteArray.size r9)) 1152921504606846976) then
 ref05_Quote_j4 m rec1 x0 (((x1 ++ (ByteArray.mk (List.toArray [92, 117, 48, 48]))) ++ r7) ++ r9) x2
 else
 none)))
 else
 none)))
    else
 none)
  else
    ((cutS x0 x2 (IntKind.wrap .i64 (x2 + 1))).bind fun v10 =>
 (bif (Nat.ble ((ByteArray.size x1) + (ByteArray.size v10)) 1152921504606846976) then
 ref05_Quote_j4 m rec1 x0 (x1 ++ v10) x2
 else
 none)))
noncomputable def ref05_Quote_j3 (m : Nat) (rec1 : ByteArray → ByteArray → Int → Option ByteArray) (x0 x1 : ByteArray) (x2 : Int) (x3 : Bool) : Option ByteArray :=
  (bif x3 then
    (bif (Nat.ble ((ByteArray.size x1) + 1) 1152921504606846976) then
 ((cutS x0 x2 (IntKind.wrap .i64 (x2 + 1))).bind fun v1 =>
 (bif (Nat.ble ((ByteArray.size (x1 ++ (ByteArray.mk (List.toArray [92])))) + (ByteArray.size v1)) 1152921504606846976) then
 ref05_Quote_j4 m rec1 x0 ((x1 ++ (ByteArray.mk (List.toArray [92]))) ++ v1) x2
 else
 none))
    else
 none)
  else
    ((idxS x0 x2).bind fun v2 =>
 (bif (v2 == 10) then
 (bif (Nat.ble ((ByteArray.size x1) + 2) 1152921504606846976) then
 ref05_Quote_j4 m rec1 x0 (x1 ++ (ByteArray.mk (List.toArray [92, 110]))) x2
 else
 none)
 else
 ((idxS x0 x2).bind fun v3 =>
 (bif (v3 == 13) then
 (bif (Nat.ble ((ByteArray.size x1) + 2) 1152921504606846976) then
 ref05_Quote_j4 m rec1 x0 (x1 ++ (ByteArray.mk (List.toArray [92, 114]))) x2
 else
 none)
 else
 ((idxS x0 x2).bind fun v4 =>
 (bif (v4 == 9) then
 (bif (Nat.ble ((ByteArray.size x1) + 2) 1152921504606846976) then
 ref05_Quote_j4 m rec1 x0 (x1 ++ (ByteArray.mk (List.toArray [92, 116]))) x2
 else
 none)
 else
 ((idxS x0 x2).bind fun v5 =>
 (bif (decide (v5 < 32)) then
 ref05_Quote_j5 m rec1 x0 x1 x2 true
 else
 ((idxS x0 x2).bind fun v11 =>
 ref05_Quote_j5 m rec1 x0 x1 x2 (v11 == 127)))))))))))
noncomputable def ref05_Quote_j2 (m : Nat) (rec1 : ByteArray → ByteArray → Int → Option ByteArray) (x0 x1 : ByteArray) (x2 : Int) : Option ByteArray :=
  ((idxS x0 x2).bind fun v0 =>
    (bif (v0 == 34) then
 ref05_Quote_j3 m rec1 x0 x1 x2 true
    else
 ((idxS x0 x2).bind fun v12 =>
 ref05_Quote_j3 m rec1 x0 x1 x2 (v12 == 92))))
noncomputable def ref05_Quote_j6 (m : Nat) (x0 : ByteArray) : Option ByteArray :=
  (bif (Nat.ble ((ByteArray.size x0) + 1) 1152921504606846976) then
    some (x0 ++ (ByteArray.mk (List.toArray [34])))
  else
    none)
noncomputable def ref05_Quote_l1 (m : Nat) : Nat → ByteArray → ByteArray → Int → Option ByteArray
  | 0, _, _, _ => none
  | M1 + 1, x0, x1, x2 =>
    (bif (decide (x2 < (ByteArray.size x0 : Int))) then
    ref05_Quote_j2 m (ref05_Quote_l1 m M1) x0 x1 x2
  else
    ref05_Quote_j6 m x1)
noncomputable def ref05_Quote_j0 (m : Nat) (x0 x1 : ByteArray) (x2 : Int) : Option ByteArray :=
  ref05_Quote_l1 m (Nat.succ m) x0 x1 x2
noncomputable def ref05_Quote : Nat → ByteArray → Option ByteArray
  | 0, _ => none
  | m + 1, a0 =>
    ref05_Quote_j0 m a0 (ByteArray.mk (List.toArray [34])) 0
noncomputable def ref05_hex_j3 (m : Nat) (rec1 : ByteArray → ByteArray → Int → Option ByteArray) (x0 x1 : ByteArray) (x2 : Int) : Option ByteArray :=
  rec1 x0 x1 (IntKind.wrap .i64 (x2 + 1))
noncomputable def ref05_hex_j2 (m : Nat) (rec1 : ByteArray → ByteArray → Int → Option ByteArray) (x0 x1 : ByteArray) (x2 : Int) : Option ByteArray :=
  ((idxS x0 x2).bind fun v0 =>
    ((ref05_digit m (IntKind.wrap .i64 (Int.tdiv (IntKind.wrap .i64 v0) 16))).bind fun r1 =>
 (bif (Nat.ble ((ByteArray.size x1) + (ByteArray.size r1)) 1152921504606846976) then
 ((idxS x0 x2).bind fun v2 =>
 ((ref05_digit m (Int.tmod (IntKind.wrap .i64 v2) 16)).bind fun r3 =>
 (bif (Nat.ble ((ByteArray.size (x1 ++ r1)) + (ByteArray.size r3)) 1152921504606846976) then
 ref05_hex_j3 m rec1 x0 ((x1 ++ r1) ++ r3) x2
 else
 none)))
 else
 none)))
noncomputable def ref05_hex_j4 (m : Nat) (x0 : ByteArray) : Option ByteArray :=
  some x0
noncomputable def ref05_hex_l1 (m : Nat) : Nat → ByteArray → ByteArray → Int → Option ByteArray
  | 0, _, _, _ => none
  | M1 + 1, x0, x1, x2 =>
    (bif (decide (x2 < (ByteArray.size x0 : Int))) then
    ref05_hex_j2 m (ref05_hex_l1 m M1) x0 x1 x2
  else
    ref05_hex_j4 m x1)
noncomputable def ref05_hex_j0 (m : Nat) (x0 x1 : ByteArray) (x2 : Int) : Option ByteArray :=
  ref05_hex_l1 m (Nat.succ m) x0 x1 x2
noncomputable def ref05_hex : Nat → ByteArray → Option ByteArray
  | 0, _ => none
  | m + 1, a0 =>
    ref05_hex_j0 m a0 (ByteArray.mk (List.toArray [])) 0
noncomputable def ref05_text_j0 (m : Nat) (self18 : Dt → Option ByteArray) : Option ByteArray :=
  some (ByteArray.mk (List.toArray [102, 97, 108, 115, 101]))
noncomputable def ref05_text_j5 (m : Nat) (self18 : Dt → Option ByteArray) (rec2 : ByteArray → Int → Dt → Option ByteArray) (x0 : ByteArray) (x1 : Int) (x2 : Dt) : Option ByteArray :=
  rec2 x0 (IntKind.wrap .i64 (x1 + 1)) x2
noncomputable def ref05_text_j4 (m : Nat) (self18 : Dt → Option ByteArray) (rec2 : ByteArray → Int → Dt → Option ByteArray) (x0 : ByteArray) (x1 : Int) (x2 : Dt) : Option ByteArray :=
  ((idx (Dt.L x2 3) x1).bind fun v5 =>
    ((self18 v5).bind fun r6 =>
 (bif (Nat.ble ((ByteArray.size x0) + (ByteArray.size r6)) 1152921504606846976) then
 ref05_text_j5 m self18 rec2 (x0 ++ r6) x1 x2
 else
 none)))
noncomputable def ref05_text_j3 (m : Nat) (self18 : Dt → Option ByteArray) (rec2 : ByteArray → Int → Dt → Option ByteArray) (x0 : ByteArray) (x1 : Int) (x2 : Dt) : Option ByteArray :=
  (bif (decide (0 < x1)) then
    (bif (Nat.ble ((ByteArray.size x0) + 1) 1152921504606846976) then
 ref05_text_j4 m self18 rec2 (x0 ++ (ByteArray.mk (List.toArray [44]))) x1 x2
    else
 none)
  else
    ref05_text_j4 m self18 rec2 x0 x1 x2)
noncomputable def ref05_text_j6 (m : Nat) (self18 : Dt → Option ByteArray) (x0 : ByteArray) : Option ByteArray :=
  (bif (Nat.ble ((ByteArray.size x0) + 1) 1152921504606846976) then
    some (x0 ++ (ByteArray.mk (List.toArray [93])))
  else
    none)
noncomputable def ref05_text_l2 (m : Nat) (self18 : Dt → Option ByteArray) : Nat → ByteArray → Int → Dt → Option ByteArray
  | 0, _, _, _ => none
  | M2 + 1, x0, x1, x2 =>
    (bif (decide (x1 < (List.length (Dt.L x2 3) : Int))) then
    ref05_text_j3 m self18 (ref05_text_l2 m self18 M2) x0 x1 x2
  else
    ref05_text_j6 m self18 x0)
noncomputable def ref05_text_j1 (m : Nat) (self18 : Dt → Option ByteArray) (x0 : ByteArray) (x1 : Int) (x2 : Dt) : Option ByteArray :=
  ref05_text_l2 m self18 (Nat.succ m) x0 x1 x2
noncomputable def ref05_text_j12 (m : Nat) (self18 : Dt → Option ByteArray) (rec9 : ByteArray → Int → Dt → Option ByteArray) (x0 : ByteArray) (x1 : Int) (x2 : Dt) : Option ByteArray :=
  rec9 x0 (IntKind.wrap .i64 (x1 + 1)) x2
noncomputable def ref05_text_j11 (m : Nat) (self18 : Dt → Option ByteArray) (rec9 : ByteArray → Int → Dt → Option ByteArray) (x0 : ByteArray) (x1 : Int) (x2 : Dt) : Option ByteArray :=
  ((idx (Dt.L x2 4) x1).bind fun v7 =>
    ((ref05_Quote m (Dt.S v7 0)).bind fun r8 =>
 (bif (Nat.ble ((ByteArray.size x0) + (ByteArray.size r8)) 1152921504606846976) then
 (bif (Nat.ble ((ByteArray.size (x0 ++ r8)) + 1) 1152921504606846976) then
 ((idx (Dt.L x2 4) x1).bind fun v9 =>
 ((self18 (Dt.fld v9 1)).bind fun r10 =>
 (bif (Nat.ble ((ByteArray.size ((x0 ++ r8) ++ (ByteArray.mk (List.toArray [58])))) + (ByteArray.size r10)) 1152921504606846976) then
 ref05_text_j12 m self18 rec9 (((x0 ++ r8) ++ (ByteArray.mk (List.toArray [58]))) ++ r10) x1 x2
 else
 none)))
 else
 none)
 else
 none)))
noncomputable def ref05_text_j10 (m : Nat) (self18 : Dt → Option ByteArray) (rec9 : ByteArray → Int → Dt → Option ByteArray) (x0 : ByteArray) (x1 : Int) (x2 : Dt) : Option ByteArray :=
  (bif (decide (0 < x1)) then
    (bif (Nat.ble ((ByteArray.size x0) + 1) 1152921504606846976) then
 ref05_text_j11 m self18 rec9 (x0 ++ (ByteArray.mk (List.toArray [44]))) x1 x2
    else
 none)
  else
    ref05_text_j11 m self18 rec9 x0 x1 x2)
noncomputable def ref05_text_j13 (m : Nat) (self18 : Dt → Option ByteArray) (x0 : ByteArray) : Option ByteArray :=
  (bif (Nat.ble ((ByteArray.size x0) + 1) 1152921504606846976) then
    some (x0 ++ (ByteArray.mk (List.toArray [125])))
  else
    none)
noncomputable def ref05_text_l9 (m : Nat) (self18 : Dt → Option ByteArray) : Nat → ByteArray → Int → Dt → Option ByteArray
  | 0, _, _, _ => none
  | M9 + 1, x0, x1, x2 =>
    (bif (decide (x1 < (List.length (Dt.L x2 4) : Int))) then
    ref05_text_j10 m self18 (ref05_text_l9 m self18 M9) x0 x1 x2
  else
    ref05_text_j13 m self18 x0)
noncomputable def ref05_text_j8 (m : Nat) (self18 : Dt → Option ByteArray) (x0 : ByteArray) (x1 : Int) (x2 : Dt) : Option ByteArray :=
  ref05_text_l9 m self18 (Nat.succ m) x0 x1 x2
noncomputable def ref05_text_j7 (m : Nat) (self18 : Dt → Option ByteArray) (x0 : Dt) : Option ByteArray :=
  ref05_text_j8 m self18 (ByteArray.mk (List.toArray [123])) 0 x0
noncomputable def ref05_text : Nat → Dt → Option ByteArray
  | 0, _ => none
  | m + 1, a0 =>
    (bif ((Dt.I a0 0) == 1) then
    some (ByteArray.mk (List.toArray [123, 34, 36, 109, 105, 110, 34, 58, 49, 125]))
  else
    (bif ((Dt.I a0 0) == 11) then
 some (ByteArray.mk (List.toArray [123, 34, 36, 109, 97, 120, 34, 58, 49, 125]))
    else
 (bif ((Dt.I a0 0) == 2) then
 some (ByteArray.mk (List.toArray [110, 117, 108, 108]))
 else
 (bif ((Dt.I a0 0) == 3) then
 ((ref05_Decimal m (Dt.I a0 1)).bind fun r0 =>
 some r0)
 else
 (bif ((Dt.I a0 0) == 4) then
 ((ref05_Quote m (Dt.S a0 2)).bind fun r1 =>
 some r1)
 else
 (bif ((Dt.I a0 0) == 7) then
 ((ref05_hex m (Dt.S a0 2)).bind fun r2 =>
 (bif (Nat.ble (11 + (ByteArray.size r2)) 1152921504606846976) then
 (bif (Nat.ble ((ByteArray.size ((ByteArray.mk (List.toArray [123, 34, 36, 98, 121, 116, 101, 115, 34, 58, 34])) ++ r2)) + 2) 1152921504606846976) then
 some (((ByteArray.mk (List.toArray [123, 34, 36, 98, 121, 116, 101, 115, 34, 58, 34])) ++ r2) ++ (ByteArray.mk (List.toArray [34, 125])))
 else
 none)
 else
 none))
 else
 (bif ((Dt.I a0 0) == 8) then
 ((ref05_hex m (Dt.S a0 2)).bind fun r3 =>
 (bif (Nat.ble (8 + (ByteArray.size r3)) 1152921504606846976) then
 (bif (Nat.ble ((ByteArray.size ((ByteArray.mk (List.toArray [123, 34, 36, 105, 100, 34, 58, 34])) ++ r3)) + 2) 1152921504606846976) then
 some (((ByteArray.mk (List.toArray [123, 34, 36, 105, 100, 34, 58, 34])) ++ r3) ++ (ByteArray.mk (List.toArray [34, 125])))
 else
 none)
 else
 none))
 else
 (bif ((Dt.I a0 0) == 10) then
 ((ref05_Decimal m (Dt.I a0 1)).bind fun r4 =>
 (bif (Nat.ble (9 + (ByteArray.size r4)) 1152921504606846976) then
 (bif (Nat.ble ((ByteArray.size ((ByteArray.mk (List.toArray [123, 34, 36, 116, 105, 109, 101, 34, 58])) ++ r4)) + 1) 1152921504606846976) then
 some (((ByteArray.mk (List.toArray [123, 34, 36, 116, 105, 109, 101, 34, 58])) ++ r4) ++ (ByteArray.mk (List.toArray [125])))
 else
 none)
 else
 none))
 else
 (bif ((Dt.I a0 0) == 9) then
 (bif ((Dt.I a0 1) == 1) then
 some (ByteArray.mk (List.toArray [116, 114, 117, 101]))
 else
 ref05_text_j0 m (ref05_text m))
 else
 (bif ((Dt.I a0 0) == 6) then
 ref05_text_j1 m (ref05_text m) (ByteArray.mk (List.toArray [91])) 0 a0
 else
 ref05_text_j7 m (ref05_text m) a0))))))))))
noncomputable def ref01_Parts_j3 (m : Nat) (rec1 : Int → Dt → List Dt → Option (List Dt)) (x0 : Int) (x1 : Dt) (x2 : List Dt) : Option (List Dt) :=
  rec1 (IntKind.wrap .i64 (x0 + 1)) x1 x2
noncomputable def ref01_Parts_j2 (m : Nat) (rec1 : Int → Dt → List Dt → Option (List Dt)) (x0 : Int) (x1 : Dt) (x2 : List Dt) : Option (List Dt) :=
  ((idx (Dt.L x1 3) x0).bind fun v0 =>
    ((app x2 [v0]).bind fun v1 =>
 ref01_Parts_j3 m rec1 x0 x1 v1))
noncomputable def ref01_Parts_j8 (m : Nat) (rec6 : Int → Dt → List Dt → Option (List Dt)) (x0 : Int) (x1 : Dt) (x2 : List Dt) : Option (List Dt) :=
  rec6 (IntKind.wrap .i64 (x0 + 1)) x1 x2
noncomputable def ref01_Parts_j7 (m : Nat) (rec6 : Int → Dt → List Dt → Option (List Dt)) (x0 : Int) (x1 : Dt) (x2 : List Dt) : Option (List Dt) :=
  ((idx (Dt.L x1 4) x0).bind fun v2 =>
    ((app x2 [(Dt.fld v2 1)]).bind fun v3 =>
 ref01_Parts_j8 m rec6 x0 x1 v3))
noncomputable def ref01_Parts_j9 (m : Nat) (x0 : List Dt) : Option (List Dt) :=
  some x0
noncomputable def ref01_Parts_l6 (m : Nat) : Nat → Int → Dt → List Dt → Option (List Dt)
  | 0, _, _, _ => none
  | M6 + 1, x0, x1, x2 =>
    (bif (decide (x0 < (List.length (Dt.L x1 4) : Int))) then
    ref01_Parts_j7 m (ref01_Parts_l6 m M6) x0 x1 x2
  else
    ref01_Parts_j9 m x2)
noncomputable def ref01_Parts_j5 (m : Nat) (x0 : Int) (x1 : Dt) (x2 : List Dt) : Option (List Dt) :=
  ref01_Parts_l6 m (Nat.succ m) x0 x1 x2
noncomputable def ref01_Parts_j4 (m : Nat) (x0 : Dt) (x1 : List Dt) : Option (List Dt) :=
  (bif ((Dt.I x0 0) == 5) then
    ref01_Parts_j5 m 0 x0 x1
  else
    ref01_Parts_j9 m x1)
noncomputable def ref01_Parts_l1 (m : Nat) : Nat → Int → Dt → List Dt → Option (List Dt)
  | 0, _, _, _ => none
  | M1 + 1, x0, x1, x2 =>
    (bif (decide (x0 < (List.length (Dt.L x1 3) : Int))) then
    ref01_Parts_j2 m (ref01_Parts_l1 m M1) x0 x1 x2
  else
    ref01_Parts_j4 m x1 x2)
noncomputable def ref01_Parts_j0 (m : Nat) (x0 : Int) (x1 : Dt) (x2 : List Dt) : Option (List Dt) :=
  ref01_Parts_l1 m (Nat.succ m) x0 x1 x2
noncomputable def ref01_Parts : Nat → Dt → Option (List Dt)
  | 0, _ => none
  | m + 1, a0 =>
    (bif ((Dt.I a0 0) == 6) then
    ref01_Parts_j0 m 0 a0 []
  else
    ref01_Parts_j4 m a0 [])
noncomputable def ref01_levels_j5 (m : Nat) (self36 : Dt → Int → Option Int) (rec3 : Int → List Dt → Int → Int → Option Int) (x0 : Int) (x1 : List Dt) (x2 x3 : Int) : Option Int :=
  rec3 x0 x1 x2 (IntKind.wrap .i64 (x3 + 1))
noncomputable def ref01_levels_j4 (m : Nat) (self36 : Dt → Int → Option Int) (rec3 : Int → List Dt → Int → Int → Option Int) (x0 : Int) (x1 : List Dt) (x2 x3 : Int) : Option Int :=
  ((idx x1 x3).bind fun v1 =>
    ((self36 v1 (IntKind.wrap .i64 (x0 - 1))).bind fun r2 =>
 ref01_levels_j5 m self36 rec3 x0 x1 (bif (decide (x2 < r2)) then r2 else x2) x3))
noncomputable def ref01_levels_j6 (m : Nat) (self36 : Dt → Int → Option Int) (x0 : Int) : Option Int :=
  some (IntKind.wrap .i64 (x0 + 1))
noncomputable def ref01_levels_l3 (m : Nat) (self36 : Dt → Int → Option Int) : Nat → Int → List Dt → Int → Int → Option Int
  | 0, _, _, _, _ => none
  | M3 + 1, x0, x1, x2, x3 =>
    (bif (decide (x3 < (List.length x1 : Int))) then
    ref01_levels_j4 m self36 (ref01_levels_l3 m self36 M3) x0 x1 x2 x3
  else
    ref01_levels_j6 m self36 x2)
noncomputable def ref01_levels_j2 (m : Nat) (self36 : Dt → Int → Option Int) (x0 : Int) (x1 : List Dt) (x2 x3 : Int) : Option Int :=
  ref01_levels_l3 m self36 (Nat.succ m) x0 x1 x2 x3
noncomputable def ref01_levels_j1 (m : Nat) (self36 : Dt → Int → Option Int) (x0 : Int) (x1 : List Dt) : Option Int :=
  ref01_levels_j2 m self36 x0 x1 0 0
noncomputable def ref01_levels_j0 (m : Nat) (self36 : Dt → Int → Option Int) (x0 : Int) (x1 : List Dt) (x2 : Bool) : Option Int :=
  (bif x2 then
    some 1
  else
    ref01_levels_j1 m self36 x0 x1)
noncomputable def ref01_levels : Nat → Dt → Int → Option Int
  | 0, _, _ => none
  | m + 1, a0, a1 =>
    ((ref01_Parts m a0).bind fun r0 =>
    (bif (decide (a1 < 2)) then
 ref01_levels_j0 m (ref01_levels m) a1 r0 true
    else
 ref01_levels_j0 m (ref01_levels m) a1 r0 ((List.length r0 : Int) == 0)))
noncomputable def ref01_Depth : Nat → Dt → Option Int
  | 0, _ => none
  | m + 1, a0 =>
    ((ref01_levels m a0 17).bind fun r0 =>
    some r0)
noncomputable def ref01_count_j3 (m : Nat) (self37 : Dt → Int → Option Int) (rec1 : Int → Int → List Dt → Int → Option Int) (x0 x1 : Int) (x2 : List Dt) (x3 : Int) : Option Int :=
  rec1 x0 x1 x2 (IntKind.wrap .i64 (x3 + 1))
noncomputable def ref01_count_j2 (m : Nat) (self37 : Dt → Int → Option Int) (rec1 : Int → Int → List Dt → Int → Option Int) (x0 x1 : Int) (x2 : List Dt) (x3 : Int) : Option Int :=
  ((idx x2 x3).bind fun v1 =>
    ((self37 v1 (IntKind.wrap .i64 (x0 - x1))).bind fun r2 =>
 ref01_count_j3 m self37 rec1 x0 (IntKind.wrap .i64 (x1 + r2)) x2 x3))
noncomputable def ref01_count_j4 (m : Nat) (self37 : Dt → Int → Option Int) (x0 : Int) : Option Int :=
  some x0
noncomputable def ref01_count_l1 (m : Nat) (self37 : Dt → Int → Option Int) : Nat → Int → Int → List Dt → Int → Option Int
  | 0, _, _, _, _ => none
  | M1 + 1, x0, x1, x2, x3 =>
    (bif (decide (x3 < (List.length x2 : Int))) then
    (bif (decide (x1 < x0)) then
 ref01_count_j2 m self37 (ref01_count_l1 m self37 M1) x0 x1 x2 x3
    else
 ref01_count_j4 m self37 x1)
  else
    ref01_count_j4 m self37 x1)
noncomputable def ref01_count_j0 (m : Nat) (self37 : Dt → Int → Option Int) (x0 x1 : Int) (x2 : List Dt) (x3 : Int) : Option Int :=
  ref01_count_l1 m self37 (Nat.succ m) x0 x1 x2 x3
noncomputable def ref01_count : Nat → Dt → Int → Option Int
  | 0, _, _ => none
  | m + 1, a0, a1 =>
    ((ref01_Parts m a0).bind fun r0 =>
    ref01_count_j0 m (ref01_count m) a1 1 r0 0)
noncomputable def ref01_Nodes : Nat → Dt → Option Int
  | 0, _ => none
  | m + 1, a0 =>
    ((ref01_count m a0 1025).bind fun r0 =>
    some r0)
noncomputable def ref05_place_j3 (m : Nat) (rec1 : Int → Int → Option Int) (x0 x1 : Int) : Option Int :=
  rec1 x0 (IntKind.wrap .i64 (x1 + 1))
noncomputable def ref05_place_j2 (m : Nat) (rec1 : Int → Int → Option Int) (x0 x1 : Int) : Option Int :=
  ((idxS (ByteArray.mk (List.toArray [48, 49, 50, 51, 52, 53, 54, 55, 56, 57, 97, 98, 99, 100, 101, 102])) x1).bind fun v0 =>
    (bif (v0 == x0) then
 some x1
    else
 ref05_place_j3 m rec1 x0 x1))
noncomputable def ref05_place_j4 (m : Nat) : Option Int :=
  some (-1)
noncomputable def ref05_place_l1 (m : Nat) : Nat → Int → Int → Option Int
  | 0, _, _ => none
  | M1 + 1, x0, x1 =>
    (bif (decide (x1 < 16)) then
    ref05_place_j2 m (ref05_place_l1 m M1) x0 x1
  else
    ref05_place_j4 m)
noncomputable def ref05_place_j0 (m : Nat) (x0 x1 : Int) : Option Int :=
  ref05_place_l1 m (Nat.succ m) x0 x1
noncomputable def ref05_place : Nat → Int → Option Int
  | 0, _ => none
  | m + 1, a0 =>
    ref05_place_j0 m a0 0
noncomputable def ref05_unhex_j6 (m : Nat) (rec2 : ByteArray → ByteArray → Int → Option (ByteArray × Bool)) (x0 x1 : ByteArray) (x2 : Int) : Option (ByteArray × Bool) :=
  rec2 x0 x1 (IntKind.wrap .i64 (x2 + 2))
noncomputable def ref05_unhex_j5 (m : Nat) (rec2 : ByteArray → ByteArray → Int → Option (ByteArray × Bool)) (x0 x1 : ByteArray) (x2 x3 x4 : Int) : Option (ByteArray × Bool) :=
  (bif (Nat.ble ((ByteArray.size x1) + (ByteArray.size (strOfNums [(IntKind.wrap IntKind.u8 (IntKind.wrap .i64 ((IntKind.wrap .i64 (16 * x3)) + x4)))]))) 1152921504606846976) then
    ref05_unhex_j6 m rec2 x0 (x1 ++ (strOfNums [(IntKind.wrap IntKind.u8 (IntKind.wrap .i64 ((IntKind.wrap .i64 (16 * x3)) + x4)))])) x2
  else
    none)
noncomputable def ref05_unhex_j4 (m : Nat) (rec2 : ByteArray → ByteArray → Int → Option (ByteArray × Bool)) (x0 x1 : ByteArray) (x2 x3 x4 : Int) (x5 : Bool) : Option (ByteArray × Bool) :=
  (bif x5 then
    some ((ByteArray.mk (List.toArray [])), false)
  else
    ref05_unhex_j5 m rec2 x0 x1 x2 x3 x4)
noncomputable def ref05_unhex_j3 (m : Nat) (rec2 : ByteArray → ByteArray → Int → Option (ByteArray × Bool)) (x0 x1 : ByteArray) (x2 : Int) : Option (ByteArray × Bool) :=
  ((idxS x0 x2).bind fun v0 =>
    ((ref05_place m v0).bind fun r1 =>
 ((idxS x0 (IntKind.wrap .i64 (x2 + 1))).bind fun v2 =>
 ((ref05_place m v2).bind fun r3 =>
 (bif (decide (r1 < 0)) then
 ref05_unhex_j4 m rec2 x0 x1 x2 r1 r3 true
 else
 ref05_unhex_j4 m rec2 x0 x1 x2 r1 r3 (decide (r3 < 0)))))))
noncomputable def ref05_unhex_j7 (m : Nat) (x0 : ByteArray) : Option (ByteArray × Bool) :=
  some (x0, true)
noncomputable def ref05_unhex_l2 (m : Nat) : Nat → ByteArray → ByteArray → Int → Option (ByteArray × Bool)
  | 0, _, _, _ => none
  | M2 + 1, x0, x1, x2 =>
    (bif (decide (x2 < (ByteArray.size x0 : Int))) then
    ref05_unhex_j3 m (ref05_unhex_l2 m M2) x0 x1 x2
  else
    ref05_unhex_j7 m x1)
noncomputable def ref05_unhex_j1 (m : Nat) (x0 x1 : ByteArray) (x2 : Int) : Option (ByteArray × Bool) :=
  ref05_unhex_l2 m (Nat.succ m) x0 x1 x2
noncomputable def ref05_unhex_j0 (m : Nat) (x0 : ByteArray) : Option (ByteArray × Bool) :=
  ref05_unhex_j1 m x0 (ByteArray.mk (List.toArray [])) 0
noncomputable def ref05_unhex : Nat → ByteArray → Option (ByteArray × Bool)
  | 0, _ => none
  | m + 1, a0 =>
    (bif ((Int.tmod (ByteArray.size a0 : Int) 2) == 1) then
    some ((ByteArray.mk (List.toArray [])), false)
  else
    ref05_unhex_j0 m a0)
noncomputable def ref05_special_j7 (m : Nat) (x0 : Dt) : Option (Dt × Bool) :=
  some (kza2373, false)
noncomputable def ref05_special_j6 (m : Nat) (x0 : Bool) (x1 : Dt) : Option (Dt × Bool) :=
  (bif x0 then
    some (kzedecf, true)
  else
    ref05_special_j7 m x1)
noncomputable def ref05_special_j5 (m : Nat) (x0 : List Dt) (x1 : Bool) (x2 x3 : Dt) : Option (Dt × Bool) :=
  (bif x1 then
    some (kz2ef54, true)
  else
    ((idx x0 0).bind fun v6 =>
 (bif ((ByteArray.toList (Dt.S v6 0)) == [36, 109, 97, 120]) then
 (bif ((Dt.I x3 0) == 3) then
 ref05_special_j6 m ((Dt.I x3 1) == 1) x2
 else
 ref05_special_j6 m false x2)
 else
 ref05_special_j6 m false x2)))
noncomputable def ref05_special_j4 (m : Nat) (x0 : List Dt) (x1 : Bool) (x2 x3 : Dt) : Option (Dt × Bool) :=
  (bif x1 then
    some ((Dt.agg [(Dt.int 10), (Dt.int (Dt.I x3 1)), (Dt.str (ByteArray.mk (List.toArray []))), (Dt.lst []), (Dt.lst [])]), true)
  else
    ((idx x0 0).bind fun v5 =>
 (bif ((ByteArray.toList (Dt.S v5 0)) == [36, 109, 105, 110]) then
 (bif ((Dt.I x3 0) == 3) then
 ref05_special_j5 m x0 ((Dt.I x3 1) == 1) x2 x3
 else
 ref05_special_j5 m x0 false x2 x3)
 else
 ref05_special_j5 m x0 false x2 x3)))
noncomputable def ref05_special_j3 (m : Nat) (x0 : List Dt) (x1 : ByteArray) (x2 : Bool) (x3 x4 : Dt) : Option (Dt × Bool) :=
  (bif x2 then
    some ((Dt.agg [(Dt.int 7), (Dt.int 0), (Dt.str x1), (Dt.lst []), (Dt.lst [])]), true)
  else
    ((idx x0 0).bind fun v4 =>
 (bif ((ByteArray.toList (Dt.S v4 0)) == [36, 116, 105, 109, 101]) then
 (bif ((Dt.I x4 0) == 3) then
 ref05_special_j4 m x0 (decide (0 ≤ (Dt.I x4 1))) x3 x4
 else
 ref05_special_j4 m x0 false x3 x4)
 else
 ref05_special_j4 m x0 false x3 x4)))
noncomputable def ref05_special_j2 (m : Nat) (x0 : List Dt) (x1 : ByteArray) (x2 x3 : Bool) (x4 x5 : Dt) : Option (Dt × Bool) :=
  (bif x3 then
    some ((Dt.agg [(Dt.int 8), (Dt.int 0), (Dt.str x1), (Dt.lst []), (Dt.lst [])]), true)
  else
    ((idx x0 0).bind fun v3 =>
 (bif ((ByteArray.toList (Dt.S v3 0)) == [36, 98, 121, 116, 101, 115]) then
 ref05_special_j3 m x0 x1 x2 x4 x5
 else
 ref05_special_j3 m x0 x1 false x4 x5)))
noncomputable def ref05_special_j1 (m : Nat) (x0 : List Dt) (x1 : ByteArray) (x2 : Bool) (x3 x4 : Dt) : Option (Dt × Bool) :=
  ((idx x0 0).bind fun v2 =>
    (bif ((ByteArray.toList (Dt.S v2 0)) == [36, 105, 100]) then
 (bif x2 then
 ref05_special_j2 m x0 x1 x2 ((ByteArray.size x1 : Int) == 12) x3 x4
 else
 ref05_special_j2 m x0 x1 x2 false x3 x4)
    else
 ref05_special_j2 m x0 x1 x2 false x3 x4))
noncomputable def ref05_special_j0 (m : Nat) (x0 : List Dt) (x1 : Dt) : Option (Dt × Bool) :=
  ((idx x0 0).bind fun v0 =>
    (bif ((Dt.I (Dt.fld v0 1) 0) == 4) then
 ((ref05_unhex m (Dt.S (Dt.fld v0 1) 2)).bind fun r1 =>
 ref05_special_j1 m x0 r1.1 r1.2 x1 (Dt.fld v0 1))
    else
 ref05_special_j1 m x0 (ByteArray.mk (List.toArray [])) false x1 (Dt.fld v0 1)))
noncomputable def ref05_special : Nat → List Dt → Option (Dt × Bool)
  | 0, _ => none
  | m + 1, a0 =>
    (bif ((List.length a0 : Int) != 1) then
    some (kza2373, false)
  else
    ref05_special_j0 m a0 kza2373)
noncomputable def ref05_printable_j7 (m : Nat) (self17 : Dt → Option Int) (rec5 : Int → Dt → Option Int) (x0 : Int) (x1 : Dt) : Option Int :=
  rec5 (IntKind.wrap .i64 (x0 + 1)) x1
noncomputable def ref05_printable_j6 (m : Nat) (self17 : Dt → Option Int) (rec5 : Int → Dt → Option Int) (x0 : Int) (x1 : Dt) : Option Int :=
  ((idx (Dt.L x1 3) x0).bind fun v1 =>
    ((self17 v1).bind fun r2 =>
 (bif (r2 != 0) then
 some r2
 else
 ref05_printable_j7 m self17 rec5 x0 x1)))
noncomputable def ref05_printable_j12 (m : Nat) (self17 : Dt → Option Int) (rec10 : Int → Dt → Option Int) (x0 : Int) (x1 : Dt) : Option Int :=
  rec10 (IntKind.wrap .i64 (x0 + 1)) x1
noncomputable def ref05_printable_j11 (m : Nat) (self17 : Dt → Option Int) (rec10 : Int → Dt → Option Int) (x0 : Int) (x1 : Dt) : Option Int :=
  ((idx (Dt.L x1 4) x0).bind fun v3 =>
    ((self17 (Dt.fld v3 1)).bind fun r4 =>
 (bif (r4 != 0) then
 some r4
 else
 ref05_printable_j12 m self17 rec10 x0 x1)))
noncomputable def ref05_printable_j13 (m : Nat) (self17 : Dt → Option Int) : Option Int :=
  some 0
noncomputable def ref05_printable_l10 (m : Nat) (self17 : Dt → Option Int) : Nat → Int → Dt → Option Int
  | 0, _, _ => none
  | M10 + 1, x0, x1 =>
    (bif (decide (x0 < (List.length (Dt.L x1 4) : Int))) then
    ref05_printable_j11 m self17 (ref05_printable_l10 m self17 M10) x0 x1
  else
    ref05_printable_j13 m self17)
noncomputable def ref05_printable_j9 (m : Nat) (self17 : Dt → Option Int) (x0 : Int) (x1 : Dt) : Option Int :=
  ref05_printable_l10 m self17 (Nat.succ m) x0 x1
noncomputable def ref05_printable_j8 (m : Nat) (self17 : Dt → Option Int) (x0 : Dt) : Option Int :=
  ref05_printable_j9 m self17 0 x0
noncomputable def ref05_printable_l5 (m : Nat) (self17 : Dt → Option Int) : Nat → Int → Dt → Option Int
  | 0, _, _ => none
  | M5 + 1, x0, x1 =>
    (bif (decide (x0 < (List.length (Dt.L x1 3) : Int))) then
    ref05_printable_j6 m self17 (ref05_printable_l5 m self17 M5) x0 x1
  else
    ref05_printable_j8 m self17 x1)
noncomputable def ref05_printable_j4 (m : Nat) (self17 : Dt → Option Int) (x0 : Int) (x1 : Dt) : Option Int :=
  ref05_printable_l5 m self17 (Nat.succ m) x0 x1
noncomputable def ref05_printable_j3 (m : Nat) (self17 : Dt → Option Int) (x0 : Dt) : Option Int :=
  ref05_printable_j4 m self17 0 x0
noncomputable def ref05_printable_j2 (m : Nat) (self17 : Dt → Option Int) (x0 : Bool) (x1 : Dt) : Option Int :=
  (bif x0 then
    some 4
  else
    ref05_printable_j3 m self17 x1)
noncomputable def ref05_printable_j1 (m : Nat) (self17 : Dt → Option Int) (x0 : Dt) : Option Int :=
  ((ref05_special m (Dt.L x0 4)).bind fun r0 =>
    (bif ((Dt.I x0 0) == 5) then
 ref05_printable_j2 m self17 r0.2 x0
    else
 ref05_printable_j2 m self17 false x0))
noncomputable def ref05_printable_j0 (m : Nat) (self17 : Dt → Option Int) (x0 : Bool) (x1 : Dt) : Option Int :=
  (bif x0 then
    some 2
  else
    ref05_printable_j1 m self17 x1)
noncomputable def ref05_printable : Nat → Dt → Option Int
  | 0, _ => none
  | m + 1, a0 =>
    (bif ((Dt.I a0 0) == 7) then
    ref05_printable_j0 m (ref05_printable m) (decide (2048 < (ByteArray.size (Dt.S a0 2) : Int))) a0
  else
    ref05_printable_j0 m (ref05_printable m) false a0)
noncomputable def value_isName_j6 (m : Nat) (rec3 : ByteArray → Int → Int → Option Bool) (x0 : ByteArray) (x1 x2 : Int) : Option Bool :=
  rec3 x0 x1 (IntKind.wrap .i64 (x2 + 1))
noncomputable def value_isName_j5 (m : Nat) (rec3 : ByteArray → Int → Int → Option Bool) (x0 : ByteArray) (x1 x2 : Int) (x3 : Bool) : Option Bool :=
  (bif x3 then
    some false
  else
    value_isName_j6 m rec3 x0 x1 x2)
noncomputable def value_isName_j4 (m : Nat) (rec3 : ByteArray → Int → Int → Option Bool) (x0 : ByteArray) (x1 x2 : Int) : Option Bool :=
  ((idxS x0 x2).bind fun v0 =>
    (bif (decide (v0 < 33)) then
 value_isName_j5 m rec3 x0 x1 x2 true
    else
 ((idxS x0 x2).bind fun v1 =>
 (bif (decide (126 < v1)) then
 value_isName_j5 m rec3 x0 x1 x2 true
 else
 ((idxS x0 x2).bind fun v2 =>
 value_isName_j5 m rec3 x0 x1 x2 (v2 == 46))))))
noncomputable def value_isName_j7 (m : Nat) : Option Bool :=
  some true
noncomputable def value_isName_l3 (m : Nat) : Nat → ByteArray → Int → Int → Option Bool
  | 0, _, _, _ => none
  | M3 + 1, x0, x1, x2 =>
    (bif (decide (x2 < x1)) then
    value_isName_j4 m (value_isName_l3 m M3) x0 x1 x2
  else
    value_isName_j7 m)
noncomputable def value_isName_j2 (m : Nat) (x0 : ByteArray) (x1 x2 : Int) : Option Bool :=
  value_isName_l3 m (Nat.succ m) x0 x1 x2
noncomputable def value_isName_j1 (m : Nat) (x0 : ByteArray) : Option Bool :=
  value_isName_j2 m x0 (ByteArray.size x0 : Int) 0
noncomputable def value_isName_j0 (m : Nat) (x0 : ByteArray) (x1 : Bool) : Option Bool :=
  (bif x1 then
    some false
  else
    value_isName_j1 m x0)
noncomputable def value_isName : Nat → ByteArray → Option Bool
  | 0, _ => none
  | m + 1, a0 =>
    (bif (decide ((ByteArray.size a0 : Int) < 1)) then
    value_isName_j0 m a0 true
  else
    (bif (decide (32 < (ByteArray.size a0 : Int))) then
 value_isName_j0 m a0 true
    else
 ((idxS a0 0).bind fun v3 =>
 value_isName_j0 m a0 (v3 == 36))))
noncomputable def value_sound_j10 (m : Nat) (self34 : Dt → Option Bool) (self45 : List Dt → Option Bool) (rec8 : List Dt → Int → Int → Option Bool) (x0 : List Dt) (x1 x2 : Int) : Option Bool :=
  rec8 x0 x1 (IntKind.wrap .i64 (x2 + 1))
noncomputable def value_sound_j9 (m : Nat) (self34 : Dt → Option Bool) (self45 : List Dt → Option Bool) (rec8 : List Dt → Int → Int → Option Bool) (x0 : List Dt) (x1 x2 : Int) : Option Bool :=
  ((idx x0 x2).bind fun v1 =>
    ((self34 v1).bind fun r2 =>
 (bif (Bool.not r2) then
 some false
 else
 value_sound_j10 m self34 self45 rec8 x0 x1 x2)))
noncomputable def value_sound_j11 (m : Nat) (self34 : Dt → Option Bool) (self45 : List Dt → Option Bool) : Option Bool :=
  some true
noncomputable def value_sound_l8 (m : Nat) (self34 : Dt → Option Bool) (self45 : List Dt → Option Bool) : Nat → List Dt → Int → Int → Option Bool
  | 0, _, _, _ => none
  | M8 + 1, x0, x1, x2 =>
    (bif (decide (x2 < x1)) then
    value_sound_j9 m self34 self45 (value_sound_l8 m self34 self45 M8) x0 x1 x2
  else
    value_sound_j11 m self34 self45)
noncomputable def value_sound_j7 (m : Nat) (self34 : Dt → Option Bool) (self45 : List Dt → Option Bool) (x0 : List Dt) (x1 x2 : Int) : Option Bool :=
  value_sound_l8 m self34 self45 (Nat.succ m) x0 x1 x2
noncomputable def value_sound_j12 (m : Nat) (self34 : Dt → Option Bool) (self45 : List Dt → Option Bool) : Option Bool :=
  some false
noncomputable def value_sound_j6 (m : Nat) (self34 : Dt → Option Bool) (self45 : List Dt → Option Bool) (x0 : Int) (x1 : Bool) (x2 : Dt) : Option Bool :=
  (bif x1 then
    some true
  else
    (bif (x0 == 9) then
 (bif ((Dt.I x2 1) == 0) then
 some true
 else
 some ((Dt.I x2 1) == 1))
    else
 (bif (x0 == 10) then
 some (decide (0 ≤ (Dt.I x2 1)))
 else
 (bif (x0 == 4) then
 (bif (decide ((ByteArray.size (Dt.S x2 2) : Int) ≤ 4096)) then
 ((utf8_ValidString (Dt.S x2 2)).bind fun r0 =>
 some r0)
 else
 some false)
 else
 (bif (x0 == 7) then
 some (decide ((ByteArray.size (Dt.S x2 2) : Int) ≤ 4096))
 else
 (bif (x0 == 8) then
 some ((ByteArray.size (Dt.S x2 2) : Int) == 12)
 else
 (bif (x0 == 6) then
 value_sound_j7 m self34 self45 (Dt.L x2 3) (List.length (Dt.L x2 3) : Int) 0
 else
 (bif (x0 == 5) then
 ((self45 (Dt.L x2 4)).bind fun r3 =>
 some r3)
 else
 value_sound_j12 m self34 self45))))))))
noncomputable def value_sound_j5 (m : Nat) (self34 : Dt → Option Bool) (self45 : List Dt → Option Bool) (x0 : Dt) : Option Bool :=
  (bif ((Dt.I x0 0) == 1) then
    value_sound_j6 m self34 self45 (Dt.I x0 0) ((Dt.I x0 0) == 1) x0
  else
    (bif ((Dt.I x0 0) == 2) then
 value_sound_j6 m self34 self45 (Dt.I x0 0) ((Dt.I x0 0) == 2) x0
    else
 (bif ((Dt.I x0 0) == 11) then
 value_sound_j6 m self34 self45 (Dt.I x0 0) ((Dt.I x0 0) == 11) x0
 else
 value_sound_j6 m self34 self45 (Dt.I x0 0) ((Dt.I x0 0) == 3) x0)))
noncomputable def value_sound_j4 (m : Nat) (self34 : Dt → Option Bool) (self45 : List Dt → Option Bool) (x0 : Bool) (x1 : Dt) : Option Bool :=
  (bif x0 then
    some false
  else
    value_sound_j5 m self34 self45 x1)
noncomputable def value_sound_j3 (m : Nat) (self34 : Dt → Option Bool) (self45 : List Dt → Option Bool) (x0 : Dt) : Option Bool :=
  (bif ((Dt.I x0 0) != 6) then
    (bif (decide (0 < (List.length (Dt.L x0 3) : Int))) then
 value_sound_j4 m self34 self45 true x0
    else
 (bif ((Dt.I x0 0) != 5) then
 value_sound_j4 m self34 self45 (decide (0 < (List.length (Dt.L x0 4) : Int))) x0
 else
 value_sound_j4 m self34 self45 false x0))
  else
    (bif ((Dt.I x0 0) != 5) then
 value_sound_j4 m self34 self45 (decide (0 < (List.length (Dt.L x0 4) : Int))) x0
    else
 value_sound_j4 m self34 self45 false x0))
noncomputable def value_sound_j2 (m : Nat) (self34 : Dt → Option Bool) (self45 : List Dt → Option Bool) (x0 : Bool) (x1 : Dt) : Option Bool :=
  (bif x0 then
    some false
  else
    value_sound_j3 m self34 self45 x1)
noncomputable def value_sound_j1 (m : Nat) (self34 : Dt → Option Bool) (self45 : List Dt → Option Bool) (x0 x1 : Bool) (x2 : Dt) : Option Bool :=
  (bif (Bool.not x0) then
    (bif ((Dt.I x2 1) != 0) then
 value_sound_j2 m self34 self45 true x2
    else
 (bif (Bool.not x1) then
 value_sound_j2 m self34 self45 (Bool.not ((ByteArray.toList (Dt.S x2 2)) == [])) x2
 else
 value_sound_j2 m self34 self45 false x2))
  else
    (bif (Bool.not x1) then
 value_sound_j2 m self34 self45 (Bool.not ((ByteArray.toList (Dt.S x2 2)) == [])) x2
    else
 value_sound_j2 m self34 self45 false x2))
noncomputable def value_sound_j0 (m : Nat) (self34 : Dt → Option Bool) (self45 : List Dt → Option Bool) (x0 : Bool) (x1 : Dt) : Option Bool :=
  (bif ((Dt.I x1 0) == 4) then
    value_sound_j1 m self34 self45 x0 true x1
  else
    (bif ((Dt.I x1 0) == 7) then
 value_sound_j1 m self34 self45 x0 true x1
    else
 value_sound_j1 m self34 self45 x0 ((Dt.I x1 0) == 8) x1))
noncomputable def value_soundFields_j5 (m : Nat) (self34 : Dt → Option Bool) (rec1 : List Dt → Int → Int → List Dt → Option Bool) (x0 : List Dt) (x1 x2 : Int) (x3 : List Dt) : Option Bool :=
  rec1 x0 x1 (IntKind.wrap .i64 (x2 + 1)) x3
noncomputable def value_soundFields_j4 (m : Nat) (self34 : Dt → Option Bool) (rec1 : List Dt → Int → Int → List Dt → Option Bool) (x0 : List Dt) (x1 x2 : Int) (x3 : List Dt) (x4 : Dt) : Option Bool :=
  value_soundFields_j5 m self34 rec1 x0 x1 x2 (mput x3 (Dt.S x4 0) (Dt.bool true))
noncomputable def value_soundFields_j3 (m : Nat) (self34 : Dt → Option Bool) (rec1 : List Dt → Int → Int → List Dt → Option Bool) (x0 : List Dt) (x1 x2 : Int) (x3 : Bool) (x4 : List Dt) (x5 : Dt) : Option Bool :=
  (bif x3 then
    some false
  else
    value_soundFields_j4 m self34 rec1 x0 x1 x2 x4 x5)
noncomputable def value_soundFields_j2 (m : Nat) (self34 : Dt → Option Bool) (rec1 : List Dt → Int → Int → List Dt → Option Bool) (x0 : List Dt) (x1 x2 : Int) (x3 : List Dt) : Option Bool :=
  ((idx x0 x2).bind fun v0 =>
    ((value_isName m (Dt.S v0 0)).bind fun r1 =>
 (bif (Bool.not r1) then
 value_soundFields_j3 m self34 rec1 x0 x1 x2 true x3 v0
 else
 (bif (Dt.toBool (mgetD x3 (Dt.S v0 0) (Dt.bool false))) then
 value_soundFields_j3 m self34 rec1 x0 x1 x2 true x3 v0
 else
 ((self34 (Dt.fld v0 1)).bind fun r2 =>
 value_soundFields_j3 m self34 rec1 x0 x1 x2 (Bool.not r2) x3 v0)))))
noncomputable def value_soundFields_j6 (m : Nat) (self34 : Dt → Option Bool) : Option Bool :=
  some true
noncomputable def value_soundFields_l1 (m : Nat) (self34 : Dt → Option Bool) : Nat → List Dt → Int → Int → List Dt → Option Bool
  | 0, _, _, _, _ => none
  | M1 + 1, x0, x1, x2, x3 =>
    (bif (decide (x2 < x1)) then
    value_soundFields_j2 m self34 (value_soundFields_l1 m self34 M1) x0 x1 x2 x3
  else
    value_soundFields_j6 m self34)
noncomputable def value_soundFields_j0 (m : Nat) (self34 : Dt → Option Bool) (x0 : List Dt) (x1 x2 : Int) (x3 : List Dt) : Option Bool :=
  value_soundFields_l1 m self34 (Nat.succ m) x0 x1 x2 x3
mutual
noncomputable def value_sound : Nat → Dt → Option Bool
  | 0, _ => none
  | m + 1, a0 =>
    (bif ((Dt.I a0 0) == 3) then
    value_sound_j0 m (value_sound m) (value_soundFields m) true a0
  else
    (bif ((Dt.I a0 0) == 9) then
 value_sound_j0 m (value_sound m) (value_soundFields m) true a0
    else
 value_sound_j0 m (value_sound m) (value_soundFields m) ((Dt.I a0 0) == 10) a0))
noncomputable def value_soundFields : Nat → List Dt → Option Bool
  | 0, _ => none
  | m + 1, a0 =>
    value_soundFields_j0 m (value_sound m) a0 (List.length a0 : Int) 0 []
end
noncomputable def value_Valid : Nat → Dt → Option Bool
  | 0, _ => none
  | m + 1, a0 =>
    ((value_Nodes m a0).bind fun r0 =>
    (bif (decide (r0 ≤ 1024)) then
 ((value_Depth m a0).bind fun r1 =>
 (bif (decide (r1 ≤ 16)) then
 ((value_sound m a0).bind fun r2 =>
 some r2)
 else
 some false))
    else
 some false))
noncomputable def notation_wellFormed_j1 (m : Nat) (x0 : Dt) : Option Bool :=
  ((notation_rename m x0).bind fun r1 =>
    (bif r1.2 then
 ((value_Valid m r1.1).bind fun r2 =>
 some r2)
    else
 some false))
noncomputable def notation_wellFormed_j0 (m : Nat) (x0 : Bool) (x1 : Dt) : Option Bool :=
  (bif x0 then
    some false
  else
    notation_wellFormed_j1 m x1)
noncomputable def notation_wellFormed : Nat → Dt → Option Bool
  | 0, _ => none
  | m + 1, a0 =>
    ((value_Nodes m a0).bind fun r0 =>
    (bif (decide (1024 < r0)) then
 notation_wellFormed_j0 m true a0
    else
 ((value_Depth m a0).bind fun r3 =>
 notation_wellFormed_j0 m (decide (16 < r3)) a0)))
noncomputable def notation_Print_j1 (m : Nat) (x0 : List Dt) : Option (ByteArray × Int) :=
  ((bif (Nat.ble (List.length x0) 137438953472) then (Option.some (strOfNums (List.map Dt.toInt x0))) else (Option.none)).bind fun v2 =>
    some (v2, 0))
noncomputable def notation_Print_j0 (m : Nat) (x0 : Dt) : Option (ByteArray × Int) :=
  ((i7 m x0 []).bind fun r1 =>
    (bif (r1.1 != 0) then
 some ((ByteArray.mk (List.toArray [])), r1.1)
    else
 notation_Print_j1 m r1.2))
noncomputable def notation_Print : Nat → Dt → Option (ByteArray × Int)
  | 0, _ => none
  | m + 1, a0 =>
    ((notation_wellFormed m a0).bind fun r0 =>
    (bif (Bool.not r0) then
 some ((ByteArray.mk (List.toArray [])), 8)
    else
 notation_Print_j0 m a0))
noncomputable def ref01_tail_j5 (m : Nat) (rec2 : ByteArray → Int → Int → Int → Option Bool) (x0 : ByteArray) (x1 x2 x3 : Int) : Option Bool :=
  rec2 x0 x1 x2 (IntKind.wrap .i64 (x3 + 1))
noncomputable def ref01_tail_j4 (m : Nat) (rec2 : ByteArray → Int → Int → Int → Option Bool) (x0 : ByteArray) (x1 x2 x3 : Int) (x4 : Bool) : Option Bool :=
  (bif x4 then
    some false
  else
    ref01_tail_j5 m rec2 x0 x1 x2 x3)
noncomputable def ref01_tail_j3 (m : Nat) (rec2 : ByteArray → Int → Int → Int → Option Bool) (x0 : ByteArray) (x1 x2 x3 : Int) : Option Bool :=
  ((idxS x0 (IntKind.wrap .i64 (x1 + x3))).bind fun v0 =>
    (bif (decide (v0 < 128)) then
 ref01_tail_j4 m rec2 x0 x1 x2 x3 true
    else
 ((idxS x0 (IntKind.wrap .i64 (x1 + x3))).bind fun v1 =>
 ref01_tail_j4 m rec2 x0 x1 x2 x3 (decide (191 < v1)))))
noncomputable def ref01_tail_j6 (m : Nat) : Option Bool :=
  some true
noncomputable def ref01_tail_l2 (m : Nat) : Nat → ByteArray → Int → Int → Int → Option Bool
  | 0, _, _, _, _ => none
  | M2 + 1, x0, x1, x2, x3 =>
    (bif (decide (x3 < x2)) then
    ref01_tail_j3 m (ref01_tail_l2 m M2) x0 x1 x2 x3
  else
    ref01_tail_j6 m)
noncomputable def ref01_tail_j1 (m : Nat) (x0 : ByteArray) (x1 x2 x3 : Int) : Option Bool :=
  ref01_tail_l2 m (Nat.succ m) x0 x1 x2 x3
noncomputable def ref01_tail_j0 (m : Nat) (x0 : ByteArray) (x1 x2 : Int) : Option Bool :=
  ref01_tail_j1 m x0 x1 x2 0
noncomputable def ref01_tail : Nat → ByteArray → Int → Int → Option Bool
  | 0, _, _, _ => none
  | m + 1, a0, a1, a2 =>
    (bif (decide ((ByteArray.size a0 : Int) < (IntKind.wrap .i64 (a1 + a2)))) then
    some false
  else
    ref01_tail_j0 m a0 a1 a2)
noncomputable def ref01_UTF8_j6 (m : Nat) (rec1 : ByteArray → Int → Option Bool) (x0 : ByteArray) (x1 x2 : Int) : Option Bool :=
  rec1 x0 (IntKind.wrap .i64 ((IntKind.wrap .i64 (x1 + x2)) + 1))
noncomputable def ref01_UTF8_j5 (m : Nat) (rec1 : ByteArray → Int → Option Bool) (x0 : ByteArray) (x1 x2 : Int) (x3 : Bool) : Option Bool :=
  (bif x3 then
    some false
  else
    ref01_UTF8_j6 m rec1 x0 x1 x2)
noncomputable def ref01_UTF8_j4 (m : Nat) (rec1 : ByteArray → Int → Option Bool) (x0 : ByteArray) (x1 x2 x3 : Int) : Option Bool :=
  (bif (x2 == 224) then
    ((idxS x0 (IntKind.wrap .i64 (x1 + 1))).bind fun v2 =>
 (bif (decide (v2 < 160)) then
 ref01_UTF8_j5 m rec1 x0 x1 x3 true
 else
 (bif (x2 == 237) then
 ((idxS x0 (IntKind.wrap .i64 (x1 + 1))).bind fun v3 =>
 (bif (decide (159 < v3)) then
 ref01_UTF8_j5 m rec1 x0 x1 x3 true
 else
 (bif (x2 == 240) then
 ((idxS x0 (IntKind.wrap .i64 (x1 + 1))).bind fun v4 =>
 (bif (decide (v4 < 144)) then
 ref01_UTF8_j5 m rec1 x0 x1 x3 true
 else
 (bif (x2 == 244) then
 ((idxS x0 (IntKind.wrap .i64 (x1 + 1))).bind fun v5 =>
 ref01_UTF8_j5 m rec1 x0 x1 x3 (decide (143 < v5)))
 else
 ref01_UTF8_j5 m rec1 x0 x1 x3 false)))
 else
 (bif (x2 == 244) then
 ((idxS x0 (IntKind.wrap .i64 (x1 + 1))).bind fun v6 =>
 ref01_UTF8_j5 m rec1 x0 x1 x3 (decide (143 < v6)))
 else
 ref01_UTF8_j5 m rec1 x0 x1 x3 false))))
 else
 (bif (x2 == 240) then
 ((idxS x0 (IntKind.wrap .i64 (x1 + 1))).bind fun v7 =>
 (bif (decide (v7 < 144)) then
 ref01_UTF8_j5 m rec1 x0 x1 x3 true
 else
 (bif (x2 == 244) then
 ((idxS x0 (IntKind.wrap .i64 (x1 + 1))).bind fun v8 =>
 ref01_UTF8_j5 m rec1 x0 x1 x3 (decide (143 < v8)))
 else
 ref01_UTF8_j5 m rec1 x0 x1 x3 false)))
 else
 (bif (x2 == 244) then
 ((idxS x0 (IntKind.wrap .i64 (x1 + 1))).bind fun v9 =>
 ref01_UTF8_j5 m rec1 x0 x1 x3 (decide (143 < v9)))
 else
 ref01_UTF8_j5 m rec1 x0 x1 x3 false)))))
  else
    (bif (x2 == 237) then
 ((idxS x0 (IntKind.wrap .i64 (x1 + 1))).bind fun v10 =>
 (bif (decide (159 < v10)) then
 ref01_UTF8_j5 m rec1 x0 x1 x3 true
 else
 (bif (x2 == 240) then
 ((idxS x0 (IntKind.wrap .i64 (x1 + 1))).bind fun v11 =>
 (bif (decide (v11 < 144)) then
 ref01_UTF8_j5 m rec1 x0 x1 x3 true
 else
 (bif (x2 == 244) then
 ((idxS x0 (IntKind.wrap .i64 (x1 + 1))).bind fun v12 =>
 ref01_UTF8_j5 m rec1 x0 x1 x3 (decide (143 < v12)))
 else
 ref01_UTF8_j5 m rec1 x0 x1 x3 false)))
 else
 (bif (x2 == 244) then
 ((idxS x0 (IntKind.wrap .i64 (x1 + 1))).bind fun v13 =>
 ref01_UTF8_j5 m rec1 x0 x1 x3 (decide (143 < v13)))
 else
 ref01_UTF8_j5 m rec1 x0 x1 x3 false))))
    else
 (bif (x2 == 240) then
 ((idxS x0 (IntKind.wrap .i64 (x1 + 1))).bind fun v14 =>
 (bif (decide (v14 < 144)) then
 ref01_UTF8_j5 m rec1 x0 x1 x3 true
 else
 (bif (x2 == 244) then
 ((idxS x0 (IntKind.wrap .i64 (x1 + 1))).bind fun v15 =>
 ref01_UTF8_j5 m rec1 x0 x1 x3 (decide (143 < v15)))
 else
 ref01_UTF8_j5 m rec1 x0 x1 x3 false)))
 else
 (bif (x2 == 244) then
 ((idxS x0 (IntKind.wrap .i64 (x1 + 1))).bind fun v16 =>
 ref01_UTF8_j5 m rec1 x0 x1 x3 (decide (143 < v16)))
 else
 ref01_UTF8_j5 m rec1 x0 x1 x3 false))))
noncomputable def ref01_UTF8_j3 (m : Nat) (rec1 : ByteArray → Int → Option Bool) (x0 : ByteArray) (x1 x2 x3 : Int) : Option Bool :=
  ((ref01_tail m x0 (IntKind.wrap .i64 (x1 + 1)) x3).bind fun r1 =>
    (bif (Bool.not r1) then
 some false
    else
 ref01_UTF8_j4 m rec1 x0 x1 x2 x3))
noncomputable def ref01_UTF8_j9 (m : Nat) (rec1 : ByteArray → Int → Option Bool) (x0 : ByteArray) (x1 x2 : Int) (x3 : Bool) : Option Bool :=
  (bif x3 then
    ref01_UTF8_j3 m rec1 x0 x1 x2 3
  else
    some false)
noncomputable def ref01_UTF8_j8 (m : Nat) (rec1 : ByteArray → Int → Option Bool) (x0 : ByteArray) (x1 x2 : Int) (x3 : Bool) : Option Bool :=
  (bif x3 then
    ref01_UTF8_j3 m rec1 x0 x1 x2 2
  else
    (bif (decide (240 ≤ x2)) then
 ref01_UTF8_j9 m rec1 x0 x1 x2 (decide (x2 ≤ 244))
    else
 ref01_UTF8_j9 m rec1 x0 x1 x2 false))
noncomputable def ref01_UTF8_j7 (m : Nat) (rec1 : ByteArray → Int → Option Bool) (x0 : ByteArray) (x1 x2 : Int) (x3 : Bool) : Option Bool :=
  (bif x3 then
    ref01_UTF8_j3 m rec1 x0 x1 x2 1
  else
    (bif (decide (224 ≤ x2)) then
 ref01_UTF8_j8 m rec1 x0 x1 x2 (decide (x2 ≤ 239))
    else
 ref01_UTF8_j8 m rec1 x0 x1 x2 false))
noncomputable def ref01_UTF8_j2 (m : Nat) (rec1 : ByteArray → Int → Option Bool) (x0 : ByteArray) (x1 : Int) : Option Bool :=
  ((idxS x0 x1).bind fun v0 =>
    (bif (decide (v0 < 128)) then
 ref01_UTF8_j3 m rec1 x0 x1 v0 0
    else
 (bif (decide (194 ≤ v0)) then
 ref01_UTF8_j7 m rec1 x0 x1 v0 (decide (v0 ≤ 223))
 else
 ref01_UTF8_j7 m rec1 x0 x1 v0 false)))
noncomputable def ref01_UTF8_j10 (m : Nat) : Option Bool :=
  some true
noncomputable def ref01_UTF8_l1 (m : Nat) : Nat → ByteArray → Int → Option Bool
  | 0, _, _ => none
  | M1 + 1, x0, x1 =>
    (bif (decide (x1 < (ByteArray.size x0 : Int))) then
    ref01_UTF8_j2 m (ref01_UTF8_l1 m M1) x0 x1
  else
    ref01_UTF8_j10 m)
noncomputable def ref01_UTF8_j0 (m : Nat) (x0 : ByteArray) (x1 : Int) : Option Bool :=
  ref01_UTF8_l1 m (Nat.succ m) x0 x1
noncomputable def ref01_UTF8 : Nat → ByteArray → Option Bool
  | 0, _ => none
  | m + 1, a0 =>
    ref01_UTF8_j0 m a0 0
noncomputable def ref01_Name_j6 (m : Nat) (rec3 : ByteArray → Int → Option Bool) (x0 : ByteArray) (x1 : Int) : Option Bool :=
  rec3 x0 (IntKind.wrap .i64 (x1 + 1))
noncomputable def ref01_Name_j5 (m : Nat) (rec3 : ByteArray → Int → Option Bool) (x0 : ByteArray) (x1 : Int) (x2 : Bool) : Option Bool :=
  (bif x2 then
    some false
  else
    ref01_Name_j6 m rec3 x0 x1)
noncomputable def ref01_Name_j4 (m : Nat) (rec3 : ByteArray → Int → Option Bool) (x0 : ByteArray) (x1 : Int) : Option Bool :=
  ((idxS x0 x1).bind fun v0 =>
    (bif (decide (v0 < 33)) then
 ref01_Name_j5 m rec3 x0 x1 true
    else
 ((idxS x0 x1).bind fun v1 =>
 (bif (decide (126 < v1)) then
 ref01_Name_j5 m rec3 x0 x1 true
 else
 ((idxS x0 x1).bind fun v2 =>
 ref01_Name_j5 m rec3 x0 x1 (v2 == 46))))))
noncomputable def ref01_Name_j7 (m : Nat) : Option Bool :=
  some true
noncomputable def ref01_Name_l3 (m : Nat) : Nat → ByteArray → Int → Option Bool
  | 0, _, _ => none
  | M3 + 1, x0, x1 =>
    (bif (decide (x1 < (ByteArray.size x0 : Int))) then
    ref01_Name_j4 m (ref01_Name_l3 m M3) x0 x1
  else
    ref01_Name_j7 m)
noncomputable def ref01_Name_j2 (m : Nat) (x0 : ByteArray) (x1 : Int) : Option Bool :=
  ref01_Name_l3 m (Nat.succ m) x0 x1
noncomputable def ref01_Name_j1 (m : Nat) (x0 : ByteArray) : Option Bool :=
  ref01_Name_j2 m x0 0
noncomputable def ref01_Name_j0 (m : Nat) (x0 : ByteArray) (x1 : Bool) : Option Bool :=
  (bif x1 then
    some false
  else
    ref01_Name_j1 m x0)
noncomputable def ref01_Name : Nat → ByteArray → Option Bool
  | 0, _ => none
  | m + 1, a0 =>
    (bif (decide ((ByteArray.size a0 : Int) < 1)) then
    ref01_Name_j0 m a0 true
  else
    (bif (decide (32 < (ByteArray.size a0 : Int))) then
 ref01_Name_j0 m a0 true
    else
 ((idxS a0 0).bind fun v3 =>
 ref01_Name_j0 m a0 (v3 == 36))))
noncomputable def ref01_wide_j6 (m : Nat) (rec3 : ByteArray → Int → Option Bool) (x0 : ByteArray) (x1 : Int) : Option Bool :=
  rec3 x0 (IntKind.wrap .i64 (x1 + 1))
noncomputable def ref01_wide_j5 (m : Nat) (rec3 : ByteArray → Int → Option Bool) (x0 : ByteArray) (x1 : Int) (x2 : Bool) : Option Bool :=
  (bif x2 then
    some false
  else
    ref01_wide_j6 m rec3 x0 x1)
noncomputable def ref01_wide_j4 (m : Nat) (rec3 : ByteArray → Int → Option Bool) (x0 : ByteArray) (x1 : Int) : Option Bool :=
  ((idxS x0 x1).bind fun v0 =>
    (bif (decide (v0 < 32)) then
 ref01_wide_j5 m rec3 x0 x1 true
    else
 ((idxS x0 x1).bind fun v1 =>
 ref01_wide_j5 m rec3 x0 x1 (decide (126 < v1)))))
noncomputable def ref01_wide_j7 (m : Nat) : Option Bool :=
  some true
noncomputable def ref01_wide_l3 (m : Nat) : Nat → ByteArray → Int → Option Bool
  | 0, _, _ => none
  | M3 + 1, x0, x1 =>
    (bif (decide (x1 < (ByteArray.size x0 : Int))) then
    ref01_wide_j4 m (ref01_wide_l3 m M3) x0 x1
  else
    ref01_wide_j7 m)
noncomputable def ref01_wide_j2 (m : Nat) (x0 : ByteArray) (x1 : Int) : Option Bool :=
  ref01_wide_l3 m (Nat.succ m) x0 x1
noncomputable def ref01_wide_j1 (m : Nat) (x0 : ByteArray) : Option Bool :=
  ref01_wide_j2 m x0 0
noncomputable def ref01_wide_j0 (m : Nat) (x0 : ByteArray) (x1 : Bool) : Option Bool :=
  (bif x1 then
    some false
  else
    ref01_wide_j1 m x0)
noncomputable def ref01_wide : Nat → ByteArray → Option Bool
  | 0, _ => none
  | m + 1, a0 =>
    (bif (decide ((ByteArray.size a0 : Int) < 1)) then
    ref01_wide_j0 m a0 true
  else
    ref01_wide_j0 m a0 (decide (128 < (ByteArray.size a0 : Int))))
noncomputable def ref01_formed_j10 (m : Nat) (self49 : Dt → Bool → Option Bool) (self53 : Dt → Bool → Option Bool) (rec8 : Bool → Int → Dt → Option Bool) (x0 : Bool) (x1 : Int) (x2 : Dt) : Option Bool :=
  rec8 x0 (IntKind.wrap .i64 (x1 + 1)) x2
noncomputable def ref01_formed_j9 (m : Nat) (self49 : Dt → Bool → Option Bool) (self53 : Dt → Bool → Option Bool) (rec8 : Bool → Int → Dt → Option Bool) (x0 : Bool) (x1 : Int) (x2 : Dt) : Option Bool :=
  ((idx (Dt.L x2 3) x1).bind fun v1 =>
    ((self49 v1 x0).bind fun r2 =>
 (bif (Bool.not r2) then
 some false
 else
 ref01_formed_j10 m self49 self53 rec8 x0 x1 x2)))
noncomputable def ref01_formed_j11 (m : Nat) (self49 : Dt → Bool → Option Bool) (self53 : Dt → Bool → Option Bool) (x0 : Bool) (x1 : Dt) : Option Bool :=
  ((self53 x1 x0).bind fun r3 =>
    some r3)
noncomputable def ref01_formed_l8 (m : Nat) (self49 : Dt → Bool → Option Bool) (self53 : Dt → Bool → Option Bool) : Nat → Bool → Int → Dt → Option Bool
  | 0, _, _, _ => none
  | M8 + 1, x0, x1, x2 =>
    (bif (decide (x1 < (List.length (Dt.L x2 3) : Int))) then
    ref01_formed_j9 m self49 self53 (ref01_formed_l8 m self49 self53 M8) x0 x1 x2
  else
    ref01_formed_j11 m self49 self53 x0 x2)
noncomputable def ref01_formed_j7 (m : Nat) (self49 : Dt → Bool → Option Bool) (self53 : Dt → Bool → Option Bool) (x0 : Bool) (x1 : Int) (x2 : Dt) : Option Bool :=
  ref01_formed_l8 m self49 self53 (Nat.succ m) x0 x1 x2
noncomputable def ref01_formed_j6 (m : Nat) (self49 : Dt → Bool → Option Bool) (self53 : Dt → Bool → Option Bool) (x0 : Bool) (x1 : Dt) : Option Bool :=
  ref01_formed_j7 m self49 self53 x0 0 x1
noncomputable def ref01_formed_j5 (m : Nat) (self49 : Dt → Bool → Option Bool) (self53 : Dt → Bool → Option Bool) (x0 : Bool) (x1 : Dt) : Option Bool :=
  (bif ((Dt.I x1 0) == 9) then
    (bif ((Dt.I x1 1) == 0) then
 some true
    else
 some ((Dt.I x1 1) == 1))
  else
    (bif ((Dt.I x1 0) == 10) then
 some (decide (0 ≤ (Dt.I x1 1)))
    else
 (bif ((Dt.I x1 0) == 4) then
 (bif (decide ((ByteArray.size (Dt.S x1 2) : Int) ≤ 4096)) then
 ((ref01_UTF8 m (Dt.S x1 2)).bind fun r0 =>
 some r0)
 else
 some false)
 else
 (bif ((Dt.I x1 0) == 7) then
 some (decide ((ByteArray.size (Dt.S x1 2) : Int) ≤ 4096))
 else
 (bif ((Dt.I x1 0) == 8) then
 some ((ByteArray.size (Dt.S x1 2) : Int) == 12)
 else
 ref01_formed_j6 m self49 self53 x0 x1)))))
noncomputable def ref01_formed_j4 (m : Nat) (self49 : Dt → Bool → Option Bool) (self53 : Dt → Bool → Option Bool) (x0 x1 : Bool) (x2 : Dt) : Option Bool :=
  (bif x1 then
    some false
  else
    ref01_formed_j5 m self49 self53 x0 x2)
noncomputable def ref01_formed_j3 (m : Nat) (self49 : Dt → Bool → Option Bool) (self53 : Dt → Bool → Option Bool) (x0 x1 x2 : Bool) (x3 : Dt) : Option Bool :=
  (bif (Bool.not x1) then
    (bif (Bool.not ((ByteArray.toList (Dt.S x3 2)) == [])) then
 ref01_formed_j4 m self49 self53 x0 true x3
    else
 (bif (Bool.not x2) then
 (bif ((Dt.I x3 1) != 0) then
 ref01_formed_j4 m self49 self53 x0 true x3
 else
 (bif (decide ((Dt.I x3 0) < 1)) then
 ref01_formed_j4 m self49 self53 x0 true x3
 else
 ref01_formed_j4 m self49 self53 x0 (decide (11 < (Dt.I x3 0))) x3))
 else
 (bif (decide ((Dt.I x3 0) < 1)) then
 ref01_formed_j4 m self49 self53 x0 true x3
 else
 ref01_formed_j4 m self49 self53 x0 (decide (11 < (Dt.I x3 0))) x3)))
  else
    (bif (Bool.not x2) then
 (bif ((Dt.I x3 1) != 0) then
 ref01_formed_j4 m self49 self53 x0 true x3
 else
 (bif (decide ((Dt.I x3 0) < 1)) then
 ref01_formed_j4 m self49 self53 x0 true x3
 else
 ref01_formed_j4 m self49 self53 x0 (decide (11 < (Dt.I x3 0))) x3))
    else
 (bif (decide ((Dt.I x3 0) < 1)) then
 ref01_formed_j4 m self49 self53 x0 true x3
 else
 ref01_formed_j4 m self49 self53 x0 (decide (11 < (Dt.I x3 0))) x3)))
noncomputable def ref01_formed_j2 (m : Nat) (self49 : Dt → Bool → Option Bool) (self53 : Dt → Bool → Option Bool) (x0 x1 : Bool) (x2 : Dt) : Option Bool :=
  (bif ((Dt.I x2 0) == 3) then
    ref01_formed_j3 m self49 self53 x0 x1 true x2
  else
    (bif ((Dt.I x2 0) == 9) then
 ref01_formed_j3 m self49 self53 x0 x1 true x2
    else
 ref01_formed_j3 m self49 self53 x0 x1 ((Dt.I x2 0) == 10) x2))
noncomputable def ref01_formed_j1 (m : Nat) (self49 : Dt → Bool → Option Bool) (self53 : Dt → Bool → Option Bool) (x0 : Bool) (x1 : Dt) : Option Bool :=
  (bif ((Dt.I x1 0) == 4) then
    ref01_formed_j2 m self49 self53 x0 true x1
  else
    (bif ((Dt.I x1 0) == 7) then
 ref01_formed_j2 m self49 self53 x0 true x1
    else
 ref01_formed_j2 m self49 self53 x0 ((Dt.I x1 0) == 8) x1))
noncomputable def ref01_formed_j0 (m : Nat) (self49 : Dt → Bool → Option Bool) (self53 : Dt → Bool → Option Bool) (x0 x1 : Bool) (x2 : Dt) : Option Bool :=
  (bif x1 then
    some false
  else
    ref01_formed_j1 m self49 self53 x0 x2)
noncomputable def ref01_fields_j8 (m : Nat) (self49 : Dt → Bool → Option Bool) (rec1 : Bool → Int → Dt → Option Bool) (rec6 : Bool → Int → Int → Dt → Dt → Option Bool) (x0 : Bool) (x1 x2 : Int) (x3 x4 : Dt) : Option Bool :=
  rec6 x0 x1 (IntKind.wrap .i64 (x2 + 1)) x3 x4
noncomputable def ref01_fields_j7 (m : Nat) (self49 : Dt → Bool → Option Bool) (rec1 : Bool → Int → Dt → Option Bool) (rec6 : Bool → Int → Int → Dt → Dt → Option Bool) (x0 : Bool) (x1 x2 : Int) (x3 x4 : Dt) : Option Bool :=
  ((idx (Dt.L x3 4) x2).bind fun v2 =>
    (bif ((ByteArray.toList (Dt.S v2 0)) == (ByteArray.toList (Dt.S x4 0))) then
 some false
    else
 ref01_fields_j8 m self49 rec1 rec6 x0 x1 x2 x3 x4))
noncomputable def ref01_fields_j9 (m : Nat) (self49 : Dt → Bool → Option Bool) (rec1 : Bool → Int → Dt → Option Bool) (x0 : Bool) (x1 : Int) (x2 : Dt) : Option Bool :=
  rec1 x0 (IntKind.wrap .i64 (x1 + 1)) x2
noncomputable def ref01_fields_l6 (m : Nat) (self49 : Dt → Bool → Option Bool) (rec1 : Bool → Int → Dt → Option Bool) : Nat → Bool → Int → Int → Dt → Dt → Option Bool
  | 0, _, _, _, _, _ => none
  | M6 + 1, x0, x1, x2, x3, x4 =>
    (bif (decide (x2 < x1)) then
    ref01_fields_j7 m self49 rec1 (ref01_fields_l6 m self49 rec1 M6) x0 x1 x2 x3 x4
  else
    ref01_fields_j9 m self49 rec1 x0 x1 x3)
noncomputable def ref01_fields_j5 (m : Nat) (self49 : Dt → Bool → Option Bool) (rec1 : Bool → Int → Dt → Option Bool) (x0 : Bool) (x1 x2 : Int) (x3 x4 : Dt) : Option Bool :=
  ref01_fields_l6 m self49 rec1 (Nat.succ m) x0 x1 x2 x3 x4
noncomputable def ref01_fields_j4 (m : Nat) (self49 : Dt → Bool → Option Bool) (rec1 : Bool → Int → Dt → Option Bool) (x0 : Bool) (x1 : Int) (x2 x3 : Dt) : Option Bool :=
  ref01_fields_j5 m self49 rec1 x0 x1 0 x2 x3
noncomputable def ref01_fields_j3 (m : Nat) (self49 : Dt → Bool → Option Bool) (rec1 : Bool → Int → Dt → Option Bool) (x0 : Bool) (x1 : Int) (x2 : Bool) (x3 x4 : Dt) : Option Bool :=
  (bif x2 then
    some false
  else
    ref01_fields_j4 m self49 rec1 x0 x1 x3 x4)
noncomputable def ref01_fields_j2 (m : Nat) (self49 : Dt → Bool → Option Bool) (rec1 : Bool → Int → Dt → Option Bool) (x0 : Bool) (x1 : Int) (x2 : Dt) : Option Bool :=
  ((idx (Dt.L x2 4) x1).bind fun v0 =>
    (bif x0 then
 ((ref01_Name m (Dt.S v0 0)).bind fun r1 =>
 (bif (Bool.not r1) then
 ref01_fields_j3 m self49 rec1 x0 x1 true x2 v0
 else
 (bif (Bool.not x0) then
 ((ref01_wide m (Dt.S v0 0)).bind fun r3 =>
 (bif (Bool.not r3) then
 ref01_fields_j3 m self49 rec1 x0 x1 true x2 v0
 else
 ((self49 (Dt.fld v0 1) x0).bind fun r4 =>
 ref01_fields_j3 m self49 rec1 x0 x1 (Bool.not r4) x2 v0)))
 else
 ((self49 (Dt.fld v0 1) x0).bind fun r5 =>
 ref01_fields_j3 m self49 rec1 x0 x1 (Bool.not r5) x2 v0))))
    else
 (bif (Bool.not x0) then
 ((ref01_wide m (Dt.S v0 0)).bind fun r6 =>
 (bif (Bool.not r6) then
 ref01_fields_j3 m self49 rec1 x0 x1 true x2 v0
 else
 ((self49 (Dt.fld v0 1) x0).bind fun r7 =>
 ref01_fields_j3 m self49 rec1 x0 x1 (Bool.not r7) x2 v0)))
 else
 ((self49 (Dt.fld v0 1) x0).bind fun r8 =>
 ref01_fields_j3 m self49 rec1 x0 x1 (Bool.not r8) x2 v0))))
noncomputable def ref01_fields_j10 (m : Nat) (self49 : Dt → Bool → Option Bool) : Option Bool :=
  some true
noncomputable def ref01_fields_l1 (m : Nat) (self49 : Dt → Bool → Option Bool) : Nat → Bool → Int → Dt → Option Bool
  | 0, _, _, _ => none
  | M1 + 1, x0, x1, x2 =>
    (bif (decide (x1 < (List.length (Dt.L x2 4) : Int))) then
    ref01_fields_j2 m self49 (ref01_fields_l1 m self49 M1) x0 x1 x2
  else
    ref01_fields_j10 m self49)
noncomputable def ref01_fields_j0 (m : Nat) (self49 : Dt → Bool → Option Bool) (x0 : Bool) (x1 : Int) (x2 : Dt) : Option Bool :=
  ref01_fields_l1 m self49 (Nat.succ m) x0 x1 x2
mutual
noncomputable def ref01_formed : Nat → Dt → Bool → Option Bool
  | 0, _, _ => none
  | m + 1, a0, a1 =>
    (bif ((Dt.I a0 0) != 6) then
    (bif (decide (0 < (List.length (Dt.L a0 3) : Int))) then
 ref01_formed_j0 m (ref01_formed m) (ref01_fields m) a1 true a0
    else
 (bif ((Dt.I a0 0) != 5) then
 ref01_formed_j0 m (ref01_formed m) (ref01_fields m) a1 (decide (0 < (List.length (Dt.L a0 4) : Int))) a0
 else
 ref01_formed_j0 m (ref01_formed m) (ref01_fields m) a1 false a0))
  else
    (bif ((Dt.I a0 0) != 5) then
 ref01_formed_j0 m (ref01_formed m) (ref01_fields m) a1 (decide (0 < (List.length (Dt.L a0 4) : Int))) a0
    else
 ref01_formed_j0 m (ref01_formed m) (ref01_fields m) a1 false a0))
noncomputable def ref01_fields : Nat → Dt → Bool → Option Bool
  | 0, _, _ => none
  | m + 1, a0, a1 =>
    ref01_fields_j0 m (ref01_formed m) a1 0 a0
end
noncomputable def ref01_Valid : Nat → Dt → Option Bool
  | 0, _ => none
  | m + 1, a0 =>
    ((ref01_Depth m a0).bind fun r0 =>
    (bif (decide (r0 ≤ 16)) then
 ((ref01_Nodes m a0).bind fun r1 =>
 (bif (decide (r1 ≤ 1024)) then
 ((ref01_formed m a0 true).bind fun r2 =>
 some r2)
 else
 some false))
    else
 some false))
noncomputable def ref05_formed_j5 (m : Nat) (self26 : Dt → Option Bool) (rec3 : Int → Dt → Option Bool) (x0 : Int) (x1 : Dt) : Option Bool :=
  rec3 (IntKind.wrap .i64 (x0 + 1)) x1
noncomputable def ref05_formed_j4 (m : Nat) (self26 : Dt → Option Bool) (rec3 : Int → Dt → Option Bool) (x0 : Int) (x1 : Dt) : Option Bool :=
  ((idx (Dt.L x1 3) x0).bind fun v0 =>
    ((self26 v0).bind fun r1 =>
 (bif (Bool.not r1) then
 some false
 else
 ref05_formed_j5 m self26 rec3 x0 x1)))
noncomputable def ref05_formed_j15 (m : Nat) (self26 : Dt → Option Bool) (rec8 : Int → Dt → Option Bool) (rec13 : Int → Int → Dt → Option Bool) (x0 x1 : Int) (x2 : Dt) : Option Bool :=
  rec13 x0 (IntKind.wrap .i64 (x1 + 1)) x2
noncomputable def ref05_formed_j14 (m : Nat) (self26 : Dt → Option Bool) (rec8 : Int → Dt → Option Bool) (rec13 : Int → Int → Dt → Option Bool) (x0 x1 : Int) (x2 : Dt) : Option Bool :=
  ((idx (Dt.L x2 4) x1).bind fun v4 =>
    ((idx (Dt.L x2 4) x0).bind fun v5 =>
 (bif ((ByteArray.toList (Dt.S v4 0)) == (ByteArray.toList (Dt.S v5 0))) then
 some false
 else
 ref05_formed_j15 m self26 rec8 rec13 x0 x1 x2)))
noncomputable def ref05_formed_j16 (m : Nat) (self26 : Dt → Option Bool) (rec8 : Int → Dt → Option Bool) (x0 : Int) (x1 : Dt) : Option Bool :=
  rec8 (IntKind.wrap .i64 (x0 + 1)) x1
noncomputable def ref05_formed_l13 (m : Nat) (self26 : Dt → Option Bool) (rec8 : Int → Dt → Option Bool) : Nat → Int → Int → Dt → Option Bool
  | 0, _, _, _ => none
  | M13 + 1, x0, x1, x2 =>
    (bif (decide (x1 < x0)) then
    ref05_formed_j14 m self26 rec8 (ref05_formed_l13 m self26 rec8 M13) x0 x1 x2
  else
    ref05_formed_j16 m self26 rec8 x0 x2)
noncomputable def ref05_formed_j12 (m : Nat) (self26 : Dt → Option Bool) (rec8 : Int → Dt → Option Bool) (x0 x1 : Int) (x2 : Dt) : Option Bool :=
  ref05_formed_l13 m self26 rec8 (Nat.succ m) x0 x1 x2
noncomputable def ref05_formed_j11 (m : Nat) (self26 : Dt → Option Bool) (rec8 : Int → Dt → Option Bool) (x0 : Int) (x1 : Dt) : Option Bool :=
  ref05_formed_j12 m self26 rec8 x0 0 x1
noncomputable def ref05_formed_j10 (m : Nat) (self26 : Dt → Option Bool) (rec8 : Int → Dt → Option Bool) (x0 : Int) (x1 : Bool) (x2 : Dt) : Option Bool :=
  (bif x1 then
    some false
  else
    ref05_formed_j11 m self26 rec8 x0 x2)
noncomputable def ref05_formed_j9 (m : Nat) (self26 : Dt → Option Bool) (rec8 : Int → Dt → Option Bool) (x0 : Int) (x1 : Dt) : Option Bool :=
  ((idx (Dt.L x1 4) x0).bind fun v2 =>
    ((ref05_Label m (Dt.S v2 0)).bind fun r3 =>
 (bif (Bool.not r3) then
 ref05_formed_j10 m self26 rec8 x0 true x1
 else
 ((idx (Dt.L x1 4) x0).bind fun v6 =>
 ((self26 (Dt.fld v6 1)).bind fun r7 =>
 ref05_formed_j10 m self26 rec8 x0 (Bool.not r7) x1)))))
noncomputable def ref05_formed_j17 (m : Nat) (self26 : Dt → Option Bool) : Option Bool :=
  some true
noncomputable def ref05_formed_l8 (m : Nat) (self26 : Dt → Option Bool) : Nat → Int → Dt → Option Bool
  | 0, _, _ => none
  | M8 + 1, x0, x1 =>
    (bif (decide (x0 < (List.length (Dt.L x1 4) : Int))) then
    ref05_formed_j9 m self26 (ref05_formed_l8 m self26 M8) x0 x1
  else
    ref05_formed_j17 m self26)
noncomputable def ref05_formed_j7 (m : Nat) (self26 : Dt → Option Bool) (x0 : Int) (x1 : Dt) : Option Bool :=
  ref05_formed_l8 m self26 (Nat.succ m) x0 x1
noncomputable def ref05_formed_j6 (m : Nat) (self26 : Dt → Option Bool) (x0 : Dt) : Option Bool :=
  ref05_formed_j7 m self26 0 x0
noncomputable def ref05_formed_l3 (m : Nat) (self26 : Dt → Option Bool) : Nat → Int → Dt → Option Bool
  | 0, _, _ => none
  | M3 + 1, x0, x1 =>
    (bif (decide (x0 < (List.length (Dt.L x1 3) : Int))) then
    ref05_formed_j4 m self26 (ref05_formed_l3 m self26 M3) x0 x1
  else
    ref05_formed_j6 m self26 x1)
noncomputable def ref05_formed_j2 (m : Nat) (self26 : Dt → Option Bool) (x0 : Int) (x1 : Dt) : Option Bool :=
  ref05_formed_l3 m self26 (Nat.succ m) x0 x1
noncomputable def ref05_formed_j1 (m : Nat) (self26 : Dt → Option Bool) (x0 : Dt) : Option Bool :=
  ref05_formed_j2 m self26 0 x0
noncomputable def ref05_formed_j0 (m : Nat) (self26 : Dt → Option Bool) (x0 : Bool) (x1 : Dt) : Option Bool :=
  (bif x0 then
    some false
  else
    ref05_formed_j1 m self26 x1)
noncomputable def ref05_formed : Nat → Dt → Option Bool
  | 0, _ => none
  | m + 1, a0 =>
    (bif ((Dt.I a0 0) != 6) then
    (bif (decide (0 < (List.length (Dt.L a0 3) : Int))) then
 ref05_formed_j0 m (ref05_formed m) true a0
    else
 (bif ((Dt.I a0 0) != 5) then
 (bif (decide (0 < (List.length (Dt.L a0 4) : Int))) then
 ref05_formed_j0 m (ref05_formed m) true a0
 else
 ((ref01_Valid m (Dt.agg [(Dt.int (Dt.I a0 0)), (Dt.int (Dt.I a0 1)), (Dt.str (Dt.S a0 2)), (Dt.lst []), (Dt.lst [])])).bind fun r8 =>
 ref05_formed_j0 m (ref05_formed m) (Bool.not r8) a0))
 else
 ((ref01_Valid m (Dt.agg [(Dt.int (Dt.I a0 0)), (Dt.int (Dt.I a0 1)), (Dt.str (Dt.S a0 2)), (Dt.lst []), (Dt.lst [])])).bind fun r9 =>
 ref05_formed_j0 m (ref05_formed m) (Bool.not r9) a0)))
  else
    (bif ((Dt.I a0 0) != 5) then
 (bif (decide (0 < (List.length (Dt.L a0 4) : Int))) then
 ref05_formed_j0 m (ref05_formed m) true a0
 else
 ((ref01_Valid m (Dt.agg [(Dt.int (Dt.I a0 0)), (Dt.int (Dt.I a0 1)), (Dt.str (Dt.S a0 2)), (Dt.lst []), (Dt.lst [])])).bind fun r10 =>
 ref05_formed_j0 m (ref05_formed m) (Bool.not r10) a0))
    else
 ((ref01_Valid m (Dt.agg [(Dt.int (Dt.I a0 0)), (Dt.int (Dt.I a0 1)), (Dt.str (Dt.S a0 2)), (Dt.lst []), (Dt.lst [])])).bind fun r11 =>
 ref05_formed_j0 m (ref05_formed m) (Bool.not r11) a0)))
noncomputable def ref05_WellFormed : Nat → Dt → Option Bool
  | 0, _ => none
  | m + 1, a0 =>
    ((ref01_Depth m a0).bind fun r0 =>
    (bif (decide (r0 ≤ 16)) then
 ((ref01_Nodes m a0).bind fun r1 =>
 (bif (decide (r1 ≤ 1024)) then
 ((ref05_formed m a0).bind fun r2 =>
 some r2)
 else
 some false))
    else
 some false))
noncomputable def ref05_Print_j1 (m : Nat) (x0 : Dt) : Option (ByteArray × Int) :=
  ((ref05_text m x0).bind fun r2 =>
    some (r2, 0))
noncomputable def ref05_Print_j0 (m : Nat) (x0 : Dt) : Option (ByteArray × Int) :=
  ((ref05_printable m x0).bind fun r1 =>
    (bif (r1 != 0) then
 some ((ByteArray.mk (List.toArray [])), r1)
    else
 ref05_Print_j1 m x0))
noncomputable def ref05_Print : Nat → Dt → Option (ByteArray × Int)
  | 0, _ => none
  | m + 1, a0 =>
    ((ref05_WellFormed m a0).bind fun r0 =>
    (bif (Bool.not r0) then
 some ((ByteArray.mk (List.toArray [])), 8)
    else
 ref05_Print_j0 m a0))
noncomputable def law05_NotationPrints_j0 (m : Nat) (x0 : Dt) : Option Bool :=
  ((notation_Print m x0).bind fun r2 =>
    ((ref05_Print m x0).bind fun r3 =>
 (bif ((ByteArray.toList r2.1) == (ByteArray.toList r3.1)) then
 (bif (r2.2 == r3.2) then
 ((awakeC).bind fun r4 =>
 some r4)
 else
 some false)
 else
 some false)))
noncomputable def law05_NotationPrints : Nat → Dt → Option Bool
  | 0, _ => none
  | m + 1, a0 =>
    ((ref02_Few m a0 3000).bind fun r0 =>
    (bif (Bool.not r0) then
 ((awakeC).bind fun r1 =>
 some r1)
    else
 law05_NotationPrints_j0 m a0))
end Go.Proofs.YtmejbpmceflcjaaGreatDoor
