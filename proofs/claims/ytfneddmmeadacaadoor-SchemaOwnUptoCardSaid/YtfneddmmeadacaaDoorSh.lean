/- Generated: what the Go functions compute, over plain data. -/
import Derived.Test.YtfneddmmeadacaaDoorAm20
import Derived.Test.YtfneddmmeadacaaDoorOAwake
import Derived.Test.YtfneddmmeadacaaDoorOLib
import Derived.Test.YtfneddmmeadacaaDoorOGrow
import Derived.Test.YtfneddmmeadacaaDoorOCloneT
set_option linter.unusedVariables false
set_option linter.unusedSimpArgs false
namespace Go.Proofs.YtfneddmmeadacaaDoor
open Go.Am
def kza2373 : Dt := Dt.agg [(Dt.int 0), (Dt.int 0), (Dt.str (ByteArray.mk (List.toArray []))), (Dt.lst []), (Dt.lst [])]
noncomputable def ref14_Count_j3 (m : Nat) (self5 : Dt → Int → Option Int) (rec1 : Int → Int → Int → Dt → Option Int) (x0 x1 x2 : Int) (x3 : Dt) : Option Int :=
  rec1 x0 x1 (IntKind.wrap .i64 (x2 + 1)) x3
noncomputable def ref14_Count_j2 (m : Nat) (self5 : Dt → Int → Option Int) (rec1 : Int → Int → Int → Dt → Option Int) (x0 x1 x2 : Int) (x3 : Dt) : Option Int :=
  ((idx (Dt.L x3 9) x2).bind fun v0 =>
    ((self5 (Dt.fld v0 1) (IntKind.wrap .i64 (x0 - x1))).bind fun r1 =>
 ref14_Count_j3 m self5 rec1 x0 (IntKind.wrap .i64 (x1 + r1)) x2 x3))
noncomputable def ref14_Count_j8 (m : Nat) (self5 : Dt → Int → Option Int) (rec6 : Int → Int → Int → Dt → Option Int) (x0 x1 x2 : Int) (x3 : Dt) : Option Int :=
  rec6 x0 x1 (IntKind.wrap .i64 (x2 + 1)) x3
noncomputable def ref14_Count_j7 (m : Nat) (self5 : Dt → Int → Option Int) (rec6 : Int → Int → Int → Dt → Option Int) (x0 x1 x2 : Int) (x3 : Dt) : Option Int :=
  ((idx (Dt.L x3 11) x2).bind fun v2 =>
    ((self5 v2 (IntKind.wrap .i64 (x0 - x1))).bind fun r3 =>
 ref14_Count_j8 m self5 rec6 x0 (IntKind.wrap .i64 (x1 + r3)) x2 x3))
noncomputable def ref14_Count_j9 (m : Nat) (self5 : Dt → Int → Option Int) (x0 : Int) : Option Int :=
  some x0
noncomputable def ref14_Count_l6 (m : Nat) (self5 : Dt → Int → Option Int) : Nat → Int → Int → Int → Dt → Option Int
  | 0, _, _, _, _ => none
  | M6 + 1, x0, x1, x2, x3 =>
    (bif (decide (x2 < (List.length (Dt.L x3 11) : Int))) then
    (bif (decide (x1 < x0)) then
 ref14_Count_j7 m self5 (ref14_Count_l6 m self5 M6) x0 x1 x2 x3
    else
 ref14_Count_j9 m self5 x1)
  else
    ref14_Count_j9 m self5 x1)
noncomputable def ref14_Count_j5 (m : Nat) (self5 : Dt → Int → Option Int) (x0 x1 x2 : Int) (x3 : Dt) : Option Int :=
  ref14_Count_l6 m self5 (Nat.succ m) x0 x1 x2 x3
noncomputable def ref14_Count_j4 (m : Nat) (self5 : Dt → Int → Option Int) (x0 x1 : Int) (x2 : Dt) : Option Int :=
  ref14_Count_j5 m self5 x0 x1 0 x2
noncomputable def ref14_Count_l1 (m : Nat) (self5 : Dt → Int → Option Int) : Nat → Int → Int → Int → Dt → Option Int
  | 0, _, _, _, _ => none
  | M1 + 1, x0, x1, x2, x3 =>
    (bif (decide (x2 < (List.length (Dt.L x3 9) : Int))) then
    (bif (decide (x1 < x0)) then
 ref14_Count_j2 m self5 (ref14_Count_l1 m self5 M1) x0 x1 x2 x3
    else
 ref14_Count_j4 m self5 x0 x1 x3)
  else
    ref14_Count_j4 m self5 x0 x1 x3)
noncomputable def ref14_Count_j0 (m : Nat) (self5 : Dt → Int → Option Int) (x0 x1 x2 : Int) (x3 : Dt) : Option Int :=
  ref14_Count_l1 m self5 (Nat.succ m) x0 x1 x2 x3
noncomputable def ref14_Count : Nat → Dt → Int → Option Int
  | 0, _, _ => none
  | m + 1, a0, a1 =>
    ref14_Count_j0 m (ref14_Count m) a1 1 0 a0
noncomputable def schema_hasKind : Nat → Int → Int → Option Bool
  | 0, _, _ => none
  | m + 1, a0, a1 =>
    (bif (a0 == 0) then
    some true
  else
    (bif (decide (0 ≤ a1)) then
 (bif (decide (a1 ≤ 11)) then
 (bif (decide (0 ≤ a1)) then
 some ((andI IntKind.i64 (shrI IntKind.i64 a0 a1) 1) == 1)
 else
 none)
 else
 some false)
    else
 some false))
noncomputable def slices_Concat_j3 (m : Nat) (rec1 : List Dt → Int → List Dt → Int → Int → Option (List Dt)) (x0 : List Dt) (x1 : Int) (x2 : List Dt) (x3 x4 : Int) : Option (List Dt) :=
  rec1 x0 x1 x2 x3 (IntKind.wrap .i64 (x4 + 1))
noncomputable def slices_Concat_j2 (m : Nat) (rec1 : List Dt → Int → List Dt → Int → Int → Option (List Dt)) (x0 : List Dt) (x1 : Int) (x2 : List Dt) (x3 x4 : Int) : Option (List Dt) :=
  ((idx x2 x4).bind fun v0 =>
    (bif (decide ((IntKind.wrap .i64 (x1 + (List.length (Dt.toLst v0) : Int))) < 0)) then
 none
    else
 slices_Concat_j3 m rec1 x0 (IntKind.wrap .i64 (x1 + (List.length (Dt.toLst v0) : Int))) x2 x3 x4))
noncomputable def slices_Concat_j8 (m : Nat) (rec6 : List Dt → Int → Int → List Dt → Option (List Dt)) (x0 : List Dt) (x1 x2 : Int) (x3 : List Dt) : Option (List Dt) :=
  rec6 x0 x1 (IntKind.wrap .i64 (x2 + 1)) x3
noncomputable def slices_Concat_j7 (m : Nat) (rec6 : List Dt → Int → Int → List Dt → Option (List Dt)) (x0 : List Dt) (x1 x2 : Int) (x3 : List Dt) : Option (List Dt) :=
  ((idx x0 x2).bind fun v2 =>
    ((app x3 (Dt.toLst v2)).bind fun v3 =>
 slices_Concat_j8 m rec6 x0 x1 x2 v3))
noncomputable def slices_Concat_j9 (m : Nat) (x0 : List Dt) : Option (List Dt) :=
  some x0
noncomputable def slices_Concat_l6 (m : Nat) : Nat → List Dt → Int → Int → List Dt → Option (List Dt)
  | 0, _, _, _, _ => none
  | M6 + 1, x0, x1, x2, x3 =>
    (bif (decide (x2 < x1)) then
    slices_Concat_j7 m (slices_Concat_l6 m M6) x0 x1 x2 x3
  else
    slices_Concat_j9 m x3)
noncomputable def slices_Concat_j5 (m : Nat) (x0 : List Dt) (x1 x2 : Int) (x3 : List Dt) : Option (List Dt) :=
  slices_Concat_l6 m (Nat.succ m) x0 x1 x2 x3
noncomputable def slices_Concat_j4 (m : Nat) (x0 : List Dt) (x1 : Int) : Option (List Dt) :=
  ((slices_Grow x1).bind fun r1 =>
    slices_Concat_j5 m x0 (List.length x0 : Int) 0 r1)
noncomputable def slices_Concat_l1 (m : Nat) : Nat → List Dt → Int → List Dt → Int → Int → Option (List Dt)
  | 0, _, _, _, _, _ => none
  | M1 + 1, x0, x1, x2, x3, x4 =>
    (bif (decide (x4 < x3)) then
    slices_Concat_j2 m (slices_Concat_l1 m M1) x0 x1 x2 x3 x4
  else
    slices_Concat_j4 m x0 x1)
noncomputable def slices_Concat_j0 (m : Nat) (x0 : List Dt) (x1 : Int) (x2 : List Dt) (x3 x4 : Int) : Option (List Dt) :=
  slices_Concat_l1 m (Nat.succ m) x0 x1 x2 x3 x4
noncomputable def slices_Concat : Nat → List Dt → Option (List Dt)
  | 0, _ => none
  | m + 1, a0 =>
    slices_Concat_j0 m a0 0 a0 (List.length a0 : Int) 0
noncomputable def i9 : Nat → Bool → Int → List Dt → List Dt → List Dt → Option (List Dt × List Dt × List Dt)
  | 0, _, _, _, _, _ => none
  | m + 1, a0, a1, a2, a3, a4 =>
    (bif a0 then
    ((slices_Concat m [(Dt.lst a4), (Dt.lst a2)]).bind fun r0 =>
 ((app a3 [(Dt.agg [(Dt.lst r0), (Dt.int a1)])]).bind fun v1 =>
 some (a4, a4, v1)))
  else
    some (a4, a4, a3))
noncomputable def i15 : Nat → Bool → Int → List Dt → List Dt → List Dt → Option (List Dt × List Dt)
  | 0, _, _, _, _, _ => none
  | m + 1, a0, a1, a2, a3, a4 =>
    (bif a0 then
    ((slices_Concat m [(Dt.lst a4), (Dt.lst a2)]).bind fun r0 =>
 ((app a3 [(Dt.agg [(Dt.lst r0), (Dt.int a1)])]).bind fun v1 =>
 some (a4, v1)))
  else
    some (a4, a3))
noncomputable def schema_length_j1 (m : Nat) : Option (Int × Bool) :=
  some (0, false)
noncomputable def schema_length_j0 (m : Nat) (x0 : Int) (x1 : Bool) (x2 : Dt) : Option (Int × Bool) :=
  (bif x1 then
    some ((ByteArray.size (Dt.S x2 2) : Int), true)
  else
    (bif (x0 == 6) then
 some ((List.length (Dt.L x2 3) : Int), true)
    else
 schema_length_j1 m))
noncomputable def schema_length : Nat → Dt → Option (Int × Bool)
  | 0, _ => none
  | m + 1, a0 =>
    (bif ((Dt.I a0 0) == 4) then
    schema_length_j0 m (Dt.I a0 0) ((Dt.I a0 0) == 4) a0
  else
    schema_length_j0 m (Dt.I a0 0) ((Dt.I a0 0) == 7) a0)
noncomputable def schema_field_j3 (m : Nat) (rec1 : ByteArray → List Dt → Int → Int → Dt → Option (Dt × Bool)) (x0 : ByteArray) (x1 : List Dt) (x2 x3 : Int) (x4 : Dt) : Option (Dt × Bool) :=
  rec1 x0 x1 x2 (IntKind.wrap .i64 (x3 + 1)) x4
noncomputable def schema_field_j2 (m : Nat) (rec1 : ByteArray → List Dt → Int → Int → Dt → Option (Dt × Bool)) (x0 : ByteArray) (x1 : List Dt) (x2 x3 : Int) (x4 : Dt) : Option (Dt × Bool) :=
  ((idx x1 x3).bind fun v0 =>
    (bif ((ByteArray.toList (Dt.S v0 0)) == (ByteArray.toList x0)) then
 some ((Dt.fld v0 1), true)
    else
 schema_field_j3 m rec1 x0 x1 x2 x3 x4))
noncomputable def schema_field_j4 (m : Nat) (x0 : Dt) : Option (Dt × Bool) :=
  some (kza2373, false)
noncomputable def schema_field_l1 (m : Nat) : Nat → ByteArray → List Dt → Int → Int → Dt → Option (Dt × Bool)
  | 0, _, _, _, _, _ => none
  | M1 + 1, x0, x1, x2, x3, x4 =>
    (bif (decide (x3 < x2)) then
    schema_field_j2 m (schema_field_l1 m M1) x0 x1 x2 x3 x4
  else
    schema_field_j4 m x4)
noncomputable def schema_field_j0 (m : Nat) (x0 : ByteArray) (x1 : List Dt) (x2 x3 : Int) (x4 : Dt) : Option (Dt × Bool) :=
  schema_field_l1 m (Nat.succ m) x0 x1 x2 x3 x4
noncomputable def schema_field : Nat → Dt → ByteArray → Option (Dt × Bool)
  | 0, _, _ => none
  | m + 1, a0, a1 =>
    schema_field_j0 m a1 (Dt.L a0 4) (List.length (Dt.L a0 4) : Int) 0 kza2373
noncomputable def i21 : Nat → Dt → Dt → Option Bool
  | 0, _, _ => none
  | m + 1, a0, a1 =>
    some ((ByteArray.toList (Dt.S a0 0)) == (ByteArray.toList (Dt.S a1 0)))
noncomputable def i20_j3 (m : Nat) (rec1 : List Dt → Dt → Int → Int → Option Int) (x0 : List Dt) (x1 : Dt) (x2 x3 : Int) : Option Int :=
  rec1 x0 x1 x2 (IntKind.wrap .i64 (x3 + 1))
noncomputable def i20_j2 (m : Nat) (rec1 : List Dt → Dt → Int → Int → Option Int) (x0 : List Dt) (x1 : Dt) (x2 x3 : Int) : Option Int :=
  ((idx x0 x3).bind fun v0 =>
    ((i21 m v0 x1).bind fun r1 =>
 (bif r1 then
 some x3
 else
 i20_j3 m rec1 x0 x1 x2 x3)))
noncomputable def i20_j4 (m : Nat) : Option Int :=
  some (-1)
noncomputable def i20_l1 (m : Nat) : Nat → List Dt → Dt → Int → Int → Option Int
  | 0, _, _, _, _ => none
  | M1 + 1, x0, x1, x2, x3 =>
    (bif (decide (x3 < x2)) then
    i20_j2 m (i20_l1 m M1) x0 x1 x2 x3
  else
    i20_j4 m)
noncomputable def i20_j0 (m : Nat) (x0 : List Dt) (x1 : Dt) (x2 x3 : Int) : Option Int :=
  i20_l1 m (Nat.succ m) x0 x1 x2 x3
noncomputable def i20 : Nat → List Dt → Dt → Option Int
  | 0, _, _ => none
  | m + 1, a0, a1 =>
    i20_j0 m a0 a1 (List.length a0 : Int) 0
noncomputable def i19 : Nat → List Dt → Dt → Option Bool
  | 0, _, _ => none
  | m + 1, a0, a1 =>
    ((i20 m a0 a1).bind fun r0 =>
    some (decide (0 ≤ r0)))
noncomputable def ref02_count_j5 (m : Nat) (self27 : Dt → Int → Int → Option Int) (rec3 : Int → Int → Int → Dt → Option Int) (x0 x1 x2 : Int) (x3 : Dt) : Option Int :=
  rec3 x0 x1 (IntKind.wrap .i64 (x2 + 1)) x3
noncomputable def ref02_count_j4 (m : Nat) (self27 : Dt → Int → Int → Option Int) (rec3 : Int → Int → Int → Dt → Option Int) (x0 x1 x2 : Int) (x3 : Dt) : Option Int :=
  ((idx (Dt.L x3 3) x2).bind fun v0 =>
    ((self27 v0 (IntKind.wrap .i64 (x0 + 1)) x1).bind fun r1 =>
 ref02_count_j5 m self27 rec3 x0 r1 x2 x3))
noncomputable def ref02_count_j11 (m : Nat) (self27 : Dt → Int → Int → Option Int) (rec8 : Int → Int → Int → Dt → Option Int) (x0 x1 x2 : Int) (x3 : Dt) : Option Int :=
  rec8 x0 x1 (IntKind.wrap .i64 (x2 + 1)) x3
noncomputable def ref02_count_j10 (m : Nat) (self27 : Dt → Int → Int → Option Int) (rec8 : Int → Int → Int → Dt → Option Int) (x0 x1 x2 : Int) (x3 : Dt) : Option Int :=
  ((idx (Dt.L x3 4) x2).bind fun v3 =>
    ((self27 (Dt.fld v3 1) (IntKind.wrap .i64 (x0 + 1)) x1).bind fun r4 =>
 ref02_count_j11 m self27 rec8 x0 r4 x2 x3))
noncomputable def ref02_count_j9 (m : Nat) (self27 : Dt → Int → Int → Option Int) (rec8 : Int → Int → Int → Dt → Option Int) (x0 x1 x2 : Int) (x3 : Dt) : Option Int :=
  ((idx (Dt.L x3 4) x2).bind fun v2 =>
    (bif (decide (200 < (ByteArray.size (Dt.S v2 0) : Int))) then
 some (-1)
    else
 ref02_count_j10 m self27 rec8 x0 x1 x2 x3))
noncomputable def ref02_count_j12 (m : Nat) (self27 : Dt → Int → Int → Option Int) (x0 : Int) : Option Int :=
  some x0
noncomputable def ref02_count_l8 (m : Nat) (self27 : Dt → Int → Int → Option Int) : Nat → Int → Int → Int → Dt → Option Int
  | 0, _, _, _, _ => none
  | M8 + 1, x0, x1, x2, x3 =>
    (bif (decide (x2 < (List.length (Dt.L x3 4) : Int))) then
    (bif (decide (0 ≤ x1)) then
 ref02_count_j9 m self27 (ref02_count_l8 m self27 M8) x0 x1 x2 x3
    else
 ref02_count_j12 m self27 x1)
  else
    ref02_count_j12 m self27 x1)
noncomputable def ref02_count_j7 (m : Nat) (self27 : Dt → Int → Int → Option Int) (x0 x1 x2 : Int) (x3 : Dt) : Option Int :=
  ref02_count_l8 m self27 (Nat.succ m) x0 x1 x2 x3
noncomputable def ref02_count_j6 (m : Nat) (self27 : Dt → Int → Int → Option Int) (x0 x1 : Int) (x2 : Dt) : Option Int :=
  ref02_count_j7 m self27 x0 x1 0 x2
noncomputable def ref02_count_l3 (m : Nat) (self27 : Dt → Int → Int → Option Int) : Nat → Int → Int → Int → Dt → Option Int
  | 0, _, _, _, _ => none
  | M3 + 1, x0, x1, x2, x3 =>
    (bif (decide (x2 < (List.length (Dt.L x3 3) : Int))) then
    (bif (decide (0 ≤ x1)) then
 ref02_count_j4 m self27 (ref02_count_l3 m self27 M3) x0 x1 x2 x3
    else
 ref02_count_j6 m self27 x0 x1 x3)
  else
    ref02_count_j6 m self27 x0 x1 x3)
noncomputable def ref02_count_j2 (m : Nat) (self27 : Dt → Int → Int → Option Int) (x0 x1 x2 : Int) (x3 : Dt) : Option Int :=
  ref02_count_l3 m self27 (Nat.succ m) x0 x1 x2 x3
noncomputable def ref02_count_j1 (m : Nat) (self27 : Dt → Int → Int → Option Int) (x0 x1 : Int) (x2 : Dt) : Option Int :=
  ref02_count_j2 m self27 x0 x1 0 x2
noncomputable def ref02_count_j0 (m : Nat) (self27 : Dt → Int → Int → Option Int) (x0 x1 : Int) (x2 : Bool) (x3 : Dt) : Option Int :=
  (bif x2 then
    some (-1)
  else
    ref02_count_j1 m self27 x0 x1 x3)
noncomputable def ref02_count : Nat → Dt → Int → Int → Option Int
  | 0, _, _, _ => none
  | m + 1, a0, a1, a2 =>
    (bif (decide (40 < a1)) then
    ref02_count_j0 m (ref02_count m) a1 (IntKind.wrap .i64 (a2 - 1)) true a0
  else
    ref02_count_j0 m (ref02_count m) a1 (IntKind.wrap .i64 (a2 - 1)) (decide (5000 < (ByteArray.size (Dt.S a0 2) : Int))) a0)
noncomputable def ref02_Few : Nat → Dt → Int → Option Bool
  | 0, _, _ => none
  | m + 1, a0, a1 =>
    ((ref02_count m a0 1 a1).bind fun r0 =>
    some (decide (0 ≤ r0)))
noncomputable def law14_few : Nat → Dt → Dt → Option Bool
  | 0, _, _ => none
  | m + 1, a0, a1 =>
    ((ref14_Count m a0 81).bind fun r0 =>
    (bif (decide (r0 ≤ 80)) then
 ((ref02_Few m a1 300).bind fun r1 =>
 some r1)
    else
 some false))
noncomputable def i37_j3 (m : Nat) (rec1 : Int → Int → Int → Int → List Dt → Option (List Dt)) (x0 x1 x2 x3 : Int) (x4 : List Dt) : Option (List Dt) :=
  rec1 x0 x1 x2 (IntKind.wrap .i64 (x3 + 1)) x4
noncomputable def i37_j2 (m : Nat) (rec1 : Int → Int → Int → Int → List Dt → Option (List Dt)) (x0 x1 x2 x3 : Int) (x4 : List Dt) : Option (List Dt) :=
  ((inL x4 (IntKind.wrap .i64 (x1 + x3))).bind fun v0 =>
    ((x4[(Int.toNat (IntKind.wrap .i64 (x1 + x3)))]?).bind fun v1 =>
 ((inL x4 (IntKind.wrap .i64 (x0 + x3))).bind fun v2 =>
 ((x4[(Int.toNat (IntKind.wrap .i64 (x0 + x3)))]?).bind fun v3 =>
 ((inL x4 (IntKind.wrap .i64 (x0 + x3))).bind fun v4 =>
 ((x4[(Int.toNat (IntKind.wrap .i64 (x0 + x3)))]?).bind fun v5 =>
 ((inL (List.set x4 (Int.toNat (IntKind.wrap .i64 (x0 + x3))) v1) (IntKind.wrap .i64 (x1 + x3))).bind fun v6 =>
 (((List.set x4 (Int.toNat (IntKind.wrap .i64 (x0 + x3))) v1)[(Int.toNat (IntKind.wrap .i64 (x1 + x3)))]?).bind fun v7 =>
 i37_j3 m rec1 x0 x1 x2 x3 (List.set (List.set x4 (Int.toNat (IntKind.wrap .i64 (x0 + x3))) v1) (Int.toNat (IntKind.wrap .i64 (x1 + x3))) v3)))))))))
noncomputable def i37_l1 (m : Nat) : Nat → Int → Int → Int → Int → List Dt → Option (List Dt)
  | 0, _, _, _, _, _ => none
  | M1 + 1, x0, x1, x2, x3, x4 =>
    (bif (decide (x3 < x2)) then
    i37_j2 m (i37_l1 m M1) x0 x1 x2 x3 x4
  else
    some x4)
noncomputable def i37_j0 (m : Nat) (x0 x1 x2 x3 : Int) (x4 : List Dt) : Option (List Dt) :=
  i37_l1 m (Nat.succ m) x0 x1 x2 x3 x4
noncomputable def i37 : Nat → Int → Int → Int → List Dt → Option (List Dt)
  | 0, _, _, _, _ => none
  | m + 1, a0, a1, a2, a3 =>
    i37_j0 m a0 a1 a2 0 a3
noncomputable def i36_j2 (m : Nat) (rec1 : Int → Int → Int → List Dt → Option (List Dt)) (x0 x1 x2 : Int) (x3 : List Dt) : Option (List Dt) :=
  (bif (decide (x2 < x1)) then
    ((i37 m (IntKind.wrap .i64 (x0 - x1)) x0 x2 x3).bind fun r0 =>
 rec1 x0 (IntKind.wrap .i64 (x1 - x2)) x2 r0)
  else
    ((i37 m (IntKind.wrap .i64 (x0 - x1)) (IntKind.wrap .i64 ((IntKind.wrap .i64 (x0 + x2)) - x1)) x1 x3).bind fun r1 =>
 rec1 x0 x1 (IntKind.wrap .i64 (x2 - x1)) r1))
noncomputable def i36_j3 (m : Nat) (x0 x1 : Int) (x2 : List Dt) : Option (List Dt) :=
  ((i37 m (IntKind.wrap .i64 (x0 - x1)) x0 x1 x2).bind fun r2 =>
    some r2)
noncomputable def i36_l1 (m : Nat) : Nat → Int → Int → Int → List Dt → Option (List Dt)
  | 0, _, _, _, _ => none
  | M1 + 1, x0, x1, x2, x3 =>
    (bif (x1 != x2) then
    i36_j2 m (i36_l1 m M1) x0 x1 x2 x3
  else
    i36_j3 m x0 x1 x3)
noncomputable def i36_j0 (m : Nat) (x0 x1 x2 : Int) (x3 : List Dt) : Option (List Dt) :=
  i36_l1 m (Nat.succ m) x0 x1 x2 x3
noncomputable def i36 : Nat → Int → Int → Int → List Dt → Option (List Dt)
  | 0, _, _, _, _ => none
  | m + 1, a0, a1, a2, a3 =>
    i36_j0 m a1 (IntKind.wrap .i64 (a1 - a0)) (IntKind.wrap .i64 (a2 - a1)) a3
noncomputable def schema_isName_j6 (m : Nat) (rec3 : ByteArray → Int → Int → Option Bool) (x0 : ByteArray) (x1 x2 : Int) : Option Bool :=
  rec3 x0 x1 (IntKind.wrap .i64 (x2 + 1))
noncomputable def schema_isName_j5 (m : Nat) (rec3 : ByteArray → Int → Int → Option Bool) (x0 : ByteArray) (x1 x2 : Int) (x3 : Bool) : Option Bool :=
  (bif x3 then
    some false
  else
    schema_isName_j6 m rec3 x0 x1 x2)
noncomputable def schema_isName_j4 (m : Nat) (rec3 : ByteArray → Int → Int → Option Bool) (x0 : ByteArray) (x1 x2 : Int) : Option Bool :=
  ((idxS x0 x2).bind fun v0 =>
    (bif (decide (v0 < 33)) then
 schema_isName_j5 m rec3 x0 x1 x2 true
    else
 ((idxS x0 x2).bind fun v1 =>
 (bif (decide (126 < v1)) then
 schema_isName_j5 m rec3 x0 x1 x2 true
 else
 ((idxS x0 x2).bind fun v2 =>
 schema_isName_j5 m rec3 x0 x1 x2 (v2 == 46))))))
noncomputable def schema_isName_j7 (m : Nat) : Option Bool :=
  some true
noncomputable def schema_isName_l3 (m : Nat) : Nat → ByteArray → Int → Int → Option Bool
  | 0, _, _, _ => none
  | M3 + 1, x0, x1, x2 =>
    (bif (decide (x2 < x1)) then
    schema_isName_j4 m (schema_isName_l3 m M3) x0 x1 x2
  else
    schema_isName_j7 m)
noncomputable def schema_isName_j2 (m : Nat) (x0 : ByteArray) (x1 x2 : Int) : Option Bool :=
  schema_isName_l3 m (Nat.succ m) x0 x1 x2
noncomputable def schema_isName_j1 (m : Nat) (x0 : ByteArray) : Option Bool :=
  schema_isName_j2 m x0 (ByteArray.size x0 : Int) 0
noncomputable def schema_isName_j0 (m : Nat) (x0 : ByteArray) (x1 : Bool) : Option Bool :=
  (bif x1 then
    some false
  else
    schema_isName_j1 m x0)
noncomputable def schema_isName : Nat → ByteArray → Option Bool
  | 0, _ => none
  | m + 1, a0 =>
    (bif (decide ((ByteArray.size a0 : Int) < 1)) then
    schema_isName_j0 m a0 true
  else
    (bif (decide (32 < (ByteArray.size a0 : Int))) then
 schema_isName_j0 m a0 true
    else
 ((idxS a0 0).bind fun v3 =>
 schema_isName_j0 m a0 (v3 == 36))))
noncomputable def cmp_isNaN : Nat → Int → Option Bool
  | 0, _ => none
  | m + 1, a0 =>
    some (a0 != a0)
noncomputable def cmp_Compare_j0 (m : Nat) : Option Int :=
  some (-1)
noncomputable def cmp_Compare_j4 (m : Nat) : Option Int :=
  some 0
noncomputable def cmp_Compare_j3 (m : Nat) (x0 x1 : Int) : Option Int :=
  (bif (decide (x1 < x0)) then
    some 1
  else
    cmp_Compare_j4 m)
noncomputable def cmp_Compare_j2 (m : Nat) (x0 x1 : Int) : Option Int :=
  (bif (decide (x0 < x1)) then
    some (-1)
  else
    cmp_Compare_j3 m x0 x1)
noncomputable def cmp_Compare_j1 (m : Nat) (x0 x1 : Int) (x2 : Bool) : Option Int :=
  (bif x2 then
    some 1
  else
    cmp_Compare_j2 m x0 x1)
noncomputable def cmp_Compare : Nat → Int → Int → Option Int
  | 0, _, _ => none
  | m + 1, a0, a1 =>
    ((cmp_isNaN m a0).bind fun r0 =>
    ((cmp_isNaN m a1).bind fun r1 =>
 (bif r0 then
 (bif r1 then
 some 0
 else
 cmp_Compare_j0 m)
 else
 cmp_Compare_j1 m a0 a1 r1)))
noncomputable def value_Compare_j6 (m : Nat) (self16 : Dt → Dt → Option Int) (rec4 : Int → Int → Dt → Dt → Option Int) (x0 x1 : Int) (x2 x3 : Dt) : Option Int :=
  rec4 x0 (IntKind.wrap .i64 (x1 + 1)) x2 x3
noncomputable def value_Compare_j5 (m : Nat) (self16 : Dt → Dt → Option Int) (rec4 : Int → Int → Dt → Dt → Option Int) (x0 x1 : Int) (x2 x3 : Dt) : Option Int :=
  ((idx (Dt.L x2 3) x1).bind fun v3 =>
    ((idx (Dt.L x3 3) x1).bind fun v4 =>
 ((self16 v3 v4).bind fun r5 =>
 (bif (r5 != 0) then
 some r5
 else
 value_Compare_j6 m self16 rec4 x0 x1 x2 x3))))
noncomputable def value_Compare_j7 (m : Nat) (self16 : Dt → Dt → Option Int) (x0 x1 : Dt) : Option Int :=
  ((cmp_Compare m (List.length (Dt.L x0 3) : Int) (List.length (Dt.L x1 3) : Int)).bind fun r6 =>
    some r6)
noncomputable def value_Compare_l4 (m : Nat) (self16 : Dt → Dt → Option Int) : Nat → Int → Int → Dt → Dt → Option Int
  | 0, _, _, _, _ => none
  | M4 + 1, x0, x1, x2, x3 =>
    (bif (decide (x1 < x0)) then
    value_Compare_j5 m self16 (value_Compare_l4 m self16 M4) x0 x1 x2 x3
  else
    value_Compare_j7 m self16 x2 x3)
noncomputable def value_Compare_j3 (m : Nat) (self16 : Dt → Dt → Option Int) (x0 x1 : Int) (x2 x3 : Dt) : Option Int :=
  value_Compare_l4 m self16 (Nat.succ m) x0 x1 x2 x3
noncomputable def value_Compare_j12 (m : Nat) (self16 : Dt → Dt → Option Int) (rec9 : Int → Int → Dt → Dt → Option Int) (x0 x1 : Int) (x2 x3 : Dt) : Option Int :=
  rec9 x0 (IntKind.wrap .i64 (x1 + 1)) x2 x3
noncomputable def value_Compare_j11 (m : Nat) (self16 : Dt → Dt → Option Int) (rec9 : Int → Int → Dt → Dt → Option Int) (x0 x1 x2 : Int) (x3 x4 : Dt) : Option Int :=
  ((idx (Dt.L x3 4) x0).bind fun v10 =>
    ((idx (Dt.L x4 4) x0).bind fun v11 =>
 ((self16 (Dt.fld v10 1) (Dt.fld v11 1)).bind fun r12 =>
 (bif (r12 != 0) then
 some r12
 else
 value_Compare_j12 m self16 rec9 x1 x2 x3 x4))))
noncomputable def value_Compare_j10 (m : Nat) (self16 : Dt → Dt → Option Int) (rec9 : Int → Int → Dt → Dt → Option Int) (x0 x1 : Int) (x2 x3 : Dt) : Option Int :=
  ((idx (Dt.L x2 4) x1).bind fun v7 =>
    ((idx (Dt.L x3 4) x1).bind fun v8 =>
 ((strings_Compare (Dt.S v7 0) (Dt.S v8 0)).bind fun r9 =>
 (bif (r9 != 0) then
 some r9
 else
 value_Compare_j11 m self16 rec9 x1 x0 x1 x2 x3))))
noncomputable def value_Compare_j13 (m : Nat) (self16 : Dt → Dt → Option Int) (x0 x1 : Dt) : Option Int :=
  ((cmp_Compare m (List.length (Dt.L x0 4) : Int) (List.length (Dt.L x1 4) : Int)).bind fun r13 =>
    some r13)
noncomputable def value_Compare_l9 (m : Nat) (self16 : Dt → Dt → Option Int) : Nat → Int → Int → Dt → Dt → Option Int
  | 0, _, _, _, _ => none
  | M9 + 1, x0, x1, x2, x3 =>
    (bif (decide (x1 < x0)) then
    value_Compare_j10 m self16 (value_Compare_l9 m self16 M9) x0 x1 x2 x3
  else
    value_Compare_j13 m self16 x2 x3)
noncomputable def value_Compare_j8 (m : Nat) (self16 : Dt → Dt → Option Int) (x0 x1 : Int) (x2 x3 : Dt) : Option Int :=
  value_Compare_l9 m self16 (Nat.succ m) x0 x1 x2 x3
noncomputable def value_Compare_j14 (m : Nat) (self16 : Dt → Dt → Option Int) : Option Int :=
  some 0
noncomputable def value_Compare_j2 (m : Nat) (self16 : Dt → Dt → Option Int) (x0 : Int) (x1 : Bool) (x2 x3 : Dt) : Option Int :=
  (bif x1 then
    ((strings_Compare (Dt.S x2 2) (Dt.S x3 2)).bind fun r2 =>
 some r2)
  else
    (bif (x0 == 6) then
 value_Compare_j3 m self16 (bif (decide ((List.length (Dt.L x3 3) : Int) < (List.length (Dt.L x2 3) : Int))) then (List.length (Dt.L x3 3) : Int) else (List.length (Dt.L x2 3) : Int)) 0 x2 x3
    else
 (bif (x0 == 5) then
 value_Compare_j8 m self16 (bif (decide ((List.length (Dt.L x3 4) : Int) < (List.length (Dt.L x2 4) : Int))) then (List.length (Dt.L x3 4) : Int) else (List.length (Dt.L x2 4) : Int)) 0 x2 x3
 else
 value_Compare_j14 m self16)))
noncomputable def value_Compare_j1 (m : Nat) (self16 : Dt → Dt → Option Int) (x0 : Int) (x1 : Bool) (x2 x3 : Dt) : Option Int :=
  (bif x1 then
    ((cmp_Compare m (Dt.I x2 1) (Dt.I x3 1)).bind fun r1 =>
 some r1)
  else
    (bif (x0 == 4) then
 value_Compare_j2 m self16 x0 (x0 == 4) x2 x3
    else
 (bif (x0 == 7) then
 value_Compare_j2 m self16 x0 (x0 == 7) x2 x3
 else
 value_Compare_j2 m self16 x0 (x0 == 8) x2 x3)))
noncomputable def value_Compare_j0 (m : Nat) (self16 : Dt → Dt → Option Int) (x0 x1 : Dt) : Option Int :=
  (bif ((Dt.I x0 0) == 3) then
    value_Compare_j1 m self16 (Dt.I x0 0) ((Dt.I x0 0) == 3) x0 x1
  else
    (bif ((Dt.I x0 0) == 9) then
 value_Compare_j1 m self16 (Dt.I x0 0) ((Dt.I x0 0) == 9) x0 x1
    else
 value_Compare_j1 m self16 (Dt.I x0 0) ((Dt.I x0 0) == 10) x0 x1))
noncomputable def value_Compare : Nat → Dt → Dt → Option Int
  | 0, _, _ => none
  | m + 1, a0, a1 =>
    (bif ((Dt.I a0 0) != (Dt.I a1 0)) then
    ((cmp_Compare m (Dt.I a0 0) (Dt.I a1 0)).bind fun r0 =>
 some r0)
  else
    value_Compare_j0 m (value_Compare m) a0 a1)
noncomputable def value_Equal : Nat → Dt → Dt → Option Bool
  | 0, _, _ => none
  | m + 1, a0, a1 =>
    ((value_Compare m a0 a1).bind fun r0 =>
    some (r0 == 0))
noncomputable def i13 : Nat → Dt → Dt → Option Bool
  | 0, _, _ => none
  | m + 1, a0, a1 =>
    ((value_Equal m a0 a1).bind fun r0 =>
    some r0)
noncomputable def i12_j3 (m : Nat) (rec1 : List Dt → Dt → Int → Int → Option Int) (x0 : List Dt) (x1 : Dt) (x2 x3 : Int) : Option Int :=
  rec1 x0 x1 x2 (IntKind.wrap .i64 (x3 + 1))
noncomputable def i12_j2 (m : Nat) (rec1 : List Dt → Dt → Int → Int → Option Int) (x0 : List Dt) (x1 : Dt) (x2 x3 : Int) : Option Int :=
  ((idx x0 x3).bind fun v0 =>
    ((i13 m v0 x1).bind fun r1 =>
 (bif r1 then
 some x3
 else
 i12_j3 m rec1 x0 x1 x2 x3)))
noncomputable def i12_j4 (m : Nat) : Option Int :=
  some (-1)
noncomputable def i12_l1 (m : Nat) : Nat → List Dt → Dt → Int → Int → Option Int
  | 0, _, _, _, _ => none
  | M1 + 1, x0, x1, x2, x3 =>
    (bif (decide (x3 < x2)) then
    i12_j2 m (i12_l1 m M1) x0 x1 x2 x3
  else
    i12_j4 m)
noncomputable def i12_j0 (m : Nat) (x0 : List Dt) (x1 : Dt) (x2 x3 : Int) : Option Int :=
  i12_l1 m (Nat.succ m) x0 x1 x2 x3
noncomputable def i12 : Nat → List Dt → Dt → Option Int
  | 0, _, _ => none
  | m + 1, a0, a1 =>
    i12_j0 m a0 a1 (List.length a0 : Int) 0
noncomputable def i11 : Nat → List Dt → Dt → Option Bool
  | 0, _, _ => none
  | m + 1, a0, a1 =>
    ((i12 m a0 a1).bind fun r0 =>
    some (decide (0 ≤ r0)))
noncomputable def i34_j6 (m : Nat) (rec1 : Int → Int → Int → List Dt → Option (List Dt)) (rec4 : Int → Int → Int → Int → List Dt → Option (List Dt)) (x0 x1 x2 x3 : Int) (x4 : List Dt) : Option (List Dt) :=
  rec4 x0 x1 x2 (IntKind.wrap .i64 (x3 - 1)) x4
noncomputable def i34_j5 (m : Nat) (rec1 : Int → Int → Int → List Dt → Option (List Dt)) (rec4 : Int → Int → Int → Int → List Dt → Option (List Dt)) (x0 x1 x2 x3 : Int) (x4 : List Dt) : Option (List Dt) :=
  ((inL x4 (IntKind.wrap .i64 (x3 - 1))).bind fun v5 =>
    ((x4[(Int.toNat (IntKind.wrap .i64 (x3 - 1)))]?).bind fun v6 =>
 ((inL x4 x3).bind fun v7 =>
 ((x4[(Int.toNat x3)]?).bind fun v8 =>
 ((inL x4 x3).bind fun v9 =>
 ((x4[(Int.toNat x3)]?).bind fun v10 =>
 ((inL (List.set x4 (Int.toNat x3) v6) (IntKind.wrap .i64 (x3 - 1))).bind fun v11 =>
 (((List.set x4 (Int.toNat x3) v6)[(Int.toNat (IntKind.wrap .i64 (x3 - 1)))]?).bind fun v12 =>
 i34_j6 m rec1 rec4 x0 x1 x2 x3 (List.set (List.set x4 (Int.toNat x3) v6) (Int.toNat (IntKind.wrap .i64 (x3 - 1))) v8)))))))))
noncomputable def i34_j7 (m : Nat) (rec1 : Int → Int → Int → List Dt → Option (List Dt)) (x0 x1 x2 : Int) (x3 : List Dt) : Option (List Dt) :=
  rec1 x0 x1 (IntKind.wrap .i64 (x2 + 1)) x3
noncomputable def i34_l4 (m : Nat) (rec1 : Int → Int → Int → List Dt → Option (List Dt)) : Nat → Int → Int → Int → Int → List Dt → Option (List Dt)
  | 0, _, _, _, _, _ => none
  | M4 + 1, x0, x1, x2, x3, x4 =>
    (bif (decide (x0 < x3)) then
    ((inL x4 x3).bind fun v0 =>
 ((x4[(Int.toNat x3)]?).bind fun v1 =>
 ((inL x4 (IntKind.wrap .i64 (x3 - 1))).bind fun v2 =>
 ((x4[(Int.toNat (IntKind.wrap .i64 (x3 - 1)))]?).bind fun v3 =>
 ((value_Compare m v1 v3).bind fun r4 =>
 (bif (decide (r4 < 0)) then
 i34_j5 m rec1 (i34_l4 m rec1 M4) x0 x1 x2 x3 x4
 else
 i34_j7 m rec1 x0 x1 x2 x4))))))
  else
    i34_j7 m rec1 x0 x1 x2 x4)
noncomputable def i34_j3 (m : Nat) (rec1 : Int → Int → Int → List Dt → Option (List Dt)) (x0 x1 x2 x3 : Int) (x4 : List Dt) : Option (List Dt) :=
  i34_l4 m rec1 (Nat.succ m) x0 x1 x2 x3 x4
noncomputable def i34_j2 (m : Nat) (rec1 : Int → Int → Int → List Dt → Option (List Dt)) (x0 x1 x2 : Int) (x3 : List Dt) : Option (List Dt) :=
  i34_j3 m rec1 x0 x1 x2 x2 x3
noncomputable def i34_l1 (m : Nat) : Nat → Int → Int → Int → List Dt → Option (List Dt)
  | 0, _, _, _, _ => none
  | M1 + 1, x0, x1, x2, x3 =>
    (bif (decide (x2 < x1)) then
    i34_j2 m (i34_l1 m M1) x0 x1 x2 x3
  else
    some x3)
noncomputable def i34_j0 (m : Nat) (x0 x1 x2 : Int) (x3 : List Dt) : Option (List Dt) :=
  i34_l1 m (Nat.succ m) x0 x1 x2 x3
noncomputable def i34 : Nat → Int → Int → List Dt → Option (List Dt)
  | 0, _, _, _ => none
  | m + 1, a0, a1, a2 =>
    i34_j0 m a0 a1 (IntKind.wrap .i64 (a0 + 1)) a2
noncomputable def i35_j2 (m : Nat) (self35 : Int → Int → Int → List Dt → Option (List Dt)) (rec1 : Int → Int → Int → List Dt → Option (List Dt)) (x0 x1 x2 : Int) (x3 : List Dt) : Option (List Dt) :=
  ((inL x3 (IntKind.wrap .i64 (shrI IntKind.u64 (IntKind.wrap IntKind.u64 (IntKind.wrap .i64 (x1 + x2))) 1))).bind fun v0 =>
    ((x3[(Int.toNat (IntKind.wrap .i64 (shrI IntKind.u64 (IntKind.wrap IntKind.u64 (IntKind.wrap .i64 (x1 + x2))) 1)))]?).bind fun v1 =>
 ((inL x3 x0).bind fun v2 =>
 ((x3[(Int.toNat x0)]?).bind fun v3 =>
 ((value_Compare m v1 v3).bind fun r4 =>
 (bif (decide (r4 < 0)) then
 rec1 x0 (IntKind.wrap .i64 ((IntKind.wrap .i64 (shrI IntKind.u64 (IntKind.wrap IntKind.u64 (IntKind.wrap .i64 (x1 + x2))) 1)) + 1)) x2 x3
 else
 rec1 x0 x1 (IntKind.wrap .i64 (shrI IntKind.u64 (IntKind.wrap IntKind.u64 (IntKind.wrap .i64 (x1 + x2))) 1)) x3))))))
noncomputable def i35_j7 (m : Nat) (self35 : Int → Int → Int → List Dt → Option (List Dt)) (rec5 : Int → Int → List Dt → Option (List Dt)) (x0 x1 : Int) (x2 : List Dt) : Option (List Dt) :=
  rec5 x0 (IntKind.wrap .i64 (x1 + 1)) x2
noncomputable def i35_j6 (m : Nat) (self35 : Int → Int → Int → List Dt → Option (List Dt)) (rec5 : Int → Int → List Dt → Option (List Dt)) (x0 x1 : Int) (x2 : List Dt) : Option (List Dt) :=
  ((inL x2 (IntKind.wrap .i64 (x1 + 1))).bind fun v5 =>
    ((x2[(Int.toNat (IntKind.wrap .i64 (x1 + 1)))]?).bind fun v6 =>
 ((inL x2 x1).bind fun v7 =>
 ((x2[(Int.toNat x1)]?).bind fun v8 =>
 ((inL x2 x1).bind fun v9 =>
 ((x2[(Int.toNat x1)]?).bind fun v10 =>
 ((inL (List.set x2 (Int.toNat x1) v6) (IntKind.wrap .i64 (x1 + 1))).bind fun v11 =>
 (((List.set x2 (Int.toNat x1) v6)[(Int.toNat (IntKind.wrap .i64 (x1 + 1)))]?).bind fun v12 =>
 i35_j7 m self35 rec5 x0 x1 (List.set (List.set x2 (Int.toNat x1) v6) (Int.toNat (IntKind.wrap .i64 (x1 + 1))) v8)))))))))
noncomputable def i35_l5 (m : Nat) (self35 : Int → Int → Int → List Dt → Option (List Dt)) : Nat → Int → Int → List Dt → Option (List Dt)
  | 0, _, _, _ => none
  | M5 + 1, x0, x1, x2 =>
    (bif (decide (x1 < (IntKind.wrap .i64 (x0 - 1)))) then
    i35_j6 m self35 (i35_l5 m self35 M5) x0 x1 x2
  else
    some x2)
noncomputable def i35_j4 (m : Nat) (self35 : Int → Int → Int → List Dt → Option (List Dt)) (x0 x1 : Int) (x2 : List Dt) : Option (List Dt) :=
  i35_l5 m self35 (Nat.succ m) x0 x1 x2
noncomputable def i35_j3 (m : Nat) (self35 : Int → Int → Int → List Dt → Option (List Dt)) (x0 x1 : Int) (x2 : List Dt) : Option (List Dt) :=
  i35_j4 m self35 x1 x0 x2
noncomputable def i35_l1 (m : Nat) (self35 : Int → Int → Int → List Dt → Option (List Dt)) : Nat → Int → Int → Int → List Dt → Option (List Dt)
  | 0, _, _, _, _ => none
  | M1 + 1, x0, x1, x2, x3 =>
    (bif (decide (x1 < x2)) then
    i35_j2 m self35 (i35_l1 m self35 M1) x0 x1 x2 x3
  else
    i35_j3 m self35 x0 x1 x3)
noncomputable def i35_j0 (m : Nat) (self35 : Int → Int → Int → List Dt → Option (List Dt)) (x0 x1 x2 : Int) (x3 : List Dt) : Option (List Dt) :=
  i35_l1 m self35 (Nat.succ m) x0 x1 x2 x3
noncomputable def i35_j11 (m : Nat) (self35 : Int → Int → Int → List Dt → Option (List Dt)) (rec10 : Int → Int → Int → List Dt → Option (List Dt)) (x0 x1 x2 : Int) (x3 : List Dt) : Option (List Dt) :=
  ((inL x3 x0).bind fun v13 =>
    ((x3[(Int.toNat x0)]?).bind fun v14 =>
 ((inL x3 (IntKind.wrap .i64 (shrI IntKind.u64 (IntKind.wrap IntKind.u64 (IntKind.wrap .i64 (x1 + x2))) 1))).bind fun v15 =>
 ((x3[(Int.toNat (IntKind.wrap .i64 (shrI IntKind.u64 (IntKind.wrap IntKind.u64 (IntKind.wrap .i64 (x1 + x2))) 1)))]?).bind fun v16 =>
 ((value_Compare m v14 v16).bind fun r17 =>
 (bif (Bool.not (decide (r17 < 0))) then
 rec10 x0 (IntKind.wrap .i64 ((IntKind.wrap .i64 (shrI IntKind.u64 (IntKind.wrap IntKind.u64 (IntKind.wrap .i64 (x1 + x2))) 1)) + 1)) x2 x3
 else
 rec10 x0 x1 (IntKind.wrap .i64 (shrI IntKind.u64 (IntKind.wrap IntKind.u64 (IntKind.wrap .i64 (x1 + x2))) 1)) x3))))))
noncomputable def i35_j16 (m : Nat) (self35 : Int → Int → Int → List Dt → Option (List Dt)) (rec14 : Int → Int → List Dt → Option (List Dt)) (x0 x1 : Int) (x2 : List Dt) : Option (List Dt) :=
  rec14 x0 (IntKind.wrap .i64 (x1 - 1)) x2
noncomputable def i35_j15 (m : Nat) (self35 : Int → Int → Int → List Dt → Option (List Dt)) (rec14 : Int → Int → List Dt → Option (List Dt)) (x0 x1 : Int) (x2 : List Dt) : Option (List Dt) :=
  ((inL x2 (IntKind.wrap .i64 (x1 - 1))).bind fun v18 =>
    ((x2[(Int.toNat (IntKind.wrap .i64 (x1 - 1)))]?).bind fun v19 =>
 ((inL x2 x1).bind fun v20 =>
 ((x2[(Int.toNat x1)]?).bind fun v21 =>
 ((inL x2 x1).bind fun v22 =>
 ((x2[(Int.toNat x1)]?).bind fun v23 =>
 ((inL (List.set x2 (Int.toNat x1) v19) (IntKind.wrap .i64 (x1 - 1))).bind fun v24 =>
 (((List.set x2 (Int.toNat x1) v19)[(Int.toNat (IntKind.wrap .i64 (x1 - 1)))]?).bind fun v25 =>
 i35_j16 m self35 rec14 x0 x1 (List.set (List.set x2 (Int.toNat x1) v19) (Int.toNat (IntKind.wrap .i64 (x1 - 1))) v21)))))))))
noncomputable def i35_l14 (m : Nat) (self35 : Int → Int → Int → List Dt → Option (List Dt)) : Nat → Int → Int → List Dt → Option (List Dt)
  | 0, _, _, _ => none
  | M14 + 1, x0, x1, x2 =>
    (bif (decide (x0 < x1)) then
    i35_j15 m self35 (i35_l14 m self35 M14) x0 x1 x2
  else
    some x2)
noncomputable def i35_j13 (m : Nat) (self35 : Int → Int → Int → List Dt → Option (List Dt)) (x0 x1 : Int) (x2 : List Dt) : Option (List Dt) :=
  i35_l14 m self35 (Nat.succ m) x0 x1 x2
noncomputable def i35_j12 (m : Nat) (self35 : Int → Int → Int → List Dt → Option (List Dt)) (x0 x1 : Int) (x2 : List Dt) : Option (List Dt) :=
  i35_j13 m self35 x1 x0 x2
noncomputable def i35_l10 (m : Nat) (self35 : Int → Int → Int → List Dt → Option (List Dt)) : Nat → Int → Int → Int → List Dt → Option (List Dt)
  | 0, _, _, _, _ => none
  | M10 + 1, x0, x1, x2, x3 =>
    (bif (decide (x1 < x2)) then
    i35_j11 m self35 (i35_l10 m self35 M10) x0 x1 x2 x3
  else
    i35_j12 m self35 x0 x1 x3)
noncomputable def i35_j9 (m : Nat) (self35 : Int → Int → Int → List Dt → Option (List Dt)) (x0 x1 x2 : Int) (x3 : List Dt) : Option (List Dt) :=
  i35_l10 m self35 (Nat.succ m) x0 x1 x2 x3
noncomputable def i35_j21 (m : Nat) (self35 : Int → Int → Int → List Dt → Option (List Dt)) (rec20 : Int → Int → Int → Int → Int → Int → Int → Int → List Dt → Option (List Dt)) (x0 x1 x2 x3 x4 x5 x6 x7 : Int) (x8 : List Dt) : Option (List Dt) :=
  ((inL x8 (IntKind.wrap .i64 (x7 - (IntKind.wrap .i64 (shrI IntKind.u64 (IntKind.wrap IntKind.u64 (IntKind.wrap .i64 (x5 + x6))) 1))))).bind fun v26 =>
    ((x8[(Int.toNat (IntKind.wrap .i64 (x7 - (IntKind.wrap .i64 (shrI IntKind.u64 (IntKind.wrap IntKind.u64 (IntKind.wrap .i64 (x5 + x6))) 1)))))]?).bind fun v27 =>
 ((inL x8 (IntKind.wrap .i64 (shrI IntKind.u64 (IntKind.wrap IntKind.u64 (IntKind.wrap .i64 (x5 + x6))) 1))).bind fun v28 =>
 ((x8[(Int.toNat (IntKind.wrap .i64 (shrI IntKind.u64 (IntKind.wrap IntKind.u64 (IntKind.wrap .i64 (x5 + x6))) 1)))]?).bind fun v29 =>
 ((value_Compare m v27 v29).bind fun r30 =>
 (bif (Bool.not (decide (r30 < 0))) then
 rec20 x0 x1 x2 x3 x4 (IntKind.wrap .i64 ((IntKind.wrap .i64 (shrI IntKind.u64 (IntKind.wrap IntKind.u64 (IntKind.wrap .i64 (x5 + x6))) 1)) + 1)) x6 x7 x8
 else
 rec20 x0 x1 x2 x3 x4 x5 (IntKind.wrap .i64 (shrI IntKind.u64 (IntKind.wrap IntKind.u64 (IntKind.wrap .i64 (x5 + x6))) 1)) x7 x8))))))
noncomputable def i35_j27 (m : Nat) (self35 : Int → Int → Int → List Dt → Option (List Dt)) (x0 x1 x2 : Int) (x3 : Bool) (x4 : List Dt) : Option (List Dt) :=
  (bif x3 then
    ((self35 x1 x2 x0 x4).bind fun r33 =>
 some r33)
  else
    some x4)
noncomputable def i35_j26 (m : Nat) (self35 : Int → Int → Int → List Dt → Option (List Dt)) (x0 x1 x2 : Int) (x3 : List Dt) : Option (List Dt) :=
  (bif (decide (x1 < x2)) then
    i35_j27 m self35 x0 x1 x2 (decide (x2 < x0)) x3
  else
    i35_j27 m self35 x0 x1 x2 false x3)
noncomputable def i35_j25 (m : Nat) (self35 : Int → Int → Int → List Dt → Option (List Dt)) (x0 x1 x2 x3 x4 : Int) (x5 : Bool) (x6 : List Dt) : Option (List Dt) :=
  (bif x5 then
    ((self35 x0 x3 x2 x6).bind fun r32 =>
 i35_j26 m self35 x1 x2 x4 r32)
  else
    i35_j26 m self35 x1 x2 x4 x6)
noncomputable def i35_j24 (m : Nat) (self35 : Int → Int → Int → List Dt → Option (List Dt)) (x0 x1 x2 x3 x4 : Int) (x5 : List Dt) : Option (List Dt) :=
  (bif (decide (x0 < x3)) then
    i35_j25 m self35 x0 x1 x2 x3 x4 (decide (x3 < x2)) x5
  else
    i35_j25 m self35 x0 x1 x2 x3 x4 false x5)
noncomputable def i35_j23 (m : Nat) (self35 : Int → Int → Int → List Dt → Option (List Dt)) (x0 x1 x2 x3 x4 x5 : Int) (x6 : Bool) (x7 : List Dt) : Option (List Dt) :=
  (bif x6 then
    ((i36 m x4 x1 x5 x7).bind fun r31 =>
 i35_j24 m self35 x0 x2 x3 x4 x5 r31)
  else
    i35_j24 m self35 x0 x2 x3 x4 x5 x7)
noncomputable def i35_j22 (m : Nat) (self35 : Int → Int → Int → List Dt → Option (List Dt)) (x0 x1 x2 x3 x4 x5 : Int) (x6 : List Dt) : Option (List Dt) :=
  (bif (decide (x5 < x1)) then
    i35_j23 m self35 x0 x1 x2 x3 x5 (IntKind.wrap .i64 (x4 - x5)) (decide (x1 < (IntKind.wrap .i64 (x4 - x5)))) x6
  else
    i35_j23 m self35 x0 x1 x2 x3 x5 (IntKind.wrap .i64 (x4 - x5)) false x6)
noncomputable def i35_l20 (m : Nat) (self35 : Int → Int → Int → List Dt → Option (List Dt)) : Nat → Int → Int → Int → Int → Int → Int → Int → Int → List Dt → Option (List Dt)
  | 0, _, _, _, _, _, _, _, _, _ => none
  | M20 + 1, x0, x1, x2, x3, x4, x5, x6, x7, x8 =>
    (bif (decide (x5 < x6)) then
    i35_j21 m self35 (i35_l20 m self35 M20) x0 x1 x2 x3 x4 x5 x6 x7 x8
  else
    i35_j22 m self35 x0 x1 x2 x3 x4 x5 x8)
noncomputable def i35_j19 (m : Nat) (self35 : Int → Int → Int → List Dt → Option (List Dt)) (x0 x1 x2 x3 x4 x5 x6 x7 : Int) (x8 : List Dt) : Option (List Dt) :=
  i35_l20 m self35 (Nat.succ m) x0 x1 x2 x3 x4 x5 x6 x7 x8
noncomputable def i35_j18 (m : Nat) (self35 : Int → Int → Int → List Dt → Option (List Dt)) (x0 x1 x2 x3 x4 x5 x6 : Int) (x7 : List Dt) : Option (List Dt) :=
  i35_j19 m self35 x0 x1 x2 x3 x4 x5 x6 (IntKind.wrap .i64 (x4 - 1)) x7
noncomputable def i35_j17 (m : Nat) (self35 : Int → Int → Int → List Dt → Option (List Dt)) (x0 x1 x2 : Int) (x3 : List Dt) : Option (List Dt) :=
  (bif (decide ((IntKind.wrap .i64 (shrI IntKind.u64 (IntKind.wrap IntKind.u64 (IntKind.wrap .i64 (x0 + x2))) 1)) < x1)) then
    i35_j18 m self35 x0 x1 x2 (IntKind.wrap .i64 (shrI IntKind.u64 (IntKind.wrap IntKind.u64 (IntKind.wrap .i64 (x0 + x2))) 1)) (IntKind.wrap .i64 ((IntKind.wrap .i64 (shrI IntKind.u64 (IntKind.wrap IntKind.u64 (IntKind.wrap .i64 (x0 + x2))) 1)) + x1)) (IntKind.wrap .i64 ((IntKind.wrap .i64 ((IntKind.wrap .i64 (shrI IntKind.u64 (IntKind.wrap IntKind.u64 (IntKind.wrap .i64 (x0 + x2))) 1)) + x1)) - x2)) (IntKind.wrap .i64 (shrI IntKind.u64 (IntKind.wrap IntKind.u64 (IntKind.wrap .i64 (x0 + x2))) 1)) x3
  else
    i35_j18 m self35 x0 x1 x2 (IntKind.wrap .i64 (shrI IntKind.u64 (IntKind.wrap IntKind.u64 (IntKind.wrap .i64 (x0 + x2))) 1)) (IntKind.wrap .i64 ((IntKind.wrap .i64 (shrI IntKind.u64 (IntKind.wrap IntKind.u64 (IntKind.wrap .i64 (x0 + x2))) 1)) + x1)) x0 x1 x3)
noncomputable def i35_j8 (m : Nat) (self35 : Int → Int → Int → List Dt → Option (List Dt)) (x0 x1 x2 : Int) (x3 : List Dt) : Option (List Dt) :=
  (bif ((IntKind.wrap .i64 (x2 - x1)) == 1) then
    i35_j9 m self35 x1 x0 x1 x3
  else
    i35_j17 m self35 x0 x1 x2 x3)
noncomputable def i35 : Nat → Int → Int → Int → List Dt → Option (List Dt)
  | 0, _, _, _, _ => none
  | m + 1, a0, a1, a2, a3 =>
    (bif ((IntKind.wrap .i64 (a1 - a0)) == 1) then
    i35_j0 m (i35 m) a0 a1 a2 a3
  else
    i35_j8 m (i35 m) a0 a1 a2 a3)
noncomputable def i33_j2 (m : Nat) (rec1 : Int → Int → Int → Int → List Dt → Option (List Dt)) (x0 x1 x2 x3 : Int) (x4 : List Dt) : Option (List Dt) :=
  ((i34 m x2 x3 x4).bind fun r0 =>
    rec1 x0 x1 x3 (IntKind.wrap .i64 (x3 + x1)) r0)
noncomputable def i33_j9 (m : Nat) (rec5 : Int → Int → List Dt → Option (List Dt)) (rec8 : Int → Int → Int → Int → List Dt → Option (List Dt)) (x0 x1 x2 x3 : Int) (x4 : List Dt) : Option (List Dt) :=
  ((i35 m x2 (IntKind.wrap .i64 (x2 + x1)) x3 x4).bind fun r2 =>
    rec8 x0 x1 x3 (IntKind.wrap .i64 (x3 + (IntKind.wrap .i64 (2 * x1)))) r2)
noncomputable def i33_j11 (m : Nat) (rec5 : Int → Int → List Dt → Option (List Dt)) (x0 x1 : Int) (x2 : List Dt) : Option (List Dt) :=
  rec5 x0 (IntKind.wrap .i64 (x1 * 2)) x2
noncomputable def i33_j10 (m : Nat) (rec5 : Int → Int → List Dt → Option (List Dt)) (x0 x1 x2 : Int) (x3 : List Dt) : Option (List Dt) :=
  (bif (decide ((IntKind.wrap .i64 (x2 + x1)) < x0)) then
    ((i35 m x2 (IntKind.wrap .i64 (x2 + x1)) x0 x3).bind fun r3 =>
 i33_j11 m rec5 x0 x1 r3)
  else
    i33_j11 m rec5 x0 x1 x3)
noncomputable def i33_l8 (m : Nat) (rec5 : Int → Int → List Dt → Option (List Dt)) : Nat → Int → Int → Int → Int → List Dt → Option (List Dt)
  | 0, _, _, _, _, _ => none
  | M8 + 1, x0, x1, x2, x3, x4 =>
    (bif (decide (x3 ≤ x0)) then
    i33_j9 m rec5 (i33_l8 m rec5 M8) x0 x1 x2 x3 x4
  else
    i33_j10 m rec5 x0 x1 x2 x4)
noncomputable def i33_j7 (m : Nat) (rec5 : Int → Int → List Dt → Option (List Dt)) (x0 x1 x2 x3 : Int) (x4 : List Dt) : Option (List Dt) :=
  i33_l8 m rec5 (Nat.succ m) x0 x1 x2 x3 x4
noncomputable def i33_j6 (m : Nat) (rec5 : Int → Int → List Dt → Option (List Dt)) (x0 x1 : Int) (x2 : List Dt) : Option (List Dt) :=
  i33_j7 m rec5 x0 x1 0 (IntKind.wrap .i64 (2 * x1)) x2
noncomputable def i33_l5 (m : Nat) : Nat → Int → Int → List Dt → Option (List Dt)
  | 0, _, _, _ => none
  | M5 + 1, x0, x1, x2 =>
    (bif (decide (x1 < x0)) then
    i33_j6 m (i33_l5 m M5) x0 x1 x2
  else
    some x2)
noncomputable def i33_j4 (m : Nat) (x0 x1 : Int) (x2 : List Dt) : Option (List Dt) :=
  i33_l5 m (Nat.succ m) x0 x1 x2
noncomputable def i33_j3 (m : Nat) (x0 x1 x2 : Int) (x3 : List Dt) : Option (List Dt) :=
  ((i34 m x2 x0 x3).bind fun r1 =>
    i33_j4 m x0 x1 r1)
noncomputable def i33_l1 (m : Nat) : Nat → Int → Int → Int → Int → List Dt → Option (List Dt)
  | 0, _, _, _, _, _ => none
  | M1 + 1, x0, x1, x2, x3, x4 =>
    (bif (decide (x3 ≤ x0)) then
    i33_j2 m (i33_l1 m M1) x0 x1 x2 x3 x4
  else
    i33_j3 m x0 x1 x2 x4)
noncomputable def i33_j0 (m : Nat) (x0 x1 x2 x3 : Int) (x4 : List Dt) : Option (List Dt) :=
  i33_l1 m (Nat.succ m) x0 x1 x2 x3 x4
noncomputable def i33 : Nat → Int → List Dt → Option (List Dt)
  | 0, _, _ => none
  | m + 1, a0, a1 =>
    i33_j0 m a0 20 0 20 a1
noncomputable def i32 : Nat → List Dt → Option (List Dt)
  | 0, _ => none
  | m + 1, a0 =>
    ((i33 m (List.length a0 : Int) a0).bind fun r0 =>
    some r0)
noncomputable def schema_repeats_j3 (m : Nat) (rec1 : Int → List Dt → Option Bool) (x0 : Int) (x1 : List Dt) : Option Bool :=
  rec1 (IntKind.wrap .i64 (x0 + 1)) x1
noncomputable def schema_repeats_j2 (m : Nat) (rec1 : Int → List Dt → Option Bool) (x0 : Int) (x1 : List Dt) : Option Bool :=
  ((inL x1 (IntKind.wrap .i64 (x0 - 1))).bind fun v2 =>
    ((x1[(Int.toNat (IntKind.wrap .i64 (x0 - 1)))]?).bind fun v3 =>
 ((inL x1 x0).bind fun v4 =>
 ((x1[(Int.toNat x0)]?).bind fun v5 =>
 ((value_Equal m v3 v5).bind fun r6 =>
 (bif r6 then
 some true
 else
 schema_repeats_j3 m rec1 x0 x1))))))
noncomputable def schema_repeats_j4 (m : Nat) : Option Bool :=
  some false
noncomputable def schema_repeats_l1 (m : Nat) : Nat → Int → List Dt → Option Bool
  | 0, _, _ => none
  | M1 + 1, x0, x1 =>
    (bif (decide (x0 < (List.length x1 : Int))) then
    schema_repeats_j2 m (schema_repeats_l1 m M1) x0 x1
  else
    schema_repeats_j4 m)
noncomputable def schema_repeats_j0 (m : Nat) (x0 : Int) (x1 : List Dt) : Option Bool :=
  schema_repeats_l1 m (Nat.succ m) x0 x1
noncomputable def schema_repeats : Nat → List Dt → Option Bool
  | 0, _ => none
  | m + 1, a0 =>
    ((slices_Clone a0).bind fun r0 =>
    ((i32 m r0).bind fun r1 =>
 schema_repeats_j0 m 1 r1))
noncomputable def i22_j7 (m : Nat) (self22 : Dt → Dt → List Dt → List Dt → Option (List Dt)) (rec5 : List Dt → Int → Int → List Dt → Dt → Dt → List Dt → Option (List Dt)) (x0 : List Dt) (x1 x2 : Int) (x3 : List Dt) (x4 x5 : Dt) (x6 : List Dt) : Option (List Dt) :=
  rec5 x0 x1 (IntKind.wrap .i64 (x2 + 1)) x3 x4 x5 x6
noncomputable def i22_j6 (m : Nat) (self22 : Dt → Dt → List Dt → List Dt → Option (List Dt)) (rec5 : List Dt → Int → Int → List Dt → Dt → Dt → List Dt → Option (List Dt)) (x0 : List Dt) (x1 x2 : Int) (x3 : List Dt) (x4 x5 : Dt) (x6 : List Dt) : Option (List Dt) :=
  ((idx x0 x2).bind fun v10 =>
    ((schema_field m x5 (Dt.toStr v10)).bind fun r11 =>
 ((i15 m (Bool.not r11.2) 6 [(Dt.str (Dt.toStr v10))] x3 x6).bind fun r12 =>
 i22_j7 m self22 rec5 x0 x1 x2 r12.2 x4 x5 r12.1)))
noncomputable def i22_j12 (m : Nat) (self22 : Dt → Dt → List Dt → List Dt → Option (List Dt)) (rec10 : List Dt → Int → Int → List Dt → Dt → Dt → List Dt → Option (List Dt)) (x0 : List Dt) (x1 x2 : Int) (x3 : List Dt) (x4 x5 : Dt) (x6 : List Dt) : Option (List Dt) :=
  rec10 x0 x1 (IntKind.wrap .i64 (x2 + 1)) x3 x4 x5 x6
noncomputable def i22_j11 (m : Nat) (self22 : Dt → Dt → List Dt → List Dt → Option (List Dt)) (rec10 : List Dt → Int → Int → List Dt → Dt → Dt → List Dt → Option (List Dt)) (x0 : List Dt) (x1 x2 : Int) (x3 : List Dt) (x4 x5 : Dt) (x6 : List Dt) : Option (List Dt) :=
  ((idx x0 x2).bind fun v13 =>
    (bif (Dt.B x4 10) then
 ((i19 m (Dt.L x4 9) v13).bind fun r14 =>
 ((i15 m (Bool.not r14) 7 [(Dt.str (Dt.S v13 0))] x3 x6).bind fun r15 =>
 i22_j12 m self22 rec10 x0 x1 x2 r15.2 x4 x5 r15.1))
    else
 ((i15 m false 7 [(Dt.str (Dt.S v13 0))] x3 x6).bind fun r16 =>
 i22_j12 m self22 rec10 x0 x1 x2 r16.2 x4 x5 r16.1)))
noncomputable def i22_j17 (m : Nat) (self22 : Dt → Dt → List Dt → List Dt → Option (List Dt)) (rec15 : List Dt → Int → Int → List Dt → Dt → Dt → List Dt → Option (List Dt)) (x0 : List Dt) (x1 x2 : Int) (x3 : List Dt) (x4 x5 : Dt) (x6 : List Dt) : Option (List Dt) :=
  rec15 x0 x1 (IntKind.wrap .i64 (x2 + 1)) x3 x4 x5 x6
noncomputable def i22_j16 (m : Nat) (self22 : Dt → Dt → List Dt → List Dt → Option (List Dt)) (rec15 : List Dt → Int → Int → List Dt → Dt → Dt → List Dt → Option (List Dt)) (x0 : List Dt) (x1 x2 : Int) (x3 : List Dt) (x4 x5 : Dt) (x6 : List Dt) : Option (List Dt) :=
  ((idx x0 x2).bind fun v17 =>
    ((schema_field m x5 (Dt.S v17 0)).bind fun r18 =>
 (bif r18.2 then
 ((slices_Concat m [(Dt.lst x6), (Dt.lst [(Dt.str (Dt.S v17 0))])]).bind fun r19 =>
 ((self22 (Dt.fld v17 1) r18.1 r19 x3).bind fun r20 =>
 i22_j17 m self22 rec15 x0 x1 x2 r20 x4 x5 x6))
 else
 i22_j17 m self22 rec15 x0 x1 x2 x3 x4 x5 x6)))
noncomputable def i22_j26 (m : Nat) (self22 : Dt → Dt → List Dt → List Dt → Option (List Dt)) (rec21 : List Dt → Int → Int → List Dt → Dt → List Dt → Option (List Dt)) (rec24 : List Dt → Int → Int → List Dt → Int → Int → List Dt → Dt → List Dt → Dt → Option (List Dt)) (x0 : List Dt) (x1 x2 : Int) (x3 : List Dt) (x4 x5 : Int) (x6 : List Dt) (x7 : Dt) (x8 : List Dt) (x9 : Dt) : Option (List Dt) :=
  rec24 x0 x1 x2 x3 x4 (IntKind.wrap .i64 (x5 + 1)) x6 x7 x8 x9
noncomputable def i22_j25 (m : Nat) (self22 : Dt → Dt → List Dt → List Dt → Option (List Dt)) (rec21 : List Dt → Int → Int → List Dt → Dt → List Dt → Option (List Dt)) (rec24 : List Dt → Int → Int → List Dt → Int → Int → List Dt → Dt → List Dt → Dt → Option (List Dt)) (x0 : List Dt) (x1 x2 : Int) (x3 : List Dt) (x4 x5 : Int) (x6 : List Dt) (x7 : Dt) (x8 : List Dt) (x9 : Dt) : Option (List Dt) :=
  ((idx x3 x5).bind fun v24 =>
    ((strconv_Itoa x5).bind fun r25 =>
 ((slices_Concat m [(Dt.lst x8), (Dt.lst [(Dt.str r25)])]).bind fun r26 =>
 ((self22 x9 v24 r26 x6).bind fun r27 =>
 i22_j26 m self22 rec21 rec24 x0 x1 x2 x3 x4 x5 r27 x7 x8 x9))))
noncomputable def i22_j27 (m : Nat) (self22 : Dt → Dt → List Dt → List Dt → Option (List Dt)) (rec21 : List Dt → Int → Int → List Dt → Dt → List Dt → Option (List Dt)) (x0 : List Dt) (x1 x2 : Int) (x3 : List Dt) (x4 : Dt) (x5 : List Dt) : Option (List Dt) :=
  rec21 x0 x1 (IntKind.wrap .i64 (x2 + 1)) x3 x4 x5
noncomputable def i22_l24 (m : Nat) (self22 : Dt → Dt → List Dt → List Dt → Option (List Dt)) (rec21 : List Dt → Int → Int → List Dt → Dt → List Dt → Option (List Dt)) : Nat → List Dt → Int → Int → List Dt → Int → Int → List Dt → Dt → List Dt → Dt → Option (List Dt)
  | 0, _, _, _, _, _, _, _, _, _, _ => none
  | M24 + 1, x0, x1, x2, x3, x4, x5, x6, x7, x8, x9 =>
    (bif (decide (x5 < x4)) then
    i22_j25 m self22 rec21 (i22_l24 m self22 rec21 M24) x0 x1 x2 x3 x4 x5 x6 x7 x8 x9
  else
    i22_j27 m self22 rec21 x0 x1 x2 x6 x7 x8)
noncomputable def i22_j23 (m : Nat) (self22 : Dt → Dt → List Dt → List Dt → Option (List Dt)) (rec21 : List Dt → Int → Int → List Dt → Dt → List Dt → Option (List Dt)) (x0 : List Dt) (x1 x2 : Int) (x3 : List Dt) (x4 x5 : Int) (x6 : List Dt) (x7 : Dt) (x8 : List Dt) (x9 : Dt) : Option (List Dt) :=
  i22_l24 m self22 rec21 (Nat.succ m) x0 x1 x2 x3 x4 x5 x6 x7 x8 x9
noncomputable def i22_j22 (m : Nat) (self22 : Dt → Dt → List Dt → List Dt → Option (List Dt)) (rec21 : List Dt → Int → Int → List Dt → Dt → List Dt → Option (List Dt)) (x0 : List Dt) (x1 x2 : Int) (x3 : List Dt) (x4 : Dt) (x5 : List Dt) : Option (List Dt) :=
  ((idx x0 x2).bind fun v23 =>
    i22_j23 m self22 rec21 x0 x1 x2 (Dt.L x4 3) (List.length (Dt.L x4 3) : Int) 0 x3 x4 x5 v23)
noncomputable def i22_j28 (m : Nat) (self22 : Dt → Dt → List Dt → List Dt → Option (List Dt)) (x0 : List Dt) : Option (List Dt) :=
  some x0
noncomputable def i22_l21 (m : Nat) (self22 : Dt → Dt → List Dt → List Dt → Option (List Dt)) : Nat → List Dt → Int → Int → List Dt → Dt → List Dt → Option (List Dt)
  | 0, _, _, _, _, _, _ => none
  | M21 + 1, x0, x1, x2, x3, x4, x5 =>
    (bif (decide (x2 < x1)) then
    i22_j22 m self22 (i22_l21 m self22 M21) x0 x1 x2 x3 x4 x5
  else
    i22_j28 m self22 x3)
noncomputable def i22_j20 (m : Nat) (self22 : Dt → Dt → List Dt → List Dt → Option (List Dt)) (x0 : List Dt) (x1 x2 : Int) (x3 : List Dt) (x4 : Dt) (x5 : List Dt) : Option (List Dt) :=
  i22_l21 m self22 (Nat.succ m) x0 x1 x2 x3 x4 x5
noncomputable def i22_j19 (m : Nat) (self22 : Dt → Dt → List Dt → List Dt → Option (List Dt)) (x0 : List Dt) (x1 x2 : Dt) (x3 : List Dt) : Option (List Dt) :=
  i22_j20 m self22 (Dt.L x1 11) (List.length (Dt.L x1 11) : Int) 0 x0 x2 x3
noncomputable def i22_j18 (m : Nat) (self22 : Dt → Dt → List Dt → List Dt → Option (List Dt)) (x0 : List Dt) (x1 x2 : Dt) (x3 : List Dt) : Option (List Dt) :=
  (bif ((Dt.I x2 0) == 6) then
    (bif (Dt.B x1 12) then
 ((schema_repeats m (Dt.L x2 3)).bind fun r21 =>
 ((i15 m r21 8 [] x0 x3).bind fun r22 =>
 i22_j19 m self22 r22.2 x1 x2 r22.1))
    else
 ((i15 m false 8 [] x0 x3).bind fun r28 =>
 i22_j19 m self22 r28.2 x1 x2 r28.1))
  else
    i22_j28 m self22 x0)
noncomputable def i22_l15 (m : Nat) (self22 : Dt → Dt → List Dt → List Dt → Option (List Dt)) : Nat → List Dt → Int → Int → List Dt → Dt → Dt → List Dt → Option (List Dt)
  | 0, _, _, _, _, _, _, _ => none
  | M15 + 1, x0, x1, x2, x3, x4, x5, x6 =>
    (bif (decide (x2 < x1)) then
    i22_j16 m self22 (i22_l15 m self22 M15) x0 x1 x2 x3 x4 x5 x6
  else
    i22_j18 m self22 x3 x4 x5 x6)
noncomputable def i22_j14 (m : Nat) (self22 : Dt → Dt → List Dt → List Dt → Option (List Dt)) (x0 : List Dt) (x1 x2 : Int) (x3 : List Dt) (x4 x5 : Dt) (x6 : List Dt) : Option (List Dt) :=
  i22_l15 m self22 (Nat.succ m) x0 x1 x2 x3 x4 x5 x6
noncomputable def i22_j13 (m : Nat) (self22 : Dt → Dt → List Dt → List Dt → Option (List Dt)) (x0 : List Dt) (x1 x2 : Dt) (x3 : List Dt) : Option (List Dt) :=
  i22_j14 m self22 (Dt.L x1 9) (List.length (Dt.L x1 9) : Int) 0 x0 x1 x2 x3
noncomputable def i22_l10 (m : Nat) (self22 : Dt → Dt → List Dt → List Dt → Option (List Dt)) : Nat → List Dt → Int → Int → List Dt → Dt → Dt → List Dt → Option (List Dt)
  | 0, _, _, _, _, _, _, _ => none
  | M10 + 1, x0, x1, x2, x3, x4, x5, x6 =>
    (bif (decide (x2 < x1)) then
    i22_j11 m self22 (i22_l10 m self22 M10) x0 x1 x2 x3 x4 x5 x6
  else
    i22_j13 m self22 x3 x4 x5 x6)
noncomputable def i22_j9 (m : Nat) (self22 : Dt → Dt → List Dt → List Dt → Option (List Dt)) (x0 : List Dt) (x1 x2 : Int) (x3 : List Dt) (x4 x5 : Dt) (x6 : List Dt) : Option (List Dt) :=
  i22_l10 m self22 (Nat.succ m) x0 x1 x2 x3 x4 x5 x6
noncomputable def i22_j8 (m : Nat) (self22 : Dt → Dt → List Dt → List Dt → Option (List Dt)) (x0 : List Dt) (x1 x2 : Dt) (x3 : List Dt) : Option (List Dt) :=
  i22_j9 m self22 (Dt.L x2 4) (List.length (Dt.L x2 4) : Int) 0 x0 x1 x2 x3
noncomputable def i22_l5 (m : Nat) (self22 : Dt → Dt → List Dt → List Dt → Option (List Dt)) : Nat → List Dt → Int → Int → List Dt → Dt → Dt → List Dt → Option (List Dt)
  | 0, _, _, _, _, _, _, _ => none
  | M5 + 1, x0, x1, x2, x3, x4, x5, x6 =>
    (bif (decide (x2 < x1)) then
    i22_j6 m self22 (i22_l5 m self22 M5) x0 x1 x2 x3 x4 x5 x6
  else
    i22_j8 m self22 x3 x4 x5 x6)
noncomputable def i22_j4 (m : Nat) (self22 : Dt → Dt → List Dt → List Dt → Option (List Dt)) (x0 : List Dt) (x1 x2 : Int) (x3 : List Dt) (x4 x5 : Dt) (x6 : List Dt) : Option (List Dt) :=
  i22_l5 m self22 (Nat.succ m) x0 x1 x2 x3 x4 x5 x6
noncomputable def i22_j3 (m : Nat) (self22 : Dt → Dt → List Dt → List Dt → Option (List Dt)) (x0 : List Dt) (x1 x2 : Dt) (x3 : List Dt) : Option (List Dt) :=
  (bif ((Dt.I x2 0) == 5) then
    i22_j4 m self22 (Dt.L x1 8) (List.length (Dt.L x1 8) : Int) 0 x0 x1 x2 x3
  else
    i22_j18 m self22 x0 x1 x2 x3)
noncomputable def i22_j2 (m : Nat) (self22 : Dt → Dt → List Dt → List Dt → Option (List Dt)) (x0 : List Dt) (x1 x2 : Dt) (x3 : List Dt) : Option (List Dt) :=
  ((schema_length m x2).bind fun r8 =>
    (bif r8.2 then
 (bif (decide (r8.1 < (Dt.I x1 6))) then
 ((i15 m true 5 [] x0 x3).bind fun r9 =>
 i22_j3 m self22 r9.2 x1 x2 r9.1)
 else
 (bif (decide (0 ≤ (Dt.I x1 7))) then
 ((i15 m (decide ((Dt.I x1 7) < r8.1)) 5 [] x0 x3).bind fun r29 =>
 i22_j3 m self22 r29.2 x1 x2 r29.1)
 else
 ((i15 m false 5 [] x0 x3).bind fun r30 =>
 i22_j3 m self22 r30.2 x1 x2 r30.1)))
    else
 ((i15 m false 5 [] x0 x3).bind fun r31 =>
 i22_j3 m self22 r31.2 x1 x2 r31.1)))
noncomputable def i22_j1 (m : Nat) (self22 : Dt → Dt → List Dt → List Dt → Option (List Dt)) (x0 : List Dt) (x1 x2 : Dt) (x3 : List Dt) : Option (List Dt) :=
  (bif (Dt.B x1 3) then
    ((value_Compare m x2 (Dt.fld x1 4)).bind fun r6 =>
 ((i15 m (decide (0 < r6)) 4 [] x0 x3).bind fun r7 =>
 i22_j2 m self22 r7.2 x1 x2 r7.1))
  else
    ((i15 m false 4 [] x0 x3).bind fun r32 =>
 i22_j2 m self22 r32.2 x1 x2 r32.1))
noncomputable def i22_j0 (m : Nat) (self22 : Dt → Dt → List Dt → List Dt → Option (List Dt)) (x0 : List Dt) (x1 x2 : Dt) (x3 : List Dt) : Option (List Dt) :=
  (bif (Dt.B x1 1) then
    ((value_Compare m x2 (Dt.fld x1 2)).bind fun r4 =>
 ((i15 m (decide (r4 < 0)) 3 [] x0 x3).bind fun r5 =>
 i22_j1 m self22 r5.2 x1 x2 r5.1))
  else
    ((i15 m false 3 [] x0 x3).bind fun r33 =>
 i22_j1 m self22 r33.2 x1 x2 r33.1))
noncomputable def i22 : Nat → Dt → Dt → List Dt → List Dt → Option (List Dt)
  | 0, _, _, _, _ => none
  | m + 1, a0, a1, a2, a3 =>
    ((schema_hasKind m (Dt.I a0 0) (Dt.I a1 0)).bind fun r0 =>
    ((i15 m (Bool.not r0) 1 [] a3 a2).bind fun r1 =>
 (bif (decide (0 < (List.length (Dt.L a0 5) : Int))) then
 ((i11 m (Dt.L a0 5) a1).bind fun r2 =>
 ((i15 m (Bool.not r2) 2 [] r1.2 r1.1).bind fun r3 =>
 i22_j0 m (i22 m) r3.2 a0 a1 r3.1))
 else
 ((i15 m false 2 [] r1.2 r1.1).bind fun r34 =>
 i22_j0 m (i22 m) r34.2 a0 a1 r34.1))))
noncomputable def i7_j7 (m : Nat) (rec5 : List Dt → Int → Int → List Dt → List Dt → Dt → Dt → List Dt → Option (List Dt × List Dt)) (x0 : List Dt) (x1 x2 : Int) (x3 x4 : List Dt) (x5 x6 : Dt) (x7 : List Dt) : Option (List Dt × List Dt) :=
  rec5 x0 x1 (IntKind.wrap .i64 (x2 + 1)) x3 x4 x5 x6 x7
noncomputable def i7_j6 (m : Nat) (rec5 : List Dt → Int → Int → List Dt → List Dt → Dt → Dt → List Dt → Option (List Dt × List Dt)) (x0 : List Dt) (x1 x2 : Int) (x3 x4 : List Dt) (x5 x6 : Dt) (x7 : List Dt) : Option (List Dt × List Dt) :=
  ((idx x0 x2).bind fun v10 =>
    ((schema_field m x6 (Dt.toStr v10)).bind fun r11 =>
 ((i15 m (Bool.not r11.2) 6 [(Dt.str (Dt.toStr v10))] x4 x7).bind fun r12 =>
 i7_j7 m rec5 x0 x1 x2 x3 r12.2 x5 x6 r12.1)))
noncomputable def i7_j12 (m : Nat) (rec10 : List Dt → Int → Int → List Dt → List Dt → Dt → Dt → List Dt → Option (List Dt × List Dt)) (x0 : List Dt) (x1 x2 : Int) (x3 x4 : List Dt) (x5 x6 : Dt) (x7 : List Dt) : Option (List Dt × List Dt) :=
  rec10 x0 x1 (IntKind.wrap .i64 (x2 + 1)) x3 x4 x5 x6 x7
noncomputable def i7_j11 (m : Nat) (rec10 : List Dt → Int → Int → List Dt → List Dt → Dt → Dt → List Dt → Option (List Dt × List Dt)) (x0 : List Dt) (x1 x2 : Int) (x3 x4 : List Dt) (x5 x6 : Dt) (x7 : List Dt) : Option (List Dt × List Dt) :=
  ((idx x0 x2).bind fun v13 =>
    (bif (Dt.B x5 10) then
 ((i19 m (Dt.L x5 9) v13).bind fun r14 =>
 ((i15 m (Bool.not r14) 7 [(Dt.str (Dt.S v13 0))] x4 x7).bind fun r15 =>
 i7_j12 m rec10 x0 x1 x2 x3 r15.2 x5 x6 r15.1))
    else
 ((i15 m false 7 [(Dt.str (Dt.S v13 0))] x4 x7).bind fun r16 =>
 i7_j12 m rec10 x0 x1 x2 x3 r16.2 x5 x6 r16.1)))
noncomputable def i7_j17 (m : Nat) (rec15 : List Dt → Int → Int → List Dt → List Dt → Dt → Dt → List Dt → Option (List Dt × List Dt)) (x0 : List Dt) (x1 x2 : Int) (x3 x4 : List Dt) (x5 x6 : Dt) (x7 : List Dt) : Option (List Dt × List Dt) :=
  rec15 x0 x1 (IntKind.wrap .i64 (x2 + 1)) x3 x4 x5 x6 x7
noncomputable def i7_j16 (m : Nat) (rec15 : List Dt → Int → Int → List Dt → List Dt → Dt → Dt → List Dt → Option (List Dt × List Dt)) (x0 : List Dt) (x1 x2 : Int) (x3 x4 : List Dt) (x5 x6 : Dt) (x7 : List Dt) : Option (List Dt × List Dt) :=
  ((idx x0 x2).bind fun v17 =>
    ((schema_field m x6 (Dt.S v17 0)).bind fun r18 =>
 (bif r18.2 then
 ((slices_Concat m [(Dt.lst x7), (Dt.lst [(Dt.str (Dt.S v17 0))])]).bind fun r19 =>
 ((i22 m (Dt.fld v17 1) r18.1 r19 x4).bind fun r20 =>
 i7_j17 m rec15 x0 x1 x2 x3 r20 x5 x6 x7))
 else
 i7_j17 m rec15 x0 x1 x2 x3 x4 x5 x6 x7)))
noncomputable def i7_j26 (m : Nat) (rec21 : List Dt → Int → Int → List Dt → List Dt → Dt → List Dt → Option (List Dt × List Dt)) (rec24 : List Dt → Int → Int → List Dt → Int → Int → List Dt → List Dt → Dt → List Dt → Dt → Option (List Dt × List Dt)) (x0 : List Dt) (x1 x2 : Int) (x3 : List Dt) (x4 x5 : Int) (x6 x7 : List Dt) (x8 : Dt) (x9 : List Dt) (x10 : Dt) : Option (List Dt × List Dt) :=
  rec24 x0 x1 x2 x3 x4 (IntKind.wrap .i64 (x5 + 1)) x6 x7 x8 x9 x10
noncomputable def i7_j25 (m : Nat) (rec21 : List Dt → Int → Int → List Dt → List Dt → Dt → List Dt → Option (List Dt × List Dt)) (rec24 : List Dt → Int → Int → List Dt → Int → Int → List Dt → List Dt → Dt → List Dt → Dt → Option (List Dt × List Dt)) (x0 : List Dt) (x1 x2 : Int) (x3 : List Dt) (x4 x5 : Int) (x6 x7 : List Dt) (x8 : Dt) (x9 : List Dt) (x10 : Dt) : Option (List Dt × List Dt) :=
  ((idx x3 x5).bind fun v24 =>
    ((strconv_Itoa x5).bind fun r25 =>
 ((slices_Concat m [(Dt.lst x9), (Dt.lst [(Dt.str r25)])]).bind fun r26 =>
 ((i22 m x10 v24 r26 x7).bind fun r27 =>
 i7_j26 m rec21 rec24 x0 x1 x2 x3 x4 x5 x6 r27 x8 x9 x10))))
noncomputable def i7_j27 (m : Nat) (rec21 : List Dt → Int → Int → List Dt → List Dt → Dt → List Dt → Option (List Dt × List Dt)) (x0 : List Dt) (x1 x2 : Int) (x3 x4 : List Dt) (x5 : Dt) (x6 : List Dt) : Option (List Dt × List Dt) :=
  rec21 x0 x1 (IntKind.wrap .i64 (x2 + 1)) x3 x4 x5 x6
noncomputable def i7_l24 (m : Nat) (rec21 : List Dt → Int → Int → List Dt → List Dt → Dt → List Dt → Option (List Dt × List Dt)) : Nat → List Dt → Int → Int → List Dt → Int → Int → List Dt → List Dt → Dt → List Dt → Dt → Option (List Dt × List Dt)
  | 0, _, _, _, _, _, _, _, _, _, _, _ => none
  | M24 + 1, x0, x1, x2, x3, x4, x5, x6, x7, x8, x9, x10 =>
    (bif (decide (x5 < x4)) then
    i7_j25 m rec21 (i7_l24 m rec21 M24) x0 x1 x2 x3 x4 x5 x6 x7 x8 x9 x10
  else
    i7_j27 m rec21 x0 x1 x2 x6 x7 x8 x9)
noncomputable def i7_j23 (m : Nat) (rec21 : List Dt → Int → Int → List Dt → List Dt → Dt → List Dt → Option (List Dt × List Dt)) (x0 : List Dt) (x1 x2 : Int) (x3 : List Dt) (x4 x5 : Int) (x6 x7 : List Dt) (x8 : Dt) (x9 : List Dt) (x10 : Dt) : Option (List Dt × List Dt) :=
  i7_l24 m rec21 (Nat.succ m) x0 x1 x2 x3 x4 x5 x6 x7 x8 x9 x10
noncomputable def i7_j22 (m : Nat) (rec21 : List Dt → Int → Int → List Dt → List Dt → Dt → List Dt → Option (List Dt × List Dt)) (x0 : List Dt) (x1 x2 : Int) (x3 x4 : List Dt) (x5 : Dt) (x6 : List Dt) : Option (List Dt × List Dt) :=
  ((idx x0 x2).bind fun v23 =>
    i7_j23 m rec21 x0 x1 x2 (Dt.L x5 3) (List.length (Dt.L x5 3) : Int) 0 x3 x4 x5 x6 v23)
noncomputable def i7_j28 (m : Nat) (x0 x1 : List Dt) : Option (List Dt × List Dt) :=
  some (x0, x1)
noncomputable def i7_l21 (m : Nat) : Nat → List Dt → Int → Int → List Dt → List Dt → Dt → List Dt → Option (List Dt × List Dt)
  | 0, _, _, _, _, _, _, _ => none
  | M21 + 1, x0, x1, x2, x3, x4, x5, x6 =>
    (bif (decide (x2 < x1)) then
    i7_j22 m (i7_l21 m M21) x0 x1 x2 x3 x4 x5 x6
  else
    i7_j28 m x3 x4)
noncomputable def i7_j20 (m : Nat) (x0 : List Dt) (x1 x2 : Int) (x3 x4 : List Dt) (x5 : Dt) (x6 : List Dt) : Option (List Dt × List Dt) :=
  i7_l21 m (Nat.succ m) x0 x1 x2 x3 x4 x5 x6
noncomputable def i7_j19 (m : Nat) (x0 x1 : List Dt) (x2 x3 : Dt) (x4 : List Dt) : Option (List Dt × List Dt) :=
  i7_j20 m (Dt.L x2 11) (List.length (Dt.L x2 11) : Int) 0 x0 x1 x3 x4
noncomputable def i7_j18 (m : Nat) (x0 x1 : List Dt) (x2 x3 : Dt) (x4 : List Dt) : Option (List Dt × List Dt) :=
  (bif ((Dt.I x3 0) == 6) then
    (bif (Dt.B x2 12) then
 ((schema_repeats m (Dt.L x3 3)).bind fun r21 =>
 ((i15 m r21 8 [] x1 x4).bind fun r22 =>
 i7_j19 m x0 r22.2 x2 x3 r22.1))
    else
 ((i15 m false 8 [] x1 x4).bind fun r28 =>
 i7_j19 m x0 r28.2 x2 x3 r28.1))
  else
    i7_j28 m x0 x1)
noncomputable def i7_l15 (m : Nat) : Nat → List Dt → Int → Int → List Dt → List Dt → Dt → Dt → List Dt → Option (List Dt × List Dt)
  | 0, _, _, _, _, _, _, _, _ => none
  | M15 + 1, x0, x1, x2, x3, x4, x5, x6, x7 =>
    (bif (decide (x2 < x1)) then
    i7_j16 m (i7_l15 m M15) x0 x1 x2 x3 x4 x5 x6 x7
  else
    i7_j18 m x3 x4 x5 x6 x7)
noncomputable def i7_j14 (m : Nat) (x0 : List Dt) (x1 x2 : Int) (x3 x4 : List Dt) (x5 x6 : Dt) (x7 : List Dt) : Option (List Dt × List Dt) :=
  i7_l15 m (Nat.succ m) x0 x1 x2 x3 x4 x5 x6 x7
noncomputable def i7_j13 (m : Nat) (x0 x1 : List Dt) (x2 x3 : Dt) (x4 : List Dt) : Option (List Dt × List Dt) :=
  i7_j14 m (Dt.L x2 9) (List.length (Dt.L x2 9) : Int) 0 x0 x1 x2 x3 x4
noncomputable def i7_l10 (m : Nat) : Nat → List Dt → Int → Int → List Dt → List Dt → Dt → Dt → List Dt → Option (List Dt × List Dt)
  | 0, _, _, _, _, _, _, _, _ => none
  | M10 + 1, x0, x1, x2, x3, x4, x5, x6, x7 =>
    (bif (decide (x2 < x1)) then
    i7_j11 m (i7_l10 m M10) x0 x1 x2 x3 x4 x5 x6 x7
  else
    i7_j13 m x3 x4 x5 x6 x7)
noncomputable def i7_j9 (m : Nat) (x0 : List Dt) (x1 x2 : Int) (x3 x4 : List Dt) (x5 x6 : Dt) (x7 : List Dt) : Option (List Dt × List Dt) :=
  i7_l10 m (Nat.succ m) x0 x1 x2 x3 x4 x5 x6 x7
noncomputable def i7_j8 (m : Nat) (x0 x1 : List Dt) (x2 x3 : Dt) (x4 : List Dt) : Option (List Dt × List Dt) :=
  i7_j9 m (Dt.L x3 4) (List.length (Dt.L x3 4) : Int) 0 x0 x1 x2 x3 x4
noncomputable def i7_l5 (m : Nat) : Nat → List Dt → Int → Int → List Dt → List Dt → Dt → Dt → List Dt → Option (List Dt × List Dt)
  | 0, _, _, _, _, _, _, _, _ => none
  | M5 + 1, x0, x1, x2, x3, x4, x5, x6, x7 =>
    (bif (decide (x2 < x1)) then
    i7_j6 m (i7_l5 m M5) x0 x1 x2 x3 x4 x5 x6 x7
  else
    i7_j8 m x3 x4 x5 x6 x7)
noncomputable def i7_j4 (m : Nat) (x0 : List Dt) (x1 x2 : Int) (x3 x4 : List Dt) (x5 x6 : Dt) (x7 : List Dt) : Option (List Dt × List Dt) :=
  i7_l5 m (Nat.succ m) x0 x1 x2 x3 x4 x5 x6 x7
noncomputable def i7_j3 (m : Nat) (x0 x1 : List Dt) (x2 x3 : Dt) (x4 : List Dt) : Option (List Dt × List Dt) :=
  (bif ((Dt.I x3 0) == 5) then
    i7_j4 m (Dt.L x2 8) (List.length (Dt.L x2 8) : Int) 0 x0 x1 x2 x3 x4
  else
    i7_j18 m x0 x1 x2 x3 x4)
noncomputable def i7_j2 (m : Nat) (x0 x1 : List Dt) (x2 x3 : Dt) (x4 : List Dt) : Option (List Dt × List Dt) :=
  ((schema_length m x3).bind fun r8 =>
    (bif r8.2 then
 (bif (decide (r8.1 < (Dt.I x2 6))) then
 ((i15 m true 5 [] x1 x4).bind fun r9 =>
 i7_j3 m x0 r9.2 x2 x3 r9.1)
 else
 (bif (decide (0 ≤ (Dt.I x2 7))) then
 ((i15 m (decide ((Dt.I x2 7) < r8.1)) 5 [] x1 x4).bind fun r29 =>
 i7_j3 m x0 r29.2 x2 x3 r29.1)
 else
 ((i15 m false 5 [] x1 x4).bind fun r30 =>
 i7_j3 m x0 r30.2 x2 x3 r30.1)))
    else
 ((i15 m false 5 [] x1 x4).bind fun r31 =>
 i7_j3 m x0 r31.2 x2 x3 r31.1)))
noncomputable def i7_j1 (m : Nat) (x0 x1 : List Dt) (x2 x3 : Dt) (x4 : List Dt) : Option (List Dt × List Dt) :=
  (bif (Dt.B x2 3) then
    ((value_Compare m x3 (Dt.fld x2 4)).bind fun r6 =>
 ((i15 m (decide (0 < r6)) 4 [] x1 x4).bind fun r7 =>
 i7_j2 m x0 r7.2 x2 x3 r7.1))
  else
    ((i15 m false 4 [] x1 x4).bind fun r32 =>
 i7_j2 m x0 r32.2 x2 x3 r32.1))
noncomputable def i7_j0 (m : Nat) (x0 x1 : List Dt) (x2 x3 : Dt) (x4 : List Dt) : Option (List Dt × List Dt) :=
  (bif (Dt.B x2 1) then
    ((value_Compare m x3 (Dt.fld x2 2)).bind fun r4 =>
 ((i15 m (decide (r4 < 0)) 3 [] x1 x4).bind fun r5 =>
 i7_j1 m x0 r5.2 x2 x3 r5.1))
  else
    ((i15 m false 3 [] x1 x4).bind fun r33 =>
 i7_j1 m x0 r33.2 x2 x3 r33.1))
noncomputable def i7 : Nat → Dt → Dt → List Dt → List Dt → Option (List Dt × List Dt)
  | 0, _, _, _, _ => none
  | m + 1, a0, a1, a2, a3 =>
    ((schema_hasKind m (Dt.I a0 0) (Dt.I a1 0)).bind fun r0 =>
    ((i9 m (Bool.not r0) 1 [] a2 a3).bind fun r1 =>
 (bif (decide (0 < (List.length (Dt.L a0 5) : Int))) then
 ((i11 m (Dt.L a0 5) a1).bind fun r2 =>
 ((i15 m (Bool.not r2) 2 [] r1.2.2 r1.1).bind fun r3 =>
 i7_j0 m r1.2.1 r3.2 a0 a1 r3.1))
 else
 ((i15 m false 2 [] r1.2.2 r1.1).bind fun r34 =>
 i7_j0 m r1.2.1 r34.2 a0 a1 r34.1))))
noncomputable def value_nodes_j0 (m : Nat) (self49 : Dt → Int → Int → Option (Int × Int)) (x0 : Dt) (x1 x2 : Int) : Option Int :=
  ((self49 x0 x2 x1).bind fun r0 =>
    some r0.1)
noncomputable def i49_j3 (m : Nat) (self50 : Dt → Int → Int → Option (Bool × Int × Int)) (rec1 : List Dt → Int → Int → Int → Int → Option (Int × Int)) (x0 : List Dt) (x1 x2 x3 x4 : Int) : Option (Int × Int) :=
  rec1 x0 x1 (IntKind.wrap .i64 (x2 + 1)) x3 x4
noncomputable def i49_j2 (m : Nat) (self50 : Dt → Int → Int → Option (Bool × Int × Int)) (rec1 : List Dt → Int → Int → Int → Int → Option (Int × Int)) (x0 : List Dt) (x1 x2 x3 x4 : Int) : Option (Int × Int) :=
  ((idx x0 x2).bind fun v0 =>
    ((self50 v0 x3 x4).bind fun r1 =>
 (bif (Bool.not r1.1) then
 some (r1.2.1, r1.2.2)
 else
 i49_j3 m self50 rec1 x0 x1 x2 r1.2.1 r1.2.2)))
noncomputable def i49_l1 (m : Nat) (self50 : Dt → Int → Int → Option (Bool × Int × Int)) : Nat → List Dt → Int → Int → Int → Int → Option (Int × Int)
  | 0, _, _, _, _, _ => none
  | M1 + 1, x0, x1, x2, x3, x4 =>
    (bif (decide (x2 < x1)) then
    i49_j2 m self50 (i49_l1 m self50 M1) x0 x1 x2 x3 x4
  else
    some (x3, x4))
noncomputable def i49_j0 (m : Nat) (self50 : Dt → Int → Int → Option (Bool × Int × Int)) (x0 : List Dt) (x1 x2 x3 x4 : Int) : Option (Int × Int) :=
  i49_l1 m self50 (Nat.succ m) x0 x1 x2 x3 x4
noncomputable def i49_j7 (m : Nat) (self50 : Dt → Int → Int → Option (Bool × Int × Int)) (rec5 : List Dt → Int → Int → Int → Int → Option (Int × Int)) (x0 : List Dt) (x1 x2 x3 x4 : Int) : Option (Int × Int) :=
  rec5 x0 x1 (IntKind.wrap .i64 (x2 + 1)) x3 x4
noncomputable def i49_j6 (m : Nat) (self50 : Dt → Int → Int → Option (Bool × Int × Int)) (rec5 : List Dt → Int → Int → Int → Int → Option (Int × Int)) (x0 : List Dt) (x1 x2 x3 x4 : Int) : Option (Int × Int) :=
  ((idx x0 x2).bind fun v2 =>
    ((self50 (Dt.fld v2 1) x3 x4).bind fun r3 =>
 (bif (Bool.not r3.1) then
 some (r3.2.1, r3.2.2)
 else
 i49_j7 m self50 rec5 x0 x1 x2 r3.2.1 r3.2.2)))
noncomputable def i49_l5 (m : Nat) (self50 : Dt → Int → Int → Option (Bool × Int × Int)) : Nat → List Dt → Int → Int → Int → Int → Option (Int × Int)
  | 0, _, _, _, _, _ => none
  | M5 + 1, x0, x1, x2, x3, x4 =>
    (bif (decide (x2 < x1)) then
    i49_j6 m self50 (i49_l5 m self50 M5) x0 x1 x2 x3 x4
  else
    some (x3, x4))
noncomputable def i49_j4 (m : Nat) (self50 : Dt → Int → Int → Option (Bool × Int × Int)) (x0 : List Dt) (x1 x2 x3 x4 : Int) : Option (Int × Int) :=
  i49_l5 m self50 (Nat.succ m) x0 x1 x2 x3 x4
mutual
noncomputable def value_nodes : Nat → Dt → Int → Option Int
  | 0, _, _ => none
  | m + 1, a0, a1 =>
    (bif (1 == a1) then
    some 1
  else
    value_nodes_j0 m (i49 m) a0 a1 1)
noncomputable def i49 : Nat → Dt → Int → Int → Option (Int × Int)
  | 0, _, _, _ => none
  | m + 1, a0, a1, a2 =>
    (bif ((Dt.I a0 0) == 6) then
    i49_j0 m (i50 m) (Dt.L a0 3) (List.length (Dt.L a0 3) : Int) 0 a1 a2
  else
    (bif ((Dt.I a0 0) == 5) then
 i49_j4 m (i50 m) (Dt.L a0 4) (List.length (Dt.L a0 4) : Int) 0 a1 a2
    else
 some (a1, a2)))
noncomputable def i50 : Nat → Dt → Int → Int → Option (Bool × Int × Int)
  | 0, _, _, _ => none
  | m + 1, a0, a1, a2 =>
    ((value_nodes m a0 (IntKind.wrap .i64 (a2 - a1))).bind fun r0 =>
    some ((decide ((IntKind.wrap .i64 (a1 + r0)) < a2)), (IntKind.wrap .i64 (a1 + r0)), a2))
end
noncomputable def value_Nodes : Nat → Dt → Option Int
  | 0, _ => none
  | m + 1, a0 =>
    ((value_nodes m a0 1025).bind fun r0 =>
    some r0)
noncomputable def value_depth_j0 (m : Nat) (self51 : Dt → Int → Int → Option (Int × Int)) (x0 : Dt) (x1 : Int) : Option Int :=
  ((self51 x0 0 x1).bind fun r0 =>
    some (IntKind.wrap .i64 (1 + r0.1)))
noncomputable def i51_j3 (m : Nat) (self52 : Dt → Int → Int → Option (Bool × Int × Int)) (rec1 : List Dt → Int → Int → Int → Int → Option (Int × Int)) (x0 : List Dt) (x1 x2 x3 x4 : Int) : Option (Int × Int) :=
  rec1 x0 x1 (IntKind.wrap .i64 (x2 + 1)) x3 x4
noncomputable def i51_j2 (m : Nat) (self52 : Dt → Int → Int → Option (Bool × Int × Int)) (rec1 : List Dt → Int → Int → Int → Int → Option (Int × Int)) (x0 : List Dt) (x1 x2 x3 x4 : Int) : Option (Int × Int) :=
  ((idx x0 x2).bind fun v0 =>
    ((self52 v0 x3 x4).bind fun r1 =>
 (bif (Bool.not r1.1) then
 some (r1.2.1, r1.2.2)
 else
 i51_j3 m self52 rec1 x0 x1 x2 r1.2.1 r1.2.2)))
noncomputable def i51_l1 (m : Nat) (self52 : Dt → Int → Int → Option (Bool × Int × Int)) : Nat → List Dt → Int → Int → Int → Int → Option (Int × Int)
  | 0, _, _, _, _, _ => none
  | M1 + 1, x0, x1, x2, x3, x4 =>
    (bif (decide (x2 < x1)) then
    i51_j2 m self52 (i51_l1 m self52 M1) x0 x1 x2 x3 x4
  else
    some (x3, x4))
noncomputable def i51_j0 (m : Nat) (self52 : Dt → Int → Int → Option (Bool × Int × Int)) (x0 : List Dt) (x1 x2 x3 x4 : Int) : Option (Int × Int) :=
  i51_l1 m self52 (Nat.succ m) x0 x1 x2 x3 x4
noncomputable def i51_j7 (m : Nat) (self52 : Dt → Int → Int → Option (Bool × Int × Int)) (rec5 : List Dt → Int → Int → Int → Int → Option (Int × Int)) (x0 : List Dt) (x1 x2 x3 x4 : Int) : Option (Int × Int) :=
  rec5 x0 x1 (IntKind.wrap .i64 (x2 + 1)) x3 x4
noncomputable def i51_j6 (m : Nat) (self52 : Dt → Int → Int → Option (Bool × Int × Int)) (rec5 : List Dt → Int → Int → Int → Int → Option (Int × Int)) (x0 : List Dt) (x1 x2 x3 x4 : Int) : Option (Int × Int) :=
  ((idx x0 x2).bind fun v2 =>
    ((self52 (Dt.fld v2 1) x3 x4).bind fun r3 =>
 (bif (Bool.not r3.1) then
 some (r3.2.1, r3.2.2)
 else
 i51_j7 m self52 rec5 x0 x1 x2 r3.2.1 r3.2.2)))
noncomputable def i51_l5 (m : Nat) (self52 : Dt → Int → Int → Option (Bool × Int × Int)) : Nat → List Dt → Int → Int → Int → Int → Option (Int × Int)
  | 0, _, _, _, _, _ => none
  | M5 + 1, x0, x1, x2, x3, x4 =>
    (bif (decide (x2 < x1)) then
    i51_j6 m self52 (i51_l5 m self52 M5) x0 x1 x2 x3 x4
  else
    some (x3, x4))
noncomputable def i51_j4 (m : Nat) (self52 : Dt → Int → Int → Option (Bool × Int × Int)) (x0 : List Dt) (x1 x2 x3 x4 : Int) : Option (Int × Int) :=
  i51_l5 m self52 (Nat.succ m) x0 x1 x2 x3 x4
mutual
noncomputable def value_depth : Nat → Dt → Int → Option Int
  | 0, _, _ => none
  | m + 1, a0, a1 =>
    (bif (a1 == 1) then
    some 1
  else
    value_depth_j0 m (i51 m) a0 a1)
noncomputable def i51 : Nat → Dt → Int → Int → Option (Int × Int)
  | 0, _, _, _ => none
  | m + 1, a0, a1, a2 =>
    (bif ((Dt.I a0 0) == 6) then
    i51_j0 m (i52 m) (Dt.L a0 3) (List.length (Dt.L a0 3) : Int) 0 a1 a2
  else
    (bif ((Dt.I a0 0) == 5) then
 i51_j4 m (i52 m) (Dt.L a0 4) (List.length (Dt.L a0 4) : Int) 0 a1 a2
    else
 some (a1, a2)))
noncomputable def i52 : Nat → Dt → Int → Int → Option (Bool × Int × Int)
  | 0, _, _, _ => none
  | m + 1, a0, a1, a2 =>
    ((value_depth m a0 (IntKind.wrap .i64 (a2 - 1))).bind fun r0 =>
    some ((decide ((bif (decide (a1 < r0)) then r0 else a1) < (IntKind.wrap .i64 (a2 - 1)))), (bif (decide (a1 < r0)) then r0 else a1), a2))
end
noncomputable def value_Depth : Nat → Dt → Option Int
  | 0, _ => none
  | m + 1, a0 =>
    ((value_depth m a0 17).bind fun r0 =>
    some r0)
noncomputable def value_isName_j6 (m : Nat) (rec3 : ByteArray → Int → Int → Option Bool) (x0 : ByteArray) (x1 x2 : Int) : Option Bool :=
  rec3 x0 x1 (IntKind.wrap .i64 (x2 + 1))
noncomputable def value_isName_j5 (m : Nat) (rec3 : ByteArray → Int → Int → Option Bool) (x0 : ByteArray) (x1 x2 : Int) (x3 : Bool) : Option Bool :=
  (bif x3 then
    some false
  else
    value_isName_j6 m rec3 x0 x1 x2)
noncomputable def value_isName_j4 (m : Nat) (rec3 : ByteArray → Int → Int → Option Bool) (x0 : ByteArray) (x1 x2 : Int) : Option Bool :=
  ((idxS x0 x2).bind fun v0 =>
    (bif (decide (v0 < 33)) then
 value_isName_j5 m rec3 x0 x1 x2 true
    else
 ((idxS x0 x2).bind fun v1 =>
 (bif (decide (126 < v1)) then
 value_isName_j5 m rec3 x0 x1 x2 true
 else
 ((idxS x0 x2).bind fun v2 =>
 value_isName_j5 m rec3 x0 x1 x2 (v2 == 46))))))
noncomputable def value_isName_j7 (m : Nat) : Option Bool :=
  some true
noncomputable def value_isName_l3 (m : Nat) : Nat → ByteArray → Int → Int → Option Bool
  | 0, _, _, _ => none
  | M3 + 1, x0, x1, x2 =>
    (bif (decide (x2 < x1)) then
    value_isName_j4 m (value_isName_l3 m M3) x0 x1 x2
  else
    value_isName_j7 m)
noncomputable def value_isName_j2 (m : Nat) (x0 : ByteArray) (x1 x2 : Int) : Option Bool :=
  value_isName_l3 m (Nat.succ m) x0 x1 x2
noncomputable def value_isName_j1 (m : Nat) (x0 : ByteArray) : Option Bool :=
  value_isName_j2 m x0 (ByteArray.size x0 : Int) 0
noncomputable def value_isName_j0 (m : Nat) (x0 : ByteArray) (x1 : Bool) : Option Bool :=
  (bif x1 then
    some false
  else
    value_isName_j1 m x0)
noncomputable def value_isName : Nat → ByteArray → Option Bool
  | 0, _ => none
  | m + 1, a0 =>
    (bif (decide ((ByteArray.size a0 : Int) < 1)) then
    value_isName_j0 m a0 true
  else
    (bif (decide (32 < (ByteArray.size a0 : Int))) then
 value_isName_j0 m a0 true
    else
 ((idxS a0 0).bind fun v3 =>
 value_isName_j0 m a0 (v3 == 36))))
noncomputable def value_sound_j10 (m : Nat) (self44 : Dt → Option Bool) (self48 : List Dt → Option Bool) (rec8 : List Dt → Int → Int → Option Bool) (x0 : List Dt) (x1 x2 : Int) : Option Bool :=
  rec8 x0 x1 (IntKind.wrap .i64 (x2 + 1))
noncomputable def value_sound_j9 (m : Nat) (self44 : Dt → Option Bool) (self48 : List Dt → Option Bool) (rec8 : List Dt → Int → Int → Option Bool) (x0 : List Dt) (x1 x2 : Int) : Option Bool :=
  ((idx x0 x2).bind fun v1 =>
    ((self44 v1).bind fun r2 =>
 (bif (Bool.not r2) then
 some false
 else
 value_sound_j10 m self44 self48 rec8 x0 x1 x2)))
noncomputable def value_sound_j11 (m : Nat) (self44 : Dt → Option Bool) (self48 : List Dt → Option Bool) : Option Bool :=
  some true
noncomputable def value_sound_l8 (m : Nat) (self44 : Dt → Option Bool) (self48 : List Dt → Option Bool) : Nat → List Dt → Int → Int → Option Bool
  | 0, _, _, _ => none
  | M8 + 1, x0, x1, x2 =>
    (bif (decide (x2 < x1)) then
    value_sound_j9 m self44 self48 (value_sound_l8 m self44 self48 M8) x0 x1 x2
  else
    value_sound_j11 m self44 self48)
noncomputable def value_sound_j7 (m : Nat) (self44 : Dt → Option Bool) (self48 : List Dt → Option Bool) (x0 : List Dt) (x1 x2 : Int) : Option Bool :=
  value_sound_l8 m self44 self48 (Nat.succ m) x0 x1 x2
noncomputable def value_sound_j12 (m : Nat) (self44 : Dt → Option Bool) (self48 : List Dt → Option Bool) : Option Bool :=
  some false
noncomputable def value_sound_j6 (m : Nat) (self44 : Dt → Option Bool) (self48 : List Dt → Option Bool) (x0 : Int) (x1 : Bool) (x2 : Dt) : Option Bool :=
  (bif x1 then
    some true
  else
    (bif (x0 == 9) then
 (bif ((Dt.I x2 1) == 0) then
 some true
 else
 some ((Dt.I x2 1) == 1))
    else
 (bif (x0 == 10) then
 some (decide (0 ≤ (Dt.I x2 1)))
 else
 (bif (x0 == 4) then
 (bif (decide ((ByteArray.size (Dt.S x2 2) : Int) ≤ 4096)) then
 ((utf8_ValidString (Dt.S x2 2)).bind fun r0 =>
 some r0)
 else
 some false)
 else
 (bif (x0 == 7) then
 some (decide ((ByteArray.size (Dt.S x2 2) : Int) ≤ 4096))
 else
 (bif (x0 == 8) then
 some ((ByteArray.size (Dt.S x2 2) : Int) == 12)
 else
 (bif (x0 == 6) then
 value_sound_j7 m self44 self48 (Dt.L x2 3) (List.length (Dt.L x2 3) : Int) 0
 else
 (bif (x0 == 5) then
 ((self48 (Dt.L x2 4)).bind fun r3 =>
 some r3)
 else
 value_sound_j12 m self44 self48))))))))
noncomputable def value_sound_j5 (m : Nat) (self44 : Dt → Option Bool) (self48 : List Dt → Option Bool) (x0 : Dt) : Option Bool :=
  (bif ((Dt.I x0 0) == 1) then
    value_sound_j6 m self44 self48 (Dt.I x0 0) ((Dt.I x0 0) == 1) x0
  else
    (bif ((Dt.I x0 0) == 2) then
 value_sound_j6 m self44 self48 (Dt.I x0 0) ((Dt.I x0 0) == 2) x0
    else
 (bif ((Dt.I x0 0) == 11) then
 value_sound_j6 m self44 self48 (Dt.I x0 0) ((Dt.I x0 0) == 11) x0
 else
 value_sound_j6 m self44 self48 (Dt.I x0 0) ((Dt.I x0 0) == 3) x0)))
noncomputable def value_sound_j4 (m : Nat) (self44 : Dt → Option Bool) (self48 : List Dt → Option Bool) (x0 : Bool) (x1 : Dt) : Option Bool :=
  (bif x0 then
    some false
  else
    value_sound_j5 m self44 self48 x1)
noncomputable def value_sound_j3 (m : Nat) (self44 : Dt → Option Bool) (self48 : List Dt → Option Bool) (x0 : Dt) : Option Bool :=
  (bif ((Dt.I x0 0) != 6) then
    (bif (decide (0 < (List.length (Dt.L x0 3) : Int))) then
 value_sound_j4 m self44 self48 true x0
    else
 (bif ((Dt.I x0 0) != 5) then
 value_sound_j4 m self44 self48 (decide (0 < (List.length (Dt.L x0 4) : Int))) x0
 else
 value_sound_j4 m self44 self48 false x0))
  else
    (bif ((Dt.I x0 0) != 5) then
 value_sound_j4 m self44 self48 (decide (0 < (List.length (Dt.L x0 4) : Int))) x0
    else
 value_sound_j4 m self44 self48 false x0))
noncomputable def value_sound_j2 (m : Nat) (self44 : Dt → Option Bool) (self48 : List Dt → Option Bool) (x0 : Bool) (x1 : Dt) : Option Bool :=
  (bif x0 then
    some false
  else
    value_sound_j3 m self44 self48 x1)
noncomputable def value_sound_j1 (m : Nat) (self44 : Dt → Option Bool) (self48 : List Dt → Option Bool) (x0 x1 : Bool) (x2 : Dt) : Option Bool :=
  (bif (Bool.not x0) then
    (bif ((Dt.I x2 1) != 0) then
 value_sound_j2 m self44 self48 true x2
    else
 (bif (Bool.not x1) then
 value_sound_j2 m self44 self48 (Bool.not ((ByteArray.toList (Dt.S x2 2)) == [])) x2
 else
 value_sound_j2 m self44 self48 false x2))
  else
    (bif (Bool.not x1) then
 value_sound_j2 m self44 self48 (Bool.not ((ByteArray.toList (Dt.S x2 2)) == [])) x2
    else
 value_sound_j2 m self44 self48 false x2))
noncomputable def value_sound_j0 (m : Nat) (self44 : Dt → Option Bool) (self48 : List Dt → Option Bool) (x0 : Bool) (x1 : Dt) : Option Bool :=
  (bif ((Dt.I x1 0) == 4) then
    value_sound_j1 m self44 self48 x0 true x1
  else
    (bif ((Dt.I x1 0) == 7) then
 value_sound_j1 m self44 self48 x0 true x1
    else
 value_sound_j1 m self44 self48 x0 ((Dt.I x1 0) == 8) x1))
noncomputable def value_soundFields_j5 (m : Nat) (self44 : Dt → Option Bool) (rec1 : List Dt → Int → Int → List Dt → Option Bool) (x0 : List Dt) (x1 x2 : Int) (x3 : List Dt) : Option Bool :=
  rec1 x0 x1 (IntKind.wrap .i64 (x2 + 1)) x3
noncomputable def value_soundFields_j4 (m : Nat) (self44 : Dt → Option Bool) (rec1 : List Dt → Int → Int → List Dt → Option Bool) (x0 : List Dt) (x1 x2 : Int) (x3 : List Dt) (x4 : Dt) : Option Bool :=
  value_soundFields_j5 m self44 rec1 x0 x1 x2 (mput x3 (Dt.S x4 0) (Dt.bool true))
noncomputable def value_soundFields_j3 (m : Nat) (self44 : Dt → Option Bool) (rec1 : List Dt → Int → Int → List Dt → Option Bool) (x0 : List Dt) (x1 x2 : Int) (x3 : Bool) (x4 : List Dt) (x5 : Dt) : Option Bool :=
  (bif x3 then
    some false
  else
    value_soundFields_j4 m self44 rec1 x0 x1 x2 x4 x5)
noncomputable def value_soundFields_j2 (m : Nat) (self44 : Dt → Option Bool) (rec1 : List Dt → Int → Int → List Dt → Option Bool) (x0 : List Dt) (x1 x2 : Int) (x3 : List Dt) : Option Bool :=
  ((idx x0 x2).bind fun v0 =>
    ((value_isName m (Dt.S v0 0)).bind fun r1 =>
 (bif (Bool.not r1) then
 value_soundFields_j3 m self44 rec1 x0 x1 x2 true x3 v0
 else
 (bif (Dt.toBool (mgetD x3 (Dt.S v0 0) (Dt.bool false))) then
 value_soundFields_j3 m self44 rec1 x0 x1 x2 true x3 v0
 else
 ((self44 (Dt.fld v0 1)).bind fun r2 =>
 value_soundFields_j3 m self44 rec1 x0 x1 x2 (Bool.not r2) x3 v0)))))
noncomputable def value_soundFields_j6 (m : Nat) (self44 : Dt → Option Bool) : Option Bool :=
  some true
noncomputable def value_soundFields_l1 (m : Nat) (self44 : Dt → Option Bool) : Nat → List Dt → Int → Int → List Dt → Option Bool
  | 0, _, _, _, _ => none
  | M1 + 1, x0, x1, x2, x3 =>
    (bif (decide (x2 < x1)) then
    value_soundFields_j2 m self44 (value_soundFields_l1 m self44 M1) x0 x1 x2 x3
  else
    value_soundFields_j6 m self44)
noncomputable def value_soundFields_j0 (m : Nat) (self44 : Dt → Option Bool) (x0 : List Dt) (x1 x2 : Int) (x3 : List Dt) : Option Bool :=
  value_soundFields_l1 m self44 (Nat.succ m) x0 x1 x2 x3
mutual
noncomputable def value_sound : Nat → Dt → Option Bool
  | 0, _ => none
  | m + 1, a0 =>
    (bif ((Dt.I a0 0) == 3) then
    value_sound_j0 m (value_sound m) (value_soundFields m) true a0
  else
    (bif ((Dt.I a0 0) == 9) then
 value_sound_j0 m (value_sound m) (value_soundFields m) true a0
    else
 value_sound_j0 m (value_sound m) (value_soundFields m) ((Dt.I a0 0) == 10) a0))
noncomputable def value_soundFields : Nat → List Dt → Option Bool
  | 0, _ => none
  | m + 1, a0 =>
    value_soundFields_j0 m (value_sound m) a0 (List.length a0 : Int) 0 []
end
noncomputable def value_Valid : Nat → Dt → Option Bool
  | 0, _ => none
  | m + 1, a0 =>
    ((value_Nodes m a0).bind fun r0 =>
    (bif (decide (r0 ≤ 1024)) then
 ((value_Depth m a0).bind fun r1 =>
 (bif (decide (r1 ≤ 16)) then
 ((value_sound m a0).bind fun r2 =>
 some r2)
 else
 some false))
    else
 some false))
noncomputable def schema_bound_j0 (m : Nat) (x0 : Dt) : Option Bool :=
  (bif ((Dt.I x0 0) == 0) then
    (bif ((Dt.I x0 1) == 0) then
 (bif ((ByteArray.toList (Dt.S x0 2)) == []) then
 (bif ((List.length (Dt.L x0 3) : Int) == 0) then
 some ((List.length (Dt.L x0 4) : Int) == 0)
 else
 some false)
 else
 some false)
    else
 some false)
  else
    some false)
noncomputable def schema_bound : Nat → Bool → Dt → Option Bool
  | 0, _, _ => none
  | m + 1, a0, a1 =>
    (bif a0 then
    ((value_Valid m a1).bind fun r0 =>
 some r0)
  else
    schema_bound_j0 m a1)
noncomputable def schema_checkOne_j5 (m : Nat) (rec1 : List Dt → Int → Int → Dt → List Dt → Option Int) (x0 : List Dt) (x1 x2 : Int) (x3 : Dt) (x4 : List Dt) : Option Int :=
  rec1 x0 x1 (IntKind.wrap .i64 (x2 + 1)) x3 x4
noncomputable def schema_checkOne_j4 (m : Nat) (rec1 : List Dt → Int → Int → Dt → List Dt → Option Int) (x0 : ByteArray) (x1 : List Dt) (x2 x3 : Int) (x4 : Dt) (x5 : List Dt) : Option Int :=
  schema_checkOne_j5 m rec1 x1 x2 x3 x4 (mput x5 x0 (Dt.bool true))
noncomputable def schema_checkOne_j3 (m : Nat) (rec1 : List Dt → Int → Int → Dt → List Dt → Option Int) (x0 : ByteArray) (x1 : List Dt) (x2 x3 : Int) (x4 : Bool) (x5 : Dt) (x6 : List Dt) : Option Int :=
  (bif x4 then
    some 9
  else
    schema_checkOne_j4 m rec1 x0 x1 x2 x3 x5 x6)
noncomputable def schema_checkOne_j2 (m : Nat) (rec1 : List Dt → Int → Int → Dt → List Dt → Option Int) (x0 : List Dt) (x1 x2 : Int) (x3 : Dt) (x4 : List Dt) : Option Int :=
  ((idx x0 x2).bind fun v0 =>
    ((schema_isName m (Dt.toStr v0)).bind fun r1 =>
 (bif (Bool.not r1) then
 schema_checkOne_j3 m rec1 (Dt.toStr v0) x0 x1 x2 true x3 x4
 else
 schema_checkOne_j3 m rec1 (Dt.toStr v0) x0 x1 x2 (Dt.toBool (mgetD x4 (Dt.toStr v0) (Dt.bool false))) x3 x4)))
noncomputable def schema_checkOne_j12 (m : Nat) (rec8 : List Dt → Int → Int → Dt → List Dt → Option Int) (x0 : List Dt) (x1 x2 : Int) (x3 : Dt) (x4 : List Dt) : Option Int :=
  rec8 x0 x1 (IntKind.wrap .i64 (x2 + 1)) x3 x4
noncomputable def schema_checkOne_j11 (m : Nat) (rec8 : List Dt → Int → Int → Dt → List Dt → Option Int) (x0 : List Dt) (x1 x2 : Int) (x3 : Dt) (x4 : List Dt) (x5 : Dt) : Option Int :=
  schema_checkOne_j12 m rec8 x0 x1 x2 x3 (mput x4 (Dt.S x5 0) (Dt.bool true))
noncomputable def schema_checkOne_j10 (m : Nat) (rec8 : List Dt → Int → Int → Dt → List Dt → Option Int) (x0 : List Dt) (x1 x2 : Int) (x3 : Bool) (x4 : Dt) (x5 : List Dt) (x6 : Dt) : Option Int :=
  (bif x3 then
    some 9
  else
    schema_checkOne_j11 m rec8 x0 x1 x2 x4 x5 x6)
noncomputable def schema_checkOne_j9 (m : Nat) (rec8 : List Dt → Int → Int → Dt → List Dt → Option Int) (x0 : List Dt) (x1 x2 : Int) (x3 : Dt) (x4 : List Dt) : Option Int :=
  ((idx x0 x2).bind fun v2 =>
    ((schema_isName m (Dt.S v2 0)).bind fun r3 =>
 (bif (Bool.not r3) then
 schema_checkOne_j10 m rec8 x0 x1 x2 true x3 x4 v2
 else
 schema_checkOne_j10 m rec8 x0 x1 x2 (Dt.toBool (mgetD x4 (Dt.S v2 0) (Dt.bool false))) x3 x4 v2)))
noncomputable def schema_checkOne_j21 (m : Nat) (rec19 : List Dt → Int → Int → Option Int) (x0 : List Dt) (x1 x2 : Int) : Option Int :=
  rec19 x0 x1 (IntKind.wrap .i64 (x2 + 1))
noncomputable def schema_checkOne_j20 (m : Nat) (rec19 : List Dt → Int → Int → Option Int) (x0 : List Dt) (x1 x2 : Int) : Option Int :=
  ((idx x0 x2).bind fun v5 =>
    ((value_Valid m v5).bind fun r6 =>
 (bif (Bool.not r6) then
 some 8
 else
 schema_checkOne_j21 m rec19 x0 x1 x2)))
noncomputable def schema_checkOne_j22 (m : Nat) : Option Int :=
  some 0
noncomputable def schema_checkOne_l19 (m : Nat) : Nat → List Dt → Int → Int → Option Int
  | 0, _, _, _ => none
  | M19 + 1, x0, x1, x2 =>
    (bif (decide (x2 < x1)) then
    schema_checkOne_j20 m (schema_checkOne_l19 m M19) x0 x1 x2
  else
    schema_checkOne_j22 m)
noncomputable def schema_checkOne_j18 (m : Nat) (x0 : List Dt) (x1 x2 : Int) : Option Int :=
  schema_checkOne_l19 m (Nat.succ m) x0 x1 x2
noncomputable def schema_checkOne_j17 (m : Nat) (x0 : Dt) : Option Int :=
  schema_checkOne_j18 m (Dt.L x0 5) (List.length (Dt.L x0 5) : Int) 0
noncomputable def schema_checkOne_j16 (m : Nat) (x0 : Bool) (x1 : Dt) : Option Int :=
  (bif x0 then
    some 8
  else
    schema_checkOne_j17 m x1)
noncomputable def schema_checkOne_j15 (m : Nat) (x0 : Dt) : Option Int :=
  ((schema_bound m (Dt.B x0 1) (Dt.fld x0 2)).bind fun r4 =>
    (bif (Bool.not r4) then
 schema_checkOne_j16 m true x0
    else
 ((schema_bound m (Dt.B x0 3) (Dt.fld x0 4)).bind fun r7 =>
 schema_checkOne_j16 m (Bool.not r7) x0)))
noncomputable def schema_checkOne_j14 (m : Nat) (x0 : Bool) (x1 : Dt) : Option Int :=
  (bif x0 then
    some 1
  else
    schema_checkOne_j15 m x1)
noncomputable def schema_checkOne_j13 (m : Nat) (x0 : Dt) : Option Int :=
  (bif ((bicI IntKind.i64 (Dt.I x0 0) 4094) != 0) then
    schema_checkOne_j14 m true x0
  else
    (bif (decide ((Dt.I x0 6) < 0)) then
 schema_checkOne_j14 m true x0
    else
 (bif (decide ((Dt.I x0 7) < (-1))) then
 schema_checkOne_j14 m true x0
 else
 schema_checkOne_j14 m (decide (1 < (List.length (Dt.L x0 11) : Int))) x0)))
noncomputable def schema_checkOne_l8 (m : Nat) : Nat → List Dt → Int → Int → Dt → List Dt → Option Int
  | 0, _, _, _, _, _ => none
  | M8 + 1, x0, x1, x2, x3, x4 =>
    (bif (decide (x2 < x1)) then
    schema_checkOne_j9 m (schema_checkOne_l8 m M8) x0 x1 x2 x3 x4
  else
    schema_checkOne_j13 m x3)
noncomputable def schema_checkOne_j7 (m : Nat) (x0 : List Dt) (x1 x2 : Int) (x3 : Dt) (x4 : List Dt) : Option Int :=
  schema_checkOne_l8 m (Nat.succ m) x0 x1 x2 x3 x4
noncomputable def schema_checkOne_j6 (m : Nat) (x0 : Dt) : Option Int :=
  schema_checkOne_j7 m (Dt.L x0 9) (List.length (Dt.L x0 9) : Int) 0 x0 []
noncomputable def schema_checkOne_l1 (m : Nat) : Nat → List Dt → Int → Int → Dt → List Dt → Option Int
  | 0, _, _, _, _, _ => none
  | M1 + 1, x0, x1, x2, x3, x4 =>
    (bif (decide (x2 < x1)) then
    schema_checkOne_j2 m (schema_checkOne_l1 m M1) x0 x1 x2 x3 x4
  else
    schema_checkOne_j6 m x3)
noncomputable def schema_checkOne_j0 (m : Nat) (x0 : List Dt) (x1 x2 : Int) (x3 : Dt) (x4 : List Dt) : Option Int :=
  schema_checkOne_l1 m (Nat.succ m) x0 x1 x2 x3 x4
noncomputable def schema_checkOne : Nat → Dt → Option Int
  | 0, _ => none
  | m + 1, a0 =>
    schema_checkOne_j0 m (Dt.L a0 8) (List.length (Dt.L a0 8) : Int) 0 a0 []
noncomputable def i25_j6 (m : Nat) (self25 : Dt → Int → Int → Option (Int × Int)) (rec4 : Int → List Dt → Int → Int → Int → Dt → Option (Int × Int)) (x0 : Int) (x1 : List Dt) (x2 x3 x4 : Int) (x5 : Dt) : Option (Int × Int) :=
  rec4 x0 x1 x2 (IntKind.wrap .i64 (x3 + 1)) x4 x5
noncomputable def i25_j5 (m : Nat) (self25 : Dt → Int → Int → Option (Int × Int)) (rec4 : Int → List Dt → Int → Int → Int → Dt → Option (Int × Int)) (x0 : Int) (x1 : List Dt) (x2 x3 x4 : Int) (x5 : Dt) : Option (Int × Int) :=
  ((idx x1 x3).bind fun v1 =>
    ((self25 (Dt.fld v1 1) (IntKind.wrap .i64 (x0 + 1)) x4).bind fun r2 =>
 (bif (r2.1 != 0) then
 some (r2.1, r2.2)
 else
 i25_j6 m self25 rec4 x0 x1 x2 x3 r2.2 x5)))
noncomputable def i25_j11 (m : Nat) (self25 : Dt → Int → Int → Option (Int × Int)) (rec9 : Int → List Dt → Int → Int → Int → Option (Int × Int)) (x0 : Int) (x1 : List Dt) (x2 x3 x4 : Int) : Option (Int × Int) :=
  rec9 x0 x1 x2 (IntKind.wrap .i64 (x3 + 1)) x4
noncomputable def i25_j10 (m : Nat) (self25 : Dt → Int → Int → Option (Int × Int)) (rec9 : Int → List Dt → Int → Int → Int → Option (Int × Int)) (x0 : Int) (x1 : List Dt) (x2 x3 x4 : Int) : Option (Int × Int) :=
  ((idx x1 x3).bind fun v3 =>
    ((self25 v3 (IntKind.wrap .i64 (x0 + 1)) x4).bind fun r4 =>
 (bif (r4.1 != 0) then
 some (r4.1, r4.2)
 else
 i25_j11 m self25 rec9 x0 x1 x2 x3 r4.2)))
noncomputable def i25_j12 (m : Nat) (self25 : Dt → Int → Int → Option (Int × Int)) (x0 : Int) : Option (Int × Int) :=
  some (0, x0)
noncomputable def i25_l9 (m : Nat) (self25 : Dt → Int → Int → Option (Int × Int)) : Nat → Int → List Dt → Int → Int → Int → Option (Int × Int)
  | 0, _, _, _, _, _ => none
  | M9 + 1, x0, x1, x2, x3, x4 =>
    (bif (decide (x3 < x2)) then
    i25_j10 m self25 (i25_l9 m self25 M9) x0 x1 x2 x3 x4
  else
    i25_j12 m self25 x4)
noncomputable def i25_j8 (m : Nat) (self25 : Dt → Int → Int → Option (Int × Int)) (x0 : Int) (x1 : List Dt) (x2 x3 x4 : Int) : Option (Int × Int) :=
  i25_l9 m self25 (Nat.succ m) x0 x1 x2 x3 x4
noncomputable def i25_j7 (m : Nat) (self25 : Dt → Int → Int → Option (Int × Int)) (x0 x1 : Int) (x2 : Dt) : Option (Int × Int) :=
  i25_j8 m self25 x0 (Dt.L x2 11) (List.length (Dt.L x2 11) : Int) 0 x1
noncomputable def i25_l4 (m : Nat) (self25 : Dt → Int → Int → Option (Int × Int)) : Nat → Int → List Dt → Int → Int → Int → Dt → Option (Int × Int)
  | 0, _, _, _, _, _, _ => none
  | M4 + 1, x0, x1, x2, x3, x4, x5 =>
    (bif (decide (x3 < x2)) then
    i25_j5 m self25 (i25_l4 m self25 M4) x0 x1 x2 x3 x4 x5
  else
    i25_j7 m self25 x0 x4 x5)
noncomputable def i25_j3 (m : Nat) (self25 : Dt → Int → Int → Option (Int × Int)) (x0 : Int) (x1 : List Dt) (x2 x3 x4 : Int) (x5 : Dt) : Option (Int × Int) :=
  i25_l4 m self25 (Nat.succ m) x0 x1 x2 x3 x4 x5
noncomputable def i25_j2 (m : Nat) (self25 : Dt → Int → Int → Option (Int × Int)) (x0 x1 : Int) (x2 : Dt) : Option (Int × Int) :=
  i25_j3 m self25 x0 (Dt.L x2 9) (List.length (Dt.L x2 9) : Int) 0 x1 x2
noncomputable def i25_j1 (m : Nat) (self25 : Dt → Int → Int → Option (Int × Int)) (x0 x1 : Int) (x2 : Dt) : Option (Int × Int) :=
  ((schema_checkOne m x2).bind fun r0 =>
    (bif (r0 != 0) then
 some (r0, (IntKind.wrap .i64 (x1 + 1)))
    else
 i25_j2 m self25 x0 (IntKind.wrap .i64 (x1 + 1)) x2))
noncomputable def i25_j0 (m : Nat) (self25 : Dt → Int → Int → Option (Int × Int)) (x0 : Int) (x1 : Bool) (x2 : Int) (x3 : Dt) : Option (Int × Int) :=
  (bif x1 then
    some (2, x2)
  else
    i25_j1 m self25 x0 x2 x3)
noncomputable def i25 : Nat → Dt → Int → Int → Option (Int × Int)
  | 0, _, _, _ => none
  | m + 1, a0, a1, a2 =>
    (bif (decide (16 < a1)) then
    i25_j0 m (i25 m) a1 true a2 a0
  else
    i25_j0 m (i25 m) a1 (a2 == 64) a2 a0)
noncomputable def schema_Valid : Nat → Dt → Option Int
  | 0, _ => none
  | m + 1, a0 =>
    ((i25 m a0 1 0).bind fun r0 =>
    some r0.1)
noncomputable def schema_Check_j0 (m : Nat) (x0 x1 : Dt) : Option (List Dt) :=
  ((i7 m x0 x1 [] []).bind fun r1 =>
    some r1.2)
noncomputable def schema_Check : Nat → Dt → Dt → Option (List Dt)
  | 0, _, _ => none
  | m + 1, a0, a1 =>
    ((schema_Valid m a0).bind fun r0 =>
    (bif (r0 != 0) then
 some []
    else
 schema_Check_j0 m a0 a1))
noncomputable def law14_SchemaOwn_j5 (m : Nat) (rec3 : List Dt → List Dt → Int → Int → Option Bool) (x0 x1 : List Dt) (x2 x3 : Int) : Option Bool :=
  rec3 x0 x1 x2 (IntKind.wrap .i64 (x3 + 1))
noncomputable def law14_SchemaOwn_j8 (m : Nat) (rec3 : List Dt → List Dt → Int → Int → Option Bool) (x0 x1 : List Dt) (x2 x3 : Int) : Option Bool :=
  law14_SchemaOwn_j5 m rec3 x0 x1 (IntKind.wrap .i64 (x2 + 1)) x3
noncomputable def law14_SchemaOwn_j7 (m : Nat) (rec3 : List Dt → List Dt → Int → Int → Option Bool) (x0 x1 : List Dt) (x2 x3 : Int) (x4 : Bool) : Option Bool :=
  (bif x4 then
    some false
  else
    law14_SchemaOwn_j8 m rec3 x0 x1 x2 x3)
noncomputable def law14_SchemaOwn_j6 (m : Nat) (rec3 : List Dt → List Dt → Int → Int → Option Bool) (x0 x1 : List Dt) (x2 x3 : Int) : Option Bool :=
  ((idx x1 x3).bind fun v5 =>
    ((idx x0 x2).bind fun v6 =>
 (bif ((Dt.I v5 1) != (Dt.I v6 1)) then
 law14_SchemaOwn_j7 m rec3 x0 x1 x2 x3 true
 else
 ((idx x1 x3).bind fun v7 =>
 ((idx x0 x2).bind fun v8 =>
 law14_SchemaOwn_j7 m rec3 x0 x1 x2 x3 ((List.length (Dt.L v7 0) : Int) != (List.length (Dt.L v8 0) : Int)))))))
noncomputable def law14_SchemaOwn_j4 (m : Nat) (rec3 : List Dt → List Dt → Int → Int → Option Bool) (x0 x1 : List Dt) (x2 x3 : Int) : Option Bool :=
  ((idx x1 x3).bind fun v4 =>
    (bif ((Dt.I v4 1) == 7) then
 law14_SchemaOwn_j5 m rec3 x0 x1 x2 x3
    else
 law14_SchemaOwn_j6 m rec3 x0 x1 x2 x3))
noncomputable def law14_SchemaOwn_j9 (m : Nat) (x0 : List Dt) (x1 : Int) : Option Bool :=
  (bif (x1 == (List.length x0 : Int)) then
    ((awakeC).bind fun r9 =>
 some r9)
  else
    some false)
noncomputable def law14_SchemaOwn_l3 (m : Nat) : Nat → List Dt → List Dt → Int → Int → Option Bool
  | 0, _, _, _, _ => none
  | M3 + 1, x0, x1, x2, x3 =>
    (bif (decide (x3 < (List.length x1 : Int))) then
    (bif (decide (x2 < (List.length x0 : Int))) then
 law14_SchemaOwn_j4 m (law14_SchemaOwn_l3 m M3) x0 x1 x2 x3
    else
 law14_SchemaOwn_j9 m x0 x2)
  else
    law14_SchemaOwn_j9 m x0 x2)
noncomputable def law14_SchemaOwn_j2 (m : Nat) (x0 x1 : List Dt) (x2 x3 : Int) : Option Bool :=
  law14_SchemaOwn_l3 m (Nat.succ m) x0 x1 x2 x3
noncomputable def law14_SchemaOwn_j1 (m : Nat) (x0 x1 : Dt) : Option Bool :=
  ((schema_Check m (Dt.agg [(Dt.int (Dt.I x0 0)), (Dt.bool (Dt.B x0 1)), (Dt.fld x0 2), (Dt.bool (Dt.B x0 3)), (Dt.fld x0 4), (Dt.lst (Dt.L x0 5)), (Dt.int (Dt.I x0 6)), (Dt.int (Dt.I x0 7)), (Dt.lst (Dt.L x0 8)), (Dt.lst []), (Dt.bool false), (Dt.lst []), (Dt.bool (Dt.B x0 12))]) x1).bind fun r2 =>
    ((schema_Check m x0 x1).bind fun r3 =>
 law14_SchemaOwn_j2 m r2 r3 0 0))
noncomputable def law14_SchemaOwn_j0 (m : Nat) (x0 : Bool) (x1 x2 : Dt) : Option Bool :=
  (bif x0 then
    ((awakeC).bind fun r1 =>
 some r1)
  else
    law14_SchemaOwn_j1 m x1 x2)
noncomputable def law14_SchemaOwn : Nat → Dt → Dt → Option Bool
  | 0, _, _ => none
  | m + 1, a0, a1 =>
    ((law14_few m a0 a1).bind fun r0 =>
    (bif (Bool.not r0) then
 law14_SchemaOwn_j0 m true a0 a1
    else
 ((schema_Valid m a0).bind fun r10 =>
 law14_SchemaOwn_j0 m (r10 != 0) a0 a1)))
end Go.Proofs.YtfneddmmeadacaaDoor
