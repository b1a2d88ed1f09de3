/- Generated: what the Go functions compute, over plain data. -/
import Derived.Test.YtfneddmmeadacaaDoorAm20
import Derived.Test.YtfneddmmeadacaaDoorOAwake
import Derived.Test.YtfneddmmeadacaaDoorOLib
import Derived.Test.YtfneddmmeadacaaDoorOGrow
set_option linter.unusedVariables false
set_option linter.unusedSimpArgs false
namespace Go.Proofs.YtfneddmmeadacaaDoor
open Go.Am
def kza2373 : Dt := Dt.agg [(Dt.int 0), (Dt.int 0), (Dt.str (ByteArray.mk (List.toArray []))), (Dt.lst []), (Dt.lst [])]
noncomputable def ref14_Count_j3 (m : Nat) (self1 : Dt → Int → Option Int) (rec1 : Int → Int → Int → Dt → Option Int) (x0 x1 x2 : Int) (x3 : Dt) : Option Int :=
  rec1 x0 x1 (IntKind.wrap .i64 (x2 + 1)) x3
noncomputable def ref14_Count_j2 (m : Nat) (self1 : Dt → Int → Option Int) (rec1 : Int → Int → Int → Dt → Option Int) (x0 x1 x2 : Int) (x3 : Dt) : Option Int :=
  ((idx (Dt.L x3 9) x2).bind fun v0 =>
    ((self1 (Dt.fld v0 1) (IntKind.wrap .i64 (x0 - x1))).bind fun r1 =>
 ref14_Count_j3 m self1 rec1 x0 (IntKind.wrap .i64 (x1 + r1)) x2 x3))
noncomputable def ref14_Count_j8 (m : Nat) (self1 : Dt → Int → Option Int) (rec6 : Int → Int → Int → Dt → Option Int) (x0 x1 x2 : Int) (x3 : Dt) : Option Int :=
  rec6 x0 x1 (IntKind.wrap .i64 (x2 + 1)) x3
noncomputable def ref14_Count_j7 (m : Nat) (self1 : Dt → Int → Option Int) (rec6 : Int → Int → Int → Dt → Option Int) (x0 x1 x2 : Int) (x3 : Dt) : Option Int :=
  ((idx (Dt.L x3 11) x2).bind fun v2 =>
    ((self1 v2 (IntKind.wrap .i64 (x0 - x1))).bind fun r3 =>
 ref14_Count_j8 m self1 rec6 x0 (IntKind.wrap .i64 (x1 + r3)) x2 x3))
noncomputable def ref14_Count_j9 (m : Nat) (self1 : Dt → Int → Option Int) (x0 : Int) : Option Int :=
  some x0
noncomputable def ref14_Count_l6 (m : Nat) (self1 : Dt → Int → Option Int) : Nat → Int → Int → Int → Dt → Option Int
  | 0, _, _, _, _ => none
  | M6 + 1, x0, x1, x2, x3 =>
    (bif (decide (x2 < (List.length (Dt.L x3 11) : Int))) then
    (bif (decide (x1 < x0)) then
 ref14_Count_j7 m self1 (ref14_Count_l6 m self1 M6) x0 x1 x2 x3
    else
 ref14_Count_j9 m self1 x1)
  else
    ref14_Count_j9 m self1 x1)
noncomputable def ref14_Count_j5 (m : Nat) (self1 : Dt → Int → Option Int) (x0 x1 x2 : Int) (x3 : Dt) : Option Int :=
  ref14_Count_l6 m self1 (Nat.succ m) x0 x1 x2 x3
noncomputable def ref14_Count_j4 (m : Nat) (self1 : Dt → Int → Option Int) (x0 x1 : Int) (x2 : Dt) : Option Int :=
  ref14_Count_j5 m self1 x0 x1 0 x2
noncomputable def ref14_Count_l1 (m : Nat) (self1 : Dt → Int → Option Int) : Nat → Int → Int → Int → Dt → Option Int
  | 0, _, _, _, _ => none
  | M1 + 1, x0, x1, x2, x3 =>
    (bif (decide (x2 < (List.length (Dt.L x3 9) : Int))) then
    (bif (decide (x1 < x0)) then
 ref14_Count_j2 m self1 (ref14_Count_l1 m self1 M1) x0 x1 x2 x3
    else
 ref14_Count_j4 m self1 x0 x1 x3)
  else
    ref14_Count_j4 m self1 x0 x1 x3)
noncomputable def ref14_Count_j0 (m : Nat) (self1 : Dt → Int → Option Int) (x0 x1 x2 : Int) (x3 : Dt) : Option Int :=
  ref14_Count_l1 m self1 (Nat.succ m) x0 x1 x2 x3
noncomputable def ref14_Count : Nat → Dt → Int → Option Int
  | 0, _, _ => none
  | m + 1, a0, a1 =>
    ref14_Count_j0 m (ref14_Count m) a1 1 0 a0
noncomputable def schema_isName_j6 (m : Nat) (rec3 : ByteArray → Int → Int → Option Bool) (x0 : ByteArray) (x1 x2 : Int) : Option Bool :=
  rec3 x0 x1 (IntKind.wrap .i64 (x2 + 1))
noncomputable def schema_isName_j5 (m : Nat) (rec3 : ByteArray → Int → Int → Option Bool) (x0 : ByteArray) (x1 x2 : Int) (x3 : Bool) : Option Bool :=
  (bif x3 then
    some false
  else
    schema_isName_j6 m rec3 x0 x1 x2)
noncomputable def schema_isName_j4 (m : Nat) (rec3 : ByteArray → Int → Int → Option Bool) (x0 : ByteArray) (x1 x2 : Int) : Option Bool :=
  ((idxS x0 x2).bind fun v0 =>
    (bif (decide (v0 < 33)) then
 schema_isName_j5 m rec3 x0 x1 x2 true
    else
 ((idxS x0 x2).bind fun v1 =>
 (bif (decide (126 < v1)) then
 schema_isName_j5 m rec3 x0 x1 x2 true
 else
 ((idxS x0 x2).bind fun v2 =>
 schema_isName_j5 m rec3 x0 x1 x2 (v2 == 46))))))
noncomputable def schema_isName_j7 (m : Nat) : Option Bool :=
  some true
noncomputable def schema_isName_l3 (m : Nat) : Nat → ByteArray → Int → Int → Option Bool
  | 0, _, _, _ => none
  | M3 + 1, x0, x1, x2 =>
    (bif (decide (x2 < x1)) then
    schema_isName_j4 m (schema_isName_l3 m M3) x0 x1 x2
  else
    schema_isName_j7 m)
noncomputable def schema_isName_j2 (m : Nat) (x0 : ByteArray) (x1 x2 : Int) : Option Bool :=
  schema_isName_l3 m (Nat.succ m) x0 x1 x2
noncomputable def schema_isName_j1 (m : Nat) (x0 : ByteArray) : Option Bool :=
  schema_isName_j2 m x0 (ByteArray.size x0 : Int) 0
noncomputable def schema_isName_j0 (m : Nat) (x0 : ByteArray) (x1 : Bool) : Option Bool :=
  (bif x1 then
    some false
  else
    schema_isName_j1 m x0)
noncomputable def schema_isName : Nat → ByteArray → Option Bool
  | 0, _ => none
  | m + 1, a0 =>
    (bif (decide ((ByteArray.size a0 : Int) < 1)) then
    schema_isName_j0 m a0 true
  else
    (bif (decide (32 < (ByteArray.size a0 : Int))) then
 schema_isName_j0 m a0 true
    else
 ((idxS a0 0).bind fun v3 =>
 schema_isName_j0 m a0 (v3 == 36))))
noncomputable def value_nodes_j0 (m : Nat) (self27 : Dt → Int → Int → Option (Int × Int)) (x0 : Dt) (x1 x2 : Int) : Option Int :=
  ((self27 x0 x2 x1).bind fun r0 =>
    some r0.1)
noncomputable def i27_j3 (m : Nat) (self28 : Dt → Int → Int → Option (Bool × Int × Int)) (rec1 : List Dt → Int → Int → Int → Int → Option (Int × Int)) (x0 : List Dt) (x1 x2 x3 x4 : Int) : Option (Int × Int) :=
  rec1 x0 x1 (IntKind.wrap .i64 (x2 + 1)) x3 x4
noncomputable def i27_j2 (m : Nat) (self28 : Dt → Int → Int → Option (Bool × Int × Int)) (rec1 : List Dt → Int → Int → Int → Int → Option (Int × Int)) (x0 : List Dt) (x1 x2 x3 x4 : Int) : Option (Int × Int) :=
  ((idx x0 x2).bind fun v0 =>
    ((self28 v0 x3 x4).bind fun r1 =>
 (bif (Bool.not r1.1) then
 some (r1.2.1, r1.2.2)
 else
 i27_j3 m self28 rec1 x0 x1 x2 r1.2.1 r1.2.2)))
noncomputable def i27_l1 (m : Nat) (self28 : Dt → Int → Int → Option (Bool × Int × Int)) : Nat → List Dt → Int → Int → Int → Int → Option (Int × Int)
  | 0, _, _, _, _, _ => none
  | M1 + 1, x0, x1, x2, x3, x4 =>
    (bif (decide (x2 < x1)) then
    i27_j2 m self28 (i27_l1 m self28 M1) x0 x1 x2 x3 x4
  else
    some (x3, x4))
noncomputable def i27_j0 (m : Nat) (self28 : Dt → Int → Int → Option (Bool × Int × Int)) (x0 : List Dt) (x1 x2 x3 x4 : Int) : Option (Int × Int) :=
  i27_l1 m self28 (Nat.succ m) x0 x1 x2 x3 x4
noncomputable def i27_j7 (m : Nat) (self28 : Dt → Int → Int → Option (Bool × Int × Int)) (rec5 : List Dt → Int → Int → Int → Int → Option (Int × Int)) (x0 : List Dt) (x1 x2 x3 x4 : Int) : Option (Int × Int) :=
  rec5 x0 x1 (IntKind.wrap .i64 (x2 + 1)) x3 x4
noncomputable def i27_j6 (m : Nat) (self28 : Dt → Int → Int → Option (Bool × Int × Int)) (rec5 : List Dt → Int → Int → Int → Int → Option (Int × Int)) (x0 : List Dt) (x1 x2 x3 x4 : Int) : Option (Int × Int) :=
  ((idx x0 x2).bind fun v2 =>
    ((self28 (Dt.fld v2 1) x3 x4).bind fun r3 =>
 (bif (Bool.not r3.1) then
 some (r3.2.1, r3.2.2)
 else
 i27_j7 m self28 rec5 x0 x1 x2 r3.2.1 r3.2.2)))
noncomputable def i27_l5 (m : Nat) (self28 : Dt → Int → Int → Option (Bool × Int × Int)) : Nat → List Dt → Int → Int → Int → Int → Option (Int × Int)
  | 0, _, _, _, _, _ => none
  | M5 + 1, x0, x1, x2, x3, x4 =>
    (bif (decide (x2 < x1)) then
    i27_j6 m self28 (i27_l5 m self28 M5) x0 x1 x2 x3 x4
  else
    some (x3, x4))
noncomputable def i27_j4 (m : Nat) (self28 : Dt → Int → Int → Option (Bool × Int × Int)) (x0 : List Dt) (x1 x2 x3 x4 : Int) : Option (Int × Int) :=
  i27_l5 m self28 (Nat.succ m) x0 x1 x2 x3 x4
mutual
noncomputable def value_nodes : Nat → Dt → Int → Option Int
  | 0, _, _ => none
  | m + 1, a0, a1 =>
    (bif (1 == a1) then
    some 1
  else
    value_nodes_j0 m (i27 m) a0 a1 1)
noncomputable def i27 : Nat → Dt → Int → Int → Option (Int × Int)
  | 0, _, _, _ => none
  | m + 1, a0, a1, a2 =>
    (bif ((Dt.I a0 0) == 6) then
    i27_j0 m (i28 m) (Dt.L a0 3) (List.length (Dt.L a0 3) : Int) 0 a1 a2
  else
    (bif ((Dt.I a0 0) == 5) then
 i27_j4 m (i28 m) (Dt.L a0 4) (List.length (Dt.L a0 4) : Int) 0 a1 a2
    else
 some (a1, a2)))
noncomputable def i28 : Nat → Dt → Int → Int → Option (Bool × Int × Int)
  | 0, _, _, _ => none
  | m + 1, a0, a1, a2 =>
    ((value_nodes m a0 (IntKind.wrap .i64 (a2 - a1))).bind fun r0 =>
    some ((decide ((IntKind.wrap .i64 (a1 + r0)) < a2)), (IntKind.wrap .i64 (a1 + r0)), a2))
end
noncomputable def value_Nodes : Nat → Dt → Option Int
  | 0, _ => none
  | m + 1, a0 =>
    ((value_nodes m a0 1025).bind fun r0 =>
    some r0)
noncomputable def value_depth_j0 (m : Nat) (self29 : Dt → Int → Int → Option (Int × Int)) (x0 : Dt) (x1 : Int) : Option Int :=
  ((self29 x0 0 x1).bind fun r0 =>
    some (IntKind.wrap .i64 (1 + r0.1)))
noncomputable def i29_j3 (m : Nat) (self30 : Dt → Int → Int → Option (Bool × Int × Int)) (rec1 : List Dt → Int → Int → Int → Int → Option (Int × Int)) (x0 : List Dt) (x1 x2 x3 x4 : Int) : Option (Int × Int) :=
  rec1 x0 x1 (IntKind.wrap .i64 (x2 + 1)) x3 x4
noncomputable def i29_j2 (m : Nat) (self30 : Dt → Int → Int → Option (Bool × Int × Int)) (rec1 : List Dt → Int → Int → Int → Int → Option (Int × Int)) (x0 : List Dt) (x1 x2 x3 x4 : Int) : Option (Int × Int) :=
  ((idx x0 x2).bind fun v0 =>
    ((self30 v0 x3 x4).bind fun r1 =>
 (bif (Bool.not r1.1) then
 some (r1.2.1, r1.2.2)
 else
 i29_j3 m self30 rec1 x0 x1 x2 r1.2.1 r1.2.2)))
noncomputable def i29_l1 (m : Nat) (self30 : Dt → Int → Int → Option (Bool × Int × Int)) : Nat → List Dt → Int → Int → Int → Int → Option (Int × Int)
  | 0, _, _, _, _, _ => none
  | M1 + 1, x0, x1, x2, x3, x4 =>
    (bif (decide (x2 < x1)) then
    i29_j2 m self30 (i29_l1 m self30 M1) x0 x1 x2 x3 x4
  else
    some (x3, x4))
noncomputable def i29_j0 (m : Nat) (self30 : Dt → Int → Int → Option (Bool × Int × Int)) (x0 : List Dt) (x1 x2 x3 x4 : Int) : Option (Int × Int) :=
  i29_l1 m self30 (Nat.succ m) x0 x1 x2 x3 x4
noncomputable def i29_j7 (m : Nat) (self30 : Dt → Int → Int → Option (Bool × Int × Int)) (rec5 : List Dt → Int → Int → Int → Int → Option (Int × Int)) (x0 : List Dt) (x1 x2 x3 x4 : Int) : Option (Int × Int) :=
  rec5 x0 x1 (IntKind.wrap .i64 (x2 + 1)) x3 x4
noncomputable def i29_j6 (m : Nat) (self30 : Dt → Int → Int → Option (Bool × Int × Int)) (rec5 : List Dt → Int → Int → Int → Int → Option (Int × Int)) (x0 : List Dt) (x1 x2 x3 x4 : Int) : Option (Int × Int) :=
  ((idx x0 x2).bind fun v2 =>
    ((self30 (Dt.fld v2 1) x3 x4).bind fun r3 =>
 (bif (Bool.not r3.1) then
 some (r3.2.1, r3.2.2)
 else
 i29_j7 m self30 rec5 x0 x1 x2 r3.2.1 r3.2.2)))
noncomputable def i29_l5 (m : Nat) (self30 : Dt → Int → Int → Option (Bool × Int × Int)) : Nat → List Dt → Int → Int → Int → Int → Option (Int × Int)
  | 0, _, _, _, _, _ => none
  | M5 + 1, x0, x1, x2, x3, x4 =>
    (bif (decide (x2 < x1)) then
    i29_j6 m self30 (i29_l5 m self30 M5) x0 x1 x2 x3 x4
  else
    some (x3, x4))
noncomputable def i29_j4 (m : Nat) (self30 : Dt → Int → Int → Option (Bool × Int × Int)) (x0 : List Dt) (x1 x2 x3 x4 : Int) : Option (Int × Int) :=
  i29_l5 m self30 (Nat.succ m) x0 x1 x2 x3 x4
mutual
noncomputable def value_depth : Nat → Dt → Int → Option Int
  | 0, _, _ => none
  | m + 1, a0, a1 =>
    (bif (a1 == 1) then
    some 1
  else
    value_depth_j0 m (i29 m) a0 a1)
noncomputable def i29 : Nat → Dt → Int → Int → Option (Int × Int)
  | 0, _, _, _ => none
  | m + 1, a0, a1, a2 =>
    (bif ((Dt.I a0 0) == 6) then
    i29_j0 m (i30 m) (Dt.L a0 3) (List.length (Dt.L a0 3) : Int) 0 a1 a2
  else
    (bif ((Dt.I a0 0) == 5) then
 i29_j4 m (i30 m) (Dt.L a0 4) (List.length (Dt.L a0 4) : Int) 0 a1 a2
    else
 some (a1, a2)))
noncomputable def i30 : Nat → Dt → Int → Int → Option (Bool × Int × Int)
  | 0, _, _, _ => none
  | m + 1, a0, a1, a2 =>
    ((value_depth m a0 (IntKind.wrap .i64 (a2 - 1))).bind fun r0 =>
    some ((decide ((bif (decide (a1 < r0)) then r0 else a1) < (IntKind.wrap .i64 (a2 - 1)))), (bif (decide (a1 < r0)) then r0 else a1), a2))
end
noncomputable def value_Depth : Nat → Dt → Option Int
  | 0, _ => none
  | m + 1, a0 =>
    ((value_depth m a0 17).bind fun r0 =>
    some r0)
noncomputable def ref01_Name_j6 (m : Nat) (rec3 : ByteArray → Int → Option Bool) (x0 : ByteArray) (x1 : Int) : Option Bool :=
  rec3 x0 (IntKind.wrap .i64 (x1 + 1))
noncomputable def ref01_Name_j5 (m : Nat) (rec3 : ByteArray → Int → Option Bool) (x0 : ByteArray) (x1 : Int) (x2 : Bool) : Option Bool :=
  (bif x2 then
    some false
  else
    ref01_Name_j6 m rec3 x0 x1)
noncomputable def ref01_Name_j4 (m : Nat) (rec3 : ByteArray → Int → Option Bool) (x0 : ByteArray) (x1 : Int) : Option Bool :=
  ((idxS x0 x1).bind fun v0 =>
    (bif (decide (v0 < 33)) then
 ref01_Name_j5 m rec3 x0 x1 true
    else
 ((idxS x0 x1).bind fun v1 =>
 (bif (decide (126 < v1)) then
 ref01_Name_j5 m rec3 x0 x1 true
 else
 ((idxS x0 x1).bind fun v2 =>
 ref01_Name_j5 m rec3 x0 x1 (v2 == 46))))))
noncomputable def ref01_Name_j7 (m : Nat) : Option Bool :=
  some true
noncomputable def ref01_Name_l3 (m : Nat) : Nat → ByteArray → Int → Option Bool
  | 0, _, _ => none
  | M3 + 1, x0, x1 =>
    (bif (decide (x1 < (ByteArray.size x0 : Int))) then
    ref01_Name_j4 m (ref01_Name_l3 m M3) x0 x1
  else
    ref01_Name_j7 m)
noncomputable def ref01_Name_j2 (m : Nat) (x0 : ByteArray) (x1 : Int) : Option Bool :=
  ref01_Name_l3 m (Nat.succ m) x0 x1
noncomputable def ref01_Name_j1 (m : Nat) (x0 : ByteArray) : Option Bool :=
  ref01_Name_j2 m x0 0
noncomputable def ref01_Name_j0 (m : Nat) (x0 : ByteArray) (x1 : Bool) : Option Bool :=
  (bif x1 then
    some false
  else
    ref01_Name_j1 m x0)
noncomputable def ref01_Name : Nat → ByteArray → Option Bool
  | 0, _ => none
  | m + 1, a0 =>
    (bif (decide ((ByteArray.size a0 : Int) < 1)) then
    ref01_Name_j0 m a0 true
  else
    (bif (decide (32 < (ByteArray.size a0 : Int))) then
 ref01_Name_j0 m a0 true
    else
 ((idxS a0 0).bind fun v3 =>
 ref01_Name_j0 m a0 (v3 == 36))))
noncomputable def ref14_different_j7 (m : Nat) (rec1 : List Dt → Int → Option Bool) (rec5 : List Dt → Int → Int → Option Bool) (x0 : List Dt) (x1 x2 : Int) : Option Bool :=
  rec5 x0 x1 (IntKind.wrap .i64 (x2 + 1))
noncomputable def ref14_different_j6 (m : Nat) (rec1 : List Dt → Int → Option Bool) (rec5 : List Dt → Int → Int → Option Bool) (x0 : List Dt) (x1 x2 : Int) : Option Bool :=
  ((idx x0 x2).bind fun v2 =>
    ((idx x0 x1).bind fun v3 =>
 (bif ((ByteArray.toList (Dt.toStr v2)) == (ByteArray.toList (Dt.toStr v3))) then
 some false
 else
 ref14_different_j7 m rec1 rec5 x0 x1 x2)))
noncomputable def ref14_different_j8 (m : Nat) (rec1 : List Dt → Int → Option Bool) (x0 : List Dt) (x1 : Int) : Option Bool :=
  rec1 x0 (IntKind.wrap .i64 (x1 + 1))
noncomputable def ref14_different_l5 (m : Nat) (rec1 : List Dt → Int → Option Bool) : Nat → List Dt → Int → Int → Option Bool
  | 0, _, _, _ => none
  | M5 + 1, x0, x1, x2 =>
    (bif (decide (x2 < x1)) then
    ref14_different_j6 m rec1 (ref14_different_l5 m rec1 M5) x0 x1 x2
  else
    ref14_different_j8 m rec1 x0 x1)
noncomputable def ref14_different_j4 (m : Nat) (rec1 : List Dt → Int → Option Bool) (x0 : List Dt) (x1 x2 : Int) : Option Bool :=
  ref14_different_l5 m rec1 (Nat.succ m) x0 x1 x2
noncomputable def ref14_different_j3 (m : Nat) (rec1 : List Dt → Int → Option Bool) (x0 : List Dt) (x1 : Int) : Option Bool :=
  ref14_different_j4 m rec1 x0 x1 0
noncomputable def ref14_different_j2 (m : Nat) (rec1 : List Dt → Int → Option Bool) (x0 : List Dt) (x1 : Int) : Option Bool :=
  ((idx x0 x1).bind fun v0 =>
    ((ref01_Name m (Dt.toStr v0)).bind fun r1 =>
 (bif (Bool.not r1) then
 some false
 else
 ref14_different_j3 m rec1 x0 x1)))
noncomputable def ref14_different_j9 (m : Nat) : Option Bool :=
  some true
noncomputable def ref14_different_l1 (m : Nat) : Nat → List Dt → Int → Option Bool
  | 0, _, _ => none
  | M1 + 1, x0, x1 =>
    (bif (decide (x1 < (List.length x0 : Int))) then
    ref14_different_j2 m (ref14_different_l1 m M1) x0 x1
  else
    ref14_different_j9 m)
noncomputable def ref14_different_j0 (m : Nat) (x0 : List Dt) (x1 : Int) : Option Bool :=
  ref14_different_l1 m (Nat.succ m) x0 x1
noncomputable def ref14_different : Nat → List Dt → Option Bool
  | 0, _ => none
  | m + 1, a0 =>
    ref14_different_j0 m a0 0
noncomputable def ref01_Same_j5 (m : Nat) (self23 : Dt → Dt → Option Bool) (rec3 : Int → Dt → Dt → Option Bool) (x0 : Int) (x1 x2 : Dt) : Option Bool :=
  rec3 (IntKind.wrap .i64 (x0 + 1)) x1 x2
noncomputable def ref01_Same_j4 (m : Nat) (self23 : Dt → Dt → Option Bool) (rec3 : Int → Dt → Dt → Option Bool) (x0 : Int) (x1 x2 : Dt) : Option Bool :=
  ((idx (Dt.L x1 3) x0).bind fun v0 =>
    ((idx (Dt.L x2 3) x0).bind fun v1 =>
 ((self23 v0 v1).bind fun r2 =>
 (bif (Bool.not r2) then
 some false
 else
 ref01_Same_j5 m self23 rec3 x0 x1 x2))))
noncomputable def ref01_Same_j11 (m : Nat) (self23 : Dt → Dt → Option Bool) (rec8 : Int → Dt → Dt → Option Bool) (x0 : Int) (x1 x2 : Dt) : Option Bool :=
  rec8 (IntKind.wrap .i64 (x0 + 1)) x1 x2
noncomputable def ref01_Same_j10 (m : Nat) (self23 : Dt → Dt → Option Bool) (rec8 : Int → Dt → Dt → Option Bool) (x0 : Int) (x1 : Bool) (x2 x3 : Dt) : Option Bool :=
  (bif x1 then
    some false
  else
    ref01_Same_j11 m self23 rec8 x0 x2 x3)
noncomputable def ref01_Same_j9 (m : Nat) (self23 : Dt → Dt → Option Bool) (rec8 : Int → Dt → Dt → Option Bool) (x0 : Int) (x1 x2 : Dt) : Option Bool :=
  ((idx (Dt.L x1 4) x0).bind fun v3 =>
    ((idx (Dt.L x2 4) x0).bind fun v4 =>
 (bif (Bool.not ((ByteArray.toList (Dt.S v3 0)) == (ByteArray.toList (Dt.S v4 0)))) then
 ref01_Same_j10 m self23 rec8 x0 true x1 x2
 else
 ((idx (Dt.L x1 4) x0).bind fun v5 =>
 ((idx (Dt.L x2 4) x0).bind fun v6 =>
 ((self23 (Dt.fld v5 1) (Dt.fld v6 1)).bind fun r7 =>
 ref01_Same_j10 m self23 rec8 x0 (Bool.not r7) x1 x2))))))
noncomputable def ref01_Same_j12 (m : Nat) (self23 : Dt → Dt → Option Bool) : Option Bool :=
  some true
noncomputable def ref01_Same_l8 (m : Nat) (self23 : Dt → Dt → Option Bool) : Nat → Int → Dt → Dt → Option Bool
  | 0, _, _, _ => none
  | M8 + 1, x0, x1, x2 =>
    (bif (decide (x0 < (List.length (Dt.L x1 4) : Int))) then
    ref01_Same_j9 m self23 (ref01_Same_l8 m self23 M8) x0 x1 x2
  else
    ref01_Same_j12 m self23)
noncomputable def ref01_Same_j7 (m : Nat) (self23 : Dt → Dt → Option Bool) (x0 : Int) (x1 x2 : Dt) : Option Bool :=
  ref01_Same_l8 m self23 (Nat.succ m) x0 x1 x2
noncomputable def ref01_Same_j6 (m : Nat) (self23 : Dt → Dt → Option Bool) (x0 x1 : Dt) : Option Bool :=
  ref01_Same_j7 m self23 0 x0 x1
noncomputable def ref01_Same_l3 (m : Nat) (self23 : Dt → Dt → Option Bool) : Nat → Int → Dt → Dt → Option Bool
  | 0, _, _, _ => none
  | M3 + 1, x0, x1, x2 =>
    (bif (decide (x0 < (List.length (Dt.L x1 3) : Int))) then
    ref01_Same_j4 m self23 (ref01_Same_l3 m self23 M3) x0 x1 x2
  else
    ref01_Same_j6 m self23 x1 x2)
noncomputable def ref01_Same_j2 (m : Nat) (self23 : Dt → Dt → Option Bool) (x0 : Int) (x1 x2 : Dt) : Option Bool :=
  ref01_Same_l3 m self23 (Nat.succ m) x0 x1 x2
noncomputable def ref01_Same_j1 (m : Nat) (self23 : Dt → Dt → Option Bool) (x0 x1 : Dt) : Option Bool :=
  ref01_Same_j2 m self23 0 x0 x1
noncomputable def ref01_Same_j0 (m : Nat) (self23 : Dt → Dt → Option Bool) (x0 : Bool) (x1 x2 : Dt) : Option Bool :=
  (bif x0 then
    some false
  else
    ref01_Same_j1 m self23 x1 x2)
noncomputable def ref01_Same : Nat → Dt → Dt → Option Bool
  | 0, _, _ => none
  | m + 1, a0, a1 =>
    (bif ((Dt.I a0 0) != (Dt.I a1 0)) then
    ref01_Same_j0 m (ref01_Same m) true a0 a1
  else
    (bif ((Dt.I a0 1) != (Dt.I a1 1)) then
 ref01_Same_j0 m (ref01_Same m) true a0 a1
    else
 (bif (Bool.not ((ByteArray.toList (Dt.S a0 2)) == (ByteArray.toList (Dt.S a1 2)))) then
 ref01_Same_j0 m (ref01_Same m) true a0 a1
 else
 (bif ((List.length (Dt.L a0 3) : Int) != (List.length (Dt.L a1 3) : Int)) then
 ref01_Same_j0 m (ref01_Same m) true a0 a1
 else
 ref01_Same_j0 m (ref01_Same m) ((List.length (Dt.L a0 4) : Int) != (List.length (Dt.L a1 4) : Int)) a0 a1))))
noncomputable def value_isName_j6 (m : Nat) (rec3 : ByteArray → Int → Int → Option Bool) (x0 : ByteArray) (x1 x2 : Int) : Option Bool :=
  rec3 x0 x1 (IntKind.wrap .i64 (x2 + 1))
noncomputable def value_isName_j5 (m : Nat) (rec3 : ByteArray → Int → Int → Option Bool) (x0 : ByteArray) (x1 x2 : Int) (x3 : Bool) : Option Bool :=
  (bif x3 then
    some false
  else
    value_isName_j6 m rec3 x0 x1 x2)
noncomputable def value_isName_j4 (m : Nat) (rec3 : ByteArray → Int → Int → Option Bool) (x0 : ByteArray) (x1 x2 : Int) : Option Bool :=
  ((idxS x0 x2).bind fun v0 =>
    (bif (decide (v0 < 33)) then
 value_isName_j5 m rec3 x0 x1 x2 true
    else
 ((idxS x0 x2).bind fun v1 =>
 (bif (decide (126 < v1)) then
 value_isName_j5 m rec3 x0 x1 x2 true
 else
 ((idxS x0 x2).bind fun v2 =>
 value_isName_j5 m rec3 x0 x1 x2 (v2 == 46))))))
noncomputable def value_isName_j7 (m : Nat) : Option Bool :=
  some true
noncomputable def value_isName_l3 (m : Nat) : Nat → ByteArray → Int → Int → Option Bool
  | 0, _, _, _ => none
  | M3 + 1, x0, x1, x2 =>
    (bif (decide (x2 < x1)) then
    value_isName_j4 m (value_isName_l3 m M3) x0 x1 x2
  else
    value_isName_j7 m)
noncomputable def value_isName_j2 (m : Nat) (x0 : ByteArray) (x1 x2 : Int) : Option Bool :=
  value_isName_l3 m (Nat.succ m) x0 x1 x2
noncomputable def value_isName_j1 (m : Nat) (x0 : ByteArray) : Option Bool :=
  value_isName_j2 m x0 (ByteArray.size x0 : Int) 0
noncomputable def value_isName_j0 (m : Nat) (x0 : ByteArray) (x1 : Bool) : Option Bool :=
  (bif x1 then
    some false
  else
    value_isName_j1 m x0)
noncomputable def value_isName : Nat → ByteArray → Option Bool
  | 0, _ => none
  | m + 1, a0 =>
    (bif (decide ((ByteArray.size a0 : Int) < 1)) then
    value_isName_j0 m a0 true
  else
    (bif (decide (32 < (ByteArray.size a0 : Int))) then
 value_isName_j0 m a0 true
    else
 ((idxS a0 0).bind fun v3 =>
 value_isName_j0 m a0 (v3 == 36))))
noncomputable def value_sound_j10 (m : Nat) (self14 : Dt → Option Bool) (self21 : List Dt → Option Bool) (rec8 : List Dt → Int → Int → Option Bool) (x0 : List Dt) (x1 x2 : Int) : Option Bool :=
  rec8 x0 x1 (IntKind.wrap .i64 (x2 + 1))
noncomputable def value_sound_j9 (m : Nat) (self14 : Dt → Option Bool) (self21 : List Dt → Option Bool) (rec8 : List Dt → Int → Int → Option Bool) (x0 : List Dt) (x1 x2 : Int) : Option Bool :=
  ((idx x0 x2).bind fun v1 =>
    ((self14 v1).bind fun r2 =>
 (bif (Bool.not r2) then
 some false
 else
 value_sound_j10 m self14 self21 rec8 x0 x1 x2)))
noncomputable def value_sound_j11 (m : Nat) (self14 : Dt → Option Bool) (self21 : List Dt → Option Bool) : Option Bool :=
  some true
noncomputable def value_sound_l8 (m : Nat) (self14 : Dt → Option Bool) (self21 : List Dt → Option Bool) : Nat → List Dt → Int → Int → Option Bool
  | 0, _, _, _ => none
  | M8 + 1, x0, x1, x2 =>
    (bif (decide (x2 < x1)) then
    value_sound_j9 m self14 self21 (value_sound_l8 m self14 self21 M8) x0 x1 x2
  else
    value_sound_j11 m self14 self21)
noncomputable def value_sound_j7 (m : Nat) (self14 : Dt → Option Bool) (self21 : List Dt → Option Bool) (x0 : List Dt) (x1 x2 : Int) : Option Bool :=
  value_sound_l8 m self14 self21 (Nat.succ m) x0 x1 x2
noncomputable def value_sound_j12 (m : Nat) (self14 : Dt → Option Bool) (self21 : List Dt → Option Bool) : Option Bool :=
  some false
noncomputable def value_sound_j6 (m : Nat) (self14 : Dt → Option Bool) (self21 : List Dt → Option Bool) (x0 : Int) (x1 : Bool) (x2 : Dt) : Option Bool :=
  (bif x1 then
    some true
  else
    (bif (x0 == 9) then
 (bif ((Dt.I x2 1) == 0) then
 some true
 else
 some ((Dt.I x2 1) == 1))
    else
 (bif (x0 == 10) then
 some (decide (0 ≤ (Dt.I x2 1)))
 else
 (bif (x0 == 4) then
 (bif (decide ((ByteArray.size (Dt.S x2 2) : Int) ≤ 4096)) then
 ((utf8_ValidString (Dt.S x2 2)).bind fun r0 =>
 some r0)
 else
 some false)
 else
 (bif (x0 == 7) then
 some (decide ((ByteArray.size (Dt.S x2 2) : Int) ≤ 4096))
 else
 (bif (x0 == 8) then
 some ((ByteArray.size (Dt.S x2 2) : Int) == 12)
 else
 (bif (x0 == 6) then
 value_sound_j7 m self14 self21 (Dt.L x2 3) (List.length (Dt.L x2 3) : Int) 0
 else
 (bif (x0 == 5) then
 ((self21 (Dt.L x2 4)).bind fun r3 =>
 some r3)
 else
 value_sound_j12 m self14 self21))))))))
noncomputable def value_sound_j5 (m : Nat) (self14 : Dt → Option Bool) (self21 : List Dt → Option Bool) (x0 : Dt) : Option Bool :=
  (bif ((Dt.I x0 0) == 1) then
    value_sound_j6 m self14 self21 (Dt.I x0 0) ((Dt.I x0 0) == 1) x0
  else
    (bif ((Dt.I x0 0) == 2) then
 value_sound_j6 m self14 self21 (Dt.I x0 0) ((Dt.I x0 0) == 2) x0
    else
 (bif ((Dt.I x0 0) == 11) then
 value_sound_j6 m self14 self21 (Dt.I x0 0) ((Dt.I x0 0) == 11) x0
 else
 value_sound_j6 m self14 self21 (Dt.I x0 0) ((Dt.I x0 0) == 3) x0)))
noncomputable def value_sound_j4 (m : Nat) (self14 : Dt → Option Bool) (self21 : List Dt → Option Bool) (x0 : Bool) (x1 : Dt) : Option Bool :=
  (bif x0 then
    some false
  else
    value_sound_j5 m self14 self21 x1)
noncomputable def value_sound_j3 (m : Nat) (self14 : Dt → Option Bool) (self21 : List Dt → Option Bool) (x0 : Dt) : Option Bool :=
  (bif ((Dt.I x0 0) != 6) then
    (bif (decide (0 < (List.length (Dt.L x0 3) : Int))) then
 value_sound_j4 m self14 self21 true x0
    else
 (bif ((Dt.I x0 0) != 5) then
 value_sound_j4 m self14 self21 (decide (0 < (List.length (Dt.L x0 4) : Int))) x0
 else
 value_sound_j4 m self14 self21 false x0))
  else
    (bif ((Dt.I x0 0) != 5) then
 value_sound_j4 m self14 self21 (decide (0 < (List.length (Dt.L x0 4) : Int))) x0
    else
 value_sound_j4 m self14 self21 false x0))
noncomputable def value_sound_j2 (m : Nat) (self14 : Dt → Option Bool) (self21 : List Dt → Option Bool) (x0 : Bool) (x1 : Dt) : Option Bool :=
  (bif x0 then
    some false
  else
    value_sound_j3 m self14 self21 x1)
noncomputable def value_sound_j1 (m : Nat) (self14 : Dt → Option Bool) (self21 : List Dt → Option Bool) (x0 x1 : Bool) (x2 : Dt) : Option Bool :=
  (bif (Bool.not x0) then
    (bif ((Dt.I x2 1) != 0) then
 value_sound_j2 m self14 self21 true x2
    else
 (bif (Bool.not x1) then
 value_sound_j2 m self14 self21 (Bool.not ((ByteArray.toList (Dt.S x2 2)) == [])) x2
 else
 value_sound_j2 m self14 self21 false x2))
  else
    (bif (Bool.not x1) then
 value_sound_j2 m self14 self21 (Bool.not ((ByteArray.toList (Dt.S x2 2)) == [])) x2
    else
 value_sound_j2 m self14 self21 false x2))
noncomputable def value_sound_j0 (m : Nat) (self14 : Dt → Option Bool) (self21 : List Dt → Option Bool) (x0 : Bool) (x1 : Dt) : Option Bool :=
  (bif ((Dt.I x1 0) == 4) then
    value_sound_j1 m self14 self21 x0 true x1
  else
    (bif ((Dt.I x1 0) == 7) then
 value_sound_j1 m self14 self21 x0 true x1
    else
 value_sound_j1 m self14 self21 x0 ((Dt.I x1 0) == 8) x1))
noncomputable def value_soundFields_j5 (m : Nat) (self14 : Dt → Option Bool) (rec1 : List Dt → Int → Int → List Dt → Option Bool) (x0 : List Dt) (x1 x2 : Int) (x3 : List Dt) : Option Bool :=
  rec1 x0 x1 (IntKind.wrap .i64 (x2 + 1)) x3
noncomputable def value_soundFields_j4 (m : Nat) (self14 : Dt → Option Bool) (rec1 : List Dt → Int → Int → List Dt → Option Bool) (x0 : List Dt) (x1 x2 : Int) (x3 : List Dt) (x4 : Dt) : Option Bool :=
  value_soundFields_j5 m self14 rec1 x0 x1 x2 (mput x3 (Dt.S x4 0) (Dt.bool true))
noncomputable def value_soundFields_j3 (m : Nat) (self14 : Dt → Option Bool) (rec1 : List Dt → Int → Int → List Dt → Option Bool) (x0 : List Dt) (x1 x2 : Int) (x3 : Bool) (x4 : List Dt) (x5 : Dt) : Option Bool :=
  (bif x3 then
    some false
  else
    value_soundFields_j4 m self14 rec1 x0 x1 x2 x4 x5)
noncomputable def value_soundFields_j2 (m : Nat) (self14 : Dt → Option Bool) (rec1 : List Dt → Int → Int → List Dt → Option Bool) (x0 : List Dt) (x1 x2 : Int) (x3 : List Dt) : Option Bool :=
  ((idx x0 x2).bind fun v0 =>
    ((value_isName m (Dt.S v0 0)).bind fun r1 =>
 (bif (Bool.not r1) then
 value_soundFields_j3 m self14 rec1 x0 x1 x2 true x3 v0
 else
 (bif (Dt.toBool (mgetD x3 (Dt.S v0 0) (Dt.bool false))) then
 value_soundFields_j3 m self14 rec1 x0 x1 x2 true x3 v0
 else
 ((self14 (Dt.fld v0 1)).bind fun r2 =>
 value_soundFields_j3 m self14 rec1 x0 x1 x2 (Bool.not r2) x3 v0)))))
noncomputable def value_soundFields_j6 (m : Nat) (self14 : Dt → Option Bool) : Option Bool :=
  some true
noncomputable def value_soundFields_l1 (m : Nat) (self14 : Dt → Option Bool) : Nat → List Dt → Int → Int → List Dt → Option Bool
  | 0, _, _, _, _ => none
  | M1 + 1, x0, x1, x2, x3 =>
    (bif (decide (x2 < x1)) then
    value_soundFields_j2 m self14 (value_soundFields_l1 m self14 M1) x0 x1 x2 x3
  else
    value_soundFields_j6 m self14)
noncomputable def value_soundFields_j0 (m : Nat) (self14 : Dt → Option Bool) (x0 : List Dt) (x1 x2 : Int) (x3 : List Dt) : Option Bool :=
  value_soundFields_l1 m self14 (Nat.succ m) x0 x1 x2 x3
mutual
noncomputable def value_sound : Nat → Dt → Option Bool
  | 0, _ => none
  | m + 1, a0 =>
    (bif ((Dt.I a0 0) == 3) then
    value_sound_j0 m (value_sound m) (value_soundFields m) true a0
  else
    (bif ((Dt.I a0 0) == 9) then
 value_sound_j0 m (value_sound m) (value_soundFields m) true a0
    else
 value_sound_j0 m (value_sound m) (value_soundFields m) ((Dt.I a0 0) == 10) a0))
noncomputable def value_soundFields : Nat → List Dt → Option Bool
  | 0, _ => none
  | m + 1, a0 =>
    value_soundFields_j0 m (value_sound m) a0 (List.length a0 : Int) 0 []
end
noncomputable def value_Valid : Nat → Dt → Option Bool
  | 0, _ => none
  | m + 1, a0 =>
    ((value_Nodes m a0).bind fun r0 =>
    (bif (decide (r0 ≤ 1024)) then
 ((value_Depth m a0).bind fun r1 =>
 (bif (decide (r1 ≤ 16)) then
 ((value_sound m a0).bind fun r2 =>
 some r2)
 else
 some false))
    else
 some false))
noncomputable def schema_bound_j0 (m : Nat) (x0 : Dt) : Option Bool :=
  (bif ((Dt.I x0 0) == 0) then
    (bif ((Dt.I x0 1) == 0) then
 (bif ((ByteArray.toList (Dt.S x0 2)) == []) then
 (bif ((List.length (Dt.L x0 3) : Int) == 0) then
 some ((List.length (Dt.L x0 4) : Int) == 0)
 else
 some false)
 else
 some false)
    else
 some false)
  else
    some false)
noncomputable def schema_bound : Nat → Bool → Dt → Option Bool
  | 0, _, _ => none
  | m + 1, a0, a1 =>
    (bif a0 then
    ((value_Valid m a1).bind fun r0 =>
 some r0)
  else
    schema_bound_j0 m a1)
noncomputable def schema_checkOne_j5 (m : Nat) (rec1 : List Dt → Int → Int → Dt → List Dt → Option Int) (x0 : List Dt) (x1 x2 : Int) (x3 : Dt) (x4 : List Dt) : Option Int :=
  rec1 x0 x1 (IntKind.wrap .i64 (x2 + 1)) x3 x4
noncomputable def schema_checkOne_j4 (m : Nat) (rec1 : List Dt → Int → Int → Dt → List Dt → Option Int) (x0 : ByteArray) (x1 : List Dt) (x2 x3 : Int) (x4 : Dt) (x5 : List Dt) : Option Int :=
  schema_checkOne_j5 m rec1 x1 x2 x3 x4 (mput x5 x0 (Dt.bool true))
noncomputable def schema_checkOne_j3 (m : Nat) (rec1 : List Dt → Int → Int → Dt → List Dt → Option Int) (x0 : ByteArray) (x1 : List Dt) (x2 x3 : Int) (x4 : Bool) (x5 : Dt) (x6 : List Dt) : Option Int :=
  (bif x4 then
    some 9
  else
    schema_checkOne_j4 m rec1 x0 x1 x2 x3 x5 x6)
noncomputable def schema_checkOne_j2 (m : Nat) (rec1 : List Dt → Int → Int → Dt → List Dt → Option Int) (x0 : List Dt) (x1 x2 : Int) (x3 : Dt) (x4 : List Dt) : Option Int :=
  ((idx x0 x2).bind fun v0 =>
    ((schema_isName m (Dt.toStr v0)).bind fun r1 =>
 (bif (Bool.not r1) then
 schema_checkOne_j3 m rec1 (Dt.toStr v0) x0 x1 x2 true x3 x4
 else
 schema_checkOne_j3 m rec1 (Dt.toStr v0) x0 x1 x2 (Dt.toBool (mgetD x4 (Dt.toStr v0) (Dt.bool false))) x3 x4)))
noncomputable def schema_checkOne_j12 (m : Nat) (rec8 : List Dt → Int → Int → Dt → List Dt → Option Int) (x0 : List Dt) (x1 x2 : Int) (x3 : Dt) (x4 : List Dt) : Option Int :=
  rec8 x0 x1 (IntKind.wrap .i64 (x2 + 1)) x3 x4
noncomputable def schema_checkOne_j11 (m : Nat) (rec8 : List Dt → Int → Int → Dt → List Dt → Option Int) (x0 : List Dt) (x1 x2 : Int) (x3 : Dt) (x4 : List Dt) (x5 : Dt) : Option Int :=
  schema_checkOne_j12 m rec8 x0 x1 x2 x3 (mput x4 (Dt.S x5 0) (Dt.bool true))
noncomputable def schema_checkOne_j10 (m : Nat) (rec8 : List Dt → Int → Int → Dt → List Dt → Option Int) (x0 : List Dt) (x1 x2 : Int) (x3 : Bool) (x4 : Dt) (x5 : List Dt) (x6 : Dt) : Option Int :=
  (bif x3 then
    some 9
  else
    schema_checkOne_j11 m rec8 x0 x1 x2 x4 x5 x6)
noncomputable def schema_checkOne_j9 (m : Nat) (rec8 : List Dt → Int → Int → Dt → List Dt → Option Int) (x0 : List Dt) (x1 x2 : Int) (x3 : Dt) (x4 : List Dt) : Option Int :=
  ((idx x0 x2).bind fun v2 =>
    ((schema_isName m (Dt.S v2 0)).bind fun r3 =>
 (bif (Bool.not r3) then
 schema_checkOne_j10 m rec8 x0 x1 x2 true x3 x4 v2
 else
 schema_checkOne_j10 m rec8 x0 x1 x2 (Dt.toBool (mgetD x4 (Dt.S v2 0) (Dt.bool false))) x3 x4 v2)))
noncomputable def schema_checkOne_j21 (m : Nat) (rec19 : List Dt → Int → Int → Option Int) (x0 : List Dt) (x1 x2 : Int) : Option Int :=
  rec19 x0 x1 (IntKind.wrap .i64 (x2 + 1))
noncomputable def schema_checkOne_j20 (m : Nat) (rec19 : List Dt → Int → Int → Option Int) (x0 : List Dt) (x1 x2 : Int) : Option Int :=
  ((idx x0 x2).bind fun v5 =>
    ((value_Valid m v5).bind fun r6 =>
 (bif (Bool.not r6) then
 some 8
 else
 schema_checkOne_j21 m rec19 x0 x1 x2)))
noncomputable def schema_checkOne_j22 (m : Nat) : Option Int :=
  some 0
noncomputable def schema_checkOne_l19 (m : Nat) : Nat → List Dt → Int → Int → Option Int
  | 0, _, _, _ => none
  | M19 + 1, x0, x1, x2 =>
    (bif (decide (x2 < x1)) then
    schema_checkOne_j20 m (schema_checkOne_l19 m M19) x0 x1 x2
  else
    schema_checkOne_j22 m)
noncomputable def schema_checkOne_j18 (m : Nat) (x0 : List Dt) (x1 x2 : Int) : Option Int :=
  schema_checkOne_l19 m (Nat.succ m) x0 x1 x2
noncomputable def schema_checkOne_j17 (m : Nat) (x0 : Dt) : Option Int :=
  schema_checkOne_j18 m (Dt.L x0 5) (List.length (Dt.L x0 5) : Int) 0
noncomputable def schema_checkOne_j16 (m : Nat) (x0 : Bool) (x1 : Dt) : Option Int :=
  (bif x0 then
    some 8
  else
    schema_checkOne_j17 m x1)
noncomputable def schema_checkOne_j15 (m : Nat) (x0 : Dt) : Option Int :=
  ((schema_bound m (Dt.B x0 1) (Dt.fld x0 2)).bind fun r4 =>
    (bif (Bool.not r4) then
 schema_checkOne_j16 m true x0
    else
 ((schema_bound m (Dt.B x0 3) (Dt.fld x0 4)).bind fun r7 =>
 schema_checkOne_j16 m (Bool.not r7) x0)))
noncomputable def schema_checkOne_j14 (m : Nat) (x0 : Bool) (x1 : Dt) : Option Int :=
  (bif x0 then
    some 1
  else
    schema_checkOne_j15 m x1)
noncomputable def schema_checkOne_j13 (m : Nat) (x0 : Dt) : Option Int :=
  (bif ((bicI IntKind.i64 (Dt.I x0 0) 4094) != 0) then
    schema_checkOne_j14 m true x0
  else
    (bif (decide ((Dt.I x0 6) < 0)) then
 schema_checkOne_j14 m true x0
    else
 (bif (decide ((Dt.I x0 7) < (-1))) then
 schema_checkOne_j14 m true x0
 else
 schema_checkOne_j14 m (decide (1 < (List.length (Dt.L x0 11) : Int))) x0)))
noncomputable def schema_checkOne_l8 (m : Nat) : Nat → List Dt → Int → Int → Dt → List Dt → Option Int
  | 0, _, _, _, _, _ => none
  | M8 + 1, x0, x1, x2, x3, x4 =>
    (bif (decide (x2 < x1)) then
    schema_checkOne_j9 m (schema_checkOne_l8 m M8) x0 x1 x2 x3 x4
  else
    schema_checkOne_j13 m x3)
noncomputable def schema_checkOne_j7 (m : Nat) (x0 : List Dt) (x1 x2 : Int) (x3 : Dt) (x4 : List Dt) : Option Int :=
  schema_checkOne_l8 m (Nat.succ m) x0 x1 x2 x3 x4
noncomputable def schema_checkOne_j6 (m : Nat) (x0 : Dt) : Option Int :=
  schema_checkOne_j7 m (Dt.L x0 9) (List.length (Dt.L x0 9) : Int) 0 x0 []
noncomputable def schema_checkOne_l1 (m : Nat) : Nat → List Dt → Int → Int → Dt → List Dt → Option Int
  | 0, _, _, _, _, _ => none
  | M1 + 1, x0, x1, x2, x3, x4 =>
    (bif (decide (x2 < x1)) then
    schema_checkOne_j2 m (schema_checkOne_l1 m M1) x0 x1 x2 x3 x4
  else
    schema_checkOne_j6 m x3)
noncomputable def schema_checkOne_j0 (m : Nat) (x0 : List Dt) (x1 x2 : Int) (x3 : Dt) (x4 : List Dt) : Option Int :=
  schema_checkOne_l1 m (Nat.succ m) x0 x1 x2 x3 x4
noncomputable def schema_checkOne : Nat → Dt → Option Int
  | 0, _ => none
  | m + 1, a0 =>
    schema_checkOne_j0 m (Dt.L a0 8) (List.length (Dt.L a0 8) : Int) 0 a0 []
noncomputable def i5_j6 (m : Nat) (self5 : Dt → Int → Int → Option (Int × Int)) (rec4 : Int → List Dt → Int → Int → Int → Dt → Option (Int × Int)) (x0 : Int) (x1 : List Dt) (x2 x3 x4 : Int) (x5 : Dt) : Option (Int × Int) :=
  rec4 x0 x1 x2 (IntKind.wrap .i64 (x3 + 1)) x4 x5
noncomputable def i5_j5 (m : Nat) (self5 : Dt → Int → Int → Option (Int × Int)) (rec4 : Int → List Dt → Int → Int → Int → Dt → Option (Int × Int)) (x0 : Int) (x1 : List Dt) (x2 x3 x4 : Int) (x5 : Dt) : Option (Int × Int) :=
  ((idx x1 x3).bind fun v1 =>
    ((self5 (Dt.fld v1 1) (IntKind.wrap .i64 (x0 + 1)) x4).bind fun r2 =>
 (bif (r2.1 != 0) then
 some (r2.1, r2.2)
 else
 i5_j6 m self5 rec4 x0 x1 x2 x3 r2.2 x5)))
noncomputable def i5_j11 (m : Nat) (self5 : Dt → Int → Int → Option (Int × Int)) (rec9 : Int → List Dt → Int → Int → Int → Option (Int × Int)) (x0 : Int) (x1 : List Dt) (x2 x3 x4 : Int) : Option (Int × Int) :=
  rec9 x0 x1 x2 (IntKind.wrap .i64 (x3 + 1)) x4
noncomputable def i5_j10 (m : Nat) (self5 : Dt → Int → Int → Option (Int × Int)) (rec9 : Int → List Dt → Int → Int → Int → Option (Int × Int)) (x0 : Int) (x1 : List Dt) (x2 x3 x4 : Int) : Option (Int × Int) :=
  ((idx x1 x3).bind fun v3 =>
    ((self5 v3 (IntKind.wrap .i64 (x0 + 1)) x4).bind fun r4 =>
 (bif (r4.1 != 0) then
 some (r4.1, r4.2)
 else
 i5_j11 m self5 rec9 x0 x1 x2 x3 r4.2)))
noncomputable def i5_j12 (m : Nat) (self5 : Dt → Int → Int → Option (Int × Int)) (x0 : Int) : Option (Int × Int) :=
  some (0, x0)
noncomputable def i5_l9 (m : Nat) (self5 : Dt → Int → Int → Option (Int × Int)) : Nat → Int → List Dt → Int → Int → Int → Option (Int × Int)
  | 0, _, _, _, _, _ => none
  | M9 + 1, x0, x1, x2, x3, x4 =>
    (bif (decide (x3 < x2)) then
    i5_j10 m self5 (i5_l9 m self5 M9) x0 x1 x2 x3 x4
  else
    i5_j12 m self5 x4)
noncomputable def i5_j8 (m : Nat) (self5 : Dt → Int → Int → Option (Int × Int)) (x0 : Int) (x1 : List Dt) (x2 x3 x4 : Int) : Option (Int × Int) :=
  i5_l9 m self5 (Nat.succ m) x0 x1 x2 x3 x4
noncomputable def i5_j7 (m : Nat) (self5 : Dt → Int → Int → Option (Int × Int)) (x0 x1 : Int) (x2 : Dt) : Option (Int × Int) :=
  i5_j8 m self5 x0 (Dt.L x2 11) (List.length (Dt.L x2 11) : Int) 0 x1
noncomputable def i5_l4 (m : Nat) (self5 : Dt → Int → Int → Option (Int × Int)) : Nat → Int → List Dt → Int → Int → Int → Dt → Option (Int × Int)
  | 0, _, _, _, _, _, _ => none
  | M4 + 1, x0, x1, x2, x3, x4, x5 =>
    (bif (decide (x3 < x2)) then
    i5_j5 m self5 (i5_l4 m self5 M4) x0 x1 x2 x3 x4 x5
  else
    i5_j7 m self5 x0 x4 x5)
noncomputable def i5_j3 (m : Nat) (self5 : Dt → Int → Int → Option (Int × Int)) (x0 : Int) (x1 : List Dt) (x2 x3 x4 : Int) (x5 : Dt) : Option (Int × Int) :=
  i5_l4 m self5 (Nat.succ m) x0 x1 x2 x3 x4 x5
noncomputable def i5_j2 (m : Nat) (self5 : Dt → Int → Int → Option (Int × Int)) (x0 x1 : Int) (x2 : Dt) : Option (Int × Int) :=
  i5_j3 m self5 x0 (Dt.L x2 9) (List.length (Dt.L x2 9) : Int) 0 x1 x2
noncomputable def i5_j1 (m : Nat) (self5 : Dt → Int → Int → Option (Int × Int)) (x0 x1 : Int) (x2 : Dt) : Option (Int × Int) :=
  ((schema_checkOne m x2).bind fun r0 =>
    (bif (r0 != 0) then
 some (r0, (IntKind.wrap .i64 (x1 + 1)))
    else
 i5_j2 m self5 x0 (IntKind.wrap .i64 (x1 + 1)) x2))
noncomputable def i5_j0 (m : Nat) (self5 : Dt → Int → Int → Option (Int × Int)) (x0 : Int) (x1 : Bool) (x2 : Int) (x3 : Dt) : Option (Int × Int) :=
  (bif x1 then
    some (2, x2)
  else
    i5_j1 m self5 x0 x2 x3)
noncomputable def i5 : Nat → Dt → Int → Int → Option (Int × Int)
  | 0, _, _, _ => none
  | m + 1, a0, a1, a2 =>
    (bif (decide (16 < a1)) then
    i5_j0 m (i5 m) a1 true a2 a0
  else
    i5_j0 m (i5 m) a1 (a2 == 64) a2 a0)
noncomputable def schema_Valid : Nat → Dt → Option Int
  | 0, _ => none
  | m + 1, a0 =>
    ((i5 m a0 1 0).bind fun r0 =>
    some r0.1)
noncomputable def ref01_Parts_j3 (m : Nat) (rec1 : Int → Dt → List Dt → Option (List Dt)) (x0 : Int) (x1 : Dt) (x2 : List Dt) : Option (List Dt) :=
  rec1 (IntKind.wrap .i64 (x0 + 1)) x1 x2
noncomputable def ref01_Parts_j2 (m : Nat) (rec1 : Int → Dt → List Dt → Option (List Dt)) (x0 : Int) (x1 : Dt) (x2 : List Dt) : Option (List Dt) :=
  ((idx (Dt.L x1 3) x0).bind fun v0 =>
    ((app x2 [v0]).bind fun v1 =>
 ref01_Parts_j3 m rec1 x0 x1 v1))
noncomputable def ref01_Parts_j8 (m : Nat) (rec6 : Int → Dt → List Dt → Option (List Dt)) (x0 : Int) (x1 : Dt) (x2 : List Dt) : Option (List Dt) :=
  rec6 (IntKind.wrap .i64 (x0 + 1)) x1 x2
noncomputable def ref01_Parts_j7 (m : Nat) (rec6 : Int → Dt → List Dt → Option (List Dt)) (x0 : Int) (x1 : Dt) (x2 : List Dt) : Option (List Dt) :=
  ((idx (Dt.L x1 4) x0).bind fun v2 =>
    ((app x2 [(Dt.fld v2 1)]).bind fun v3 =>
 ref01_Parts_j8 m rec6 x0 x1 v3))
noncomputable def ref01_Parts_j9 (m : Nat) (x0 : List Dt) : Option (List Dt) :=
  some x0
noncomputable def ref01_Parts_l6 (m : Nat) : Nat → Int → Dt → List Dt → Option (List Dt)
  | 0, _, _, _ => none
  | M6 + 1, x0, x1, x2 =>
    (bif (decide (x0 < (List.length (Dt.L x1 4) : Int))) then
    ref01_Parts_j7 m (ref01_Parts_l6 m M6) x0 x1 x2
  else
    ref01_Parts_j9 m x2)
noncomputable def ref01_Parts_j5 (m : Nat) (x0 : Int) (x1 : Dt) (x2 : List Dt) : Option (List Dt) :=
  ref01_Parts_l6 m (Nat.succ m) x0 x1 x2
noncomputable def ref01_Parts_j4 (m : Nat) (x0 : Dt) (x1 : List Dt) : Option (List Dt) :=
  (bif ((Dt.I x0 0) == 5) then
    ref01_Parts_j5 m 0 x0 x1
  else
    ref01_Parts_j9 m x1)
noncomputable def ref01_Parts_l1 (m : Nat) : Nat → Int → Dt → List Dt → Option (List Dt)
  | 0, _, _, _ => none
  | M1 + 1, x0, x1, x2 =>
    (bif (decide (x0 < (List.length (Dt.L x1 3) : Int))) then
    ref01_Parts_j2 m (ref01_Parts_l1 m M1) x0 x1 x2
  else
    ref01_Parts_j4 m x1 x2)
noncomputable def ref01_Parts_j0 (m : Nat) (x0 : Int) (x1 : Dt) (x2 : List Dt) : Option (List Dt) :=
  ref01_Parts_l1 m (Nat.succ m) x0 x1 x2
noncomputable def ref01_Parts : Nat → Dt → Option (List Dt)
  | 0, _ => none
  | m + 1, a0 =>
    (bif ((Dt.I a0 0) == 6) then
    ref01_Parts_j0 m 0 a0 []
  else
    ref01_Parts_j4 m a0 [])
noncomputable def ref01_levels_j5 (m : Nat) (self32 : Dt → Int → Option Int) (rec3 : Int → List Dt → Int → Int → Option Int) (x0 : Int) (x1 : List Dt) (x2 x3 : Int) : Option Int :=
  rec3 x0 x1 x2 (IntKind.wrap .i64 (x3 + 1))
noncomputable def ref01_levels_j4 (m : Nat) (self32 : Dt → Int → Option Int) (rec3 : Int → List Dt → Int → Int → Option Int) (x0 : Int) (x1 : List Dt) (x2 x3 : Int) : Option Int :=
  ((idx x1 x3).bind fun v1 =>
    ((self32 v1 (IntKind.wrap .i64 (x0 - 1))).bind fun r2 =>
 ref01_levels_j5 m self32 rec3 x0 x1 (bif (decide (x2 < r2)) then r2 else x2) x3))
noncomputable def ref01_levels_j6 (m : Nat) (self32 : Dt → Int → Option Int) (x0 : Int) : Option Int :=
  some (IntKind.wrap .i64 (x0 + 1))
noncomputable def ref01_levels_l3 (m : Nat) (self32 : Dt → Int → Option Int) : Nat → Int → List Dt → Int → Int → Option Int
  | 0, _, _, _, _ => none
  | M3 + 1, x0, x1, x2, x3 =>
    (bif (decide (x3 < (List.length x1 : Int))) then
    ref01_levels_j4 m self32 (ref01_levels_l3 m self32 M3) x0 x1 x2 x3
  else
    ref01_levels_j6 m self32 x2)
noncomputable def ref01_levels_j2 (m : Nat) (self32 : Dt → Int → Option Int) (x0 : Int) (x1 : List Dt) (x2 x3 : Int) : Option Int :=
  ref01_levels_l3 m self32 (Nat.succ m) x0 x1 x2 x3
noncomputable def ref01_levels_j1 (m : Nat) (self32 : Dt → Int → Option Int) (x0 : Int) (x1 : List Dt) : Option Int :=
  ref01_levels_j2 m self32 x0 x1 0 0
noncomputable def ref01_levels_j0 (m : Nat) (self32 : Dt → Int → Option Int) (x0 : Int) (x1 : List Dt) (x2 : Bool) : Option Int :=
  (bif x2 then
    some 1
  else
    ref01_levels_j1 m self32 x0 x1)
noncomputable def ref01_levels : Nat → Dt → Int → Option Int
  | 0, _, _ => none
  | m + 1, a0, a1 =>
    ((ref01_Parts m a0).bind fun r0 =>
    (bif (decide (a1 < 2)) then
 ref01_levels_j0 m (ref01_levels m) a1 r0 true
    else
 ref01_levels_j0 m (ref01_levels m) a1 r0 ((List.length r0 : Int) == 0)))
noncomputable def ref01_Depth : Nat → Dt → Option Int
  | 0, _ => none
  | m + 1, a0 =>
    ((ref01_levels m a0 17).bind fun r0 =>
    some r0)
noncomputable def ref01_count_j3 (m : Nat) (self33 : Dt → Int → Option Int) (rec1 : Int → Int → List Dt → Int → Option Int) (x0 x1 : Int) (x2 : List Dt) (x3 : Int) : Option Int :=
  rec1 x0 x1 x2 (IntKind.wrap .i64 (x3 + 1))
noncomputable def ref01_count_j2 (m : Nat) (self33 : Dt → Int → Option Int) (rec1 : Int → Int → List Dt → Int → Option Int) (x0 x1 : Int) (x2 : List Dt) (x3 : Int) : Option Int :=
  ((idx x2 x3).bind fun v1 =>
    ((self33 v1 (IntKind.wrap .i64 (x0 - x1))).bind fun r2 =>
 ref01_count_j3 m self33 rec1 x0 (IntKind.wrap .i64 (x1 + r2)) x2 x3))
noncomputable def ref01_count_j4 (m : Nat) (self33 : Dt → Int → Option Int) (x0 : Int) : Option Int :=
  some x0
noncomputable def ref01_count_l1 (m : Nat) (self33 : Dt → Int → Option Int) : Nat → Int → Int → List Dt → Int → Option Int
  | 0, _, _, _, _ => none
  | M1 + 1, x0, x1, x2, x3 =>
    (bif (decide (x3 < (List.length x2 : Int))) then
    (bif (decide (x1 < x0)) then
 ref01_count_j2 m self33 (ref01_count_l1 m self33 M1) x0 x1 x2 x3
    else
 ref01_count_j4 m self33 x1)
  else
    ref01_count_j4 m self33 x1)
noncomputable def ref01_count_j0 (m : Nat) (self33 : Dt → Int → Option Int) (x0 x1 : Int) (x2 : List Dt) (x3 : Int) : Option Int :=
  ref01_count_l1 m self33 (Nat.succ m) x0 x1 x2 x3
noncomputable def ref01_count : Nat → Dt → Int → Option Int
  | 0, _, _ => none
  | m + 1, a0, a1 =>
    ((ref01_Parts m a0).bind fun r0 =>
    ref01_count_j0 m (ref01_count m) a1 1 r0 0)
noncomputable def ref01_Nodes : Nat → Dt → Option Int
  | 0, _ => none
  | m + 1, a0 =>
    ((ref01_count m a0 1025).bind fun r0 =>
    some r0)
noncomputable def ref01_tail_j5 (m : Nat) (rec2 : ByteArray → Int → Int → Int → Option Bool) (x0 : ByteArray) (x1 x2 x3 : Int) : Option Bool :=
  rec2 x0 x1 x2 (IntKind.wrap .i64 (x3 + 1))
noncomputable def ref01_tail_j4 (m : Nat) (rec2 : ByteArray → Int → Int → Int → Option Bool) (x0 : ByteArray) (x1 x2 x3 : Int) (x4 : Bool) : Option Bool :=
  (bif x4 then
    some false
  else
    ref01_tail_j5 m rec2 x0 x1 x2 x3)
noncomputable def ref01_tail_j3 (m : Nat) (rec2 : ByteArray → Int → Int → Int → Option Bool) (x0 : ByteArray) (x1 x2 x3 : Int) : Option Bool :=
  ((idxS x0 (IntKind.wrap .i64 (x1 + x3))).bind fun v0 =>
    (bif (decide (v0 < 128)) then
 ref01_tail_j4 m rec2 x0 x1 x2 x3 true
    else
 ((idxS x0 (IntKind.wrap .i64 (x1 + x3))).bind fun v1 =>
 ref01_tail_j4 m rec2 x0 x1 x2 x3 (decide (191 < v1)))))
noncomputable def ref01_tail_j6 (m : Nat) : Option Bool :=
  some true
noncomputable def ref01_tail_l2 (m : Nat) : Nat → ByteArray → Int → Int → Int → Option Bool
  | 0, _, _, _, _ => none
  | M2 + 1, x0, x1, x2, x3 =>
    (bif (decide (x3 < x2)) then
    ref01_tail_j3 m (ref01_tail_l2 m M2) x0 x1 x2 x3
  else
    ref01_tail_j6 m)
noncomputable def ref01_tail_j1 (m : Nat) (x0 : ByteArray) (x1 x2 x3 : Int) : Option Bool :=
  ref01_tail_l2 m (Nat.succ m) x0 x1 x2 x3
noncomputable def ref01_tail_j0 (m : Nat) (x0 : ByteArray) (x1 x2 : Int) : Option Bool :=
  ref01_tail_j1 m x0 x1 x2 0
noncomputable def ref01_tail : Nat → ByteArray → Int → Int → Option Bool
  | 0, _, _, _ => none
  | m + 1, a0, a1, a2 =>
    (bif (decide ((ByteArray.size a0 : Int) < (IntKind.wrap .i64 (a1 + a2)))) then
    some false
  else
    ref01_tail_j0 m a0 a1 a2)
noncomputable def ref01_UTF8_j6 (m : Nat) (rec1 : ByteArray → Int → Option Bool) (x0 : ByteArray) (x1 x2 : Int) : Option Bool :=
  rec1 x0 (IntKind.wrap .i64 ((IntKind.wrap .i64 (x1 + x2)) + 1))
noncomputable def ref01_UTF8_j5 (m : Nat) (rec1 : ByteArray → Int → Option Bool) (x0 : ByteArray) (x1 x2 : Int) (x3 : Bool) : Option Bool :=
  (bif x3 then
    some false
  else
    ref01_UTF8_j6 m rec1 x0 x1 x2)
noncomputable def ref01_UTF8_j4 (m : Nat) (rec1 : ByteArray → Int → Option Bool) (x0 : ByteArray) (x1 x2 x3 : Int) : Option Bool :=
  (bif (x2 == 224) then
    ((idxS x0 (IntKind.wrap .i64 (x1 + 1))).bind fun v2 =>
 (bif (decide (v2 < 160)) then
 ref01_UTF8_j5 m rec1 x0 x1 x3 true
 else
 (bif (x2 == 237) then
 ((idxS x0 (IntKind.wrap .i64 (x1 + 1))).bind fun v3 =>
 (bif (decide (159 < v3)) then
 ref01_UTF8_j5 m rec1 x0 x1 x3 true
 else
 (bif (x2 == 240) then
 ((idxS x0 (IntKind.wrap .i64 (x1 + 1))).bind fun v4 =>
 (bif (decide (v4 < 144)) then
 ref01_UTF8_j5 m rec1 x0 x1 x3 true
 else
 (bif (x2 == 244) then
 ((idxS x0 (IntKind.wrap .i64 (x1 + 1))).bind fun v5 =>
 ref01_UTF8_j5 m rec1 x0 x1 x3 (decide (143 < v5)))
 else
 ref01_UTF8_j5 m rec1 x0 x1 x3 false)))
 else
 (bif (x2 == 244) then
 ((idxS x0 (IntKind.wrap .i64 (x1 + 1))).bind fun v6 =>
 ref01_UTF8_j5 m rec1 x0 x1 x3 (decide (143 < v6)))
 else
 ref01_UTF8_j5 m rec1 x0 x1 x3 false))))
 else
 (bif (x2 == 240) then
 ((idxS x0 (IntKind.wrap .i64 (x1 + 1))).bind fun v7 =>
 (bif (decide (v7 < 144)) then
 ref01_UTF8_j5 m rec1 x0 x1 x3 true
 else
 (bif (x2 == 244) then
 ((idxS x0 (IntKind.wrap .i64 (x1 + 1))).bind fun v8 =>
 ref01_UTF8_j5 m rec1 x0 x1 x3 (decide (143 < v8)))
 else
 ref01_UTF8_j5 m rec1 x0 x1 x3 false)))
 else
 (bif (x2 == 244) then
 ((idxS x0 (IntKind.wrap .i64 (x1 + 1))).bind fun v9 =>
 ref01_UTF8_j5 m rec1 x0 x1 x3 (decide (143 < v9)))
 else
 ref01_UTF8_j5 m rec1 x0 x1 x3 false)))))
  else
    (bif (x2 == 237) then
 ((idxS x0 (IntKind.wrap .i64 (x1 + 1))).bind fun v10 =>
 (bif (decide (159 < v10)) then
 ref01_UTF8_j5 m rec1 x0 x1 x3 true
 else
 (bif (x2 == 240) then
 ((idxS x0 (IntKind.wrap .i64 (x1 + 1))).bind fun v11 =>
 (bif (decide (v11 < 144)) then
 ref01_UTF8_j5 m rec1 x0 x1 x3 true
 else
 (bif (x2 == 244) then
 ((idxS x0 (IntKind.wrap .i64 (x1 + 1))).bind fun v12 =>
 ref01_UTF8_j5 m rec1 x0 x1 x3 (decide (143 < v12)))
 else
 ref01_UTF8_j5 m rec1 x0 x1 x3 false)))
 else
 (bif (x2 == 244) then
 ((idxS x0 (IntKind.wrap .i64 (x1 + 1))).bind fun v13 =>
 ref01_UTF8_j5 m rec1 x0 x1 x3 (decide (143 < v13)))
 else
 ref01_UTF8_j5 m rec1 x0 x1 x3 false))))
    else
 (bif (x2 == 240) then
 ((idxS x0 (IntKind.wrap .i64 (x1 + 1))).bind fun v14 =>
 (bif (decide (v14 < 144)) then
 ref01_UTF8_j5 m rec1 x0 x1 x3 true
 else
 (bif (x2 == 244) then
 ((idxS x0 (IntKind.wrap .i64 (x1 + 1))).bind fun v15 =>
 ref01_UTF8_j5 m rec1 x0 x1 x3 (decide (143 < v15)))
 else
 ref01_UTF8_j5 m rec1 x0 x1 x3 false)))
 else
 (bif (x2 == 244) then
 ((idxS x0 (IntKind.wrap .i64 (x1 + 1))).bind fun v16 =>
 ref01_UTF8_j5 m rec1 x0 x1 x3 (decide (143 < v16)))
 else
 ref01_UTF8_j5 m rec1 x0 x1 x3 false))))
noncomputable def ref01_UTF8_j3 (m : Nat) (rec1 : ByteArray → Int → Option Bool) (x0 : ByteArray) (x1 x2 x3 : Int) : Option Bool :=
  ((ref01_tail m x0 (IntKind.wrap .i64 (x1 + 1)) x3).bind fun r1 =>
    (bif (Bool.not r1) then
 some false
    else
 ref01_UTF8_j4 m rec1 x0 x1 x2 x3))
noncomputable def ref01_UTF8_j9 (m : Nat) (rec1 : ByteArray → Int → Option Bool) (x0 : ByteArray) (x1 x2 : Int) (x3 : Bool) : Option Bool :=
  (bif x3 then
    ref01_UTF8_j3 m rec1 x0 x1 x2 3
  else
    some false)
noncomputable def ref01_UTF8_j8 (m : Nat) (rec1 : ByteArray → Int → Option Bool) (x0 : ByteArray) (x1 x2 : Int) (x3 : Bool) : Option Bool :=
  (bif x3 then
    ref01_UTF8_j3 m rec1 x0 x1 x2 2
  else
    (bif (decide (240 ≤ x2)) then
 ref01_UTF8_j9 m rec1 x0 x1 x2 (decide (x2 ≤ 244))
    else
 ref01_UTF8_j9 m rec1 x0 x1 x2 false))
noncomputable def ref01_UTF8_j7 (m : Nat) (rec1 : ByteArray → Int → Option Bool) (x0 : ByteArray) (x1 x2 : Int) (x3 : Bool) : Option Bool :=
  (bif x3 then
    ref01_UTF8_j3 m rec1 x0 x1 x2 1
  else
    (bif (decide (224 ≤ x2)) then
 ref01_UTF8_j8 m rec1 x0 x1 x2 (decide (x2 ≤ 239))
    else
 ref01_UTF8_j8 m rec1 x0 x1 x2 false))
noncomputable def ref01_UTF8_j2 (m : Nat) (rec1 : ByteArray → Int → Option Bool) (x0 : ByteArray) (x1 : Int) : Option Bool :=
  ((idxS x0 x1).bind fun v0 =>
    (bif (decide (v0 < 128)) then
 ref01_UTF8_j3 m rec1 x0 x1 v0 0
    else
 (bif (decide (194 ≤ v0)) then
 ref01_UTF8_j7 m rec1 x0 x1 v0 (decide (v0 ≤ 223))
 else
 ref01_UTF8_j7 m rec1 x0 x1 v0 false)))
noncomputable def ref01_UTF8_j10 (m : Nat) : Option Bool :=
  some true
noncomputable def ref01_UTF8_l1 (m : Nat) : Nat → ByteArray → Int → Option Bool
  | 0, _, _ => none
  | M1 + 1, x0, x1 =>
    (bif (decide (x1 < (ByteArray.size x0 : Int))) then
    ref01_UTF8_j2 m (ref01_UTF8_l1 m M1) x0 x1
  else
    ref01_UTF8_j10 m)
noncomputable def ref01_UTF8_j0 (m : Nat) (x0 : ByteArray) (x1 : Int) : Option Bool :=
  ref01_UTF8_l1 m (Nat.succ m) x0 x1
noncomputable def ref01_UTF8 : Nat → ByteArray → Option Bool
  | 0, _ => none
  | m + 1, a0 =>
    ref01_UTF8_j0 m a0 0
noncomputable def ref01_wide_j6 (m : Nat) (rec3 : ByteArray → Int → Option Bool) (x0 : ByteArray) (x1 : Int) : Option Bool :=
  rec3 x0 (IntKind.wrap .i64 (x1 + 1))
noncomputable def ref01_wide_j5 (m : Nat) (rec3 : ByteArray → Int → Option Bool) (x0 : ByteArray) (x1 : Int) (x2 : Bool) : Option Bool :=
  (bif x2 then
    some false
  else
    ref01_wide_j6 m rec3 x0 x1)
noncomputable def ref01_wide_j4 (m : Nat) (rec3 : ByteArray → Int → Option Bool) (x0 : ByteArray) (x1 : Int) : Option Bool :=
  ((idxS x0 x1).bind fun v0 =>
    (bif (decide (v0 < 32)) then
 ref01_wide_j5 m rec3 x0 x1 true
    else
 ((idxS x0 x1).bind fun v1 =>
 ref01_wide_j5 m rec3 x0 x1 (decide (126 < v1)))))
noncomputable def ref01_wide_j7 (m : Nat) : Option Bool :=
  some true
noncomputable def ref01_wide_l3 (m : Nat) : Nat → ByteArray → Int → Option Bool
  | 0, _, _ => none
  | M3 + 1, x0, x1 =>
    (bif (decide (x1 < (ByteArray.size x0 : Int))) then
    ref01_wide_j4 m (ref01_wide_l3 m M3) x0 x1
  else
    ref01_wide_j7 m)
noncomputable def ref01_wide_j2 (m : Nat) (x0 : ByteArray) (x1 : Int) : Option Bool :=
  ref01_wide_l3 m (Nat.succ m) x0 x1
noncomputable def ref01_wide_j1 (m : Nat) (x0 : ByteArray) : Option Bool :=
  ref01_wide_j2 m x0 0
noncomputable def ref01_wide_j0 (m : Nat) (x0 : ByteArray) (x1 : Bool) : Option Bool :=
  (bif x1 then
    some false
  else
    ref01_wide_j1 m x0)
noncomputable def ref01_wide : Nat → ByteArray → Option Bool
  | 0, _ => none
  | m + 1, a0 =>
    (bif (decide ((ByteArray.size a0 : Int) < 1)) then
    ref01_wide_j0 m a0 true
  else
    ref01_wide_j0 m a0 (decide (128 < (ByteArray.size a0 : Int))))
noncomputable def ref01_formed_j10 (m : Nat) (self26 : Dt → Bool → Option Bool) (self35 : Dt → Bool → Option Bool) (rec8 : Bool → Int → Dt → Option Bool) (x0 : Bool) (x1 : Int) (x2 : Dt) : Option Bool :=
  rec8 x0 (IntKind.wrap .i64 (x1 + 1)) x2
noncomputable def ref01_formed_j9 (m : Nat) (self26 : Dt → Bool → Option Bool) (self35 : Dt → Bool → Option Bool) (rec8 : Bool → Int → Dt → Option Bool) (x0 : Bool) (x1 : Int) (x2 : Dt) : Option Bool :=
  ((idx (Dt.L x2 3) x1).bind fun v1 =>
    ((self26 v1 x0).bind fun r2 =>
 (bif (Bool.not r2) then
 some false
 else
 ref01_formed_j10 m self26 self35 rec8 x0 x1 x2)))
noncomputable def ref01_formed_j11 (m : Nat) (self26 : Dt → Bool → Option Bool) (self35 : Dt → Bool → Option Bool) (x0 : Bool) (x1 : Dt) : Option Bool :=
  ((self35 x1 x0).bind fun r3 =>
    some r3)
noncomputable def ref01_formed_l8 (m : Nat) (self26 : Dt → Bool → Option Bool) (self35 : Dt → Bool → Option Bool) : Nat → Bool → Int → Dt → Option Bool
  | 0, _, _, _ => none
  | M8 + 1, x0, x1, x2 =>
    (bif (decide (x1 < (List.length (Dt.L x2 3) : Int))) then
    ref01_formed_j9 m self26 self35 (ref01_formed_l8 m self26 self35 M8) x0 x1 x2
  else
    ref01_formed_j11 m self26 self35 x0 x2)
noncomputable def ref01_formed_j7 (m : Nat) (self26 : Dt → Bool → Option Bool) (self35 : Dt → Bool → Option Bool) (x0 : Bool) (x1 : Int) (x2 : Dt) : Option Bool :=
  ref01_formed_l8 m self26 self35 (Nat.succ m) x0 x1 x2
noncomputable def ref01_formed_j6 (m : Nat) (self26 : Dt → Bool → Option Bool) (self35 : Dt → Bool → Option Bool) (x0 : Bool) (x1 : Dt) : Option Bool :=
  ref01_formed_j7 m self26 self35 x0 0 x1
noncomputable def ref01_formed_j5 (m : Nat) (self26 : Dt → Bool → Option Bool) (self35 : Dt → Bool → Option Bool) (x0 : Bool) (x1 : Dt) : Option Bool :=
  (bif ((Dt.I x1 0) == 9) then
    (bif ((Dt.I x1 1) == 0) then
 some true
    else
 some ((Dt.I x1 1) == 1))
  else
    (bif ((Dt.I x1 0) == 10) then
 some (decide (0 ≤ (Dt.I x1 1)))
    else
 (bif ((Dt.I x1 0) == 4) then
 (bif (decide ((ByteArray.size (Dt.S x1 2) : Int) ≤ 4096)) then
 ((ref01_UTF8 m (Dt.S x1 2)).bind fun r0 =>
 some r0)
 else
 some false)
 else
 (bif ((Dt.I x1 0) == 7) then
 some (decide ((ByteArray.size (Dt.S x1 2) : Int) ≤ 4096))
 else
 (bif ((Dt.I x1 0) == 8) then
 some ((ByteArray.size (Dt.S x1 2) : Int) == 12)
 else
 ref01_formed_j6 m self26 self35 x0 x1)))))
noncomputable def ref01_formed_j4 (m : Nat) (self26 : Dt → Bool → Option Bool) (self35 : Dt → Bool → Option Bool) (x0 x1 : Bool) (x2 : Dt) : Option Bool :=
  (bif x1 then
    some false
  else
    ref01_formed_j5 m self26 self35 x0 x2)
noncomputable def ref01_formed_j3 (m : Nat) (self26 : Dt → Bool → Option Bool) (self35 : Dt → Bool → Option Bool) (x0 x1 x2 : Bool) (x3 : Dt) : Option Bool :=
  (bif (Bool.not x1) then
    (bif (Bool.not ((ByteArray.toList (Dt.S x3 2)) == [])) then
 ref01_formed_j4 m self26 self35 x0 true x3
    else
 (bif (Bool.not x2) then
 (bif ((Dt.I x3 1) != 0) then
 ref01_formed_j4 m self26 self35 x0 true x3
 else
 (bif (decide ((Dt.I x3 0) < 1)) then
 ref01_formed_j4 m self26 self35 x0 true x3
 else
 ref01_formed_j4 m self26 self35 x0 (decide (11 < (Dt.I x3 0))) x3))
 else
 (bif (decide ((Dt.I x3 0) < 1)) then
 ref01_formed_j4 m self26 self35 x0 true x3
 else
 ref01_formed_j4 m self26 self35 x0 (decide (11 < (Dt.I x3 0))) x3)))
  else
    (bif (Bool.not x2) then
 (bif ((Dt.I x3 1) != 0) then
 ref01_formed_j4 m self26 self35 x0 true x3
 else
 (bif (decide ((Dt.I x3 0) < 1)) then
 ref01_formed_j4 m self26 self35 x0 true x3
 else
 ref01_formed_j4 m self26 self35 x0 (decide (11 < (Dt.I x3 0))) x3))
    else
 (bif (decide ((Dt.I x3 0) < 1)) then
 ref01_formed_j4 m self26 self35 x0 true x3
 else
 ref01_formed_j4 m self26 self35 x0 (decide (11 < (Dt.I x3 0))) x3)))
noncomputable def ref01_formed_j2 (m : Nat) (self26 : Dt → Bool → Option Bool) (self35 : Dt → Bool → Option Bool) (x0 x1 : Bool) (x2 : Dt) : Option Bool :=
  (bif ((Dt.I x2 0) == 3) then
    ref01_formed_j3 m self26 self35 x0 x1 true x2
  else
    (bif ((Dt.I x2 0) == 9) then
 ref01_formed_j3 m self26 self35 x0 x1 true x2
    else
 ref01_formed_j3 m self26 self35 x0 x1 ((Dt.I x2 0) == 10) x2))
noncomputable def ref01_formed_j1 (m : Nat) (self26 : Dt → Bool → Option Bool) (self35 : Dt → Bool → Option Bool) (x0 : Bool) (x1 : Dt) : Option Bool :=
  (bif ((Dt.I x1 0) == 4) then
    ref01_formed_j2 m self26 self35 x0 true x1
  else
    (bif ((Dt.I x1 0) == 7) then
 ref01_formed_j2 m self26 self35 x0 true x1
    else
 ref01_formed_j2 m self26 self35 x0 ((Dt.I x1 0) == 8) x1))
noncomputable def ref01_formed_j0 (m : Nat) (self26 : Dt → Bool → Option Bool) (self35 : Dt → Bool → Option Bool) (x0 x1 : Bool) (x2 : Dt) : Option Bool :=
  (bif x1 then
    some false
  else
    ref01_formed_j1 m self26 self35 x0 x2)
noncomputable def ref01_fields_j8 (m : Nat) (self26 : Dt → Bool → Option Bool) (rec1 : Bool → Int → Dt → Option Bool) (rec6 : Bool → Int → Int → Dt → Dt → Option Bool) (x0 : Bool) (x1 x2 : Int) (x3 x4 : Dt) : Option Bool :=
  rec6 x0 x1 (IntKind.wrap .i64 (x2 + 1)) x3 x4
noncomputable def ref01_fields_j7 (m : Nat) (self26 : Dt → Bool → Option Bool) (rec1 : Bool → Int → Dt → Option Bool) (rec6 : Bool → Int → Int → Dt → Dt → Option Bool) (x0 : Bool) (x1 x2 : Int) (x3 x4 : Dt) : Option Bool :=
  ((idx (Dt.L x3 4) x2).bind fun v2 =>
    (bif ((ByteArray.toList (Dt.S v2 0)) == (ByteArray.toList (Dt.S x4 0))) then
 some false
    else
 ref01_fields_j8 m self26 rec1 rec6 x0 x1 x2 x3 x4))
noncomputable def ref01_fields_j9 (m : Nat) (self26 : Dt → Bool → Option Bool) (rec1 : Bool → Int → Dt → Option Bool) (x0 : Bool) (x1 : Int) (x2 : Dt) : Option Bool :=
  rec1 x0 (IntKind.wrap .i64 (x1 + 1)) x2
noncomputable def ref01_fields_l6 (m : Nat) (self26 : Dt → Bool → Option Bool) (rec1 : Bool → Int → Dt → Option Bool) : Nat → Bool → Int → Int → Dt → Dt → Option Bool
  | 0, _, _, _, _, _ => none
  | M6 + 1, x0, x1, x2, x3, x4 =>
    (bif (decide (x2 < x1)) then
    ref01_fields_j7 m self26 rec1 (ref01_fields_l6 m self26 rec1 M6) x0 x1 x2 x3 x4
  else
    ref01_fields_j9 m self26 rec1 x0 x1 x3)
noncomputable def ref01_fields_j5 (m : Nat) (self26 : Dt → Bool → Option Bool) (rec1 : Bool → Int → Dt → Option Bool) (x0 : Bool) (x1 x2 : Int) (x3 x4 : Dt) : Option Bool :=
  ref01_fields_l6 m self26 rec1 (Nat.succ m) x0 x1 x2 x3 x4
noncomputable def ref01_fields_j4 (m : Nat) (self26 : Dt → Bool → Option Bool) (rec1 : Bool → Int → Dt → Option Bool) (x0 : Bool) (x1 : Int) (x2 x3 : Dt) : Option Bool :=
  ref01_fields_j5 m self26 rec1 x0 x1 0 x2 x3
noncomputable def ref01_fields_j3 (m : Nat) (self26 : Dt → Bool → Option Bool) (rec1 : Bool → Int → Dt → Option Bool) (x0 : Bool) (x1 : Int) (x2 : Bool) (x3 x4 : Dt) : Option Bool :=
  (bif x2 then
    some false
  else
    ref01_fields_j4 m self26 rec1 x0 x1 x3 x4)
noncomputable def ref01_fields_j2 (m : Nat) (self26 : Dt → Bool → Option Bool) (rec1 : Bool → Int → Dt → Option Bool) (x0 : Bool) (x1 : Int) (x2 : Dt) : Option Bool :=
  ((idx (Dt.L x2 4) x1).bind fun v0 =>
    (bif x0 then
 ((ref01_Name m (Dt.S v0 0)).bind fun r1 =>
 (bif (Bool.not r1) then
 ref01_fields_j3 m self26 rec1 x0 x1 true x2 v0
 else
 (bif (Bool.not x0) then
 ((ref01_wide m (Dt.S v0 0)).bind fun r3 =>
 (bif (Bool.not r3) then
 ref01_fields_j3 m self26 rec1 x0 x1 true x2 v0
 else
 ((self26 (Dt.fld v0 1) x0).bind fun r4 =>
 ref01_fields_j3 m self26 rec1 x0 x1 (Bool.not r4) x2 v0)))
 else
 ((self26 (Dt.fld v0 1) x0).bind fun r5 =>
 ref01_fields_j3 m self26 rec1 x0 x1 (Bool.not r5) x2 v0))))
    else
 (bif (Bool.not x0) then
 ((ref01_wide m (Dt.S v0 0)).bind fun r6 =>
 (bif (Bool.not r6) then
 ref01_fields_j3 m self26 rec1 x0 x1 true x2 v0
 else
 ((self26 (Dt.fld v0 1) x0).bind fun r7 =>
 ref01_fields_j3 m self26 rec1 x0 x1 (Bool.not r7) x2 v0)))
 else
 ((self26 (Dt.fld v0 1) x0).bind fun r8 =>
 ref01_fields_j3 m self26 rec1 x0 x1 (Bool.not r8) x2 v0))))
noncomputable def ref01_fields_j10 (m : Nat) (self26 : Dt → Bool → Option Bool) : Option Bool :=
  some true
noncomputable def ref01_fields_l1 (m : Nat) (self26 : Dt → Bool → Option Bool) : Nat → Bool → Int → Dt → Option Bool
  | 0, _, _, _ => none
  | M1 + 1, x0, x1, x2 =>
    (bif (decide (x1 < (List.length (Dt.L x2 4) : Int))) then
    ref01_fields_j2 m self26 (ref01_fields_l1 m self26 M1) x0 x1 x2
  else
    ref01_fields_j10 m self26)
noncomputable def ref01_fields_j0 (m : Nat) (self26 : Dt → Bool → Option Bool) (x0 : Bool) (x1 : Int) (x2 : Dt) : Option Bool :=
  ref01_fields_l1 m self26 (Nat.succ m) x0 x1 x2
mutual
noncomputable def ref01_formed : Nat → Dt → Bool → Option Bool
  | 0, _, _ => none
  | m + 1, a0, a1 =>
    (bif ((Dt.I a0 0) != 6) then
    (bif (decide (0 < (List.length (Dt.L a0 3) : Int))) then
 ref01_formed_j0 m (ref01_formed m) (ref01_fields m) a1 true a0
    else
 (bif ((Dt.I a0 0) != 5) then
 ref01_formed_j0 m (ref01_formed m) (ref01_fields m) a1 (decide (0 < (List.length (Dt.L a0 4) : Int))) a0
 else
 ref01_formed_j0 m (ref01_formed m) (ref01_fields m) a1 false a0))
  else
    (bif ((Dt.I a0 0) != 5) then
 ref01_formed_j0 m (ref01_formed m) (ref01_fields m) a1 (decide (0 < (List.length (Dt.L a0 4) : Int))) a0
    else
 ref01_formed_j0 m (ref01_formed m) (ref01_fields m) a1 false a0))
noncomputable def ref01_fields : Nat → Dt → Bool → Option Bool
  | 0, _, _ => none
  | m + 1, a0, a1 =>
    ref01_fields_j0 m (ref01_formed m) a1 0 a0
end
noncomputable def ref01_Valid : Nat → Dt → Option Bool
  | 0, _ => none
  | m + 1, a0 =>
    ((ref01_Depth m a0).bind fun r0 =>
    (bif (decide (r0 ≤ 16)) then
 ((ref01_Nodes m a0).bind fun r1 =>
 (bif (decide (r1 ≤ 1024)) then
 ((ref01_formed m a0 true).bind fun r2 =>
 some r2)
 else
 some false))
    else
 some false))
noncomputable def ref14_unused : Nat → Bool → Dt → Option Bool
  | 0, _, _ => none
  | m + 1, a0, a1 =>
    (bif a0 then
    ((ref01_Valid m a1).bind fun r0 =>
 (bif (Bool.not r0) then
 some true
 else
 (bif (Bool.not a0) then
 ((ref01_Same m a1 kza2373).bind fun r1 =>
 some (Bool.not r1))
 else
 some false)))
  else
    (bif (Bool.not a0) then
 ((ref01_Same m a1 kza2373).bind fun r2 =>
 some (Bool.not r2))
    else
 some false))
noncomputable def ref14_single_j3 (m : Nat) (rec1 : Int → Dt → List Dt → Option Int) (x0 : Int) (x1 : Dt) (x2 : List Dt) : Option Int :=
  rec1 (IntKind.wrap .i64 (x0 + 1)) x1 x2
noncomputable def ref14_single_j2 (m : Nat) (rec1 : Int → Dt → List Dt → Option Int) (x0 : Int) (x1 : Dt) (x2 : List Dt) : Option Int :=
  ((idx (Dt.L x1 9) x0).bind fun v0 =>
    ((app x2 [(Dt.str (Dt.S v0 0))]).bind fun v1 =>
 ref14_single_j3 m rec1 x0 x1 v1))
noncomputable def ref14_single_j14 (m : Nat) (rec12 : Int → Dt → Option Int) (x0 : Int) (x1 : Dt) : Option Int :=
  rec12 (IntKind.wrap .i64 (x0 + 1)) x1
noncomputable def ref14_single_j13 (m : Nat) (rec12 : Int → Dt → Option Int) (x0 : Int) (x1 : Dt) : Option Int :=
  ((idx (Dt.L x1 5) x0).bind fun v4 =>
    ((ref01_Valid m v4).bind fun r5 =>
 (bif (Bool.not r5) then
 some 8
 else
 ref14_single_j14 m rec12 x0 x1)))
noncomputable def ref14_single_j15 (m : Nat) : Option Int :=
  some 0
noncomputable def ref14_single_l12 (m : Nat) : Nat → Int → Dt → Option Int
  | 0, _, _ => none
  | M12 + 1, x0, x1 =>
    (bif (decide (x0 < (List.length (Dt.L x1 5) : Int))) then
    ref14_single_j13 m (ref14_single_l12 m M12) x0 x1
  else
    ref14_single_j15 m)
noncomputable def ref14_single_j11 (m : Nat) (x0 : Int) (x1 : Dt) : Option Int :=
  ref14_single_l12 m (Nat.succ m) x0 x1
noncomputable def ref14_single_j10 (m : Nat) (x0 : Dt) : Option Int :=
  ref14_single_j11 m 0 x0
noncomputable def ref14_single_j9 (m : Nat) (x0 : Bool) (x1 : Dt) : Option Int :=
  (bif x0 then
    some 8
  else
    ref14_single_j10 m x1)
noncomputable def ref14_single_j8 (m : Nat) (x0 : Dt) : Option Int :=
  ((ref14_unused m (Dt.B x0 1) (Dt.fld x0 2)).bind fun r3 =>
    (bif r3 then
 ref14_single_j9 m true x0
    else
 ((ref14_unused m (Dt.B x0 3) (Dt.fld x0 4)).bind fun r6 =>
 ref14_single_j9 m r6 x0)))
noncomputable def ref14_single_j7 (m : Nat) (x0 : Bool) (x1 : Dt) : Option Int :=
  (bif x0 then
    some 1
  else
    ref14_single_j8 m x1)
noncomputable def ref14_single_j6 (m : Nat) (x0 : Dt) : Option Int :=
  (bif (decide ((Dt.I x0 0) < 0)) then
    ref14_single_j7 m true x0
  else
    (bif ((Int.tmod (Dt.I x0 0) 2) == 1) then
 ref14_single_j7 m true x0
    else
 (bif (decide (4096 ≤ (Dt.I x0 0))) then
 ref14_single_j7 m true x0
 else
 (bif (decide ((Dt.I x0 6) < 0)) then
 ref14_single_j7 m true x0
 else
 (bif (decide ((Dt.I x0 7) < (-1))) then
 ref14_single_j7 m true x0
 else
 ref14_single_j7 m (decide (1 < (List.length (Dt.L x0 11) : Int))) x0)))))
noncomputable def ref14_single_j5 (m : Nat) (x0 : Bool) (x1 : Dt) : Option Int :=
  (bif x0 then
    some 9
  else
    ref14_single_j6 m x1)
noncomputable def ref14_single_j4 (m : Nat) (x0 : Dt) (x1 : List Dt) : Option Int :=
  ((ref14_different m (Dt.L x0 8)).bind fun r2 =>
    (bif (Bool.not r2) then
 ref14_single_j5 m true x0
    else
 ((ref14_different m x1).bind fun r7 =>
 ref14_single_j5 m (Bool.not r7) x0)))
noncomputable def ref14_single_l1 (m : Nat) : Nat → Int → Dt → List Dt → Option Int
  | 0, _, _, _ => none
  | M1 + 1, x0, x1, x2 =>
    (bif (decide (x0 < (List.length (Dt.L x1 9) : Int))) then
    ref14_single_j2 m (ref14_single_l1 m M1) x0 x1 x2
  else
    ref14_single_j4 m x1 x2)
noncomputable def ref14_single_j0 (m : Nat) (x0 : Int) (x1 : Dt) (x2 : List Dt) : Option Int :=
  ref14_single_l1 m (Nat.succ m) x0 x1 x2
noncomputable def ref14_single : Nat → Dt → Option Int
  | 0, _ => none
  | m + 1, a0 =>
    ref14_single_j0 m 0 a0 []
noncomputable def ref14_check_j8 (m : Nat) (self7 : Dt → Int → Int → Option (Int × Int)) (rec4 : Int → Int → Int → Dt → Option (Int × Int)) (x0 x1 x2 : Int) (x3 : Dt) : Option (Int × Int) :=
  rec4 x0 x1 (IntKind.wrap .i64 (x2 + 1)) x3
noncomputable def ref14_check_j7 (m : Nat) (self7 : Dt → Int → Int → Option (Int × Int)) (rec4 : Int → Int → Int → Dt → Option (Int × Int)) (x0 x1 x2 : Int) (x3 : Dt) : Option (Int × Int) :=
  ref14_check_j8 m self7 rec4 x2 x0 x1 x3
noncomputable def ref14_check_j6 (m : Nat) (self7 : Dt → Int → Int → Option (Int × Int)) (rec4 : Int → Int → Int → Dt → Option (Int × Int)) (x0 x1 x2 : Int) (x3 x4 : Dt) : Option (Int × Int) :=
  ((self7 x4 (IntKind.wrap .i64 (x0 + 1)) (IntKind.wrap .i64 (x1 + 1))).bind fun r2 =>
    (bif (r2.2 != 0) then
 some (r2.1, r2.2)
    else
 ref14_check_j7 m self7 rec4 x1 x2 r2.1 x3))
noncomputable def ref14_check_j5 (m : Nat) (self7 : Dt → Int → Int → Option (Int × Int)) (rec4 : Int → Int → Int → Dt → Option (Int × Int)) (x0 x1 x2 : Int) (x3 : Dt) : Option (Int × Int) :=
  (bif (decide (x2 < (List.length (Dt.L x3 9) : Int))) then
    ((idx (Dt.L x3 9) x2).bind fun v1 =>
 ref14_check_j6 m self7 rec4 x0 x1 x2 x3 (Dt.fld v1 1))
  else
    ((idx (Dt.L x3 11) (IntKind.wrap .i64 (x2 - (List.length (Dt.L x3 9) : Int)))).bind fun v3 =>
 ref14_check_j6 m self7 rec4 x0 x1 x2 x3 v3))
noncomputable def ref14_check_j9 (m : Nat) (self7 : Dt → Int → Int → Option (Int × Int)) (x0 : Int) : Option (Int × Int) :=
  some (x0, 0)
noncomputable def ref14_check_l4 (m : Nat) (self7 : Dt → Int → Int → Option (Int × Int)) : Nat → Int → Int → Int → Dt → Option (Int × Int)
  | 0, _, _, _, _ => none
  | M4 + 1, x0, x1, x2, x3 =>
    (bif (decide (x2 < (IntKind.wrap .i64 ((List.length (Dt.L x3 9) : Int) + (List.length (Dt.L x3 11) : Int))))) then
    ref14_check_j5 m self7 (ref14_check_l4 m self7 M4) x0 x1 x2 x3
  else
    ref14_check_j9 m self7 x0)
noncomputable def ref14_check_j3 (m : Nat) (self7 : Dt → Int → Int → Option (Int × Int)) (x0 x1 x2 : Int) (x3 : Dt) : Option (Int × Int) :=
  ref14_check_l4 m self7 (Nat.succ m) x0 x1 x2 x3
noncomputable def ref14_check_j2 (m : Nat) (self7 : Dt → Int → Int → Option (Int × Int)) (x0 x1 : Int) (x2 : Dt) : Option (Int × Int) :=
  ref14_check_j3 m self7 x0 x1 0 x2
noncomputable def ref14_check_j1 (m : Nat) (self7 : Dt → Int → Int → Option (Int × Int)) (x0 x1 : Int) (x2 : Dt) : Option (Int × Int) :=
  ((ref14_single m x2).bind fun r0 =>
    (bif (r0 != 0) then
 some (x0, r0)
    else
 ref14_check_j2 m self7 x0 x1 x2))
noncomputable def ref14_check_j0 (m : Nat) (self7 : Dt → Int → Int → Option (Int × Int)) (x0 x1 : Int) (x2 : Bool) (x3 : Dt) : Option (Int × Int) :=
  (bif x2 then
    some (x0, 2)
  else
    ref14_check_j1 m self7 x0 x1 x3)
noncomputable def ref14_check : Nat → Dt → Int → Int → Option (Int × Int)
  | 0, _, _, _ => none
  | m + 1, a0, a1, a2 =>
    (bif (decide (16 < a2)) then
    ref14_check_j0 m (ref14_check m) a1 a2 true a0
  else
    ref14_check_j0 m (ref14_check m) a1 a2 (decide (64 < a1)) a0)
noncomputable def ref14_Valid : Nat → Dt → Option Int
  | 0, _ => none
  | m + 1, a0 =>
    ((ref14_check m a0 1 1).bind fun r0 =>
    some r0.2)
noncomputable def law14_SchemaValid_j0 (m : Nat) (x0 : Dt) : Option Bool :=
  ((schema_Valid m x0).bind fun r2 =>
    ((ref14_Valid m x0).bind fun r3 =>
 (bif (r2 == r3) then
 ((awakeC).bind fun r4 =>
 some r4)
 else
 some false)))
noncomputable def law14_SchemaValid : Nat → Dt → Option Bool
  | 0, _ => none
  | m + 1, a0 =>
    ((ref14_Count m a0 201).bind fun r0 =>
    (bif (decide (200 < r0)) then
 ((awakeC).bind fun r1 =>
 some r1)
    else
 law14_SchemaValid_j0 m a0))
end Go.Proofs.YtfneddmmeadacaaDoor
