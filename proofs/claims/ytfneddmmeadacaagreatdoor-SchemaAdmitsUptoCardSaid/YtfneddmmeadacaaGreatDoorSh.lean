/- Generated: what the Go functions compute, over plain data. -/
import Derived.Test.YtfneddmmeadacaaGreatDoorAm20
import Derived.Test.YtfneddmmeadacaaGreatDoorOAwake
import Derived.Test.YtfneddmmeadacaaGreatDoorOLib
import Derived.Test.YtfneddmmeadacaaGreatDoorOGrow
import Derived.Test.YtfneddmmeadacaaGreatDoorOCloneT
set_option linter.unusedVariables false
set_option linter.unusedSimpArgs false
namespace Go.Proofs.YtfneddmmeadacaaGreatDoor
open Go.Am
def kza2373:Dt:=Dt.agg [(Dt.int 0),(Dt.int 0),(Dt.str (ByteArray.mk (List.toArray []))),(Dt.lst []),(Dt.lst [])]
noncomputable def ref14_Count_j3 (m:Nat) (self9:Dt→Int→Option Int) (rec1:Int→Int→Int→Dt→Option Int) (x0 x1 x2:Int) (x3:Dt):Option Int:=
 rec1 x0 x1 (IntKind.wrap .i64 (x2+1)) x3
noncomputable def ref14_Count_j2 (m:Nat) (self9:Dt→Int→Option Int) (rec1:Int→Int→Int→Dt→Option Int) (x0 x1 x2:Int) (x3:Dt):Option Int:=
  ((idx (Dt.L x3 9) x2).bind fun v0=>
    ((self9 (Dt.fld v0 1) (IntKind.wrap .i64 (x0-x1))).bind fun r1=>
 ref14_Count_j3 m self9 rec1 x0 (IntKind.wrap .i64 (x1+r1)) x2 x3))
noncomputable def ref14_Count_j8 (m:Nat) (self9:Dt→Int→Option Int) (rec6:Int→Int→Int→Dt→Option Int) (x0 x1 x2:Int) (x3:Dt):Option Int:=
 rec6 x0 x1 (IntKind.wrap .i64 (x2+1)) x3
noncomputable def ref14_Count_j7 (m:Nat) (self9:Dt→Int→Option Int) (rec6:Int→Int→Int→Dt→Option Int) (x0 x1 x2:Int) (x3:Dt):Option Int:=
  ((idx (Dt.L x3 11) x2).bind fun v2=>
    ((self9 v2 (IntKind.wrap .i64 (x0-x1))).bind fun r3=>
 ref14_Count_j8 m self9 rec6 x0 (IntKind.wrap .i64 (x1+r3)) x2 x3))
noncomputable def ref14_Count_j9 (m:Nat) (self9:Dt→Int→Option Int) (x0:Int):Option Int:=
 some x0
noncomputable def ref14_Count_l6 (m:Nat) (self9:Dt→Int→Option Int):Nat→Int→Int→Int→Dt→Option Int
  |0,_,_,_,_=>none
  |M6+1,x0,x1,x2,x3=>
   (bif (decide (x2<(List.length (Dt.L x3 11):Int))) then
   (bif (decide (x1<x0)) then
 ref14_Count_j7 m self9 (ref14_Count_l6 m self9 M6) x0 x1 x2 x3
   else
 ref14_Count_j9 m self9 x1)
  else
   ref14_Count_j9 m self9 x1)
noncomputable def ref14_Count_j5 (m:Nat) (self9:Dt→Int→Option Int) (x0 x1 x2:Int) (x3:Dt):Option Int:=
 ref14_Count_l6 m self9 (Nat.succ m) x0 x1 x2 x3
noncomputable def ref14_Count_j4 (m:Nat) (self9:Dt→Int→Option Int) (x0 x1:Int) (x2:Dt):Option Int:=
 ref14_Count_j5 m self9 x0 x1 0 x2
noncomputable def ref14_Count_l1 (m:Nat) (self9:Dt→Int→Option Int):Nat→Int→Int→Int→Dt→Option Int
  |0,_,_,_,_=>none
  |M1+1,x0,x1,x2,x3=>
   (bif (decide (x2<(List.length (Dt.L x3 9):Int))) then
   (bif (decide (x1<x0)) then
 ref14_Count_j2 m self9 (ref14_Count_l1 m self9 M1) x0 x1 x2 x3
   else
 ref14_Count_j4 m self9 x0 x1 x3)
  else
   ref14_Count_j4 m self9 x0 x1 x3)
noncomputable def ref14_Count_j0 (m:Nat) (self9:Dt→Int→Option Int) (x0 x1 x2:Int) (x3:Dt):Option Int:=
 ref14_Count_l1 m self9 (Nat.succ m) x0 x1 x2 x3
noncomputable def ref14_Count:Nat→Dt→Int→Option Int
 |0,_,_=>none
 |m+1,a0,a1=>
  ref14_Count_j0 m (ref14_Count m) a1 1 0 a0
noncomputable def schema_hasKind:Nat→Int→Int→Option Bool
  |0,_,_=>none
  |m+1,a0,a1=>
   (bif (a0==0) then
   some true
  else
   (bif (decide (0≤a1)) then
 (bif (decide (a1≤11)) then
 (bif (decide (0≤a1)) then
 some ((andI IntKind.i64 (shrI IntKind.i64 a0 a1) 1)==1)
 else
 none)
 else
 some false)
   else
 some false))
noncomputable def slices_Concat_j3 (m:Nat) (rec1:List Dt→Int→List Dt→Int→Int→Option (List Dt)) (x0:List Dt) (x1:Int) (x2:List Dt) (x3 x4:Int):Option (List Dt):=
 rec1 x0 x1 x2 x3 (IntKind.wrap .i64 (x4+1))
noncomputable def slices_Concat_j2 (m:Nat) (rec1:List Dt→Int→List Dt→Int→Int→Option (List Dt)) (x0:List Dt) (x1:Int) (x2:List Dt) (x3 x4:Int):Option (List Dt):=
  ((idx x2 x4).bind fun v0=>
    (bif (decide ((IntKind.wrap .i64 (x1+(List.length (Dt.toLst v0):Int)))<0)) then
 none
    else
 slices_Concat_j3 m rec1 x0 (IntKind.wrap .i64 (x1+(List.length (Dt.toLst v0):Int))) x2 x3 x4))
noncomputable def slices_Concat_j8 (m:Nat) (rec6:List Dt→Int→Int→List Dt→Option (List Dt)) (x0:List Dt) (x1 x2:Int) (x3:List Dt):Option (List Dt):=
 rec6 x0 x1 (IntKind.wrap .i64 (x2+1)) x3
noncomputable def slices_Concat_j7 (m:Nat) (rec6:List Dt→Int→Int→List Dt→Option (List Dt)) (x0:List Dt) (x1 x2:Int) (x3:List Dt):Option (List Dt):=
  ((idx x0 x2).bind fun v2=>
    ((app x3 (Dt.toLst v2)).bind fun v3=>
 slices_Concat_j8 m rec6 x0 x1 x2 v3))
noncomputable def slices_Concat_j9 (m:Nat) (x0:List Dt):Option (List Dt):=
 some x0
noncomputable def slices_Concat_l6 (m:Nat):Nat→List Dt→Int→Int→List Dt→Option (List Dt)
 |0,_,_,_,_=>none
 |M6+1,x0,x1,x2,x3=>
  (bif (decide (x2<x1)) then
  slices_Concat_j7 m (slices_Concat_l6 m M6) x0 x1 x2 x3
 else
  slices_Concat_j9 m x3)
noncomputable def slices_Concat_j5 (m:Nat) (x0:List Dt) (x1 x2:Int) (x3:List Dt):Option (List Dt):=
 slices_Concat_l6 m (Nat.succ m) x0 x1 x2 x3
noncomputable def slices_Concat_j4 (m:Nat) (x0:List Dt) (x1:Int):Option (List Dt):=
 ((slices_Grow x1).bind fun r1=>
   slices_Concat_j5 m x0 (List.length x0:Int) 0 r1)
noncomputable def slices_Concat_l1 (m:Nat):Nat→List Dt→Int→List Dt→Int→Int→Option (List Dt)
 |0,_,_,_,_,_=>none
 |M1+1,x0,x1,x2,x3,x4=>
  (bif (decide (x4<x3)) then
  slices_Concat_j2 m (slices_Concat_l1 m M1) x0 x1 x2 x3 x4
 else
  slices_Concat_j4 m x0 x1)
noncomputable def slices_Concat_j0 (m:Nat) (x0:List Dt) (x1:Int) (x2:List Dt) (x3 x4:Int):Option (List Dt):=
 slices_Concat_l1 m (Nat.succ m) x0 x1 x2 x3 x4
noncomputable def slices_Concat:Nat→List Dt→Option (List Dt)
 |0,_=>none
 |m+1,a0=>
  slices_Concat_j0 m a0 0 a0 (List.length a0:Int) 0
noncomputable def i14:Nat→Bool→Int→List Dt→List Dt→List Dt→Option (List Dt×List Dt)
  |0,_,_,_,_,_=>none
  |m+1,a0,a1,a2,a3,a4=>
   (bif a0 then
   ((slices_Concat m [(Dt.lst a4),(Dt.lst a2)]).bind fun r0=>
 ((app a3 [(Dt.agg [(Dt.lst r0),(Dt.int a1)])]).bind fun v1=>
 some (a4,v1)))
  else
   some (a4,a3))
noncomputable def schema_length_j1 (m:Nat):Option (Int×Bool):=
 some (0,false)
noncomputable def schema_length_j0 (m:Nat) (x0:Int) (x1:Bool) (x2:Dt):Option (Int×Bool):=
  (bif x1 then
   some ((ByteArray.size (Dt.S x2 2):Int),true)
  else
   (bif (x0==6) then
 some ((List.length (Dt.L x2 3):Int),true)
   else
 schema_length_j1 m))
noncomputable def schema_length:Nat→Dt→Option (Int×Bool)
 |0,_=>none
 |m+1,a0=>
  (bif ((Dt.I a0 0)==4) then
  schema_length_j0 m (Dt.I a0 0) ((Dt.I a0 0)==4) a0
 else
  schema_length_j0 m (Dt.I a0 0) ((Dt.I a0 0)==7) a0)
noncomputable def schema_field_j3 (m:Nat) (rec1:ByteArray→List Dt→Int→Int→Dt→Option (Dt×Bool)) (x0:ByteArray) (x1:List Dt) (x2 x3:Int) (x4:Dt):Option (Dt×Bool):=
 rec1 x0 x1 x2 (IntKind.wrap .i64 (x3+1)) x4
noncomputable def schema_field_j2 (m:Nat) (rec1:ByteArray→List Dt→Int→Int→Dt→Option (Dt×Bool)) (x0:ByteArray) (x1:List Dt) (x2 x3:Int) (x4:Dt):Option (Dt×Bool):=
  ((idx x1 x3).bind fun v0=>
    (bif ((ByteArray.toList (Dt.S v0 0))==(ByteArray.toList x0)) then
 some ((Dt.fld v0 1),true)
    else
 schema_field_j3 m rec1 x0 x1 x2 x3 x4))
noncomputable def schema_field_j4 (m:Nat) (x0:Dt):Option (Dt×Bool):=
 some (kza2373,false)
noncomputable def schema_field_l1 (m:Nat):Nat→ByteArray→List Dt→Int→Int→Dt→Option (Dt×Bool)
 |0,_,_,_,_,_=>none
 |M1+1,x0,x1,x2,x3,x4=>
  (bif (decide (x3<x2)) then
  schema_field_j2 m (schema_field_l1 m M1) x0 x1 x2 x3 x4
 else
  schema_field_j4 m x4)
noncomputable def schema_field_j0 (m:Nat) (x0:ByteArray) (x1:List Dt) (x2 x3:Int) (x4:Dt):Option (Dt×Bool):=
 schema_field_l1 m (Nat.succ m) x0 x1 x2 x3 x4
noncomputable def schema_field:Nat→Dt→ByteArray→Option (Dt×Bool)
 |0,_,_=>none
 |m+1,a0,a1=>
  schema_field_j0 m a1 (Dt.L a0 4) (List.length (Dt.L a0 4):Int) 0 kza2373
noncomputable def i25:Nat→Dt→Dt→Option Bool
 |0,_,_=>none
 |m+1,a0,a1=>
  some ((ByteArray.toList (Dt.S a0 0))==(ByteArray.toList (Dt.S a1 0)))
noncomputable def i24_j3 (m:Nat) (rec1:List Dt→Dt→Int→Int→Option Int) (x0:List Dt) (x1:Dt) (x2 x3:Int):Option Int:=
 rec1 x0 x1 x2 (IntKind.wrap .i64 (x3+1))
noncomputable def i24_j2 (m:Nat) (rec1:List Dt→Dt→Int→Int→Option Int) (x0:List Dt) (x1:Dt) (x2 x3:Int):Option Int:=
  ((idx x0 x3).bind fun v0=>
    ((i25 m v0 x1).bind fun r1=>
 (bif r1 then
 some x3
 else
 i24_j3 m rec1 x0 x1 x2 x3)))
noncomputable def i24_j4 (m:Nat):Option Int:=
 some (-1)
noncomputable def i24_l1 (m:Nat):Nat→List Dt→Dt→Int→Int→Option Int
 |0,_,_,_,_=>none
 |M1+1,x0,x1,x2,x3=>
  (bif (decide (x3<x2)) then
  i24_j2 m (i24_l1 m M1) x0 x1 x2 x3
 else
  i24_j4 m)
noncomputable def i24_j0 (m:Nat) (x0:List Dt) (x1:Dt) (x2 x3:Int):Option Int:=
 i24_l1 m (Nat.succ m) x0 x1 x2 x3
noncomputable def i24:Nat→List Dt→Dt→Option Int
 |0,_,_=>none
 |m+1,a0,a1=>
  i24_j0 m a0 a1 (List.length a0:Int) 0
noncomputable def i23:Nat→List Dt→Dt→Option Bool
 |0,_,_=>none
 |m+1,a0,a1=>
  ((i24 m a0 a1).bind fun r0=>
  some (decide (0≤r0)))
noncomputable def ref02_count_j5 (m:Nat) (self31:Dt→Int→Int→Option Int) (rec3:Int→Int→Int→Dt→Option Int) (x0 x1 x2:Int) (x3:Dt):Option Int:=
 rec3 x0 x1 (IntKind.wrap .i64 (x2+1)) x3
noncomputable def ref02_count_j4 (m:Nat) (self31:Dt→Int→Int→Option Int) (rec3:Int→Int→Int→Dt→Option Int) (x0 x1 x2:Int) (x3:Dt):Option Int:=
  ((idx (Dt.L x3 3) x2).bind fun v0=>
    ((self31 v0 (IntKind.wrap .i64 (x0+1)) x1).bind fun r1=>
 ref02_count_j5 m self31 rec3 x0 r1 x2 x3))
noncomputable def ref02_count_j11 (m:Nat) (self31:Dt→Int→Int→Option Int) (rec8:Int→Int→Int→Dt→Option Int) (x0 x1 x2:Int) (x3:Dt):Option Int:=
 rec8 x0 x1 (IntKind.wrap .i64 (x2+1)) x3
noncomputable def ref02_count_j10 (m:Nat) (self31:Dt→Int→Int→Option Int) (rec8:Int→Int→Int→Dt→Option Int) (x0 x1 x2:Int) (x3:Dt):Option Int:=
  ((idx (Dt.L x3 4) x2).bind fun v3=>
    ((self31 (Dt.fld v3 1) (IntKind.wrap .i64 (x0+1)) x1).bind fun r4=>
 ref02_count_j11 m self31 rec8 x0 r4 x2 x3))
noncomputable def ref02_count_j9 (m:Nat) (self31:Dt→Int→Int→Option Int) (rec8:Int→Int→Int→Dt→Option Int) (x0 x1 x2:Int) (x3:Dt):Option Int:=
  ((idx (Dt.L x3 4) x2).bind fun v2=>
    (bif (decide (200<(ByteArray.size (Dt.S v2 0):Int))) then
 some (-1)
    else
 ref02_count_j10 m self31 rec8 x0 x1 x2 x3))
noncomputable def ref02_count_j12 (m:Nat) (self31:Dt→Int→Int→Option Int) (x0:Int):Option Int:=
 some x0
noncomputable def ref02_count_l8 (m:Nat) (self31:Dt→Int→Int→Option Int):Nat→Int→Int→Int→Dt→Option Int
  |0,_,_,_,_=>none
  |M8+1,x0,x1,x2,x3=>
   (bif (decide (x2<(List.length (Dt.L x3 4):Int))) then
   (bif (decide (0≤x1)) then
 ref02_count_j9 m self31 (ref02_count_l8 m self31 M8) x0 x1 x2 x3
   else
 ref02_count_j12 m self31 x1)
  else
   ref02_count_j12 m self31 x1)
noncomputable def ref02_count_j7 (m:Nat) (self31:Dt→Int→Int→Option Int) (x0 x1 x2:Int) (x3:Dt):Option Int:=
 ref02_count_l8 m self31 (Nat.succ m) x0 x1 x2 x3
noncomputable def ref02_count_j6 (m:Nat) (self31:Dt→Int→Int→Option Int) (x0 x1:Int) (x2:Dt):Option Int:=
 ref02_count_j7 m self31 x0 x1 0 x2
noncomputable def ref02_count_l3 (m:Nat) (self31:Dt→Int→Int→Option Int):Nat→Int→Int→Int→Dt→Option Int
  |0,_,_,_,_=>none
  |M3+1,x0,x1,x2,x3=>
   (bif (decide (x2<(List.length (Dt.L x3 3):Int))) then
   (bif (decide (0≤x1)) then
 ref02_count_j4 m self31 (ref02_count_l3 m self31 M3) x0 x1 x2 x3
   else
 ref02_count_j6 m self31 x0 x1 x3)
  else
   ref02_count_j6 m self31 x0 x1 x3)
noncomputable def ref02_count_j2 (m:Nat) (self31:Dt→Int→Int→Option Int) (x0 x1 x2:Int) (x3:Dt):Option Int:=
 ref02_count_l3 m self31 (Nat.succ m) x0 x1 x2 x3
noncomputable def ref02_count_j1 (m:Nat) (self31:Dt→Int→Int→Option Int) (x0 x1:Int) (x2:Dt):Option Int:=
 ref02_count_j2 m self31 x0 x1 0 x2
noncomputable def ref02_count_j0 (m:Nat) (self31:Dt→Int→Int→Option Int) (x0 x1:Int) (x2:Bool) (x3:Dt):Option Int:=
 (bif x2 then
  some (-1)
 else
  ref02_count_j1 m self31 x0 x1 x3)
noncomputable def ref02_count:Nat→Dt→Int→Int→Option Int
 |0,_,_,_=>none
 |m+1,a0,a1,a2=>
  (bif (decide (40<a1)) then
  ref02_count_j0 m (ref02_count m) a1 (IntKind.wrap .i64 (a2-1)) true a0
 else
  ref02_count_j0 m (ref02_count m) a1 (IntKind.wrap .i64 (a2-1)) (decide (5000<(ByteArray.size (Dt.S a0 2):Int))) a0)
noncomputable def ref02_Few:Nat→Dt→Int→Option Bool
 |0,_,_=>none
 |m+1,a0,a1=>
  ((ref02_count m a0 1 a1).bind fun r0=>
  some (decide (0≤r0)))
noncomputable def law14_few:Nat→Dt→Dt→Option Bool
  |0,_,_=>none
  |m+1,a0,a1=>
   ((ref14_Count m a0 81).bind fun r0=>
   (bif (decide (r0≤80)) then
 ((ref02_Few m a1 300).bind fun r1=>
 some r1)
   else
 some false))
noncomputable def i43_j3 (m:Nat) (rec1:Int→Int→Int→Int→List Dt→Option (List Dt)) (x0 x1 x2 x3:Int) (x4:List Dt):Option (List Dt):=
 rec1 x0 x1 x2 (IntKind.wrap .i64 (x3+1)) x4
noncomputable def i43_j2 (m:Nat) (rec1:Int→Int→Int→Int→List Dt→Option (List Dt)) (x0 x1 x2 x3:Int) (x4:List Dt):Option (List Dt):=
  ((inL x4 (IntKind.wrap .i64 (x1+x3))).bind fun v0=>
    ((x4[(Int.toNat (IntKind.wrap .i64 (x1+x3)))]?).bind fun v1=>
 ((inL x4 (IntKind.wrap .i64 (x0+x3))).bind fun v2=>
 ((x4[(Int.toNat (IntKind.wrap .i64 (x0+x3)))]?).bind fun v3=>
 ((inL x4 (IntKind.wrap .i64 (x0+x3))).bind fun v4=>
 ((x4[(Int.toNat (IntKind.wrap .i64 (x0+x3)))]?).bind fun v5=>
 ((inL (List.set x4 (Int.toNat (IntKind.wrap .i64 (x0+x3))) v1) (IntKind.wrap .i64 (x1+x3))).bind fun v6=>
 (((List.set x4 (Int.toNat (IntKind.wrap .i64 (x0+x3))) v1)[(Int.toNat (IntKind.wrap .i64 (x1+x3)))]?).bind fun v7=>
 i43_j3 m rec1 x0 x1 x2 x3 (List.set (List.set x4 (Int.toNat (IntKind.wrap .i64 (x0+x3))) v1) (Int.toNat (IntKind.wrap .i64 (x1+x3))) v3)))))))))
noncomputable def i43_l1 (m:Nat):Nat→Int→Int→Int→Int→List Dt→Option (List Dt)
 |0,_,_,_,_,_=>none
 |M1+1,x0,x1,x2,x3,x4=>
  (bif (decide (x3<x2)) then
  i43_j2 m (i43_l1 m M1) x0 x1 x2 x3 x4
 else
  some x4)
noncomputable def i43_j0 (m:Nat) (x0 x1 x2 x3:Int) (x4:List Dt):Option (List Dt):=
 i43_l1 m (Nat.succ m) x0 x1 x2 x3 x4
noncomputable def i43:Nat→Int→Int→Int→List Dt→Option (List Dt)
 |0,_,_,_,_=>none
 |m+1,a0,a1,a2,a3=>
  i43_j0 m a0 a1 a2 0 a3
noncomputable def i42_j2 (m:Nat) (rec1:Int→Int→Int→List Dt→Option (List Dt)) (x0 x1 x2:Int) (x3:List Dt):Option (List Dt):=
  (bif (decide (x2<x1)) then
   ((i43 m (IntKind.wrap .i64 (x0-x1)) x0 x2 x3).bind fun r0=>
 rec1 x0 (IntKind.wrap .i64 (x1-x2)) x2 r0)
  else
   ((i43 m (IntKind.wrap .i64 (x0-x1)) (IntKind.wrap .i64 ((IntKind.wrap .i64 (x0+x2))-x1)) x1 x3).bind fun r1=>
 rec1 x0 x1 (IntKind.wrap .i64 (x2-x1)) r1))
noncomputable def i42_j3 (m:Nat) (x0 x1:Int) (x2:List Dt):Option (List Dt):=
 ((i43 m (IntKind.wrap .i64 (x0-x1)) x0 x1 x2).bind fun r2=>
   some r2)
noncomputable def i42_l1 (m:Nat):Nat→Int→Int→Int→List Dt→Option (List Dt)
 |0,_,_,_,_=>none
 |M1+1,x0,x1,x2,x3=>
  (bif (x1 !=x2) then
  i42_j2 m (i42_l1 m M1) x0 x1 x2 x3
 else
  i42_j3 m x0 x1 x3)
noncomputable def i42_j0 (m:Nat) (x0 x1 x2:Int) (x3:List Dt):Option (List Dt):=
 i42_l1 m (Nat.succ m) x0 x1 x2 x3
noncomputable def i42:Nat→Int→Int→Int→List Dt→Option (List Dt)
 |0,_,_,_,_=>none
 |m+1,a0,a1,a2,a3=>
  i42_j0 m a1 (IntKind.wrap .i64 (a1-a0)) (IntKind.wrap .i64 (a2-a1)) a3
noncomputable def ref14_length_j0 (m:Nat) (x0:Dt):Option (Int×Bool):=
 (bif ((Dt.I x0 0)==4) then
  some ((ByteArray.size (Dt.S x0 2):Int),true)
 else
  some ((ByteArray.size (Dt.S x0 2):Int),((Dt.I x0 0)==7)))
noncomputable def ref14_length:Nat→Dt→Option (Int×Bool)
 |0,_=>none
 |m+1,a0=>
  (bif ((Dt.I a0 0)==6) then
  some ((List.length (Dt.L a0 3):Int),true)
 else
  ref14_length_j0 m a0)
noncomputable def ref14_step:Nat→List Dt→ByteArray→Option (List Dt)
  |0,_,_=>none
  |m+1,a0,a1=>
   ((app [] a0).bind fun v0=>
   ((app v0 [(Dt.str a1)]).bind fun v1=>
 some v1))
noncomputable def ref14_has_j3 (m:Nat) (rec1:ByteArray→Int→Dt→Option Bool) (x0:ByteArray) (x1:Int) (x2:Dt):Option Bool:=
 rec1 x0 (IntKind.wrap .i64 (x1+1)) x2
noncomputable def ref14_has_j2 (m:Nat) (rec1:ByteArray→Int→Dt→Option Bool) (x0:ByteArray) (x1:Int) (x2:Dt):Option Bool:=
  ((idx (Dt.L x2 9) x1).bind fun v0=>
    (bif ((ByteArray.toList (Dt.S v0 0))==(ByteArray.toList x0)) then
 some true
    else
 ref14_has_j3 m rec1 x0 x1 x2))
noncomputable def ref14_has_j4 (m:Nat):Option Bool:=
 some false
noncomputable def ref14_has_l1 (m:Nat):Nat→ByteArray→Int→Dt→Option Bool
 |0,_,_,_=>none
 |M1+1,x0,x1,x2=>
  (bif (decide (x1<(List.length (Dt.L x2 9):Int))) then
  ref14_has_j2 m (ref14_has_l1 m M1) x0 x1 x2
 else
  ref14_has_j4 m)
noncomputable def ref14_has_j0 (m:Nat) (x0:ByteArray) (x1:Int) (x2:Dt):Option Bool:=
 ref14_has_l1 m (Nat.succ m) x0 x1 x2
noncomputable def ref14_has:Nat→Dt→ByteArray→Option Bool
 |0,_,_=>none
 |m+1,a0,a1=>
  ref14_has_j0 m a1 0 a0
noncomputable def ref04_prefix_j4 (m:Nat) (rec2:List Dt→List Dt→Int→Option Bool) (x0 x1:List Dt) (x2:Int):Option Bool:=
 rec2 x0 x1 (IntKind.wrap .i64 (x2+1))
noncomputable def ref04_prefix_j3 (m:Nat) (rec2:List Dt→List Dt→Int→Option Bool) (x0 x1:List Dt) (x2:Int):Option Bool:=
  ((idx x0 x2).bind fun v0=>
    ((idx x1 x2).bind fun v1=>
 (bif (Bool.not ((ByteArray.toList (Dt.toStr v0))==(ByteArray.toList (Dt.toStr v1)))) then
 some false
 else
 ref04_prefix_j4 m rec2 x0 x1 x2)))
noncomputable def ref04_prefix_j5 (m:Nat):Option Bool:=
 some true
noncomputable def ref04_prefix_l2 (m:Nat):Nat→List Dt→List Dt→Int→Option Bool
 |0,_,_,_=>none
 |M2+1,x0,x1,x2=>
  (bif (decide (x2<(List.length x0:Int))) then
  ref04_prefix_j3 m (ref04_prefix_l2 m M2) x0 x1 x2
 else
  ref04_prefix_j5 m)
noncomputable def ref04_prefix_j1 (m:Nat) (x0 x1:List Dt) (x2:Int):Option Bool:=
 ref04_prefix_l2 m (Nat.succ m) x0 x1 x2
noncomputable def ref04_prefix_j0 (m:Nat) (x0 x1:List Dt):Option Bool:=
 ref04_prefix_j1 m x0 x1 0
noncomputable def ref04_prefix:Nat→List Dt→List Dt→Option Bool
 |0,_,_=>none
 |m+1,a0,a1=>
  (bif (decide ((List.length a1:Int)<(List.length a0:Int))) then
  some false
 else
  ref04_prefix_j0 m a0 a1)
noncomputable def ref04_Same:Nat→List Dt→List Dt→Option Bool
  |0,_,_=>none
  |m+1,a0,a1=>
   (bif ((List.length a0:Int)==(List.length a1:Int)) then
   ((ref04_prefix m a0 a1).bind fun r0=>
 some r0)
  else
   some false)
noncomputable def ref14_SameList_j5 (m:Nat) (rec2:List Dt→List Dt→Int→Option Bool) (x0 x1:List Dt) (x2:Int):Option Bool:=
 rec2 x0 x1 (IntKind.wrap .i64 (x2+1))
noncomputable def ref14_SameList_j4 (m:Nat) (rec2:List Dt→List Dt→Int→Option Bool) (x0 x1:List Dt) (x2:Int) (x3:Bool):Option Bool:=
 (bif x3 then
  some false
 else
  ref14_SameList_j5 m rec2 x0 x1 x2)
noncomputable def ref14_SameList_j3 (m:Nat) (rec2:List Dt→List Dt→Int→Option Bool) (x0 x1:List Dt) (x2:Int):Option Bool:=
  ((idx x0 x2).bind fun v0=>
    ((idx x1 x2).bind fun v1=>
 (bif ((Dt.I v0 1) !=(Dt.I v1 1)) then
 ref14_SameList_j4 m rec2 x0 x1 x2 true
 else
 ((idx x0 x2).bind fun v2=>
 ((idx x1 x2).bind fun v3=>
 ((ref04_Same m (Dt.L v2 0) (Dt.L v3 0)).bind fun r4=>
 ref14_SameList_j4 m rec2 x0 x1 x2 (Bool.not r4)))))))
noncomputable def ref14_SameList_j6 (m:Nat):Option Bool:=
 some true
noncomputable def ref14_SameList_l2 (m:Nat):Nat→List Dt→List Dt→Int→Option Bool
 |0,_,_,_=>none
 |M2+1,x0,x1,x2=>
  (bif (decide (x2<(List.length x0:Int))) then
  ref14_SameList_j3 m (ref14_SameList_l2 m M2) x0 x1 x2
 else
  ref14_SameList_j6 m)
noncomputable def ref14_SameList_j1 (m:Nat) (x0 x1:List Dt) (x2:Int):Option Bool:=
 ref14_SameList_l2 m (Nat.succ m) x0 x1 x2
noncomputable def ref14_SameList_j0 (m:Nat) (x0 x1:List Dt):Option Bool:=
 ref14_SameList_j1 m x0 x1 0
noncomputable def ref14_SameList:Nat→List Dt→List Dt→Option Bool
 |0,_,_=>none
 |m+1,a0,a1=>
  (bif ((List.length a0:Int) !=(List.length a1:Int)) then
  some false
 else
  ref14_SameList_j0 m a0 a1)
noncomputable def schema_isName_j6 (m:Nat) (rec3:ByteArray→Int→Int→Option Bool) (x0:ByteArray) (x1 x2:Int):Option Bool:=
 rec3 x0 x1 (IntKind.wrap .i64 (x2+1))
noncomputable def schema_isName_j5 (m:Nat) (rec3:ByteArray→Int→Int→Option Bool) (x0:ByteArray) (x1 x2:Int) (x3:Bool):Option Bool:=
 (bif x3 then
  some false
 else
  schema_isName_j6 m rec3 x0 x1 x2)
noncomputable def schema_isName_j4 (m:Nat) (rec3:ByteArray→Int→Int→Option Bool) (x0:ByteArray) (x1 x2:Int):Option Bool:=
  ((idxS x0 x2).bind fun v0=>
    (bif (decide (v0<33)) then
 schema_isName_j5 m rec3 x0 x1 x2 true
    else
 ((idxS x0 x2).bind fun v1=>
 (bif (decide (126<v1)) then
 schema_isName_j5 m rec3 x0 x1 x2 true
 else
 ((idxS x0 x2).bind fun v2=>
 schema_isName_j5 m rec3 x0 x1 x2 (v2==46))))))
noncomputable def schema_isName_j7 (m:Nat):Option Bool:=
 some true
noncomputable def schema_isName_l3 (m:Nat):Nat→ByteArray→Int→Int→Option Bool
 |0,_,_,_=>none
 |M3+1,x0,x1,x2=>
  (bif (decide (x2<x1)) then
  schema_isName_j4 m (schema_isName_l3 m M3) x0 x1 x2
 else
  schema_isName_j7 m)
noncomputable def schema_isName_j2 (m:Nat) (x0:ByteArray) (x1 x2:Int):Option Bool:=
 schema_isName_l3 m (Nat.succ m) x0 x1 x2
noncomputable def schema_isName_j1 (m:Nat) (x0:ByteArray):Option Bool:=
 schema_isName_j2 m x0 (ByteArray.size x0:Int) 0
noncomputable def schema_isName_j0 (m:Nat) (x0:ByteArray) (x1:Bool):Option Bool:=
 (bif x1 then
  some false
 else
  schema_isName_j1 m x0)
noncomputable def schema_isName:Nat→ByteArray→Option Bool
  |0,_=>none
  |m+1,a0=>
   (bif (decide ((ByteArray.size a0:Int)<1)) then
   schema_isName_j0 m a0 true
  else
   (bif (decide (32<(ByteArray.size a0:Int))) then
 schema_isName_j0 m a0 true
   else
 ((idxS a0 0).bind fun v3=>
 schema_isName_j0 m a0 (v3==36))))
noncomputable def cmp_isNaN:Nat→Int→Option Bool
 |0,_=>none
 |m+1,a0=>
  some (a0 !=a0)
noncomputable def cmp_Compare_j0 (m:Nat):Option Int:=
 some (-1)
noncomputable def cmp_Compare_j4 (m:Nat):Option Int:=
 some 0
noncomputable def cmp_Compare_j3 (m:Nat) (x0 x1:Int):Option Int:=
 (bif (decide (x1<x0)) then
  some 1
 else
  cmp_Compare_j4 m)
noncomputable def cmp_Compare_j2 (m:Nat) (x0 x1:Int):Option Int:=
 (bif (decide (x0<x1)) then
  some (-1)
 else
  cmp_Compare_j3 m x0 x1)
noncomputable def cmp_Compare_j1 (m:Nat) (x0 x1:Int) (x2:Bool):Option Int:=
 (bif x2 then
  some 1
 else
  cmp_Compare_j2 m x0 x1)
noncomputable def cmp_Compare:Nat→Int→Int→Option Int
  |0,_,_=>none
  |m+1,a0,a1=>
   ((cmp_isNaN m a0).bind fun r0=>
   ((cmp_isNaN m a1).bind fun r1=>
 (bif r0 then
 (bif r1 then
 some 0
 else
 cmp_Compare_j0 m)
 else
 cmp_Compare_j1 m a0 a1 r1)))
noncomputable def value_Compare_j6 (m:Nat) (self20:Dt→Dt→Option Int) (rec4:Int→Int→Dt→Dt→Option Int) (x0 x1:Int) (x2 x3:Dt):Option Int:=
 rec4 x0 (IntKind.wrap .i64 (x1+1)) x2 x3
noncomputable def value_Compare_j5 (m:Nat) (self20:Dt→Dt→Option Int) (rec4:Int→Int→Dt→Dt→Option Int) (x0 x1:Int) (x2 x3:Dt):Option Int:=
  ((idx (Dt.L x2 3) x1).bind fun v3=>
    ((idx (Dt.L x3 3) x1).bind fun v4=>
 ((self20 v3 v4).bind fun r5=>
 (bif (r5 !=0) then
 some r5
 else
 value_Compare_j6 m self20 rec4 x0 x1 x2 x3))))
noncomputable def value_Compare_j7 (m:Nat) (self20:Dt→Dt→Option Int) (x0 x1:Dt):Option Int:=
 ((cmp_Compare m (List.length (Dt.L x0 3):Int) (List.length (Dt.L x1 3):Int)).bind fun r6=>
   some r6)
noncomputable def value_Compare_l4 (m:Nat) (self20:Dt→Dt→Option Int):Nat→Int→Int→Dt→Dt→Option Int
 |0,_,_,_,_=>none
 |M4+1,x0,x1,x2,x3=>
  (bif (decide (x1<x0)) then
  value_Compare_j5 m self20 (value_Compare_l4 m self20 M4) x0 x1 x2 x3
 else
  value_Compare_j7 m self20 x2 x3)
noncomputable def value_Compare_j3 (m:Nat) (self20:Dt→Dt→Option Int) (x0 x1:Int) (x2 x3:Dt):Option Int:=
 value_Compare_l4 m self20 (Nat.succ m) x0 x1 x2 x3
noncomputable def value_Compare_j12 (m:Nat) (self20:Dt→Dt→Option Int) (rec9:Int→Int→Dt→Dt→Option Int) (x0 x1:Int) (x2 x3:Dt):Option Int:=
 rec9 x0 (IntKind.wrap .i64 (x1+1)) x2 x3
noncomputable def value_Compare_j11 (m:Nat) (self20:Dt→Dt→Option Int) (rec9:Int→Int→Dt→Dt→Option Int) (x0 x1 x2:Int) (x3 x4:Dt):Option Int:=
  ((idx (Dt.L x3 4) x0).bind fun v10=>
    ((idx (Dt.L x4 4) x0).bind fun v11=>
 ((self20 (Dt.fld v10 1) (Dt.fld v11 1)).bind fun r12=>
 (bif (r12 !=0) then
 some r12
 else
 value_Compare_j12 m self20 rec9 x1 x2 x3 x4))))
noncomputable def value_Compare_j10 (m:Nat) (self20:Dt→Dt→Option Int) (rec9:Int→Int→Dt→Dt→Option Int) (x0 x1:Int) (x2 x3:Dt):Option Int:=
  ((idx (Dt.L x2 4) x1).bind fun v7=>
    ((idx (Dt.L x3 4) x1).bind fun v8=>
 ((strings_Compare (Dt.S v7 0) (Dt.S v8 0)).bind fun r9=>
 (bif (r9 !=0) then
 some r9
 else
 value_Compare_j11 m self20 rec9 x1 x0 x1 x2 x3))))
noncomputable def value_Compare_j13 (m:Nat) (self20:Dt→Dt→Option Int) (x0 x1:Dt):Option Int:=
 ((cmp_Compare m (List.length (Dt.L x0 4):Int) (List.length (Dt.L x1 4):Int)).bind fun r13=>
   some r13)
noncomputable def value_Compare_l9 (m:Nat) (self20:Dt→Dt→Option Int):Nat→Int→Int→Dt→Dt→Option Int
 |0,_,_,_,_=>none
 |M9+1,x0,x1,x2,x3=>
  (bif (decide (x1<x0)) then
  value_Compare_j10 m self20 (value_Compare_l9 m self20 M9) x0 x1 x2 x3
 else
  value_Compare_j13 m self20 x2 x3)
noncomputable def value_Compare_j8 (m:Nat) (self20:Dt→Dt→Option Int) (x0 x1:Int) (x2 x3:Dt):Option Int:=
 value_Compare_l9 m self20 (Nat.succ m) x0 x1 x2 x3
noncomputable def value_Compare_j14 (m:Nat) (self20:Dt→Dt→Option Int):Option Int:=
 some 0
noncomputable def value_Compare_j2 (m:Nat) (self20:Dt→Dt→Option Int) (x0:Int) (x1:Bool) (x2 x3:Dt):Option Int:=
  (bif x1 then
   ((strings_Compare (Dt.S x2 2) (Dt.S x3 2)).bind fun r2=>
 some r2)
  else
   (bif (x0==6) then
 value_Compare_j3 m self20 (bif (decide ((List.length (Dt.L x3 3):Int)<(List.length (Dt.L x2 3):Int))) then(List.length (Dt.L x3 3):Int) else(List.length (Dt.L x2 3):Int)) 0 x2 x3
   else
 (bif (x0==5) then
 value_Compare_j8 m self20 (bif (decide ((List.length (Dt.L x3 4):Int)<(List.length (Dt.L x2 4):Int))) then(List.length (Dt.L x3 4):Int) else(List.length (Dt.L x2 4):Int)) 0 x2 x3
 else
 value_Compare_j14 m self20)))
noncomputable def value_Compare_j1 (m:Nat) (self20:Dt→Dt→Option Int) (x0:Int) (x1:Bool) (x2 x3:Dt):Option Int:=
  (bif x1 then
   ((cmp_Compare m (Dt.I x2 1) (Dt.I x3 1)).bind fun r1=>
 some r1)
  else
   (bif (x0==4) then
 value_Compare_j2 m self20 x0 (x0==4) x2 x3
   else
 (bif (x0==7) then
 value_Compare_j2 m self20 x0 (x0==7) x2 x3
 else
 value_Compare_j2 m self20 x0 (x0==8) x2 x3)))
noncomputable def value_Compare_j0 (m:Nat) (self20:Dt→Dt→Option Int) (x0 x1:Dt):Option Int:=
  (bif ((Dt.I x0 0)==3) then
   value_Compare_j1 m self20 (Dt.I x0 0) ((Dt.I x0 0)==3) x0 x1
  else
   (bif ((Dt.I x0 0)==9) then
 value_Compare_j1 m self20 (Dt.I x0 0) ((Dt.I x0 0)==9) x0 x1
   else
 value_Compare_j1 m self20 (Dt.I x0 0) ((Dt.I x0 0)==10) x0 x1))
noncomputable def value_Compare:Nat→Dt→Dt→Option Int
  |0,_,_=>none
  |m+1,a0,a1=>
   (bif ((Dt.I a0 0) !=(Dt.I a1 0)) then
   ((cmp_Compare m (Dt.I a0 0) (Dt.I a1 0)).bind fun r0=>
 some r0)
  else
   value_Compare_j0 m (value_Compare m) a0 a1)
noncomputable def value_Equal:Nat→Dt→Dt→Option Bool
 |0,_,_=>none
 |m+1,a0,a1=>
  ((value_Compare m a0 a1).bind fun r0=>
  some (r0==0))
noncomputable def i18:Nat→Dt→Dt→Option Bool
 |0,_,_=>none
 |m+1,a0,a1=>
  ((value_Equal m a0 a1).bind fun r0=>
  some r0)
noncomputable def i17_j3 (m:Nat) (rec1:List Dt→Dt→Int→Int→Option Int) (x0:List Dt) (x1:Dt) (x2 x3:Int):Option Int:=
 rec1 x0 x1 x2 (IntKind.wrap .i64 (x3+1))
noncomputable def i17_j2 (m:Nat) (rec1:List Dt→Dt→Int→Int→Option Int) (x0:List Dt) (x1:Dt) (x2 x3:Int):Option Int:=
  ((idx x0 x3).bind fun v0=>
    ((i18 m v0 x1).bind fun r1=>
 (bif r1 then
 some x3
 else
 i17_j3 m rec1 x0 x1 x2 x3)))
noncomputable def i17_j4 (m:Nat):Option Int:=
 some (-1)
noncomputable def i17_l1 (m:Nat):Nat→List Dt→Dt→Int→Int→Option Int
 |0,_,_,_,_=>none
 |M1+1,x0,x1,x2,x3=>
  (bif (decide (x3<x2)) then
  i17_j2 m (i17_l1 m M1) x0 x1 x2 x3
 else
  i17_j4 m)
noncomputable def i17_j0 (m:Nat) (x0:List Dt) (x1:Dt) (x2 x3:Int):Option Int:=
 i17_l1 m (Nat.succ m) x0 x1 x2 x3
noncomputable def i17:Nat→List Dt→Dt→Option Int
 |0,_,_=>none
 |m+1,a0,a1=>
  i17_j0 m a0 a1 (List.length a0:Int) 0
noncomputable def i16:Nat→List Dt→Dt→Option Bool
 |0,_,_=>none
 |m+1,a0,a1=>
  ((i17 m a0 a1).bind fun r0=>
  some (decide (0≤r0)))
noncomputable def i40_j6 (m:Nat) (rec1:Int→Int→Int→List Dt→Option (List Dt)) (rec4:Int→Int→Int→Int→List Dt→Option (List Dt)) (x0 x1 x2 x3:Int) (x4:List Dt):Option (List Dt):=
 rec4 x0 x1 x2 (IntKind.wrap .i64 (x3-1)) x4
noncomputable def i40_j5 (m:Nat) (rec1:Int→Int→Int→List Dt→Option (List Dt)) (rec4:Int→Int→Int→Int→List Dt→Option (List Dt)) (x0 x1 x2 x3:Int) (x4:List Dt):Option (List Dt):=
  ((inL x4 (IntKind.wrap .i64 (x3-1))).bind fun v5=>
    ((x4[(Int.toNat (IntKind.wrap .i64 (x3-1)))]?).bind fun v6=>
 ((inL x4 x3).bind fun v7=>
 ((x4[(Int.toNat x3)]?).bind fun v8=>
 ((inL x4 x3).bind fun v9=>
 ((x4[(Int.toNat x3)]?).bind fun v10=>
 ((inL (List.set x4 (Int.toNat x3) v6) (IntKind.wrap .i64 (x3-1))).bind fun v11=>
 (((List.set x4 (Int.toNat x3) v6)[(Int.toNat (IntKind.wrap .i64 (x3-1)))]?).bind fun v12=>
 i40_j6 m rec1 rec4 x0 x1 x2 x3 (List.set (List.set x4 (Int.toNat x3) v6) (Int.toNat (IntKind.wrap .i64 (x3-1))) v8)))))))))
noncomputable def i40_j7 (m:Nat) (rec1:Int→Int→Int→List Dt→Option (List Dt)) (x0 x1 x2:Int) (x3:List Dt):Option (List Dt):=
 rec1 x0 x1 (IntKind.wrap .i64 (x2+1)) x3
noncomputable def i40_l4 (m:Nat) (rec1:Int→Int→Int→List Dt→Option (List Dt)):Nat→Int→Int→Int→Int→List Dt→Option (List Dt)
  |0,_,_,_,_,_=>none
  |M4+1,x0,x1,x2,x3,x4=>
   (bif (decide (x0<x3)) then
   ((inL x4 x3).bind fun v0=>
 ((x4[(Int.toNat x3)]?).bind fun v1=>
 ((inL x4 (IntKind.wrap .i64 (x3-1))).bind fun v2=>
 ((x4[(Int.toNat (IntKind.wrap .i64 (x3-1)))]?).bind fun v3=>
 ((value_Compare m v1 v3).bind fun r4=>
 (bif (decide (r4<0)) then
 i40_j5 m rec1 (i40_l4 m rec1 M4) x0 x1 x2 x3 x4
 else
 i40_j7 m rec1 x0 x1 x2 x4))))))
  else
   i40_j7 m rec1 x0 x1 x2 x4)
noncomputable def i40_j3 (m:Nat) (rec1:Int→Int→Int→List Dt→Option (List Dt)) (x0 x1 x2 x3:Int) (x4:List Dt):Option (List Dt):=
 i40_l4 m rec1 (Nat.succ m) x0 x1 x2 x3 x4
noncomputable def i40_j2 (m:Nat) (rec1:Int→Int→Int→List Dt→Option (List Dt)) (x0 x1 x2:Int) (x3:List Dt):Option (List Dt):=
 i40_j3 m rec1 x0 x1 x2 x2 x3
noncomputable def i40_l1 (m:Nat):Nat→Int→Int→Int→List Dt→Option (List Dt)
 |0,_,_,_,_=>none
 |M1+1,x0,x1,x2,x3=>
  (bif (decide (x2<x1)) then
  i40_j2 m (i40_l1 m M1) x0 x1 x2 x3
 else
  some x3)
noncomputable def i40_j0 (m:Nat) (x0 x1 x2:Int) (x3:List Dt):Option (List Dt):=
 i40_l1 m (Nat.succ m) x0 x1 x2 x3
noncomputable def i40:Nat→Int→Int→List Dt→Option (List Dt)
 |0,_,_,_=>none
 |m+1,a0,a1,a2=>
  i40_j0 m a0 a1 (IntKind.wrap .i64 (a0+1)) a2
noncomputable def i41_j2 (m:Nat) (self41:Int→Int→Int→List Dt→Option (List Dt)) (rec1:Int→Int→Int→List Dt→Option (List Dt)) (x0 x1 x2:Int) (x3:List Dt):Option (List Dt):=
  ((inL x3 (IntKind.wrap .i64 (shrI IntKind.u64 (IntKind.wrap IntKind.u64 (IntKind.wrap .i64 (x1+x2))) 1))).bind fun v0=>
    ((x3[(Int.toNat (IntKind.wrap .i64 (shrI IntKind.u64 (IntKind.wrap IntKind.u64 (IntKind.wrap .i64 (x1+x2))) 1)))]?).bind fun v1=>
 ((inL x3 x0).bind fun v2=>
 ((x3[(Int.toNat x0)]?).bind fun v3=>
 ((value_Compare m v1 v3).bind fun r4=>
 (bif (decide (r4<0)) then
 rec1 x0 (IntKind.wrap .i64 ((IntKind.wrap .i64 (shrI IntKind.u64 (IntKind.wrap IntKind.u64 (IntKind.wrap .i64 (x1+x2))) 1))+1)) x2 x3
 else
 rec1 x0 x1 (IntKind.wrap .i64 (shrI IntKind.u64 (IntKind.wrap IntKind.u64 (IntKind.wrap .i64 (x1+x2))) 1)) x3))))))
noncomputable def i41_j7 (m:Nat) (self41:Int→Int→Int→List Dt→Option (List Dt)) (rec5:Int→Int→List Dt→Option (List Dt)) (x0 x1:Int) (x2:List Dt):Option (List Dt):=
 rec5 x0 (IntKind.wrap .i64 (x1+1)) x2
noncomputable def i41_j6 (m:Nat) (self41:Int→Int→Int→List Dt→Option (List Dt)) (rec5:Int→Int→List Dt→Option (List Dt)) (x0 x1:Int) (x2:List Dt):Option (List Dt):=
  ((inL x2 (IntKind.wrap .i64 (x1+1))).bind fun v5=>
    ((x2[(Int.toNat (IntKind.wrap .i64 (x1+1)))]?).bind fun v6=>
 ((inL x2 x1).bind fun v7=>
 ((x2[(Int.toNat x1)]?).bind fun v8=>
 ((inL x2 x1).bind fun v9=>
 ((x2[(Int.toNat x1)]?).bind fun v10=>
 ((inL (List.set x2 (Int.toNat x1) v6) (IntKind.wrap .i64 (x1+1))).bind fun v11=>
 (((List.set x2 (Int.toNat x1) v6)[(Int.toNat (IntKind.wrap .i64 (x1+1)))]?).bind fun v12=>
 i41_j7 m self41 rec5 x0 x1 (List.set (List.set x2 (Int.toNat x1) v6) (Int.toNat (IntKind.wrap .i64 (x1+1))) v8)))))))))
noncomputable def i41_l5 (m:Nat) (self41:Int→Int→Int→List Dt→Option (List Dt)):Nat→Int→Int→List Dt→Option (List Dt)
 |0,_,_,_=>none
 |M5+1,x0,x1,x2=>
  (bif (decide (x1<(IntKind.wrap .i64 (x0-1)))) then
  i41_j6 m self41 (i41_l5 m self41 M5) x0 x1 x2
 else
  some x2)
noncomputable def i41_j4 (m:Nat) (self41:Int→Int→Int→List Dt→Option (List Dt)) (x0 x1:Int) (x2:List Dt):Option (List Dt):=
 i41_l5 m self41 (Nat.succ m) x0 x1 x2
noncomputable def i41_j3 (m:Nat) (self41:Int→Int→Int→List Dt→Option (List Dt)) (x0 x1:Int) (x2:List Dt):Option (List Dt):=
 i41_j4 m self41 x1 x0 x2
noncomputable def i41_l1 (m:Nat) (self41:Int→Int→Int→List Dt→Option (List Dt)):Nat→Int→Int→Int→List Dt→Option (List Dt)
 |0,_,_,_,_=>none
 |M1+1,x0,x1,x2,x3=>
  (bif (decide (x1<x2)) then
  i41_j2 m self41 (i41_l1 m self41 M1) x0 x1 x2 x3
 else
  i41_j3 m self41 x0 x1 x3)
noncomputable def i41_j0 (m:Nat) (self41:Int→Int→Int→List Dt→Option (List Dt)) (x0 x1 x2:Int) (x3:List Dt):Option (List Dt):=
 i41_l1 m self41 (Nat.succ m) x0 x1 x2 x3
noncomputable def i41_j11 (m:Nat) (self41:Int→Int→Int→List Dt→Option (List Dt)) (rec10:Int→Int→Int→List Dt→Option (List Dt)) (x0 x1 x2:Int) (x3:List Dt):Option (List Dt):=
  ((inL x3 x0).bind fun v13=>
    ((x3[(Int.toNat x0)]?).bind fun v14=>
 ((inL x3 (IntKind.wrap .i64 (shrI IntKind.u64 (IntKind.wrap IntKind.u64 (IntKind.wrap .i64 (x1+x2))) 1))).bind fun v15=>
 ((x3[(Int.toNat (IntKind.wrap .i64 (shrI IntKind.u64 (IntKind.wrap IntKind.u64 (IntKind.wrap .i64 (x1+x2))) 1)))]?).bind fun v16=>
 ((value_Compare m v14 v16).bind fun r17=>
 (bif (Bool.not (decide (r17<0))) then
 rec10 x0 (IntKind.wrap .i64 ((IntKind.wrap .i64 (shrI IntKind.u64 (IntKind.wrap IntKind.u64 (IntKind.wrap .i64 (x1+x2))) 1))+1)) x2 x3
 else
 rec10 x0 x1 (IntKind.wrap .i64 (shrI IntKind.u64 (IntKind.wrap IntKind.u64 (IntKind.wrap .i64 (x1+x2))) 1)) x3))))))
noncomputable def i41_j16 (m:Nat) (self41:Int→Int→Int→List Dt→Option (List Dt)) (rec14:Int→Int→List Dt→Option (List Dt)) (x0 x1:Int) (x2:List Dt):Option (List Dt):=
 rec14 x0 (IntKind.wrap .i64 (x1-1)) x2
noncomputable def i41_j15 (m:Nat) (self41:Int→Int→Int→List Dt→Option (List Dt)) (rec14:Int→Int→List Dt→Option (List Dt)) (x0 x1:Int) (x2:List Dt):Option (List Dt):=
  ((inL x2 (IntKind.wrap .i64 (x1-1))).bind fun v18=>
    ((x2[(Int.toNat (IntKind.wrap .i64 (x1-1)))]?).bind fun v19=>
 ((inL x2 x1).bind fun v20=>
 ((x2[(Int.toNat x1)]?).bind fun v21=>
 ((inL x2 x1).bind fun v22=>
 ((x2[(Int.toNat x1)]?).bind fun v23=>
 ((inL (List.set x2 (Int.toNat x1) v19) (IntKind.wrap .i64 (x1-1))).bind fun v24=>
 (((List.set x2 (Int.toNat x1) v19)[(Int.toNat (IntKind.wrap .i64 (x1-1)))]?).bind fun v25=>
 i41_j16 m self41 rec14 x0 x1 (List.set (List.set x2 (Int.toNat x1) v19) (Int.toNat (IntKind.wrap .i64 (x1-1))) v21)))))))))
noncomputable def i41_l14 (m:Nat) (self41:Int→Int→Int→List Dt→Option (List Dt)):Nat→Int→Int→List Dt→Option (List Dt)
 |0,_,_,_=>none
 |M14+1,x0,x1,x2=>
  (bif (decide (x0<x1)) then
  i41_j15 m self41 (i41_l14 m self41 M14) x0 x1 x2
 else
  some x2)
noncomputable def i41_j13 (m:Nat) (self41:Int→Int→Int→List Dt→Option (List Dt)) (x0 x1:Int) (x2:List Dt):Option (List Dt):=
 i41_l14 m self41 (Nat.succ m) x0 x1 x2
noncomputable def i41_j12 (m:Nat) (self41:Int→Int→Int→List Dt→Option (List Dt)) (x0 x1:Int) (x2:List Dt):Option (List Dt):=
 i41_j13 m self41 x1 x0 x2
noncomputable def i41_l10 (m:Nat) (self41:Int→Int→Int→List Dt→Option (List Dt)):Nat→Int→Int→Int→List Dt→Option (List Dt)
 |0,_,_,_,_=>none
 |M10+1,x0,x1,x2,x3=>
  (bif (decide (x1<x2)) then
  i41_j11 m self41 (i41_l10 m self41 M10) x0 x1 x2 x3
 else
  i41_j12 m self41 x0 x1 x3)
noncomputable def i41_j9 (m:Nat) (self41:Int→Int→Int→List Dt→Option (List Dt)) (x0 x1 x2:Int) (x3:List Dt):Option (List Dt):=
 i41_l10 m self41 (Nat.succ m) x0 x1 x2 x3
noncomputable def i41_j21 (m:Nat) (self41:Int→Int→Int→List Dt→Option (List Dt)) (rec20:Int→Int→Int→Int→Int→Int→Int→Int→List Dt→Option (List Dt)) (x0 x1 x2 x3 x4 x5 x6 x7:Int) (x8:List Dt):Option (List Dt):=
  ((inL x8 (IntKind.wrap .i64 (x7-(IntKind.wrap .i64 (shrI IntKind.u64 (IntKind.wrap IntKind.u64 (IntKind.wrap .i64 (x5+x6))) 1))))).bind fun v26=>
    ((x8[(Int.toNat (IntKind.wrap .i64 (x7-(IntKind.wrap .i64 (shrI IntKind.u64 (IntKind.wrap IntKind.u64 (IntKind.wrap .i64 (x5+x6))) 1)))))]?).bind fun v27=>
 ((inL x8 (IntKind.wrap .i64 (shrI IntKind.u64 (IntKind.wrap IntKind.u64 (IntKind.wrap .i64 (x5+x6))) 1))).bind fun v28=>
 ((x8[(Int.toNat (IntKind.wrap .i64 (shrI IntKind.u64 (IntKind.wrap IntKind.u64 (IntKind.wrap .i64 (x5+x6))) 1)))]?).bind fun v29=>
 ((value_Compare m v27 v29).bind fun r30=>
 (bif (Bool.not (decide (r30<0))) then
 rec20 x0 x1 x2 x3 x4 (IntKind.wrap .i64 ((IntKind.wrap .i64 (shrI IntKind.u64 (IntKind.wrap IntKind.u64 (IntKind.wrap .i64 (x5+x6))) 1))+1)) x6 x7 x8
 else
 rec20 x0 x1 x2 x3 x4 x5 (IntKind.wrap .i64 (shrI IntKind.u64 (IntKind.wrap IntKind.u64 (IntKind.wrap .i64 (x5+x6))) 1)) x7 x8))))))
noncomputable def i41_j27 (m:Nat) (self41:Int→Int→Int→List Dt→Option (List Dt)) (x0 x1 x2:Int) (x3:Bool) (x4:List Dt):Option (List Dt):=
  (bif x3 then
   ((self41 x1 x2 x0 x4).bind fun r33=>
 some r33)
  else
   some x4)
noncomputable def i41_j26 (m:Nat) (self41:Int→Int→Int→List Dt→Option (List Dt)) (x0 x1 x2:Int) (x3:List Dt):Option (List Dt):=
 (bif (decide (x1<x2)) then
  i41_j27 m self41 x0 x1 x2 (decide (x2<x0)) x3
 else
  i41_j27 m self41 x0 x1 x2 false x3)
noncomputable def i41_j25 (m:Nat) (self41:Int→Int→Int→List Dt→Option (List Dt)) (x0 x1 x2 x3 x4:Int) (x5:Bool) (x6:List Dt):Option (List Dt):=
  (bif x5 then
   ((self41 x0 x3 x2 x6).bind fun r32=>
 i41_j26 m self41 x1 x2 x4 r32)
  else
   i41_j26 m self41 x1 x2 x4 x6)
noncomputable def i41_j24 (m:Nat) (self41:Int→Int→Int→List Dt→Option (List Dt)) (x0 x1 x2 x3 x4:Int) (x5:List Dt):Option (List Dt):=
 (bif (decide (x0<x3)) then
  i41_j25 m self41 x0 x1 x2 x3 x4 (decide (x3<x2)) x5
 else
  i41_j25 m self41 x0 x1 x2 x3 x4 false x5)
noncomputable def i41_j23 (m:Nat) (self41:Int→Int→Int→List Dt→Option (List Dt)) (x0 x1 x2 x3 x4 x5:Int) (x6:Bool) (x7:List Dt):Option (List Dt):=
  (bif x6 then
   ((i42 m x4 x1 x5 x7).bind fun r31=>
 i41_j24 m self41 x0 x2 x3 x4 x5 r31)
  else
   i41_j24 m self41 x0 x2 x3 x4 x5 x7)
noncomputable def i41_j22 (m:Nat) (self41:Int→Int→Int→List Dt→Option (List Dt)) (x0 x1 x2 x3 x4 x5:Int) (x6:List Dt):Option (List Dt):=
 (bif (decide (x5<x1)) then
  i41_j23 m self41 x0 x1 x2 x3 x5 (IntKind.wrap .i64 (x4-x5)) (decide (x1<(IntKind.wrap .i64 (x4-x5)))) x6
 else
  i41_j23 m self41 x0 x1 x2 x3 x5 (IntKind.wrap .i64 (x4-x5)) false x6)
noncomputable def i41_l20 (m:Nat) (self41:Int→Int→Int→List Dt→Option (List Dt)):Nat→Int→Int→Int→Int→Int→Int→Int→Int→List Dt→Option (List Dt)
 |0,_,_,_,_,_,_,_,_,_=>none
 |M20+1,x0,x1,x2,x3,x4,x5,x6,x7,x8=>
  (bif (decide (x5<x6)) then
  i41_j21 m self41 (i41_l20 m self41 M20) x0 x1 x2 x3 x4 x5 x6 x7 x8
 else
  i41_j22 m self41 x0 x1 x2 x3 x4 x5 x8)
noncomputable def i41_j19 (m:Nat) (self41:Int→Int→Int→List Dt→Option (List Dt)) (x0 x1 x2 x3 x4 x5 x6 x7:Int) (x8:List Dt):Option (List Dt):=
 i41_l20 m self41 (Nat.succ m) x0 x1 x2 x3 x4 x5 x6 x7 x8
noncomputable def i41_j18 (m:Nat) (self41:Int→Int→Int→List Dt→Option (List Dt)) (x0 x1 x2 x3 x4 x5 x6:Int) (x7:List Dt):Option (List Dt):=
 i41_j19 m self41 x0 x1 x2 x3 x4 x5 x6 (IntKind.wrap .i64 (x4-1)) x7
noncomputable def i41_j17 (m:Nat) (self41:Int→Int→Int→List Dt→Option (List Dt)) (x0 x1 x2:Int) (x3:List Dt):Option (List Dt):=
 (bif (decide ((IntKind.wrap .i64 (shrI IntKind.u64 (IntKind.wrap IntKind.u64 (IntKind.wrap .i64 (x0+x2))) 1))<x1)) then
  i41_j18 m self41 x0 x1 x2 (IntKind.wrap .i64 (shrI IntKind.u64 (IntKind.wrap IntKind.u64 (IntKind.wrap .i64 (x0+x2))) 1)) (IntKind.wrap .i64 ((IntKind.wrap .i64 (shrI IntKind.u64 (IntKind.wrap IntKind.u64 (IntKind.wrap .i64 (x0+x2))) 1))+x1)) (IntKind.wrap .i64 ((IntKind.wrap .i64 ((IntKind.wrap .i64 (shrI IntKind.u64 (IntKind.wrap IntKind.u64 (IntKind.wrap .i64 (x0+x2))) 1))+x1))-x2)) (IntKind.wrap .i64 (shrI IntKind.u64 (IntKind.wrap IntKind.u64 (IntKind.wrap .i64 (x0+x2))) 1)) x3
 else
  i41_j18 m self41 x0 x1 x2 (IntKind.wrap .i64 (shrI IntKind.u64 (IntKind.wrap IntKind.u64 (IntKind.wrap .i64 (x0+x2))) 1)) (IntKind.wrap .i64 ((IntKind.wrap .i64 (shrI IntKind.u64 (IntKind.wrap IntKind.u64 (IntKind.wrap .i64 (x0+x2))) 1))+x1)) x0 x1 x3)
noncomputable def i41_j8 (m:Nat) (self41:Int→Int→Int→List Dt→Option (List Dt)) (x0 x1 x2:Int) (x3:List Dt):Option (List Dt):=
 (bif ((IntKind.wrap .i64 (x2-x1))==1) then
  i41_j9 m self41 x1 x0 x1 x3
 else
  i41_j17 m self41 x0 x1 x2 x3)
noncomputable def i41:Nat→Int→Int→Int→List Dt→Option (List Dt)
 |0,_,_,_,_=>none
 |m+1,a0,a1,a2,a3=>
  (bif ((IntKind.wrap .i64 (a1-a0))==1) then
  i41_j0 m (i41 m) a0 a1 a2 a3
 else
  i41_j8 m (i41 m) a0 a1 a2 a3)
noncomputable def i39_j2 (m:Nat) (rec1:Int→Int→Int→Int→List Dt→Option (List Dt)) (x0 x1 x2 x3:Int) (x4:List Dt):Option (List Dt):=
 ((i40 m x2 x3 x4).bind fun r0=>
   rec1 x0 x1 x3 (IntKind.wrap .i64 (x3+x1)) r0)
noncomputable def i39_j9 (m:Nat) (rec5:Int→Int→List Dt→Option (List Dt)) (rec8:Int→Int→Int→Int→List Dt→Option (List Dt)) (x0 x1 x2 x3:Int) (x4:List Dt):Option (List Dt):=
 ((i41 m x2 (IntKind.wrap .i64 (x2+x1)) x3 x4).bind fun r2=>
   rec8 x0 x1 x3 (IntKind.wrap .i64 (x3+(IntKind.wrap .i64 (2*x1)))) r2)
noncomputable def i39_j11 (m:Nat) (rec5:Int→Int→List Dt→Option (List Dt)) (x0 x1:Int) (x2:List Dt):Option (List Dt):=
 rec5 x0 (IntKind.wrap .i64 (x1*2)) x2
noncomputable def i39_j10 (m:Nat) (rec5:Int→Int→List Dt→Option (List Dt)) (x0 x1 x2:Int) (x3:List Dt):Option (List Dt):=
  (bif (decide ((IntKind.wrap .i64 (x2+x1))<x0)) then
   ((i41 m x2 (IntKind.wrap .i64 (x2+x1)) x0 x3).bind fun r3=>
 i39_j11 m rec5 x0 x1 r3)
  else
   i39_j11 m rec5 x0 x1 x3)
noncomputable def i39_l8 (m:Nat) (rec5:Int→Int→List Dt→Option (List Dt)):Nat→Int→Int→Int→Int→List Dt→Option (List Dt)
 |0,_,_,_,_,_=>none
 |M8+1,x0,x1,x2,x3,x4=>
  (bif (decide (x3≤x0)) then
  i39_j9 m rec5 (i39_l8 m rec5 M8) x0 x1 x2 x3 x4
 else
  i39_j10 m rec5 x0 x1 x2 x4)
noncomputable def i39_j7 (m:Nat) (rec5:Int→Int→List Dt→Option (List Dt)) (x0 x1 x2 x3:Int) (x4:List Dt):Option (List Dt):=
 i39_l8 m rec5 (Nat.succ m) x0 x1 x2 x3 x4
noncomputable def i39_j6 (m:Nat) (rec5:Int→Int→List Dt→Option (List Dt)) (x0 x1:Int) (x2:List Dt):Option (List Dt):=
 i39_j7 m rec5 x0 x1 0 (IntKind.wrap .i64 (2*x1)) x2
noncomputable def i39_l5 (m:Nat):Nat→Int→Int→List Dt→Option (List Dt)
 |0,_,_,_=>none
 |M5+1,x0,x1,x2=>
  (bif (decide (x1<x0)) then
  i39_j6 m (i39_l5 m M5) x0 x1 x2
 else
  some x2)
noncomputable def i39_j4 (m:Nat) (x0 x1:Int) (x2:List Dt):Option (List Dt):=
 i39_l5 m (Nat.succ m) x0 x1 x2
noncomputable def i39_j3 (m:Nat) (x0 x1 x2:Int) (x3:List Dt):Option (List Dt):=
 ((i40 m x2 x0 x3).bind fun r1=>
   i39_j4 m x0 x1 r1)
noncomputable def i39_l1 (m:Nat):Nat→Int→Int→Int→Int→List Dt→Option (List Dt)
 |0,_,_,_,_,_=>none
 |M1+1,x0,x1,x2,x3,x4=>
  (bif (decide (x3≤x0)) then
  i39_j2 m (i39_l1 m M1) x0 x1 x2 x3 x4
 else
  i39_j3 m x0 x1 x2 x4)
noncomputable def i39_j0 (m:Nat) (x0 x1 x2 x3:Int) (x4:List Dt):Option (List Dt):=
 i39_l1 m (Nat.succ m) x0 x1 x2 x3 x4
noncomputable def i39:Nat→Int→List Dt→Option (List Dt)
 |0,_,_=>none
 |m+1,a0,a1=>
  i39_j0 m a0 20 0 20 a1
noncomputable def i38:Nat→List Dt→Option (List Dt)
 |0,_=>none
 |m+1,a0=>
  ((i39 m (List.length a0:Int) a0).bind fun r0=>
  some r0)
noncomputable def schema_repeats_j3 (m:Nat) (rec1:Int→List Dt→Option Bool) (x0:Int) (x1:List Dt):Option Bool:=
 rec1 (IntKind.wrap .i64 (x0+1)) x1
noncomputable def schema_repeats_j2 (m:Nat) (rec1:Int→List Dt→Option Bool) (x0:Int) (x1:List Dt):Option Bool:=
  ((inL x1 (IntKind.wrap .i64 (x0-1))).bind fun v2=>
    ((x1[(Int.toNat (IntKind.wrap .i64 (x0-1)))]?).bind fun v3=>
 ((inL x1 x0).bind fun v4=>
 ((x1[(Int.toNat x0)]?).bind fun v5=>
 ((value_Equal m v3 v5).bind fun r6=>
 (bif r6 then
 some true
 else
 schema_repeats_j3 m rec1 x0 x1))))))
noncomputable def schema_repeats_j4 (m:Nat):Option Bool:=
 some false
noncomputable def schema_repeats_l1 (m:Nat):Nat→Int→List Dt→Option Bool
 |0,_,_=>none
 |M1+1,x0,x1=>
  (bif (decide (x0<(List.length x1:Int))) then
  schema_repeats_j2 m (schema_repeats_l1 m M1) x0 x1
 else
  schema_repeats_j4 m)
noncomputable def schema_repeats_j0 (m:Nat) (x0:Int) (x1:List Dt):Option Bool:=
 schema_repeats_l1 m (Nat.succ m) x0 x1
noncomputable def schema_repeats:Nat→List Dt→Option Bool
  |0,_=>none
  |m+1,a0=>
   ((slices_Clone a0).bind fun r0=>
   ((i38 m r0).bind fun r1=>
 schema_repeats_j0 m 1 r1))
noncomputable def i12_j7 (m:Nat) (self12:Dt→Dt→List Dt→List Dt→Option (List Dt)) (rec5:List Dt→Int→Int→List Dt→Dt→Dt→List Dt→Option (List Dt)) (x0:List Dt) (x1 x2:Int) (x3:List Dt) (x4 x5:Dt) (x6:List Dt):Option (List Dt):=
 rec5 x0 x1 (IntKind.wrap .i64 (x2+1)) x3 x4 x5 x6
noncomputable def i12_j6 (m:Nat) (self12:Dt→Dt→List Dt→List Dt→Option (List Dt)) (rec5:List Dt→Int→Int→List Dt→Dt→Dt→List Dt→Option (List Dt)) (x0:List Dt) (x1 x2:Int) (x3:List Dt) (x4 x5:Dt) (x6:List Dt):Option (List Dt):=
  ((idx x0 x2).bind fun v10=>
    ((schema_field m x5 (Dt.toStr v10)).bind fun r11=>
 ((i14 m (Bool.not r11.2) 6 [(Dt.str (Dt.toStr v10))] x3 x6).bind fun r12=>
 i12_j7 m self12 rec5 x0 x1 x2 r12.2 x4 x5 r12.1)))
noncomputable def i12_j12 (m:Nat) (self12:Dt→Dt→List Dt→List Dt→Option (List Dt)) (rec10:List Dt→Int→Int→List Dt→Dt→Dt→List Dt→Option (List Dt)) (x0:List Dt) (x1 x2:Int) (x3:List Dt) (x4 x5:Dt) (x6:List Dt):Option (List Dt):=
 rec10 x0 x1 (IntKind.wrap .i64 (x2+1)) x3 x4 x5 x6
noncomputable def i12_j11 (m:Nat) (self12:Dt→Dt→List Dt→List Dt→Option (List Dt)) (rec10:List Dt→Int→Int→List Dt→Dt→Dt→List Dt→Option (List Dt)) (x0:List Dt) (x1 x2:Int) (x3:List Dt) (x4 x5:Dt) (x6:List Dt):Option (List Dt):=
  ((idx x0 x2).bind fun v13=>
    (bif (Dt.B x4 10) then
 ((i23 m (Dt.L x4 9) v13).bind fun r14=>
 ((i14 m (Bool.not r14) 7 [(Dt.str (Dt.S v13 0))] x3 x6).bind fun r15=>
 i12_j12 m self12 rec10 x0 x1 x2 r15.2 x4 x5 r15.1))
    else
 ((i14 m false 7 [(Dt.str (Dt.S v13 0))] x3 x6).bind fun r16=>
 i12_j12 m self12 rec10 x0 x1 x2 r16.2 x4 x5 r16.1)))
noncomputable def i12_j17 (m:Nat) (self12:Dt→Dt→List Dt→List Dt→Option (List Dt)) (rec15:List Dt→Int→Int→List Dt→Dt→Dt→List Dt→Option (List Dt)) (x0:List Dt) (x1 x2:Int) (x3:List Dt) (x4 x5:Dt) (x6:List Dt):Option (List Dt):=
 rec15 x0 x1 (IntKind.wrap .i64 (x2+1)) x3 x4 x5 x6
noncomputable def i12_j16 (m:Nat) (self12:Dt→Dt→List Dt→List Dt→Option (List Dt)) (rec15:List Dt→Int→Int→List Dt→Dt→Dt→List Dt→Option (List Dt)) (x0:List Dt) (x1 x2:Int) (x3:List Dt) (x4 x5:Dt) (x6:List Dt):Option (List Dt):=
  ((idx x0 x2).bind fun v17=>
    ((schema_field m x5 (Dt.S v17 0)).bind fun r18=>
 (bif r18.2 then
 ((slices_Concat m [(Dt.lst x6),(Dt.lst [(Dt.str (Dt.S v17 0))])]).bind fun r19=>
 ((self12 (Dt.fld v17 1) r18.1 r19 x3).bind fun r20=>
 i12_j17 m self12 rec15 x0 x1 x2 r20 x4 x5 x6))
 else
 i12_j17 m self12 rec15 x0 x1 x2 x3 x4 x5 x6)))
noncomputable def i12_j26 (m:Nat) (self12:Dt→Dt→List Dt→List Dt→Option (List Dt)) (rec21:List Dt→Int→Int→List Dt→Dt→List Dt→Option (List Dt)) (rec24:List Dt→Int→Int→List Dt→Int→Int→List Dt→Dt→List Dt→Dt→Option (List Dt)) (x0:List Dt) (x1 x2:Int) (x3:List Dt) (x4 x5:Int) (x6:List Dt) (x7:Dt) (x8:List Dt) (x9:Dt):Option (List Dt):=
 rec24 x0 x1 x2 x3 x4 (IntKind.wrap .i64 (x5+1)) x6 x7 x8 x9
noncomputable def i12_j25 (m:Nat) (self12:Dt→Dt→List Dt→List Dt→Option (List Dt)) (rec21:List Dt→Int→Int→List Dt→Dt→List Dt→Option (List Dt)) (rec24:List Dt→Int→Int→List Dt→Int→Int→List Dt→Dt→List Dt→Dt→Option (List Dt)) (x0:List Dt) (x1 x2:Int) (x3:List Dt) (x4 x5:Int) (x6:List Dt) (x7:Dt) (x8:List Dt) (x9:Dt):Option (List Dt):=
  ((idx x3 x5).bind fun v24=>
    ((strconv_Itoa x5).bind fun r25=>
 ((slices_Concat m [(Dt.lst x8),(Dt.lst [(Dt.str r25)])]).bind fun r26=>
 ((self12 x9 v24 r26 x6).bind fun r27=>
 i12_j26 m self12 rec21 rec24 x0 x1 x2 x3 x4 x5 r27 x7 x8 x9))))
noncomputable def i12_j27 (m:Nat) (self12:Dt→Dt→List Dt→List Dt→Option (List Dt)) (rec21:List Dt→Int→Int→List Dt→Dt→List Dt→Option (List Dt)) (x0:List Dt) (x1 x2:Int) (x3:List Dt) (x4:Dt) (x5:List Dt):Option (List Dt):=
 rec21 x0 x1 (IntKind.wrap .i64 (x2+1)) x3 x4 x5
noncomputable def i12_l24 (m:Nat) (self12:Dt→Dt→List Dt→List Dt→Option (List Dt)) (rec21:List Dt→Int→Int→List Dt→Dt→List Dt→Option (List Dt)):Nat→List Dt→Int→Int→List Dt→Int→Int→List Dt→Dt→List Dt→Dt→Option (List Dt)
 |0,_,_,_,_,_,_,_,_,_,_=>none
 |M24+1,x0,x1,x2,x3,x4,x5,x6,x7,x8,x9=>
  (bif (decide (x5<x4)) then
  i12_j25 m self12 rec21 (i12_l24 m self12 rec21 M24) x0 x1 x2 x3 x4 x5 x6 x7 x8 x9
 else
  i12_j27 m self12 rec21 x0 x1 x2 x6 x7 x8)
noncomputable def i12_j23 (m:Nat) (self12:Dt→Dt→List Dt→List Dt→Option (List Dt)) (rec21:List Dt→Int→Int→List Dt→Dt→List Dt→Option (List Dt)) (x0:List Dt) (x1 x2:Int) (x3:List Dt) (x4 x5:Int) (x6:List Dt) (x7:Dt) (x8:List Dt) (x9:Dt):Option (List Dt):=
 i12_l24 m self12 rec21 (Nat.succ m) x0 x1 x2 x3 x4 x5 x6 x7 x8 x9
noncomputable def i12_j22 (m:Nat) (self12:Dt→Dt→List Dt→List Dt→Option (List Dt)) (rec21:List Dt→Int→Int→List Dt→Dt→List Dt→Option (List Dt)) (x0:List Dt) (x1 x2:Int) (x3:List Dt) (x4:Dt) (x5:List Dt):Option (List Dt):=
 ((idx x0 x2).bind fun v23=>
   i12_j23 m self12 rec21 x0 x1 x2 (Dt.L x4 3) (List.length (Dt.L x4 3):Int) 0 x3 x4 x5 v23)
noncomputable def i12_j28 (m:Nat) (self12:Dt→Dt→List Dt→List Dt→Option (List Dt)) (x0:List Dt):Option (List Dt):=
 some x0
noncomputable def i12_l21 (m:Nat) (self12:Dt→Dt→List Dt→List Dt→Option (List Dt)):Nat→List Dt→Int→Int→List Dt→Dt→List Dt→Option (List Dt)
 |0,_,_,_,_,_,_=>none
 |M21+1,x0,x1,x2,x3,x4,x5=>
  (bif (decide (x2<x1)) then
  i12_j22 m self12 (i12_l21 m self12 M21) x0 x1 x2 x3 x4 x5
 else
  i12_j28 m self12 x3)
noncomputable def i12_j20 (m:Nat) (self12:Dt→Dt→List Dt→List Dt→Option (List Dt)) (x0:List Dt) (x1 x2:Int) (x3:List Dt) (x4:Dt) (x5:List Dt):Option (List Dt):=
 i12_l21 m self12 (Nat.succ m) x0 x1 x2 x3 x4 x5
noncomputable def i12_j19 (m:Nat) (self12:Dt→Dt→List Dt→List Dt→Option (List Dt)) (x0:List Dt) (x1 x2:Dt) (x3:List Dt):Option (List Dt):=
 i12_j20 m self12 (Dt.L x1 11) (List.length (Dt.L x1 11):Int) 0 x0 x2 x3
noncomputable def i12_j18 (m:Nat) (self12:Dt→Dt→List Dt→List Dt→Option (List Dt)) (x0:List Dt) (x1 x2:Dt) (x3:List Dt):Option (List Dt):=
  (bif ((Dt.I x2 0)==6) then
   (bif (Dt.B x1 12) then
 ((schema_repeats m (Dt.L x2 3)).bind fun r21=>
 ((i14 m r21 8 [] x0 x3).bind fun r22=>
 i12_j19 m self12 r22.2 x1 x2 r22.1))
   else
 ((i14 m false 8 [] x0 x3).bind fun r28=>
 i12_j19 m self12 r28.2 x1 x2 r28.1))
  else
   i12_j28 m self12 x0)
noncomputable def i12_l15 (m:Nat) (self12:Dt→Dt→List Dt→List Dt→Option (List Dt)):Nat→List Dt→Int→Int→List Dt→Dt→Dt→List Dt→Option (List Dt)
 |0,_,_,_,_,_,_,_=>none
 |M15+1,x0,x1,x2,x3,x4,x5,x6=>
  (bif (decide (x2<x1)) then
  i12_j16 m self12 (i12_l15 m self12 M15) x0 x1 x2 x3 x4 x5 x6
 else
  i12_j18 m self12 x3 x4 x5 x6)
noncomputable def i12_j14 (m:Nat) (self12:Dt→Dt→List Dt→List Dt→Option (List Dt)) (x0:List Dt) (x1 x2:Int) (x3:List Dt) (x4 x5:Dt) (x6:List Dt):Option (List Dt):=
 i12_l15 m self12 (Nat.succ m) x0 x1 x2 x3 x4 x5 x6
noncomputable def i12_j13 (m:Nat) (self12:Dt→Dt→List Dt→List Dt→Option (List Dt)) (x0:List Dt) (x1 x2:Dt) (x3:List Dt):Option (List Dt):=
 i12_j14 m self12 (Dt.L x1 9) (List.length (Dt.L x1 9):Int) 0 x0 x1 x2 x3
noncomputable def i12_l10 (m:Nat) (self12:Dt→Dt→List Dt→List Dt→Option (List Dt)):Nat→List Dt→Int→Int→List Dt→Dt→Dt→List Dt→Option (List Dt)
 |0,_,_,_,_,_,_,_=>none
 |M10+1,x0,x1,x2,x3,x4,x5,x6=>
  (bif (decide (x2<x1)) then
  i12_j11 m self12 (i12_l10 m self12 M10) x0 x1 x2 x3 x4 x5 x6
 else
  i12_j13 m self12 x3 x4 x5 x6)
noncomputable def i12_j9 (m:Nat) (self12:Dt→Dt→List Dt→List Dt→Option (List Dt)) (x0:List Dt) (x1 x2:Int) (x3:List Dt) (x4 x5:Dt) (x6:List Dt):Option (List Dt):=
 i12_l10 m self12 (Nat.succ m) x0 x1 x2 x3 x4 x5 x6
noncomputable def i12_j8 (m:Nat) (self12:Dt→Dt→List Dt→List Dt→Option (List Dt)) (x0:List Dt) (x1 x2:Dt) (x3:List Dt):Option (List Dt):=
 i12_j9 m self12 (Dt.L x2 4) (List.length (Dt.L x2 4):Int) 0 x0 x1 x2 x3
noncomputable def i12_l5 (m:Nat) (self12:Dt→Dt→List Dt→List Dt→Option (List Dt)):Nat→List Dt→Int→Int→List Dt→Dt→Dt→List Dt→Option (List Dt)
 |0,_,_,_,_,_,_,_=>none
 |M5+1,x0,x1,x2,x3,x4,x5,x6=>
  (bif (decide (x2<x1)) then
  i12_j6 m self12 (i12_l5 m self12 M5) x0 x1 x2 x3 x4 x5 x6
 else
  i12_j8 m self12 x3 x4 x5 x6)
noncomputable def i12_j4 (m:Nat) (self12:Dt→Dt→List Dt→List Dt→Option (List Dt)) (x0:List Dt) (x1 x2:Int) (x3:List Dt) (x4 x5:Dt) (x6:List Dt):Option (List Dt):=
 i12_l5 m self12 (Nat.succ m) x0 x1 x2 x3 x4 x5 x6
noncomputable def i12_j3 (m:Nat) (self12:Dt→Dt→List Dt→List Dt→Option (List Dt)) (x0:List Dt) (x1 x2:Dt) (x3:List Dt):Option (List Dt):=
 (bif ((Dt.I x2 0)==5) then
  i12_j4 m self12 (Dt.L x1 8) (List.length (Dt.L x1 8):Int) 0 x0 x1 x2 x3
 else
  i12_j18 m self12 x0 x1 x2 x3)
noncomputable def i12_j2 (m:Nat) (self12:Dt→Dt→List Dt→List Dt→Option (List Dt)) (x0:List Dt) (x1 x2:Dt) (x3:List Dt):Option (List Dt):=
  ((schema_length m x2).bind fun r8=>
    (bif r8.2 then
 (bif (decide (r8.1<(Dt.I x1 6))) then
 ((i14 m true 5 [] x0 x3).bind fun r9=>
 i12_j3 m self12 r9.2 x1 x2 r9.1)
 else
 (bif (decide (0≤(Dt.I x1 7))) then
 ((i14 m (decide ((Dt.I x1 7)<r8.1)) 5 [] x0 x3).bind fun r29=>
 i12_j3 m self12 r29.2 x1 x2 r29.1)
 else
 ((i14 m false 5 [] x0 x3).bind fun r30=>
 i12_j3 m self12 r30.2 x1 x2 r30.1)))
    else
 ((i14 m false 5 [] x0 x3).bind fun r31=>
 i12_j3 m self12 r31.2 x1 x2 r31.1)))
noncomputable def i12_j1 (m:Nat) (self12:Dt→Dt→List Dt→List Dt→Option (List Dt)) (x0:List Dt) (x1 x2:Dt) (x3:List Dt):Option (List Dt):=
  (bif (Dt.B x1 3) then
   ((value_Compare m x2 (Dt.fld x1 4)).bind fun r6=>
 ((i14 m (decide (0<r6)) 4 [] x0 x3).bind fun r7=>
 i12_j2 m self12 r7.2 x1 x2 r7.1))
  else
   ((i14 m false 4 [] x0 x3).bind fun r32=>
 i12_j2 m self12 r32.2 x1 x2 r32.1))
noncomputable def i12_j0 (m:Nat) (self12:Dt→Dt→List Dt→List Dt→Option (List Dt)) (x0:List Dt) (x1 x2:Dt) (x3:List Dt):Option (List Dt):=
  (bif (Dt.B x1 1) then
   ((value_Compare m x2 (Dt.fld x1 2)).bind fun r4=>
 ((i14 m (decide (r4<0)) 3 [] x0 x3).bind fun r5=>
 i12_j1 m self12 r5.2 x1 x2 r5.1))
  else
   ((i14 m false 3 [] x0 x3).bind fun r33=>
 i12_j1 m self12 r33.2 x1 x2 r33.1))
noncomputable def i12:Nat→Dt→Dt→List Dt→List Dt→Option (List Dt)
  |0,_,_,_,_=>none
  |m+1,a0,a1,a2,a3=>
   ((schema_hasKind m (Dt.I a0 0) (Dt.I a1 0)).bind fun r0=>
   ((i14 m (Bool.not r0) 1 [] a3 a2).bind fun r1=>
 (bif (decide (0<(List.length (Dt.L a0 5):Int))) then
 ((i16 m (Dt.L a0 5) a1).bind fun r2=>
 ((i14 m (Bool.not r2) 2 [] r1.2 r1.1).bind fun r3=>
 i12_j0 m (i12 m) r3.2 a0 a1 r3.1))
 else
 ((i14 m false 2 [] r1.2 r1.1).bind fun r34=>
 i12_j0 m (i12 m) r34.2 a0 a1 r34.1))))
noncomputable def ref01_Ints_j1 (m:Nat):Option Int:=
 some 0
noncomputable def ref01_Ints_j0 (m:Nat) (x0 x1:Int):Option Int:=
 (bif (decide (x1<x0)) then
  some 1
 else
  ref01_Ints_j1 m)
noncomputable def ref01_Ints:Nat→Int→Int→Option Int
 |0,_,_=>none
 |m+1,a0,a1=>
  (bif (decide (a0<a1)) then
  some (-1)
 else
  ref01_Ints_j0 m a0 a1)
noncomputable def ref01_Texts_j3 (m:Nat) (rec1:ByteArray→ByteArray→Int→Option Int) (x0 x1:ByteArray) (x2:Int):Option Int:=
 rec1 x0 x1 (IntKind.wrap .i64 (x2+1))
noncomputable def ref01_Texts_j2 (m:Nat) (rec1:ByteArray→ByteArray→Int→Option Int) (x0 x1:ByteArray) (x2:Int):Option Int:=
  ((idxS x0 x2).bind fun v0=>
    ((idxS x1 x2).bind fun v1=>
 (bif (v0 !=v1) then
 ((idxS x0 x2).bind fun v2=>
 ((idxS x1 x2).bind fun v3=>
 ((ref01_Ints m (IntKind.wrap .i64 v2) (IntKind.wrap .i64 v3)).bind fun r4=>
 some r4)))
 else
 ref01_Texts_j3 m rec1 x0 x1 x2)))
noncomputable def ref01_Texts_j4 (m:Nat) (x0 x1:ByteArray):Option Int:=
 ((ref01_Ints m (ByteArray.size x0:Int) (ByteArray.size x1:Int)).bind fun r5=>
   some r5)
noncomputable def ref01_Texts_l1 (m:Nat):Nat→ByteArray→ByteArray→Int→Option Int
  |0,_,_,_=>none
  |M1+1,x0,x1,x2=>
   (bif (decide (x2<(ByteArray.size x0:Int))) then
   (bif (decide (x2<(ByteArray.size x1:Int))) then
 ref01_Texts_j2 m (ref01_Texts_l1 m M1) x0 x1 x2
   else
 ref01_Texts_j4 m x0 x1)
  else
   ref01_Texts_j4 m x0 x1)
noncomputable def ref01_Texts_j0 (m:Nat) (x0 x1:ByteArray) (x2:Int):Option Int:=
 ref01_Texts_l1 m (Nat.succ m) x0 x1 x2
noncomputable def ref01_Texts:Nat→ByteArray→ByteArray→Option Int
 |0,_,_=>none
 |m+1,a0,a1=>
  ref01_Texts_j0 m a0 a1 0
noncomputable def ref01_Compare_j6 (m:Nat) (self47:Dt→Dt→Option Int) (rec4:Int→Dt→Dt→Option Int) (x0:Int) (x1 x2:Dt):Option Int:=
 rec4 (IntKind.wrap .i64 (x0+1)) x1 x2
noncomputable def ref01_Compare_j5 (m:Nat) (self47:Dt→Dt→Option Int) (rec4:Int→Dt→Dt→Option Int) (x0:Int) (x1 x2:Dt):Option Int:=
  ((idx (Dt.L x1 3) x0).bind fun v3=>
    ((idx (Dt.L x2 3) x0).bind fun v4=>
 ((self47 v3 v4).bind fun r5=>
 (bif (r5 !=0) then
 some r5
 else
 ref01_Compare_j6 m self47 rec4 x0 x1 x2))))
noncomputable def ref01_Compare_j7 (m:Nat) (self47:Dt→Dt→Option Int) (x0 x1:Dt):Option Int:=
 ((ref01_Ints m (List.length (Dt.L x0 3):Int) (List.length (Dt.L x1 3):Int)).bind fun r6=>
   some r6)
noncomputable def ref01_Compare_l4 (m:Nat) (self47:Dt→Dt→Option Int):Nat→Int→Dt→Dt→Option Int
  |0,_,_,_=>none
  |M4+1,x0,x1,x2=>
   (bif (decide (x0<(List.length (Dt.L x1 3):Int))) then
   (bif (decide (x0<(List.length (Dt.L x2 3):Int))) then
 ref01_Compare_j5 m self47 (ref01_Compare_l4 m self47 M4) x0 x1 x2
   else
 ref01_Compare_j7 m self47 x1 x2)
  else
   ref01_Compare_j7 m self47 x1 x2)
noncomputable def ref01_Compare_j3 (m:Nat) (self47:Dt→Dt→Option Int) (x0:Int) (x1 x2:Dt):Option Int:=
 ref01_Compare_l4 m self47 (Nat.succ m) x0 x1 x2
noncomputable def ref01_Compare_j12 (m:Nat) (self47:Dt→Dt→Option Int) (rec9:Int→Dt→Dt→Option Int) (x0:Int) (x1 x2:Dt):Option Int:=
 rec9 (IntKind.wrap .i64 (x0+1)) x1 x2
noncomputable def ref01_Compare_j11 (m:Nat) (self47:Dt→Dt→Option Int) (rec9:Int→Dt→Dt→Option Int) (x0 x1:Int) (x2 x3:Dt):Option Int:=
 (bif (x1 !=0) then
  some x1
 else
  ref01_Compare_j12 m self47 rec9 x0 x2 x3)
noncomputable def ref01_Compare_j10 (m:Nat) (self47:Dt→Dt→Option Int) (rec9:Int→Dt→Dt→Option Int) (x0:Int) (x1 x2:Dt):Option Int:=
  ((idx (Dt.L x1 4) x0).bind fun v7=>
    ((idx (Dt.L x2 4) x0).bind fun v8=>
 ((ref01_Texts m (Dt.S v7 0) (Dt.S v8 0)).bind fun r9=>
 (bif (r9==0) then
 ((idx (Dt.L x1 4) x0).bind fun v10=>
 ((idx (Dt.L x2 4) x0).bind fun v11=>
 ((self47 (Dt.fld v10 1) (Dt.fld v11 1)).bind fun r12=>
 ref01_Compare_j11 m self47 rec9 x0 r12 x1 x2)))
 else
 ref01_Compare_j11 m self47 rec9 x0 r9 x1 x2))))
noncomputable def ref01_Compare_j13 (m:Nat) (self47:Dt→Dt→Option Int) (x0 x1:Dt):Option Int:=
 ((ref01_Ints m (List.length (Dt.L x0 4):Int) (List.length (Dt.L x1 4):Int)).bind fun r13=>
   some r13)
noncomputable def ref01_Compare_l9 (m:Nat) (self47:Dt→Dt→Option Int):Nat→Int→Dt→Dt→Option Int
  |0,_,_,_=>none
  |M9+1,x0,x1,x2=>
   (bif (decide (x0<(List.length (Dt.L x1 4):Int))) then
   (bif (decide (x0<(List.length (Dt.L x2 4):Int))) then
 ref01_Compare_j10 m self47 (ref01_Compare_l9 m self47 M9) x0 x1 x2
   else
 ref01_Compare_j13 m self47 x1 x2)
  else
   ref01_Compare_j13 m self47 x1 x2)
noncomputable def ref01_Compare_j8 (m:Nat) (self47:Dt→Dt→Option Int) (x0:Int) (x1 x2:Dt):Option Int:=
 ref01_Compare_l9 m self47 (Nat.succ m) x0 x1 x2
noncomputable def ref01_Compare_j14 (m:Nat) (self47:Dt→Dt→Option Int):Option Int:=
 some 0
noncomputable def ref01_Compare_j2 (m:Nat) (self47:Dt→Dt→Option Int) (x0:Int) (x1:Bool) (x2 x3:Dt):Option Int:=
  (bif x1 then
   ((ref01_Texts m (Dt.S x2 2) (Dt.S x3 2)).bind fun r2=>
 some r2)
  else
   (bif (x0==6) then
 ref01_Compare_j3 m self47 0 x2 x3
   else
 (bif (x0==5) then
 ref01_Compare_j8 m self47 0 x2 x3
 else
 ref01_Compare_j14 m self47)))
noncomputable def ref01_Compare_j1 (m:Nat) (self47:Dt→Dt→Option Int) (x0:Int) (x1:Bool) (x2 x3:Dt):Option Int:=
  (bif x1 then
   ((ref01_Ints m (Dt.I x2 1) (Dt.I x3 1)).bind fun r1=>
 some r1)
  else
   (bif (x0==4) then
 ref01_Compare_j2 m self47 x0 (x0==4) x2 x3
   else
 (bif (x0==7) then
 ref01_Compare_j2 m self47 x0 (x0==7) x2 x3
 else
 ref01_Compare_j2 m self47 x0 (x0==8) x2 x3)))
noncomputable def ref01_Compare_j0 (m:Nat) (self47:Dt→Dt→Option Int) (x0 x1:Dt):Option Int:=
  (bif ((Dt.I x0 0)==3) then
   ref01_Compare_j1 m self47 (Dt.I x0 0) ((Dt.I x0 0)==3) x0 x1
  else
   (bif ((Dt.I x0 0)==9) then
 ref01_Compare_j1 m self47 (Dt.I x0 0) ((Dt.I x0 0)==9) x0 x1
   else
 ref01_Compare_j1 m self47 (Dt.I x0 0) ((Dt.I x0 0)==10) x0 x1))
noncomputable def ref01_Compare:Nat→Dt→Dt→Option Int
  |0,_,_=>none
  |m+1,a0,a1=>
   (bif ((Dt.I a0 0) !=(Dt.I a1 0)) then
   ((ref01_Ints m (Dt.I a0 0) (Dt.I a1 0)).bind fun r0=>
 some r0)
  else
   ref01_Compare_j0 m (ref01_Compare m) a0 a1)
noncomputable def ref01_Equal:Nat→Dt→Dt→Option Bool
 |0,_,_=>none
 |m+1,a0,a1=>
  ((ref01_Compare m a0 a1).bind fun r0=>
  some (r0==0))
noncomputable def ref14_among_j3 (m:Nat) (rec1:List Dt→Int→Dt→Option Bool) (x0:List Dt) (x1:Int) (x2:Dt):Option Bool:=
 rec1 x0 (IntKind.wrap .i64 (x1+1)) x2
noncomputable def ref14_among_j2 (m:Nat) (rec1:List Dt→Int→Dt→Option Bool) (x0:List Dt) (x1:Int) (x2:Dt):Option Bool:=
  ((idx x0 x1).bind fun v0=>
    ((ref01_Equal m v0 x2).bind fun r1=>
 (bif r1 then
 some true
 else
 ref14_among_j3 m rec1 x0 x1 x2)))
noncomputable def ref14_among_j4 (m:Nat):Option Bool:=
 some false
noncomputable def ref14_among_l1 (m:Nat):Nat→List Dt→Int→Dt→Option Bool
 |0,_,_,_=>none
 |M1+1,x0,x1,x2=>
  (bif (decide (x1<(List.length x0:Int))) then
  ref14_among_j2 m (ref14_among_l1 m M1) x0 x1 x2
 else
  ref14_among_j4 m)
noncomputable def ref14_among_j0 (m:Nat) (x0:List Dt) (x1:Int) (x2:Dt):Option Bool:=
 ref14_among_l1 m (Nat.succ m) x0 x1 x2
noncomputable def ref14_among:Nat→List Dt→Dt→Option Bool
 |0,_,_=>none
 |m+1,a0,a1=>
  ref14_among_j0 m a0 0 a1
noncomputable def ref01_at_j4 (m:Nat) (rec2:ByteArray→Int→Dt→Option Int) (x0:ByteArray) (x1:Int) (x2:Dt):Option Int:=
 rec2 x0 (IntKind.wrap .i64 (x1+1)) x2
noncomputable def ref01_at_j3 (m:Nat) (rec2:ByteArray→Int→Dt→Option Int) (x0:ByteArray) (x1:Int) (x2:Dt):Option Int:=
  ((idx (Dt.L x2 4) x1).bind fun v0=>
    (bif ((ByteArray.toList (Dt.S v0 0))==(ByteArray.toList x0)) then
 some x1
    else
 ref01_at_j4 m rec2 x0 x1 x2))
noncomputable def ref01_at_j5 (m:Nat):Option Int:=
 some (-1)
noncomputable def ref01_at_l2 (m:Nat):Nat→ByteArray→Int→Dt→Option Int
 |0,_,_,_=>none
 |M2+1,x0,x1,x2=>
  (bif (decide (x1<(List.length (Dt.L x2 4):Int))) then
  ref01_at_j3 m (ref01_at_l2 m M2) x0 x1 x2
 else
  ref01_at_j5 m)
noncomputable def ref01_at_j1 (m:Nat) (x0:ByteArray) (x1:Int) (x2:Dt):Option Int:=
 ref01_at_l2 m (Nat.succ m) x0 x1 x2
noncomputable def ref01_at_j0 (m:Nat) (x0:ByteArray) (x1:Dt):Option Int:=
 ref01_at_j1 m x0 0 x1
noncomputable def ref01_at:Nat→Dt→ByteArray→Option Int
 |0,_,_=>none
 |m+1,a0,a1=>
  (bif ((Dt.I a0 0) !=5) then
  some (-1)
 else
  ref01_at_j0 m a1 a0)
noncomputable def ref01_Get_j0 (m:Nat) (x0:Int) (x1 x2:Dt):Option (Dt×Bool):=
 ((idx (Dt.L x1 4) x0).bind fun v1=>
   some ((Dt.fld v1 1),true))
noncomputable def ref01_Get:Nat→Dt→ByteArray→Option (Dt×Bool)
  |0,_,_=>none
  |m+1,a0,a1=>
   ((ref01_at m a0 a1).bind fun r0=>
   (bif (decide (r0<0)) then
 some (kza2373,false)
   else
 ref01_Get_j0 m r0 a0 kza2373))
noncomputable def ref14_own_j13 (m:Nat) (rec11:List Dt→Int→Dt→Dt→List Dt→Option (List Dt)) (x0:List Dt) (x1:Int) (x2 x3:Dt) (x4:List Dt):Option (List Dt):=
 rec11 x0 (IntKind.wrap .i64 (x1+1)) x2 x3 x4
noncomputable def ref14_own_j12 (m:Nat) (rec11:List Dt→Int→Dt→Dt→List Dt→Option (List Dt)) (x0:List Dt) (x1:Int) (x2 x3:Dt) (x4:List Dt):Option (List Dt):=
  ((idx (Dt.L x2 8) x1).bind fun v9=>
    ((ref01_Get m x3 (Dt.toStr v9)).bind fun r10=>
 (bif (Bool.not r10.2) then
 ((idx (Dt.L x2 8) x1).bind fun v11=>
 ((ref14_step m x0 (Dt.toStr v11)).bind fun r12=>
 ((app x4 [(Dt.agg [(Dt.lst r12),(Dt.int 6)])]).bind fun v13=>
 ref14_own_j13 m rec11 x0 x1 x2 x3 v13)))
 else
 ref14_own_j13 m rec11 x0 x1 x2 x3 x4)))
noncomputable def ref14_own_j18 (m:Nat) (rec16:List Dt→Int→Dt→Dt→List Dt→Option (List Dt)) (x0:List Dt) (x1:Int) (x2 x3:Dt) (x4:List Dt):Option (List Dt):=
 rec16 x0 (IntKind.wrap .i64 (x1+1)) x2 x3 x4
noncomputable def ref14_own_j17 (m:Nat) (rec16:List Dt→Int→Dt→Dt→List Dt→Option (List Dt)) (x0:List Dt) (x1:Int) (x2 x3:Dt) (x4:List Dt):Option (List Dt):=
  ((idx (Dt.L x3 4) x1).bind fun v14=>
    ((ref14_has m x2 (Dt.S v14 0)).bind fun r15=>
 (bif (Bool.not r15) then
 ((idx (Dt.L x3 4) x1).bind fun v16=>
 ((ref14_step m x0 (Dt.S v16 0)).bind fun r17=>
 ((app x4 [(Dt.agg [(Dt.lst r17),(Dt.int 7)])]).bind fun v18=>
 ref14_own_j18 m rec16 x0 x1 x2 x3 v18)))
 else
 ref14_own_j18 m rec16 x0 x1 x2 x3 x4)))
noncomputable def ref14_own_j24 (m:Nat) (rec22:List Dt→Bool→Int→Dt→List Dt→Option (List Dt)) (x0:List Dt) (x1:Bool) (x2:Int) (x3:Dt) (x4:List Dt):Option (List Dt):=
 rec22 x0 x1 (IntKind.wrap .i64 (x2+1)) x3 x4
noncomputable def ref14_own_j23 (m:Nat) (rec22:List Dt→Bool→Int→Dt→List Dt→Option (List Dt)) (x0:List Dt) (x1:Bool) (x2:Int) (x3:Dt) (x4:List Dt):Option (List Dt):=
  (bif x1 then
   ref14_own_j24 m rec22 x0 true x2 x3 x4
  else
   ((cutL (Dt.L x3 3) 0 x2).bind fun v19=>
 ((idx (Dt.L x3 3) x2).bind fun v20=>
 ((ref14_among m v19 v20).bind fun r21=>
 ref14_own_j24 m rec22 x0 r21 x2 x3 x4))))
noncomputable def ref14_own_j26 (m:Nat) (x0:List Dt):Option (List Dt):=
 some x0
noncomputable def ref14_own_j25 (m:Nat) (x0:List Dt) (x1:Bool) (x2:List Dt):Option (List Dt):=
  (bif x1 then
   ((app x2 [(Dt.agg [(Dt.lst x0),(Dt.int 8)])]).bind fun v22=>
 ref14_own_j26 m v22)
  else
   ref14_own_j26 m x2)
noncomputable def ref14_own_l22 (m:Nat):Nat→List Dt→Bool→Int→Dt→List Dt→Option (List Dt)
 |0,_,_,_,_,_=>none
 |M22+1,x0,x1,x2,x3,x4=>
  (bif (decide (x2<(List.length (Dt.L x3 3):Int))) then
  ref14_own_j23 m (ref14_own_l22 m M22) x0 x1 x2 x3 x4
 else
  ref14_own_j25 m x0 x1 x4)
noncomputable def ref14_own_j21 (m:Nat) (x0:List Dt) (x1:Bool) (x2:Int) (x3:Dt) (x4:List Dt):Option (List Dt):=
 ref14_own_l22 m (Nat.succ m) x0 x1 x2 x3 x4
noncomputable def ref14_own_j20 (m:Nat) (x0:List Dt) (x1:Bool) (x2:Dt) (x3:List Dt):Option (List Dt):=
 (bif x1 then
  ref14_own_j21 m x0 false 0 x2 x3
 else
  ref14_own_j26 m x3)
noncomputable def ref14_own_j19 (m:Nat) (x0:List Dt) (x1 x2:Dt) (x3:List Dt):Option (List Dt):=
 (bif ((Dt.I x2 0)==6) then
  ref14_own_j20 m x0 (Dt.B x1 12) x2 x3
 else
  ref14_own_j20 m x0 false x2 x3)
noncomputable def ref14_own_l16 (m:Nat):Nat→List Dt→Int→Dt→Dt→List Dt→Option (List Dt)
  |0,_,_,_,_,_=>none
  |M16+1,x0,x1,x2,x3,x4=>
   (bif (decide (x1<(List.length (Dt.L x3 4):Int))) then
   (bif (Dt.B x2 10) then
 ref14_own_j17 m (ref14_own_l16 m M16) x0 x1 x2 x3 x4
   else
 ref14_own_j19 m x0 x2 x3 x4)
  else
   ref14_own_j19 m x0 x2 x3 x4)
noncomputable def ref14_own_j15 (m:Nat) (x0:List Dt) (x1:Int) (x2 x3:Dt) (x4:List Dt):Option (List Dt):=
 ref14_own_l16 m (Nat.succ m) x0 x1 x2 x3 x4
noncomputable def ref14_own_j14 (m:Nat) (x0:List Dt) (x1 x2:Dt) (x3:List Dt):Option (List Dt):=
 ref14_own_j15 m x0 0 x1 x2 x3
noncomputable def ref14_own_l11 (m:Nat):Nat→List Dt→Int→Dt→Dt→List Dt→Option (List Dt)
 |0,_,_,_,_,_=>none
 |M11+1,x0,x1,x2,x3,x4=>
  (bif (decide (x1<(List.length (Dt.L x2 8):Int))) then
  ref14_own_j12 m (ref14_own_l11 m M11) x0 x1 x2 x3 x4
 else
  ref14_own_j14 m x0 x2 x3 x4)
noncomputable def ref14_own_j10 (m:Nat) (x0:List Dt) (x1:Int) (x2 x3:Dt) (x4:List Dt):Option (List Dt):=
 ref14_own_l11 m (Nat.succ m) x0 x1 x2 x3 x4
noncomputable def ref14_own_j9 (m:Nat) (x0:List Dt) (x1 x2:Dt) (x3:List Dt):Option (List Dt):=
 (bif ((Dt.I x2 0)==5) then
  ref14_own_j10 m x0 0 x1 x2 x3
 else
  ref14_own_j19 m x0 x1 x2 x3)
noncomputable def ref14_own_j8 (m:Nat) (x0:List Dt) (x1:Bool) (x2 x3:Dt) (x4:List Dt):Option (List Dt):=
  (bif x1 then
   ((app x4 [(Dt.agg [(Dt.lst x0),(Dt.int 5)])]).bind fun v8=>
 ref14_own_j9 m x0 x2 x3 v8)
  else
   ref14_own_j9 m x0 x2 x3 x4)
noncomputable def ref14_own_j7 (m:Nat) (x0:List Dt) (x1 x2:Dt) (x3:List Dt):Option (List Dt):=
  ((ref14_length m x2).bind fun r7=>
    (bif r7.2 then
 (bif (decide (r7.1<(Dt.I x1 6))) then
 ref14_own_j8 m x0 true x1 x2 x3
 else
 (bif (decide (0≤(Dt.I x1 7))) then
 ref14_own_j8 m x0 (decide ((Dt.I x1 7)<r7.1)) x1 x2 x3
 else
 ref14_own_j8 m x0 false x1 x2 x3))
    else
 ref14_own_j8 m x0 false x1 x2 x3))
noncomputable def ref14_own_j6 (m:Nat) (x0:List Dt) (x1:Bool) (x2 x3:Dt) (x4:List Dt):Option (List Dt):=
  (bif x1 then
   ((app x4 [(Dt.agg [(Dt.lst x0),(Dt.int 4)])]).bind fun v6=>
 ref14_own_j7 m x0 x2 x3 v6)
  else
   ref14_own_j7 m x0 x2 x3 x4)
noncomputable def ref14_own_j5 (m:Nat) (x0:List Dt) (x1 x2:Dt) (x3:List Dt):Option (List Dt):=
  (bif (Dt.B x1 3) then
   ((ref01_Compare m x2 (Dt.fld x1 4)).bind fun r5=>
 ref14_own_j6 m x0 (decide (0<r5)) x1 x2 x3)
  else
   ref14_own_j6 m x0 false x1 x2 x3)
noncomputable def ref14_own_j4 (m:Nat) (x0:List Dt) (x1:Bool) (x2 x3:Dt) (x4:List Dt):Option (List Dt):=
  (bif x1 then
   ((app x4 [(Dt.agg [(Dt.lst x0),(Dt.int 3)])]).bind fun v4=>
 ref14_own_j5 m x0 x2 x3 v4)
  else
   ref14_own_j5 m x0 x2 x3 x4)
noncomputable def ref14_own_j3 (m:Nat) (x0:List Dt) (x1 x2:Dt) (x3:List Dt):Option (List Dt):=
  (bif (Dt.B x1 1) then
   ((ref01_Compare m x2 (Dt.fld x1 2)).bind fun r3=>
 ref14_own_j4 m x0 (decide (r3<0)) x1 x2 x3)
  else
   ref14_own_j4 m x0 false x1 x2 x3)
noncomputable def ref14_own_j2 (m:Nat) (x0:List Dt) (x1:Bool) (x2 x3:Dt) (x4:List Dt):Option (List Dt):=
  (bif x1 then
   ((app x4 [(Dt.agg [(Dt.lst x0),(Dt.int 2)])]).bind fun v2=>
 ref14_own_j3 m x0 x2 x3 v2)
  else
   ref14_own_j3 m x0 x2 x3 x4)
noncomputable def ref14_own_j1 (m:Nat) (x0:List Dt) (x1 x2:Dt) (x3:List Dt):Option (List Dt):=
  (bif (decide (0<(List.length (Dt.L x1 5):Int))) then
   ((ref14_among m (Dt.L x1 5) x2).bind fun r1=>
 ref14_own_j2 m x0 (Bool.not r1) x1 x2 x3)
  else
   ref14_own_j2 m x0 false x1 x2 x3)
noncomputable def ref14_own_j0 (m:Nat) (x0:List Dt) (x1:Bool) (x2 x3:Dt) (x4:List Dt):Option (List Dt):=
  (bif x1 then
   ((app x4 [(Dt.agg [(Dt.lst x0),(Dt.int 1)])]).bind fun v0=>
 ref14_own_j1 m x0 x2 x3 v0)
  else
   ref14_own_j1 m x0 x2 x3 x4)
noncomputable def ref14_own:Nat→Dt→Dt→List Dt→Option (List Dt)
  |0,_,_,_=>none
  |m+1,a0,a1,a2=>
   (bif ((Dt.I a0 0) !=0) then
   (bif (decide ((Dt.I a1 0)<1)) then
 ref14_own_j0 m a2 true a0 a1 []
   else
 (bif (decide (11<(Dt.I a1 0))) then
 ref14_own_j0 m a2 true a0 a1 []
 else
 (bif (decide (0≤(Dt.I a1 0))) then
 ref14_own_j0 m a2 ((Int.tmod (shrI IntKind.i64 (Dt.I a0 0) (Dt.I a1 0)) 2)==0) a0 a1 []
 else
 none)))
  else
   ref14_own_j0 m a2 false a0 a1 [])
noncomputable def ref05_digit:Nat→Int→Option ByteArray
 |0,_=>none
 |m+1,a0=>
  ((cutS (ByteArray.mk (List.toArray [48,49,50,51,52,53,54,55,56,57,97,98,99,100,101,102])) a0 (IntKind.wrap .i64 (a0+1))).bind fun v0=>
  some v0)
noncomputable def ref05_Decimal_j4 (m:Nat) (rec2:Int→Int→ByteArray→Int→Option ByteArray) (x0 x1:Int) (x2:ByteArray) (x3:Int):Option ByteArray:=
 rec2 x0 x1 x2 (IntKind.wrap .i64 (x3+1))
noncomputable def ref05_Decimal_j3 (m:Nat) (rec2:Int→Int→ByteArray→Int→Option ByteArray) (x0 x1:Int) (x2:ByteArray) (x3:Int):Option ByteArray:=
  ((ref05_digit m (IntKind.wrap .i64 (Int.tmod (IntKind.wrap IntKind.u64 (Int.tdiv x1 10)) 10))).bind fun r1=>
    (bif (Nat.ble ((ByteArray.size r1)+(ByteArray.size x2)) 1152921504606846976) then
 ref05_Decimal_j4 m rec2 x0 (IntKind.wrap IntKind.u64 (Int.tdiv x1 10)) (r1++x2) x3
    else
 none))
noncomputable def ref05_Decimal_j6 (m:Nat) (x0:ByteArray):Option ByteArray:=
 some x0
noncomputable def ref05_Decimal_j5 (m:Nat) (x0:Int) (x1:ByteArray):Option ByteArray:=
  (bif (decide (x0<0)) then
   (bif (Nat.ble (1+(ByteArray.size x1)) 1152921504606846976) then
 ref05_Decimal_j6 m ((ByteArray.mk (List.toArray [45]))++x1)
   else
 none)
  else
   ref05_Decimal_j6 m x1)
noncomputable def ref05_Decimal_l2 (m:Nat):Nat→Int→Int→ByteArray→Int→Option ByteArray
  |0,_,_,_,_=>none
  |M2+1,x0,x1,x2,x3=>
   (bif (decide (x3<20)) then
   (bif (decide (10≤x1)) then
 ref05_Decimal_j3 m (ref05_Decimal_l2 m M2) x0 x1 x2 x3
   else
 ref05_Decimal_j5 m x0 x2)
  else
   ref05_Decimal_j5 m x0 x2)
noncomputable def ref05_Decimal_j1 (m:Nat) (x0 x1:Int) (x2:ByteArray) (x3:Int):Option ByteArray:=
 ref05_Decimal_l2 m (Nat.succ m) x0 x1 x2 x3
noncomputable def ref05_Decimal_j0 (m:Nat) (x0 x1:Int):Option ByteArray:=
 ((ref05_digit m (IntKind.wrap .i64 (Int.tmod x1 10))).bind fun r0=>
   ref05_Decimal_j1 m x0 x1 r0 0)
noncomputable def ref05_Decimal:Nat→Int→Option ByteArray
 |0,_=>none
 |m+1,a0=>
  (bif (decide (a0<0)) then
  ref05_Decimal_j0 m a0 (IntKind.wrap IntKind.u64 (0-(IntKind.wrap IntKind.u64 a0)))
 else
  ref05_Decimal_j0 m a0 (IntKind.wrap IntKind.u64 a0))
noncomputable def ref14_violations_j3 (m:Nat) (self29:Dt→Dt→List Dt→Option (List Dt)) (rec1:List Dt→Int→Dt→Dt→List Dt→Option (List Dt)) (x0:List Dt) (x1:Int) (x2 x3:Dt) (x4:List Dt):Option (List Dt):=
 rec1 x0 (IntKind.wrap .i64 (x1+1)) x2 x3 x4
noncomputable def ref14_violations_j2 (m:Nat) (self29:Dt→Dt→List Dt→Option (List Dt)) (rec1:List Dt→Int→Dt→Dt→List Dt→Option (List Dt)) (x0:List Dt) (x1:Int) (x2 x3:Dt) (x4:List Dt):Option (List Dt):=
  ((idx (Dt.L x2 9) x1).bind fun v1=>
    ((ref01_Get m x3 (Dt.S v1 0)).bind fun r2=>
 (bif r2.2 then
 ((idx (Dt.L x2 9) x1).bind fun v3=>
 ((idx (Dt.L x2 9) x1).bind fun v4=>
 ((ref14_step m x0 (Dt.S v4 0)).bind fun r5=>
 ((self29 (Dt.fld v3 1) r2.1 r5).bind fun r6=>
 ((app x4 r6).bind fun v7=>
 ref14_violations_j3 m self29 rec1 x0 x1 x2 x3 v7)))))
 else
 ref14_violations_j3 m self29 rec1 x0 x1 x2 x3 x4)))
noncomputable def ref14_violations_j9 (m:Nat) (self29:Dt→Dt→List Dt→Option (List Dt)) (rec7:List Dt→Int→Dt→Dt→List Dt→Option (List Dt)) (x0:List Dt) (x1:Int) (x2 x3:Dt) (x4:List Dt):Option (List Dt):=
 rec7 x0 (IntKind.wrap .i64 (x1+1)) x2 x3 x4
noncomputable def ref14_violations_j8 (m:Nat) (self29:Dt→Dt→List Dt→Option (List Dt)) (rec7:List Dt→Int→Dt→Dt→List Dt→Option (List Dt)) (x0:List Dt) (x1:Int) (x2 x3:Dt) (x4:List Dt):Option (List Dt):=
  ((idx (Dt.L x2 11) 0).bind fun v8=>
    ((idx (Dt.L x3 3) x1).bind fun v9=>
 ((ref05_Decimal m x1).bind fun r10=>
 ((ref14_step m x0 r10).bind fun r11=>
 ((self29 v8 v9 r11).bind fun r12=>
 ((app x4 r12).bind fun v13=>
 ref14_violations_j9 m self29 rec7 x0 x1 x2 x3 v13))))))
noncomputable def ref14_violations_j10 (m:Nat) (self29:Dt→Dt→List Dt→Option (List Dt)) (x0:List Dt):Option (List Dt):=
 some x0
noncomputable def ref14_violations_l7 (m:Nat) (self29:Dt→Dt→List Dt→Option (List Dt)):Nat→List Dt→Int→Dt→Dt→List Dt→Option (List Dt)
 |0,_,_,_,_,_=>none
 |M7+1,x0,x1,x2,x3,x4=>
  (bif (decide (x1<(List.length (Dt.L x3 3):Int))) then
  ref14_violations_j8 m self29 (ref14_violations_l7 m self29 M7) x0 x1 x2 x3 x4
 else
  ref14_violations_j10 m self29 x4)
noncomputable def ref14_violations_j6 (m:Nat) (self29:Dt→Dt→List Dt→Option (List Dt)) (x0:List Dt) (x1:Int) (x2 x3:Dt) (x4:List Dt):Option (List Dt):=
 ref14_violations_l7 m self29 (Nat.succ m) x0 x1 x2 x3 x4
noncomputable def ref14_violations_j5 (m:Nat) (self29:Dt→Dt→List Dt→Option (List Dt)) (x0:List Dt) (x1:Bool) (x2 x3:Dt) (x4:List Dt):Option (List Dt):=
 (bif x1 then
  ref14_violations_j6 m self29 x0 0 x2 x3 x4
 else
  ref14_violations_j10 m self29 x4)
noncomputable def ref14_violations_j4 (m:Nat) (self29:Dt→Dt→List Dt→Option (List Dt)) (x0:List Dt) (x1 x2:Dt) (x3:List Dt):Option (List Dt):=
 (bif ((List.length (Dt.L x1 11):Int)==1) then
  ref14_violations_j5 m self29 x0 ((Dt.I x2 0)==6) x1 x2 x3
 else
  ref14_violations_j5 m self29 x0 false x1 x2 x3)
noncomputable def ref14_violations_l1 (m:Nat) (self29:Dt→Dt→List Dt→Option (List Dt)):Nat→List Dt→Int→Dt→Dt→List Dt→Option (List Dt)
 |0,_,_,_,_,_=>none
 |M1+1,x0,x1,x2,x3,x4=>
  (bif (decide (x1<(List.length (Dt.L x2 9):Int))) then
  ref14_violations_j2 m self29 (ref14_violations_l1 m self29 M1) x0 x1 x2 x3 x4
 else
  ref14_violations_j4 m self29 x0 x2 x3 x4)
noncomputable def ref14_violations_j0 (m:Nat) (self29:Dt→Dt→List Dt→Option (List Dt)) (x0:List Dt) (x1:Int) (x2 x3:Dt) (x4:List Dt):Option (List Dt):=
 ref14_violations_l1 m self29 (Nat.succ m) x0 x1 x2 x3 x4
noncomputable def ref14_violations:Nat→Dt→Dt→List Dt→Option (List Dt)
 |0,_,_,_=>none
 |m+1,a0,a1,a2=>
  ((ref14_own m a0 a1 a2).bind fun r0=>
  ref14_violations_j0 m (ref14_violations m) a2 0 a0 a1 r0)
noncomputable def value_nodes_j0 (m:Nat) (self79:Dt→Int→Int→Option (Int×Int)) (x0:Dt) (x1 x2:Int):Option Int:=
 ((self79 x0 x2 x1).bind fun r0=>
   some r0.1)
noncomputable def i79_j3 (m:Nat) (self80:Dt→Int→Int→Option (Bool×Int×Int)) (rec1:List Dt→Int→Int→Int→Int→Option (Int×Int)) (x0:List Dt) (x1 x2 x3 x4:Int):Option (Int×Int):=
 rec1 x0 x1 (IntKind.wrap .i64 (x2+1)) x3 x4
noncomputable def i79_j2 (m:Nat) (self80:Dt→Int→Int→Option (Bool×Int×Int)) (rec1:List Dt→Int→Int→Int→Int→Option (Int×Int)) (x0:List Dt) (x1 x2 x3 x4:Int):Option (Int×Int):=
  ((idx x0 x2).bind fun v0=>
    ((self80 v0 x3 x4).bind fun r1=>
 (bif (Bool.not r1.1) then
 some (r1.2.1,r1.2.2)
 else
 i79_j3 m self80 rec1 x0 x1 x2 r1.2.1 r1.2.2)))
noncomputable def i79_l1 (m:Nat) (self80:Dt→Int→Int→Option (Bool×Int×Int)):Nat→List Dt→Int→Int→Int→Int→Option (Int×Int)
 |0,_,_,_,_,_=>none
 |M1+1,x0,x1,x2,x3,x4=>
  (bif (decide (x2<x1)) then
  i79_j2 m self80 (i79_l1 m self80 M1) x0 x1 x2 x3 x4
 else
  some (x3,x4))
noncomputable def i79_j0 (m:Nat) (self80:Dt→Int→Int→Option (Bool×Int×Int)) (x0:List Dt) (x1 x2 x3 x4:Int):Option (Int×Int):=
 i79_l1 m self80 (Nat.succ m) x0 x1 x2 x3 x4
noncomputable def i79_j7 (m:Nat) (self80:Dt→Int→Int→Option (Bool×Int×Int)) (rec5:List Dt→Int→Int→Int→Int→Option (Int×Int)) (x0:List Dt) (x1 x2 x3 x4:Int):Option (Int×Int):=
 rec5 x0 x1 (IntKind.wrap .i64 (x2+1)) x3 x4
noncomputable def i79_j6 (m:Nat) (self80:Dt→Int→Int→Option (Bool×Int×Int)) (rec5:List Dt→Int→Int→Int→Int→Option (Int×Int)) (x0:List Dt) (x1 x2 x3 x4:Int):Option (Int×Int):=
  ((idx x0 x2).bind fun v2=>
    ((self80 (Dt.fld v2 1) x3 x4).bind fun r3=>
 (bif (Bool.not r3.1) then
 some (r3.2.1,r3.2.2)
 else
 i79_j7 m self80 rec5 x0 x1 x2 r3.2.1 r3.2.2)))
noncomputable def i79_l5 (m:Nat) (self80:Dt→Int→Int→Option (Bool×Int×Int)):Nat→List Dt→Int→Int→Int→Int→Option (Int×Int)
 |0,_,_,_,_,_=>none
 |M5+1,x0,x1,x2,x3,x4=>
  (bif (decide (x2<x1)) then
  i79_j6 m self80 (i79_l5 m self80 M5) x0 x1 x2 x3 x4
 else
  some (x3,x4))
noncomputable def i79_j4 (m:Nat) (self80:Dt→Int→Int→Option (Bool×Int×Int)) (x0:List Dt) (x1 x2 x3 x4:Int):Option (Int×Int):=
 i79_l5 m self80 (Nat.succ m) x0 x1 x2 x3 x4
mutual
noncomputable def value_nodes:Nat→Dt→Int→Option Int
 |0,_,_=>none
 |m+1,a0,a1=>
  (bif (1==a1) then
  some 1
 else
  value_nodes_j0 m (i79 m) a0 a1 1)
noncomputable def i79:Nat→Dt→Int→Int→Option (Int×Int)
  |0,_,_,_=>none
  |m+1,a0,a1,a2=>
   (bif ((Dt.I a0 0)==6) then
   i79_j0 m (i80 m) (Dt.L a0 3) (List.length (Dt.L a0 3):Int) 0 a1 a2
  else
   (bif ((Dt.I a0 0)==5) then
 i79_j4 m (i80 m) (Dt.L a0 4) (List.length (Dt.L a0 4):Int) 0 a1 a2
   else
 some (a1,a2)))
noncomputable def i80:Nat→Dt→Int→Int→Option (Bool×Int×Int)
 |0,_,_,_=>none
 |m+1,a0,a1,a2=>
  ((value_nodes m a0 (IntKind.wrap .i64 (a2-a1))).bind fun r0=>
  some ((decide ((IntKind.wrap .i64 (a1+r0))<a2)),(IntKind.wrap .i64 (a1+r0)),a2))
end
noncomputable def value_Nodes:Nat→Dt→Option Int
 |0,_=>none
 |m+1,a0=>
  ((value_nodes m a0 1025).bind fun r0=>
  some r0)
noncomputable def value_depth_j0 (m:Nat) (self81:Dt→Int→Int→Option (Int×Int)) (x0:Dt) (x1:Int):Option Int:=
 ((self81 x0 0 x1).bind fun r0=>
   some (IntKind.wrap .i64 (1+r0.1)))
noncomputable def i81_j3 (m:Nat) (self82:Dt→Int→Int→Option (Bool×Int×Int)) (rec1:List Dt→Int→Int→Int→Int→Option (Int×Int)) (x0:List Dt) (x1 x2 x3 x4:Int):Option (Int×Int):=
 rec1 x0 x1 (IntKind.wrap .i64 (x2+1)) x3 x4
noncomputable def i81_j2 (m:Nat) (self82:Dt→Int→Int→Option (Bool×Int×Int)) (rec1:List Dt→Int→Int→Int→Int→Option (Int×Int)) (x0:List Dt) (x1 x2 x3 x4:Int):Option (Int×Int):=
  ((idx x0 x2).bind fun v0=>
    ((self82 v0 x3 x4).bind fun r1=>
 (bif (Bool.not r1.1) then
 some (r1.2.1,r1.2.2)
 else
 i81_j3 m self82 rec1 x0 x1 x2 r1.2.1 r1.2.2)))
noncomputable def i81_l1 (m:Nat) (self82:Dt→Int→Int→Option (Bool×Int×Int)):Nat→List Dt→Int→Int→Int→Int→Option (Int×Int)
 |0,_,_,_,_,_=>none
 |M1+1,x0,x1,x2,x3,x4=>
  (bif (decide (x2<x1)) then
  i81_j2 m self82 (i81_l1 m self82 M1) x0 x1 x2 x3 x4
 else
  some (x3,x4))
noncomputable def i81_j0 (m:Nat) (self82:Dt→Int→Int→Option (Bool×Int×Int)) (x0:List Dt) (x1 x2 x3 x4:Int):Option (Int×Int):=
 i81_l1 m self82 (Nat.succ m) x0 x1 x2 x3 x4
noncomputable def i81_j7 (m:Nat) (self82:Dt→Int→Int→Option (Bool×Int×Int)) (rec5:List Dt→Int→Int→Int→Int→Option (Int×Int)) (x0:List Dt) (x1 x2 x3 x4:Int):Option (Int×Int):=
 rec5 x0 x1 (IntKind.wrap .i64 (x2+1)) x3 x4
noncomputable def i81_j6 (m:Nat) (self82:Dt→Int→Int→Option (Bool×Int×Int)) (rec5:List Dt→Int→Int→Int→Int→Option (Int×Int)) (x0:List Dt) (x1 x2 x3 x4:Int):Option (Int×Int):=
  ((idx x0 x2).bind fun v2=>
    ((self82 (Dt.fld v2 1) x3 x4).bind fun r3=>
 (bif (Bool.not r3.1) then
 some (r3.2.1,r3.2.2)
 else
 i81_j7 m self82 rec5 x0 x1 x2 r3.2.1 r3.2.2)))
noncomputable def i81_l5 (m:Nat) (self82:Dt→Int→Int→Option (Bool×Int×Int)):Nat→List Dt→Int→Int→Int→Int→Option (Int×Int)
 |0,_,_,_,_,_=>none
 |M5+1,x0,x1,x2,x3,x4=>
  (bif (decide (x2<x1)) then
  i81_j6 m self82 (i81_l5 m self82 M5) x0 x1 x2 x3 x4
 else
  some (x3,x4))
noncomputable def i81_j4 (m:Nat) (self82:Dt→Int→Int→Option (Bool×Int×Int)) (x0:List Dt) (x1 x2 x3 x4:Int):Option (Int×Int):=
 i81_l5 m self82 (Nat.succ m) x0 x1 x2 x3 x4
mutual
noncomputable def value_depth:Nat→Dt→Int→Option Int
 |0,_,_=>none
 |m+1,a0,a1=>
  (bif (a1==1) then
  some 1
 else
  value_depth_j0 m (i81 m) a0 a1)
noncomputable def i81:Nat→Dt→Int→Int→Option (Int×Int)
  |0,_,_,_=>none
  |m+1,a0,a1,a2=>
   (bif ((Dt.I a0 0)==6) then
   i81_j0 m (i82 m) (Dt.L a0 3) (List.length (Dt.L a0 3):Int) 0 a1 a2
  else
   (bif ((Dt.I a0 0)==5) then
 i81_j4 m (i82 m) (Dt.L a0 4) (List.length (Dt.L a0 4):Int) 0 a1 a2
   else
 some (a1,a2)))
noncomputable def i82:Nat→Dt→Int→Int→Option (Bool×Int×Int)
 |0,_,_,_=>none
 |m+1,a0,a1,a2=>
  ((value_depth m a0 (IntKind.wrap .i64 (a2-1))).bind fun r0=>
  some ((decide ((bif (decide (a1<r0)) then r0 else a1)<(IntKind.wrap .i64 (a2-1)))),(bif (decide (a1<r0)) then r0 else a1),a2))
end
noncomputable def value_Depth:Nat→Dt→Option Int
 |0,_=>none
 |m+1,a0=>
  ((value_depth m a0 17).bind fun r0=>
  some r0)
noncomputable def ref01_Name_j6 (m:Nat) (rec3:ByteArray→Int→Option Bool) (x0:ByteArray) (x1:Int):Option Bool:=
 rec3 x0 (IntKind.wrap .i64 (x1+1))
noncomputable def ref01_Name_j5 (m:Nat) (rec3:ByteArray→Int→Option Bool) (x0:ByteArray) (x1:Int) (x2:Bool):Option Bool:=
 (bif x2 then
  some false
 else
  ref01_Name_j6 m rec3 x0 x1)
noncomputable def ref01_Name_j4 (m:Nat) (rec3:ByteArray→Int→Option Bool) (x0:ByteArray) (x1:Int):Option Bool:=
  ((idxS x0 x1).bind fun v0=>
    (bif (decide (v0<33)) then
 ref01_Name_j5 m rec3 x0 x1 true
    else
 ((idxS x0 x1).bind fun v1=>
 (bif (decide (126<v1)) then
 ref01_Name_j5 m rec3 x0 x1 true
 else
 ((idxS x0 x1).bind fun v2=>
 ref01_Name_j5 m rec3 x0 x1 (v2==46))))))
noncomputable def ref01_Name_j7 (m:Nat):Option Bool:=
 some true
noncomputable def ref01_Name_l3 (m:Nat):Nat→ByteArray→Int→Option Bool
 |0,_,_=>none
 |M3+1,x0,x1=>
  (bif (decide (x1<(ByteArray.size x0:Int))) then
  ref01_Name_j4 m (ref01_Name_l3 m M3) x0 x1
 else
  ref01_Name_j7 m)
noncomputable def ref01_Name_j2 (m:Nat) (x0:ByteArray) (x1:Int):Option Bool:=
 ref01_Name_l3 m (Nat.succ m) x0 x1
noncomputable def ref01_Name_j1 (m:Nat) (x0:ByteArray):Option Bool:=
 ref01_Name_j2 m x0 0
noncomputable def ref01_Name_j0 (m:Nat) (x0:ByteArray) (x1:Bool):Option Bool:=
 (bif x1 then
  some false
 else
  ref01_Name_j1 m x0)
noncomputable def ref01_Name:Nat→ByteArray→Option Bool
  |0,_=>none
  |m+1,a0=>
   (bif (decide ((ByteArray.size a0:Int)<1)) then
   ref01_Name_j0 m a0 true
  else
   (bif (decide (32<(ByteArray.size a0:Int))) then
 ref01_Name_j0 m a0 true
   else
 ((idxS a0 0).bind fun v3=>
 ref01_Name_j0 m a0 (v3==36))))
noncomputable def ref14_different_j7 (m:Nat) (rec1:List Dt→Int→Option Bool) (rec5:List Dt→Int→Int→Option Bool) (x0:List Dt) (x1 x2:Int):Option Bool:=
 rec5 x0 x1 (IntKind.wrap .i64 (x2+1))
noncomputable def ref14_different_j6 (m:Nat) (rec1:List Dt→Int→Option Bool) (rec5:List Dt→Int→Int→Option Bool) (x0:List Dt) (x1 x2:Int):Option Bool:=
  ((idx x0 x2).bind fun v2=>
    ((idx x0 x1).bind fun v3=>
 (bif ((ByteArray.toList (Dt.toStr v2))==(ByteArray.toList (Dt.toStr v3))) then
 some false
 else
 ref14_different_j7 m rec1 rec5 x0 x1 x2)))
noncomputable def ref14_different_j8 (m:Nat) (rec1:List Dt→Int→Option Bool) (x0:List Dt) (x1:Int):Option Bool:=
 rec1 x0 (IntKind.wrap .i64 (x1+1))
noncomputable def ref14_different_l5 (m:Nat) (rec1:List Dt→Int→Option Bool):Nat→List Dt→Int→Int→Option Bool
 |0,_,_,_=>none
 |M5+1,x0,x1,x2=>
  (bif (decide (x2<x1)) then
  ref14_different_j6 m rec1 (ref14_different_l5 m rec1 M5) x0 x1 x2
 else
  ref14_different_j8 m rec1 x0 x1)
noncomputable def ref14_different_j4 (m:Nat) (rec1:List Dt→Int→Option Bool) (x0:List Dt) (x1 x2:Int):Option Bool:=
 ref14_different_l5 m rec1 (Nat.succ m) x0 x1 x2
noncomputable def ref14_different_j3 (m:Nat) (rec1:List Dt→Int→Option Bool) (x0:List Dt) (x1:Int):Option Bool:=
 ref14_different_j4 m rec1 x0 x1 0
noncomputable def ref14_different_j2 (m:Nat) (rec1:List Dt→Int→Option Bool) (x0:List Dt) (x1:Int):Option Bool:=
  ((idx x0 x1).bind fun v0=>
    ((ref01_Name m (Dt.toStr v0)).bind fun r1=>
 (bif (Bool.not r1) then
 some false
 else
 ref14_different_j3 m rec1 x0 x1)))
noncomputable def ref14_different_j9 (m:Nat):Option Bool:=
 some true
noncomputable def ref14_different_l1 (m:Nat):Nat→List Dt→Int→Option Bool
 |0,_,_=>none
 |M1+1,x0,x1=>
  (bif (decide (x1<(List.length x0:Int))) then
  ref14_different_j2 m (ref14_different_l1 m M1) x0 x1
 else
  ref14_different_j9 m)
noncomputable def ref14_different_j0 (m:Nat) (x0:List Dt) (x1:Int):Option Bool:=
 ref14_different_l1 m (Nat.succ m) x0 x1
noncomputable def ref14_different:Nat→List Dt→Option Bool
 |0,_=>none
 |m+1,a0=>
  ref14_different_j0 m a0 0
noncomputable def ref01_Same_j5 (m:Nat) (self75:Dt→Dt→Option Bool) (rec3:Int→Dt→Dt→Option Bool) (x0:Int) (x1 x2:Dt):Option Bool:=
 rec3 (IntKind.wrap .i64 (x0+1)) x1 x2
noncomputable def ref01_Same_j4 (m:Nat) (self75:Dt→Dt→Option Bool) (rec3:Int→Dt→Dt→Option Bool) (x0:Int) (x1 x2:Dt):Option Bool:=
  ((idx (Dt.L x1 3) x0).bind fun v0=>
    ((idx (Dt.L x2 3) x0).bind fun v1=>
 ((self75 v0 v1).bind fun r2=>
 (bif (Bool.not r2) then
 some false
 else
 ref01_Same_j5 m self75 rec3 x0 x1 x2))))
noncomputable def ref01_Same_j11 (m:Nat) (self75:Dt→Dt→Option Bool) (rec8:Int→Dt→Dt→Option Bool) (x0:Int) (x1 x2:Dt):Option Bool:=
 rec8 (IntKind.wrap .i64 (x0+1)) x1 x2
noncomputable def ref01_Same_j10 (m:Nat) (self75:Dt→Dt→Option Bool) (rec8:Int→Dt→Dt→Option Bool) (x0:Int) (x1:Bool) (x2 x3:Dt):Option Bool:=
 (bif x1 then
  some false
 else
  ref01_Same_j11 m self75 rec8 x0 x2 x3)
noncomputable def ref01_Same_j9 (m:Nat) (self75:Dt→Dt→Option Bool) (rec8:Int→Dt→Dt→Option Bool) (x0:Int) (x1 x2:Dt):Option Bool:=
  ((idx (Dt.L x1 4) x0).bind fun v3=>
    ((idx (Dt.L x2 4) x0).bind fun v4=>
 (bif (Bool.not ((ByteArray.toList (Dt.S v3 0))==(ByteArray.toList (Dt.S v4 0)))) then
 ref01_Same_j10 m self75 rec8 x0 true x1 x2
 else
 ((idx (Dt.L x1 4) x0).bind fun v5=>
 ((idx (Dt.L x2 4) x0).bind fun v6=>
 ((self75 (Dt.fld v5 1) (Dt.fld v6 1)).bind fun r7=>
 ref01_Same_j10 m self75 rec8 x0 (Bool.not r7) x1 x2))))))
noncomputable def ref01_Same_j12 (m:Nat) (self75:Dt→Dt→Option Bool):Option Bool:=
 some true
noncomputable def ref01_Same_l8 (m:Nat) (self75:Dt→Dt→Option Bool):Nat→Int→Dt→Dt→Option Bool
 |0,_,_,_=>none
 |M8+1,x0,x1,x2=>
  (bif (decide (x0<(List.length (Dt.L x1 4):Int))) then
  ref01_Same_j9 m self75 (ref01_Same_l8 m self75 M8) x0 x1 x2
 else
  ref01_Same_j12 m self75)
noncomputable def ref01_Same_j7 (m:Nat) (self75:Dt→Dt→Option Bool) (x0:Int) (x1 x2:Dt):Option Bool:=
 ref01_Same_l8 m self75 (Nat.succ m) x0 x1 x2
noncomputable def ref01_Same_j6 (m:Nat) (self75:Dt→Dt→Option Bool) (x0 x1:Dt):Option Bool:=
 ref01_Same_j7 m self75 0 x0 x1
noncomputable def ref01_Same_l3 (m:Nat) (self75:Dt→Dt→Option Bool):Nat→Int→Dt→Dt→Option Bool
 |0,_,_,_=>none
 |M3+1,x0,x1,x2=>
  (bif (decide (x0<(List.length (Dt.L x1 3):Int))) then
  ref01_Same_j4 m self75 (ref01_Same_l3 m self75 M3) x0 x1 x2
 else
  ref01_Same_j6 m self75 x1 x2)
noncomputable def ref01_Same_j2 (m:Nat) (self75:Dt→Dt→Option Bool) (x0:Int) (x1 x2:Dt):Option Bool:=
 ref01_Same_l3 m self75 (Nat.succ m) x0 x1 x2
noncomputable def ref01_Same_j1 (m:Nat) (self75:Dt→Dt→Option Bool) (x0 x1:Dt):Option Bool:=
 ref01_Same_j2 m self75 0 x0 x1
noncomputable def ref01_Same_j0 (m:Nat) (self75:Dt→Dt→Option Bool) (x0:Bool) (x1 x2:Dt):Option Bool:=
 (bif x0 then
  some false
 else
  ref01_Same_j1 m self75 x1 x2)
noncomputable def ref01_Same:Nat→Dt→Dt→Option Bool
  |0,_,_=>none
  |m+1,a0,a1=>
   (bif ((Dt.I a0 0) !=(Dt.I a1 0)) then
   ref01_Same_j0 m (ref01_Same m) true a0 a1
  else
   (bif ((Dt.I a0 1) !=(Dt.I a1 1)) then
 ref01_Same_j0 m (ref01_Same m) true a0 a1
   else
 (bif (Bool.not ((ByteArray.toList (Dt.S a0 2))==(ByteArray.toList (Dt.S a1 2)))) then
 ref01_Same_j0 m (ref01_Same m) true a0 a1
 else
 (bif ((List.length (Dt.L a0 3):Int) !=(List.length (Dt.L a1 3):Int)) then
 ref01_Same_j0 m (ref01_Same m) true a0 a1
 else
 ref01_Same_j0 m (ref01_Same m) ((List.length (Dt.L a0 4):Int) !=(List.length (Dt.L a1 4):Int)) a0 a1))))
noncomputable def value_isName_j6 (m:Nat) (rec3:ByteArray→Int→Int→Option Bool) (x0:ByteArray) (x1 x2:Int):Option Bool:=
 rec3 x0 x1 (IntKind.wrap .i64 (x2+1))
noncomputable def value_isName_j5 (m:Nat) (rec3:ByteArray→Int→Int→Option Bool) (x0:ByteArray) (x1 x2:Int) (x3:Bool):Option Bool:=
 (bif x3 then
  some false
 else
  value_isName_j6 m rec3 x0 x1 x2)
noncomputable def value_isName_j4 (m:Nat) (rec3:ByteArray→Int→Int→Option Bool) (x0:ByteArray) (x1 x2:Int):Option Bool:=
  ((idxS x0 x2).bind fun v0=>
    (bif (decide (v0<33)) then
 value_isName_j5 m rec3 x0 x1 x2 true
    else
 ((idxS x0 x2).bind fun v1=>
 (bif (decide (126<v1)) then
 value_isName_j5 m rec3 x0 x1 x2 true
 else
 ((idxS x0 x2).bind fun v2=>
 value_isName_j5 m rec3 x0 x1 x2 (v2==46))))))
noncomputable def value_isName_j7 (m:Nat):Option Bool:=
 some true
noncomputable def value_isName_l3 (m:Nat):Nat→ByteArray→Int→Int→Option Bool
 |0,_,_,_=>none
 |M3+1,x0,x1,x2=>
  (bif (decide (x2<x1)) then
  value_isName_j4 m (value_isName_l3 m M3) x0 x1 x2
 else
  value_isName_j7 m)
noncomputable def value_isName_j2 (m:Nat) (x0:ByteArray) (x1 x2:Int):Option Bool:=
 value_isName_l3 m (Nat.succ m) x0 x1 x2
noncomputable def value_isName_j1 (m:Nat) (x0:ByteArray):Option Bool:=
 value_isName_j2 m x0 (ByteArray.size x0:Int) 0
noncomputable def value_isName_j0 (m:Nat) (x0:ByteArray) (x1:Bool):Option Bool:=
 (bif x1 then
  some false
 else
  value_isName_j1 m x0)
noncomputable def value_isName:Nat→ByteArray→Option Bool
  |0,_=>none
  |m+1,a0=>
   (bif (decide ((ByteArray.size a0:Int)<1)) then
   value_isName_j0 m a0 true
  else
   (bif (decide (32<(ByteArray.size a0:Int))) then
 value_isName_j0 m a0 true
   else
 ((idxS a0 0).bind fun v3=>
 value_isName_j0 m a0 (v3==36))))
noncomputable def value_sound_j10 (m:Nat) (self66:Dt→Option Bool) (self73:List Dt→Option Bool) (rec8:List Dt→Int→Int→Option Bool) (x0:List Dt) (x1 x2:Int):Option Bool:=
 rec8 x0 x1 (IntKind.wrap .i64 (x2+1))
noncomputable def value_sound_j9 (m:Nat) (self66:Dt→Option Bool) (self73:List Dt→Option Bool) (rec8:List Dt→Int→Int→Option Bool) (x0:List Dt) (x1 x2:Int):Option Bool:=
  ((idx x0 x2).bind fun v1=>
    ((self66 v1).bind fun r2=>
 (bif (Bool.not r2) then
 some false
 else
 value_sound_j10 m self66 self73 rec8 x0 x1 x2)))
noncomputable def value_sound_j11 (m:Nat) (self66:Dt→Option Bool) (self73:List Dt→Option Bool):Option Bool:=
 some true
noncomputable def value_sound_l8 (m:Nat) (self66:Dt→Option Bool) (self73:List Dt→Option Bool):Nat→List Dt→Int→Int→Option Bool
 |0,_,_,_=>none
 |M8+1,x0,x1,x2=>
  (bif (decide (x2<x1)) then
  value_sound_j9 m self66 self73 (value_sound_l8 m self66 self73 M8) x0 x1 x2
 else
  value_sound_j11 m self66 self73)
noncomputable def value_sound_j7 (m:Nat) (self66:Dt→Option Bool) (self73:List Dt→Option Bool) (x0:List Dt) (x1 x2:Int):Option Bool:=
 value_sound_l8 m self66 self73 (Nat.succ m) x0 x1 x2
noncomputable def value_sound_j12 (m:Nat) (self66:Dt→Option Bool) (self73:List Dt→Option Bool):Option Bool:=
 some false
noncomputable def value_sound_j6 (m:Nat) (self66:Dt→Option Bool) (self73:List Dt→Option Bool) (x0:Int) (x1:Bool) (x2:Dt):Option Bool:=
  (bif x1 then
   some true
  else
   (bif (x0==9) then
 (bif ((Dt.I x2 1)==0) then
 some true
 else
 some ((Dt.I x2 1)==1))
   else
 (bif (x0==10) then
 some (decide (0≤(Dt.I x2 1)))
 else
 (bif (x0==4) then
 (bif (decide ((ByteArray.size (Dt.S x2 2):Int)≤4096)) then
 ((utf8_ValidString (Dt.S x2 2)).bind fun r0=>
 some r0)
 else
 some false)
 else
 (bif (x0==7) then
 some (decide ((ByteArray.size (Dt.S x2 2):Int)≤4096))
 else
 (bif (x0==8) then
 some ((ByteArray.size (Dt.S x2 2):Int)==12)
 else
 (bif (x0==6) then
 value_sound_j7 m self66 self73 (Dt.L x2 3) (List.length (Dt.L x2 3):Int) 0
 else
 (bif (x0==5) then
 ((self73 (Dt.L x2 4)).bind fun r3=>
 some r3)
 else
 value_sound_j12 m self66 self73))))))))
noncomputable def value_sound_j5 (m:Nat) (self66:Dt→Option Bool) (self73:List Dt→Option Bool) (x0:Dt):Option Bool:=
  (bif ((Dt.I x0 0)==1) then
   value_sound_j6 m self66 self73 (Dt.I x0 0) ((Dt.I x0 0)==1) x0
  else
   (bif ((Dt.I x0 0)==2) then
 value_sound_j6 m self66 self73 (Dt.I x0 0) ((Dt.I x0 0)==2) x0
   else
 (bif ((Dt.I x0 0)==11) then
 value_sound_j6 m self66 self73 (Dt.I x0 0) ((Dt.I x0 0)==11) x0
 else
 value_sound_j6 m self66 self73 (Dt.I x0 0) ((Dt.I x0 0)==3) x0)))
noncomputable def value_sound_j4 (m:Nat) (self66:Dt→Option Bool) (self73:List Dt→Option Bool) (x0:Bool) (x1:Dt):Option Bool:=
 (bif x0 then
  some false
 else
  value_sound_j5 m self66 self73 x1)
noncomputable def value_sound_j3 (m:Nat) (self66:Dt→Option Bool) (self73:List Dt→Option Bool) (x0:Dt):Option Bool:=
  (bif ((Dt.I x0 0) !=6) then
   (bif (decide (0<(List.length (Dt.L x0 3):Int))) then
 value_sound_j4 m self66 self73 true x0
   else
 (bif ((Dt.I x0 0) !=5) then
 value_sound_j4 m self66 self73 (decide (0<(List.length (Dt.L x0 4):Int))) x0
 else
 value_sound_j4 m self66 self73 false x0))
  else
   (bif ((Dt.I x0 0) !=5) then
 value_sound_j4 m self66 self73 (decide (0<(List.length (Dt.L x0 4):Int))) x0
   else
 value_sound_j4 m self66 self73 false x0))
noncomputable def value_sound_j2 (m:Nat) (self66:Dt→Option Bool) (self73:List Dt→Option Bool) (x0:Bool) (x1:Dt):Option Bool:=
 (bif x0 then
  some false
 else
  value_sound_j3 m self66 self73 x1)
noncomputable def value_sound_j1 (m:Nat) (self66:Dt→Option Bool) (self73:List Dt→Option Bool) (x0 x1:Bool) (x2:Dt):Option Bool:=
  (bif (Bool.not x0) then
   (bif ((Dt.I x2 1) !=0) then
 value_sound_j2 m self66 self73 true x2
   else
 (bif (Bool.not x1) then
 value_sound_j2 m self66 self73 (Bool.not ((ByteArray.toList (Dt.S x2 2))==[])) x2
 else
 value_sound_j2 m self66 self73 false x2))
  else
   (bif (Bool.not x1) then
 value_sound_j2 m self66 self73 (Bool.not ((ByteArray.toList (Dt.S x2 2))==[])) x2
   else
 value_sound_j2 m self66 self73 false x2))
noncomputable def value_sound_j0 (m:Nat) (self66:Dt→Option Bool) (self73:List Dt→Option Bool) (x0:Bool) (x1:Dt):Option Bool:=
  (bif ((Dt.I x1 0)==4) then
   value_sound_j1 m self66 self73 x0 true x1
  else
   (bif ((Dt.I x1 0)==7) then
 value_sound_j1 m self66 self73 x0 true x1
   else
 value_sound_j1 m self66 self73 x0 ((Dt.I x1 0)==8) x1))
noncomputable def value_soundFields_j5 (m:Nat) (self66:Dt→Option Bool) (rec1:List Dt→Int→Int→List Dt→Option Bool) (x0:List Dt) (x1 x2:Int) (x3:List Dt):Option Bool:=
 rec1 x0 x1 (IntKind.wrap .i64 (x2+1)) x3
noncomputable def value_soundFields_j4 (m:Nat) (self66:Dt→Option Bool) (rec1:List Dt→Int→Int→List Dt→Option Bool) (x0:List Dt) (x1 x2:Int) (x3:List Dt) (x4:Dt):Option Bool:=
 value_soundFields_j5 m self66 rec1 x0 x1 x2 (mput x3 (Dt.S x4 0) (Dt.bool true))
noncomputable def value_soundFields_j3 (m:Nat) (self66:Dt→Option Bool) (rec1:List Dt→Int→Int→List Dt→Option Bool) (x0:List Dt) (x1 x2:Int) (x3:Bool) (x4:List Dt) (x5:Dt):Option Bool:=
 (bif x3 then
  some false
 else
  value_soundFields_j4 m self66 rec1 x0 x1 x2 x4 x5)
noncomputable def value_soundFields_j2 (m:Nat) (self66:Dt→Option Bool) (rec1:List Dt→Int→Int→List Dt→Option Bool) (x0:List Dt) (x1 x2:Int) (x3:List Dt):Option Bool:=
  ((idx x0 x2).bind fun v0=>
    ((value_isName m (Dt.S v0 0)).bind fun r1=>
 (bif (Bool.not r1) then
 value_soundFields_j3 m self66 rec1 x0 x1 x2 true x3 v0
 else
 (bif (Dt.toBool (mgetD x3 (Dt.S v0 0) (Dt.bool false))) then
 value_soundFields_j3 m self66 rec1 x0 x1 x2 true x3 v0
 else
 ((self66 (Dt.fld v0 1)).bind fun r2=>
 value_soundFields_j3 m self66 rec1 x0 x1 x2 (Bool.not r2) x3 v0)))))
noncomputable def value_soundFields_j6 (m:Nat) (self66:Dt→Option Bool):Option Bool:=
 some true
noncomputable def value_soundFields_l1 (m:Nat) (self66:Dt→Option Bool):Nat→List Dt→Int→Int→List Dt→Option Bool
 |0,_,_,_,_=>none
 |M1+1,x0,x1,x2,x3=>
  (bif (decide (x2<x1)) then
  value_soundFields_j2 m self66 (value_soundFields_l1 m self66 M1) x0 x1 x2 x3
 else
  value_soundFields_j6 m self66)
noncomputable def value_soundFields_j0 (m:Nat) (self66:Dt→Option Bool) (x0:List Dt) (x1 x2:Int) (x3:List Dt):Option Bool:=
 value_soundFields_l1 m self66 (Nat.succ m) x0 x1 x2 x3
mutual
noncomputable def value_sound:Nat→Dt→Option Bool
  |0,_=>none
  |m+1,a0=>
   (bif ((Dt.I a0 0)==3) then
   value_sound_j0 m (value_sound m) (value_soundFields m) true a0
  else
   (bif ((Dt.I a0 0)==9) then
 value_sound_j0 m (value_sound m) (value_soundFields m) true a0
   else
 value_sound_j0 m (value_sound m) (value_soundFields m) ((Dt.I a0 0)==10) a0))
noncomputable def value_soundFields:Nat→List Dt→Option Bool
 |0,_=>none
 |m+1,a0=>
  value_soundFields_j0 m (value_sound m) a0 (List.length a0:Int) 0 []
end
noncomputable def value_Valid:Nat→Dt→Option Bool
  |0,_=>none
  |m+1,a0=>
   ((value_Nodes m a0).bind fun r0=>
   (bif (decide (r0≤1024)) then
 ((value_Depth m a0).bind fun r1=>
 (bif (decide (r1≤16)) then
 ((value_sound m a0).bind fun r2=>
 some r2)
 else
 some false))
   else
 some false))
noncomputable def schema_bound_j0 (m:Nat) (x0:Dt):Option Bool:=
  (bif ((Dt.I x0 0)==0) then
   (bif ((Dt.I x0 1)==0) then
 (bif ((ByteArray.toList (Dt.S x0 2))==[]) then
 (bif ((List.length (Dt.L x0 3):Int)==0) then
 some ((List.length (Dt.L x0 4):Int)==0)
 else
 some false)
 else
 some false)
   else
 some false)
  else
   some false)
noncomputable def schema_bound:Nat→Bool→Dt→Option Bool
  |0,_,_=>none
  |m+1,a0,a1=>
   (bif a0 then
   ((value_Valid m a1).bind fun r0=>
 some r0)
  else
   schema_bound_j0 m a1)
noncomputable def schema_checkOne_j5 (m:Nat) (rec1:List Dt→Int→Int→Dt→List Dt→Option Int) (x0:List Dt) (x1 x2:Int) (x3:Dt) (x4:List Dt):Option Int:=
 rec1 x0 x1 (IntKind.wrap .i64 (x2+1)) x3 x4
noncomputable def schema_checkOne_j4 (m:Nat) (rec1:List Dt→Int→Int→Dt→List Dt→Option Int) (x0:ByteArray) (x1:List Dt) (x2 x3:Int) (x4:Dt) (x5:List Dt):Option Int:=
 schema_checkOne_j5 m rec1 x1 x2 x3 x4 (mput x5 x0 (Dt.bool true))
noncomputable def schema_checkOne_j3 (m:Nat) (rec1:List Dt→Int→Int→Dt→List Dt→Option Int) (x0:ByteArray) (x1:List Dt) (x2 x3:Int) (x4:Bool) (x5:Dt) (x6:List Dt):Option Int:=
 (bif x4 then
  some 9
 else
  schema_checkOne_j4 m rec1 x0 x1 x2 x3 x5 x6)
noncomputable def schema_checkOne_j2 (m:Nat) (rec1:List Dt→Int→Int→Dt→List Dt→Option Int) (x0:List Dt) (x1 x2:Int) (x3:Dt) (x4:List Dt):Option Int:=
  ((idx x0 x2).bind fun v0=>
    ((schema_isName m (Dt.toStr v0)).bind fun r1=>
 (bif (Bool.not r1) then
 schema_checkOne_j3 m rec1 (Dt.toStr v0) x0 x1 x2 true x3 x4
 else
 schema_checkOne_j3 m rec1 (Dt.toStr v0) x0 x1 x2 (Dt.toBool (mgetD x4 (Dt.toStr v0) (Dt.bool false))) x3 x4)))
noncomputable def schema_checkOne_j12 (m:Nat) (rec8:List Dt→Int→Int→Dt→List Dt→Option Int) (x0:List Dt) (x1 x2:Int) (x3:Dt) (x4:List Dt):Option Int:=
 rec8 x0 x1 (IntKind.wrap .i64 (x2+1)) x3 x4
noncomputable def schema_checkOne_j11 (m:Nat) (rec8:List Dt→Int→Int→Dt→List Dt→Option Int) (x0:List Dt) (x1 x2:Int) (x3:Dt) (x4:List Dt) (x5:Dt):Option Int:=
 schema_checkOne_j12 m rec8 x0 x1 x2 x3 (mput x4 (Dt.S x5 0) (Dt.bool true))
noncomputable def schema_checkOne_j10 (m:Nat) (rec8:List Dt→Int→Int→Dt→List Dt→Option Int) (x0:List Dt) (x1 x2:Int) (x3:Bool) (x4:Dt) (x5:List Dt) (x6:Dt):Option Int:=
 (bif x3 then
  some 9
 else
  schema_checkOne_j11 m rec8 x0 x1 x2 x4 x5 x6)
noncomputable def schema_checkOne_j9 (m:Nat) (rec8:List Dt→Int→Int→Dt→List Dt→Option Int) (x0:List Dt) (x1 x2:Int) (x3:Dt) (x4:List Dt):Option Int:=
  ((idx x0 x2).bind fun v2=>
    ((schema_isName m (Dt.S v2 0)).bind fun r3=>
 (bif (Bool.not r3) then
 schema_checkOne_j10 m rec8 x0 x1 x2 true x3 x4 v2
 else
 schema_checkOne_j10 m rec8 x0 x1 x2 (Dt.toBool (mgetD x4 (Dt.S v2 0) (Dt.bool false))) x3 x4 v2)))
noncomputable def schema_checkOne_j21 (m:Nat) (rec19:List Dt→Int→Int→Option Int) (x0:List Dt) (x1 x2:Int):Option Int:=
 rec19 x0 x1 (IntKind.wrap .i64 (x2+1))
noncomputable def schema_checkOne_j20 (m:Nat) (rec19:List Dt→Int→Int→Option Int) (x0:List Dt) (x1 x2:Int):Option Int:=
  ((idx x0 x2).bind fun v5=>
    ((value_Valid m v5).bind fun r6=>
 (bif (Bool.not r6) then
 some 8
 else
 schema_checkOne_j21 m rec19 x0 x1 x2)))
noncomputable def schema_checkOne_j22 (m:Nat):Option Int:=
 some 0
noncomputable def schema_checkOne_l19 (m:Nat):Nat→List Dt→Int→Int→Option Int
 |0,_,_,_=>none
 |M19+1,x0,x1,x2=>
  (bif (decide (x2<x1)) then
  schema_checkOne_j20 m (schema_checkOne_l19 m M19) x0 x1 x2
 else
  schema_checkOne_j22 m)
noncomputable def schema_checkOne_j18 (m:Nat) (x0:List Dt) (x1 x2:Int):Option Int:=
 schema_checkOne_l19 m (Nat.succ m) x0 x1 x2
noncomputable def schema_checkOne_j17 (m:Nat) (x0:Dt):Option Int:=
 schema_checkOne_j18 m (Dt.L x0 5) (List.length (Dt.L x0 5):Int) 0
noncomputable def schema_checkOne_j16 (m:Nat) (x0:Bool) (x1:Dt):Option Int:=
 (bif x0 then
  some 8
 else
  schema_checkOne_j17 m x1)
noncomputable def schema_checkOne_j15 (m:Nat) (x0:Dt):Option Int:=
  ((schema_bound m (Dt.B x0 1) (Dt.fld x0 2)).bind fun r4=>
    (bif (Bool.not r4) then
 schema_checkOne_j16 m true x0
    else
 ((schema_bound m (Dt.B x0 3) (Dt.fld x0 4)).bind fun r7=>
 schema_checkOne_j16 m (Bool.not r7) x0)))
noncomputable def schema_checkOne_j14 (m:Nat) (x0:Bool) (x1:Dt):Option Int:=
 (bif x0 then
  some 1
 else
  schema_checkOne_j15 m x1)
noncomputable def schema_checkOne_j13 (m:Nat) (x0:Dt):Option Int:=
  (bif ((bicI IntKind.i64 (Dt.I x0 0) 4094) !=0) then
   schema_checkOne_j14 m true x0
  else
   (bif (decide ((Dt.I x0 6)<0)) then
 schema_checkOne_j14 m true x0
   else
 (bif (decide ((Dt.I x0 7)<(-1))) then
 schema_checkOne_j14 m true x0
 else
 schema_checkOne_j14 m (decide (1<(List.length (Dt.L x0 11):Int))) x0)))
noncomputable def schema_checkOne_l8 (m:Nat):Nat→List Dt→Int→Int→Dt→List Dt→Option Int
 |0,_,_,_,_,_=>none
 |M8+1,x0,x1,x2,x3,x4=>
  (bif (decide (x2<x1)) then
  schema_checkOne_j9 m (schema_checkOne_l8 m M8) x0 x1 x2 x3 x4
 else
  schema_checkOne_j13 m x3)
noncomputable def schema_checkOne_j7 (m:Nat) (x0:List Dt) (x1 x2:Int) (x3:Dt) (x4:List Dt):Option Int:=
 schema_checkOne_l8 m (Nat.succ m) x0 x1 x2 x3 x4
noncomputable def schema_checkOne_j6 (m:Nat) (x0:Dt):Option Int:=
 schema_checkOne_j7 m (Dt.L x0 9) (List.length (Dt.L x0 9):Int) 0 x0 []
noncomputable def schema_checkOne_l1 (m:Nat):Nat→List Dt→Int→Int→Dt→List Dt→Option Int
 |0,_,_,_,_,_=>none
 |M1+1,x0,x1,x2,x3,x4=>
  (bif (decide (x2<x1)) then
  schema_checkOne_j2 m (schema_checkOne_l1 m M1) x0 x1 x2 x3 x4
 else
  schema_checkOne_j6 m x3)
noncomputable def schema_checkOne_j0 (m:Nat) (x0:List Dt) (x1 x2:Int) (x3:Dt) (x4:List Dt):Option Int:=
 schema_checkOne_l1 m (Nat.succ m) x0 x1 x2 x3 x4
noncomputable def schema_checkOne:Nat→Dt→Option Int
 |0,_=>none
 |m+1,a0=>
  schema_checkOne_j0 m (Dt.L a0 8) (List.length (Dt.L a0 8):Int) 0 a0 []
noncomputable def i32_j6 (m:Nat) (self32:Dt→Int→Int→Option (Int×Int)) (rec4:Int→List Dt→Int→Int→Int→Dt→Option (Int×Int)) (x0:Int) (x1:List Dt) (x2 x3 x4:Int) (x5:Dt):Option (Int×Int):=
 rec4 x0 x1 x2 (IntKind.wrap .i64 (x3+1)) x4 x5
noncomputable def i32_j5 (m:Nat) (self32:Dt→Int→Int→Option (Int×Int)) (rec4:Int→List Dt→Int→Int→Int→Dt→Option (Int×Int)) (x0:Int) (x1:List Dt) (x2 x3 x4:Int) (x5:Dt):Option (Int×Int):=
  ((idx x1 x3).bind fun v1=>
    ((self32 (Dt.fld v1 1) (IntKind.wrap .i64 (x0+1)) x4).bind fun r2=>
 (bif (r2.1 !=0) then
 some (r2.1,r2.2)
 else
 i32_j6 m self32 rec4 x0 x1 x2 x3 r2.2 x5)))
noncomputable def i32_j11 (m:Nat) (self32:Dt→Int→Int→Option (Int×Int)) (rec9:Int→List Dt→Int→Int→Int→Option (Int×Int)) (x0:Int) (x1:List Dt) (x2 x3 x4:Int):Option (Int×Int):=
 rec9 x0 x1 x2 (IntKind.wrap .i64 (x3+1)) x4
noncomputable def i32_j10 (m:Nat) (self32:Dt→Int→Int→Option (Int×Int)) (rec9:Int→List Dt→Int→Int→Int→Option (Int×Int)) (x0:Int) (x1:List Dt) (x2 x3 x4:Int):Option (Int×Int):=
  ((idx x1 x3).bind fun v3=>
    ((self32 v3 (IntKind.wrap .i64 (x0+1)) x4).bind fun r4=>
 (bif (r4.1 !=0) then
 some (r4.1,r4.2)
 else
 i32_j11 m self32 rec9 x0 x1 x2 x3 r4.2)))
noncomputable def i32_j12 (m:Nat) (self32:Dt→Int→Int→Option (Int×Int)) (x0:Int):Option (Int×Int):=
 some (0,x0)
noncomputable def i32_l9 (m:Nat) (self32:Dt→Int→Int→Option (Int×Int)):Nat→Int→List Dt→Int→Int→Int→Option (Int×Int)
 |0,_,_,_,_,_=>none
 |M9+1,x0,x1,x2,x3,x4=>
  (bif (decide (x3<x2)) then
  i32_j10 m self32 (i32_l9 m self32 M9) x0 x1 x2 x3 x4
 else
  i32_j12 m self32 x4)
noncomputable def i32_j8 (m:Nat) (self32:Dt→Int→Int→Option (Int×Int)) (x0:Int) (x1:List Dt) (x2 x3 x4:Int):Option (Int×Int):=
 i32_l9 m self32 (Nat.succ m) x0 x1 x2 x3 x4
noncomputable def i32_j7 (m:Nat) (self32:Dt→Int→Int→Option (Int×Int)) (x0 x1:Int) (x2:Dt):Option (Int×Int):=
 i32_j8 m self32 x0 (Dt.L x2 11) (List.length (Dt.L x2 11):Int) 0 x1
noncomputable def i32_l4 (m:Nat) (self32:Dt→Int→Int→Option (Int×Int)):Nat→Int→List Dt→Int→Int→Int→Dt→Option (Int×Int)
 |0,_,_,_,_,_,_=>none
 |M4+1,x0,x1,x2,x3,x4,x5=>
  (bif (decide (x3<x2)) then
  i32_j5 m self32 (i32_l4 m self32 M4) x0 x1 x2 x3 x4 x5
 else
  i32_j7 m self32 x0 x4 x5)
noncomputable def i32_j3 (m:Nat) (self32:Dt→Int→Int→Option (Int×Int)) (x0:Int) (x1:List Dt) (x2 x3 x4:Int) (x5:Dt):Option (Int×Int):=
 i32_l4 m self32 (Nat.succ m) x0 x1 x2 x3 x4 x5
noncomputable def i32_j2 (m:Nat) (self32:Dt→Int→Int→Option (Int×Int)) (x0 x1:Int) (x2:Dt):Option (Int×Int):=
 i32_j3 m self32 x0 (Dt.L x2 9) (List.length (Dt.L x2 9):Int) 0 x1 x2
noncomputable def i32_j1 (m:Nat) (self32:Dt→Int→Int→Option (Int×Int)) (x0 x1:Int) (x2:Dt):Option (Int×Int):=
  ((schema_checkOne m x2).bind fun r0=>
    (bif (r0 !=0) then
 some (r0,(IntKind.wrap .i64 (x1+1)))
    else
 i32_j2 m self32 x0 (IntKind.wrap .i64 (x1+1)) x2))
noncomputable def i32_j0 (m:Nat) (self32:Dt→Int→Int→Option (Int×Int)) (x0:Int) (x1:Bool) (x2:Int) (x3:Dt):Option (Int×Int):=
 (bif x1 then
  some (2,x2)
 else
  i32_j1 m self32 x0 x2 x3)
noncomputable def i32:Nat→Dt→Int→Int→Option (Int×Int)
 |0,_,_,_=>none
 |m+1,a0,a1,a2=>
  (bif (decide (16<a1)) then
  i32_j0 m (i32 m) a1 true a2 a0
 else
  i32_j0 m (i32 m) a1 (a2==64) a2 a0)
noncomputable def schema_Valid:Nat→Dt→Option Int
 |0,_=>none
 |m+1,a0=>
  ((i32 m a0 1 0).bind fun r0=>
  some r0.1)
noncomputable def schema_Check_j0 (m:Nat) (x0 x1:Dt):Option (List Dt):=
 ((i12 m x0 x1 [] []).bind fun r1=>
   some r1)
noncomputable def schema_Check:Nat→Dt→Dt→Option (List Dt)
  |0,_,_=>none
  |m+1,a0,a1=>
   ((schema_Valid m a0).bind fun r0=>
   (bif (r0 !=0) then
 some []
   else
 schema_Check_j0 m a0 a1))
noncomputable def schema_Admit_j5 (m:Nat):Option (Int×List Dt):=
 some (17,[])
noncomputable def schema_Admit_j4 (m:Nat) (x0:List Dt) (x1:Dt):Option (Int×List Dt):=
 (bif ((Dt.I x1 4)==1) then
  some (0,x0)
 else
  schema_Admit_j5 m)
noncomputable def schema_Admit_j3 (m:Nat) (x0:List Dt) (x1:Bool) (x2:Dt):Option (Int×List Dt):=
 (bif x1 then
  some (0,[])
 else
  schema_Admit_j4 m x0 x2)
noncomputable def schema_Admit_j2 (m:Nat) (x0:List Dt) (x1 x2:Dt):Option (Int×List Dt):=
  (bif ((Dt.I x1 3)==1) then
   (bif ((Dt.I x2 0)==5) then
 ((schema_Check m (Dt.fld x1 2) x2).bind fun r1=>
 schema_Admit_j3 m x0 (decide (0<(List.length r1:Int))) x1)
   else
 schema_Admit_j3 m x0 false x1)
  else
   schema_Admit_j3 m x0 false x1)
noncomputable def schema_Admit_j1 (m:Nat) (x0 x1 x2:Dt):Option (Int×List Dt):=
  ((schema_Check m (Dt.fld x0 2) x2).bind fun r0=>
    (bif ((List.length r0:Int)==0) then
 some (0,[])
    else
 schema_Admit_j2 m r0 x0 x1))
noncomputable def schema_Admit_j0 (m:Nat) (x0:Bool) (x1 x2 x3:Dt):Option (Int×List Dt):=
 (bif x0 then
  some (0,[])
 else
  schema_Admit_j1 m x1 x2 x3)
noncomputable def schema_Admit:Nat→Dt→Dt→Dt→Option (Int×List Dt)
 |0,_,_,_=>none
 |m+1,a0,a1,a2=>
  (bif ((Dt.I a0 3) !=1) then
  schema_Admit_j0 m ((Dt.I a0 3) !=2) a0 a1 a2
 else
  schema_Admit_j0 m false a0 a1 a2)
noncomputable def ref01_Parts_j3 (m:Nat) (rec1:Int→Dt→List Dt→Option (List Dt)) (x0:Int) (x1:Dt) (x2:List Dt):Option (List Dt):=
 rec1 (IntKind.wrap .i64 (x0+1)) x1 x2
noncomputable def ref01_Parts_j2 (m:Nat) (rec1:Int→Dt→List Dt→Option (List Dt)) (x0:Int) (x1:Dt) (x2:List Dt):Option (List Dt):=
  ((idx (Dt.L x1 3) x0).bind fun v0=>
    ((app x2 [v0]).bind fun v1=>
 ref01_Parts_j3 m rec1 x0 x1 v1))
noncomputable def ref01_Parts_j8 (m:Nat) (rec6:Int→Dt→List Dt→Option (List Dt)) (x0:Int) (x1:Dt) (x2:List Dt):Option (List Dt):=
 rec6 (IntKind.wrap .i64 (x0+1)) x1 x2
noncomputable def ref01_Parts_j7 (m:Nat) (rec6:Int→Dt→List Dt→Option (List Dt)) (x0:Int) (x1:Dt) (x2:List Dt):Option (List Dt):=
  ((idx (Dt.L x1 4) x0).bind fun v2=>
    ((app x2 [(Dt.fld v2 1)]).bind fun v3=>
 ref01_Parts_j8 m rec6 x0 x1 v3))
noncomputable def ref01_Parts_j9 (m:Nat) (x0:List Dt):Option (List Dt):=
 some x0
noncomputable def ref01_Parts_l6 (m:Nat):Nat→Int→Dt→List Dt→Option (List Dt)
 |0,_,_,_=>none
 |M6+1,x0,x1,x2=>
  (bif (decide (x0<(List.length (Dt.L x1 4):Int))) then
  ref01_Parts_j7 m (ref01_Parts_l6 m M6) x0 x1 x2
 else
  ref01_Parts_j9 m x2)
noncomputable def ref01_Parts_j5 (m:Nat) (x0:Int) (x1:Dt) (x2:List Dt):Option (List Dt):=
 ref01_Parts_l6 m (Nat.succ m) x0 x1 x2
noncomputable def ref01_Parts_j4 (m:Nat) (x0:Dt) (x1:List Dt):Option (List Dt):=
 (bif ((Dt.I x0 0)==5) then
  ref01_Parts_j5 m 0 x0 x1
 else
  ref01_Parts_j9 m x1)
noncomputable def ref01_Parts_l1 (m:Nat):Nat→Int→Dt→List Dt→Option (List Dt)
 |0,_,_,_=>none
 |M1+1,x0,x1,x2=>
  (bif (decide (x0<(List.length (Dt.L x1 3):Int))) then
  ref01_Parts_j2 m (ref01_Parts_l1 m M1) x0 x1 x2
 else
  ref01_Parts_j4 m x1 x2)
noncomputable def ref01_Parts_j0 (m:Nat) (x0:Int) (x1:Dt) (x2:List Dt):Option (List Dt):=
 ref01_Parts_l1 m (Nat.succ m) x0 x1 x2
noncomputable def ref01_Parts:Nat→Dt→Option (List Dt)
 |0,_=>none
 |m+1,a0=>
  (bif ((Dt.I a0 0)==6) then
  ref01_Parts_j0 m 0 a0 []
 else
  ref01_Parts_j4 m a0 [])
noncomputable def ref01_levels_j5 (m:Nat) (self84:Dt→Int→Option Int) (rec3:Int→List Dt→Int→Int→Option Int) (x0:Int) (x1:List Dt) (x2 x3:Int):Option Int:=
 rec3 x0 x1 x2 (IntKind.wrap .i64 (x3+1))
noncomputable def ref01_levels_j4 (m:Nat) (self84:Dt→Int→Option Int) (rec3:Int→List Dt→Int→Int→Option Int) (x0:Int) (x1:List Dt) (x2 x3:Int):Option Int:=
  ((idx x1 x3).bind fun v1=>
    ((self84 v1 (IntKind.wrap .i64 (x0-1))).bind fun r2=>
 ref01_levels_j5 m self84 rec3 x0 x1 (bif (decide (x2<r2)) then r2 else x2) x3))
noncomputable def ref01_levels_j6 (m:Nat) (self84:Dt→Int→Option Int) (x0:Int):Option Int:=
 some (IntKind.wrap .i64 (x0+1))
noncomputable def ref01_levels_l3 (m:Nat) (self84:Dt→Int→Option Int):Nat→Int→List Dt→Int→Int→Option Int
 |0,_,_,_,_=>none
 |M3+1,x0,x1,x2,x3=>
  (bif (decide (x3<(List.length x1:Int))) then
  ref01_levels_j4 m self84 (ref01_levels_l3 m self84 M3) x0 x1 x2 x3
 else
  ref01_levels_j6 m self84 x2)
noncomputable def ref01_levels_j2 (m:Nat) (self84:Dt→Int→Option Int) (x0:Int) (x1:List Dt) (x2 x3:Int):Option Int:=
 ref01_levels_l3 m self84 (Nat.succ m) x0 x1 x2 x3
noncomputable def ref01_levels_j1 (m:Nat) (self84:Dt→Int→Option Int) (x0:Int) (x1:List Dt):Option Int:=
 ref01_levels_j2 m self84 x0 x1 0 0
noncomputable def ref01_levels_j0 (m:Nat) (self84:Dt→Int→Option Int) (x0:Int) (x1:List Dt) (x2:Bool):Option Int:=
 (bif x2 then
  some 1
 else
  ref01_levels_j1 m self84 x0 x1)
noncomputable def ref01_levels:Nat→Dt→Int→Option Int
  |0,_,_=>none
  |m+1,a0,a1=>
   ((ref01_Parts m a0).bind fun r0=>
   (bif (decide (a1<2)) then
 ref01_levels_j0 m (ref01_levels m) a1 r0 true
   else
 ref01_levels_j0 m (ref01_levels m) a1 r0 ((List.length r0:Int)==0)))
noncomputable def ref01_Depth:Nat→Dt→Option Int
 |0,_=>none
 |m+1,a0=>
  ((ref01_levels m a0 17).bind fun r0=>
  some r0)
noncomputable def ref01_count_j3 (m:Nat) (self85:Dt→Int→Option Int) (rec1:Int→Int→List Dt→Int→Option Int) (x0 x1:Int) (x2:List Dt) (x3:Int):Option Int:=
 rec1 x0 x1 x2 (IntKind.wrap .i64 (x3+1))
noncomputable def ref01_count_j2 (m:Nat) (self85:Dt→Int→Option Int) (rec1:Int→Int→List Dt→Int→Option Int) (x0 x1:Int) (x2:List Dt) (x3:Int):Option Int:=
  ((idx x2 x3).bind fun v1=>
    ((self85 v1 (IntKind.wrap .i64 (x0-x1))).bind fun r2=>
 ref01_count_j3 m self85 rec1 x0 (IntKind.wrap .i64 (x1+r2)) x2 x3))
noncomputable def ref01_count_j4 (m:Nat) (self85:Dt→Int→Option Int) (x0:Int):Option Int:=
 some x0
noncomputable def ref01_count_l1 (m:Nat) (self85:Dt→Int→Option Int):Nat→Int→Int→List Dt→Int→Option Int
  |0,_,_,_,_=>none
  |M1+1,x0,x1,x2,x3=>
   (bif (decide (x3<(List.length x2:Int))) then
   (bif (decide (x1<x0)) then
 ref01_count_j2 m self85 (ref01_count_l1 m self85 M1) x0 x1 x2 x3
   else
 ref01_count_j4 m self85 x1)
  else
   ref01_count_j4 m self85 x1)
noncomputable def ref01_count_j0 (m:Nat) (self85:Dt→Int→Option Int) (x0 x1:Int) (x2:List Dt) (x3:Int):Option Int:=
 ref01_count_l1 m self85 (Nat.succ m) x0 x1 x2 x3
noncomputable def ref01_count:Nat→Dt→Int→Option Int
 |0,_,_=>none
 |m+1,a0,a1=>
  ((ref01_Parts m a0).bind fun r0=>
  ref01_count_j0 m (ref01_count m) a1 1 r0 0)
noncomputable def ref01_Nodes:Nat→Dt→Option Int
 |0,_=>none
 |m+1,a0=>
  ((ref01_count m a0 1025).bind fun r0=>
  some r0)
noncomputable def ref01_tail_j5 (m:Nat) (rec2:ByteArray→Int→Int→Int→Option Bool) (x0:ByteArray) (x1 x2 x3:Int):Option Bool:=
 rec2 x0 x1 x2 (IntKind.wrap .i64 (x3+1))
noncomputable def ref01_tail_j4 (m:Nat) (rec2:ByteArray→Int→Int→Int→Option Bool) (x0:ByteArray) (x1 x2 x3:Int) (x4:Bool):Option Bool:=
 (bif x4 then
  some false
 else
  ref01_tail_j5 m rec2 x0 x1 x2 x3)
noncomputable def ref01_tail_j3 (m:Nat) (rec2:ByteArray→Int→Int→Int→Option Bool) (x0:ByteArray) (x1 x2 x3:Int):Option Bool:=
  ((idxS x0 (IntKind.wrap .i64 (x1+x3))).bind fun v0=>
    (bif (decide (v0<128)) then
 ref01_tail_j4 m rec2 x0 x1 x2 x3 true
    else
 ((idxS x0 (IntKind.wrap .i64 (x1+x3))).bind fun v1=>
 ref01_tail_j4 m rec2 x0 x1 x2 x3 (decide (191<v1)))))
noncomputable def ref01_tail_j6 (m:Nat):Option Bool:=
 some true
noncomputable def ref01_tail_l2 (m:Nat):Nat→ByteArray→Int→Int→Int→Option Bool
 |0,_,_,_,_=>none
 |M2+1,x0,x1,x2,x3=>
  (bif (decide (x3<x2)) then
  ref01_tail_j3 m (ref01_tail_l2 m M2) x0 x1 x2 x3
 else
  ref01_tail_j6 m)
noncomputable def ref01_tail_j1 (m:Nat) (x0:ByteArray) (x1 x2 x3:Int):Option Bool:=
 ref01_tail_l2 m (Nat.succ m) x0 x1 x2 x3
noncomputable def ref01_tail_j0 (m:Nat) (x0:ByteArray) (x1 x2:Int):Option Bool:=
 ref01_tail_j1 m x0 x1 x2 0
noncomputable def ref01_tail:Nat→ByteArray→Int→Int→Option Bool
 |0,_,_,_=>none
 |m+1,a0,a1,a2=>
  (bif (decide ((ByteArray.size a0:Int)<(IntKind.wrap .i64 (a1+a2)))) then
  some false
 else
  ref01_tail_j0 m a0 a1 a2)
noncomputable def ref01_UTF8_j6 (m:Nat) (rec1:ByteArray→Int→Option Bool) (x0:ByteArray) (x1 x2:Int):Option Bool:=
 rec1 x0 (IntKind.wrap .i64 ((IntKind.wrap .i64 (x1+x2))+1))
noncomputable def ref01_UTF8_j5 (m:Nat) (rec1:ByteArray→Int→Option Bool) (x0:ByteArray) (x1 x2:Int) (x3:Bool):Option Bool:=
 (bif x3 then
  some false
 else
  ref01_UTF8_j6 m rec1 x0 x1 x2)
noncomputable def ref01_UTF8_j4 (m:Nat) (rec1:ByteArray→Int→Option Bool) (x0:ByteArray) (x1 x2 x3:Int):Option Bool:=
  (bif (x2==224) then
   ((idxS x0 (IntKind.wrap .i64 (x1+1))).bind fun v2=>
 (bif (decide (v2<160)) then
 ref01_UTF8_j5 m rec1 x0 x1 x3 true
 else
 (bif (x2==237) then
 ((idxS x0 (IntKind.wrap .i64 (x1+1))).bind fun v3=>
 (bif (decide (159<v3)) then
 ref01_UTF8_j5 m rec1 x0 x1 x3 true
 else
 (bif (x2==240) then
 ((idxS x0 (IntKind.wrap .i64 (x1+1))).bind fun v4=>
 (bif (decide (v4<144)) then
 ref01_UTF8_j5 m rec1 x0 x1 x3 true
 else
 (bif (x2==244) then
 ((idxS x0 (IntKind.wrap .i64 (x1+1))).bind fun v5=>
 ref01_UTF8_j5 m rec1 x0 x1 x3 (decide (143<v5)))
 else
 ref01_UTF8_j5 m rec1 x0 x1 x3 false)))
 else
 (bif (x2==244) then
 ((idxS x0 (IntKind.wrap .i64 (x1+1))).bind fun v6=>
 ref01_UTF8_j5 m rec1 x0 x1 x3 (decide (143<v6)))
 else
 ref01_UTF8_j5 m rec1 x0 x1 x3 false))))
 else
 (bif (x2==240) then
 ((idxS x0 (IntKind.wrap .i64 (x1+1))).bind fun v7=>
 (bif (decide (v7<144)) then
 ref01_UTF8_j5 m rec1 x0 x1 x3 true
 else
 (bif (x2==244) then
 ((idxS x0 (IntKind.wrap .i64 (x1+1))).bind fun v8=>
 ref01_UTF8_j5 m rec1 x0 x1 x3 (decide (143<v8)))
 else
 ref01_UTF8_j5 m rec1 x0 x1 x3 false)))
 else
 (bif (x2==244) then
 ((idxS x0 (IntKind.wrap .i64 (x1+1))).bind fun v9=>
 ref01_UTF8_j5 m rec1 x0 x1 x3 (decide (143<v9)))
 else
 ref01_UTF8_j5 m rec1 x0 x1 x3 false)))))
  else
   (bif (x2==237) then
 ((idxS x0 (IntKind.wrap .i64 (x1+1))).bind fun v10=>
 (bif (decide (159<v10)) then
 ref01_UTF8_j5 m rec1 x0 x1 x3 true
 else
 (bif (x2==240) then
 ((idxS x0 (IntKind.wrap .i64 (x1+1))).bind fun v11=>
 (bif (decide (v11<144)) then
 ref01_UTF8_j5 m rec1 x0 x1 x3 true
 else
 (bif (x2==244) then
 ((idxS x0 (IntKind.wrap .i64 (x1+1))).bind fun v12=>
 ref01_UTF8_j5 m rec1 x0 x1 x3 (decide (143<v12)))
 else
 ref01_UTF8_j5 m rec1 x0 x1 x3 false)))
 else
 (bif (x2==244) then
 ((idxS x0 (IntKind.wrap .i64 (x1+1))).bind fun v13=>
 ref01_UTF8_j5 m rec1 x0 x1 x3 (decide (143<v13)))
 else
 ref01_UTF8_j5 m rec1 x0 x1 x3 false))))
   else
 (bif (x2==240) then
 ((idxS x0 (IntKind.wrap .i64 (x1+1))).bind fun v14=>
 (bif (decide (v14<144)) then
 ref01_UTF8_j5 m rec1 x0 x1 x3 true
 else
 (bif (x2==244) then
 ((idxS x0 (IntKind.wrap .i64 (x1+1))).bind fun v15=>
 ref01_UTF8_j5 m rec1 x0 x1 x3 (decide (143<v15)))
 else
 ref01_UTF8_j5 m rec1 x0 x1 x3 false)))
 else
 (bif (x2==244) then
 ((idxS x0 (IntKind.wrap .i64 (x1+1))).bind fun v16=>
 ref01_UTF8_j5 m rec1 x0 x1 x3 (decide (143<v16)))
 else
 ref01_UTF8_j5 m rec1 x0 x1 x3 false))))
noncomputable def ref01_UTF8_j3 (m:Nat) (rec1:ByteArray→Int→Option Bool) (x0:ByteArray) (x1 x2 x3:Int):Option Bool:=
  ((ref01_tail m x0 (IntKind.wrap .i64 (x1+1)) x3).bind fun r1=>
    (bif (Bool.not r1) then
 some false
    else
 ref01_UTF8_j4 m rec1 x0 x1 x2 x3))
noncomputable def ref01_UTF8_j9 (m:Nat) (rec1:ByteArray→Int→Option Bool) (x0:ByteArray) (x1 x2:Int) (x3:Bool):Option Bool:=
 (bif x3 then
  ref01_UTF8_j3 m rec1 x0 x1 x2 3
 else
  some false)
noncomputable def ref01_UTF8_j8 (m:Nat) (rec1:ByteArray→Int→Option Bool) (x0:ByteArray) (x1 x2:Int) (x3:Bool):Option Bool:=
  (bif x3 then
   ref01_UTF8_j3 m rec1 x0 x1 x2 2
  else
   (bif (decide (240≤x2)) then
 ref01_UTF8_j9 m rec1 x0 x1 x2 (decide (x2≤244))
   else
 ref01_UTF8_j9 m rec1 x0 x1 x2 false))
noncomputable def ref01_UTF8_j7 (m:Nat) (rec1:ByteArray→Int→Option Bool) (x0:ByteArray) (x1 x2:Int) (x3:Bool):Option Bool:=
  (bif x3 then
   ref01_UTF8_j3 m rec1 x0 x1 x2 1
  else
   (bif (decide (224≤x2)) then
 ref01_UTF8_j8 m rec1 x0 x1 x2 (decide (x2≤239))
   else
 ref01_UTF8_j8 m rec1 x0 x1 x2 false))
noncomputable def ref01_UTF8_j2 (m:Nat) (rec1:ByteArray→Int→Option Bool) (x0:ByteArray) (x1:Int):Option Bool:=
  ((idxS x0 x1).bind fun v0=>
    (bif (decide (v0<128)) then
 ref01_UTF8_j3 m rec1 x0 x1 v0 0
    else
 (bif (decide (194≤v0)) then
 ref01_UTF8_j7 m rec1 x0 x1 v0 (decide (v0≤223))
 else
 ref01_UTF8_j7 m rec1 x0 x1 v0 false)))
noncomputable def ref01_UTF8_j10 (m:Nat):Option Bool:=
 some true
noncomputable def ref01_UTF8_l1 (m:Nat):Nat→ByteArray→Int→Option Bool
 |0,_,_=>none
 |M1+1,x0,x1=>
  (bif (decide (x1<(ByteArray.size x0:Int))) then
  ref01_UTF8_j2 m (ref01_UTF8_l1 m M1) x0 x1
 else
  ref01_UTF8_j10 m)
noncomputable def ref01_UTF8_j0 (m:Nat) (x0:ByteArray) (x1:Int):Option Bool:=
 ref01_UTF8_l1 m (Nat.succ m) x0 x1
noncomputable def ref01_UTF8:Nat→ByteArray→Option Bool
 |0,_=>none
 |m+1,a0=>
  ref01_UTF8_j0 m a0 0
noncomputable def ref01_wide_j6 (m:Nat) (rec3:ByteArray→Int→Option Bool) (x0:ByteArray) (x1:Int):Option Bool:=
 rec3 x0 (IntKind.wrap .i64 (x1+1))
noncomputable def ref01_wide_j5 (m:Nat) (rec3:ByteArray→Int→Option Bool) (x0:ByteArray) (x1:Int) (x2:Bool):Option Bool:=
 (bif x2 then
  some false
 else
  ref01_wide_j6 m rec3 x0 x1)
noncomputable def ref01_wide_j4 (m:Nat) (rec3:ByteArray→Int→Option Bool) (x0:ByteArray) (x1:Int):Option Bool:=
  ((idxS x0 x1).bind fun v0=>
    (bif (decide (v0<32)) then
 ref01_wide_j5 m rec3 x0 x1 true
    else
 ((idxS x0 x1).bind fun v1=>
 ref01_wide_j5 m rec3 x0 x1 (decide (126<v1)))))
noncomputable def ref01_wide_j7 (m:Nat):Option Bool:=
 some true
noncomputable def ref01_wide_l3 (m:Nat):Nat→ByteArray→Int→Option Bool
 |0,_,_=>none
 |M3+1,x0,x1=>
  (bif (decide (x1<(ByteArray.size x0:Int))) then
  ref01_wide_j4 m (ref01_wide_l3 m M3) x0 x1
 else
  ref01_wide_j7 m)
noncomputable def ref01_wide_j2 (m:Nat) (x0:ByteArray) (x1:Int):Option Bool:=
 ref01_wide_l3 m (Nat.succ m) x0 x1
noncomputable def ref01_wide_j1 (m:Nat) (x0:ByteArray):Option Bool:=
 ref01_wide_j2 m x0 0
noncomputable def ref01_wide_j0 (m:Nat) (x0:ByteArray) (x1:Bool):Option Bool:=
 (bif x1 then
  some false
 else
  ref01_wide_j1 m x0)
noncomputable def ref01_wide:Nat→ByteArray→Option Bool
 |0,_=>none
 |m+1,a0=>
  (bif (decide ((ByteArray.size a0:Int)<1)) then
  ref01_wide_j0 m a0 true
 else
  ref01_wide_j0 m a0 (decide (128<(ByteArray.size a0:Int))))
noncomputable def ref01_formed_j10 (m:Nat) (self78:Dt→Bool→Option Bool) (self87:Dt→Bool→Option Bool) (rec8:Bool→Int→Dt→Option Bool) (x0:Bool) (x1:Int) (x2:Dt):Option Bool:=
 rec8 x0 (IntKind.wrap .i64 (x1+1)) x2
noncomputable def ref01_formed_j9 (m:Nat) (self78:Dt→Bool→Option Bool) (self87:Dt→Bool→Option Bool) (rec8:Bool→Int→Dt→Option Bool) (x0:Bool) (x1:Int) (x2:Dt):Option Bool:=
  ((idx (Dt.L x2 3) x1).bind fun v1=>
    ((self78 v1 x0).bind fun r2=>
 (bif (Bool.not r2) then
 some false
 else
 ref01_formed_j10 m self78 self87 rec8 x0 x1 x2)))
noncomputable def ref01_formed_j11 (m:Nat) (self78:Dt→Bool→Option Bool) (self87:Dt→Bool→Option Bool) (x0:Bool) (x1:Dt):Option Bool:=
 ((self87 x1 x0).bind fun r3=>
   some r3)
noncomputable def ref01_formed_l8 (m:Nat) (self78:Dt→Bool→Option Bool) (self87:Dt→Bool→Option Bool):Nat→Bool→Int→Dt→Option Bool
 |0,_,_,_=>none
 |M8+1,x0,x1,x2=>
  (bif (decide (x1<(List.length (Dt.L x2 3):Int))) then
  ref01_formed_j9 m self78 self87 (ref01_formed_l8 m self78 self87 M8) x0 x1 x2
 else
  ref01_formed_j11 m self78 self87 x0 x2)
noncomputable def ref01_formed_j7 (m:Nat) (self78:Dt→Bool→Option Bool) (self87:Dt→Bool→Option Bool) (x0:Bool) (x1:Int) (x2:Dt):Option Bool:=
 ref01_formed_l8 m self78 self87 (Nat.succ m) x0 x1 x2
noncomputable def ref01_formed_j6 (m:Nat) (self78:Dt→Bool→Option Bool) (self87:Dt→Bool→Option Bool) (x0:Bool) (x1:Dt):Option Bool:=
 ref01_formed_j7 m self78 self87 x0 0 x1
noncomputable def ref01_formed_j5 (m:Nat) (self78:Dt→Bool→Option Bool) (self87:Dt→Bool→Option Bool) (x0:Bool) (x1:Dt):Option Bool:=
  (bif ((Dt.I x1 0)==9) then
   (bif ((Dt.I x1 1)==0) then
 some true
   else
 some ((Dt.I x1 1)==1))
  else
   (bif ((Dt.I x1 0)==10) then
 some (decide (0≤(Dt.I x1 1)))
   else
 (bif ((Dt.I x1 0)==4) then
 (bif (decide ((ByteArray.size (Dt.S x1 2):Int)≤4096)) then
 ((ref01_UTF8 m (Dt.S x1 2)).bind fun r0=>
 some r0)
 else
 some false)
 else
 (bif ((Dt.I x1 0)==7) then
 some (decide ((ByteArray.size (Dt.S x1 2):Int)≤4096))
 else
 (bif ((Dt.I x1 0)==8) then
 some ((ByteArray.size (Dt.S x1 2):Int)==12)
 else
 ref01_formed_j6 m self78 self87 x0 x1)))))
noncomputable def ref01_formed_j4 (m:Nat) (self78:Dt→Bool→Option Bool) (self87:Dt→Bool→Option Bool) (x0 x1:Bool) (x2:Dt):Option Bool:=
 (bif x1 then
  some false
 else
  ref01_formed_j5 m self78 self87 x0 x2)
noncomputable def ref01_formed_j3 (m:Nat) (self78:Dt→Bool→Option Bool) (self87:Dt→Bool→Option Bool) (x0 x1 x2:Bool) (x3:Dt):Option Bool:=
  (bif (Bool.not x1) then
   (bif (Bool.not ((ByteArray.toList (Dt.S x3 2))==[])) then
 ref01_formed_j4 m self78 self87 x0 true x3
   else
 (bif (Bool.not x2) then
 (bif ((Dt.I x3 1) !=0) then
 ref01_formed_j4 m self78 self87 x0 true x3
 else
 (bif (decide ((Dt.I x3 0)<1)) then
 ref01_formed_j4 m self78 self87 x0 true x3
 else
 ref01_formed_j4 m self78 self87 x0 (decide (11<(Dt.I x3 0))) x3))
 else
 (bif (decide ((Dt.I x3 0)<1)) then
 ref01_formed_j4 m self78 self87 x0 true x3
 else
 ref01_formed_j4 m self78 self87 x0 (decide (11<(Dt.I x3 0))) x3)))
  else
   (bif (Bool.not x2) then
 (bif ((Dt.I x3 1) !=0) then
 ref01_formed_j4 m self78 self87 x0 true x3
 else
 (bif (decide ((Dt.I x3 0)<1)) then
 ref01_formed_j4 m self78 self87 x0 true x3
 else
 ref01_formed_j4 m self78 self87 x0 (decide (11<(Dt.I x3 0))) x3))
   else
 (bif (decide ((Dt.I x3 0)<1)) then
 ref01_formed_j4 m self78 self87 x0 true x3
 else
 ref01_formed_j4 m self78 self87 x0 (decide (11<(Dt.I x3 0))) x3)))
noncomputable def ref01_formed_j2 (m:Nat) (self78:Dt→Bool→Option Bool) (self87:Dt→Bool→Option Bool) (x0 x1:Bool) (x2:Dt):Option Bool:=
  (bif ((Dt.I x2 0)==3) then
   ref01_formed_j3 m self78 self87 x0 x1 true x2
  else
   (bif ((Dt.I x2 0)==9) then
 ref01_formed_j3 m self78 self87 x0 x1 true x2
   else
 ref01_formed_j3 m self78 self87 x0 x1 ((Dt.I x2 0)==10) x2))
noncomputable def ref01_formed_j1 (m:Nat) (self78:Dt→Bool→Option Bool) (self87:Dt→Bool→Option Bool) (x0:Bool) (x1:Dt):Option Bool:=
  (bif ((Dt.I x1 0)==4) then
   ref01_formed_j2 m self78 self87 x0 true x1
  else
   (bif ((Dt.I x1 0)==7) then
 ref01_formed_j2 m self78 self87 x0 true x1
   else
 ref01_formed_j2 m self78 self87 x0 ((Dt.I x1 0)==8) x1))
noncomputable def ref01_formed_j0 (m:Nat) (self78:Dt→Bool→Option Bool) (self87:Dt→Bool→Option Bool) (x0 x1:Bool) (x2:Dt):Option Bool:=
 (bif x1 then
  some false
 else
  ref01_formed_j1 m self78 self87 x0 x2)
noncomputable def ref01_fields_j8 (m:Nat) (self78:Dt→Bool→Option Bool) (rec1:Bool→Int→Dt→Option Bool) (rec6:Bool→Int→Int→Dt→Dt→Option Bool) (x0:Bool) (x1 x2:Int) (x3 x4:Dt):Option Bool:=
 rec6 x0 x1 (IntKind.wrap .i64 (x2+1)) x3 x4
noncomputable def ref01_fields_j7 (m:Nat) (self78:Dt→Bool→Option Bool) (rec1:Bool→Int→Dt→Option Bool) (rec6:Bool→Int→Int→Dt→Dt→Option Bool) (x0:Bool) (x1 x2:Int) (x3 x4:Dt):Option Bool:=
  ((idx (Dt.L x3 4) x2).bind fun v2=>
    (bif ((ByteArray.toList (Dt.S v2 0))==(ByteArray.toList (Dt.S x4 0))) then
 some false
    else
 ref01_fields_j8 m self78 rec1 rec6 x0 x1 x2 x3 x4))
noncomputable def ref01_fields_j9 (m:Nat) (self78:Dt→Bool→Option Bool) (rec1:Bool→Int→Dt→Option Bool) (x0:Bool) (x1:Int) (x2:Dt):Option Bool:=
 rec1 x0 (IntKind.wrap .i64 (x1+1)) x2
noncomputable def ref01_fields_l6 (m:Nat) (self78:Dt→Bool→Option Bool) (rec1:Bool→Int→Dt→Option Bool):Nat→Bool→Int→Int→Dt→Dt→Option Bool
 |0,_,_,_,_,_=>none
 |M6+1,x0,x1,x2,x3,x4=>
  (bif (decide (x2<x1)) then
  ref01_fields_j7 m self78 rec1 (ref01_fields_l6 m self78 rec1 M6) x0 x1 x2 x3 x4
 else
  ref01_fields_j9 m self78 rec1 x0 x1 x3)
noncomputable def ref01_fields_j5 (m:Nat) (self78:Dt→Bool→Option Bool) (rec1:Bool→Int→Dt→Option Bool) (x0:Bool) (x1 x2:Int) (x3 x4:Dt):Option Bool:=
 ref01_fields_l6 m self78 rec1 (Nat.succ m) x0 x1 x2 x3 x4
noncomputable def ref01_fields_j4 (m:Nat) (self78:Dt→Bool→Option Bool) (rec1:Bool→Int→Dt→Option Bool) (x0:Bool) (x1:Int) (x2 x3:Dt):Option Bool:=
 ref01_fields_j5 m self78 rec1 x0 x1 0 x2 x3
noncomputable def ref01_fields_j3 (m:Nat) (self78:Dt→Bool→Option Bool) (rec1:Bool→Int→Dt→Option Bool) (x0:Bool) (x1:Int) (x2:Bool) (x3 x4:Dt):Option Bool:=
 (bif x2 then
  some false
 else
  ref01_fields_j4 m self78 rec1 x0 x1 x3 x4)
noncomputable def ref01_fields_j2 (m:Nat) (self78:Dt→Bool→Option Bool) (rec1:Bool→Int→Dt→Option Bool) (x0:Bool) (x1:Int) (x2:Dt):Option Bool:=
  ((idx (Dt.L x2 4) x1).bind fun v0=>
    (bif x0 then
 ((ref01_Name m (Dt.S v0 0)).bind fun r1=>
 (bif (Bool.not r1) then
 ref01_fields_j3 m self78 rec1 x0 x1 true x2 v0
 else
 (bif (Bool.not x0) then
 ((ref01_wide m (Dt.S v0 0)).bind fun r3=>
 (bif (Bool.not r3) then
 ref01_fields_j3 m self78 rec1 x0 x1 true x2 v0
 else
 ((self78 (Dt.fld v0 1) x0).bind fun r4=>
 ref01_fields_j3 m self78 rec1 x0 x1 (Bool.not r4) x2 v0)))
 else
 ((self78 (Dt.fld v0 1) x0).bind fun r5=>
 ref01_fields_j3 m self78 rec1 x0 x1 (Bool.not r5) x2 v0))))
    else
 (bif (Bool.not x0) then
 ((ref01_wide m (Dt.S v0 0)).bind fun r6=>
 (bif (Bool.not r6) then
 ref01_fields_j3 m self78 rec1 x0 x1 true x2 v0
 else
 ((self78 (Dt.fld v0 1) x0).bind fun r7=>
 ref01_fields_j3 m self78 rec1 x0 x1 (Bool.not r7) x2 v0)))
 else
 ((self78 (Dt.fld v0 1) x0).bind fun r8=>
 ref01_fields_j3 m self78 rec1 x0 x1 (Bool.not r8) x2 v0))))
noncomputable def ref01_fields_j10 (m:Nat) (self78:Dt→Bool→Option Bool):Option Bool:=
 some true
noncomputable def ref01_fields_l1 (m:Nat) (self78:Dt→Bool→Option Bool):Nat→Bool→Int→Dt→Option Bool
 |0,_,_,_=>none
 |M1+1,x0,x1,x2=>
  (bif (decide (x1<(List.length (Dt.L x2 4):Int))) then
  ref01_fields_j2 m self78 (ref01_fields_l1 m self78 M1) x0 x1 x2
 else
  ref01_fields_j10 m self78)
noncomputable def ref01_fields_j0 (m:Nat) (self78:Dt→Bool→Option Bool) (x0:Bool) (x1:Int) (x2:Dt):Option Bool:=
 ref01_fields_l1 m self78 (Nat.succ m) x0 x1 x2
mutual
noncomputable def ref01_formed:Nat→Dt→Bool→Option Bool
  |0,_,_=>none
  |m+1,a0,a1=>
   (bif ((Dt.I a0 0) !=6) then
   (bif (decide (0<(List.length (Dt.L a0 3):Int))) then
 ref01_formed_j0 m (ref01_formed m) (ref01_fields m) a1 true a0
   else
 (bif ((Dt.I a0 0) !=5) then
 ref01_formed_j0 m (ref01_formed m) (ref01_fields m) a1 (decide (0<(List.length (Dt.L a0 4):Int))) a0
 else
 ref01_formed_j0 m (ref01_formed m) (ref01_fields m) a1 false a0))
  else
   (bif ((Dt.I a0 0) !=5) then
 ref01_formed_j0 m (ref01_formed m) (ref01_fields m) a1 (decide (0<(List.length (Dt.L a0 4):Int))) a0
   else
 ref01_formed_j0 m (ref01_formed m) (ref01_fields m) a1 false a0))
noncomputable def ref01_fields:Nat→Dt→Bool→Option Bool
 |0,_,_=>none
 |m+1,a0,a1=>
  ref01_fields_j0 m (ref01_formed m) a1 0 a0
end
noncomputable def ref01_Valid:Nat→Dt→Option Bool
  |0,_=>none
  |m+1,a0=>
   ((ref01_Depth m a0).bind fun r0=>
   (bif (decide (r0≤16)) then
 ((ref01_Nodes m a0).bind fun r1=>
 (bif (decide (r1≤1024)) then
 ((ref01_formed m a0 true).bind fun r2=>
 some r2)
 else
 some false))
   else
 some false))
noncomputable def ref14_unused:Nat→Bool→Dt→Option Bool
  |0,_,_=>none
  |m+1,a0,a1=>
   (bif a0 then
   ((ref01_Valid m a1).bind fun r0=>
 (bif (Bool.not r0) then
 some true
 else
 (bif (Bool.not a0) then
 ((ref01_Same m a1 kza2373).bind fun r1=>
 some (Bool.not r1))
 else
 some false)))
  else
   (bif (Bool.not a0) then
 ((ref01_Same m a1 kza2373).bind fun r2=>
 some (Bool.not r2))
   else
 some false))
noncomputable def ref14_single_j3 (m:Nat) (rec1:Int→Dt→List Dt→Option Int) (x0:Int) (x1:Dt) (x2:List Dt):Option Int:=
 rec1 (IntKind.wrap .i64 (x0+1)) x1 x2
noncomputable def ref14_single_j2 (m:Nat) (rec1:Int→Dt→List Dt→Option Int) (x0:Int) (x1:Dt) (x2:List Dt):Option Int:=
  ((idx (Dt.L x1 9) x0).bind fun v0=>
    ((app x2 [(Dt.str (Dt.S v0 0))]).bind fun v1=>
 ref14_single_j3 m rec1 x0 x1 v1))
noncomputable def ref14_single_j14 (m:Nat) (rec12:Int→Dt→Option Int) (x0:Int) (x1:Dt):Option Int:=
 rec12 (IntKind.wrap .i64 (x0+1)) x1
noncomputable def ref14_single_j13 (m:Nat) (rec12:Int→Dt→Option Int) (x0:Int) (x1:Dt):Option Int:=
  ((idx (Dt.L x1 5) x0).bind fun v4=>
    ((ref01_Valid m v4).bind fun r5=>
 (bif (Bool.not r5) then
 some 8
 else
 ref14_single_j14 m rec12 x0 x1)))
noncomputable def ref14_single_j15 (m:Nat):Option Int:=
 some 0
noncomputable def ref14_single_l12 (m:Nat):Nat→Int→Dt→Option Int
 |0,_,_=>none
 |M12+1,x0,x1=>
  (bif (decide (x0<(List.length (Dt.L x1 5):Int))) then
  ref14_single_j13 m (ref14_single_l12 m M12) x0 x1
 else
  ref14_single_j15 m)
noncomputable def ref14_single_j11 (m:Nat) (x0:Int) (x1:Dt):Option Int:=
 ref14_single_l12 m (Nat.succ m) x0 x1
noncomputable def ref14_single_j10 (m:Nat) (x0:Dt):Option Int:=
 ref14_single_j11 m 0 x0
noncomputable def ref14_single_j9 (m:Nat) (x0:Bool) (x1:Dt):Option Int:=
 (bif x0 then
  some 8
 else
  ref14_single_j10 m x1)
noncomputable def ref14_single_j8 (m:Nat) (x0:Dt):Option Int:=
  ((ref14_unused m (Dt.B x0 1) (Dt.fld x0 2)).bind fun r3=>
    (bif r3 then
 ref14_single_j9 m true x0
    else
 ((ref14_unused m (Dt.B x0 3) (Dt.fld x0 4)).bind fun r6=>
 ref14_single_j9 m r6 x0)))
noncomputable def ref14_single_j7 (m:Nat) (x0:Bool) (x1:Dt):Option Int:=
 (bif x0 then
  some 1
 else
  ref14_single_j8 m x1)
noncomputable def ref14_single_j6 (m:Nat) (x0:Dt):Option Int:=
  (bif (decide ((Dt.I x0 0)<0)) then
   ref14_single_j7 m true x0
  else
   (bif ((Int.tmod (Dt.I x0 0) 2)==1) then
 ref14_single_j7 m true x0
   else
 (bif (decide (4096≤(Dt.I x0 0))) then
 ref14_single_j7 m true x0
 else
 (bif (decide ((Dt.I x0 6)<0)) then
 ref14_single_j7 m true x0
 else
 (bif (decide ((Dt.I x0 7)<(-1))) then
 ref14_single_j7 m true x0
 else
 ref14_single_j7 m (decide (1<(List.length (Dt.L x0 11):Int))) x0)))))
noncomputable def ref14_single_j5 (m:Nat) (x0:Bool) (x1:Dt):Option Int:=
 (bif x0 then
  some 9
 else
  ref14_single_j6 m x1)
noncomputable def ref14_single_j4 (m:Nat) (x0:Dt) (x1:List Dt):Option Int:=
  ((ref14_different m (Dt.L x0 8)).bind fun r2=>
    (bif (Bool.not r2) then
 ref14_single_j5 m true x0
    else
 ((ref14_different m x1).bind fun r7=>
 ref14_single_j5 m (Bool.not r7) x0)))
noncomputable def ref14_single_l1 (m:Nat):Nat→Int→Dt→List Dt→Option Int
 |0,_,_,_=>none
 |M1+1,x0,x1,x2=>
  (bif (decide (x0<(List.length (Dt.L x1 9):Int))) then
  ref14_single_j2 m (ref14_single_l1 m M1) x0 x1 x2
 else
  ref14_single_j4 m x1 x2)
noncomputable def ref14_single_j0 (m:Nat) (x0:Int) (x1:Dt) (x2:List Dt):Option Int:=
 ref14_single_l1 m (Nat.succ m) x0 x1 x2
noncomputable def ref14_single:Nat→Dt→Option Int
 |0,_=>none
 |m+1,a0=>
  ref14_single_j0 m 0 a0 []
noncomputable def ref14_check_j8 (m:Nat) (self44:Dt→Int→Int→Option (Int×Int)) (rec4:Int→Int→Int→Dt→Option (Int×Int)) (x0 x1 x2:Int) (x3:Dt):Option (Int×Int):=
 rec4 x0 x1 (IntKind.wrap .i64 (x2+1)) x3
noncomputable def ref14_check_j7 (m:Nat) (self44:Dt→Int→Int→Option (Int×Int)) (rec4:Int→Int→Int→Dt→Option (Int×Int)) (x0 x1 x2:Int) (x3:Dt):Option (Int×Int):=
 ref14_check_j8 m self44 rec4 x2 x0 x1 x3
noncomputable def ref14_check_j6 (m:Nat) (self44:Dt→Int→Int→Option (Int×Int)) (rec4:Int→Int→Int→Dt→Option (Int×Int)) (x0 x1 x2:Int) (x3 x4:Dt):Option (Int×Int):=
  ((self44 x4 (IntKind.wrap .i64 (x0+1)) (IntKind.wrap .i64 (x1+1))).bind fun r2=>
    (bif (r2.2 !=0) then
 some (r2.1,r2.2)
    else
 ref14_check_j7 m self44 rec4 x1 x2 r2.1 x3))
noncomputable def ref14_check_j5 (m:Nat) (self44:Dt→Int→Int→Option (Int×Int)) (rec4:Int→Int→Int→Dt→Option (Int×Int)) (x0 x1 x2:Int) (x3:Dt):Option (Int×Int):=
  (bif (decide (x2<(List.length (Dt.L x3 9):Int))) then
   ((idx (Dt.L x3 9) x2).bind fun v1=>
 ref14_check_j6 m self44 rec4 x0 x1 x2 x3 (Dt.fld v1 1))
  else
   ((idx (Dt.L x3 11) (IntKind.wrap .i64 (x2-(List.length (Dt.L x3 9):Int)))).bind fun v3=>
 ref14_check_j6 m self44 rec4 x0 x1 x2 x3 v3))
noncomputable def ref14_check_j9 (m:Nat) (self44:Dt→Int→Int→Option (Int×Int)) (x0:Int):Option (Int×Int):=
 some (x0,0)
noncomputable def ref14_check_l4 (m:Nat) (self44:Dt→Int→Int→Option (Int×Int)):Nat→Int→Int→Int→Dt→Option (Int×Int)
 |0,_,_,_,_=>none
 |M4+1,x0,x1,x2,x3=>
  (bif (decide (x2<(IntKind.wrap .i64 ((List.length (Dt.L x3 9):Int)+(List.length (Dt.L x3 11):Int))))) then
  ref14_check_j5 m self44 (ref14_check_l4 m self44 M4) x0 x1 x2 x3
 else
  ref14_check_j9 m self44 x0)
noncomputable def ref14_check_j3 (m:Nat) (self44:Dt→Int→Int→Option (Int×Int)) (x0 x1 x2:Int) (x3:Dt):Option (Int×Int):=
 ref14_check_l4 m self44 (Nat.succ m) x0 x1 x2 x3
noncomputable def ref14_check_j2 (m:Nat) (self44:Dt→Int→Int→Option (Int×Int)) (x0 x1:Int) (x2:Dt):Option (Int×Int):=
 ref14_check_j3 m self44 x0 x1 0 x2
noncomputable def ref14_check_j1 (m:Nat) (self44:Dt→Int→Int→Option (Int×Int)) (x0 x1:Int) (x2:Dt):Option (Int×Int):=
  ((ref14_single m x2).bind fun r0=>
    (bif (r0 !=0) then
 some (x0,r0)
    else
 ref14_check_j2 m self44 x0 x1 x2))
noncomputable def ref14_check_j0 (m:Nat) (self44:Dt→Int→Int→Option (Int×Int)) (x0 x1:Int) (x2:Bool) (x3:Dt):Option (Int×Int):=
 (bif x2 then
  some (x0,2)
 else
  ref14_check_j1 m self44 x0 x1 x3)
noncomputable def ref14_check:Nat→Dt→Int→Int→Option (Int×Int)
 |0,_,_,_=>none
 |m+1,a0,a1,a2=>
  (bif (decide (16<a2)) then
  ref14_check_j0 m (ref14_check m) a1 a2 true a0
 else
  ref14_check_j0 m (ref14_check m) a1 a2 (decide (64<a1)) a0)
noncomputable def ref14_Valid:Nat→Dt→Option Int
 |0,_=>none
 |m+1,a0=>
  ((ref14_check m a0 1 1).bind fun r0=>
  some r0.2)
noncomputable def ref14_Check_j0 (m:Nat) (x0 x1:Dt):Option (List Dt):=
 ((ref14_violations m x0 x1 []).bind fun r1=>
   some r1)
noncomputable def ref14_Check:Nat→Dt→Dt→Option (List Dt)
  |0,_,_=>none
  |m+1,a0,a1=>
   ((ref14_Valid m a0).bind fun r0=>
   (bif (r0 !=0) then
 some []
   else
 ref14_Check_j0 m a0 a1))
noncomputable def law14_SchemaChecks_j0 (m:Nat) (x0 x1:Dt):Option Bool:=
  ((schema_Check m x0 x1).bind fun r2=>
    ((ref14_Check m x0 x1).bind fun r3=>
 ((ref14_SameList m r2 r3).bind fun r4=>
 (bif r4 then
 ((awakeC).bind fun r5=>
 some r5)
 else
 some false))))
noncomputable def law14_SchemaChecks:Nat→Dt→Dt→Option Bool
  |0,_,_=>none
  |m+1,a0,a1=>
   ((law14_few m a0 a1).bind fun r0=>
   (bif (Bool.not r0) then
 ((awakeC).bind fun r1=>
 some r1)
   else
 law14_SchemaChecks_j0 m a0 a1))
noncomputable def ref14_Admit_j4 (m:Nat):Option (Int×List Dt):=
 some (17,[])
noncomputable def ref14_Admit_j3 (m:Nat) (x0:List Dt) (x1:Dt):Option (Int×List Dt):=
 (bif ((Dt.I x1 4)==1) then
  some (0,x0)
 else
  ref14_Admit_j4 m)
noncomputable def ref14_Admit_j2 (m:Nat) (x0:List Dt) (x1:Bool) (x2:Dt):Option (Int×List Dt):=
 (bif x1 then
  some (0,[])
 else
  ref14_Admit_j3 m x0 x2)
noncomputable def ref14_Admit_j1 (m:Nat) (x0 x1 x2:Dt):Option (Int×List Dt):=
  ((ref14_Check m (Dt.fld x0 2) x2).bind fun r0=>
    (bif ((List.length r0:Int)==0) then
 ref14_Admit_j2 m r0 true x0
    else
 (bif ((Dt.I x0 3)==1) then
 (bif ((Dt.I x1 0)==5) then
 ((ref14_Check m (Dt.fld x0 2) x1).bind fun r1=>
 ref14_Admit_j2 m r0 (decide (0<(List.length r1:Int))) x0)
 else
 ref14_Admit_j2 m r0 false x0)
 else
 ref14_Admit_j2 m r0 false x0)))
noncomputable def ref14_Admit_j0 (m:Nat) (x0:Bool) (x1 x2 x3:Dt):Option (Int×List Dt):=
 (bif x0 then
  some (0,[])
 else
  ref14_Admit_j1 m x1 x2 x3)
noncomputable def ref14_Admit:Nat→Dt→Dt→Dt→Option (Int×List Dt)
 |0,_,_,_=>none
 |m+1,a0,a1,a2=>
  (bif ((Dt.I a0 3) !=1) then
  ref14_Admit_j0 m ((Dt.I a0 3) !=2) a0 a1 a2
 else
  ref14_Admit_j0 m false a0 a1 a2)
noncomputable def law14_SchemaAdmits_j1 (m:Nat) (x0:Dt):Option Bool:=
  ((schema_Admit m (Dt.fld x0 0) (Dt.fld x0 1) (Dt.fld x0 2)).bind fun r2=>
    ((ref14_Admit m (Dt.fld x0 0) (Dt.fld x0 1) (Dt.fld x0 2)).bind fun r3=>
 (bif (r2.1==r3.1) then
 ((ref14_SameList m r2.2 r3.2).bind fun r4=>
 (bif r4 then
 ((awakeC).bind fun r5=>
 some r5)
 else
 some false))
 else
 some false)))
noncomputable def law14_SchemaAdmits_j0 (m:Nat) (x0:Bool) (x1:Dt):Option Bool:=
  (bif x0 then
   ((awakeC).bind fun r1=>
 some r1)
  else
   law14_SchemaAdmits_j1 m x1)
noncomputable def law14_SchemaAdmits:Nat→Dt→Option Bool
  |0,_=>none
  |m+1,a0=>
   ((law14_few m (Dt.fld (Dt.fld a0 0) 2) (Dt.fld a0 1)).bind fun r0=>
   (bif (Bool.not r0) then
 law14_SchemaAdmits_j0 m true a0
   else
 ((law14_few m (Dt.fld (Dt.fld a0 0) 2) (Dt.fld a0 2)).bind fun r6=>
 law14_SchemaAdmits_j0 m (Bool.not r6) a0)))
end Go.Proofs.YtfneddmmeadacaaGreatDoor
