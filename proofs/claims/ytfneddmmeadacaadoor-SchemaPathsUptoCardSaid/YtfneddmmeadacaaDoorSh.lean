/- Generated: what the Go functions compute, over plain data. -/
import Derived.Test.YtfneddmmeadacaaDoorAm20
import Derived.Test.YtfneddmmeadacaaDoorOAwake
import Derived.Test.YtfneddmmeadacaaDoorOLib
import Derived.Test.YtfneddmmeadacaaDoorOGrow
import Derived.Test.YtfneddmmeadacaaDoorOCloneT
set_option linter.unusedVariables false
set_option linter.unusedSimpArgs false
namespace Go.Proofs.YtfneddmmeadacaaDoor
open Go.Am
def kza2373:Dt:=Dt.agg [(Dt.int 0),(Dt.int 0),(Dt.str (ByteArray.mk (List.toArray []))),(Dt.lst []),(Dt.lst [])]
noncomputable def ref14_Count_j3 (m:Nat) (self7:Dt→Int→Option Int) (rec1:Int→Int→Int→Dt→Option Int) (x0 x1 x2:Int) (x3:Dt):Option Int:=
 rec1 x0 x1 (IntKind.wrap .i64 (x2+1)) x3
noncomputable def ref14_Count_j2 (m:Nat) (self7:Dt→Int→Option Int) (rec1:Int→Int→Int→Dt→Option Int) (x0 x1 x2:Int) (x3:Dt):Option Int:=
  ((idx (Dt.L x3 9) x2).bind fun v0=>
    ((self7 (Dt.fld v0 1) (IntKind.wrap .i64 (x0-x1))).bind fun r1=>
 ref14_Count_j3 m self7 rec1 x0 (IntKind.wrap .i64 (x1+r1)) x2 x3))
noncomputable def ref14_Count_j8 (m:Nat) (self7:Dt→Int→Option Int) (rec6:Int→Int→Int→Dt→Option Int) (x0 x1 x2:Int) (x3:Dt):Option Int:=
 rec6 x0 x1 (IntKind.wrap .i64 (x2+1)) x3
noncomputable def ref14_Count_j7 (m:Nat) (self7:Dt→Int→Option Int) (rec6:Int→Int→Int→Dt→Option Int) (x0 x1 x2:Int) (x3:Dt):Option Int:=
  ((idx (Dt.L x3 11) x2).bind fun v2=>
    ((self7 v2 (IntKind.wrap .i64 (x0-x1))).bind fun r3=>
 ref14_Count_j8 m self7 rec6 x0 (IntKind.wrap .i64 (x1+r3)) x2 x3))
noncomputable def ref14_Count_j9 (m:Nat) (self7:Dt→Int→Option Int) (x0:Int):Option Int:=
 some x0
noncomputable def ref14_Count_l6 (m:Nat) (self7:Dt→Int→Option Int):Nat→Int→Int→Int→Dt→Option Int
  |0,_,_,_,_=>none
  |M6+1,x0,x1,x2,x3=>
   (bif (decide (x2<(List.length (Dt.L x3 11):Int))) then
   (bif (decide (x1<x0)) then
 ref14_Count_j7 m self7 (ref14_Count_l6 m self7 M6) x0 x1 x2 x3
   else
 ref14_Count_j9 m self7 x1)
  else
   ref14_Count_j9 m self7 x1)
noncomputable def ref14_Count_j5 (m:Nat) (self7:Dt→Int→Option Int) (x0 x1 x2:Int) (x3:Dt):Option Int:=
 ref14_Count_l6 m self7 (Nat.succ m) x0 x1 x2 x3
noncomputable def ref14_Count_j4 (m:Nat) (self7:Dt→Int→Option Int) (x0 x1:Int) (x2:Dt):Option Int:=
 ref14_Count_j5 m self7 x0 x1 0 x2
noncomputable def ref14_Count_l1 (m:Nat) (self7:Dt→Int→Option Int):Nat→Int→Int→Int→Dt→Option Int
  |0,_,_,_,_=>none
  |M1+1,x0,x1,x2,x3=>
   (bif (decide (x2<(List.length (Dt.L x3 9):Int))) then
   (bif (decide (x1<x0)) then
 ref14_Count_j2 m self7 (ref14_Count_l1 m self7 M1) x0 x1 x2 x3
   else
 ref14_Count_j4 m self7 x0 x1 x3)
  else
   ref14_Count_j4 m self7 x0 x1 x3)
noncomputable def ref14_Count_j0 (m:Nat) (self7:Dt→Int→Option Int) (x0 x1 x2:Int) (x3:Dt):Option Int:=
 ref14_Count_l1 m self7 (Nat.succ m) x0 x1 x2 x3
noncomputable def ref14_Count:Nat→Dt→Int→Option Int
 |0,_,_=>none
 |m+1,a0,a1=>
  ref14_Count_j0 m (ref14_Count m) a1 1 0 a0
noncomputable def schema_hasKind:Nat→Int→Int→Option Bool
  |0,_,_=>none
  |m+1,a0,a1=>
   (bif (a0==0) then
   some true
  else
   (bif (decide (0≤a1)) then
 (bif (decide (a1≤11)) then
 (bif (decide (0≤a1)) then
 some ((andI IntKind.i64 (shrI IntKind.i64 a0 a1) 1)==1)
 else
 none)
 else
 some false)
   else
 some false))
noncomputable def slices_Concat_j3 (m:Nat) (rec1:List Dt→Int→List Dt→Int→Int→Option (List Dt)) (x0:List Dt) (x1:Int) (x2:List Dt) (x3 x4:Int):Option (List Dt):=
 rec1 x0 x1 x2 x3 (IntKind.wrap .i64 (x4+1))
noncomputable def slices_Concat_j2 (m:Nat) (rec1:List Dt→Int→List Dt→Int→Int→Option (List Dt)) (x0:List Dt) (x1:Int) (x2:List Dt) (x3 x4:Int):Option (List Dt):=
  ((idx x2 x4).bind fun v0=>
    (bif (decide ((IntKind.wrap .i64 (x1+(List.length (Dt.toLst v0):Int)))<0)) then
 none
    else
 slices_Concat_j3 m rec1 x0 (IntKind.wrap .i64 (x1+(List.length (Dt.toLst v0):Int))) x2 x3 x4))
noncomputable def slices_Concat_j8 (m:Nat) (rec6:List Dt→Int→Int→List Dt→Option (List Dt)) (x0:List Dt) (x1 x2:Int) (x3:List Dt):Option (List Dt):=
 rec6 x0 x1 (IntKind.wrap .i64 (x2+1)) x3
noncomputable def slices_Concat_j7 (m:Nat) (rec6:List Dt→Int→Int→List Dt→Option (List Dt)) (x0:List Dt) (x1 x2:Int) (x3:List Dt):Option (List Dt):=
  ((idx x0 x2).bind fun v2=>
    ((app x3 (Dt.toLst v2)).bind fun v3=>
 slices_Concat_j8 m rec6 x0 x1 x2 v3))
noncomputable def slices_Concat_j9 (m:Nat) (x0:List Dt):Option (List Dt):=
 some x0
noncomputable def slices_Concat_l6 (m:Nat):Nat→List Dt→Int→Int→List Dt→Option (List Dt)
 |0,_,_,_,_=>none
 |M6+1,x0,x1,x2,x3=>
  (bif (decide (x2<x1)) then
  slices_Concat_j7 m (slices_Concat_l6 m M6) x0 x1 x2 x3
 else
  slices_Concat_j9 m x3)
noncomputable def slices_Concat_j5 (m:Nat) (x0:List Dt) (x1 x2:Int) (x3:List Dt):Option (List Dt):=
 slices_Concat_l6 m (Nat.succ m) x0 x1 x2 x3
noncomputable def slices_Concat_j4 (m:Nat) (x0:List Dt) (x1:Int):Option (List Dt):=
 ((slices_Grow x1).bind fun r1=>
   slices_Concat_j5 m x0 (List.length x0:Int) 0 r1)
noncomputable def slices_Concat_l1 (m:Nat):Nat→List Dt→Int→List Dt→Int→Int→Option (List Dt)
 |0,_,_,_,_,_=>none
 |M1+1,x0,x1,x2,x3,x4=>
  (bif (decide (x4<x3)) then
  slices_Concat_j2 m (slices_Concat_l1 m M1) x0 x1 x2 x3 x4
 else
  slices_Concat_j4 m x0 x1)
noncomputable def slices_Concat_j0 (m:Nat) (x0:List Dt) (x1:Int) (x2:List Dt) (x3 x4:Int):Option (List Dt):=
 slices_Concat_l1 m (Nat.succ m) x0 x1 x2 x3 x4
noncomputable def slices_Concat:Nat→List Dt→Option (List Dt)
 |0,_=>none
 |m+1,a0=>
  slices_Concat_j0 m a0 0 a0 (List.length a0:Int) 0
noncomputable def i11:Nat→Bool→Int→List Dt→List Dt→List Dt→Option (List Dt×List Dt×List Dt)
  |0,_,_,_,_,_=>none
  |m+1,a0,a1,a2,a3,a4=>
   (bif a0 then
   ((slices_Concat m [(Dt.lst a4),(Dt.lst a2)]).bind fun r0=>
 ((app a3 [(Dt.agg [(Dt.lst r0),(Dt.int a1)])]).bind fun v1=>
 some (a4,a4,v1)))
  else
   some (a4,a4,a3))
noncomputable def i17:Nat→Bool→Int→List Dt→List Dt→List Dt→Option (List Dt×List Dt)
  |0,_,_,_,_,_=>none
  |m+1,a0,a1,a2,a3,a4=>
   (bif a0 then
   ((slices_Concat m [(Dt.lst a4),(Dt.lst a2)]).bind fun r0=>
 ((app a3 [(Dt.agg [(Dt.lst r0),(Dt.int a1)])]).bind fun v1=>
 some (a4,v1)))
  else
   some (a4,a3))
noncomputable def schema_length_j1 (m:Nat):Option (Int×Bool):=
 some (0,false)
noncomputable def schema_length_j0 (m:Nat) (x0:Int) (x1:Bool) (x2:Dt):Option (Int×Bool):=
  (bif x1 then
   some ((ByteArray.size (Dt.S x2 2):Int),true)
  else
   (bif (x0==6) then
 some ((List.length (Dt.L x2 3):Int),true)
   else
 schema_length_j1 m))
noncomputable def schema_length:Nat→Dt→Option (Int×Bool)
 |0,_=>none
 |m+1,a0=>
  (bif ((Dt.I a0 0)==4) then
  schema_length_j0 m (Dt.I a0 0) ((Dt.I a0 0)==4) a0
 else
  schema_length_j0 m (Dt.I a0 0) ((Dt.I a0 0)==7) a0)
noncomputable def schema_field_j3 (m:Nat) (rec1:ByteArray→List Dt→Int→Int→Dt→Option (Dt×Bool)) (x0:ByteArray) (x1:List Dt) (x2 x3:Int) (x4:Dt):Option (Dt×Bool):=
 rec1 x0 x1 x2 (IntKind.wrap .i64 (x3+1)) x4
noncomputable def schema_field_j2 (m:Nat) (rec1:ByteArray→List Dt→Int→Int→Dt→Option (Dt×Bool)) (x0:ByteArray) (x1:List Dt) (x2 x3:Int) (x4:Dt):Option (Dt×Bool):=
  ((idx x1 x3).bind fun v0=>
    (bif ((ByteArray.toList (Dt.S v0 0))==(ByteArray.toList x0)) then
 some ((Dt.fld v0 1),true)
    else
 schema_field_j3 m rec1 x0 x1 x2 x3 x4))
noncomputable def schema_field_j4 (m:Nat) (x0:Dt):Option (Dt×Bool):=
 some (kza2373,false)
noncomputable def schema_field_l1 (m:Nat):Nat→ByteArray→List Dt→Int→Int→Dt→Option (Dt×Bool)
 |0,_,_,_,_,_=>none
 |M1+1,x0,x1,x2,x3,x4=>
  (bif (decide (x3<x2)) then
  schema_field_j2 m (schema_field_l1 m M1) x0 x1 x2 x3 x4
 else
  schema_field_j4 m x4)
noncomputable def schema_field_j0 (m:Nat) (x0:ByteArray) (x1:List Dt) (x2 x3:Int) (x4:Dt):Option (Dt×Bool):=
 schema_field_l1 m (Nat.succ m) x0 x1 x2 x3 x4
noncomputable def schema_field:Nat→Dt→ByteArray→Option (Dt×Bool)
 |0,_,_=>none
 |m+1,a0,a1=>
  schema_field_j0 m a1 (Dt.L a0 4) (List.length (Dt.L a0 4):Int) 0 kza2373
noncomputable def i23:Nat→Dt→Dt→Option Bool
 |0,_,_=>none
 |m+1,a0,a1=>
  some ((ByteArray.toList (Dt.S a0 0))==(ByteArray.toList (Dt.S a1 0)))
noncomputable def i22_j3 (m:Nat) (rec1:List Dt→Dt→Int→Int→Option Int) (x0:List Dt) (x1:Dt) (x2 x3:Int):Option Int:=
 rec1 x0 x1 x2 (IntKind.wrap .i64 (x3+1))
noncomputable def i22_j2 (m:Nat) (rec1:List Dt→Dt→Int→Int→Option Int) (x0:List Dt) (x1:Dt) (x2 x3:Int):Option Int:=
  ((idx x0 x3).bind fun v0=>
    ((i23 m v0 x1).bind fun r1=>
 (bif r1 then
 some x3
 else
 i22_j3 m rec1 x0 x1 x2 x3)))
noncomputable def i22_j4 (m:Nat):Option Int:=
 some (-1)
noncomputable def i22_l1 (m:Nat):Nat→List Dt→Dt→Int→Int→Option Int
 |0,_,_,_,_=>none
 |M1+1,x0,x1,x2,x3=>
  (bif (decide (x3<x2)) then
  i22_j2 m (i22_l1 m M1) x0 x1 x2 x3
 else
  i22_j4 m)
noncomputable def i22_j0 (m:Nat) (x0:List Dt) (x1:Dt) (x2 x3:Int):Option Int:=
 i22_l1 m (Nat.succ m) x0 x1 x2 x3
noncomputable def i22:Nat→List Dt→Dt→Option Int
 |0,_,_=>none
 |m+1,a0,a1=>
  i22_j0 m a0 a1 (List.length a0:Int) 0
noncomputable def i21:Nat→List Dt→Dt→Option Bool
 |0,_,_=>none
 |m+1,a0,a1=>
  ((i22 m a0 a1).bind fun r0=>
  some (decide (0≤r0)))
noncomputable def law14_index_j7 (m:Nat) (rec3:ByteArray→Int→Int→Int→Option Int) (x0:ByteArray) (x1 x2 x3:Int):Option Int:=
 rec3 x0 x1 x2 (IntKind.wrap .i64 (x3+1))
noncomputable def law14_index_j6 (m:Nat) (rec3:ByteArray→Int→Int→Int→Option Int) (x0:ByteArray) (x1 x2 x3:Int):Option Int:=
 ((idxS x0 x3).bind fun v1=>
   law14_index_j7 m rec3 x0 x1 (IntKind.wrap .i64 ((IntKind.wrap .i64 (10*x2))+(IntKind.wrap .i64 (IntKind.wrap IntKind.u8 (v1-48))))) x3)
noncomputable def law14_index_j5 (m:Nat) (rec3:ByteArray→Int→Int→Int→Option Int) (x0:ByteArray) (x1 x2 x3:Int) (x4:Bool):Option Int:=
 (bif x4 then
  some (-1)
 else
  law14_index_j6 m rec3 x0 x1 x2 x3)
noncomputable def law14_index_j4 (m:Nat) (rec3:ByteArray→Int→Int→Int→Option Int) (x0:ByteArray) (x1 x2 x3:Int):Option Int:=
  ((idxS x0 x3).bind fun v0=>
    (bif (decide (v0<48)) then
 law14_index_j5 m rec3 x0 x1 x2 x3 true
    else
 ((idxS x0 x3).bind fun v2=>
 law14_index_j5 m rec3 x0 x1 x2 x3 (decide (57<v2)))))
noncomputable def law14_index_j9 (m:Nat) (x0:Int):Option Int:=
 some x0
noncomputable def law14_index_j8 (m:Nat) (x0 x1:Int):Option Int:=
 (bif (decide (x0≤x1)) then
  some (-1)
 else
  law14_index_j9 m x1)
noncomputable def law14_index_l3 (m:Nat):Nat→ByteArray→Int→Int→Int→Option Int
 |0,_,_,_,_=>none
 |M3+1,x0,x1,x2,x3=>
  (bif (decide (x3<(ByteArray.size x0:Int))) then
  law14_index_j4 m (law14_index_l3 m M3) x0 x1 x2 x3
 else
  law14_index_j8 m x1 x2)
noncomputable def law14_index_j2 (m:Nat) (x0:ByteArray) (x1 x2 x3:Int):Option Int:=
 law14_index_l3 m (Nat.succ m) x0 x1 x2 x3
noncomputable def law14_index_j1 (m:Nat) (x0:ByteArray) (x1 x2:Int):Option Int:=
 law14_index_j2 m x0 x1 x2 0
noncomputable def law14_index_j0 (m:Nat) (x0:ByteArray) (x1 x2:Int) (x3:Bool):Option Int:=
 (bif x3 then
  some (-1)
 else
  law14_index_j1 m x0 x1 x2)
noncomputable def law14_index:Nat→ByteArray→Int→Option Int
  |0,_,_=>none
  |m+1,a0,a1=>
   (bif ((ByteArray.size a0:Int)==0) then
   law14_index_j0 m a0 a1 0 true
  else
   (bif (decide (4<(ByteArray.size a0:Int))) then
 law14_index_j0 m a0 a1 0 true
   else
 (bif (decide (1<(ByteArray.size a0:Int))) then
 ((idxS a0 0).bind fun v3=>
 law14_index_j0 m a0 a1 0 (v3==48))
 else
 law14_index_j0 m a0 a1 0 false)))
noncomputable def ref02_count_j5 (m:Nat) (self34:Dt→Int→Int→Option Int) (rec3:Int→Int→Int→Dt→Option Int) (x0 x1 x2:Int) (x3:Dt):Option Int:=
 rec3 x0 x1 (IntKind.wrap .i64 (x2+1)) x3
noncomputable def ref02_count_j4 (m:Nat) (self34:Dt→Int→Int→Option Int) (rec3:Int→Int→Int→Dt→Option Int) (x0 x1 x2:Int) (x3:Dt):Option Int:=
  ((idx (Dt.L x3 3) x2).bind fun v0=>
    ((self34 v0 (IntKind.wrap .i64 (x0+1)) x1).bind fun r1=>
 ref02_count_j5 m self34 rec3 x0 r1 x2 x3))
noncomputable def ref02_count_j11 (m:Nat) (self34:Dt→Int→Int→Option Int) (rec8:Int→Int→Int→Dt→Option Int) (x0 x1 x2:Int) (x3:Dt):Option Int:=
 rec8 x0 x1 (IntKind.wrap .i64 (x2+1)) x3
noncomputable def ref02_count_j10 (m:Nat) (self34:Dt→Int→Int→Option Int) (rec8:Int→Int→Int→Dt→Option Int) (x0 x1 x2:Int) (x3:Dt):Option Int:=
  ((idx (Dt.L x3 4) x2).bind fun v3=>
    ((self34 (Dt.fld v3 1) (IntKind.wrap .i64 (x0+1)) x1).bind fun r4=>
 ref02_count_j11 m self34 rec8 x0 r4 x2 x3))
noncomputable def ref02_count_j9 (m:Nat) (self34:Dt→Int→Int→Option Int) (rec8:Int→Int→Int→Dt→Option Int) (x0 x1 x2:Int) (x3:Dt):Option Int:=
  ((idx (Dt.L x3 4) x2).bind fun v2=>
    (bif (decide (200<(ByteArray.size (Dt.S v2 0):Int))) then
 some (-1)
    else
 ref02_count_j10 m self34 rec8 x0 x1 x2 x3))
noncomputable def ref02_count_j12 (m:Nat) (self34:Dt→Int→Int→Option Int) (x0:Int):Option Int:=
 some x0
noncomputable def ref02_count_l8 (m:Nat) (self34:Dt→Int→Int→Option Int):Nat→Int→Int→Int→Dt→Option Int
  |0,_,_,_,_=>none
  |M8+1,x0,x1,x2,x3=>
   (bif (decide (x2<(List.length (Dt.L x3 4):Int))) then
   (bif (decide (0≤x1)) then
 ref02_count_j9 m self34 (ref02_count_l8 m self34 M8) x0 x1 x2 x3
   else
 ref02_count_j12 m self34 x1)
  else
   ref02_count_j12 m self34 x1)
noncomputable def ref02_count_j7 (m:Nat) (self34:Dt→Int→Int→Option Int) (x0 x1 x2:Int) (x3:Dt):Option Int:=
 ref02_count_l8 m self34 (Nat.succ m) x0 x1 x2 x3
noncomputable def ref02_count_j6 (m:Nat) (self34:Dt→Int→Int→Option Int) (x0 x1:Int) (x2:Dt):Option Int:=
 ref02_count_j7 m self34 x0 x1 0 x2
noncomputable def ref02_count_l3 (m:Nat) (self34:Dt→Int→Int→Option Int):Nat→Int→Int→Int→Dt→Option Int
  |0,_,_,_,_=>none
  |M3+1,x0,x1,x2,x3=>
   (bif (decide (x2<(List.length (Dt.L x3 3):Int))) then
   (bif (decide (0≤x1)) then
 ref02_count_j4 m self34 (ref02_count_l3 m self34 M3) x0 x1 x2 x3
   else
 ref02_count_j6 m self34 x0 x1 x3)
  else
   ref02_count_j6 m self34 x0 x1 x3)
noncomputable def ref02_count_j2 (m:Nat) (self34:Dt→Int→Int→Option Int) (x0 x1 x2:Int) (x3:Dt):Option Int:=
 ref02_count_l3 m self34 (Nat.succ m) x0 x1 x2 x3
noncomputable def ref02_count_j1 (m:Nat) (self34:Dt→Int→Int→Option Int) (x0 x1:Int) (x2:Dt):Option Int:=
 ref02_count_j2 m self34 x0 x1 0 x2
noncomputable def ref02_count_j0 (m:Nat) (self34:Dt→Int→Int→Option Int) (x0 x1:Int) (x2:Bool) (x3:Dt):Option Int:=
 (bif x2 then
  some (-1)
 else
  ref02_count_j1 m self34 x0 x1 x3)
noncomputable def ref02_count:Nat→Dt→Int→Int→Option Int
 |0,_,_,_=>none
 |m+1,a0,a1,a2=>
  (bif (decide (40<a1)) then
  ref02_count_j0 m (ref02_count m) a1 (IntKind.wrap .i64 (a2-1)) true a0
 else
  ref02_count_j0 m (ref02_count m) a1 (IntKind.wrap .i64 (a2-1)) (decide (5000<(ByteArray.size (Dt.S a0 2):Int))) a0)
noncomputable def ref02_Few:Nat→Dt→Int→Option Bool
 |0,_,_=>none
 |m+1,a0,a1=>
  ((ref02_count m a0 1 a1).bind fun r0=>
  some (decide (0≤r0)))
noncomputable def law14_few:Nat→Dt→Dt→Option Bool
  |0,_,_=>none
  |m+1,a0,a1=>
   ((ref14_Count m a0 81).bind fun r0=>
   (bif (decide (r0≤80)) then
 ((ref02_Few m a1 300).bind fun r1=>
 some r1)
   else
 some false))
noncomputable def i44_j3 (m:Nat) (rec1:Int→Int→Int→Int→List Dt→Option (List Dt)) (x0 x1 x2 x3:Int) (x4:List Dt):Option (List Dt):=
 rec1 x0 x1 x2 (IntKind.wrap .i64 (x3+1)) x4
noncomputable def i44_j2 (m:Nat) (rec1:Int→Int→Int→Int→List Dt→Option (List Dt)) (x0 x1 x2 x3:Int) (x4:List Dt):Option (List Dt):=
  ((inL x4 (IntKind.wrap .i64 (x1+x3))).bind fun v0=>
    ((x4[(Int.toNat (IntKind.wrap .i64 (x1+x3)))]?).bind fun v1=>
 ((inL x4 (IntKind.wrap .i64 (x0+x3))).bind fun v2=>
 ((x4[(Int.toNat (IntKind.wrap .i64 (x0+x3)))]?).bind fun v3=>
 ((inL x4 (IntKind.wrap .i64 (x0+x3))).bind fun v4=>
 ((x4[(Int.toNat (IntKind.wrap .i64 (x0+x3)))]?).bind fun v5=>
 ((inL (List.set x4 (Int.toNat (IntKind.wrap .i64 (x0+x3))) v1) (IntKind.wrap .i64 (x1+x3))).bind fun v6=>
 (((List.set x4 (Int.toNat (IntKind.wrap .i64 (x0+x3))) v1)[(Int.toNat (IntKind.wrap .i64 (x1+x3)))]?).bind fun v7=>
 i44_j3 m rec1 x0 x1 x2 x3 (List.set (List.set x4 (Int.toNat (IntKind.wrap .i64 (x0+x3))) v1) (Int.toNat (IntKind.wrap .i64 (x1+x3))) v3)))))))))
noncomputable def i44_l1 (m:Nat):Nat→Int→Int→Int→Int→List Dt→Option (List Dt)
 |0,_,_,_,_,_=>none
 |M1+1,x0,x1,x2,x3,x4=>
  (bif (decide (x3<x2)) then
  i44_j2 m (i44_l1 m M1) x0 x1 x2 x3 x4
 else
  some x4)
noncomputable def i44_j0 (m:Nat) (x0 x1 x2 x3:Int) (x4:List Dt):Option (List Dt):=
 i44_l1 m (Nat.succ m) x0 x1 x2 x3 x4
noncomputable def i44:Nat→Int→Int→Int→List Dt→Option (List Dt)
 |0,_,_,_,_=>none
 |m+1,a0,a1,a2,a3=>
  i44_j0 m a0 a1 a2 0 a3
noncomputable def i43_j2 (m:Nat) (rec1:Int→Int→Int→List Dt→Option (List Dt)) (x0 x1 x2:Int) (x3:List Dt):Option (List Dt):=
  (bif (decide (x2<x1)) then
   ((i44 m (IntKind.wrap .i64 (x0-x1)) x0 x2 x3).bind fun r0=>
 rec1 x0 (IntKind.wrap .i64 (x1-x2)) x2 r0)
  else
   ((i44 m (IntKind.wrap .i64 (x0-x1)) (IntKind.wrap .i64 ((IntKind.wrap .i64 (x0+x2))-x1)) x1 x3).bind fun r1=>
 rec1 x0 x1 (IntKind.wrap .i64 (x2-x1)) r1))
noncomputable def i43_j3 (m:Nat) (x0 x1:Int) (x2:List Dt):Option (List Dt):=
 ((i44 m (IntKind.wrap .i64 (x0-x1)) x0 x1 x2).bind fun r2=>
   some r2)
noncomputable def i43_l1 (m:Nat):Nat→Int→Int→Int→List Dt→Option (List Dt)
 |0,_,_,_,_=>none
 |M1+1,x0,x1,x2,x3=>
  (bif (x1 !=x2) then
  i43_j2 m (i43_l1 m M1) x0 x1 x2 x3
 else
  i43_j3 m x0 x1 x3)
noncomputable def i43_j0 (m:Nat) (x0 x1 x2:Int) (x3:List Dt):Option (List Dt):=
 i43_l1 m (Nat.succ m) x0 x1 x2 x3
noncomputable def i43:Nat→Int→Int→Int→List Dt→Option (List Dt)
 |0,_,_,_,_=>none
 |m+1,a0,a1,a2,a3=>
  i43_j0 m a1 (IntKind.wrap .i64 (a1-a0)) (IntKind.wrap .i64 (a2-a1)) a3
noncomputable def ref01_at_j4 (m:Nat) (rec2:ByteArray→Int→Dt→Option Int) (x0:ByteArray) (x1:Int) (x2:Dt):Option Int:=
 rec2 x0 (IntKind.wrap .i64 (x1+1)) x2
noncomputable def ref01_at_j3 (m:Nat) (rec2:ByteArray→Int→Dt→Option Int) (x0:ByteArray) (x1:Int) (x2:Dt):Option Int:=
  ((idx (Dt.L x2 4) x1).bind fun v0=>
    (bif ((ByteArray.toList (Dt.S v0 0))==(ByteArray.toList x0)) then
 some x1
    else
 ref01_at_j4 m rec2 x0 x1 x2))
noncomputable def ref01_at_j5 (m:Nat):Option Int:=
 some (-1)
noncomputable def ref01_at_l2 (m:Nat):Nat→ByteArray→Int→Dt→Option Int
 |0,_,_,_=>none
 |M2+1,x0,x1,x2=>
  (bif (decide (x1<(List.length (Dt.L x2 4):Int))) then
  ref01_at_j3 m (ref01_at_l2 m M2) x0 x1 x2
 else
  ref01_at_j5 m)
noncomputable def ref01_at_j1 (m:Nat) (x0:ByteArray) (x1:Int) (x2:Dt):Option Int:=
 ref01_at_l2 m (Nat.succ m) x0 x1 x2
noncomputable def ref01_at_j0 (m:Nat) (x0:ByteArray) (x1:Dt):Option Int:=
 ref01_at_j1 m x0 0 x1
noncomputable def ref01_at:Nat→Dt→ByteArray→Option Int
 |0,_,_=>none
 |m+1,a0,a1=>
  (bif ((Dt.I a0 0) !=5) then
  some (-1)
 else
  ref01_at_j0 m a1 a0)
noncomputable def ref01_Get_j0 (m:Nat) (x0:Int) (x1 x2:Dt):Option (Dt×Bool):=
 ((idx (Dt.L x1 4) x0).bind fun v1=>
   some ((Dt.fld v1 1),true))
noncomputable def ref01_Get:Nat→Dt→ByteArray→Option (Dt×Bool)
  |0,_,_=>none
  |m+1,a0,a1=>
   ((ref01_at m a0 a1).bind fun r0=>
   (bif (decide (r0<0)) then
 some (kza2373,false)
   else
 ref01_Get_j0 m r0 a0 kza2373))
noncomputable def law14_walk_j4 (m:Nat) (rec1:List Dt→Int→Dt→Option Bool) (x0:List Dt) (x1:Int) (x2:Dt):Option Bool:=
 rec1 x0 (IntKind.wrap .i64 (x1+1)) x2
noncomputable def law14_walk_j3 (m:Nat) (rec1:List Dt→Int→Dt→Option Bool) (x0:List Dt) (x1 x2:Int) (x3:Dt):Option Bool:=
 ((idx (Dt.L x3 3) x2).bind fun v2=>
   law14_walk_j4 m rec1 x0 x1 v2)
noncomputable def law14_walk_j6 (m:Nat) (rec1:List Dt→Int→Dt→Option Bool) (x0:List Dt) (x1:Int) (x2 x3:Dt):Option Bool:=
 law14_walk_j4 m rec1 x0 x1 x3
noncomputable def law14_walk_j5 (m:Nat) (rec1:List Dt→Int→Dt→Option Bool) (x0:List Dt) (x1:Int) (x2:Dt):Option Bool:=
  ((idx x0 x1).bind fun v3=>
    ((ref01_Get m x2 (Dt.toStr v3)).bind fun r4=>
 (bif (Bool.not r4.2) then
 some false
 else
 law14_walk_j6 m rec1 x0 x1 x2 r4.1)))
noncomputable def law14_walk_j2 (m:Nat) (rec1:List Dt→Int→Dt→Option Bool) (x0:List Dt) (x1:Int) (x2:Dt):Option Bool:=
  (bif ((Dt.I x2 0)==6) then
   ((idx x0 x1).bind fun v0=>
 ((law14_index m (Dt.toStr v0) (List.length (Dt.L x2 3):Int)).bind fun r1=>
 (bif (decide (r1<0)) then
 some false
 else
 law14_walk_j3 m rec1 x0 x1 r1 x2)))
  else
   law14_walk_j5 m rec1 x0 x1 x2)
noncomputable def law14_walk_j7 (m:Nat):Option Bool:=
 some true
noncomputable def law14_walk_l1 (m:Nat):Nat→List Dt→Int→Dt→Option Bool
 |0,_,_,_=>none
 |M1+1,x0,x1,x2=>
  (bif (decide (x1<(List.length x0:Int))) then
  law14_walk_j2 m (law14_walk_l1 m M1) x0 x1 x2
 else
  law14_walk_j7 m)
noncomputable def law14_walk_j0 (m:Nat) (x0:List Dt) (x1:Int) (x2:Dt):Option Bool:=
 law14_walk_l1 m (Nat.succ m) x0 x1 x2
noncomputable def law14_walk:Nat→Dt→List Dt→Option Bool
 |0,_,_=>none
 |m+1,a0,a1=>
  law14_walk_j0 m a1 0 a0
noncomputable def schema_isName_j6 (m:Nat) (rec3:ByteArray→Int→Int→Option Bool) (x0:ByteArray) (x1 x2:Int):Option Bool:=
 rec3 x0 x1 (IntKind.wrap .i64 (x2+1))
noncomputable def schema_isName_j5 (m:Nat) (rec3:ByteArray→Int→Int→Option Bool) (x0:ByteArray) (x1 x2:Int) (x3:Bool):Option Bool:=
 (bif x3 then
  some false
 else
  schema_isName_j6 m rec3 x0 x1 x2)
noncomputable def schema_isName_j4 (m:Nat) (rec3:ByteArray→Int→Int→Option Bool) (x0:ByteArray) (x1 x2:Int):Option Bool:=
  ((idxS x0 x2).bind fun v0=>
    (bif (decide (v0<33)) then
 schema_isName_j5 m rec3 x0 x1 x2 true
    else
 ((idxS x0 x2).bind fun v1=>
 (bif (decide (126<v1)) then
 schema_isName_j5 m rec3 x0 x1 x2 true
 else
 ((idxS x0 x2).bind fun v2=>
 schema_isName_j5 m rec3 x0 x1 x2 (v2==46))))))
noncomputable def schema_isName_j7 (m:Nat):Option Bool:=
 some true
noncomputable def schema_isName_l3 (m:Nat):Nat→ByteArray→Int→Int→Option Bool
 |0,_,_,_=>none
 |M3+1,x0,x1,x2=>
  (bif (decide (x2<x1)) then
  schema_isName_j4 m (schema_isName_l3 m M3) x0 x1 x2
 else
  schema_isName_j7 m)
noncomputable def schema_isName_j2 (m:Nat) (x0:ByteArray) (x1 x2:Int):Option Bool:=
 schema_isName_l3 m (Nat.succ m) x0 x1 x2
noncomputable def schema_isName_j1 (m:Nat) (x0:ByteArray):Option Bool:=
 schema_isName_j2 m x0 (ByteArray.size x0:Int) 0
noncomputable def schema_isName_j0 (m:Nat) (x0:ByteArray) (x1:Bool):Option Bool:=
 (bif x1 then
  some false
 else
  schema_isName_j1 m x0)
noncomputable def schema_isName:Nat→ByteArray→Option Bool
  |0,_=>none
  |m+1,a0=>
   (bif (decide ((ByteArray.size a0:Int)<1)) then
   schema_isName_j0 m a0 true
  else
   (bif (decide (32<(ByteArray.size a0:Int))) then
 schema_isName_j0 m a0 true
   else
 ((idxS a0 0).bind fun v3=>
 schema_isName_j0 m a0 (v3==36))))
noncomputable def cmp_isNaN:Nat→Int→Option Bool
 |0,_=>none
 |m+1,a0=>
  some (a0 !=a0)
noncomputable def cmp_Compare_j0 (m:Nat):Option Int:=
 some (-1)
noncomputable def cmp_Compare_j4 (m:Nat):Option Int:=
 some 0
noncomputable def cmp_Compare_j3 (m:Nat) (x0 x1:Int):Option Int:=
 (bif (decide (x1<x0)) then
  some 1
 else
  cmp_Compare_j4 m)
noncomputable def cmp_Compare_j2 (m:Nat) (x0 x1:Int):Option Int:=
 (bif (decide (x0<x1)) then
  some (-1)
 else
  cmp_Compare_j3 m x0 x1)
noncomputable def cmp_Compare_j1 (m:Nat) (x0 x1:Int) (x2:Bool):Option Int:=
 (bif x2 then
  some 1
 else
  cmp_Compare_j2 m x0 x1)
noncomputable def cmp_Compare:Nat→Int→Int→Option Int
  |0,_,_=>none
  |m+1,a0,a1=>
   ((cmp_isNaN m a0).bind fun r0=>
   ((cmp_isNaN m a1).bind fun r1=>
 (bif r0 then
 (bif r1 then
 some 0
 else
 cmp_Compare_j0 m)
 else
 cmp_Compare_j1 m a0 a1 r1)))
noncomputable def value_Compare_j6 (m:Nat) (self18:Dt→Dt→Option Int) (rec4:Int→Int→Dt→Dt→Option Int) (x0 x1:Int) (x2 x3:Dt):Option Int:=
 rec4 x0 (IntKind.wrap .i64 (x1+1)) x2 x3
noncomputable def value_Compare_j5 (m:Nat) (self18:Dt→Dt→Option Int) (rec4:Int→Int→Dt→Dt→Option Int) (x0 x1:Int) (x2 x3:Dt):Option Int:=
  ((idx (Dt.L x2 3) x1).bind fun v3=>
    ((idx (Dt.L x3 3) x1).bind fun v4=>
 ((self18 v3 v4).bind fun r5=>
 (bif (r5 !=0) then
 some r5
 else
 value_Compare_j6 m self18 rec4 x0 x1 x2 x3))))
noncomputable def value_Compare_j7 (m:Nat) (self18:Dt→Dt→Option Int) (x0 x1:Dt):Option Int:=
 ((cmp_Compare m (List.length (Dt.L x0 3):Int) (List.length (Dt.L x1 3):Int)).bind fun r6=>
   some r6)
noncomputable def value_Compare_l4 (m:Nat) (self18:Dt→Dt→Option Int):Nat→Int→Int→Dt→Dt→Option Int
 |0,_,_,_,_=>none
 |M4+1,x0,x1,x2,x3=>
  (bif (decide (x1<x0)) then
  value_Compare_j5 m self18 (value_Compare_l4 m self18 M4) x0 x1 x2 x3
 else
  value_Compare_j7 m self18 x2 x3)
noncomputable def value_Compare_j3 (m:Nat) (self18:Dt→Dt→Option Int) (x0 x1:Int) (x2 x3:Dt):Option Int:=
 value_Compare_l4 m self18 (Nat.succ m) x0 x1 x2 x3
noncomputable def value_Compare_j12 (m:Nat) (self18:Dt→Dt→Option Int) (rec9:Int→Int→Dt→Dt→Option Int) (x0 x1:Int) (x2 x3:Dt):Option Int:=
 rec9 x0 (IntKind.wrap .i64 (x1+1)) x2 x3
noncomputable def value_Compare_j11 (m:Nat) (self18:Dt→Dt→Option Int) (rec9:Int→Int→Dt→Dt→Option Int) (x0 x1 x2:Int) (x3 x4:Dt):Option Int:=
  ((idx (Dt.L x3 4) x0).bind fun v10=>
    ((idx (Dt.L x4 4) x0).bind fun v11=>
 ((self18 (Dt.fld v10 1) (Dt.fld v11 1)).bind fun r12=>
 (bif (r12 !=0) then
 some r12
 else
 value_Compare_j12 m self18 rec9 x1 x2 x3 x4))))
noncomputable def value_Compare_j10 (m:Nat) (self18:Dt→Dt→Option Int) (rec9:Int→Int→Dt→Dt→Option Int) (x0 x1:Int) (x2 x3:Dt):Option Int:=
  ((idx (Dt.L x2 4) x1).bind fun v7=>
    ((idx (Dt.L x3 4) x1).bind fun v8=>
 ((strings_Compare (Dt.S v7 0) (Dt.S v8 0)).bind fun r9=>
 (bif (r9 !=0) then
 some r9
 else
 value_Compare_j11 m self18 rec9 x1 x0 x1 x2 x3))))
noncomputable def value_Compare_j13 (m:Nat) (self18:Dt→Dt→Option Int) (x0 x1:Dt):Option Int:=
 ((cmp_Compare m (List.length (Dt.L x0 4):Int) (List.length (Dt.L x1 4):Int)).bind fun r13=>
   some r13)
noncomputable def value_Compare_l9 (m:Nat) (self18:Dt→Dt→Option Int):Nat→Int→Int→Dt→Dt→Option Int
 |0,_,_,_,_=>none
 |M9+1,x0,x1,x2,x3=>
  (bif (decide (x1<x0)) then
  value_Compare_j10 m self18 (value_Compare_l9 m self18 M9) x0 x1 x2 x3
 else
  value_Compare_j13 m self18 x2 x3)
noncomputable def value_Compare_j8 (m:Nat) (self18:Dt→Dt→Option Int) (x0 x1:Int) (x2 x3:Dt):Option Int:=
 value_Compare_l9 m self18 (Nat.succ m) x0 x1 x2 x3
noncomputable def value_Compare_j14 (m:Nat) (self18:Dt→Dt→Option Int):Option Int:=
 some 0
noncomputable def value_Compare_j2 (m:Nat) (self18:Dt→Dt→Option Int) (x0:Int) (x1:Bool) (x2 x3:Dt):Option Int:=
  (bif x1 then
   ((strings_Compare (Dt.S x2 2) (Dt.S x3 2)).bind fun r2=>
 some r2)
  else
   (bif (x0==6) then
 value_Compare_j3 m self18 (bif (decide ((List.length (Dt.L x3 3):Int)<(List.length (Dt.L x2 3):Int))) then(List.length (Dt.L x3 3):Int) else(List.length (Dt.L x2 3):Int)) 0 x2 x3
   else
 (bif (x0==5) then
 value_Compare_j8 m self18 (bif (decide ((List.length (Dt.L x3 4):Int)<(List.length (Dt.L x2 4):Int))) then(List.length (Dt.L x3 4):Int) else(List.length (Dt.L x2 4):Int)) 0 x2 x3
 else
 value_Compare_j14 m self18)))
noncomputable def value_Compare_j1 (m:Nat) (self18:Dt→Dt→Option Int) (x0:Int) (x1:Bool) (x2 x3:Dt):Option Int:=
  (bif x1 then
   ((cmp_Compare m (Dt.I x2 1) (Dt.I x3 1)).bind fun r1=>
 some r1)
  else
   (bif (x0==4) then
 value_Compare_j2 m self18 x0 (x0==4) x2 x3
   else
 (bif (x0==7) then
 value_Compare_j2 m self18 x0 (x0==7) x2 x3
 else
 value_Compare_j2 m self18 x0 (x0==8) x2 x3)))
noncomputable def value_Compare_j0 (m:Nat) (self18:Dt→Dt→Option Int) (x0 x1:Dt):Option Int:=
  (bif ((Dt.I x0 0)==3) then
   value_Compare_j1 m self18 (Dt.I x0 0) ((Dt.I x0 0)==3) x0 x1
  else
   (bif ((Dt.I x0 0)==9) then
 value_Compare_j1 m self18 (Dt.I x0 0) ((Dt.I x0 0)==9) x0 x1
   else
 value_Compare_j1 m self18 (Dt.I x0 0) ((Dt.I x0 0)==10) x0 x1))
noncomputable def value_Compare:Nat→Dt→Dt→Option Int
  |0,_,_=>none
  |m+1,a0,a1=>
   (bif ((Dt.I a0 0) !=(Dt.I a1 0)) then
   ((cmp_Compare m (Dt.I a0 0) (Dt.I a1 0)).bind fun r0=>
 some r0)
  else
   value_Compare_j0 m (value_Compare m) a0 a1)
noncomputable def value_Equal:Nat→Dt→Dt→Option Bool
 |0,_,_=>none
 |m+1,a0,a1=>
  ((value_Compare m a0 a1).bind fun r0=>
  some (r0==0))
noncomputable def i15:Nat→Dt→Dt→Option Bool
 |0,_,_=>none
 |m+1,a0,a1=>
  ((value_Equal m a0 a1).bind fun r0=>
  some r0)
noncomputable def i14_j3 (m:Nat) (rec1:List Dt→Dt→Int→Int→Option Int) (x0:List Dt) (x1:Dt) (x2 x3:Int):Option Int:=
 rec1 x0 x1 x2 (IntKind.wrap .i64 (x3+1))
noncomputable def i14_j2 (m:Nat) (rec1:List Dt→Dt→Int→Int→Option Int) (x0:List Dt) (x1:Dt) (x2 x3:Int):Option Int:=
  ((idx x0 x3).bind fun v0=>
    ((i15 m v0 x1).bind fun r1=>
 (bif r1 then
 some x3
 else
 i14_j3 m rec1 x0 x1 x2 x3)))
noncomputable def i14_j4 (m:Nat):Option Int:=
 some (-1)
noncomputable def i14_l1 (m:Nat):Nat→List Dt→Dt→Int→Int→Option Int
 |0,_,_,_,_=>none
 |M1+1,x0,x1,x2,x3=>
  (bif (decide (x3<x2)) then
  i14_j2 m (i14_l1 m M1) x0 x1 x2 x3
 else
  i14_j4 m)
noncomputable def i14_j0 (m:Nat) (x0:List Dt) (x1:Dt) (x2 x3:Int):Option Int:=
 i14_l1 m (Nat.succ m) x0 x1 x2 x3
noncomputable def i14:Nat→List Dt→Dt→Option Int
 |0,_,_=>none
 |m+1,a0,a1=>
  i14_j0 m a0 a1 (List.length a0:Int) 0
noncomputable def i13:Nat→List Dt→Dt→Option Bool
 |0,_,_=>none
 |m+1,a0,a1=>
  ((i14 m a0 a1).bind fun r0=>
  some (decide (0≤r0)))
noncomputable def i41_j6 (m:Nat) (rec1:Int→Int→Int→List Dt→Option (List Dt)) (rec4:Int→Int→Int→Int→List Dt→Option (List Dt)) (x0 x1 x2 x3:Int) (x4:List Dt):Option (List Dt):=
 rec4 x0 x1 x2 (IntKind.wrap .i64 (x3-1)) x4
noncomputable def i41_j5 (m:Nat) (rec1:Int→Int→Int→List Dt→Option (List Dt)) (rec4:Int→Int→Int→Int→List Dt→Option (List Dt)) (x0 x1 x2 x3:Int) (x4:List Dt):Option (List Dt):=
  ((inL x4 (IntKind.wrap .i64 (x3-1))).bind fun v5=>
    ((x4[(Int.toNat (IntKind.wrap .i64 (x3-1)))]?).bind fun v6=>
 ((inL x4 x3).bind fun v7=>
 ((x4[(Int.toNat x3)]?).bind fun v8=>
 ((inL x4 x3).bind fun v9=>
 ((x4[(Int.toNat x3)]?).bind fun v10=>
 ((inL (List.set x4 (Int.toNat x3) v6) (IntKind.wrap .i64 (x3-1))).bind fun v11=>
 (((List.set x4 (Int.toNat x3) v6)[(Int.toNat (IntKind.wrap .i64 (x3-1)))]?).bind fun v12=>
 i41_j6 m rec1 rec4 x0 x1 x2 x3 (List.set (List.set x4 (Int.toNat x3) v6) (Int.toNat (IntKind.wrap .i64 (x3-1))) v8)))))))))
noncomputable def i41_j7 (m:Nat) (rec1:Int→Int→Int→List Dt→Option (List Dt)) (x0 x1 x2:Int) (x3:List Dt):Option (List Dt):=
 rec1 x0 x1 (IntKind.wrap .i64 (x2+1)) x3
noncomputable def i41_l4 (m:Nat) (rec1:Int→Int→Int→List Dt→Option (List Dt)):Nat→Int→Int→Int→Int→List Dt→Option (List Dt)
  |0,_,_,_,_,_=>none
  |M4+1,x0,x1,x2,x3,x4=>
   (bif (decide (x0<x3)) then
   ((inL x4 x3).bind fun v0=>
 ((x4[(Int.toNat x3)]?).bind fun v1=>
 ((inL x4 (IntKind.wrap .i64 (x3-1))).bind fun v2=>
 ((x4[(Int.toNat (IntKind.wrap .i64 (x3-1)))]?).bind fun v3=>
 ((value_Compare m v1 v3).bind fun r4=>
 (bif (decide (r4<0)) then
 i41_j5 m rec1 (i41_l4 m rec1 M4) x0 x1 x2 x3 x4
 else
 i41_j7 m rec1 x0 x1 x2 x4))))))
  else
   i41_j7 m rec1 x0 x1 x2 x4)
noncomputable def i41_j3 (m:Nat) (rec1:Int→Int→Int→List Dt→Option (List Dt)) (x0 x1 x2 x3:Int) (x4:List Dt):Option (List Dt):=
 i41_l4 m rec1 (Nat.succ m) x0 x1 x2 x3 x4
noncomputable def i41_j2 (m:Nat) (rec1:Int→Int→Int→List Dt→Option (List Dt)) (x0 x1 x2:Int) (x3:List Dt):Option (List Dt):=
 i41_j3 m rec1 x0 x1 x2 x2 x3
noncomputable def i41_l1 (m:Nat):Nat→Int→Int→Int→List Dt→Option (List Dt)
 |0,_,_,_,_=>none
 |M1+1,x0,x1,x2,x3=>
  (bif (decide (x2<x1)) then
  i41_j2 m (i41_l1 m M1) x0 x1 x2 x3
 else
  some x3)
noncomputable def i41_j0 (m:Nat) (x0 x1 x2:Int) (x3:List Dt):Option (List Dt):=
 i41_l1 m (Nat.succ m) x0 x1 x2 x3
noncomputable def i41:Nat→Int→Int→List Dt→Option (List Dt)
 |0,_,_,_=>none
 |m+1,a0,a1,a2=>
  i41_j0 m a0 a1 (IntKind.wrap .i64 (a0+1)) a2
noncomputable def i42_j2 (m:Nat) (self42:Int→Int→Int→List Dt→Option (List Dt)) (rec1:Int→Int→Int→List Dt→Option (List Dt)) (x0 x1 x2:Int) (x3:List Dt):Option (List Dt):=
  ((inL x3 (IntKind.wrap .i64 (shrI IntKind.u64 (IntKind.wrap IntKind.u64 (IntKind.wrap .i64 (x1+x2))) 1))).bind fun v0=>
    ((x3[(Int.toNat (IntKind.wrap .i64 (shrI IntKind.u64 (IntKind.wrap IntKind.u64 (IntKind.wrap .i64 (x1+x2))) 1)))]?).bind fun v1=>
 ((inL x3 x0).bind fun v2=>
 ((x3[(Int.toNat x0)]?).bind fun v3=>
 ((value_Compare m v1 v3).bind fun r4=>
 (bif (decide (r4<0)) then
 rec1 x0 (IntKind.wrap .i64 ((IntKind.wrap .i64 (shrI IntKind.u64 (IntKind.wrap IntKind.u64 (IntKind.wrap .i64 (x1+x2))) 1))+1)) x2 x3
 else
 rec1 x0 x1 (IntKind.wrap .i64 (shrI IntKind.u64 (IntKind.wrap IntKind.u64 (IntKind.wrap .i64 (x1+x2))) 1)) x3))))))
noncomputable def i42_j7 (m:Nat) (self42:Int→Int→Int→List Dt→Option (List Dt)) (rec5:Int→Int→List Dt→Option (List Dt)) (x0 x1:Int) (x2:List Dt):Option (List Dt):=
 rec5 x0 (IntKind.wrap .i64 (x1+1)) x2
noncomputable def i42_j6 (m:Nat) (self42:Int→Int→Int→List Dt→Option (List Dt)) (rec5:Int→Int→List Dt→Option (List Dt)) (x0 x1:Int) (x2:List Dt):Option (List Dt):=
  ((inL x2 (IntKind.wrap .i64 (x1+1))).bind fun v5=>
    ((x2[(Int.toNat (IntKind.wrap .i64 (x1+1)))]?).bind fun v6=>
 ((inL x2 x1).bind fun v7=>
 ((x2[(Int.toNat x1)]?).bind fun v8=>
 ((inL x2 x1).bind fun v9=>
 ((x2[(Int.toNat x1)]?).bind fun v10=>
 ((inL (List.set x2 (Int.toNat x1) v6) (IntKind.wrap .i64 (x1+1))).bind fun v11=>
 (((List.set x2 (Int.toNat x1) v6)[(Int.toNat (IntKind.wrap .i64 (x1+1)))]?).bind fun v12=>
 i42_j7 m self42 rec5 x0 x1 (List.set (List.set x2 (Int.toNat x1) v6) (Int.toNat (IntKind.wrap .i64 (x1+1))) v8)))))))))
noncomputable def i42_l5 (m:Nat) (self42:Int→Int→Int→List Dt→Option (List Dt)):Nat→Int→Int→List Dt→Option (List Dt)
 |0,_,_,_=>none
 |M5+1,x0,x1,x2=>
  (bif (decide (x1<(IntKind.wrap .i64 (x0-1)))) then
  i42_j6 m self42 (i42_l5 m self42 M5) x0 x1 x2
 else
  some x2)
noncomputable def i42_j4 (m:Nat) (self42:Int→Int→Int→List Dt→Option (List Dt)) (x0 x1:Int) (x2:List Dt):Option (List Dt):=
 i42_l5 m self42 (Nat.succ m) x0 x1 x2
noncomputable def i42_j3 (m:Nat) (self42:Int→Int→Int→List Dt→Option (List Dt)) (x0 x1:Int) (x2:List Dt):Option (List Dt):=
 i42_j4 m self42 x1 x0 x2
noncomputable def i42_l1 (m:Nat) (self42:Int→Int→Int→List Dt→Option (List Dt)):Nat→Int→Int→Int→List Dt→Option (List Dt)
 |0,_,_,_,_=>none
 |M1+1,x0,x1,x2,x3=>
  (bif (decide (x1<x2)) then
  i42_j2 m self42 (i42_l1 m self42 M1) x0 x1 x2 x3
 else
  i42_j3 m self42 x0 x1 x3)
noncomputable def i42_j0 (m:Nat) (self42:Int→Int→Int→List Dt→Option (List Dt)) (x0 x1 x2:Int) (x3:List Dt):Option (List Dt):=
 i42_l1 m self42 (Nat.succ m) x0 x1 x2 x3
noncomputable def i42_j11 (m:Nat) (self42:Int→Int→Int→List Dt→Option (List Dt)) (rec10:Int→Int→Int→List Dt→Option (List Dt)) (x0 x1 x2:Int) (x3:List Dt):Option (List Dt):=
  ((inL x3 x0).bind fun v13=>
    ((x3[(Int.toNat x0)]?).bind fun v14=>
 ((inL x3 (IntKind.wrap .i64 (shrI IntKind.u64 (IntKind.wrap IntKind.u64 (IntKind.wrap .i64 (x1+x2))) 1))).bind fun v15=>
 ((x3[(Int.toNat (IntKind.wrap .i64 (shrI IntKind.u64 (IntKind.wrap IntKind.u64 (IntKind.wrap .i64 (x1+x2))) 1)))]?).bind fun v16=>
 ((value_Compare m v14 v16).bind fun r17=>
 (bif (Bool.not (decide (r17<0))) then
 rec10 x0 (IntKind.wrap .i64 ((IntKind.wrap .i64 (shrI IntKind.u64 (IntKind.wrap IntKind.u64 (IntKind.wrap .i64 (x1+x2))) 1))+1)) x2 x3
 else
 rec10 x0 x1 (IntKind.wrap .i64 (shrI IntKind.u64 (IntKind.wrap IntKind.u64 (IntKind.wrap .i64 (x1+x2))) 1)) x3))))))
noncomputable def i42_j16 (m:Nat) (self42:Int→Int→Int→List Dt→Option (List Dt)) (rec14:Int→Int→List Dt→Option (List Dt)) (x0 x1:Int) (x2:List Dt):Option (List Dt):=
 rec14 x0 (IntKind.wrap .i64 (x1-1)) x2
noncomputable def i42_j15 (m:Nat) (self42:Int→Int→Int→List Dt→Option (List Dt)) (rec14:Int→Int→List Dt→Option (List Dt)) (x0 x1:Int) (x2:List Dt):Option (List Dt):=
  ((inL x2 (IntKind.wrap .i64 (x1-1))).bind fun v18=>
    ((x2[(Int.toNat (IntKind.wrap .i64 (x1-1)))]?).bind fun v19=>
 ((inL x2 x1).bind fun v20=>
 ((x2[(Int.toNat x1)]?).bind fun v21=>
 ((inL x2 x1).bind fun v22=>
 ((x2[(Int.toNat x1)]?).bind fun v23=>
 ((inL (List.set x2 (Int.toNat x1) v19) (IntKind.wrap .i64 (x1-1))).bind fun v24=>
 (((List.set x2 (Int.toNat x1) v19)[(Int.toNat (IntKind.wrap .i64 (x1-1)))]?).bind fun v25=>
 i42_j16 m self42 rec14 x0 x1 (List.set (List.set x2 (Int.toNat x1) v19) (Int.toNat (IntKind.wrap .i64 (x1-1))) v21)))))))))
noncomputable def i42_l14 (m:Nat) (self42:Int→Int→Int→List Dt→Option (List Dt)):Nat→Int→Int→List Dt→Option (List Dt)
 |0,_,_,_=>none
 |M14+1,x0,x1,x2=>
  (bif (decide (x0<x1)) then
  i42_j15 m self42 (i42_l14 m self42 M14) x0 x1 x2
 else
  some x2)
noncomputable def i42_j13 (m:Nat) (self42:Int→Int→Int→List Dt→Option (List Dt)) (x0 x1:Int) (x2:List Dt):Option (List Dt):=
 i42_l14 m self42 (Nat.succ m) x0 x1 x2
noncomputable def i42_j12 (m:Nat) (self42:Int→Int→Int→List Dt→Option (List Dt)) (x0 x1:Int) (x2:List Dt):Option (List Dt):=
 i42_j13 m self42 x1 x0 x2
noncomputable def i42_l10 (m:Nat) (self42:Int→Int→Int→List Dt→Option (List Dt)):Nat→Int→Int→Int→List Dt→Option (List Dt)
 |0,_,_,_,_=>none
 |M10+1,x0,x1,x2,x3=>
  (bif (decide (x1<x2)) then
  i42_j11 m self42 (i42_l10 m self42 M10) x0 x1 x2 x3
 else
  i42_j12 m self42 x0 x1 x3)
noncomputable def i42_j9 (m:Nat) (self42:Int→Int→Int→List Dt→Option (List Dt)) (x0 x1 x2:Int) (x3:List Dt):Option (List Dt):=
 i42_l10 m self42 (Nat.succ m) x0 x1 x2 x3
noncomputable def i42_j21 (m:Nat) (self42:Int→Int→Int→List Dt→Option (List Dt)) (rec20:Int→Int→Int→Int→Int→Int→Int→Int→List Dt→Option (List Dt)) (x0 x1 x2 x3 x4 x5 x6 x7:Int) (x8:List Dt):Option (List Dt):=
  ((inL x8 (IntKind.wrap .i64 (x7-(IntKind.wrap .i64 (shrI IntKind.u64 (IntKind.wrap IntKind.u64 (IntKind.wrap .i64 (x5+x6))) 1))))).bind fun v26=>
    ((x8[(Int.toNat (IntKind.wrap .i64 (x7-(IntKind.wrap .i64 (shrI IntKind.u64 (IntKind.wrap IntKind.u64 (IntKind.wrap .i64 (x5+x6))) 1)))))]?).bind fun v27=>
 ((inL x8 (IntKind.wrap .i64 (shrI IntKind.u64 (IntKind.wrap IntKind.u64 (IntKind.wrap .i64 (x5+x6))) 1))).bind fun v28=>
 ((x8[(Int.toNat (IntKind.wrap .i64 (shrI IntKind.u64 (IntKind.wrap IntKind.u64 (IntKind.wrap .i64 (x5+x6))) 1)))]?).bind fun v29=>
 ((value_Compare m v27 v29).bind fun r30=>
 (bif (Bool.not (decide (r30<0))) then
 rec20 x0 x1 x2 x3 x4 (IntKind.wrap .i64 ((IntKind.wrap .i64 (shrI IntKind.u64 (IntKind.wrap IntKind.u64 (IntKind.wrap .i64 (x5+x6))) 1))+1)) x6 x7 x8
 else
 rec20 x0 x1 x2 x3 x4 x5 (IntKind.wrap .i64 (shrI IntKind.u64 (IntKind.wrap IntKind.u64 (IntKind.wrap .i64 (x5+x6))) 1)) x7 x8))))))
noncomputable def i42_j27 (m:Nat) (self42:Int→Int→Int→List Dt→Option (List Dt)) (x0 x1 x2:Int) (x3:Bool) (x4:List Dt):Option (List Dt):=
  (bif x3 then
   ((self42 x1 x2 x0 x4).bind fun r33=>
 some r33)
  else
   some x4)
noncomputable def i42_j26 (m:Nat) (self42:Int→Int→Int→List Dt→Option (List Dt)) (x0 x1 x2:Int) (x3:List Dt):Option (List Dt):=
 (bif (decide (x1<x2)) then
  i42_j27 m self42 x0 x1 x2 (decide (x2<x0)) x3
 else
  i42_j27 m self42 x0 x1 x2 false x3)
noncomputable def i42_j25 (m:Nat) (self42:Int→Int→Int→List Dt→Option (List Dt)) (x0 x1 x2 x3 x4:Int) (x5:Bool) (x6:List Dt):Option (List Dt):=
  (bif x5 then
   ((self42 x0 x3 x2 x6).bind fun r32=>
 i42_j26 m self42 x1 x2 x4 r32)
  else
   i42_j26 m self42 x1 x2 x4 x6)
noncomputable def i42_j24 (m:Nat) (self42:Int→Int→Int→List Dt→Option (List Dt)) (x0 x1 x2 x3 x4:Int) (x5:List Dt):Option (List Dt):=
 (bif (decide (x0<x3)) then
  i42_j25 m self42 x0 x1 x2 x3 x4 (decide (x3<x2)) x5
 else
  i42_j25 m self42 x0 x1 x2 x3 x4 false x5)
noncomputable def i42_j23 (m:Nat) (self42:Int→Int→Int→List Dt→Option (List Dt)) (x0 x1 x2 x3 x4 x5:Int) (x6:Bool) (x7:List Dt):Option (List Dt):=
  (bif x6 then
   ((i43 m x4 x1 x5 x7).bind fun r31=>
 i42_j24 m self42 x0 x2 x3 x4 x5 r31)
  else
   i42_j24 m self42 x0 x2 x3 x4 x5 x7)
noncomputable def i42_j22 (m:Nat) (self42:Int→Int→Int→List Dt→Option (List Dt)) (x0 x1 x2 x3 x4 x5:Int) (x6:List Dt):Option (List Dt):=
 (bif (decide (x5<x1)) then
  i42_j23 m self42 x0 x1 x2 x3 x5 (IntKind.wrap .i64 (x4-x5)) (decide (x1<(IntKind.wrap .i64 (x4-x5)))) x6
 else
  i42_j23 m self42 x0 x1 x2 x3 x5 (IntKind.wrap .i64 (x4-x5)) false x6)
noncomputable def i42_l20 (m:Nat) (self42:Int→Int→Int→List Dt→Option (List Dt)):Nat→Int→Int→Int→Int→Int→Int→Int→Int→List Dt→Option (List Dt)
 |0,_,_,_,_,_,_,_,_,_=>none
 |M20+1,x0,x1,x2,x3,x4,x5,x6,x7,x8=>
  (bif (decide (x5<x6)) then
  i42_j21 m self42 (i42_l20 m self42 M20) x0 x1 x2 x3 x4 x5 x6 x7 x8
 else
  i42_j22 m self42 x0 x1 x2 x3 x4 x5 x8)
noncomputable def i42_j19 (m:Nat) (self42:Int→Int→Int→List Dt→Option (List Dt)) (x0 x1 x2 x3 x4 x5 x6 x7:Int) (x8:List Dt):Option (List Dt):=
 i42_l20 m self42 (Nat.succ m) x0 x1 x2 x3 x4 x5 x6 x7 x8
noncomputable def i42_j18 (m:Nat) (self42:Int→Int→Int→List Dt→Option (List Dt)) (x0 x1 x2 x3 x4 x5 x6:Int) (x7:List Dt):Option (List Dt):=
 i42_j19 m self42 x0 x1 x2 x3 x4 x5 x6 (IntKind.wrap .i64 (x4-1)) x7
noncomputable def i42_j17 (m:Nat) (self42:Int→Int→Int→List Dt→Option (List Dt)) (x0 x1 x2:Int) (x3:List Dt):Option (List Dt):=
 (bif (decide ((IntKind.wrap .i64 (shrI IntKind.u64 (IntKind.wrap IntKind.u64 (IntKind.wrap .i64 (x0+x2))) 1))<x1)) then
  i42_j18 m self42 x0 x1 x2 (IntKind.wrap .i64 (shrI IntKind.u64 (IntKind.wrap IntKind.u64 (IntKind.wrap .i64 (x0+x2))) 1)) (IntKind.wrap .i64 ((IntKind.wrap .i64 (shrI IntKind.u64 (IntKind.wrap IntKind.u64 (IntKind.wrap .i64 (x0+x2))) 1))+x1)) (IntKind.wrap .i64 ((IntKind.wrap .i64 ((IntKind.wrap .i64 (shrI IntKind.u64 (IntKind.wrap IntKind.u64 (IntKind.wrap .i64 (x0+x2))) 1))+x1))-x2)) (IntKind.wrap .i64 (shrI IntKind.u64 (IntKind.wrap IntKind.u64 (IntKind.wrap .i64 (x0+x2))) 1)) x3
 else
  i42_j18 m self42 x0 x1 x2 (IntKind.wrap .i64 (shrI IntKind.u64 (IntKind.wrap IntKind.u64 (IntKind.wrap .i64 (x0+x2))) 1)) (IntKind.wrap .i64 ((IntKind.wrap .i64 (shrI IntKind.u64 (IntKind.wrap IntKind.u64 (IntKind.wrap .i64 (x0+x2))) 1))+x1)) x0 x1 x3)
noncomputable def i42_j8 (m:Nat) (self42:Int→Int→Int→List Dt→Option (List Dt)) (x0 x1 x2:Int) (x3:List Dt):Option (List Dt):=
 (bif ((IntKind.wrap .i64 (x2-x1))==1) then
  i42_j9 m self42 x1 x0 x1 x3
 else
  i42_j17 m self42 x0 x1 x2 x3)
noncomputable def i42:Nat→Int→Int→Int→List Dt→Option (List Dt)
 |0,_,_,_,_=>none
 |m+1,a0,a1,a2,a3=>
  (bif ((IntKind.wrap .i64 (a1-a0))==1) then
  i42_j0 m (i42 m) a0 a1 a2 a3
 else
  i42_j8 m (i42 m) a0 a1 a2 a3)
noncomputable def i40_j2 (m:Nat) (rec1:Int→Int→Int→Int→List Dt→Option (List Dt)) (x0 x1 x2 x3:Int) (x4:List Dt):Option (List Dt):=
 ((i41 m x2 x3 x4).bind fun r0=>
   rec1 x0 x1 x3 (IntKind.wrap .i64 (x3+x1)) r0)
noncomputable def i40_j9 (m:Nat) (rec5:Int→Int→List Dt→Option (List Dt)) (rec8:Int→Int→Int→Int→List Dt→Option (List Dt)) (x0 x1 x2 x3:Int) (x4:List Dt):Option (List Dt):=
 ((i42 m x2 (IntKind.wrap .i64 (x2+x1)) x3 x4).bind fun r2=>
   rec8 x0 x1 x3 (IntKind.wrap .i64 (x3+(IntKind.wrap .i64 (2*x1)))) r2)
noncomputable def i40_j11 (m:Nat) (rec5:Int→Int→List Dt→Option (List Dt)) (x0 x1:Int) (x2:List Dt):Option (List Dt):=
 rec5 x0 (IntKind.wrap .i64 (x1*2)) x2
noncomputable def i40_j10 (m:Nat) (rec5:Int→Int→List Dt→Option (List Dt)) (x0 x1 x2:Int) (x3:List Dt):Option (List Dt):=
  (bif (decide ((IntKind.wrap .i64 (x2+x1))<x0)) then
   ((i42 m x2 (IntKind.wrap .i64 (x2+x1)) x0 x3).bind fun r3=>
 i40_j11 m rec5 x0 x1 r3)
  else
   i40_j11 m rec5 x0 x1 x3)
noncomputable def i40_l8 (m:Nat) (rec5:Int→Int→List Dt→Option (List Dt)):Nat→Int→Int→Int→Int→List Dt→Option (List Dt)
 |0,_,_,_,_,_=>none
 |M8+1,x0,x1,x2,x3,x4=>
  (bif (decide (x3≤x0)) then
  i40_j9 m rec5 (i40_l8 m rec5 M8) x0 x1 x2 x3 x4
 else
  i40_j10 m rec5 x0 x1 x2 x4)
noncomputable def i40_j7 (m:Nat) (rec5:Int→Int→List Dt→Option (List Dt)) (x0 x1 x2 x3:Int) (x4:List Dt):Option (List Dt):=
 i40_l8 m rec5 (Nat.succ m) x0 x1 x2 x3 x4
noncomputable def i40_j6 (m:Nat) (rec5:Int→Int→List Dt→Option (List Dt)) (x0 x1:Int) (x2:List Dt):Option (List Dt):=
 i40_j7 m rec5 x0 x1 0 (IntKind.wrap .i64 (2*x1)) x2
noncomputable def i40_l5 (m:Nat):Nat→Int→Int→List Dt→Option (List Dt)
 |0,_,_,_=>none
 |M5+1,x0,x1,x2=>
  (bif (decide (x1<x0)) then
  i40_j6 m (i40_l5 m M5) x0 x1 x2
 else
  some x2)
noncomputable def i40_j4 (m:Nat) (x0 x1:Int) (x2:List Dt):Option (List Dt):=
 i40_l5 m (Nat.succ m) x0 x1 x2
noncomputable def i40_j3 (m:Nat) (x0 x1 x2:Int) (x3:List Dt):Option (List Dt):=
 ((i41 m x2 x0 x3).bind fun r1=>
   i40_j4 m x0 x1 r1)
noncomputable def i40_l1 (m:Nat):Nat→Int→Int→Int→Int→List Dt→Option (List Dt)
 |0,_,_,_,_,_=>none
 |M1+1,x0,x1,x2,x3,x4=>
  (bif (decide (x3≤x0)) then
  i40_j2 m (i40_l1 m M1) x0 x1 x2 x3 x4
 else
  i40_j3 m x0 x1 x2 x4)
noncomputable def i40_j0 (m:Nat) (x0 x1 x2 x3:Int) (x4:List Dt):Option (List Dt):=
 i40_l1 m (Nat.succ m) x0 x1 x2 x3 x4
noncomputable def i40:Nat→Int→List Dt→Option (List Dt)
 |0,_,_=>none
 |m+1,a0,a1=>
  i40_j0 m a0 20 0 20 a1
noncomputable def i39:Nat→List Dt→Option (List Dt)
 |0,_=>none
 |m+1,a0=>
  ((i40 m (List.length a0:Int) a0).bind fun r0=>
  some r0)
noncomputable def schema_repeats_j3 (m:Nat) (rec1:Int→List Dt→Option Bool) (x0:Int) (x1:List Dt):Option Bool:=
 rec1 (IntKind.wrap .i64 (x0+1)) x1
noncomputable def schema_repeats_j2 (m:Nat) (rec1:Int→List Dt→Option Bool) (x0:Int) (x1:List Dt):Option Bool:=
  ((inL x1 (IntKind.wrap .i64 (x0-1))).bind fun v2=>
    ((x1[(Int.toNat (IntKind.wrap .i64 (x0-1)))]?).bind fun v3=>
 ((inL x1 x0).bind fun v4=>
 ((x1[(Int.toNat x0)]?).bind fun v5=>
 ((value_Equal m v3 v5).bind fun r6=>
 (bif r6 then
 some true
 else
 schema_repeats_j3 m rec1 x0 x1))))))
noncomputable def schema_repeats_j4 (m:Nat):Option Bool:=
 some false
noncomputable def schema_repeats_l1 (m:Nat):Nat→Int→List Dt→Option Bool
 |0,_,_=>none
 |M1+1,x0,x1=>
  (bif (decide (x0<(List.length x1:Int))) then
  schema_repeats_j2 m (schema_repeats_l1 m M1) x0 x1
 else
  schema_repeats_j4 m)
noncomputable def schema_repeats_j0 (m:Nat) (x0:Int) (x1:List Dt):Option Bool:=
 schema_repeats_l1 m (Nat.succ m) x0 x1
noncomputable def schema_repeats:Nat→List Dt→Option Bool
  |0,_=>none
  |m+1,a0=>
   ((slices_Clone a0).bind fun r0=>
   ((i39 m r0).bind fun r1=>
 schema_repeats_j0 m 1 r1))
noncomputable def i24_j7 (m:Nat) (self24:Dt→Dt→List Dt→List Dt→Option (List Dt)) (rec5:List Dt→Int→Int→List Dt→Dt→Dt→List Dt→Option (List Dt)) (x0:List Dt) (x1 x2:Int) (x3:List Dt) (x4 x5:Dt) (x6:List Dt):Option (List Dt):=
 rec5 x0 x1 (IntKind.wrap .i64 (x2+1)) x3 x4 x5 x6
noncomputable def i24_j6 (m:Nat) (self24:Dt→Dt→List Dt→List Dt→Option (List Dt)) (rec5:List Dt→Int→Int→List Dt→Dt→Dt→List Dt→Option (List Dt)) (x0:List Dt) (x1 x2:Int) (x3:List Dt) (x4 x5:Dt) (x6:List Dt):Option (List Dt):=
  ((idx x0 x2).bind fun v10=>
    ((schema_field m x5 (Dt.toStr v10)).bind fun r11=>
 ((i17 m (Bool.not r11.2) 6 [(Dt.str (Dt.toStr v10))] x3 x6).bind fun r12=>
 i24_j7 m self24 rec5 x0 x1 x2 r12.2 x4 x5 r12.1)))
noncomputable def i24_j12 (m:Nat) (self24:Dt→Dt→List Dt→List Dt→Option (List Dt)) (rec10:List Dt→Int→Int→List Dt→Dt→Dt→List Dt→Option (List Dt)) (x0:List Dt) (x1 x2:Int) (x3:List Dt) (x4 x5:Dt) (x6:List Dt):Option (List Dt):=
 rec10 x0 x1 (IntKind.wrap .i64 (x2+1)) x3 x4 x5 x6
noncomputable def i24_j11 (m:Nat) (self24:Dt→Dt→List Dt→List Dt→Option (List Dt)) (rec10:List Dt→Int→Int→List Dt→Dt→Dt→List Dt→Option (List Dt)) (x0:List Dt) (x1 x2:Int) (x3:List Dt) (x4 x5:Dt) (x6:List Dt):Option (List Dt):=
  ((idx x0 x2).bind fun v13=>
    (bif (Dt.B x4 10) then
 ((i21 m (Dt.L x4 9) v13).bind fun r14=>
 ((i17 m (Bool.not r14) 7 [(Dt.str (Dt.S v13 0))] x3 x6).bind fun r15=>
 i24_j12 m self24 rec10 x0 x1 x2 r15.2 x4 x5 r15.1))
    else
 ((i17 m false 7 [(Dt.str (Dt.S v13 0))] x3 x6).bind fun r16=>
 i24_j12 m self24 rec10 x0 x1 x2 r16.2 x4 x5 r16.1)))
noncomputable def i24_j17 (m:Nat) (self24:Dt→Dt→List Dt→List Dt→Option (List Dt)) (rec15:List Dt→Int→Int→List Dt→Dt→Dt→List Dt→Option (List Dt)) (x0:List Dt) (x1 x2:Int) (x3:List Dt) (x4 x5:Dt) (x6:List Dt):Option (List Dt):=
 rec15 x0 x1 (IntKind.wrap .i64 (x2+1)) x3 x4 x5 x6
noncomputable def i24_j16 (m:Nat) (self24:Dt→Dt→List Dt→List Dt→Option (List Dt)) (rec15:List Dt→Int→Int→List Dt→Dt→Dt→List Dt→Option (List Dt)) (x0:List Dt) (x1 x2:Int) (x3:List Dt) (x4 x5:Dt) (x6:List Dt):Option (List Dt):=
  ((idx x0 x2).bind fun v17=>
    ((schema_field m x5 (Dt.S v17 0)).bind fun r18=>
 (bif r18.2 then
 ((slices_Concat m [(Dt.lst x6),(Dt.lst [(Dt.str (Dt.S v17 0))])]).bind fun r19=>
 ((self24 (Dt.fld v17 1) r18.1 r19 x3).bind fun r20=>
 i24_j17 m self24 rec15 x0 x1 x2 r20 x4 x5 x6))
 else
 i24_j17 m self24 rec15 x0 x1 x2 x3 x4 x5 x6)))
noncomputable def i24_j26 (m:Nat) (self24:Dt→Dt→List Dt→List Dt→Option (List Dt)) (rec21:List Dt→Int→Int→List Dt→Dt→List Dt→Option (List Dt)) (rec24:List Dt→Int→Int→List Dt→Int→Int→List Dt→Dt→List Dt→Dt→Option (List Dt)) (x0:List Dt) (x1 x2:Int) (x3:List Dt) (x4 x5:Int) (x6:List Dt) (x7:Dt) (x8:List Dt) (x9:Dt):Option (List Dt):=
 rec24 x0 x1 x2 x3 x4 (IntKind.wrap .i64 (x5+1)) x6 x7 x8 x9
noncomputable def i24_j25 (m:Nat) (self24:Dt→Dt→List Dt→List Dt→Option (List Dt)) (rec21:List Dt→Int→Int→List Dt→Dt→List Dt→Option (List Dt)) (rec24:List Dt→Int→Int→List Dt→Int→Int→List Dt→Dt→List Dt→Dt→Option (List Dt)) (x0:List Dt) (x1 x2:Int) (x3:List Dt) (x4 x5:Int) (x6:List Dt) (x7:Dt) (x8:List Dt) (x9:Dt):Option (List Dt):=
  ((idx x3 x5).bind fun v24=>
    ((strconv_Itoa x5).bind fun r25=>
 ((slices_Concat m [(Dt.lst x8),(Dt.lst [(Dt.str r25)])]).bind fun r26=>
 ((self24 x9 v24 r26 x6).bind fun r27=>
 i24_j26 m self24 rec21 rec24 x0 x1 x2 x3 x4 x5 r27 x7 x8 x9))))
noncomputable def i24_j27 (m:Nat) (self24:Dt→Dt→List Dt→List Dt→Option (List Dt)) (rec21:List Dt→Int→Int→List Dt→Dt→List Dt→Option (List Dt)) (x0:List Dt) (x1 x2:Int) (x3:List Dt) (x4:Dt) (x5:List Dt):Option (List Dt):=
 rec21 x0 x1 (IntKind.wrap .i64 (x2+1)) x3 x4 x5
noncomputable def i24_l24 (m:Nat) (self24:Dt→Dt→List Dt→List Dt→Option (List Dt)) (rec21:List Dt→Int→Int→List Dt→Dt→List Dt→Option (List Dt)):Nat→List Dt→Int→Int→List Dt→Int→Int→List Dt→Dt→List Dt→Dt→Option (List Dt)
 |0,_,_,_,_,_,_,_,_,_,_=>none
 |M24+1,x0,x1,x2,x3,x4,x5,x6,x7,x8,x9=>
  (bif (decide (x5<x4)) then
  i24_j25 m self24 rec21 (i24_l24 m self24 rec21 M24) x0 x1 x2 x3 x4 x5 x6 x7 x8 x9
 else
  i24_j27 m self24 rec21 x0 x1 x2 x6 x7 x8)
noncomputable def i24_j23 (m:Nat) (self24:Dt→Dt→List Dt→List Dt→Option (List Dt)) (rec21:List Dt→Int→Int→List Dt→Dt→List Dt→Option (List Dt)) (x0:List Dt) (x1 x2:Int) (x3:List Dt) (x4 x5:Int) (x6:List Dt) (x7:Dt) (x8:List Dt) (x9:Dt):Option (List Dt):=
 i24_l24 m self24 rec21 (Nat.succ m) x0 x1 x2 x3 x4 x5 x6 x7 x8 x9
noncomputable def i24_j22 (m:Nat) (self24:Dt→Dt→List Dt→List Dt→Option (List Dt)) (rec21:List Dt→Int→Int→List Dt→Dt→List Dt→Option (List Dt)) (x0:List Dt) (x1 x2:Int) (x3:List Dt) (x4:Dt) (x5:List Dt):Option (List Dt):=
 ((idx x0 x2).bind fun v23=>
   i24_j23 m self24 rec21 x0 x1 x2 (Dt.L x4 3) (List.length (Dt.L x4 3):Int) 0 x3 x4 x5 v23)
noncomputable def i24_j28 (m:Nat) (self24:Dt→Dt→List Dt→List Dt→Option (List Dt)) (x0:List Dt):Option (List Dt):=
 some x0
noncomputable def i24_l21 (m:Nat) (self24:Dt→Dt→List Dt→List Dt→Option (List Dt)):Nat→List Dt→Int→Int→List Dt→Dt→List Dt→Option (List Dt)
 |0,_,_,_,_,_,_=>none
 |M21+1,x0,x1,x2,x3,x4,x5=>
  (bif (decide (x2<x1)) then
  i24_j22 m self24 (i24_l21 m self24 M21) x0 x1 x2 x3 x4 x5
 else
  i24_j28 m self24 x3)
noncomputable def i24_j20 (m:Nat) (self24:Dt→Dt→List Dt→List Dt→Option (List Dt)) (x0:List Dt) (x1 x2:Int) (x3:List Dt) (x4:Dt) (x5:List Dt):Option (List Dt):=
 i24_l21 m self24 (Nat.succ m) x0 x1 x2 x3 x4 x5
noncomputable def i24_j19 (m:Nat) (self24:Dt→Dt→List Dt→List Dt→Option (List Dt)) (x0:List Dt) (x1 x2:Dt) (x3:List Dt):Option (List Dt):=
 i24_j20 m self24 (Dt.L x1 11) (List.length (Dt.L x1 11):Int) 0 x0 x2 x3
noncomputable def i24_j18 (m:Nat) (self24:Dt→Dt→List Dt→List Dt→Option (List Dt)) (x0:List Dt) (x1 x2:Dt) (x3:List Dt):Option (List Dt):=
  (bif ((Dt.I x2 0)==6) then
   (bif (Dt.B x1 12) then
 ((schema_repeats m (Dt.L x2 3)).bind fun r21=>
 ((i17 m r21 8 [] x0 x3).bind fun r22=>
 i24_j19 m self24 r22.2 x1 x2 r22.1))
   else
 ((i17 m false 8 [] x0 x3).bind fun r28=>
 i24_j19 m self24 r28.2 x1 x2 r28.1))
  else
   i24_j28 m self24 x0)
noncomputable def i24_l15 (m:Nat) (self24:Dt→Dt→List Dt→List Dt→Option (List Dt)):Nat→List Dt→Int→Int→List Dt→Dt→Dt→List Dt→Option (List Dt)
 |0,_,_,_,_,_,_,_=>none
 |M15+1,x0,x1,x2,x3,x4,x5,x6=>
  (bif (decide (x2<x1)) then
  i24_j16 m self24 (i24_l15 m self24 M15) x0 x1 x2 x3 x4 x5 x6
 else
  i24_j18 m self24 x3 x4 x5 x6)
noncomputable def i24_j14 (m:Nat) (self24:Dt→Dt→List Dt→List Dt→Option (List Dt)) (x0:List Dt) (x1 x2:Int) (x3:List Dt) (x4 x5:Dt) (x6:List Dt):Option (List Dt):=
 i24_l15 m self24 (Nat.succ m) x0 x1 x2 x3 x4 x5 x6
noncomputable def i24_j13 (m:Nat) (self24:Dt→Dt→List Dt→List Dt→Option (List Dt)) (x0:List Dt) (x1 x2:Dt) (x3:List Dt):Option (List Dt):=
 i24_j14 m self24 (Dt.L x1 9) (List.length (Dt.L x1 9):Int) 0 x0 x1 x2 x3
noncomputable def i24_l10 (m:Nat) (self24:Dt→Dt→List Dt→List Dt→Option (List Dt)):Nat→List Dt→Int→Int→List Dt→Dt→Dt→List Dt→Option (List Dt)
 |0,_,_,_,_,_,_,_=>none
 |M10+1,x0,x1,x2,x3,x4,x5,x6=>
  (bif (decide (x2<x1)) then
  i24_j11 m self24 (i24_l10 m self24 M10) x0 x1 x2 x3 x4 x5 x6
 else
  i24_j13 m self24 x3 x4 x5 x6)
noncomputable def i24_j9 (m:Nat) (self24:Dt→Dt→List Dt→List Dt→Option (List Dt)) (x0:List Dt) (x1 x2:Int) (x3:List Dt) (x4 x5:Dt) (x6:List Dt):Option (List Dt):=
 i24_l10 m self24 (Nat.succ m) x0 x1 x2 x3 x4 x5 x6
noncomputable def i24_j8 (m:Nat) (self24:Dt→Dt→List Dt→List Dt→Option (List Dt)) (x0:List Dt) (x1 x2:Dt) (x3:List Dt):Option (List Dt):=
 i24_j9 m self24 (Dt.L x2 4) (List.length (Dt.L x2 4):Int) 0 x0 x1 x2 x3
noncomputable def i24_l5 (m:Nat) (self24:Dt→Dt→List Dt→List Dt→Option (List Dt)):Nat→List Dt→Int→Int→List Dt→Dt→Dt→List Dt→Option (List Dt)
 |0,_,_,_,_,_,_,_=>none
 |M5+1,x0,x1,x2,x3,x4,x5,x6=>
  (bif (decide (x2<x1)) then
  i24_j6 m self24 (i24_l5 m self24 M5) x0 x1 x2 x3 x4 x5 x6
 else
  i24_j8 m self24 x3 x4 x5 x6)
noncomputable def i24_j4 (m:Nat) (self24:Dt→Dt→List Dt→List Dt→Option (List Dt)) (x0:List Dt) (x1 x2:Int) (x3:List Dt) (x4 x5:Dt) (x6:List Dt):Option (List Dt):=
 i24_l5 m self24 (Nat.succ m) x0 x1 x2 x3 x4 x5 x6
noncomputable def i24_j3 (m:Nat) (self24:Dt→Dt→List Dt→List Dt→Option (List Dt)) (x0:List Dt) (x1 x2:Dt) (x3:List Dt):Option (List Dt):=
 (bif ((Dt.I x2 0)==5) then
  i24_j4 m self24 (Dt.L x1 8) (List.length (Dt.L x1 8):Int) 0 x0 x1 x2 x3
 else
  i24_j18 m self24 x0 x1 x2 x3)
noncomputable def i24_j2 (m:Nat) (self24:Dt→Dt→List Dt→List Dt→Option (List Dt)) (x0:List Dt) (x1 x2:Dt) (x3:List Dt):Option (List Dt):=
  ((schema_length m x2).bind fun r8=>
    (bif r8.2 then
 (bif (decide (r8.1<(Dt.I x1 6))) then
 ((i17 m true 5 [] x0 x3).bind fun r9=>
 i24_j3 m self24 r9.2 x1 x2 r9.1)
 else
 (bif (decide (0≤(Dt.I x1 7))) then
 ((i17 m (decide ((Dt.I x1 7)<r8.1)) 5 [] x0 x3).bind fun r29=>
 i24_j3 m self24 r29.2 x1 x2 r29.1)
 else
 ((i17 m false 5 [] x0 x3).bind fun r30=>
 i24_j3 m self24 r30.2 x1 x2 r30.1)))
    else
 ((i17 m false 5 [] x0 x3).bind fun r31=>
 i24_j3 m self24 r31.2 x1 x2 r31.1)))
noncomputable def i24_j1 (m:Nat) (self24:Dt→Dt→List Dt→List Dt→Option (List Dt)) (x0:List Dt) (x1 x2:Dt) (x3:List Dt):Option (List Dt):=
  (bif (Dt.B x1 3) then
   ((value_Compare m x2 (Dt.fld x1 4)).bind fun r6=>
 ((i17 m (decide (0<r6)) 4 [] x0 x3).bind fun r7=>
 i24_j2 m self24 r7.2 x1 x2 r7.1))
  else
   ((i17 m false 4 [] x0 x3).bind fun r32=>
 i24_j2 m self24 r32.2 x1 x2 r32.1))
noncomputable def i24_j0 (m:Nat) (self24:Dt→Dt→List Dt→List Dt→Option (List Dt)) (x0:List Dt) (x1 x2:Dt) (x3:List Dt):Option (List Dt):=
  (bif (Dt.B x1 1) then
   ((value_Compare m x2 (Dt.fld x1 2)).bind fun r4=>
 ((i17 m (decide (r4<0)) 3 [] x0 x3).bind fun r5=>
 i24_j1 m self24 r5.2 x1 x2 r5.1))
  else
   ((i17 m false 3 [] x0 x3).bind fun r33=>
 i24_j1 m self24 r33.2 x1 x2 r33.1))
noncomputable def i24:Nat→Dt→Dt→List Dt→List Dt→Option (List Dt)
  |0,_,_,_,_=>none
  |m+1,a0,a1,a2,a3=>
   ((schema_hasKind m (Dt.I a0 0) (Dt.I a1 0)).bind fun r0=>
   ((i17 m (Bool.not r0) 1 [] a3 a2).bind fun r1=>
 (bif (decide (0<(List.length (Dt.L a0 5):Int))) then
 ((i13 m (Dt.L a0 5) a1).bind fun r2=>
 ((i17 m (Bool.not r2) 2 [] r1.2 r1.1).bind fun r3=>
 i24_j0 m (i24 m) r3.2 a0 a1 r3.1))
 else
 ((i17 m false 2 [] r1.2 r1.1).bind fun r34=>
 i24_j0 m (i24 m) r34.2 a0 a1 r34.1))))
noncomputable def i9_j7 (m:Nat) (rec5:List Dt→Int→Int→List Dt→List Dt→Dt→Dt→List Dt→Option (List Dt×List Dt)) (x0:List Dt) (x1 x2:Int) (x3 x4:List Dt) (x5 x6:Dt) (x7:List Dt):Option (List Dt×List Dt):=
 rec5 x0 x1 (IntKind.wrap .i64 (x2+1)) x3 x4 x5 x6 x7
noncomputable def i9_j6 (m:Nat) (rec5:List Dt→Int→Int→List Dt→List Dt→Dt→Dt→List Dt→Option (List Dt×List Dt)) (x0:List Dt) (x1 x2:Int) (x3 x4:List Dt) (x5 x6:Dt) (x7:List Dt):Option (List Dt×List Dt):=
  ((idx x0 x2).bind fun v10=>
    ((schema_field m x6 (Dt.toStr v10)).bind fun r11=>
 ((i17 m (Bool.not r11.2) 6 [(Dt.str (Dt.toStr v10))] x4 x7).bind fun r12=>
 i9_j7 m rec5 x0 x1 x2 x3 r12.2 x5 x6 r12.1)))
noncomputable def i9_j12 (m:Nat) (rec10:List Dt→Int→Int→List Dt→List Dt→Dt→Dt→List Dt→Option (List Dt×List Dt)) (x0:List Dt) (x1 x2:Int) (x3 x4:List Dt) (x5 x6:Dt) (x7:List Dt):Option (List Dt×List Dt):=
 rec10 x0 x1 (IntKind.wrap .i64 (x2+1)) x3 x4 x5 x6 x7
noncomputable def i9_j11 (m:Nat) (rec10:List Dt→Int→Int→List Dt→List Dt→Dt→Dt→List Dt→Option (List Dt×List Dt)) (x0:List Dt) (x1 x2:Int) (x3 x4:List Dt) (x5 x6:Dt) (x7:List Dt):Option (List Dt×List Dt):=
  ((idx x0 x2).bind fun v13=>
    (bif (Dt.B x5 10) then
 ((i21 m (Dt.L x5 9) v13).bind fun r14=>
 ((i17 m (Bool.not r14) 7 [(Dt.str (Dt.S v13 0))] x4 x7).bind fun r15=>
 i9_j12 m rec10 x0 x1 x2 x3 r15.2 x5 x6 r15.1))
    else
 ((i17 m false 7 [(Dt.str (Dt.S v13 0))] x4 x7).bind fun r16=>
 i9_j12 m rec10 x0 x1 x2 x3 r16.2 x5 x6 r16.1)))
noncomputable def i9_j17 (m:Nat) (rec15:List Dt→Int→Int→List Dt→List Dt→Dt→Dt→List Dt→Option (List Dt×List Dt)) (x0:List Dt) (x1 x2:Int) (x3 x4:List Dt) (x5 x6:Dt) (x7:List Dt):Option (List Dt×List Dt):=
 rec15 x0 x1 (IntKind.wrap .i64 (x2+1)) x3 x4 x5 x6 x7
noncomputable def i9_j16 (m:Nat) (rec15:List Dt→Int→Int→List Dt→List Dt→Dt→Dt→List Dt→Option (List Dt×List Dt)) (x0:List Dt) (x1 x2:Int) (x3 x4:List Dt) (x5 x6:Dt) (x7:List Dt):Option (List Dt×List Dt):=
  ((idx x0 x2).bind fun v17=>
    ((schema_field m x6 (Dt.S v17 0)).bind fun r18=>
 (bif r18.2 then
 ((slices_Concat m [(Dt.lst x7),(Dt.lst [(Dt.str (Dt.S v17 0))])]).bind fun r19=>
 ((i24 m (Dt.fld v17 1) r18.1 r19 x4).bind fun r20=>
 i9_j17 m rec15 x0 x1 x2 x3 r20 x5 x6 x7))
 else
 i9_j17 m rec15 x0 x1 x2 x3 x4 x5 x6 x7)))
noncomputable def i9_j26 (m:Nat) (rec21:List Dt→Int→Int→List Dt→List Dt→Dt→List Dt→Option (List Dt×List Dt)) (rec24:List Dt→Int→Int→List Dt→Int→Int→List Dt→List Dt→Dt→List Dt→Dt→Option (List Dt×List Dt)) (x0:List Dt) (x1 x2:Int) (x3:List Dt) (x4 x5:Int) (x6 x7:List Dt) (x8:Dt) (x9:List Dt) (x10:Dt):Option (List Dt×List Dt):=
 rec24 x0 x1 x2 x3 x4 (IntKind.wrap .i64 (x5+1)) x6 x7 x8 x9 x10
noncomputable def i9_j25 (m:Nat) (rec21:List Dt→Int→Int→List Dt→List Dt→Dt→List Dt→Option (List Dt×List Dt)) (rec24:List Dt→Int→Int→List Dt→Int→Int→List Dt→List Dt→Dt→List Dt→Dt→Option (List Dt×List Dt)) (x0:List Dt) (x1 x2:Int) (x3:List Dt) (x4 x5:Int) (x6 x7:List Dt) (x8:Dt) (x9:List Dt) (x10:Dt):Option (List Dt×List Dt):=
  ((idx x3 x5).bind fun v24=>
    ((strconv_Itoa x5).bind fun r25=>
 ((slices_Concat m [(Dt.lst x9),(Dt.lst [(Dt.str r25)])]).bind fun r26=>
 ((i24 m x10 v24 r26 x7).bind fun r27=>
 i9_j26 m rec21 rec24 x0 x1 x2 x3 x4 x5 x6 r27 x8 x9 x10))))
noncomputable def i9_j27 (m:Nat) (rec21:List Dt→Int→Int→List Dt→List Dt→Dt→List Dt→Option (List Dt×List Dt)) (x0:List Dt) (x1 x2:Int) (x3 x4:List Dt) (x5:Dt) (x6:List Dt):Option (List Dt×List Dt):=
 rec21 x0 x1 (IntKind.wrap .i64 (x2+1)) x3 x4 x5 x6
noncomputable def i9_l24 (m:Nat) (rec21:List Dt→Int→Int→List Dt→List Dt→Dt→List Dt→Option (List Dt×List Dt)):Nat→List Dt→Int→Int→List Dt→Int→Int→List Dt→List Dt→Dt→List Dt→Dt→Option (List Dt×List Dt)
 |0,_,_,_,_,_,_,_,_,_,_,_=>none
 |M24+1,x0,x1,x2,x3,x4,x5,x6,x7,x8,x9,x10=>
  (bif (decide (x5<x4)) then
  i9_j25 m rec21 (i9_l24 m rec21 M24) x0 x1 x2 x3 x4 x5 x6 x7 x8 x9 x10
 else
  i9_j27 m rec21 x0 x1 x2 x6 x7 x8 x9)
noncomputable def i9_j23 (m:Nat) (rec21:List Dt→Int→Int→List Dt→List Dt→Dt→List Dt→Option (List Dt×List Dt)) (x0:List Dt) (x1 x2:Int) (x3:List Dt) (x4 x5:Int) (x6 x7:List Dt) (x8:Dt) (x9:List Dt) (x10:Dt):Option (List Dt×List Dt):=
 i9_l24 m rec21 (Nat.succ m) x0 x1 x2 x3 x4 x5 x6 x7 x8 x9 x10
noncomputable def i9_j22 (m:Nat) (rec21:List Dt→Int→Int→List Dt→List Dt→Dt→List Dt→Option (List Dt×List Dt)) (x0:List Dt) (x1 x2:Int) (x3 x4:List Dt) (x5:Dt) (x6:List Dt):Option (List Dt×List Dt):=
 ((idx x0 x2).bind fun v23=>
   i9_j23 m rec21 x0 x1 x2 (Dt.L x5 3) (List.length (Dt.L x5 3):Int) 0 x3 x4 x5 x6 v23)
noncomputable def i9_j28 (m:Nat) (x0 x1:List Dt):Option (List Dt×List Dt):=
 some (x0,x1)
noncomputable def i9_l21 (m:Nat):Nat→List Dt→Int→Int→List Dt→List Dt→Dt→List Dt→Option (List Dt×List Dt)
 |0,_,_,_,_,_,_,_=>none
 |M21+1,x0,x1,x2,x3,x4,x5,x6=>
  (bif (decide (x2<x1)) then
  i9_j22 m (i9_l21 m M21) x0 x1 x2 x3 x4 x5 x6
 else
  i9_j28 m x3 x4)
noncomputable def i9_j20 (m:Nat) (x0:List Dt) (x1 x2:Int) (x3 x4:List Dt) (x5:Dt) (x6:List Dt):Option (List Dt×List Dt):=
 i9_l21 m (Nat.succ m) x0 x1 x2 x3 x4 x5 x6
noncomputable def i9_j19 (m:Nat) (x0 x1:List Dt) (x2 x3:Dt) (x4:List Dt):Option (List Dt×List Dt):=
 i9_j20 m (Dt.L x2 11) (List.length (Dt.L x2 11):Int) 0 x0 x1 x3 x4
noncomputable def i9_j18 (m:Nat) (x0 x1:List Dt) (x2 x3:Dt) (x4:List Dt):Option (List Dt×List Dt):=
  (bif ((Dt.I x3 0)==6) then
   (bif (Dt.B x2 12) then
 ((schema_repeats m (Dt.L x3 3)).bind fun r21=>
 ((i17 m r21 8 [] x1 x4).bind fun r22=>
 i9_j19 m x0 r22.2 x2 x3 r22.1))
   else
 ((i17 m false 8 [] x1 x4).bind fun r28=>
 i9_j19 m x0 r28.2 x2 x3 r28.1))
  else
   i9_j28 m x0 x1)
noncomputable def i9_l15 (m:Nat):Nat→List Dt→Int→Int→List Dt→List Dt→Dt→Dt→List Dt→Option (List Dt×List Dt)
 |0,_,_,_,_,_,_,_,_=>none
 |M15+1,x0,x1,x2,x3,x4,x5,x6,x7=>
  (bif (decide (x2<x1)) then
  i9_j16 m (i9_l15 m M15) x0 x1 x2 x3 x4 x5 x6 x7
 else
  i9_j18 m x3 x4 x5 x6 x7)
noncomputable def i9_j14 (m:Nat) (x0:List Dt) (x1 x2:Int) (x3 x4:List Dt) (x5 x6:Dt) (x7:List Dt):Option (List Dt×List Dt):=
 i9_l15 m (Nat.succ m) x0 x1 x2 x3 x4 x5 x6 x7
noncomputable def i9_j13 (m:Nat) (x0 x1:List Dt) (x2 x3:Dt) (x4:List Dt):Option (List Dt×List Dt):=
 i9_j14 m (Dt.L x2 9) (List.length (Dt.L x2 9):Int) 0 x0 x1 x2 x3 x4
noncomputable def i9_l10 (m:Nat):Nat→List Dt→Int→Int→List Dt→List Dt→Dt→Dt→List Dt→Option (List Dt×List Dt)
 |0,_,_,_,_,_,_,_,_=>none
 |M10+1,x0,x1,x2,x3,x4,x5,x6,x7=>
  (bif (decide (x2<x1)) then
  i9_j11 m (i9_l10 m M10) x0 x1 x2 x3 x4 x5 x6 x7
 else
  i9_j13 m x3 x4 x5 x6 x7)
noncomputable def i9_j9 (m:Nat) (x0:List Dt) (x1 x2:Int) (x3 x4:List Dt) (x5 x6:Dt) (x7:List Dt):Option (List Dt×List Dt):=
 i9_l10 m (Nat.succ m) x0 x1 x2 x3 x4 x5 x6 x7
noncomputable def i9_j8 (m:Nat) (x0 x1:List Dt) (x2 x3:Dt) (x4:List Dt):Option (List Dt×List Dt):=
 i9_j9 m (Dt.L x3 4) (List.length (Dt.L x3 4):Int) 0 x0 x1 x2 x3 x4
noncomputable def i9_l5 (m:Nat):Nat→List Dt→Int→Int→List Dt→List Dt→Dt→Dt→List Dt→Option (List Dt×List Dt)
 |0,_,_,_,_,_,_,_,_=>none
 |M5+1,x0,x1,x2,x3,x4,x5,x6,x7=>
  (bif (decide (x2<x1)) then
  i9_j6 m (i9_l5 m M5) x0 x1 x2 x3 x4 x5 x6 x7
 else
  i9_j8 m x3 x4 x5 x6 x7)
noncomputable def i9_j4 (m:Nat) (x0:List Dt) (x1 x2:Int) (x3 x4:List Dt) (x5 x6:Dt) (x7:List Dt):Option (List Dt×List Dt):=
 i9_l5 m (Nat.succ m) x0 x1 x2 x3 x4 x5 x6 x7
noncomputable def i9_j3 (m:Nat) (x0 x1:List Dt) (x2 x3:Dt) (x4:List Dt):Option (List Dt×List Dt):=
 (bif ((Dt.I x3 0)==5) then
  i9_j4 m (Dt.L x2 8) (List.length (Dt.L x2 8):Int) 0 x0 x1 x2 x3 x4
 else
  i9_j18 m x0 x1 x2 x3 x4)
noncomputable def i9_j2 (m:Nat) (x0 x1:List Dt) (x2 x3:Dt) (x4:List Dt):Option (List Dt×List Dt):=
  ((schema_length m x3).bind fun r8=>
    (bif r8.2 then
 (bif (decide (r8.1<(Dt.I x2 6))) then
 ((i17 m true 5 [] x1 x4).bind fun r9=>
 i9_j3 m x0 r9.2 x2 x3 r9.1)
 else
 (bif (decide (0≤(Dt.I x2 7))) then
 ((i17 m (decide ((Dt.I x2 7)<r8.1)) 5 [] x1 x4).bind fun r29=>
 i9_j3 m x0 r29.2 x2 x3 r29.1)
 else
 ((i17 m false 5 [] x1 x4).bind fun r30=>
 i9_j3 m x0 r30.2 x2 x3 r30.1)))
    else
 ((i17 m false 5 [] x1 x4).bind fun r31=>
 i9_j3 m x0 r31.2 x2 x3 r31.1)))
noncomputable def i9_j1 (m:Nat) (x0 x1:List Dt) (x2 x3:Dt) (x4:List Dt):Option (List Dt×List Dt):=
  (bif (Dt.B x2 3) then
   ((value_Compare m x3 (Dt.fld x2 4)).bind fun r6=>
 ((i17 m (decide (0<r6)) 4 [] x1 x4).bind fun r7=>
 i9_j2 m x0 r7.2 x2 x3 r7.1))
  else
   ((i17 m false 4 [] x1 x4).bind fun r32=>
 i9_j2 m x0 r32.2 x2 x3 r32.1))
noncomputable def i9_j0 (m:Nat) (x0 x1:List Dt) (x2 x3:Dt) (x4:List Dt):Option (List Dt×List Dt):=
  (bif (Dt.B x2 1) then
   ((value_Compare m x3 (Dt.fld x2 2)).bind fun r4=>
 ((i17 m (decide (r4<0)) 3 [] x1 x4).bind fun r5=>
 i9_j1 m x0 r5.2 x2 x3 r5.1))
  else
   ((i17 m false 3 [] x1 x4).bind fun r33=>
 i9_j1 m x0 r33.2 x2 x3 r33.1))
noncomputable def i9:Nat→Dt→Dt→List Dt→List Dt→Option (List Dt×List Dt)
  |0,_,_,_,_=>none
  |m+1,a0,a1,a2,a3=>
   ((schema_hasKind m (Dt.I a0 0) (Dt.I a1 0)).bind fun r0=>
   ((i11 m (Bool.not r0) 1 [] a2 a3).bind fun r1=>
 (bif (decide (0<(List.length (Dt.L a0 5):Int))) then
 ((i13 m (Dt.L a0 5) a1).bind fun r2=>
 ((i17 m (Bool.not r2) 2 [] r1.2.2 r1.1).bind fun r3=>
 i9_j0 m r1.2.1 r3.2 a0 a1 r3.1))
 else
 ((i17 m false 2 [] r1.2.2 r1.1).bind fun r34=>
 i9_j0 m r1.2.1 r34.2 a0 a1 r34.1))))
noncomputable def ref01_Parts_j3 (m:Nat) (rec1:Int→Dt→List Dt→Option (List Dt)) (x0:Int) (x1:Dt) (x2:List Dt):Option (List Dt):=
 rec1 (IntKind.wrap .i64 (x0+1)) x1 x2
noncomputable def ref01_Parts_j2 (m:Nat) (rec1:Int→Dt→List Dt→Option (List Dt)) (x0:Int) (x1:Dt) (x2:List Dt):Option (List Dt):=
  ((idx (Dt.L x1 3) x0).bind fun v0=>
    ((app x2 [v0]).bind fun v1=>
 ref01_Parts_j3 m rec1 x0 x1 v1))
noncomputable def ref01_Parts_j8 (m:Nat) (rec6:Int→Dt→List Dt→Option (List Dt)) (x0:Int) (x1:Dt) (x2:List Dt):Option (List Dt):=
 rec6 (IntKind.wrap .i64 (x0+1)) x1 x2
noncomputable def ref01_Parts_j7 (m:Nat) (rec6:Int→Dt→List Dt→Option (List Dt)) (x0:Int) (x1:Dt) (x2:List Dt):Option (List Dt):=
  ((idx (Dt.L x1 4) x0).bind fun v2=>
    ((app x2 [(Dt.fld v2 1)]).bind fun v3=>
 ref01_Parts_j8 m rec6 x0 x1 v3))
noncomputable def ref01_Parts_j9 (m:Nat) (x0:List Dt):Option (List Dt):=
 some x0
noncomputable def ref01_Parts_l6 (m:Nat):Nat→Int→Dt→List Dt→Option (List Dt)
 |0,_,_,_=>none
 |M6+1,x0,x1,x2=>
  (bif (decide (x0<(List.length (Dt.L x1 4):Int))) then
  ref01_Parts_j7 m (ref01_Parts_l6 m M6) x0 x1 x2
 else
  ref01_Parts_j9 m x2)
noncomputable def ref01_Parts_j5 (m:Nat) (x0:Int) (x1:Dt) (x2:List Dt):Option (List Dt):=
 ref01_Parts_l6 m (Nat.succ m) x0 x1 x2
noncomputable def ref01_Parts_j4 (m:Nat) (x0:Dt) (x1:List Dt):Option (List Dt):=
 (bif ((Dt.I x0 0)==5) then
  ref01_Parts_j5 m 0 x0 x1
 else
  ref01_Parts_j9 m x1)
noncomputable def ref01_Parts_l1 (m:Nat):Nat→Int→Dt→List Dt→Option (List Dt)
 |0,_,_,_=>none
 |M1+1,x0,x1,x2=>
  (bif (decide (x0<(List.length (Dt.L x1 3):Int))) then
  ref01_Parts_j2 m (ref01_Parts_l1 m M1) x0 x1 x2
 else
  ref01_Parts_j4 m x1 x2)
noncomputable def ref01_Parts_j0 (m:Nat) (x0:Int) (x1:Dt) (x2:List Dt):Option (List Dt):=
 ref01_Parts_l1 m (Nat.succ m) x0 x1 x2
noncomputable def ref01_Parts:Nat→Dt→Option (List Dt)
 |0,_=>none
 |m+1,a0=>
  (bif ((Dt.I a0 0)==6) then
  ref01_Parts_j0 m 0 a0 []
 else
  ref01_Parts_j4 m a0 [])
noncomputable def ref01_levels_j5 (m:Nat) (self49:Dt→Int→Option Int) (rec3:Int→List Dt→Int→Int→Option Int) (x0:Int) (x1:List Dt) (x2 x3:Int):Option Int:=
 rec3 x0 x1 x2 (IntKind.wrap .i64 (x3+1))
noncomputable def ref01_levels_j4 (m:Nat) (self49:Dt→Int→Option Int) (rec3:Int→List Dt→Int→Int→Option Int) (x0:Int) (x1:List Dt) (x2 x3:Int):Option Int:=
  ((idx x1 x3).bind fun v1=>
    ((self49 v1 (IntKind.wrap .i64 (x0-1))).bind fun r2=>
 ref01_levels_j5 m self49 rec3 x0 x1 (bif (decide (x2<r2)) then r2 else x2) x3))
noncomputable def ref01_levels_j6 (m:Nat) (self49:Dt→Int→Option Int) (x0:Int):Option Int:=
 some (IntKind.wrap .i64 (x0+1))
noncomputable def ref01_levels_l3 (m:Nat) (self49:Dt→Int→Option Int):Nat→Int→List Dt→Int→Int→Option Int
 |0,_,_,_,_=>none
 |M3+1,x0,x1,x2,x3=>
  (bif (decide (x3<(List.length x1:Int))) then
  ref01_levels_j4 m self49 (ref01_levels_l3 m self49 M3) x0 x1 x2 x3
 else
  ref01_levels_j6 m self49 x2)
noncomputable def ref01_levels_j2 (m:Nat) (self49:Dt→Int→Option Int) (x0:Int) (x1:List Dt) (x2 x3:Int):Option Int:=
 ref01_levels_l3 m self49 (Nat.succ m) x0 x1 x2 x3
noncomputable def ref01_levels_j1 (m:Nat) (self49:Dt→Int→Option Int) (x0:Int) (x1:List Dt):Option Int:=
 ref01_levels_j2 m self49 x0 x1 0 0
noncomputable def ref01_levels_j0 (m:Nat) (self49:Dt→Int→Option Int) (x0:Int) (x1:List Dt) (x2:Bool):Option Int:=
 (bif x2 then
  some 1
 else
  ref01_levels_j1 m self49 x0 x1)
noncomputable def ref01_levels:Nat→Dt→Int→Option Int
  |0,_,_=>none
  |m+1,a0,a1=>
   ((ref01_Parts m a0).bind fun r0=>
   (bif (decide (a1<2)) then
 ref01_levels_j0 m (ref01_levels m) a1 r0 true
   else
 ref01_levels_j0 m (ref01_levels m) a1 r0 ((List.length r0:Int)==0)))
noncomputable def ref01_Depth:Nat→Dt→Option Int
 |0,_=>none
 |m+1,a0=>
  ((ref01_levels m a0 17).bind fun r0=>
  some r0)
noncomputable def ref01_count_j3 (m:Nat) (self50:Dt→Int→Option Int) (rec1:Int→Int→List Dt→Int→Option Int) (x0 x1:Int) (x2:List Dt) (x3:Int):Option Int:=
 rec1 x0 x1 x2 (IntKind.wrap .i64 (x3+1))
noncomputable def ref01_count_j2 (m:Nat) (self50:Dt→Int→Option Int) (rec1:Int→Int→List Dt→Int→Option Int) (x0 x1:Int) (x2:List Dt) (x3:Int):Option Int:=
  ((idx x2 x3).bind fun v1=>
    ((self50 v1 (IntKind.wrap .i64 (x0-x1))).bind fun r2=>
 ref01_count_j3 m self50 rec1 x0 (IntKind.wrap .i64 (x1+r2)) x2 x3))
noncomputable def ref01_count_j4 (m:Nat) (self50:Dt→Int→Option Int) (x0:Int):Option Int:=
 some x0
noncomputable def ref01_count_l1 (m:Nat) (self50:Dt→Int→Option Int):Nat→Int→Int→List Dt→Int→Option Int
  |0,_,_,_,_=>none
  |M1+1,x0,x1,x2,x3=>
   (bif (decide (x3<(List.length x2:Int))) then
   (bif (decide (x1<x0)) then
 ref01_count_j2 m self50 (ref01_count_l1 m self50 M1) x0 x1 x2 x3
   else
 ref01_count_j4 m self50 x1)
  else
   ref01_count_j4 m self50 x1)
noncomputable def ref01_count_j0 (m:Nat) (self50:Dt→Int→Option Int) (x0 x1:Int) (x2:List Dt) (x3:Int):Option Int:=
 ref01_count_l1 m self50 (Nat.succ m) x0 x1 x2 x3
noncomputable def ref01_count:Nat→Dt→Int→Option Int
 |0,_,_=>none
 |m+1,a0,a1=>
  ((ref01_Parts m a0).bind fun r0=>
  ref01_count_j0 m (ref01_count m) a1 1 r0 0)
noncomputable def ref01_Nodes:Nat→Dt→Option Int
 |0,_=>none
 |m+1,a0=>
  ((ref01_count m a0 1025).bind fun r0=>
  some r0)
noncomputable def ref01_tail_j5 (m:Nat) (rec2:ByteArray→Int→Int→Int→Option Bool) (x0:ByteArray) (x1 x2 x3:Int):Option Bool:=
 rec2 x0 x1 x2 (IntKind.wrap .i64 (x3+1))
noncomputable def ref01_tail_j4 (m:Nat) (rec2:ByteArray→Int→Int→Int→Option Bool) (x0:ByteArray) (x1 x2 x3:Int) (x4:Bool):Option Bool:=
 (bif x4 then
  some false
 else
  ref01_tail_j5 m rec2 x0 x1 x2 x3)
noncomputable def ref01_tail_j3 (m:Nat) (rec2:ByteArray→Int→Int→Int→Option Bool) (x0:ByteArray) (x1 x2 x3:Int):Option Bool:=
  ((idxS x0 (IntKind.wrap .i64 (x1+x3))).bind fun v0=>
    (bif (decide (v0<128)) then
 ref01_tail_j4 m rec2 x0 x1 x2 x3 true
    else
 ((idxS x0 (IntKind.wrap .i64 (x1+x3))).bind fun v1=>
 ref01_tail_j4 m rec2 x0 x1 x2 x3 (decide (191<v1)))))
noncomputable def ref01_tail_j6 (m:Nat):Option Bool:=
 some true
noncomputable def ref01_tail_l2 (m:Nat):Nat→ByteArray→Int→Int→Int→Option Bool
 |0,_,_,_,_=>none
 |M2+1,x0,x1,x2,x3=>
  (bif (decide (x3<x2)) then
  ref01_tail_j3 m (ref01_tail_l2 m M2) x0 x1 x2 x3
 else
  ref01_tail_j6 m)
noncomputable def ref01_tail_j1 (m:Nat) (x0:ByteArray) (x1 x2 x3:Int):Option Bool:=
 ref01_tail_l2 m (Nat.succ m) x0 x1 x2 x3
noncomputable def ref01_tail_j0 (m:Nat) (x0:ByteArray) (x1 x2:Int):Option Bool:=
 ref01_tail_j1 m x0 x1 x2 0
noncomputable def ref01_tail:Nat→ByteArray→Int→Int→Option Bool
 |0,_,_,_=>none
 |m+1,a0,a1,a2=>
  (bif (decide ((ByteArray.size a0:Int)<(IntKind.wrap .i64 (a1+a2)))) then
  some false
 else
  ref01_tail_j0 m a0 a1 a2)
noncomputable def ref01_UTF8_j6 (m:Nat) (rec1:ByteArray→Int→Option Bool) (x0:ByteArray) (x1 x2:Int):Option Bool:=
 rec1 x0 (IntKind.wrap .i64 ((IntKind.wrap .i64 (x1+x2))+1))
noncomputable def ref01_UTF8_j5 (m:Nat) (rec1:ByteArray→Int→Option Bool) (x0:ByteArray) (x1 x2:Int) (x3:Bool):Option Bool:=
 (bif x3 then
  some false
 else
  ref01_UTF8_j6 m rec1 x0 x1 x2)
noncomputable def ref01_UTF8_j4 (m:Nat) (rec1:ByteArray→Int→Option Bool) (x0:ByteArray) (x1 x2 x3:Int):Option Bool:=
  (bif (x2==224) then
   ((idxS x0 (IntKind.wrap .i64 (x1+1))).bind fun v2=>
 (bif (decide (v2<160)) then
 ref01_UTF8_j5 m rec1 x0 x1 x3 true
 else
 (bif (x2==237) then
 ((idxS x0 (IntKind.wrap .i64 (x1+1))).bind fun v3=>
 (bif (decide (159<v3)) then
 ref01_UTF8_j5 m rec1 x0 x1 x3 true
 else
 (bif (x2==240) then
 ((idxS x0 (IntKind.wrap .i64 (x1+1))).bind fun v4=>
 (bif (decide (v4<144)) then
 ref01_UTF8_j5 m rec1 x0 x1 x3 true
 else
 (bif (x2==244) then
 ((idxS x0 (IntKind.wrap .i64 (x1+1))).bind fun v5=>
 ref01_UTF8_j5 m rec1 x0 x1 x3 (decide (143<v5)))
 else
 ref01_UTF8_j5 m rec1 x0 x1 x3 false)))
 else
 (bif (x2==244) then
 ((idxS x0 (IntKind.wrap .i64 (x1+1))).bind fun v6=>
 ref01_UTF8_j5 m rec1 x0 x1 x3 (decide (143<v6)))
 else
 ref01_UTF8_j5 m rec1 x0 x1 x3 false))))
 else
 (bif (x2==240) then
 ((idxS x0 (IntKind.wrap .i64 (x1+1))).bind fun v7=>
 (bif (decide (v7<144)) then
 ref01_UTF8_j5 m rec1 x0 x1 x3 true
 else
 (bif (x2==244) then
 ((idxS x0 (IntKind.wrap .i64 (x1+1))).bind fun v8=>
 ref01_UTF8_j5 m rec1 x0 x1 x3 (decide (143<v8)))
 else
 ref01_UTF8_j5 m rec1 x0 x1 x3 false)))
 else
 (bif (x2==244) then
 ((idxS x0 (IntKind.wrap .i64 (x1+1))).bind fun v9=>
 ref01_UTF8_j5 m rec1 x0 x1 x3 (decide (143<v9)))
 else
 ref01_UTF8_j5 m rec1 x0 x1 x3 false)))))
  else
   (bif (x2==237) then
 ((idxS x0 (IntKind.wrap .i64 (x1+1))).bind fun v10=>
 (bif (decide (159<v10)) then
 ref01_UTF8_j5 m rec1 x0 x1 x3 true
 else
 (bif (x2==240) then
 ((idxS x0 (IntKind.wrap .i64 (x1+1))).bind fun v11=>
 (bif (decide (v11<144)) then
 ref01_UTF8_j5 m rec1 x0 x1 x3 true
 else
 (bif (x2==244) then
 ((idxS x0 (IntKind.wrap .i64 (x1+1))).bind fun v12=>
 ref01_UTF8_j5 m rec1 x0 x1 x3 (decide (143<v12)))
 else
 ref01_UTF8_j5 m rec1 x0 x1 x3 false)))
 else
 (bif (x2==244) then
 ((idxS x0 (IntKind.wrap .i64 (x1+1))).bind fun v13=>
 ref01_UTF8_j5 m rec1 x0 x1 x3 (decide (143<v13)))
 else
 ref01_UTF8_j5 m rec1 x0 x1 x3 false))))
   else
 (bif (x2==240) then
 ((idxS x0 (IntKind.wrap .i64 (x1+1))).bind fun v14=>
 (bif (decide (v14<144)) then
 ref01_UTF8_j5 m rec1 x0 x1 x3 true
 else
 (bif (x2==244) then
 ((idxS x0 (IntKind.wrap .i64 (x1+1))).bind fun v15=>
 ref01_UTF8_j5 m rec1 x0 x1 x3 (decide (143<v15)))
 else
 ref01_UTF8_j5 m rec1 x0 x1 x3 false)))
 else
 (bif (x2==244) then
 ((idxS x0 (IntKind.wrap .i64 (x1+1))).bind fun v16=>
 ref01_UTF8_j5 m rec1 x0 x1 x3 (decide (143<v16)))
 else
 ref01_UTF8_j5 m rec1 x0 x1 x3 false))))
noncomputable def ref01_UTF8_j3 (m:Nat) (rec1:ByteArray→Int→Option Bool) (x0:ByteArray) (x1 x2 x3:Int):Option Bool:=
  ((ref01_tail m x0 (IntKind.wrap .i64 (x1+1)) x3).bind fun r1=>
    (bif (Bool.not r1) then
 some false
    else
 ref01_UTF8_j4 m rec1 x0 x1 x2 x3))
noncomputable def ref01_UTF8_j9 (m:Nat) (rec1:ByteArray→Int→Option Bool) (x0:ByteArray) (x1 x2:Int) (x3:Bool):Option Bool:=
 (bif x3 then
  ref01_UTF8_j3 m rec1 x0 x1 x2 3
 else
  some false)
noncomputable def ref01_UTF8_j8 (m:Nat) (rec1:ByteArray→Int→Option Bool) (x0:ByteArray) (x1 x2:Int) (x3:Bool):Option Bool:=
  (bif x3 then
   ref01_UTF8_j3 m rec1 x0 x1 x2 2
  else
   (bif (decide (240≤x2)) then
 ref01_UTF8_j9 m rec1 x0 x1 x2 (decide (x2≤244))
   else
 ref01_UTF8_j9 m rec1 x0 x1 x2 false))
noncomputable def ref01_UTF8_j7 (m:Nat) (rec1:ByteArray→Int→Option Bool) (x0:ByteArray) (x1 x2:Int) (x3:Bool):Option Bool:=
  (bif x3 then
   ref01_UTF8_j3 m rec1 x0 x1 x2 1
  else
   (bif (decide (224≤x2)) then
 ref01_UTF8_j8 m rec1 x0 x1 x2 (decide (x2≤239))
   else
 ref01_UTF8_j8 m rec1 x0 x1 x2 false))
noncomputable def ref01_UTF8_j2 (m:Nat) (rec1:ByteArray→Int→Option Bool) (x0:ByteArray) (x1:Int):Option Bool:=
  ((idxS x0 x1).bind fun v0=>
    (bif (decide (v0<128)) then
 ref01_UTF8_j3 m rec1 x0 x1 v0 0
    else
 (bif (decide (194≤v0)) then
 ref01_UTF8_j7 m rec1 x0 x1 v0 (decide (v0≤223))
 else
 ref01_UTF8_j7 m rec1 x0 x1 v0 false)))
noncomputable def ref01_UTF8_j10 (m:Nat):Option Bool:=
 some true
noncomputable def ref01_UTF8_l1 (m:Nat):Nat→ByteArray→Int→Option Bool
 |0,_,_=>none
 |M1+1,x0,x1=>
  (bif (decide (x1<(ByteArray.size x0:Int))) then
  ref01_UTF8_j2 m (ref01_UTF8_l1 m M1) x0 x1
 else
  ref01_UTF8_j10 m)
noncomputable def ref01_UTF8_j0 (m:Nat) (x0:ByteArray) (x1:Int):Option Bool:=
 ref01_UTF8_l1 m (Nat.succ m) x0 x1
noncomputable def ref01_UTF8:Nat→ByteArray→Option Bool
 |0,_=>none
 |m+1,a0=>
  ref01_UTF8_j0 m a0 0
noncomputable def ref01_Name_j6 (m:Nat) (rec3:ByteArray→Int→Option Bool) (x0:ByteArray) (x1:Int):Option Bool:=
 rec3 x0 (IntKind.wrap .i64 (x1+1))
noncomputable def ref01_Name_j5 (m:Nat) (rec3:ByteArray→Int→Option Bool) (x0:ByteArray) (x1:Int) (x2:Bool):Option Bool:=
 (bif x2 then
  some false
 else
  ref01_Name_j6 m rec3 x0 x1)
noncomputable def ref01_Name_j4 (m:Nat) (rec3:ByteArray→Int→Option Bool) (x0:ByteArray) (x1:Int):Option Bool:=
  ((idxS x0 x1).bind fun v0=>
    (bif (decide (v0<33)) then
 ref01_Name_j5 m rec3 x0 x1 true
    else
 ((idxS x0 x1).bind fun v1=>
 (bif (decide (126<v1)) then
 ref01_Name_j5 m rec3 x0 x1 true
 else
 ((idxS x0 x1).bind fun v2=>
 ref01_Name_j5 m rec3 x0 x1 (v2==46))))))
noncomputable def ref01_Name_j7 (m:Nat):Option Bool:=
 some true
noncomputable def ref01_Name_l3 (m:Nat):Nat→ByteArray→Int→Option Bool
 |0,_,_=>none
 |M3+1,x0,x1=>
  (bif (decide (x1<(ByteArray.size x0:Int))) then
  ref01_Name_j4 m (ref01_Name_l3 m M3) x0 x1
 else
  ref01_Name_j7 m)
noncomputable def ref01_Name_j2 (m:Nat) (x0:ByteArray) (x1:Int):Option Bool:=
 ref01_Name_l3 m (Nat.succ m) x0 x1
noncomputable def ref01_Name_j1 (m:Nat) (x0:ByteArray):Option Bool:=
 ref01_Name_j2 m x0 0
noncomputable def ref01_Name_j0 (m:Nat) (x0:ByteArray) (x1:Bool):Option Bool:=
 (bif x1 then
  some false
 else
  ref01_Name_j1 m x0)
noncomputable def ref01_Name:Nat→ByteArray→Option Bool
  |0,_=>none
  |m+1,a0=>
   (bif (decide ((ByteArray.size a0:Int)<1)) then
   ref01_Name_j0 m a0 true
  else
   (bif (decide (32<(ByteArray.size a0:Int))) then
 ref01_Name_j0 m a0 true
   else
 ((idxS a0 0).bind fun v3=>
 ref01_Name_j0 m a0 (v3==36))))
noncomputable def ref01_wide_j6 (m:Nat) (rec3:ByteArray→Int→Option Bool) (x0:ByteArray) (x1:Int):Option Bool:=
 rec3 x0 (IntKind.wrap .i64 (x1+1))
noncomputable def ref01_wide_j5 (m:Nat) (rec3:ByteArray→Int→Option Bool) (x0:ByteArray) (x1:Int) (x2:Bool):Option Bool:=
 (bif x2 then
  some false
 else
  ref01_wide_j6 m rec3 x0 x1)
noncomputable def ref01_wide_j4 (m:Nat) (rec3:ByteArray→Int→Option Bool) (x0:ByteArray) (x1:Int):Option Bool:=
  ((idxS x0 x1).bind fun v0=>
    (bif (decide (v0<32)) then
 ref01_wide_j5 m rec3 x0 x1 true
    else
 ((idxS x0 x1).bind fun v1=>
 ref01_wide_j5 m rec3 x0 x1 (decide (126<v1)))))
noncomputable def ref01_wide_j7 (m:Nat):Option Bool:=
 some true
noncomputable def ref01_wide_l3 (m:Nat):Nat→ByteArray→Int→Option Bool
 |0,_,_=>none
 |M3+1,x0,x1=>
  (bif (decide (x1<(ByteArray.size x0:Int))) then
  ref01_wide_j4 m (ref01_wide_l3 m M3) x0 x1
 else
  ref01_wide_j7 m)
noncomputable def ref01_wide_j2 (m:Nat) (x0:ByteArray) (x1:Int):Option Bool:=
 ref01_wide_l3 m (Nat.succ m) x0 x1
noncomputable def ref01_wide_j1 (m:Nat) (x0:ByteArray):Option Bool:=
 ref01_wide_j2 m x0 0
noncomputable def ref01_wide_j0 (m:Nat) (x0:ByteArray) (x1:Bool):Option Bool:=
 (bif x1 then
  some false
 else
  ref01_wide_j1 m x0)
noncomputable def ref01_wide:Nat→ByteArray→Option Bool
 |0,_=>none
 |m+1,a0=>
  (bif (decide ((ByteArray.size a0:Int)<1)) then
  ref01_wide_j0 m a0 true
 else
  ref01_wide_j0 m a0 (decide (128<(ByteArray.size a0:Int))))
noncomputable def ref01_formed_j10 (m:Nat) (self33:Dt→Bool→Option Bool) (self52:Dt→Bool→Option Bool) (rec8:Bool→Int→Dt→Option Bool) (x0:Bool) (x1:Int) (x2:Dt):Option Bool:=
 rec8 x0 (IntKind.wrap .i64 (x1+1)) x2
noncomputable def ref01_formed_j9 (m:Nat) (self33:Dt→Bool→Option Bool) (self52:Dt→Bool→Option Bool) (rec8:Bool→Int→Dt→Option Bool) (x0:Bool) (x1:Int) (x2:Dt):Option Bool:=
  ((idx (Dt.L x2 3) x1).bind fun v1=>
    ((self33 v1 x0).bind fun r2=>
 (bif (Bool.not r2) then
 some false
 else
 ref01_formed_j10 m self33 self52 rec8 x0 x1 x2)))
noncomputable def ref01_formed_j11 (m:Nat) (self33:Dt→Bool→Option Bool) (self52:Dt→Bool→Option Bool) (x0:Bool) (x1:Dt):Option Bool:=
 ((self52 x1 x0).bind fun r3=>
   some r3)
noncomputable def ref01_formed_l8 (m:Nat) (self33:Dt→Bool→Option Bool) (self52:Dt→Bool→Option Bool):Nat→Bool→Int→Dt→Option Bool
 |0,_,_,_=>none
 |M8+1,x0,x1,x2=>
  (bif (decide (x1<(List.length (Dt.L x2 3):Int))) then
  ref01_formed_j9 m self33 self52 (ref01_formed_l8 m self33 self52 M8) x0 x1 x2
 else
  ref01_formed_j11 m self33 self52 x0 x2)
noncomputable def ref01_formed_j7 (m:Nat) (self33:Dt→Bool→Option Bool) (self52:Dt→Bool→Option Bool) (x0:Bool) (x1:Int) (x2:Dt):Option Bool:=
 ref01_formed_l8 m self33 self52 (Nat.succ m) x0 x1 x2
noncomputable def ref01_formed_j6 (m:Nat) (self33:Dt→Bool→Option Bool) (self52:Dt→Bool→Option Bool) (x0:Bool) (x1:Dt):Option Bool:=
 ref01_formed_j7 m self33 self52 x0 0 x1
noncomputable def ref01_formed_j5 (m:Nat) (self33:Dt→Bool→Option Bool) (self52:Dt→Bool→Option Bool) (x0:Bool) (x1:Dt):Option Bool:=
  (bif ((Dt.I x1 0)==9) then
   (bif ((Dt.I x1 1)==0) then
 some true
   else
 some ((Dt.I x1 1)==1))
  else
   (bif ((Dt.I x1 0)==10) then
 some (decide (0≤(Dt.I x1 1)))
   else
 (bif ((Dt.I x1 0)==4) then
 (bif (decide ((ByteArray.size (Dt.S x1 2):Int)≤4096)) then
 ((ref01_UTF8 m (Dt.S x1 2)).bind fun r0=>
 some r0)
 else
 some false)
 else
 (bif ((Dt.I x1 0)==7) then
 some (decide ((ByteArray.size (Dt.S x1 2):Int)≤4096))
 else
 (bif ((Dt.I x1 0)==8) then
 some ((ByteArray.size (Dt.S x1 2):Int)==12)
 else
 ref01_formed_j6 m self33 self52 x0 x1)))))
noncomputable def ref01_formed_j4 (m:Nat) (self33:Dt→Bool→Option Bool) (self52:Dt→Bool→Option Bool) (x0 x1:Bool) (x2:Dt):Option Bool:=
 (bif x1 then
  some false
 else
  ref01_formed_j5 m self33 self52 x0 x2)
noncomputable def ref01_formed_j3 (m:Nat) (self33:Dt→Bool→Option Bool) (self52:Dt→Bool→Option Bool) (x0 x1 x2:Bool) (x3:Dt):Option Bool:=
  (bif (Bool.not x1) then
   (bif (Bool.not ((ByteArray.toList (Dt.S x3 2))==[])) then
 ref01_formed_j4 m self33 self52 x0 true x3
   else
 (bif (Bool.not x2) then
 (bif ((Dt.I x3 1) !=0) then
 ref01_formed_j4 m self33 self52 x0 true x3
 else
 (bif (decide ((Dt.I x3 0)<1)) then
 ref01_formed_j4 m self33 self52 x0 true x3
 else
 ref01_formed_j4 m self33 self52 x0 (decide (11<(Dt.I x3 0))) x3))
 else
 (bif (decide ((Dt.I x3 0)<1)) then
 ref01_formed_j4 m self33 self52 x0 true x3
 else
 ref01_formed_j4 m self33 self52 x0 (decide (11<(Dt.I x3 0))) x3)))
  else
   (bif (Bool.not x2) then
 (bif ((Dt.I x3 1) !=0) then
 ref01_formed_j4 m self33 self52 x0 true x3
 else
 (bif (decide ((Dt.I x3 0)<1)) then
 ref01_formed_j4 m self33 self52 x0 true x3
 else
 ref01_formed_j4 m self33 self52 x0 (decide (11<(Dt.I x3 0))) x3))
   else
 (bif (decide ((Dt.I x3 0)<1)) then
 ref01_formed_j4 m self33 self52 x0 true x3
 else
 ref01_formed_j4 m self33 self52 x0 (decide (11<(Dt.I x3 0))) x3)))
noncomputable def ref01_formed_j2 (m:Nat) (self33:Dt→Bool→Option Bool) (self52:Dt→Bool→Option Bool) (x0 x1:Bool) (x2:Dt):Option Bool:=
  (bif ((Dt.I x2 0)==3) then
   ref01_formed_j3 m self33 self52 x0 x1 true x2
  else
   (bif ((Dt.I x2 0)==9) then
 ref01_formed_j3 m self33 self52 x0 x1 true x2
   else
 ref01_formed_j3 m self33 self52 x0 x1 ((Dt.I x2 0)==10) x2))
noncomputable def ref01_formed_j1 (m:Nat) (self33:Dt→Bool→Option Bool) (self52:Dt→Bool→Option Bool) (x0:Bool) (x1:Dt):Option Bool:=
  (bif ((Dt.I x1 0)==4) then
   ref01_formed_j2 m self33 self52 x0 true x1
  else
   (bif ((Dt.I x1 0)==7) then
 ref01_formed_j2 m self33 self52 x0 true x1
   else
 ref01_formed_j2 m self33 self52 x0 ((Dt.I x1 0)==8) x1))
noncomputable def ref01_formed_j0 (m:Nat) (self33:Dt→Bool→Option Bool) (self52:Dt→Bool→Option Bool) (x0 x1:Bool) (x2:Dt):Option Bool:=
 (bif x1 then
  some false
 else
  ref01_formed_j1 m self33 self52 x0 x2)
noncomputable def ref01_fields_j8 (m:Nat) (self33:Dt→Bool→Option Bool) (rec1:Bool→Int→Dt→Option Bool) (rec6:Bool→Int→Int→Dt→Dt→Option Bool) (x0:Bool) (x1 x2:Int) (x3 x4:Dt):Option Bool:=
 rec6 x0 x1 (IntKind.wrap .i64 (x2+1)) x3 x4
noncomputable def ref01_fields_j7 (m:Nat) (self33:Dt→Bool→Option Bool) (rec1:Bool→Int→Dt→Option Bool) (rec6:Bool→Int→Int→Dt→Dt→Option Bool) (x0:Bool) (x1 x2:Int) (x3 x4:Dt):Option Bool:=
  ((idx (Dt.L x3 4) x2).bind fun v2=>
    (bif ((ByteArray.toList (Dt.S v2 0))==(ByteArray.toList (Dt.S x4 0))) then
 some false
    else
 ref01_fields_j8 m self33 rec1 rec6 x0 x1 x2 x3 x4))
noncomputable def ref01_fields_j9 (m:Nat) (self33:Dt→Bool→Option Bool) (rec1:Bool→Int→Dt→Option Bool) (x0:Bool) (x1:Int) (x2:Dt):Option Bool:=
 rec1 x0 (IntKind.wrap .i64 (x1+1)) x2
noncomputable def ref01_fields_l6 (m:Nat) (self33:Dt→Bool→Option Bool) (rec1:Bool→Int→Dt→Option Bool):Nat→Bool→Int→Int→Dt→Dt→Option Bool
 |0,_,_,_,_,_=>none
 |M6+1,x0,x1,x2,x3,x4=>
  (bif (decide (x2<x1)) then
  ref01_fields_j7 m self33 rec1 (ref01_fields_l6 m self33 rec1 M6) x0 x1 x2 x3 x4
 else
  ref01_fields_j9 m self33 rec1 x0 x1 x3)
noncomputable def ref01_fields_j5 (m:Nat) (self33:Dt→Bool→Option Bool) (rec1:Bool→Int→Dt→Option Bool) (x0:Bool) (x1 x2:Int) (x3 x4:Dt):Option Bool:=
 ref01_fields_l6 m self33 rec1 (Nat.succ m) x0 x1 x2 x3 x4
noncomputable def ref01_fields_j4 (m:Nat) (self33:Dt→Bool→Option Bool) (rec1:Bool→Int→Dt→Option Bool) (x0:Bool) (x1:Int) (x2 x3:Dt):Option Bool:=
 ref01_fields_j5 m self33 rec1 x0 x1 0 x2 x3
noncomputable def ref01_fields_j3 (m:Nat) (self33:Dt→Bool→Option Bool) (rec1:Bool→Int→Dt→Option Bool) (x0:Bool) (x1:Int) (x2:Bool) (x3 x4:Dt):Option Bool:=
 (bif x2 then
  some false
 else
  ref01_fields_j4 m self33 rec1 x0 x1 x3 x4)
noncomputable def ref01_fields_j2 (m:Nat) (self33:Dt→Bool→Option Bool) (rec1:Bool→Int→Dt→Option Bool) (x0:Bool) (x1:Int) (x2:Dt):Option Bool:=
  ((idx (Dt.L x2 4) x1).bind fun v0=>
    (bif x0 then
 ((ref01_Name m (Dt.S v0 0)).bind fun r1=>
 (bif (Bool.not r1) then
 ref01_fields_j3 m self33 rec1 x0 x1 true x2 v0
 else
 (bif (Bool.not x0) then
 ((ref01_wide m (Dt.S v0 0)).bind fun r3=>
 (bif (Bool.not r3) then
 ref01_fields_j3 m self33 rec1 x0 x1 true x2 v0
 else
 ((self33 (Dt.fld v0 1) x0).bind fun r4=>
 ref01_fields_j3 m self33 rec1 x0 x1 (Bool.not r4) x2 v0)))
 else
 ((self33 (Dt.fld v0 1) x0).bind fun r5=>
 ref01_fields_j3 m self33 rec1 x0 x1 (Bool.not r5) x2 v0))))
    else
 (bif (Bool.not x0) then
 ((ref01_wide m (Dt.S v0 0)).bind fun r6=>
 (bif (Bool.not r6) then
 ref01_fields_j3 m self33 rec1 x0 x1 true x2 v0
 else
 ((self33 (Dt.fld v0 1) x0).bind fun r7=>
 ref01_fields_j3 m self33 rec1 x0 x1 (Bool.not r7) x2 v0)))
 else
 ((self33 (Dt.fld v0 1) x0).bind fun r8=>
 ref01_fields_j3 m self33 rec1 x0 x1 (Bool.not r8) x2 v0))))
noncomputable def ref01_fields_j10 (m:Nat) (self33:Dt→Bool→Option Bool):Option Bool:=
 some true
noncomputable def ref01_fields_l1 (m:Nat) (self33:Dt→Bool→Option Bool):Nat→Bool→Int→Dt→Option Bool
 |0,_,_,_=>none
 |M1+1,x0,x1,x2=>
  (bif (decide (x1<(List.length (Dt.L x2 4):Int))) then
  ref01_fields_j2 m self33 (ref01_fields_l1 m self33 M1) x0 x1 x2
 else
  ref01_fields_j10 m self33)
noncomputable def ref01_fields_j0 (m:Nat) (self33:Dt→Bool→Option Bool) (x0:Bool) (x1:Int) (x2:Dt):Option Bool:=
 ref01_fields_l1 m self33 (Nat.succ m) x0 x1 x2
mutual
noncomputable def ref01_formed:Nat→Dt→Bool→Option Bool
  |0,_,_=>none
  |m+1,a0,a1=>
   (bif ((Dt.I a0 0) !=6) then
   (bif (decide (0<(List.length (Dt.L a0 3):Int))) then
 ref01_formed_j0 m (ref01_formed m) (ref01_fields m) a1 true a0
   else
 (bif ((Dt.I a0 0) !=5) then
 ref01_formed_j0 m (ref01_formed m) (ref01_fields m) a1 (decide (0<(List.length (Dt.L a0 4):Int))) a0
 else
 ref01_formed_j0 m (ref01_formed m) (ref01_fields m) a1 false a0))
  else
   (bif ((Dt.I a0 0) !=5) then
 ref01_formed_j0 m (ref01_formed m) (ref01_fields m) a1 (decide (0<(List.length (Dt.L a0 4):Int))) a0
   else
 ref01_formed_j0 m (ref01_formed m) (ref01_fields m) a1 false a0))
noncomputable def ref01_fields:Nat→Dt→Bool→Option Bool
 |0,_,_=>none
 |m+1,a0,a1=>
  ref01_fields_j0 m (ref01_formed m) a1 0 a0
end
noncomputable def ref01_Valid:Nat→Dt→Option Bool
  |0,_=>none
  |m+1,a0=>
   ((ref01_Depth m a0).bind fun r0=>
   (bif (decide (r0≤16)) then
 ((ref01_Nodes m a0).bind fun r1=>
 (bif (decide (r1≤1024)) then
 ((ref01_formed m a0 true).bind fun r2=>
 some r2)
 else
 some false))
   else
 some false))
noncomputable def value_nodes_j0 (m:Nat) (self65:Dt→Int→Int→Option (Int×Int)) (x0:Dt) (x1 x2:Int):Option Int:=
 ((self65 x0 x2 x1).bind fun r0=>
   some r0.1)
noncomputable def i65_j3 (m:Nat) (self66:Dt→Int→Int→Option (Bool×Int×Int)) (rec1:List Dt→Int→Int→Int→Int→Option (Int×Int)) (x0:List Dt) (x1 x2 x3 x4:Int):Option (Int×Int):=
 rec1 x0 x1 (IntKind.wrap .i64 (x2+1)) x3 x4
noncomputable def i65_j2 (m:Nat) (self66:Dt→Int→Int→Option (Bool×Int×Int)) (rec1:List Dt→Int→Int→Int→Int→Option (Int×Int)) (x0:List Dt) (x1 x2 x3 x4:Int):Option (Int×Int):=
  ((idx x0 x2).bind fun v0=>
    ((self66 v0 x3 x4).bind fun r1=>
 (bif (Bool.not r1.1) then
 some (r1.2.1,r1.2.2)
 else
 i65_j3 m self66 rec1 x0 x1 x2 r1.2.1 r1.2.2)))
noncomputable def i65_l1 (m:Nat) (self66:Dt→Int→Int→Option (Bool×Int×Int)):Nat→List Dt→Int→Int→Int→Int→Option (Int×Int)
 |0,_,_,_,_,_=>none
 |M1+1,x0,x1,x2,x3,x4=>
  (bif (decide (x2<x1)) then
  i65_j2 m self66 (i65_l1 m self66 M1) x0 x1 x2 x3 x4
 else
  some (x3,x4))
noncomputable def i65_j0 (m:Nat) (self66:Dt→Int→Int→Option (Bool×Int×Int)) (x0:List Dt) (x1 x2 x3 x4:Int):Option (Int×Int):=
 i65_l1 m self66 (Nat.succ m) x0 x1 x2 x3 x4
noncomputable def i65_j7 (m:Nat) (self66:Dt→Int→Int→Option (Bool×Int×Int)) (rec5:List Dt→Int→Int→Int→Int→Option (Int×Int)) (x0:List Dt) (x1 x2 x3 x4:Int):Option (Int×Int):=
 rec5 x0 x1 (IntKind.wrap .i64 (x2+1)) x3 x4
noncomputable def i65_j6 (m:Nat) (self66:Dt→Int→Int→Option (Bool×Int×Int)) (rec5:List Dt→Int→Int→Int→Int→Option (Int×Int)) (x0:List Dt) (x1 x2 x3 x4:Int):Option (Int×Int):=
  ((idx x0 x2).bind fun v2=>
    ((self66 (Dt.fld v2 1) x3 x4).bind fun r3=>
 (bif (Bool.not r3.1) then
 some (r3.2.1,r3.2.2)
 else
 i65_j7 m self66 rec5 x0 x1 x2 r3.2.1 r3.2.2)))
noncomputable def i65_l5 (m:Nat) (self66:Dt→Int→Int→Option (Bool×Int×Int)):Nat→List Dt→Int→Int→Int→Int→Option (Int×Int)
 |0,_,_,_,_,_=>none
 |M5+1,x0,x1,x2,x3,x4=>
  (bif (decide (x2<x1)) then
  i65_j6 m self66 (i65_l5 m self66 M5) x0 x1 x2 x3 x4
 else
  some (x3,x4))
noncomputable def i65_j4 (m:Nat) (self66:Dt→Int→Int→Option (Bool×Int×Int)) (x0:List Dt) (x1 x2 x3 x4:Int):Option (Int×Int):=
 i65_l5 m self66 (Nat.succ m) x0 x1 x2 x3 x4
mutual
noncomputable def value_nodes:Nat→Dt→Int→Option Int
 |0,_,_=>none
 |m+1,a0,a1=>
  (bif (1==a1) then
  some 1
 else
  value_nodes_j0 m (i65 m) a0 a1 1)
noncomputable def i65:Nat→Dt→Int→Int→Option (Int×Int)
  |0,_,_,_=>none
  |m+1,a0,a1,a2=>
   (bif ((Dt.I a0 0)==6) then
   i65_j0 m (i66 m) (Dt.L a0 3) (List.length (Dt.L a0 3):Int) 0 a1 a2
  else
   (bif ((Dt.I a0 0)==5) then
 i65_j4 m (i66 m) (Dt.L a0 4) (List.length (Dt.L a0 4):Int) 0 a1 a2
   else
 some (a1,a2)))
noncomputable def i66:Nat→Dt→Int→Int→Option (Bool×Int×Int)
 |0,_,_,_=>none
 |m+1,a0,a1,a2=>
  ((value_nodes m a0 (IntKind.wrap .i64 (a2-a1))).bind fun r0=>
  some ((decide ((IntKind.wrap .i64 (a1+r0))<a2)),(IntKind.wrap .i64 (a1+r0)),a2))
end
noncomputable def value_Nodes:Nat→Dt→Option Int
 |0,_=>none
 |m+1,a0=>
  ((value_nodes m a0 1025).bind fun r0=>
  some r0)
noncomputable def value_depth_j0 (m:Nat) (self67:Dt→Int→Int→Option (Int×Int)) (x0:Dt) (x1:Int):Option Int:=
 ((self67 x0 0 x1).bind fun r0=>
   some (IntKind.wrap .i64 (1+r0.1)))
noncomputable def i67_j3 (m:Nat) (self68:Dt→Int→Int→Option (Bool×Int×Int)) (rec1:List Dt→Int→Int→Int→Int→Option (Int×Int)) (x0:List Dt) (x1 x2 x3 x4:Int):Option (Int×Int):=
 rec1 x0 x1 (IntKind.wrap .i64 (x2+1)) x3 x4
noncomputable def i67_j2 (m:Nat) (self68:Dt→Int→Int→Option (Bool×Int×Int)) (rec1:List Dt→Int→Int→Int→Int→Option (Int×Int)) (x0:List Dt) (x1 x2 x3 x4:Int):Option (Int×Int):=
  ((idx x0 x2).bind fun v0=>
    ((self68 v0 x3 x4).bind fun r1=>
 (bif (Bool.not r1.1) then
 some (r1.2.1,r1.2.2)
 else
 i67_j3 m self68 rec1 x0 x1 x2 r1.2.1 r1.2.2)))
noncomputable def i67_l1 (m:Nat) (self68:Dt→Int→Int→Option (Bool×Int×Int)):Nat→List Dt→Int→Int→Int→Int→Option (Int×Int)
 |0,_,_,_,_,_=>none
 |M1+1,x0,x1,x2,x3,x4=>
  (bif (decide (x2<x1)) then
  i67_j2 m self68 (i67_l1 m self68 M1) x0 x1 x2 x3 x4
 else
  some (x3,x4))
noncomputable def i67_j0 (m:Nat) (self68:Dt→Int→Int→Option (Bool×Int×Int)) (x0:List Dt) (x1 x2 x3 x4:Int):Option (Int×Int):=
 i67_l1 m self68 (Nat.succ m) x0 x1 x2 x3 x4
noncomputable def i67_j7 (m:Nat) (self68:Dt→Int→Int→Option (Bool×Int×Int)) (rec5:List Dt→Int→Int→Int→Int→Option (Int×Int)) (x0:List Dt) (x1 x2 x3 x4:Int):Option (Int×Int):=
 rec5 x0 x1 (IntKind.wrap .i64 (x2+1)) x3 x4
noncomputable def i67_j6 (m:Nat) (self68:Dt→Int→Int→Option (Bool×Int×Int)) (rec5:List Dt→Int→Int→Int→Int→Option (Int×Int)) (x0:List Dt) (x1 x2 x3 x4:Int):Option (Int×Int):=
  ((idx x0 x2).bind fun v2=>
    ((self68 (Dt.fld v2 1) x3 x4).bind fun r3=>
 (bif (Bool.not r3.1) then
 some (r3.2.1,r3.2.2)
 else
 i67_j7 m self68 rec5 x0 x1 x2 r3.2.1 r3.2.2)))
noncomputable def i67_l5 (m:Nat) (self68:Dt→Int→Int→Option (Bool×Int×Int)):Nat→List Dt→Int→Int→Int→Int→Option (Int×Int)
 |0,_,_,_,_,_=>none
 |M5+1,x0,x1,x2,x3,x4=>
  (bif (decide (x2<x1)) then
  i67_j6 m self68 (i67_l5 m self68 M5) x0 x1 x2 x3 x4
 else
  some (x3,x4))
noncomputable def i67_j4 (m:Nat) (self68:Dt→Int→Int→Option (Bool×Int×Int)) (x0:List Dt) (x1 x2 x3 x4:Int):Option (Int×Int):=
 i67_l5 m self68 (Nat.succ m) x0 x1 x2 x3 x4
mutual
noncomputable def value_depth:Nat→Dt→Int→Option Int
 |0,_,_=>none
 |m+1,a0,a1=>
  (bif (a1==1) then
  some 1
 else
  value_depth_j0 m (i67 m) a0 a1)
noncomputable def i67:Nat→Dt→Int→Int→Option (Int×Int)
  |0,_,_,_=>none
  |m+1,a0,a1,a2=>
   (bif ((Dt.I a0 0)==6) then
   i67_j0 m (i68 m) (Dt.L a0 3) (List.length (Dt.L a0 3):Int) 0 a1 a2
  else
   (bif ((Dt.I a0 0)==5) then
 i67_j4 m (i68 m) (Dt.L a0 4) (List.length (Dt.L a0 4):Int) 0 a1 a2
   else
 some (a1,a2)))
noncomputable def i68:Nat→Dt→Int→Int→Option (Bool×Int×Int)
 |0,_,_,_=>none
 |m+1,a0,a1,a2=>
  ((value_depth m a0 (IntKind.wrap .i64 (a2-1))).bind fun r0=>
  some ((decide ((bif (decide (a1<r0)) then r0 else a1)<(IntKind.wrap .i64 (a2-1)))),(bif (decide (a1<r0)) then r0 else a1),a2))
end
noncomputable def value_Depth:Nat→Dt→Option Int
 |0,_=>none
 |m+1,a0=>
  ((value_depth m a0 17).bind fun r0=>
  some r0)
noncomputable def value_isName_j6 (m:Nat) (rec3:ByteArray→Int→Int→Option Bool) (x0:ByteArray) (x1 x2:Int):Option Bool:=
 rec3 x0 x1 (IntKind.wrap .i64 (x2+1))
noncomputable def value_isName_j5 (m:Nat) (rec3:ByteArray→Int→Int→Option Bool) (x0:ByteArray) (x1 x2:Int) (x3:Bool):Option Bool:=
 (bif x3 then
  some false
 else
  value_isName_j6 m rec3 x0 x1 x2)
noncomputable def value_isName_j4 (m:Nat) (rec3:ByteArray→Int→Int→Option Bool) (x0:ByteArray) (x1 x2:Int):Option Bool:=
  ((idxS x0 x2).bind fun v0=>
    (bif (decide (v0<33)) then
 value_isName_j5 m rec3 x0 x1 x2 true
    else
 ((idxS x0 x2).bind fun v1=>
 (bif (decide (126<v1)) then
 value_isName_j5 m rec3 x0 x1 x2 true
 else
 ((idxS x0 x2).bind fun v2=>
 value_isName_j5 m rec3 x0 x1 x2 (v2==46))))))
noncomputable def value_isName_j7 (m:Nat):Option Bool:=
 some true
noncomputable def value_isName_l3 (m:Nat):Nat→ByteArray→Int→Int→Option Bool
 |0,_,_,_=>none
 |M3+1,x0,x1,x2=>
  (bif (decide (x2<x1)) then
  value_isName_j4 m (value_isName_l3 m M3) x0 x1 x2
 else
  value_isName_j7 m)
noncomputable def value_isName_j2 (m:Nat) (x0:ByteArray) (x1 x2:Int):Option Bool:=
 value_isName_l3 m (Nat.succ m) x0 x1 x2
noncomputable def value_isName_j1 (m:Nat) (x0:ByteArray):Option Bool:=
 value_isName_j2 m x0 (ByteArray.size x0:Int) 0
noncomputable def value_isName_j0 (m:Nat) (x0:ByteArray) (x1:Bool):Option Bool:=
 (bif x1 then
  some false
 else
  value_isName_j1 m x0)
noncomputable def value_isName:Nat→ByteArray→Option Bool
  |0,_=>none
  |m+1,a0=>
   (bif (decide ((ByteArray.size a0:Int)<1)) then
   value_isName_j0 m a0 true
  else
   (bif (decide (32<(ByteArray.size a0:Int))) then
 value_isName_j0 m a0 true
   else
 ((idxS a0 0).bind fun v3=>
 value_isName_j0 m a0 (v3==36))))
noncomputable def value_sound_j10 (m:Nat) (self56:Dt→Option Bool) (self64:List Dt→Option Bool) (rec8:List Dt→Int→Int→Option Bool) (x0:List Dt) (x1 x2:Int):Option Bool:=
 rec8 x0 x1 (IntKind.wrap .i64 (x2+1))
noncomputable def value_sound_j9 (m:Nat) (self56:Dt→Option Bool) (self64:List Dt→Option Bool) (rec8:List Dt→Int→Int→Option Bool) (x0:List Dt) (x1 x2:Int):Option Bool:=
  ((idx x0 x2).bind fun v1=>
    ((self56 v1).bind fun r2=>
 (bif (Bool.not r2) then
 some false
 else
 value_sound_j10 m self56 self64 rec8 x0 x1 x2)))
noncomputable def value_sound_j11 (m:Nat) (self56:Dt→Option Bool) (self64:List Dt→Option Bool):Option Bool:=
 some true
noncomputable def value_sound_l8 (m:Nat) (self56:Dt→Option Bool) (self64:List Dt→Option Bool):Nat→List Dt→Int→Int→Option Bool
 |0,_,_,_=>none
 |M8+1,x0,x1,x2=>
  (bif (decide (x2<x1)) then
  value_sound_j9 m self56 self64 (value_sound_l8 m self56 self64 M8) x0 x1 x2
 else
  value_sound_j11 m self56 self64)
noncomputable def value_sound_j7 (m:Nat) (self56:Dt→Option Bool) (self64:List Dt→Option Bool) (x0:List Dt) (x1 x2:Int):Option Bool:=
 value_sound_l8 m self56 self64 (Nat.succ m) x0 x1 x2
noncomputable def value_sound_j12 (m:Nat) (self56:Dt→Option Bool) (self64:List Dt→Option Bool):Option Bool:=
 some false
noncomputable def value_sound_j6 (m:Nat) (self56:Dt→Option Bool) (self64:List Dt→Option Bool) (x0:Int) (x1:Bool) (x2:Dt):Option Bool:=
  (bif x1 then
   some true
  else
   (bif (x0==9) then
 (bif ((Dt.I x2 1)==0) then
 some true
 else
 some ((Dt.I x2 1)==1))
   else
 (bif (x0==10) then
 some (decide (0≤(Dt.I x2 1)))
 else
 (bif (x0==4) then
 (bif (decide ((ByteArray.size (Dt.S x2 2):Int)≤4096)) then
 ((utf8_ValidString (Dt.S x2 2)).bind fun r0=>
 some r0)
 else
 some false)
 else
 (bif (x0==7) then
 some (decide ((ByteArray.size (Dt.S x2 2):Int)≤4096))
 else
 (bif (x0==8) then
 some ((ByteArray.size (Dt.S x2 2):Int)==12)
 else
 (bif (x0==6) then
 value_sound_j7 m self56 self64 (Dt.L x2 3) (List.length (Dt.L x2 3):Int) 0
 else
 (bif (x0==5) then
 ((self64 (Dt.L x2 4)).bind fun r3=>
 some r3)
 else
 value_sound_j12 m self56 self64))))))))
noncomputable def value_sound_j5 (m:Nat) (self56:Dt→Option Bool) (self64:List Dt→Option Bool) (x0:Dt):Option Bool:=
  (bif ((Dt.I x0 0)==1) then
   value_sound_j6 m self56 self64 (Dt.I x0 0) ((Dt.I x0 0)==1) x0
  else
   (bif ((Dt.I x0 0)==2) then
 value_sound_j6 m self56 self64 (Dt.I x0 0) ((Dt.I x0 0)==2) x0
   else
 (bif ((Dt.I x0 0)==11) then
 value_sound_j6 m self56 self64 (Dt.I x0 0) ((Dt.I x0 0)==11) x0
 else
 value_sound_j6 m self56 self64 (Dt.I x0 0) ((Dt.I x0 0)==3) x0)))
noncomputable def value_sound_j4 (m:Nat) (self56:Dt→Option Bool) (self64:List Dt→Option Bool) (x0:Bool) (x1:Dt):Option Bool:=
 (bif x0 then
  some false
 else
  value_sound_j5 m self56 self64 x1)
noncomputable def value_sound_j3 (m:Nat) (self56:Dt→Option Bool) (self64:List Dt→Option Bool) (x0:Dt):Option Bool:=
  (bif ((Dt.I x0 0) !=6) then
   (bif (decide (0<(List.length (Dt.L x0 3):Int))) then
 value_sound_j4 m self56 self64 true x0
   else
 (bif ((Dt.I x0 0) !=5) then
 value_sound_j4 m self56 self64 (decide (0<(List.length (Dt.L x0 4):Int))) x0
 else
 value_sound_j4 m self56 self64 false x0))
  else
   (bif ((Dt.I x0 0) !=5) then
 value_sound_j4 m self56 self64 (decide (0<(List.length (Dt.L x0 4):Int))) x0
   else
 value_sound_j4 m self56 self64 false x0))
noncomputable def value_sound_j2 (m:Nat) (self56:Dt→Option Bool) (self64:List Dt→Option Bool) (x0:Bool) (x1:Dt):Option Bool:=
 (bif x0 then
  some false
 else
  value_sound_j3 m self56 self64 x1)
noncomputable def value_sound_j1 (m:Nat) (self56:Dt→Option Bool) (self64:List Dt→Option Bool) (x0 x1:Bool) (x2:Dt):Option Bool:=
  (bif (Bool.not x0) then
   (bif ((Dt.I x2 1) !=0) then
 value_sound_j2 m self56 self64 true x2
   else
 (bif (Bool.not x1) then
 value_sound_j2 m self56 self64 (Bool.not ((ByteArray.toList (Dt.S x2 2))==[])) x2
 else
 value_sound_j2 m self56 self64 false x2))
  else
   (bif (Bool.not x1) then
 value_sound_j2 m self56 self64 (Bool.not ((ByteArray.toList (Dt.S x2 2))==[])) x2
   else
 value_sound_j2 m self56 self64 false x2))
noncomputable def value_sound_j0 (m:Nat) (self56:Dt→Option Bool) (self64:List Dt→Option Bool) (x0:Bool) (x1:Dt):Option Bool:=
  (bif ((Dt.I x1 0)==4) then
   value_sound_j1 m self56 self64 x0 true x1
  else
   (bif ((Dt.I x1 0)==7) then
 value_sound_j1 m self56 self64 x0 true x1
   else
 value_sound_j1 m self56 self64 x0 ((Dt.I x1 0)==8) x1))
noncomputable def value_soundFields_j5 (m:Nat) (self56:Dt→Option Bool) (rec1:List Dt→Int→Int→List Dt→Option Bool) (x0:List Dt) (x1 x2:Int) (x3:List Dt):Option Bool:=
 rec1 x0 x1 (IntKind.wrap .i64 (x2+1)) x3
noncomputable def value_soundFields_j4 (m:Nat) (self56:Dt→Option Bool) (rec1:List Dt→Int→Int→List Dt→Option Bool) (x0:List Dt) (x1 x2:Int) (x3:List Dt) (x4:Dt):Option Bool:=
 value_soundFields_j5 m self56 rec1 x0 x1 x2 (mput x3 (Dt.S x4 0) (Dt.bool true))
noncomputable def value_soundFields_j3 (m:Nat) (self56:Dt→Option Bool) (rec1:List Dt→Int→Int→List Dt→Option Bool) (x0:List Dt) (x1 x2:Int) (x3:Bool) (x4:List Dt) (x5:Dt):Option Bool:=
 (bif x3 then
  some false
 else
  value_soundFields_j4 m self56 rec1 x0 x1 x2 x4 x5)
noncomputable def value_soundFields_j2 (m:Nat) (self56:Dt→Option Bool) (rec1:List Dt→Int→Int→List Dt→Option Bool) (x0:List Dt) (x1 x2:Int) (x3:List Dt):Option Bool:=
  ((idx x0 x2).bind fun v0=>
    ((value_isName m (Dt.S v0 0)).bind fun r1=>
 (bif (Bool.not r1) then
 value_soundFields_j3 m self56 rec1 x0 x1 x2 true x3 v0
 else
 (bif (Dt.toBool (mgetD x3 (Dt.S v0 0) (Dt.bool false))) then
 value_soundFields_j3 m self56 rec1 x0 x1 x2 true x3 v0
 else
 ((self56 (Dt.fld v0 1)).bind fun r2=>
 value_soundFields_j3 m self56 rec1 x0 x1 x2 (Bool.not r2) x3 v0)))))
noncomputable def value_soundFields_j6 (m:Nat) (self56:Dt→Option Bool):Option Bool:=
 some true
noncomputable def value_soundFields_l1 (m:Nat) (self56:Dt→Option Bool):Nat→List Dt→Int→Int→List Dt→Option Bool
 |0,_,_,_,_=>none
 |M1+1,x0,x1,x2,x3=>
  (bif (decide (x2<x1)) then
  value_soundFields_j2 m self56 (value_soundFields_l1 m self56 M1) x0 x1 x2 x3
 else
  value_soundFields_j6 m self56)
noncomputable def value_soundFields_j0 (m:Nat) (self56:Dt→Option Bool) (x0:List Dt) (x1 x2:Int) (x3:List Dt):Option Bool:=
 value_soundFields_l1 m self56 (Nat.succ m) x0 x1 x2 x3
mutual
noncomputable def value_sound:Nat→Dt→Option Bool
  |0,_=>none
  |m+1,a0=>
   (bif ((Dt.I a0 0)==3) then
   value_sound_j0 m (value_sound m) (value_soundFields m) true a0
  else
   (bif ((Dt.I a0 0)==9) then
 value_sound_j0 m (value_sound m) (value_soundFields m) true a0
   else
 value_sound_j0 m (value_sound m) (value_soundFields m) ((Dt.I a0 0)==10) a0))
noncomputable def value_soundFields:Nat→List Dt→Option Bool
 |0,_=>none
 |m+1,a0=>
  value_soundFields_j0 m (value_sound m) a0 (List.length a0:Int) 0 []
end
noncomputable def value_Valid:Nat→Dt→Option Bool
  |0,_=>none
  |m+1,a0=>
   ((value_Nodes m a0).bind fun r0=>
   (bif (decide (r0≤1024)) then
 ((value_Depth m a0).bind fun r1=>
 (bif (decide (r1≤16)) then
 ((value_sound m a0).bind fun r2=>
 some r2)
 else
 some false))
   else
 some false))
noncomputable def schema_bound_j0 (m:Nat) (x0:Dt):Option Bool:=
  (bif ((Dt.I x0 0)==0) then
   (bif ((Dt.I x0 1)==0) then
 (bif ((ByteArray.toList (Dt.S x0 2))==[]) then
 (bif ((List.length (Dt.L x0 3):Int)==0) then
 some ((List.length (Dt.L x0 4):Int)==0)
 else
 some false)
 else
 some false)
   else
 some false)
  else
   some false)
noncomputable def schema_bound:Nat→Bool→Dt→Option Bool
  |0,_,_=>none
  |m+1,a0,a1=>
   (bif a0 then
   ((value_Valid m a1).bind fun r0=>
 some r0)
  else
   schema_bound_j0 m a1)
noncomputable def schema_checkOne_j5 (m:Nat) (rec1:List Dt→Int→Int→Dt→List Dt→Option Int) (x0:List Dt) (x1 x2:Int) (x3:Dt) (x4:List Dt):Option Int:=
 rec1 x0 x1 (IntKind.wrap .i64 (x2+1)) x3 x4
noncomputable def schema_checkOne_j4 (m:Nat) (rec1:List Dt→Int→Int→Dt→List Dt→Option Int) (x0:ByteArray) (x1:List Dt) (x2 x3:Int) (x4:Dt) (x5:List Dt):Option Int:=
 schema_checkOne_j5 m rec1 x1 x2 x3 x4 (mput x5 x0 (Dt.bool true))
noncomputable def schema_checkOne_j3 (m:Nat) (rec1:List Dt→Int→Int→Dt→List Dt→Option Int) (x0:ByteArray) (x1:List Dt) (x2 x3:Int) (x4:Bool) (x5:Dt) (x6:List Dt):Option Int:=
 (bif x4 then
  some 9
 else
  schema_checkOne_j4 m rec1 x0 x1 x2 x3 x5 x6)
noncomputable def schema_checkOne_j2 (m:Nat) (rec1:List Dt→Int→Int→Dt→List Dt→Option Int) (x0:List Dt) (x1 x2:Int) (x3:Dt) (x4:List Dt):Option Int:=
  ((idx x0 x2).bind fun v0=>
    ((schema_isName m (Dt.toStr v0)).bind fun r1=>
 (bif (Bool.not r1) then
 schema_checkOne_j3 m rec1 (Dt.toStr v0) x0 x1 x2 true x3 x4
 else
 schema_checkOne_j3 m rec1 (Dt.toStr v0) x0 x1 x2 (Dt.toBool (mgetD x4 (Dt.toStr v0) (Dt.bool false))) x3 x4)))
noncomputable def schema_checkOne_j12 (m:Nat) (rec8:List Dt→Int→Int→Dt→List Dt→Option Int) (x0:List Dt) (x1 x2:Int) (x3:Dt) (x4:List Dt):Option Int:=
 rec8 x0 x1 (IntKind.wrap .i64 (x2+1)) x3 x4
noncomputable def schema_checkOne_j11 (m:Nat) (rec8:List Dt→Int→Int→Dt→List Dt→Option Int) (x0:List Dt) (x1 x2:Int) (x3:Dt) (x4:List Dt) (x5:Dt):Option Int:=
 schema_checkOne_j12 m rec8 x0 x1 x2 x3 (mput x4 (Dt.S x5 0) (Dt.bool true))
noncomputable def schema_checkOne_j10 (m:Nat) (rec8:List Dt→Int→Int→Dt→List Dt→Option Int) (x0:List Dt) (x1 x2:Int) (x3:Bool) (x4:Dt) (x5:List Dt) (x6:Dt):Option Int:=
 (bif x3 then
  some 9
 else
  schema_checkOne_j11 m rec8 x0 x1 x2 x4 x5 x6)
noncomputable def schema_checkOne_j9 (m:Nat) (rec8:List Dt→Int→Int→Dt→List Dt→Option Int) (x0:List Dt) (x1 x2:Int) (x3:Dt) (x4:List Dt):Option Int:=
  ((idx x0 x2).bind fun v2=>
    ((schema_isName m (Dt.S v2 0)).bind fun r3=>
 (bif (Bool.not r3) then
 schema_checkOne_j10 m rec8 x0 x1 x2 true x3 x4 v2
 else
 schema_checkOne_j10 m rec8 x0 x1 x2 (Dt.toBool (mgetD x4 (Dt.S v2 0) (Dt.bool false))) x3 x4 v2)))
noncomputable def schema_checkOne_j21 (m:Nat) (rec19:List Dt→Int→Int→Option Int) (x0:List Dt) (x1 x2:Int):Option Int:=
 rec19 x0 x1 (IntKind.wrap .i64 (x2+1))
noncomputable def schema_checkOne_j20 (m:Nat) (rec19:List Dt→Int→Int→Option Int) (x0:List Dt) (x1 x2:Int):Option Int:=
  ((idx x0 x2).bind fun v5=>
    ((value_Valid m v5).bind fun r6=>
 (bif (Bool.not r6) then
 some 8
 else
 schema_checkOne_j21 m rec19 x0 x1 x2)))
noncomputable def schema_checkOne_j22 (m:Nat):Option Int:=
 some 0
noncomputable def schema_checkOne_l19 (m:Nat):Nat→List Dt→Int→Int→Option Int
 |0,_,_,_=>none
 |M19+1,x0,x1,x2=>
  (bif (decide (x2<x1)) then
  schema_checkOne_j20 m (schema_checkOne_l19 m M19) x0 x1 x2
 else
  schema_checkOne_j22 m)
noncomputable def schema_checkOne_j18 (m:Nat) (x0:List Dt) (x1 x2:Int):Option Int:=
 schema_checkOne_l19 m (Nat.succ m) x0 x1 x2
noncomputable def schema_checkOne_j17 (m:Nat) (x0:Dt):Option Int:=
 schema_checkOne_j18 m (Dt.L x0 5) (List.length (Dt.L x0 5):Int) 0
noncomputable def schema_checkOne_j16 (m:Nat) (x0:Bool) (x1:Dt):Option Int:=
 (bif x0 then
  some 8
 else
  schema_checkOne_j17 m x1)
noncomputable def schema_checkOne_j15 (m:Nat) (x0:Dt):Option Int:=
  ((schema_bound m (Dt.B x0 1) (Dt.fld x0 2)).bind fun r4=>
    (bif (Bool.not r4) then
 schema_checkOne_j16 m true x0
    else
 ((schema_bound m (Dt.B x0 3) (Dt.fld x0 4)).bind fun r7=>
 schema_checkOne_j16 m (Bool.not r7) x0)))
noncomputable def schema_checkOne_j14 (m:Nat) (x0:Bool) (x1:Dt):Option Int:=
 (bif x0 then
  some 1
 else
  schema_checkOne_j15 m x1)
noncomputable def schema_checkOne_j13 (m:Nat) (x0:Dt):Option Int:=
  (bif ((bicI IntKind.i64 (Dt.I x0 0) 4094) !=0) then
   schema_checkOne_j14 m true x0
  else
   (bif (decide ((Dt.I x0 6)<0)) then
 schema_checkOne_j14 m true x0
   else
 (bif (decide ((Dt.I x0 7)<(-1))) then
 schema_checkOne_j14 m true x0
 else
 schema_checkOne_j14 m (decide (1<(List.length (Dt.L x0 11):Int))) x0)))
noncomputable def schema_checkOne_l8 (m:Nat):Nat→List Dt→Int→Int→Dt→List Dt→Option Int
 |0,_,_,_,_,_=>none
 |M8+1,x0,x1,x2,x3,x4=>
  (bif (decide (x2<x1)) then
  schema_checkOne_j9 m (schema_checkOne_l8 m M8) x0 x1 x2 x3 x4
 else
  schema_checkOne_j13 m x3)
noncomputable def schema_checkOne_j7 (m:Nat) (x0:List Dt) (x1 x2:Int) (x3:Dt) (x4:List Dt):Option Int:=
 schema_checkOne_l8 m (Nat.succ m) x0 x1 x2 x3 x4
noncomputable def schema_checkOne_j6 (m:Nat) (x0:Dt):Option Int:=
 schema_checkOne_j7 m (Dt.L x0 9) (List.length (Dt.L x0 9):Int) 0 x0 []
noncomputable def schema_checkOne_l1 (m:Nat):Nat→List Dt→Int→Int→Dt→List Dt→Option Int
 |0,_,_,_,_,_=>none
 |M1+1,x0,x1,x2,x3,x4=>
  (bif (decide (x2<x1)) then
  schema_checkOne_j2 m (schema_checkOne_l1 m M1) x0 x1 x2 x3 x4
 else
  schema_checkOne_j6 m x3)
noncomputable def schema_checkOne_j0 (m:Nat) (x0:List Dt) (x1 x2:Int) (x3:Dt) (x4:List Dt):Option Int:=
 schema_checkOne_l1 m (Nat.succ m) x0 x1 x2 x3 x4
noncomputable def schema_checkOne:Nat→Dt→Option Int
 |0,_=>none
 |m+1,a0=>
  schema_checkOne_j0 m (Dt.L a0 8) (List.length (Dt.L a0 8):Int) 0 a0 []
noncomputable def i29_j6 (m:Nat) (self29:Dt→Int→Int→Option (Int×Int)) (rec4:Int→List Dt→Int→Int→Int→Dt→Option (Int×Int)) (x0:Int) (x1:List Dt) (x2 x3 x4:Int) (x5:Dt):Option (Int×Int):=
 rec4 x0 x1 x2 (IntKind.wrap .i64 (x3+1)) x4 x5
noncomputable def i29_j5 (m:Nat) (self29:Dt→Int→Int→Option (Int×Int)) (rec4:Int→List Dt→Int→Int→Int→Dt→Option (Int×Int)) (x0:Int) (x1:List Dt) (x2 x3 x4:Int) (x5:Dt):Option (Int×Int):=
  ((idx x1 x3).bind fun v1=>
    ((self29 (Dt.fld v1 1) (IntKind.wrap .i64 (x0+1)) x4).bind fun r2=>
 (bif (r2.1 !=0) then
 some (r2.1,r2.2)
 else
 i29_j6 m self29 rec4 x0 x1 x2 x3 r2.2 x5)))
noncomputable def i29_j11 (m:Nat) (self29:Dt→Int→Int→Option (Int×Int)) (rec9:Int→List Dt→Int→Int→Int→Option (Int×Int)) (x0:Int) (x1:List Dt) (x2 x3 x4:Int):Option (Int×Int):=
 rec9 x0 x1 x2 (IntKind.wrap .i64 (x3+1)) x4
noncomputable def i29_j10 (m:Nat) (self29:Dt→Int→Int→Option (Int×Int)) (rec9:Int→List Dt→Int→Int→Int→Option (Int×Int)) (x0:Int) (x1:List Dt) (x2 x3 x4:Int):Option (Int×Int):=
  ((idx x1 x3).bind fun v3=>
    ((self29 v3 (IntKind.wrap .i64 (x0+1)) x4).bind fun r4=>
 (bif (r4.1 !=0) then
 some (r4.1,r4.2)
 else
 i29_j11 m self29 rec9 x0 x1 x2 x3 r4.2)))
noncomputable def i29_j12 (m:Nat) (self29:Dt→Int→Int→Option (Int×Int)) (x0:Int):Option (Int×Int):=
 some (0,x0)
noncomputable def i29_l9 (m:Nat) (self29:Dt→Int→Int→Option (Int×Int)):Nat→Int→List Dt→Int→Int→Int→Option (Int×Int)
 |0,_,_,_,_,_=>none
 |M9+1,x0,x1,x2,x3,x4=>
  (bif (decide (x3<x2)) then
  i29_j10 m self29 (i29_l9 m self29 M9) x0 x1 x2 x3 x4
 else
  i29_j12 m self29 x4)
noncomputable def i29_j8 (m:Nat) (self29:Dt→Int→Int→Option (Int×Int)) (x0:Int) (x1:List Dt) (x2 x3 x4:Int):Option (Int×Int):=
 i29_l9 m self29 (Nat.succ m) x0 x1 x2 x3 x4
noncomputable def i29_j7 (m:Nat) (self29:Dt→Int→Int→Option (Int×Int)) (x0 x1:Int) (x2:Dt):Option (Int×Int):=
 i29_j8 m self29 x0 (Dt.L x2 11) (List.length (Dt.L x2 11):Int) 0 x1
noncomputable def i29_l4 (m:Nat) (self29:Dt→Int→Int→Option (Int×Int)):Nat→Int→List Dt→Int→Int→Int→Dt→Option (Int×Int)
 |0,_,_,_,_,_,_=>none
 |M4+1,x0,x1,x2,x3,x4,x5=>
  (bif (decide (x3<x2)) then
  i29_j5 m self29 (i29_l4 m self29 M4) x0 x1 x2 x3 x4 x5
 else
  i29_j7 m self29 x0 x4 x5)
noncomputable def i29_j3 (m:Nat) (self29:Dt→Int→Int→Option (Int×Int)) (x0:Int) (x1:List Dt) (x2 x3 x4:Int) (x5:Dt):Option (Int×Int):=
 i29_l4 m self29 (Nat.succ m) x0 x1 x2 x3 x4 x5
noncomputable def i29_j2 (m:Nat) (self29:Dt→Int→Int→Option (Int×Int)) (x0 x1:Int) (x2:Dt):Option (Int×Int):=
 i29_j3 m self29 x0 (Dt.L x2 9) (List.length (Dt.L x2 9):Int) 0 x1 x2
noncomputable def i29_j1 (m:Nat) (self29:Dt→Int→Int→Option (Int×Int)) (x0 x1:Int) (x2:Dt):Option (Int×Int):=
  ((schema_checkOne m x2).bind fun r0=>
    (bif (r0 !=0) then
 some (r0,(IntKind.wrap .i64 (x1+1)))
    else
 i29_j2 m self29 x0 (IntKind.wrap .i64 (x1+1)) x2))
noncomputable def i29_j0 (m:Nat) (self29:Dt→Int→Int→Option (Int×Int)) (x0:Int) (x1:Bool) (x2:Int) (x3:Dt):Option (Int×Int):=
 (bif x1 then
  some (2,x2)
 else
  i29_j1 m self29 x0 x2 x3)
noncomputable def i29:Nat→Dt→Int→Int→Option (Int×Int)
 |0,_,_,_=>none
 |m+1,a0,a1,a2=>
  (bif (decide (16<a1)) then
  i29_j0 m (i29 m) a1 true a2 a0
 else
  i29_j0 m (i29 m) a1 (a2==64) a2 a0)
noncomputable def schema_Valid:Nat→Dt→Option Int
 |0,_=>none
 |m+1,a0=>
  ((i29 m a0 1 0).bind fun r0=>
  some r0.1)
noncomputable def schema_Check_j0 (m:Nat) (x0 x1:Dt):Option (List Dt):=
 ((i9 m x0 x1 [] []).bind fun r1=>
   some r1.2)
noncomputable def schema_Check:Nat→Dt→Dt→Option (List Dt)
  |0,_,_=>none
  |m+1,a0,a1=>
   ((schema_Valid m a0).bind fun r0=>
   (bif (r0 !=0) then
 some []
   else
 schema_Check_j0 m a0 a1))
noncomputable def law14_SchemaPaths_j6 (m:Nat) (rec3:List Dt→Int→Dt→Dt→Option Bool) (x0:List Dt) (x1:Int) (x2 x3:Dt):Option Bool:=
 rec3 x0 (IntKind.wrap .i64 (x1+1)) x2 x3
noncomputable def law14_SchemaPaths_j5 (m:Nat) (rec3:List Dt→Int→Dt→Dt→Option Bool) (x0:List Dt) (x1:Int) (x2:Bool) (x3 x4:Dt):Option Bool:=
 (bif x2 then
  some false
 else
  law14_SchemaPaths_j6 m rec3 x0 x1 x3 x4)
noncomputable def law14_SchemaPaths_j4 (m:Nat) (rec3:List Dt→Int→Dt→Dt→Option Bool) (x0:List Dt) (x1:Int) (x2 x3:Dt):Option Bool:=
  ((idx x0 x1).bind fun v3=>
    (bif (decide ((Dt.I v3 1)<1)) then
 law14_SchemaPaths_j5 m rec3 x0 x1 true x2 x3
    else
 ((idx x0 x1).bind fun v4=>
 (bif (decide (8<(Dt.I v4 1))) then
 law14_SchemaPaths_j5 m rec3 x0 x1 true x2 x3
 else
 ((idx x0 x1).bind fun v5=>
 ((law14_walk m x3 (Dt.L v5 0)).bind fun r6=>
 ((idx x0 x1).bind fun v7=>
 law14_SchemaPaths_j5 m rec3 x0 x1 (r6==((Dt.I v7 1)==6)) x2 x3)))))))
noncomputable def law14_SchemaPaths_j7 (m:Nat) (x0:List Dt) (x1:Dt):Option Bool:=
  (bif ((List.length x0:Int)==0) then
   ((awakeC).bind fun r8=>
 some r8)
  else
   ((schema_Valid m x1).bind fun r9=>
 (bif (r9==0) then
 ((awakeC).bind fun r10=>
 some r10)
 else
 some false)))
noncomputable def law14_SchemaPaths_l3 (m:Nat):Nat→List Dt→Int→Dt→Dt→Option Bool
 |0,_,_,_,_=>none
 |M3+1,x0,x1,x2,x3=>
  (bif (decide (x1<(List.length x0:Int))) then
  law14_SchemaPaths_j4 m (law14_SchemaPaths_l3 m M3) x0 x1 x2 x3
 else
  law14_SchemaPaths_j7 m x0 x2)
noncomputable def law14_SchemaPaths_j2 (m:Nat) (x0:List Dt) (x1:Int) (x2 x3:Dt):Option Bool:=
 law14_SchemaPaths_l3 m (Nat.succ m) x0 x1 x2 x3
noncomputable def law14_SchemaPaths_j1 (m:Nat) (x0 x1:Dt):Option Bool:=
 ((schema_Check m x0 x1).bind fun r2=>
   law14_SchemaPaths_j2 m r2 0 x0 x1)
noncomputable def law14_SchemaPaths_j0 (m:Nat) (x0:Bool) (x1 x2:Dt):Option Bool:=
  (bif x0 then
   ((awakeC).bind fun r1=>
 some r1)
  else
   law14_SchemaPaths_j1 m x1 x2)
noncomputable def law14_SchemaPaths:Nat→Dt→Dt→Option Bool
  |0,_,_=>none
  |m+1,a0,a1=>
   ((law14_few m a0 a1).bind fun r0=>
   (bif (Bool.not r0) then
 law14_SchemaPaths_j0 m true a0 a1
   else
 ((ref01_Valid m a1).bind fun r11=>
 law14_SchemaPaths_j0 m (Bool.not r11) a0 a1)))
end Go.Proofs.YtfneddmmeadacaaDoor
