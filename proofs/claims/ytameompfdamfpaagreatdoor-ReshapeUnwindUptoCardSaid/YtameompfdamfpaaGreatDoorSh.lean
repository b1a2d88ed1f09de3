/- Generated: what the Go functions compute, over plain data. -/
import Derived.Test.YtameompfdamfpaaGreatDoorAmF
import Derived.Test.YtameompfdamfpaaGreatDoorOAwake
import Derived.Test.YtameompfdamfpaaGreatDoorOC
set_option linter.unusedVariables false
set_option linter.unusedSimpArgs false
namespace Go.Proofs.YtameompfdamfpaaGreatDoor
open Go.Am
def kz3c25e:Dt:=Dt.agg [(Dt.int 2),(Dt.int 0),(Dt.str (ByteArray.mk (List.toArray []))),(Dt.lst []),(Dt.lst [])]
def kza2373:Dt:=Dt.agg [(Dt.int 0),(Dt.int 0),(Dt.str (ByteArray.mk (List.toArray []))),(Dt.lst []),(Dt.lst [])]
def kzcda49:Dt:=Dt.agg [(Dt.str (ByteArray.mk (List.toArray []))),(Dt.agg [(Dt.int 0),(Dt.int 0),(Dt.str (ByteArray.mk (List.toArray []))),(Dt.lst []),(Dt.lst [])])]
noncomputable def law03_SameList_j4 (m:Nat) (self18:Dt→Dt→Option Bool) (rec2:List Dt→List Dt→Int→Int→Option Bool) (x0 x1:List Dt) (x2 x3:Int):Option Bool:=
 rec2 x0 x1 x2 (IntKind.wrap .i64 (x3+1))
noncomputable def law03_SameList_j3 (m:Nat) (self18:Dt→Dt→Option Bool) (rec2:List Dt→List Dt→Int→Int→Option Bool) (x0 x1:List Dt) (x2 x3:Int):Option Bool:=
  ((idx x0 x3).bind fun v0=>
    ((idx x1 x3).bind fun v1=>
 ((self18 v0 v1).bind fun r2=>
 (bif (Bool.not r2) then
 some false
 else
 law03_SameList_j4 m self18 rec2 x0 x1 x2 x3))))
noncomputable def law03_SameList_j5 (m:Nat) (self18:Dt→Dt→Option Bool):Option Bool:=
 some true
noncomputable def law03_SameList_l2 (m:Nat) (self18:Dt→Dt→Option Bool):Nat→List Dt→List Dt→Int→Int→Option Bool
 |0,_,_,_,_=>none
 |M2+1,x0,x1,x2,x3=>
  (bif (decide (x3<x2)) then
  law03_SameList_j3 m self18 (law03_SameList_l2 m self18 M2) x0 x1 x2 x3
 else
  law03_SameList_j5 m self18)
noncomputable def law03_SameList_j1 (m:Nat) (self18:Dt→Dt→Option Bool) (x0 x1:List Dt) (x2 x3:Int):Option Bool:=
 law03_SameList_l2 m self18 (Nat.succ m) x0 x1 x2 x3
noncomputable def law03_SameList_j0 (m:Nat) (self18:Dt→Dt→Option Bool) (x0 x1:List Dt):Option Bool:=
 law03_SameList_j1 m self18 x0 x1 (List.length x0:Int) 0
noncomputable def law03_Same_j6 (m:Nat) (self5:List Dt→List Dt→Option Bool) (self18:Dt→Dt→Option Bool) (rec3:Int→Int→Dt→Dt→Option Bool) (x0 x1:Int) (x2 x3:Dt):Option Bool:=
 rec3 x0 (IntKind.wrap .i64 (x1+1)) x2 x3
noncomputable def law03_Same_j5 (m:Nat) (self5:List Dt→List Dt→Option Bool) (self18:Dt→Dt→Option Bool) (rec3:Int→Int→Dt→Dt→Option Bool) (x0 x1:Int) (x2:Bool) (x3 x4:Dt):Option Bool:=
 (bif x2 then
  some false
 else
  law03_Same_j6 m self5 self18 rec3 x0 x1 x3 x4)
noncomputable def law03_Same_j4 (m:Nat) (self5:List Dt→List Dt→Option Bool) (self18:Dt→Dt→Option Bool) (rec3:Int→Int→Dt→Dt→Option Bool) (x0 x1:Int) (x2 x3:Dt):Option Bool:=
  ((idx (Dt.L x2 4) x1).bind fun v0=>
    ((idx (Dt.L x3 4) x1).bind fun v1=>
 (bif (Bool.not ((ByteArray.toList (Dt.S v0 0))==(ByteArray.toList (Dt.S v1 0)))) then
 law03_Same_j5 m self5 self18 rec3 x0 x1 true x2 x3
 else
 ((idx (Dt.L x2 4) x1).bind fun v2=>
 ((idx (Dt.L x3 4) x1).bind fun v3=>
 ((self18 (Dt.fld v2 1) (Dt.fld v3 1)).bind fun r4=>
 law03_Same_j5 m self5 self18 rec3 x0 x1 (Bool.not r4) x2 x3))))))
noncomputable def law03_Same_j7 (m:Nat) (self5:List Dt→List Dt→Option Bool) (self18:Dt→Dt→Option Bool) (x0 x1:Dt):Option Bool:=
 ((self5 (Dt.L x0 3) (Dt.L x1 3)).bind fun r5=>
   some r5)
noncomputable def law03_Same_l3 (m:Nat) (self5:List Dt→List Dt→Option Bool) (self18:Dt→Dt→Option Bool):Nat→Int→Int→Dt→Dt→Option Bool
 |0,_,_,_,_=>none
 |M3+1,x0,x1,x2,x3=>
  (bif (decide (x1<x0)) then
  law03_Same_j4 m self5 self18 (law03_Same_l3 m self5 self18 M3) x0 x1 x2 x3
 else
  law03_Same_j7 m self5 self18 x2 x3)
noncomputable def law03_Same_j2 (m:Nat) (self5:List Dt→List Dt→Option Bool) (self18:Dt→Dt→Option Bool) (x0 x1:Int) (x2 x3:Dt):Option Bool:=
 law03_Same_l3 m self5 self18 (Nat.succ m) x0 x1 x2 x3
noncomputable def law03_Same_j1 (m:Nat) (self5:List Dt→List Dt→Option Bool) (self18:Dt→Dt→Option Bool) (x0 x1:Dt):Option Bool:=
 law03_Same_j2 m self5 self18 (List.length (Dt.L x0 4):Int) 0 x0 x1
noncomputable def law03_Same_j0 (m:Nat) (self5:List Dt→List Dt→Option Bool) (self18:Dt→Dt→Option Bool) (x0:Bool) (x1 x2:Dt):Option Bool:=
 (bif x0 then
  some false
 else
  law03_Same_j1 m self5 self18 x1 x2)
mutual
noncomputable def law03_SameList:Nat→List Dt→List Dt→Option Bool
 |0,_,_=>none
 |m+1,a0,a1=>
  (bif ((List.length a0:Int) !=(List.length a1:Int)) then
  some false
 else
  law03_SameList_j0 m (law03_Same m) a0 a1)
noncomputable def law03_Same:Nat→Dt→Dt→Option Bool
  |0,_,_=>none
  |m+1,a0,a1=>
   (bif ((Dt.I a0 0) !=(Dt.I a1 0)) then
   law03_Same_j0 m (law03_SameList m) (law03_Same m) true a0 a1
  else
   (bif ((Dt.I a0 1) !=(Dt.I a1 1)) then
 law03_Same_j0 m (law03_SameList m) (law03_Same m) true a0 a1
   else
 (bif (Bool.not ((ByteArray.toList (Dt.S a0 2))==(ByteArray.toList (Dt.S a1 2)))) then
 law03_Same_j0 m (law03_SameList m) (law03_Same m) true a0 a1
 else
 law03_Same_j0 m (law03_SameList m) (law03_Same m) ((List.length (Dt.L a0 4):Int) !=(List.length (Dt.L a1 4):Int)) a0 a1)))
end
noncomputable def ref36_integer:Nat→Int→Option Dt
 |0,_=>none
 |m+1,a0=>
  some (Dt.agg [(Dt.int 3),(Dt.int a0),(Dt.str (ByteArray.mk (List.toArray []))),(Dt.lst []),(Dt.lst [])])
noncomputable def ref36_null:Nat→Option Dt
 |0=>none
 |m+1=>
  some kz3c25e
noncomputable def ref01_Name_j6 (m:Nat) (rec3:ByteArray→Int→Option Bool) (x0:ByteArray) (x1:Int):Option Bool:=
 rec3 x0 (IntKind.wrap .i64 (x1+1))
noncomputable def ref01_Name_j5 (m:Nat) (rec3:ByteArray→Int→Option Bool) (x0:ByteArray) (x1:Int) (x2:Bool):Option Bool:=
 (bif x2 then
  some false
 else
  ref01_Name_j6 m rec3 x0 x1)
noncomputable def ref01_Name_j4 (m:Nat) (rec3:ByteArray→Int→Option Bool) (x0:ByteArray) (x1:Int):Option Bool:=
  ((idxS x0 x1).bind fun v0=>
    (bif (decide (v0<33)) then
 ref01_Name_j5 m rec3 x0 x1 true
    else
 ((idxS x0 x1).bind fun v1=>
 (bif (decide (126<v1)) then
 ref01_Name_j5 m rec3 x0 x1 true
 else
 ((idxS x0 x1).bind fun v2=>
 ref01_Name_j5 m rec3 x0 x1 (v2==46))))))
noncomputable def ref01_Name_j7 (m:Nat):Option Bool:=
 some true
noncomputable def ref01_Name_l3 (m:Nat):Nat→ByteArray→Int→Option Bool
 |0,_,_=>none
 |M3+1,x0,x1=>
  (bif (decide (x1<(ByteArray.size x0:Int))) then
  ref01_Name_j4 m (ref01_Name_l3 m M3) x0 x1
 else
  ref01_Name_j7 m)
noncomputable def ref01_Name_j2 (m:Nat) (x0:ByteArray) (x1:Int):Option Bool:=
 ref01_Name_l3 m (Nat.succ m) x0 x1
noncomputable def ref01_Name_j1 (m:Nat) (x0:ByteArray):Option Bool:=
 ref01_Name_j2 m x0 0
noncomputable def ref01_Name_j0 (m:Nat) (x0:ByteArray) (x1:Bool):Option Bool:=
 (bif x1 then
  some false
 else
  ref01_Name_j1 m x0)
noncomputable def ref01_Name:Nat→ByteArray→Option Bool
  |0,_=>none
  |m+1,a0=>
   (bif (decide ((ByteArray.size a0:Int)<1)) then
   ref01_Name_j0 m a0 true
  else
   (bif (decide (32<(ByteArray.size a0:Int))) then
 ref01_Name_j0 m a0 true
   else
 ((idxS a0 0).bind fun v3=>
 ref01_Name_j0 m a0 (v3==36))))
noncomputable def ref04_Valid_j5 (m:Nat) (rec3:List Dt→Int→Option Bool) (x0:List Dt) (x1:Int):Option Bool:=
 rec3 x0 (IntKind.wrap .i64 (x1+1))
noncomputable def ref04_Valid_j4 (m:Nat) (rec3:List Dt→Int→Option Bool) (x0:List Dt) (x1:Int):Option Bool:=
  ((idx x0 x1).bind fun v0=>
    ((ref01_Name m (Dt.toStr v0)).bind fun r1=>
 (bif (Bool.not r1) then
 some false
 else
 ref04_Valid_j5 m rec3 x0 x1)))
noncomputable def ref04_Valid_j6 (m:Nat):Option Bool:=
 some true
noncomputable def ref04_Valid_l3 (m:Nat):Nat→List Dt→Int→Option Bool
 |0,_,_=>none
 |M3+1,x0,x1=>
  (bif (decide (x1<(List.length x0:Int))) then
  ref04_Valid_j4 m (ref04_Valid_l3 m M3) x0 x1
 else
  ref04_Valid_j6 m)
noncomputable def ref04_Valid_j2 (m:Nat) (x0:List Dt) (x1:Int):Option Bool:=
 ref04_Valid_l3 m (Nat.succ m) x0 x1
noncomputable def ref04_Valid_j1 (m:Nat) (x0:List Dt):Option Bool:=
 ref04_Valid_j2 m x0 0
noncomputable def ref04_Valid_j0 (m:Nat) (x0:List Dt) (x1:Bool):Option Bool:=
 (bif x1 then
  some false
 else
  ref04_Valid_j1 m x0)
noncomputable def ref04_Valid:Nat→List Dt→Option Bool
 |0,_=>none
 |m+1,a0=>
  (bif (decide ((List.length a0:Int)<1)) then
  ref04_Valid_j0 m a0 true
 else
  ref04_Valid_j0 m a0 (decide (16<(List.length a0:Int))))
noncomputable def law36_named:Nat→ByteArray→Option Bool
  |0,_=>none
  |m+1,a0=>
   (bif ((ByteArray.toList a0)==[]) then
   some true
  else
   ((ref04_Valid m [(Dt.str a0)]).bind fun r0=>
 some r0))
noncomputable def reshape_integer:Nat→Int→Option Dt
 |0,_=>none
 |m+1,a0=>
  some (Dt.agg [(Dt.int 3),(Dt.int a0),(Dt.str (ByteArray.mk (List.toArray []))),(Dt.lst []),(Dt.lst [])])
noncomputable def reshape_copyValue_j3 (m:Nat) (self25:Dt→Option Dt) (rec1:List Dt→Int→Int→Dt→Dt→Int→Int→ByteArray→List Dt→List Dt→Option Dt) (x0:List Dt) (x1 x2:Int) (x3 x4:Dt) (x5 x6:Int) (x7:ByteArray) (x8 x9:List Dt):Option Dt:=
 rec1 x0 x1 (IntKind.wrap .i64 (x2+1)) x3 x4 x5 x6 x7 x8 x9
noncomputable def reshape_copyValue_j2 (m:Nat) (self25:Dt→Option Dt) (rec1:List Dt→Int→Int→Dt→Dt→Int→Int→ByteArray→List Dt→List Dt→Option Dt) (x0:List Dt) (x1 x2:Int) (x3 x4:Dt) (x5 x6:Int) (x7:ByteArray) (x8 x9:List Dt):Option Dt:=
  ((idx x0 x2).bind fun v0=>
    ((self25 v0).bind fun r1=>
 ((app x8 [r1]).bind fun v2=>
 reshape_copyValue_j3 m self25 rec1 x0 x1 x2 x3 x4 x5 x6 x7 v2 x9)))
noncomputable def reshape_copyValue_j8 (m:Nat) (self25:Dt→Option Dt) (rec6:List Dt→Int→Int→Dt→Int→Int→ByteArray→List Dt→List Dt→Option Dt) (x0:List Dt) (x1 x2:Int) (x3:Dt) (x4 x5:Int) (x6:ByteArray) (x7 x8:List Dt):Option Dt:=
 rec6 x0 x1 (IntKind.wrap .i64 (x2+1)) x3 x4 x5 x6 x7 x8
noncomputable def reshape_copyValue_j7 (m:Nat) (self25:Dt→Option Dt) (rec6:List Dt→Int→Int→Dt→Int→Int→ByteArray→List Dt→List Dt→Option Dt) (x0:List Dt) (x1 x2:Int) (x3:Dt) (x4 x5:Int) (x6:ByteArray) (x7 x8:List Dt):Option Dt:=
  ((idx x0 x2).bind fun v3=>
    ((self25 (Dt.fld v3 1)).bind fun r4=>
 ((app x8 [(Dt.agg [(Dt.str (Dt.S v3 0)),r4])]).bind fun v5=>
 reshape_copyValue_j8 m self25 rec6 x0 x1 x2 x3 x4 x5 x6 x7 v5)))
noncomputable def reshape_copyValue_j9 (m:Nat) (self25:Dt→Option Dt) (x0:Dt) (x1 x2:Int) (x3:ByteArray) (x4 x5:List Dt):Option Dt:=
 some (Dt.agg [(Dt.int x1),(Dt.int x2),(Dt.str x3),(Dt.lst x4),(Dt.lst x5)])
noncomputable def reshape_copyValue_l6 (m:Nat) (self25:Dt→Option Dt):Nat→List Dt→Int→Int→Dt→Int→Int→ByteArray→List Dt→List Dt→Option Dt
 |0,_,_,_,_,_,_,_,_,_=>none
 |M6+1,x0,x1,x2,x3,x4,x5,x6,x7,x8=>
  (bif (decide (x2<x1)) then
  reshape_copyValue_j7 m self25 (reshape_copyValue_l6 m self25 M6) x0 x1 x2 x3 x4 x5 x6 x7 x8
 else
  reshape_copyValue_j9 m self25 x3 x4 x5 x6 x7 x8)
noncomputable def reshape_copyValue_j5 (m:Nat) (self25:Dt→Option Dt) (x0:List Dt) (x1 x2:Int) (x3:Dt) (x4 x5:Int) (x6:ByteArray) (x7 x8:List Dt):Option Dt:=
 reshape_copyValue_l6 m self25 (Nat.succ m) x0 x1 x2 x3 x4 x5 x6 x7 x8
noncomputable def reshape_copyValue_j4 (m:Nat) (self25:Dt→Option Dt) (x0 x1:Dt) (x2 x3:Int) (x4:ByteArray) (x5 x6:List Dt):Option Dt:=
 reshape_copyValue_j5 m self25 (Dt.L x0 4) (List.length (Dt.L x0 4):Int) 0 x1 x2 x3 x4 x5 x6
noncomputable def reshape_copyValue_l1 (m:Nat) (self25:Dt→Option Dt):Nat→List Dt→Int→Int→Dt→Dt→Int→Int→ByteArray→List Dt→List Dt→Option Dt
 |0,_,_,_,_,_,_,_,_,_,_=>none
 |M1+1,x0,x1,x2,x3,x4,x5,x6,x7,x8,x9=>
  (bif (decide (x2<x1)) then
  reshape_copyValue_j2 m self25 (reshape_copyValue_l1 m self25 M1) x0 x1 x2 x3 x4 x5 x6 x7 x8 x9
 else
  reshape_copyValue_j4 m self25 x3 x4 x5 x6 x7 x8 x9)
noncomputable def reshape_copyValue_j0 (m:Nat) (self25:Dt→Option Dt) (x0:List Dt) (x1 x2:Int) (x3 x4:Dt) (x5 x6:Int) (x7:ByteArray) (x8 x9:List Dt):Option Dt:=
 reshape_copyValue_l1 m self25 (Nat.succ m) x0 x1 x2 x3 x4 x5 x6 x7 x8 x9
noncomputable def reshape_copyValue:Nat→Dt→Option Dt
 |0,_=>none
 |m+1,a0=>
  reshape_copyValue_j0 m (reshape_copyValue m) (Dt.L a0 3) (List.length (Dt.L a0 3):Int) 0 a0 kza2373 (Dt.I a0 0) (Dt.I a0 1) (Dt.S a0 2) [] []
noncomputable def ref04_Number_j7 (m:Nat) (rec3:ByteArray→Int→Int→Option (Int×Bool)) (x0:ByteArray) (x1 x2:Int):Option (Int×Bool):=
 rec3 x0 x1 (IntKind.wrap .i64 (x2+1))
noncomputable def ref04_Number_j6 (m:Nat) (rec3:ByteArray→Int→Int→Option (Int×Bool)) (x0:ByteArray) (x1 x2:Int):Option (Int×Bool):=
 ((idxS x0 x2).bind fun v1=>
   ref04_Number_j7 m rec3 x0 (IntKind.wrap .i64 ((IntKind.wrap .i64 (x1*10))+(IntKind.wrap .i64 (IntKind.wrap IntKind.u8 (v1-48))))) x2)
noncomputable def ref04_Number_j5 (m:Nat) (rec3:ByteArray→Int→Int→Option (Int×Bool)) (x0:ByteArray) (x1 x2:Int) (x3:Bool):Option (Int×Bool):=
 (bif x3 then
  some (0,false)
 else
  ref04_Number_j6 m rec3 x0 x1 x2)
noncomputable def ref04_Number_j4 (m:Nat) (rec3:ByteArray→Int→Int→Option (Int×Bool)) (x0:ByteArray) (x1 x2:Int):Option (Int×Bool):=
  ((idxS x0 x2).bind fun v0=>
    (bif (decide (v0<48)) then
 ref04_Number_j5 m rec3 x0 x1 x2 true
    else
 ((idxS x0 x2).bind fun v2=>
 ref04_Number_j5 m rec3 x0 x1 x2 (decide (57<v2)))))
noncomputable def ref04_Number_j8 (m:Nat) (x0:Int):Option (Int×Bool):=
 some (x0,true)
noncomputable def ref04_Number_l3 (m:Nat):Nat→ByteArray→Int→Int→Option (Int×Bool)
 |0,_,_,_=>none
 |M3+1,x0,x1,x2=>
  (bif (decide (x2<(ByteArray.size x0:Int))) then
  ref04_Number_j4 m (ref04_Number_l3 m M3) x0 x1 x2
 else
  ref04_Number_j8 m x1)
noncomputable def ref04_Number_j2 (m:Nat) (x0:ByteArray) (x1 x2:Int):Option (Int×Bool):=
 ref04_Number_l3 m (Nat.succ m) x0 x1 x2
noncomputable def ref04_Number_j1 (m:Nat) (x0:ByteArray):Option (Int×Bool):=
 ref04_Number_j2 m x0 0 0
noncomputable def ref04_Number_j0 (m:Nat) (x0:ByteArray) (x1:Bool):Option (Int×Bool):=
 (bif x1 then
  some (0,false)
 else
  ref04_Number_j1 m x0)
noncomputable def ref04_Number:Nat→ByteArray→Option (Int×Bool)
  |0,_=>none
  |m+1,a0=>
   (bif (decide ((ByteArray.size a0:Int)<1)) then
   ref04_Number_j0 m a0 true
  else
   (bif (decide (4<(ByteArray.size a0:Int))) then
 ref04_Number_j0 m a0 true
   else
 ((idxS a0 0).bind fun v3=>
 (bif (v3==48) then
 ref04_Number_j0 m a0 (decide (1<(ByteArray.size a0:Int)))
 else
 ref04_Number_j0 m a0 false))))
noncomputable def ref01_Null:Nat→Option Dt
 |0=>none
 |m+1=>
  some kz3c25e
noncomputable def path_field_j3 (m:Nat) (rec1:List Dt→ByteArray→Int→Int→Option Int) (x0:List Dt) (x1:ByteArray) (x2 x3:Int):Option Int:=
 rec1 x0 x1 x2 (IntKind.wrap .i64 (x3+1))
noncomputable def path_field_j2 (m:Nat) (rec1:List Dt→ByteArray→Int→Int→Option Int) (x0:List Dt) (x1:ByteArray) (x2 x3:Int):Option Int:=
  ((idx x0 x3).bind fun v0=>
    (bif ((ByteArray.toList (Dt.S v0 0))==(ByteArray.toList x1)) then
 some x3
    else
 path_field_j3 m rec1 x0 x1 x2 x3))
noncomputable def path_field_j4 (m:Nat):Option Int:=
 some (-1)
noncomputable def path_field_l1 (m:Nat):Nat→List Dt→ByteArray→Int→Int→Option Int
 |0,_,_,_,_=>none
 |M1+1,x0,x1,x2,x3=>
  (bif (decide (x3<x2)) then
  path_field_j2 m (path_field_l1 m M1) x0 x1 x2 x3
 else
  path_field_j4 m)
noncomputable def path_field_j0 (m:Nat) (x0:List Dt) (x1:ByteArray) (x2 x3:Int):Option Int:=
 path_field_l1 m (Nat.succ m) x0 x1 x2 x3
noncomputable def path_field:Nat→List Dt→ByteArray→Option Int
 |0,_,_=>none
 |m+1,a0,a1=>
  path_field_j0 m a0 a1 (List.length a0:Int) 0
noncomputable def path_Number_j7 (m:Nat) (rec3:ByteArray→Int→Int→Int→Option (Int×Bool)) (x0:ByteArray) (x1 x2 x3:Int):Option (Int×Bool):=
 rec3 x0 x1 x2 (IntKind.wrap .i64 (x3+1))
noncomputable def path_Number_j6 (m:Nat) (rec3:ByteArray→Int→Int→Int→Option (Int×Bool)) (x0:ByteArray) (x1 x2 x3 x4:Int):Option (Int×Bool):=
 ((idxS x0 x2).bind fun v1=>
   path_Number_j7 m rec3 x0 (IntKind.wrap .i64 ((IntKind.wrap .i64 (10*x1))+(IntKind.wrap .i64 (IntKind.wrap IntKind.u8 (v1-48))))) x3 x4)
noncomputable def path_Number_j5 (m:Nat) (rec3:ByteArray→Int→Int→Int→Option (Int×Bool)) (x0:ByteArray) (x1 x2 x3 x4:Int) (x5:Bool):Option (Int×Bool):=
 (bif x5 then
  some (0,false)
 else
  path_Number_j6 m rec3 x0 x1 x2 x3 x4)
noncomputable def path_Number_j4 (m:Nat) (rec3:ByteArray→Int→Int→Int→Option (Int×Bool)) (x0:ByteArray) (x1 x2 x3:Int):Option (Int×Bool):=
  ((idxS x0 x3).bind fun v0=>
    (bif (decide (v0<48)) then
 path_Number_j5 m rec3 x0 x1 x3 x2 x3 true
    else
 ((idxS x0 x3).bind fun v2=>
 path_Number_j5 m rec3 x0 x1 x3 x2 x3 (decide (57<v2)))))
noncomputable def path_Number_j8 (m:Nat) (x0:Int):Option (Int×Bool):=
 some (x0,true)
noncomputable def path_Number_l3 (m:Nat):Nat→ByteArray→Int→Int→Int→Option (Int×Bool)
 |0,_,_,_,_=>none
 |M3+1,x0,x1,x2,x3=>
  (bif (decide (x3<x2)) then
  path_Number_j4 m (path_Number_l3 m M3) x0 x1 x2 x3
 else
  path_Number_j8 m x1)
noncomputable def path_Number_j2 (m:Nat) (x0:ByteArray) (x1 x2 x3:Int):Option (Int×Bool):=
 path_Number_l3 m (Nat.succ m) x0 x1 x2 x3
noncomputable def path_Number_j1 (m:Nat) (x0:ByteArray):Option (Int×Bool):=
 path_Number_j2 m x0 0 (ByteArray.size x0:Int) 0
noncomputable def path_Number_j0 (m:Nat) (x0:ByteArray) (x1:Bool):Option (Int×Bool):=
 (bif x1 then
  some (0,false)
 else
  path_Number_j1 m x0)
noncomputable def path_Number:Nat→ByteArray→Option (Int×Bool)
  |0,_=>none
  |m+1,a0=>
   (bif (decide ((ByteArray.size a0:Int)<1)) then
   path_Number_j0 m a0 true
  else
   (bif (decide (4<(ByteArray.size a0:Int))) then
 path_Number_j0 m a0 true
   else
 ((idxS a0 0).bind fun v3=>
 (bif (v3==48) then
 path_Number_j0 m a0 (decide (1<(ByteArray.size a0:Int)))
 else
 path_Number_j0 m a0 false))))
noncomputable def path_clone_j3 (m:Nat) (self38:Dt→Option (Int×Int×ByteArray×List Dt×List Dt)) (rec1:List Dt→Int→Int→Dt→Dt→Int→Int→ByteArray→List Dt→List Dt→Option (Int×Int×ByteArray×List Dt×List Dt)) (x0:List Dt) (x1 x2:Int) (x3 x4:Dt) (x5 x6:Int) (x7:ByteArray) (x8 x9:List Dt):Option (Int×Int×ByteArray×List Dt×List Dt):=
 rec1 x0 x1 (IntKind.wrap .i64 (x2+1)) x3 x4 x5 x6 x7 x8 x9
noncomputable def path_clone_j2 (m:Nat) (self38:Dt→Option (Int×Int×ByteArray×List Dt×List Dt)) (rec1:List Dt→Int→Int→Dt→Dt→Int→Int→ByteArray→List Dt→List Dt→Option (Int×Int×ByteArray×List Dt×List Dt)) (x0:List Dt) (x1 x2:Int) (x3 x4:Dt) (x5 x6:Int) (x7:ByteArray) (x8 x9:List Dt):Option (Int×Int×ByteArray×List Dt×List Dt):=
  ((idx x0 x2).bind fun v1=>
    ((self38 v1).bind fun r2=>
 ((inL x8 x2).bind fun v3=>
 ((x8[(Int.toNat x2)]?).bind fun v4=>
 path_clone_j3 m self38 rec1 x0 x1 x2 x3 x4 x5 x6 x7 (List.set x8 (Int.toNat x2) (Dt.agg [(Dt.int r2.1),(Dt.int r2.2.1),(Dt.str r2.2.2.1),(Dt.lst r2.2.2.2.1),(Dt.lst r2.2.2.2.2)])) x9))))
noncomputable def path_clone_j8 (m:Nat) (self38:Dt→Option (Int×Int×ByteArray×List Dt×List Dt)) (rec6:List Dt→Int→Int→Dt→Int→Int→ByteArray→List Dt→List Dt→Option (Int×Int×ByteArray×List Dt×List Dt)) (x0:List Dt) (x1 x2:Int) (x3:Dt) (x4 x5:Int) (x6:ByteArray) (x7 x8:List Dt):Option (Int×Int×ByteArray×List Dt×List Dt):=
 rec6 x0 x1 (IntKind.wrap .i64 (x2+1)) x3 x4 x5 x6 x7 x8
noncomputable def path_clone_j7 (m:Nat) (self38:Dt→Option (Int×Int×ByteArray×List Dt×List Dt)) (rec6:List Dt→Int→Int→Dt→Int→Int→ByteArray→List Dt→List Dt→Option (Int×Int×ByteArray×List Dt×List Dt)) (x0:List Dt) (x1 x2:Int) (x3:Dt) (x4 x5:Int) (x6:ByteArray) (x7 x8:List Dt):Option (Int×Int×ByteArray×List Dt×List Dt):=
  ((idx x0 x2).bind fun v6=>
    ((self38 (Dt.fld v6 1)).bind fun r7=>
 ((inL x8 x2).bind fun v8=>
 ((x8[(Int.toNat x2)]?).bind fun v9=>
 path_clone_j8 m self38 rec6 x0 x1 x2 x3 x4 x5 x6 x7 (List.set x8 (Int.toNat x2) (Dt.agg [(Dt.str (Dt.S v6 0)),(Dt.agg [(Dt.int r7.1),(Dt.int r7.2.1),(Dt.str r7.2.2.1),(Dt.lst r7.2.2.2.1),(Dt.lst r7.2.2.2.2)])]))))))
noncomputable def path_clone_j9 (m:Nat) (self38:Dt→Option (Int×Int×ByteArray×List Dt×List Dt)) (x0:Dt) (x1 x2:Int) (x3:ByteArray) (x4 x5:List Dt):Option (Int×Int×ByteArray×List Dt×List Dt):=
 some (x1,x2,x3,x4,x5)
noncomputable def path_clone_l6 (m:Nat) (self38:Dt→Option (Int×Int×ByteArray×List Dt×List Dt)):Nat→List Dt→Int→Int→Dt→Int→Int→ByteArray→List Dt→List Dt→Option (Int×Int×ByteArray×List Dt×List Dt)
 |0,_,_,_,_,_,_,_,_,_=>none
 |M6+1,x0,x1,x2,x3,x4,x5,x6,x7,x8=>
  (bif (decide (x2<x1)) then
  path_clone_j7 m self38 (path_clone_l6 m self38 M6) x0 x1 x2 x3 x4 x5 x6 x7 x8
 else
  path_clone_j9 m self38 x3 x4 x5 x6 x7 x8)
noncomputable def path_clone_j5 (m:Nat) (self38:Dt→Option (Int×Int×ByteArray×List Dt×List Dt)) (x0:List Dt) (x1 x2:Int) (x3:Dt) (x4 x5:Int) (x6:ByteArray) (x7 x8:List Dt):Option (Int×Int×ByteArray×List Dt×List Dt):=
 path_clone_l6 m self38 (Nat.succ m) x0 x1 x2 x3 x4 x5 x6 x7 x8
noncomputable def path_clone_j4 (m:Nat) (self38:Dt→Option (Int×Int×ByteArray×List Dt×List Dt)) (x0 x1:Dt) (x2 x3:Int) (x4:ByteArray) (x5 x6:List Dt):Option (Int×Int×ByteArray×List Dt×List Dt):=
  (bif (decide (0<(List.length (Dt.L x0 4):Int))) then
   ((mkL (List.length (Dt.L x0 4):Int) (List.length (Dt.L x0 4):Int) kzcda49).bind fun v5=>
 path_clone_j5 m self38 (Dt.L x0 4) (List.length (Dt.L x0 4):Int) 0 x1 x2 x3 x4 x5 v5)
  else
   path_clone_j9 m self38 x1 x2 x3 x4 x5 x6)
noncomputable def path_clone_l1 (m:Nat) (self38:Dt→Option (Int×Int×ByteArray×List Dt×List Dt)):Nat→List Dt→Int→Int→Dt→Dt→Int→Int→ByteArray→List Dt→List Dt→Option (Int×Int×ByteArray×List Dt×List Dt)
 |0,_,_,_,_,_,_,_,_,_,_=>none
 |M1+1,x0,x1,x2,x3,x4,x5,x6,x7,x8,x9=>
  (bif (decide (x2<x1)) then
  path_clone_j2 m self38 (path_clone_l1 m self38 M1) x0 x1 x2 x3 x4 x5 x6 x7 x8 x9
 else
  path_clone_j4 m self38 x3 x4 x5 x6 x7 x8 x9)
noncomputable def path_clone_j0 (m:Nat) (self38:Dt→Option (Int×Int×ByteArray×List Dt×List Dt)) (x0:List Dt) (x1 x2:Int) (x3 x4:Dt) (x5 x6:Int) (x7:ByteArray) (x8 x9:List Dt):Option (Int×Int×ByteArray×List Dt×List Dt):=
 path_clone_l1 m self38 (Nat.succ m) x0 x1 x2 x3 x4 x5 x6 x7 x8 x9
noncomputable def path_clone:Nat→Dt→Option (Int×Int×ByteArray×List Dt×List Dt)
  |0,_=>none
  |m+1,a0=>
   (bif (decide (0<(List.length (Dt.L a0 3):Int))) then
   ((mkL (List.length (Dt.L a0 3):Int) (List.length (Dt.L a0 3):Int) kza2373).bind fun v0=>
 path_clone_j0 m (path_clone m) (Dt.L a0 3) (List.length (Dt.L a0 3):Int) 0 a0 kza2373 (Dt.I a0 0) (Dt.I a0 1) (Dt.S a0 2) v0 [])
  else
   path_clone_j4 m (path_clone m) a0 kza2373 (Dt.I a0 0) (Dt.I a0 1) (Dt.S a0 2) [] [])
noncomputable def path_Get_j4 (m:Nat) (rec1:List Dt→Int→Int→Dt→Dt→Option Dt) (x0:List Dt) (x1 x2:Int) (x3 x4:Dt):Option Dt:=
 rec1 x0 x1 (IntKind.wrap .i64 (x2+1)) x3 x4
noncomputable def path_Get_j3 (m:Nat) (rec1:List Dt→Int→Int→Dt→Dt→Option Dt) (x0:Int) (x1:List Dt) (x2 x3:Int) (x4 x5:Dt):Option Dt:=
 (bif (decide (x0<0)) then
  some kza2373
 else
  path_Get_j4 m rec1 x1 x2 x3 x4 x5)
noncomputable def path_Get_j5 (m:Nat) (rec1:List Dt→Int→Int→Dt→Dt→Option Dt) (x0 x1:Int) (x2:List Dt) (x3 x4:Int) (x5:Bool) (x6 x7:Dt):Option Dt:=
  (bif x5 then
   ((idx (Dt.L x6 3) x1).bind fun v4=>
 path_Get_j3 m rec1 x1 x2 x3 x4 v4 x7)
  else
   path_Get_j3 m rec1 x0 x2 x3 x4 x6 x7)
noncomputable def path_Get_j2 (m:Nat) (rec1:List Dt→Int→Int→Dt→Dt→Option Dt) (x0:List Dt) (x1 x2:Int) (x3 x4:Dt):Option Dt:=
  ((idx x0 x2).bind fun v0=>
    (bif ((Dt.I x3 0)==5) then
 ((path_field m (Dt.L x3 4) (Dt.toStr v0)).bind fun r1=>
 (bif (decide (0≤r1)) then
 ((idx (Dt.L x3 4) r1).bind fun v2=>
 path_Get_j3 m rec1 r1 x0 x1 x2 (Dt.fld v2 1) x4)
 else
 path_Get_j3 m rec1 r1 x0 x1 x2 x3 x4))
    else
 (bif ((Dt.I x3 0)==6) then
 ((path_Number m (Dt.toStr v0)).bind fun r3=>
 (bif r3.2 then
 path_Get_j5 m rec1 (-1) r3.1 x0 x1 x2 (decide (r3.1<(List.length (Dt.L x3 3):Int))) x3 x4
 else
 path_Get_j5 m rec1 (-1) r3.1 x0 x1 x2 false x3 x4))
 else
 path_Get_j3 m rec1 (-1) x0 x1 x2 x3 x4)))
noncomputable def path_Get_j6 (m:Nat) (x0 x1:Dt):Option Dt:=
 ((path_clone m x0).bind fun r5=>
   some (Dt.agg [(Dt.int r5.1),(Dt.int r5.2.1),(Dt.str r5.2.2.1),(Dt.lst r5.2.2.2.1),(Dt.lst r5.2.2.2.2)]))
noncomputable def path_Get_l1 (m:Nat):Nat→List Dt→Int→Int→Dt→Dt→Option Dt
 |0,_,_,_,_,_=>none
 |M1+1,x0,x1,x2,x3,x4=>
  (bif (decide (x2<x1)) then
  path_Get_j2 m (path_Get_l1 m M1) x0 x1 x2 x3 x4
 else
  path_Get_j6 m x3 x4)
noncomputable def path_Get_j0 (m:Nat) (x0:List Dt) (x1 x2:Int) (x3 x4:Dt):Option Dt:=
 path_Get_l1 m (Nat.succ m) x0 x1 x2 x3 x4
noncomputable def path_Get:Nat→Dt→List Dt→Option Dt
 |0,_,_=>none
 |m+1,a0,a1=>
  path_Get_j0 m a1 (List.length a1:Int) 0 a0 kza2373
noncomputable def ref01_at_j4 (m:Nat) (rec2:ByteArray→Int→Dt→Option Int) (x0:ByteArray) (x1:Int) (x2:Dt):Option Int:=
 rec2 x0 (IntKind.wrap .i64 (x1+1)) x2
noncomputable def ref01_at_j3 (m:Nat) (rec2:ByteArray→Int→Dt→Option Int) (x0:ByteArray) (x1:Int) (x2:Dt):Option Int:=
  ((idx (Dt.L x2 4) x1).bind fun v0=>
    (bif ((ByteArray.toList (Dt.S v0 0))==(ByteArray.toList x0)) then
 some x1
    else
 ref01_at_j4 m rec2 x0 x1 x2))
noncomputable def ref01_at_j5 (m:Nat):Option Int:=
 some (-1)
noncomputable def ref01_at_l2 (m:Nat):Nat→ByteArray→Int→Dt→Option Int
 |0,_,_,_=>none
 |M2+1,x0,x1,x2=>
  (bif (decide (x1<(List.length (Dt.L x2 4):Int))) then
  ref01_at_j3 m (ref01_at_l2 m M2) x0 x1 x2
 else
  ref01_at_j5 m)
noncomputable def ref01_at_j1 (m:Nat) (x0:ByteArray) (x1:Int) (x2:Dt):Option Int:=
 ref01_at_l2 m (Nat.succ m) x0 x1 x2
noncomputable def ref01_at_j0 (m:Nat) (x0:ByteArray) (x1:Dt):Option Int:=
 ref01_at_j1 m x0 0 x1
noncomputable def ref01_at:Nat→Dt→ByteArray→Option Int
 |0,_,_=>none
 |m+1,a0,a1=>
  (bif ((Dt.I a0 0) !=5) then
  some (-1)
 else
  ref01_at_j0 m a1 a0)
noncomputable def ref01_Get_j0 (m:Nat) (x0:Int) (x1 x2:Dt):Option (Dt×Bool):=
 ((idx (Dt.L x1 4) x0).bind fun v1=>
   some ((Dt.fld v1 1),true))
noncomputable def ref01_Get:Nat→Dt→ByteArray→Option (Dt×Bool)
  |0,_,_=>none
  |m+1,a0,a1=>
   ((ref01_at m a0 a1).bind fun r0=>
   (bif (decide (r0<0)) then
 some (kza2373,false)
   else
 ref01_Get_j0 m r0 a0 kza2373))
noncomputable def ref04_Get_j3 (m:Nat) (self12:Dt→List Dt→Option Dt) (x0:Dt):Option Dt:=
 some kza2373
noncomputable def ref04_Get_j2 (m:Nat) (self12:Dt→List Dt→Option Dt) (x0:List Dt) (x1:Int) (x2:Bool) (x3 x4:Dt):Option Dt:=
  (bif x2 then
   ((idx (Dt.L x3 3) x1).bind fun v6=>
 ((cutL x0 1 (List.length x0:Int)).bind fun v7=>
 ((self12 v6 v7).bind fun r8=>
 some r8)))
  else
   ref04_Get_j3 m self12 x4)
noncomputable def ref04_Get_j1 (m:Nat) (self12:Dt→List Dt→Option Dt) (x0:List Dt) (x1 x2:Dt):Option Dt:=
  (bif ((Dt.I x1 0)==6) then
   ((idx x0 0).bind fun v4=>
 ((ref04_Number m (Dt.toStr v4)).bind fun r5=>
 (bif r5.2 then
 ref04_Get_j2 m self12 x0 r5.1 (decide (r5.1<(List.length (Dt.L x1 3):Int))) x1 x2
 else
 ref04_Get_j2 m self12 x0 r5.1 false x1 x2)))
  else
   ref04_Get_j3 m self12 x2)
noncomputable def ref04_Get_j0 (m:Nat) (self12:Dt→List Dt→Option Dt) (x0:List Dt) (x1 x2:Dt):Option Dt:=
  (bif ((Dt.I x1 0)==5) then
   ((idx x0 0).bind fun v0=>
 ((ref01_Get m x1 (Dt.toStr v0)).bind fun r1=>
 (bif r1.2 then
 ((cutL x0 1 (List.length x0:Int)).bind fun v2=>
 ((self12 r1.1 v2).bind fun r3=>
 some r3))
 else
 ref04_Get_j1 m self12 x0 x1 x2)))
  else
   ref04_Get_j1 m self12 x0 x1 x2)
noncomputable def ref04_Get:Nat→Dt→List Dt→Option Dt
 |0,_,_=>none
 |m+1,a0,a1=>
  (bif ((List.length a1:Int)==0) then
  some a0
 else
  ref04_Get_j0 m (ref04_Get m) a1 a0 kza2373)
noncomputable def ref01_Set_j5 (m:Nat) (rec2:ByteArray→Int→Int→Dt→Dt→Dt→List Dt→Option Dt) (x0:ByteArray) (x1 x2:Int) (x3 x4 x5:Dt) (x6:List Dt):Option Dt:=
 rec2 x0 x1 (IntKind.wrap .i64 (x2+1)) x3 x4 x5 x6
noncomputable def ref01_Set_j4 (m:Nat) (rec2:ByteArray→Int→Int→Dt→Dt→Dt→List Dt→Option Dt) (x0:ByteArray) (x1 x2:Int) (x3 x4 x5:Dt) (x6:List Dt) (x7:Dt):Option Dt:=
 ((app x6 [x7]).bind fun v2=>
   ref01_Set_j5 m rec2 x0 x1 x2 x3 x4 x5 v2)
noncomputable def ref01_Set_j3 (m:Nat) (rec2:ByteArray→Int→Int→Dt→Dt→Dt→List Dt→Option Dt) (x0:ByteArray) (x1 x2:Int) (x3 x4 x5:Dt) (x6:List Dt):Option Dt:=
  ((idx (Dt.L x3 4) x2).bind fun v1=>
    (bif (x2==x1) then
 ref01_Set_j4 m rec2 x0 x1 x2 x3 x4 x5 x6 (Dt.agg [(Dt.str (Dt.S v1 0)),x4])
    else
 ref01_Set_j4 m rec2 x0 x1 x2 x3 x4 x5 x6 v1))
noncomputable def ref01_Set_j7 (m:Nat) (x0 x1:Dt) (x2:List Dt):Option Dt:=
 some (Dt.agg [(Dt.int (Dt.I x0 0)),(Dt.int (Dt.I x0 1)),(Dt.str (Dt.S x0 2)),(Dt.lst (Dt.L x0 3)),(Dt.lst x2)])
noncomputable def ref01_Set_j6 (m:Nat) (x0:ByteArray) (x1:Int) (x2 x3 x4:Dt) (x5:List Dt):Option Dt:=
  (bif (decide (x1<0)) then
   ((app x5 [(Dt.agg [(Dt.str x0),x3])]).bind fun v3=>
 ref01_Set_j7 m x2 x4 v3)
  else
   ref01_Set_j7 m x2 x4 x5)
noncomputable def ref01_Set_l2 (m:Nat):Nat→ByteArray→Int→Int→Dt→Dt→Dt→List Dt→Option Dt
 |0,_,_,_,_,_,_,_=>none
 |M2+1,x0,x1,x2,x3,x4,x5,x6=>
  (bif (decide (x2<(List.length (Dt.L x3 4):Int))) then
  ref01_Set_j3 m (ref01_Set_l2 m M2) x0 x1 x2 x3 x4 x5 x6
 else
  ref01_Set_j6 m x0 x1 x3 x4 x5 x6)
noncomputable def ref01_Set_j1 (m:Nat) (x0:ByteArray) (x1 x2:Int) (x3 x4 x5:Dt) (x6:List Dt):Option Dt:=
 ref01_Set_l2 m (Nat.succ m) x0 x1 x2 x3 x4 x5 x6
noncomputable def ref01_Set_j0 (m:Nat) (x0:ByteArray) (x1 x2 x3:Dt):Option Dt:=
 ((ref01_at m x1 x0).bind fun r0=>
   ref01_Set_j1 m x0 r0 0 x1 x2 x3 [])
noncomputable def ref01_Set:Nat→Dt→ByteArray→Dt→Option Dt
 |0,_,_,_=>none
 |m+1,a0,a1,a2=>
  (bif ((Dt.I a0 0) !=5) then
  some a0
 else
  ref01_Set_j0 m a1 a0 a2 kza2373)
noncomputable def ref36_with_j0 (m:Nat) (x0:ByteArray) (x1 x2 x3:Dt):Option Dt:=
 ((ref01_Set m x1 x0 x2).bind fun r0=>
   some r0)
noncomputable def ref36_with:Nat→Dt→ByteArray→Dt→Option Dt
 |0,_,_,_=>none
 |m+1,a0,a1,a2=>
  (bif ((ByteArray.toList a1)==[]) then
  some a0
 else
  ref36_with_j0 m a1 a0 a2 kza2373)
noncomputable def ref01_Remove_j4 (m:Nat) (rec2:Int→Int→Dt→Dt→List Dt→Option Dt) (x0 x1:Int) (x2 x3:Dt) (x4:List Dt):Option Dt:=
 rec2 x0 (IntKind.wrap .i64 (x1+1)) x2 x3 x4
noncomputable def ref01_Remove_j3 (m:Nat) (rec2:Int→Int→Dt→Dt→List Dt→Option Dt) (x0 x1:Int) (x2 x3:Dt) (x4:List Dt):Option Dt:=
  (bif (x1 !=x0) then
   ((idx (Dt.L x2 4) x1).bind fun v1=>
 ((app x4 [v1]).bind fun v2=>
 ref01_Remove_j4 m rec2 x0 x1 x2 x3 v2))
  else
   ref01_Remove_j4 m rec2 x0 x1 x2 x3 x4)
noncomputable def ref01_Remove_j5 (m:Nat) (x0 x1:Dt) (x2:List Dt):Option Dt:=
 some (Dt.agg [(Dt.int (Dt.I x0 0)),(Dt.int (Dt.I x0 1)),(Dt.str (Dt.S x0 2)),(Dt.lst (Dt.L x0 3)),(Dt.lst x2)])
noncomputable def ref01_Remove_l2 (m:Nat):Nat→Int→Int→Dt→Dt→List Dt→Option Dt
 |0,_,_,_,_,_=>none
 |M2+1,x0,x1,x2,x3,x4=>
  (bif (decide (x1<(List.length (Dt.L x2 4):Int))) then
  ref01_Remove_j3 m (ref01_Remove_l2 m M2) x0 x1 x2 x3 x4
 else
  ref01_Remove_j5 m x2 x3 x4)
noncomputable def ref01_Remove_j1 (m:Nat) (x0 x1:Int) (x2 x3:Dt) (x4:List Dt):Option Dt:=
 ref01_Remove_l2 m (Nat.succ m) x0 x1 x2 x3 x4
noncomputable def ref01_Remove_j0 (m:Nat) (x0:Int) (x1 x2:Dt):Option Dt:=
 ref01_Remove_j1 m x0 0 x1 x2 []
noncomputable def ref01_Remove:Nat→Dt→ByteArray→Option Dt
  |0,_,_=>none
  |m+1,a0,a1=>
   ((ref01_at m a0 a1).bind fun r0=>
   (bif (decide (r0<0)) then
 some a0
   else
 ref01_Remove_j0 m r0 a0 kza2373))
noncomputable def ref04_Drop_j2 (m:Nat) (self16:Dt→List Dt→Option Dt) (x0:List Dt) (x1 x2 x3:Dt):Option Dt:=
  ((idx x0 0).bind fun v4=>
    ((cutL x0 1 (List.length x0:Int)).bind fun v5=>
 ((self16 x3 v5).bind fun r6=>
 ((ref01_Set m x1 (Dt.toStr v4) r6).bind fun r7=>
 some r7))))
noncomputable def ref04_Drop_j1 (m:Nat) (self16:Dt→List Dt→Option Dt) (x0:List Dt) (x1 x2 x3:Dt):Option Dt:=
  (bif ((List.length x0:Int)==1) then
   ((idx x0 0).bind fun v2=>
 ((ref01_Remove m x1 (Dt.toStr v2)).bind fun r3=>
 some r3))
  else
   ref04_Drop_j2 m self16 x0 x1 x2 x3)
noncomputable def ref04_Drop_j6 (m:Nat) (self16:Dt→List Dt→Option Dt) (x0 x1:Dt) (x2:List Dt):Option Dt:=
 some (Dt.agg [(Dt.int (Dt.I x0 0)),(Dt.int (Dt.I x0 1)),(Dt.str (Dt.S x0 2)),(Dt.lst x2),(Dt.lst (Dt.L x0 4))])
noncomputable def ref04_Drop_j5 (m:Nat) (self16:Dt→List Dt→Option Dt) (x0:List Dt) (x1:Int) (x2 x3:Dt):Option Dt:=
  ((app [] (Dt.L x2 3)).bind fun v10=>
    (bif ((List.length x0:Int)==1) then
 ((ref01_Null m).bind fun r11=>
 ((inL v10 x1).bind fun v12=>
 ((v10[(Int.toNat x1)]?).bind fun v13=>
 ref04_Drop_j6 m self16 x2 x3 (List.set v10 (Int.toNat x1) r11))))
    else
 ((inL v10 x1).bind fun v14=>
 ((v10[(Int.toNat x1)]?).bind fun v15=>
 ((cutL x0 1 (List.length x0:Int)).bind fun v16=>
 ((self16 v15 v16).bind fun r17=>
 ((inL v10 x1).bind fun v18=>
 ((v10[(Int.toNat x1)]?).bind fun v19=>
 ref04_Drop_j6 m self16 x2 x3 (List.set v10 (Int.toNat x1) r17)))))))))
noncomputable def ref04_Drop_j4 (m:Nat) (self16:Dt→List Dt→Option Dt) (x0:List Dt) (x1:Int) (x2:Bool) (x3 x4:Dt):Option Dt:=
 (bif x2 then
  some x3
 else
  ref04_Drop_j5 m self16 x0 x1 x3 x4)
noncomputable def ref04_Drop_j3 (m:Nat) (self16:Dt→List Dt→Option Dt) (x0:List Dt) (x1 x2:Dt):Option Dt:=
  ((idx x0 0).bind fun v8=>
    ((ref04_Number m (Dt.toStr v8)).bind fun r9=>
 (bif ((Dt.I x1 0) !=6) then
 ref04_Drop_j4 m self16 x0 r9.1 true x1 x2
 else
 (bif (Bool.not r9.2) then
 ref04_Drop_j4 m self16 x0 r9.1 true x1 x2
 else
 ref04_Drop_j4 m self16 x0 r9.1 (decide ((List.length (Dt.L x1 3):Int)≤r9.1)) x1 x2))))
noncomputable def ref04_Drop_j0 (m:Nat) (self16:Dt→List Dt→Option Dt) (x0:List Dt) (x1 x2:Dt):Option Dt:=
  (bif ((Dt.I x1 0)==5) then
   ((idx x0 0).bind fun v0=>
 ((ref01_Get m x1 (Dt.toStr v0)).bind fun r1=>
 (bif (Bool.not r1.2) then
 some x1
 else
 ref04_Drop_j1 m self16 x0 x1 x2 r1.1)))
  else
   ref04_Drop_j3 m self16 x0 x1 x2)
noncomputable def ref04_Drop:Nat→Dt→List Dt→Option Dt
 |0,_,_=>none
 |m+1,a0,a1=>
  (bif ((List.length a1:Int)==0) then
  some a0
 else
  ref04_Drop_j0 m (ref04_Drop m) a1 a0 kza2373)
noncomputable def ref04_fresh_j3 (m:Nat) (rec1:List Dt→Int→Dt→Dt→Option Dt) (x0:List Dt) (x1:Int) (x2 x3:Dt):Option Dt:=
 rec1 x0 (IntKind.wrap .i64 (x1-1)) x2 x3
noncomputable def ref04_fresh_j2 (m:Nat) (rec1:List Dt→Int→Dt→Dt→Option Dt) (x0:List Dt) (x1:Int) (x2 x3:Dt):Option Dt:=
 ((idx x0 x1).bind fun v0=>
   ref04_fresh_j3 m rec1 x0 x1 (Dt.agg [(Dt.int 5),(Dt.int 0),(Dt.str (ByteArray.mk (List.toArray []))),(Dt.lst []),(Dt.lst [(Dt.agg [(Dt.str (Dt.toStr v0)),x2])])]) x3)
noncomputable def ref04_fresh_j4 (m:Nat) (x0 x1:Dt):Option Dt:=
 some x0
noncomputable def ref04_fresh_l1 (m:Nat):Nat→List Dt→Int→Dt→Dt→Option Dt
 |0,_,_,_,_=>none
 |M1+1,x0,x1,x2,x3=>
  (bif (decide (0≤x1)) then
  ref04_fresh_j2 m (ref04_fresh_l1 m M1) x0 x1 x2 x3
 else
  ref04_fresh_j4 m x2 x3)
noncomputable def ref04_fresh_j0 (m:Nat) (x0:List Dt) (x1:Int) (x2 x3:Dt):Option Dt:=
 ref04_fresh_l1 m (Nat.succ m) x0 x1 x2 x3
noncomputable def ref04_fresh:Nat→List Dt→Dt→Option Dt
 |0,_,_=>none
 |m+1,a0,a1=>
  ref04_fresh_j0 m a0 (IntKind.wrap .i64 ((List.length a0:Int)-1)) a1 kza2373
noncomputable def ref04_put_j1 (m:Nat) (self29:Dt→List Dt→Dt→Option (Dt×Bool)) (x0:List Dt) (x1 x2 x3 x4:Dt):Option (Dt×Bool):=
  ((cutL x0 1 (List.length x0:Int)).bind fun v6=>
    ((self29 x4 v6 x2).bind fun r7=>
 ((idx x0 0).bind fun v8=>
 ((ref01_Set m x1 (Dt.toStr v8) r7.1).bind fun r9=>
 some (r9,r7.2)))))
noncomputable def ref04_put_j7 (m:Nat) (self29:Dt→List Dt→Dt→Option (Dt×Bool)) (rec6:List Dt→Int→Dt→Dt→Dt→List Dt→Option (Dt×Bool)) (x0:List Dt) (x1:Int) (x2 x3 x4:Dt) (x5:List Dt):Option (Dt×Bool):=
  ((ref01_Null m).bind fun r13=>
    ((app x5 [r13]).bind fun v14=>
 rec6 x0 x1 x2 x3 x4 v14))
noncomputable def ref04_put_j9 (m:Nat) (self29:Dt→List Dt→Dt→Option (Dt×Bool)) (x0:Bool) (x1 x2:Dt) (x3:List Dt):Option (Dt×Bool):=
 some ((Dt.agg [(Dt.int (Dt.I x1 0)),(Dt.int (Dt.I x1 1)),(Dt.str (Dt.S x1 2)),(Dt.lst x3),(Dt.lst (Dt.L x1 4))]),x0)
noncomputable def ref04_put_j8 (m:Nat) (self29:Dt→List Dt→Dt→Option (Dt×Bool)) (x0:List Dt) (x1:Int) (x2 x3 x4:Dt) (x5:List Dt):Option (Dt×Bool):=
  (bif (decide (x1<(List.length x5:Int))) then
   ((inL x5 x1).bind fun v15=>
 ((x5[(Int.toNat x1)]?).bind fun v16=>
 ((cutL x0 1 (List.length x0:Int)).bind fun v17=>
 ((self29 v16 v17 x3).bind fun r18=>
 ((inL x5 x1).bind fun v19=>
 ((x5[(Int.toNat x1)]?).bind fun v20=>
 ref04_put_j9 m self29 r18.2 x2 x4 (List.set x5 (Int.toNat x1) r18.1)))))))
  else
   ((cutL x0 1 (List.length x0:Int)).bind fun v21=>
 ((ref04_fresh m v21 x3).bind fun r22=>
 ((app x5 [r22]).bind fun v23=>
 ref04_put_j9 m self29 true x2 x4 v23))))
noncomputable def ref04_put_l6 (m:Nat) (self29:Dt→List Dt→Dt→Option (Dt×Bool)):Nat→List Dt→Int→Dt→Dt→Dt→List Dt→Option (Dt×Bool)
 |0,_,_,_,_,_,_=>none
 |M6+1,x0,x1,x2,x3,x4,x5=>
  (bif (decide ((List.length x5:Int)<x1)) then
  ref04_put_j7 m self29 (ref04_put_l6 m self29 M6) x0 x1 x2 x3 x4 x5
 else
  ref04_put_j8 m self29 x0 x1 x2 x3 x4 x5)
noncomputable def ref04_put_j5 (m:Nat) (self29:Dt→List Dt→Dt→Option (Dt×Bool)) (x0:List Dt) (x1:Int) (x2 x3 x4:Dt) (x5:List Dt):Option (Dt×Bool):=
 ref04_put_l6 m self29 (Nat.succ m) x0 x1 x2 x3 x4 x5
noncomputable def ref04_put_j4 (m:Nat) (self29:Dt→List Dt→Dt→Option (Dt×Bool)) (x0:List Dt) (x1:Int) (x2 x3 x4:Dt):Option (Dt×Bool):=
 ((app [] (Dt.L x2 3)).bind fun v12=>
   ref04_put_j5 m self29 x0 x1 x2 x3 x4 v12)
noncomputable def ref04_put_j3 (m:Nat) (self29:Dt→List Dt→Dt→Option (Dt×Bool)) (x0:List Dt) (x1:Int) (x2:Bool) (x3 x4 x5:Dt):Option (Dt×Bool):=
 (bif x2 then
  some (kza2373,false)
 else
  ref04_put_j4 m self29 x0 x1 x3 x4 x5)
noncomputable def ref04_put_j2 (m:Nat) (self29:Dt→List Dt→Dt→Option (Dt×Bool)) (x0:List Dt) (x1 x2 x3:Dt):Option (Dt×Bool):=
  ((idx x0 0).bind fun v10=>
    ((ref04_Number m (Dt.toStr v10)).bind fun r11=>
 (bif ((Dt.I x1 0) !=6) then
 ref04_put_j3 m self29 x0 r11.1 true x1 x2 x3
 else
 ref04_put_j3 m self29 x0 r11.1 (Bool.not r11.2) x1 x2 x3)))
noncomputable def ref04_put_j0 (m:Nat) (self29:Dt→List Dt→Dt→Option (Dt×Bool)) (x0:List Dt) (x1 x2 x3:Dt):Option (Dt×Bool):=
  (bif ((Dt.I x1 0)==5) then
   ((idx x0 0).bind fun v0=>
 ((ref01_Get m x1 (Dt.toStr v0)).bind fun r1=>
 (bif (Bool.not r1.2) then
 ((idx x0 0).bind fun v2=>
 ((cutL x0 1 (List.length x0:Int)).bind fun v3=>
 ((ref04_fresh m v3 x2).bind fun r4=>
 ((ref01_Set m x1 (Dt.toStr v2) r4).bind fun r5=>
 some (r5,true)))))
 else
 ref04_put_j1 m self29 x0 x1 x2 x3 r1.1)))
  else
   ref04_put_j2 m self29 x0 x1 x2 x3)
noncomputable def ref04_put:Nat→Dt→List Dt→Dt→Option (Dt×Bool)
 |0,_,_,_=>none
 |m+1,a0,a1,a2=>
  (bif ((List.length a1:Int)==0) then
  some (a2,true)
 else
  ref04_put_j0 m (ref04_put m) a1 a0 a2 kza2373)
noncomputable def ref04_Put_j3 (m:Nat) (x0 x1:Dt):Option (Dt×Int):=
 some (x1,0)
noncomputable def ref04_Put_j2 (m:Nat) (x0:List Dt) (x1 x2 x3:Dt):Option (Dt×Int):=
  ((ref04_put m x1 x0 x2).bind fun r1=>
    (bif (Bool.not r1.2) then
 some (kza2373,10)
    else
 ref04_Put_j3 m x3 r1.1))
noncomputable def ref04_Put_j1 (m:Nat) (x0:List Dt) (x1:Bool) (x2 x3 x4:Dt):Option (Dt×Int):=
 (bif x1 then
  some (kza2373,8)
 else
  ref04_Put_j2 m x0 x2 x3 x4)
noncomputable def ref04_Put_j0 (m:Nat) (x0:List Dt) (x1 x2 x3:Dt):Option (Dt×Int):=
 (bif ((Dt.I x1 0) !=5) then
  ref04_Put_j1 m x0 true x1 x2 x3
 else
  ref04_Put_j1 m x0 ((Dt.I x2 0)==0) x1 x2 x3)
noncomputable def ref04_Put:Nat→Dt→List Dt→Dt→Option (Dt×Int)
  |0,_,_,_=>none
  |m+1,a0,a1,a2=>
   ((ref04_Valid m a1).bind fun r0=>
   (bif (Bool.not r0) then
 some (kza2373,10)
   else
 ref04_Put_j0 m a1 a0 a2 kza2373))
noncomputable def ref36_Unwind_j7 (m:Nat) (rec1:List Dt→ByteArray→Bool→List Dt→Int→List Dt→Option (List Dt)) (rec5:List Dt→ByteArray→Bool→List Dt→Int→Int→List Dt→Dt→Option (List Dt)) (x0:List Dt) (x1:ByteArray) (x2:Bool) (x3:List Dt) (x4 x5:Int) (x6:List Dt) (x7:Dt):Option (List Dt):=
 rec5 x0 x1 x2 x3 x4 (IntKind.wrap .i64 (x5+1)) x6 x7
noncomputable def ref36_Unwind_j6 (m:Nat) (rec1:List Dt→ByteArray→Bool→List Dt→Int→List Dt→Option (List Dt)) (rec5:List Dt→ByteArray→Bool→List Dt→Int→Int→List Dt→Dt→Option (List Dt)) (x0:List Dt) (x1:ByteArray) (x2:Bool) (x3:List Dt) (x4 x5:Int) (x6:List Dt) (x7:Dt):Option (List Dt):=
  ((idx x3 x4).bind fun v2=>
    ((idx (Dt.L x7 3) x5).bind fun v3=>
 ((ref04_Put m v2 x0 v3).bind fun r4=>
 ((ref36_integer m x5).bind fun r5=>
 ((ref36_with m r4.1 x1 r5).bind fun r6=>
 ((app x6 [r6]).bind fun v7=>
 ref36_Unwind_j7 m rec1 rec5 x0 x1 x2 x3 x4 x5 v7 x7))))))
noncomputable def ref36_Unwind_j8 (m:Nat) (rec1:List Dt→ByteArray→Bool→List Dt→Int→List Dt→Option (List Dt)) (x0:List Dt) (x1:ByteArray) (x2:Bool) (x3:List Dt) (x4:Int) (x5:List Dt):Option (List Dt):=
 rec1 x0 x1 x2 x3 (IntKind.wrap .i64 (x4+1)) x5
noncomputable def ref36_Unwind_l5 (m:Nat) (rec1:List Dt→ByteArray→Bool→List Dt→Int→List Dt→Option (List Dt)):Nat→List Dt→ByteArray→Bool→List Dt→Int→Int→List Dt→Dt→Option (List Dt)
 |0,_,_,_,_,_,_,_,_=>none
 |M5+1,x0,x1,x2,x3,x4,x5,x6,x7=>
  (bif (decide (x5<(List.length (Dt.L x7 3):Int))) then
  ref36_Unwind_j6 m rec1 (ref36_Unwind_l5 m rec1 M5) x0 x1 x2 x3 x4 x5 x6 x7
 else
  ref36_Unwind_j8 m rec1 x0 x1 x2 x3 x4 x6)
noncomputable def ref36_Unwind_j4 (m:Nat) (rec1:List Dt→ByteArray→Bool→List Dt→Int→List Dt→Option (List Dt)) (x0:List Dt) (x1:ByteArray) (x2:Bool) (x3:List Dt) (x4 x5:Int) (x6:List Dt) (x7:Dt):Option (List Dt):=
 ref36_Unwind_l5 m rec1 (Nat.succ m) x0 x1 x2 x3 x4 x5 x6 x7
noncomputable def ref36_Unwind_j9 (m:Nat) (rec1:List Dt→ByteArray→Bool→List Dt→Int→List Dt→Option (List Dt)) (x0:List Dt) (x1:ByteArray) (x2:Bool) (x3:List Dt) (x4:Int) (x5:Bool) (x6:List Dt):Option (List Dt):=
  (bif x5 then
   ((idx x3 x4).bind fun v13=>
 ((ref36_null m).bind fun r14=>
 ((ref36_with m v13 x1 r14).bind fun r15=>
 ((app x6 [r15]).bind fun v16=>
 ref36_Unwind_j8 m rec1 x0 x1 x2 x3 x4 v16))))
  else
   ref36_Unwind_j8 m rec1 x0 x1 x2 x3 x4 x6)
noncomputable def ref36_Unwind_j3 (m:Nat) (rec1:List Dt→ByteArray→Bool→List Dt→Int→List Dt→Option (List Dt)) (x0:List Dt) (x1:ByteArray) (x2:Bool) (x3:List Dt) (x4:Int) (x5:Bool) (x6:List Dt) (x7:Dt):Option (List Dt):=
  (bif x5 then
   ref36_Unwind_j4 m rec1 x0 x1 x2 x3 x4 0 x6 x7
  else
   (bif ((Dt.I x7 0)==6) then
 (bif x2 then
 ((idx x3 x4).bind fun v8=>
 ((ref04_Drop m v8 x0).bind fun r9=>
 ((ref36_null m).bind fun r10=>
 ((ref36_with m r9 x1 r10).bind fun r11=>
 ((app x6 [r11]).bind fun v12=>
 ref36_Unwind_j8 m rec1 x0 x1 x2 x3 x4 v12)))))
 else
 ref36_Unwind_j8 m rec1 x0 x1 x2 x3 x4 x6)
   else
 (bif x2 then
 ref36_Unwind_j9 m rec1 x0 x1 x2 x3 x4 true x6
 else
 (bif ((Dt.I x7 0) !=2) then
 ref36_Unwind_j9 m rec1 x0 x1 x2 x3 x4 ((Dt.I x7 0) !=0) x6
 else
 ref36_Unwind_j9 m rec1 x0 x1 x2 x3 x4 false x6))))
noncomputable def ref36_Unwind_j2 (m:Nat) (rec1:List Dt→ByteArray→Bool→List Dt→Int→List Dt→Option (List Dt)) (x0:List Dt) (x1:ByteArray) (x2:Bool) (x3:List Dt) (x4:Int) (x5:List Dt):Option (List Dt):=
  ((idx x3 x4).bind fun v0=>
    ((ref04_Get m v0 x0).bind fun r1=>
 (bif ((Dt.I r1 0)==6) then
 ref36_Unwind_j3 m rec1 x0 x1 x2 x3 x4 (decide (0<(List.length (Dt.L r1 3):Int))) x5 r1
 else
 ref36_Unwind_j3 m rec1 x0 x1 x2 x3 x4 false x5 r1)))
noncomputable def ref36_Unwind_j10 (m:Nat) (x0:List Dt):Option (List Dt):=
 some x0
noncomputable def ref36_Unwind_l1 (m:Nat):Nat→List Dt→ByteArray→Bool→List Dt→Int→List Dt→Option (List Dt)
 |0,_,_,_,_,_,_=>none
 |M1+1,x0,x1,x2,x3,x4,x5=>
  (bif (decide (x4<(List.length x3:Int))) then
  ref36_Unwind_j2 m (ref36_Unwind_l1 m M1) x0 x1 x2 x3 x4 x5
 else
  ref36_Unwind_j10 m x5)
noncomputable def ref36_Unwind_j0 (m:Nat) (x0:List Dt) (x1:ByteArray) (x2:Bool) (x3:List Dt) (x4:Int) (x5:List Dt):Option (List Dt):=
 ref36_Unwind_l1 m (Nat.succ m) x0 x1 x2 x3 x4 x5
noncomputable def ref36_Unwind:Nat→List Dt→ByteArray→Bool→List Dt→Option (List Dt)
 |0,_,_,_,_=>none
 |m+1,a0,a1,a2,a3=>
  ref36_Unwind_j0 m a0 a1 a2 a3 0 []
noncomputable def value_clone_j3 (m:Nat) (self46:Dt→Option (Int×Int×ByteArray×List Dt×List Dt)) (rec1:List Dt→Int→Int→Dt→Dt→Int→Int→ByteArray→List Dt→List Dt→Option (Int×Int×ByteArray×List Dt×List Dt)) (x0:List Dt) (x1 x2:Int) (x3 x4:Dt) (x5 x6:Int) (x7:ByteArray) (x8 x9:List Dt):Option (Int×Int×ByteArray×List Dt×List Dt):=
 rec1 x0 x1 (IntKind.wrap .i64 (x2+1)) x3 x4 x5 x6 x7 x8 x9
noncomputable def value_clone_j2 (m:Nat) (self46:Dt→Option (Int×Int×ByteArray×List Dt×List Dt)) (rec1:List Dt→Int→Int→Dt→Dt→Int→Int→ByteArray→List Dt→List Dt→Option (Int×Int×ByteArray×List Dt×List Dt)) (x0:List Dt) (x1 x2:Int) (x3 x4:Dt) (x5 x6:Int) (x7:ByteArray) (x8 x9:List Dt):Option (Int×Int×ByteArray×List Dt×List Dt):=
  ((idx x0 x2).bind fun v1=>
    ((self46 v1).bind fun r2=>
 ((inL x8 x2).bind fun v3=>
 ((x8[(Int.toNat x2)]?).bind fun v4=>
 value_clone_j3 m self46 rec1 x0 x1 x2 x3 x4 x5 x6 x7 (List.set x8 (Int.toNat x2) (Dt.agg [(Dt.int r2.1),(Dt.int r2.2.1),(Dt.str r2.2.2.1),(Dt.lst r2.2.2.2.1),(Dt.lst r2.2.2.2.2)])) x9))))
noncomputable def value_clone_j8 (m:Nat) (self46:Dt→Option (Int×Int×ByteArray×List Dt×List Dt)) (rec6:List Dt→Int→Int→Dt→Int→Int→ByteArray→List Dt→List Dt→Option (Int×Int×ByteArray×List Dt×List Dt)) (x0:List Dt) (x1 x2:Int) (x3:Dt) (x4 x5:Int) (x6:ByteArray) (x7 x8:List Dt):Option (Int×Int×ByteArray×List Dt×List Dt):=
 rec6 x0 x1 (IntKind.wrap .i64 (x2+1)) x3 x4 x5 x6 x7 x8
noncomputable def value_clone_j7 (m:Nat) (self46:Dt→Option (Int×Int×ByteArray×List Dt×List Dt)) (rec6:List Dt→Int→Int→Dt→Int→Int→ByteArray→List Dt→List Dt→Option (Int×Int×ByteArray×List Dt×List Dt)) (x0:List Dt) (x1 x2:Int) (x3:Dt) (x4 x5:Int) (x6:ByteArray) (x7 x8:List Dt):Option (Int×Int×ByteArray×List Dt×List Dt):=
  ((idx x0 x2).bind fun v6=>
    ((self46 (Dt.fld v6 1)).bind fun r7=>
 ((inL x8 x2).bind fun v8=>
 ((x8[(Int.toNat x2)]?).bind fun v9=>
 value_clone_j8 m self46 rec6 x0 x1 x2 x3 x4 x5 x6 x7 (List.set x8 (Int.toNat x2) (Dt.agg [(Dt.str (Dt.S v6 0)),(Dt.agg [(Dt.int r7.1),(Dt.int r7.2.1),(Dt.str r7.2.2.1),(Dt.lst r7.2.2.2.1),(Dt.lst r7.2.2.2.2)])]))))))
noncomputable def value_clone_j9 (m:Nat) (self46:Dt→Option (Int×Int×ByteArray×List Dt×List Dt)) (x0:Dt) (x1 x2:Int) (x3:ByteArray) (x4 x5:List Dt):Option (Int×Int×ByteArray×List Dt×List Dt):=
 some (x1,x2,x3,x4,x5)
noncomputable def value_clone_l6 (m:Nat) (self46:Dt→Option (Int×Int×ByteArray×List Dt×List Dt)):Nat→List Dt→Int→Int→Dt→Int→Int→ByteArray→List Dt→List Dt→Option (Int×Int×ByteArray×List Dt×List Dt)
 |0,_,_,_,_,_,_,_,_,_=>none
 |M6+1,x0,x1,x2,x3,x4,x5,x6,x7,x8=>
  (bif (decide (x2<x1)) then
  value_clone_j7 m self46 (value_clone_l6 m self46 M6) x0 x1 x2 x3 x4 x5 x6 x7 x8
 else
  value_clone_j9 m self46 x3 x4 x5 x6 x7 x8)
noncomputable def value_clone_j5 (m:Nat) (self46:Dt→Option (Int×Int×ByteArray×List Dt×List Dt)) (x0:List Dt) (x1 x2:Int) (x3:Dt) (x4 x5:Int) (x6:ByteArray) (x7 x8:List Dt):Option (Int×Int×ByteArray×List Dt×List Dt):=
 value_clone_l6 m self46 (Nat.succ m) x0 x1 x2 x3 x4 x5 x6 x7 x8
noncomputable def value_clone_j4 (m:Nat) (self46:Dt→Option (Int×Int×ByteArray×List Dt×List Dt)) (x0 x1:Dt) (x2 x3:Int) (x4:ByteArray) (x5 x6:List Dt):Option (Int×Int×ByteArray×List Dt×List Dt):=
  (bif (decide (0<(List.length (Dt.L x0 4):Int))) then
   ((mkL (List.length (Dt.L x0 4):Int) (List.length (Dt.L x0 4):Int) kzcda49).bind fun v5=>
 value_clone_j5 m self46 (Dt.L x0 4) (List.length (Dt.L x0 4):Int) 0 x1 x2 x3 x4 x5 v5)
  else
   value_clone_j9 m self46 x1 x2 x3 x4 x5 x6)
noncomputable def value_clone_l1 (m:Nat) (self46:Dt→Option (Int×Int×ByteArray×List Dt×List Dt)):Nat→List Dt→Int→Int→Dt→Dt→Int→Int→ByteArray→List Dt→List Dt→Option (Int×Int×ByteArray×List Dt×List Dt)
 |0,_,_,_,_,_,_,_,_,_,_=>none
 |M1+1,x0,x1,x2,x3,x4,x5,x6,x7,x8,x9=>
  (bif (decide (x2<x1)) then
  value_clone_j2 m self46 (value_clone_l1 m self46 M1) x0 x1 x2 x3 x4 x5 x6 x7 x8 x9
 else
  value_clone_j4 m self46 x3 x4 x5 x6 x7 x8 x9)
noncomputable def value_clone_j0 (m:Nat) (self46:Dt→Option (Int×Int×ByteArray×List Dt×List Dt)) (x0:List Dt) (x1 x2:Int) (x3 x4:Dt) (x5 x6:Int) (x7:ByteArray) (x8 x9:List Dt):Option (Int×Int×ByteArray×List Dt×List Dt):=
 value_clone_l1 m self46 (Nat.succ m) x0 x1 x2 x3 x4 x5 x6 x7 x8 x9
noncomputable def value_clone:Nat→Dt→Option (Int×Int×ByteArray×List Dt×List Dt)
  |0,_=>none
  |m+1,a0=>
   (bif (decide (0<(List.length (Dt.L a0 3):Int))) then
   ((mkL (List.length (Dt.L a0 3):Int) (List.length (Dt.L a0 3):Int) kza2373).bind fun v0=>
 value_clone_j0 m (value_clone m) (Dt.L a0 3) (List.length (Dt.L a0 3):Int) 0 a0 kza2373 (Dt.I a0 0) (Dt.I a0 1) (Dt.S a0 2) v0 [])
  else
   value_clone_j4 m (value_clone m) a0 kza2373 (Dt.I a0 0) (Dt.I a0 1) (Dt.S a0 2) [] [])
noncomputable def value_find_j4 (m:Nat) (rec2:ByteArray→Int→Int→Dt→Option Int) (x0:ByteArray) (x1 x2:Int) (x3:Dt):Option Int:=
 rec2 x0 x1 (IntKind.wrap .i64 (x2+1)) x3
noncomputable def value_find_j3 (m:Nat) (rec2:ByteArray→Int→Int→Dt→Option Int) (x0:ByteArray) (x1 x2:Int) (x3:Dt):Option Int:=
  ((idx (Dt.L x3 4) x2).bind fun v0=>
    (bif ((ByteArray.toList (Dt.S v0 0))==(ByteArray.toList x0)) then
 some x2
    else
 value_find_j4 m rec2 x0 x1 x2 x3))
noncomputable def value_find_j5 (m:Nat):Option Int:=
 some (-1)
noncomputable def value_find_l2 (m:Nat):Nat→ByteArray→Int→Int→Dt→Option Int
 |0,_,_,_,_=>none
 |M2+1,x0,x1,x2,x3=>
  (bif (decide (x2<x1)) then
  value_find_j3 m (value_find_l2 m M2) x0 x1 x2 x3
 else
  value_find_j5 m)
noncomputable def value_find_j1 (m:Nat) (x0:ByteArray) (x1 x2:Int) (x3:Dt):Option Int:=
 value_find_l2 m (Nat.succ m) x0 x1 x2 x3
noncomputable def value_find_j0 (m:Nat) (x0:ByteArray) (x1:Dt):Option Int:=
 value_find_j1 m x0 (List.length (Dt.L x1 4):Int) 0 x1
noncomputable def value_find:Nat→Dt→ByteArray→Option Int
 |0,_,_=>none
 |m+1,a0,a1=>
  (bif ((Dt.I a0 0) !=5) then
  some (-1)
 else
  value_find_j0 m a1 a0)
noncomputable def value_Set_j1 (m:Nat) (x0:ByteArray) (x1 x2:Dt) (x3 x4:Int) (x5:ByteArray) (x6 x7:List Dt):Option Dt:=
  ((value_clone m x1).bind fun r5=>
    ((app x7 [(Dt.agg [(Dt.str x0),(Dt.agg [(Dt.int r5.1),(Dt.int r5.2.1),(Dt.str r5.2.2.1),(Dt.lst r5.2.2.2.1),(Dt.lst r5.2.2.2.2)])])]).bind fun v6=>
 some (Dt.agg [(Dt.int x3),(Dt.int x4),(Dt.str x5),(Dt.lst x6),(Dt.lst v6)])))
noncomputable def value_Set_j0 (m:Nat) (x0:ByteArray) (x1 x2:Dt) (x3 x4:Int) (x5:ByteArray) (x6 x7:List Dt):Option Dt:=
  ((value_find m (Dt.agg [(Dt.int x3),(Dt.int x4),(Dt.str x5),(Dt.lst x6),(Dt.lst x7)]) x0).bind fun r1=>
    (bif (decide (0≤r1)) then
 ((value_clone m x1).bind fun r2=>
 ((inL x7 r1).bind fun v3=>
 ((x7[(Int.toNat r1)]?).bind fun v4=>
 some (Dt.agg [(Dt.int x3),(Dt.int x4),(Dt.str x5),(Dt.lst x6),(Dt.lst (List.set x7 (Int.toNat r1) (Dt.agg [(Dt.str (Dt.S v4 0)),(Dt.agg [(Dt.int r2.1),(Dt.int r2.2.1),(Dt.str r2.2.2.1),(Dt.lst r2.2.2.2.1),(Dt.lst r2.2.2.2.2)])])))]))))
    else
 value_Set_j1 m x0 x1 x2 x3 x4 x5 x6 x7))
noncomputable def value_Set:Nat→Dt→ByteArray→Dt→Option Dt
  |0,_,_,_=>none
  |m+1,a0,a1,a2=>
   ((value_clone m a0).bind fun r0=>
   (bif (r0.1 !=5) then
 some (Dt.agg [(Dt.int r0.1),(Dt.int r0.2.1),(Dt.str r0.2.2.1),(Dt.lst r0.2.2.2.1),(Dt.lst r0.2.2.2.2)])
   else
 value_Set_j0 m a1 a2 kza2373 r0.1 r0.2.1 r0.2.2.1 r0.2.2.2.1 r0.2.2.2.2))
noncomputable def reshape_named_j0 (m:Nat) (x0:ByteArray) (x1 x2 x3:Dt):Option Dt:=
 ((value_Set m x1 x0 x2).bind fun r0=>
   some r0)
noncomputable def reshape_named:Nat→Dt→ByteArray→Dt→Option Dt
 |0,_,_,_=>none
 |m+1,a0,a1,a2=>
  (bif ((ByteArray.toList a1)==[]) then
  some a0
 else
  reshape_named_j0 m a1 a0 a2 kza2373)
noncomputable def reshape_unwind_j5 (m:Nat) (rec3:List Dt→ByteArray→List Dt→Int→Int→Dt→List Dt→Option (List Dt)) (x0:List Dt) (x1:ByteArray) (x2:List Dt) (x3 x4:Int) (x5:Dt) (x6:List Dt):Option (List Dt):=
 rec3 x0 x1 x2 x3 (IntKind.wrap .i64 (x4+1)) x5 x6
noncomputable def reshape_unwind_j4 (m:Nat) (rec3:List Dt→ByteArray→List Dt→Int→Int→Dt→List Dt→Option (List Dt)) (x0:List Dt) (x1:ByteArray) (x2:List Dt) (x3 x4:Int) (x5:Dt) (x6:List Dt):Option (List Dt):=
  ((idx x2 x4).bind fun v1=>
    ((path_PutC x5 x0 v1).bind fun r2=>
 (bif (r2.2==0) then
 ((reshape_integer m x4).bind fun r3=>
 ((reshape_named m r2.1 x1 r3).bind fun r4=>
 ((app x6 [r4]).bind fun v5=>
 reshape_unwind_j5 m rec3 x0 x1 x2 x3 x4 x5 v5)))
 else
 reshape_unwind_j5 m rec3 x0 x1 x2 x3 x4 x5 x6)))
noncomputable def reshape_unwind_j6 (m:Nat) (x0:List Dt):Option (List Dt):=
 some x0
noncomputable def reshape_unwind_l3 (m:Nat):Nat→List Dt→ByteArray→List Dt→Int→Int→Dt→List Dt→Option (List Dt)
 |0,_,_,_,_,_,_,_=>none
 |M3+1,x0,x1,x2,x3,x4,x5,x6=>
  (bif (decide (x4<x3)) then
  reshape_unwind_j4 m (reshape_unwind_l3 m M3) x0 x1 x2 x3 x4 x5 x6
 else
  reshape_unwind_j6 m x6)
noncomputable def reshape_unwind_j2 (m:Nat) (x0:List Dt) (x1:ByteArray) (x2:List Dt) (x3 x4:Int) (x5:Dt) (x6:List Dt):Option (List Dt):=
 reshape_unwind_l3 m (Nat.succ m) x0 x1 x2 x3 x4 x5 x6
noncomputable def reshape_unwind_j9 (m:Nat) (x0:ByteArray) (x1:Dt):Option (List Dt):=
 ((reshape_named m x1 x0 kz3c25e).bind fun r8=>
   some [r8])
noncomputable def reshape_unwind_j8 (m:Nat) (x0:List Dt) (x1:ByteArray) (x2:Bool) (x3:Dt):Option (List Dt):=
  ((reshape_copyValue m x3).bind fun r6=>
    (bif x2 then
 ((path_DropC x3 x0).bind fun r7=>
 reshape_unwind_j9 m x1 r7)
    else
 reshape_unwind_j9 m x1 r6))
noncomputable def reshape_unwind_j10 (m:Nat) (x0:ByteArray) (x1:Dt):Option (List Dt):=
  ((reshape_copyValue m x1).bind fun r9=>
    ((reshape_named m r9 x0 kz3c25e).bind fun r10=>
 some [r10]))
noncomputable def reshape_unwind_j7 (m:Nat) (x0:List Dt) (x1:ByteArray) (x2 x3 x4:Bool) (x5:Dt):Option (List Dt):=
  (bif x4 then
   (bif (Bool.not x2) then
 some []
   else
 reshape_unwind_j8 m x0 x1 x3 x5)
  else
   reshape_unwind_j10 m x1 x5)
noncomputable def reshape_unwind_j1 (m:Nat) (x0:List Dt) (x1:ByteArray) (x2 x3 x4:Bool) (x5 x6:Dt):Option (List Dt):=
  (bif x4 then
   reshape_unwind_j2 m x0 x1 (Dt.L x6 3) (List.length (Dt.L x6 3):Int) 0 x5 []
  else
   (bif x3 then
 reshape_unwind_j7 m x0 x1 x2 x3 true x5
   else
 (bif ((Dt.I x6 0)==2) then
 reshape_unwind_j7 m x0 x1 x2 x3 true x5
 else
 reshape_unwind_j7 m x0 x1 x2 x3 ((Dt.I x6 0)==0) x5)))
noncomputable def reshape_unwind_j0 (m:Nat) (x0:List Dt) (x1:ByteArray) (x2 x3:Bool) (x4 x5:Dt):Option (List Dt):=
 (bif ((Dt.I x5 0)==6) then
  reshape_unwind_j1 m x0 x1 x2 x3 (Bool.not x3) x4 x5
 else
  reshape_unwind_j1 m x0 x1 x2 x3 false x4 x5)
noncomputable def reshape_unwind:Nat→List Dt→ByteArray→Bool→Dt→Option (List Dt)
  |0,_,_,_,_=>none
  |m+1,a0,a1,a2,a3=>
   ((path_Get m a3 a0).bind fun r0=>
   (bif ((Dt.I r0 0)==6) then
 reshape_unwind_j0 m a0 a1 a2 ((List.length (Dt.L r0 3):Int)==0) a3 r0
   else
 reshape_unwind_j0 m a0 a1 a2 false a3 r0))
noncomputable def reshape_Unwind_j3 (m:Nat) (rec1:List Dt→ByteArray→Bool→List Dt→Int→Int→List Dt→Option (List Dt)) (x0:List Dt) (x1:ByteArray) (x2:Bool) (x3:List Dt) (x4 x5:Int) (x6:List Dt):Option (List Dt):=
 rec1 x0 x1 x2 x3 x4 (IntKind.wrap .i64 (x5+1)) x6
noncomputable def reshape_Unwind_j2 (m:Nat) (rec1:List Dt→ByteArray→Bool→List Dt→Int→Int→List Dt→Option (List Dt)) (x0:List Dt) (x1:ByteArray) (x2:Bool) (x3:List Dt) (x4 x5:Int) (x6:List Dt):Option (List Dt):=
  ((idx x3 x5).bind fun v0=>
    ((reshape_unwind m x0 x1 x2 v0).bind fun r1=>
 ((app x6 r1).bind fun v2=>
 reshape_Unwind_j3 m rec1 x0 x1 x2 x3 x4 x5 v2)))
noncomputable def reshape_Unwind_j4 (m:Nat) (x0:List Dt):Option (List Dt):=
 some x0
noncomputable def reshape_Unwind_l1 (m:Nat):Nat→List Dt→ByteArray→Bool→List Dt→Int→Int→List Dt→Option (List Dt)
 |0,_,_,_,_,_,_,_=>none
 |M1+1,x0,x1,x2,x3,x4,x5,x6=>
  (bif (decide (x5<x4)) then
  reshape_Unwind_j2 m (reshape_Unwind_l1 m M1) x0 x1 x2 x3 x4 x5 x6
 else
  reshape_Unwind_j4 m x6)
noncomputable def reshape_Unwind_j0 (m:Nat) (x0:List Dt) (x1:ByteArray) (x2:Bool) (x3:List Dt) (x4 x5:Int) (x6:List Dt):Option (List Dt):=
 reshape_Unwind_l1 m (Nat.succ m) x0 x1 x2 x3 x4 x5 x6
noncomputable def reshape_Unwind:Nat→List Dt→ByteArray→Bool→List Dt→Option (List Dt)
 |0,_,_,_,_=>none
 |m+1,a0,a1,a2,a3=>
  reshape_Unwind_j0 m a0 a1 a2 a3 (List.length a3:Int) 0 []
noncomputable def ref01_Parts_j3 (m:Nat) (rec1:Int→Dt→List Dt→Option (List Dt)) (x0:Int) (x1:Dt) (x2:List Dt):Option (List Dt):=
 rec1 (IntKind.wrap .i64 (x0+1)) x1 x2
noncomputable def ref01_Parts_j2 (m:Nat) (rec1:Int→Dt→List Dt→Option (List Dt)) (x0:Int) (x1:Dt) (x2:List Dt):Option (List Dt):=
  ((idx (Dt.L x1 3) x0).bind fun v0=>
    ((app x2 [v0]).bind fun v1=>
 ref01_Parts_j3 m rec1 x0 x1 v1))
noncomputable def ref01_Parts_j8 (m:Nat) (rec6:Int→Dt→List Dt→Option (List Dt)) (x0:Int) (x1:Dt) (x2:List Dt):Option (List Dt):=
 rec6 (IntKind.wrap .i64 (x0+1)) x1 x2
noncomputable def ref01_Parts_j7 (m:Nat) (rec6:Int→Dt→List Dt→Option (List Dt)) (x0:Int) (x1:Dt) (x2:List Dt):Option (List Dt):=
  ((idx (Dt.L x1 4) x0).bind fun v2=>
    ((app x2 [(Dt.fld v2 1)]).bind fun v3=>
 ref01_Parts_j8 m rec6 x0 x1 v3))
noncomputable def ref01_Parts_j9 (m:Nat) (x0:List Dt):Option (List Dt):=
 some x0
noncomputable def ref01_Parts_l6 (m:Nat):Nat→Int→Dt→List Dt→Option (List Dt)
 |0,_,_,_=>none
 |M6+1,x0,x1,x2=>
  (bif (decide (x0<(List.length (Dt.L x1 4):Int))) then
  ref01_Parts_j7 m (ref01_Parts_l6 m M6) x0 x1 x2
 else
  ref01_Parts_j9 m x2)
noncomputable def ref01_Parts_j5 (m:Nat) (x0:Int) (x1:Dt) (x2:List Dt):Option (List Dt):=
 ref01_Parts_l6 m (Nat.succ m) x0 x1 x2
noncomputable def ref01_Parts_j4 (m:Nat) (x0:Dt) (x1:List Dt):Option (List Dt):=
 (bif ((Dt.I x0 0)==5) then
  ref01_Parts_j5 m 0 x0 x1
 else
  ref01_Parts_j9 m x1)
noncomputable def ref01_Parts_l1 (m:Nat):Nat→Int→Dt→List Dt→Option (List Dt)
 |0,_,_,_=>none
 |M1+1,x0,x1,x2=>
  (bif (decide (x0<(List.length (Dt.L x1 3):Int))) then
  ref01_Parts_j2 m (ref01_Parts_l1 m M1) x0 x1 x2
 else
  ref01_Parts_j4 m x1 x2)
noncomputable def ref01_Parts_j0 (m:Nat) (x0:Int) (x1:Dt) (x2:List Dt):Option (List Dt):=
 ref01_Parts_l1 m (Nat.succ m) x0 x1 x2
noncomputable def ref01_Parts:Nat→Dt→Option (List Dt)
 |0,_=>none
 |m+1,a0=>
  (bif ((Dt.I a0 0)==6) then
  ref01_Parts_j0 m 0 a0 []
 else
  ref01_Parts_j4 m a0 [])
noncomputable def ref01_levels_j5 (m:Nat) (self42:Dt→Int→Option Int) (rec3:Int→List Dt→Int→Int→Option Int) (x0:Int) (x1:List Dt) (x2 x3:Int):Option Int:=
 rec3 x0 x1 x2 (IntKind.wrap .i64 (x3+1))
noncomputable def ref01_levels_j4 (m:Nat) (self42:Dt→Int→Option Int) (rec3:Int→List Dt→Int→Int→Option Int) (x0:Int) (x1:List Dt) (x2 x3:Int):Option Int:=
  ((idx x1 x3).bind fun v1=>
    ((self42 v1 (IntKind.wrap .i64 (x0-1))).bind fun r2=>
 ref01_levels_j5 m self42 rec3 x0 x1 (bif (decide (x2<r2)) then r2 else x2) x3))
noncomputable def ref01_levels_j6 (m:Nat) (self42:Dt→Int→Option Int) (x0:Int):Option Int:=
 some (IntKind.wrap .i64 (x0+1))
noncomputable def ref01_levels_l3 (m:Nat) (self42:Dt→Int→Option Int):Nat→Int→List Dt→Int→Int→Option Int
 |0,_,_,_,_=>none
 |M3+1,x0,x1,x2,x3=>
  (bif (decide (x3<(List.length x1:Int))) then
  ref01_levels_j4 m self42 (ref01_levels_l3 m self42 M3) x0 x1 x2 x3
 else
  ref01_levels_j6 m self42 x2)
noncomputable def ref01_levels_j2 (m:Nat) (self42:Dt→Int→Option Int) (x0:Int) (x1:List Dt) (x2 x3:Int):Option Int:=
 ref01_levels_l3 m self42 (Nat.succ m) x0 x1 x2 x3
noncomputable def ref01_levels_j1 (m:Nat) (self42:Dt→Int→Option Int) (x0:Int) (x1:List Dt):Option Int:=
 ref01_levels_j2 m self42 x0 x1 0 0
noncomputable def ref01_levels_j0 (m:Nat) (self42:Dt→Int→Option Int) (x0:Int) (x1:List Dt) (x2:Bool):Option Int:=
 (bif x2 then
  some 1
 else
  ref01_levels_j1 m self42 x0 x1)
noncomputable def ref01_levels:Nat→Dt→Int→Option Int
  |0,_,_=>none
  |m+1,a0,a1=>
   ((ref01_Parts m a0).bind fun r0=>
   (bif (decide (a1<2)) then
 ref01_levels_j0 m (ref01_levels m) a1 r0 true
   else
 ref01_levels_j0 m (ref01_levels m) a1 r0 ((List.length r0:Int)==0)))
noncomputable def ref01_Depth:Nat→Dt→Option Int
 |0,_=>none
 |m+1,a0=>
  ((ref01_levels m a0 17).bind fun r0=>
  some r0)
noncomputable def ref01_count_j3 (m:Nat) (self43:Dt→Int→Option Int) (rec1:Int→Int→List Dt→Int→Option Int) (x0 x1:Int) (x2:List Dt) (x3:Int):Option Int:=
 rec1 x0 x1 x2 (IntKind.wrap .i64 (x3+1))
noncomputable def ref01_count_j2 (m:Nat) (self43:Dt→Int→Option Int) (rec1:Int→Int→List Dt→Int→Option Int) (x0 x1:Int) (x2:List Dt) (x3:Int):Option Int:=
  ((idx x2 x3).bind fun v1=>
    ((self43 v1 (IntKind.wrap .i64 (x0-x1))).bind fun r2=>
 ref01_count_j3 m self43 rec1 x0 (IntKind.wrap .i64 (x1+r2)) x2 x3))
noncomputable def ref01_count_j4 (m:Nat) (self43:Dt→Int→Option Int) (x0:Int):Option Int:=
 some x0
noncomputable def ref01_count_l1 (m:Nat) (self43:Dt→Int→Option Int):Nat→Int→Int→List Dt→Int→Option Int
  |0,_,_,_,_=>none
  |M1+1,x0,x1,x2,x3=>
   (bif (decide (x3<(List.length x2:Int))) then
   (bif (decide (x1<x0)) then
 ref01_count_j2 m self43 (ref01_count_l1 m self43 M1) x0 x1 x2 x3
   else
 ref01_count_j4 m self43 x1)
  else
   ref01_count_j4 m self43 x1)
noncomputable def ref01_count_j0 (m:Nat) (self43:Dt→Int→Option Int) (x0 x1:Int) (x2:List Dt) (x3:Int):Option Int:=
 ref01_count_l1 m self43 (Nat.succ m) x0 x1 x2 x3
noncomputable def ref01_count:Nat→Dt→Int→Option Int
 |0,_,_=>none
 |m+1,a0,a1=>
  ((ref01_Parts m a0).bind fun r0=>
  ref01_count_j0 m (ref01_count m) a1 1 r0 0)
noncomputable def ref01_Nodes:Nat→Dt→Option Int
 |0,_=>none
 |m+1,a0=>
  ((ref01_count m a0 1025).bind fun r0=>
  some r0)
noncomputable def ref01_tail_j5 (m:Nat) (rec2:ByteArray→Int→Int→Int→Option Bool) (x0:ByteArray) (x1 x2 x3:Int):Option Bool:=
 rec2 x0 x1 x2 (IntKind.wrap .i64 (x3+1))
noncomputable def ref01_tail_j4 (m:Nat) (rec2:ByteArray→Int→Int→Int→Option Bool) (x0:ByteArray) (x1 x2 x3:Int) (x4:Bool):Option Bool:=
 (bif x4 then
  some false
 else
  ref01_tail_j5 m rec2 x0 x1 x2 x3)
noncomputable def ref01_tail_j3 (m:Nat) (rec2:ByteArray→Int→Int→Int→Option Bool) (x0:ByteArray) (x1 x2 x3:Int):Option Bool:=
  ((idxS x0 (IntKind.wrap .i64 (x1+x3))).bind fun v0=>
    (bif (decide (v0<128)) then
 ref01_tail_j4 m rec2 x0 x1 x2 x3 true
    else
 ((idxS x0 (IntKind.wrap .i64 (x1+x3))).bind fun v1=>
 ref01_tail_j4 m rec2 x0 x1 x2 x3 (decide (191<v1)))))
noncomputable def ref01_tail_j6 (m:Nat):Option Bool:=
 some true
noncomputable def ref01_tail_l2 (m:Nat):Nat→ByteArray→Int→Int→Int→Option Bool
 |0,_,_,_,_=>none
 |M2+1,x0,x1,x2,x3=>
  (bif (decide (x3<x2)) then
  ref01_tail_j3 m (ref01_tail_l2 m M2) x0 x1 x2 x3
 else
  ref01_tail_j6 m)
noncomputable def ref01_tail_j1 (m:Nat) (x0:ByteArray) (x1 x2 x3:Int):Option Bool:=
 ref01_tail_l2 m (Nat.succ m) x0 x1 x2 x3
noncomputable def ref01_tail_j0 (m:Nat) (x0:ByteArray) (x1 x2:Int):Option Bool:=
 ref01_tail_j1 m x0 x1 x2 0
noncomputable def ref01_tail:Nat→ByteArray→Int→Int→Option Bool
 |0,_,_,_=>none
 |m+1,a0,a1,a2=>
  (bif (decide ((ByteArray.size a0:Int)<(IntKind.wrap .i64 (a1+a2)))) then
  some false
 else
  ref01_tail_j0 m a0 a1 a2)
noncomputable def ref01_UTF8_j6 (m:Nat) (rec1:ByteArray→Int→Option Bool) (x0:ByteArray) (x1 x2:Int):Option Bool:=
 rec1 x0 (IntKind.wrap .i64 ((IntKind.wrap .i64 (x1+x2))+1))
noncomputable def ref01_UTF8_j5 (m:Nat) (rec1:ByteArray→Int→Option Bool) (x0:ByteArray) (x1 x2:Int) (x3:Bool):Option Bool:=
 (bif x3 then
  some false
 else
  ref01_UTF8_j6 m rec1 x0 x1 x2)
noncomputable def ref01_UTF8_j4 (m:Nat) (rec1:ByteArray→Int→Option Bool) (x0:ByteArray) (x1 x2 x3:Int):Option Bool:=
  (bif (x2==224) then
   ((idxS x0 (IntKind.wrap .i64 (x1+1))).bind fun v2=>
 (bif (decide (v2<160)) then
 ref01_UTF8_j5 m rec1 x0 x1 x3 true
 else
 (bif (x2==237) then
 ((idxS x0 (IntKind.wrap .i64 (x1+1))).bind fun v3=>
 (bif (decide (159<v3)) then
 ref01_UTF8_j5 m rec1 x0 x1 x3 true
 else
 (bif (x2==240) then
 ((idxS x0 (IntKind.wrap .i64 (x1+1))).bind fun v4=>
 (bif (decide (v4<144)) then
 ref01_UTF8_j5 m rec1 x0 x1 x3 true
 else
 (bif (x2==244) then
 ((idxS x0 (IntKind.wrap .i64 (x1+1))).bind fun v5=>
 ref01_UTF8_j5 m rec1 x0 x1 x3 (decide (143<v5)))
 else
 ref01_UTF8_j5 m rec1 x0 x1 x3 false)))
 else
 (bif (x2==244) then
 ((idxS x0 (IntKind.wrap .i64 (x1+1))).bind fun v6=>
 ref01_UTF8_j5 m rec1 x0 x1 x3 (decide (143<v6)))
 else
 ref01_UTF8_j5 m rec1 x0 x1 x3 false))))
 else
 (bif (x2==240) then
 ((idxS x0 (IntKind.wrap .i64 (x1+1))).bind fun v7=>
 (bif (decide (v7<144)) then
 ref01_UTF8_j5 m rec1 x0 x1 x3 true
 else
 (bif (x2==244) then
 ((idxS x0 (IntKind.wrap .i64 (x1+1))).bind fun v8=>
 ref01_UTF8_j5 m rec1 x0 x1 x3 (decide (143<v8)))
 else
 ref01_UTF8_j5 m rec1 x0 x1 x3 false)))
 else
 (bif (x2==244) then
 ((idxS x0 (IntKind.wrap .i64 (x1+1))).bind fun v9=>
 ref01_UTF8_j5 m rec1 x0 x1 x3 (decide (143<v9)))
 else
 ref01_UTF8_j5 m rec1 x0 x1 x3 false)))))
  else
   (bif (x2==237) then
 ((idxS x0 (IntKind.wrap .i64 (x1+1))).bind fun v10=>
 (bif (decide (159<v10)) then
 ref01_UTF8_j5 m rec1 x0 x1 x3 true
 else
 (bif (x2==240) then
 ((idxS x0 (IntKind.wrap .i64 (x1+1))).bind fun v11=>
 (bif (decide (v11<144)) then
 ref01_UTF8_j5 m rec1 x0 x1 x3 true
 else
 (bif (x2==244) then
 ((idxS x0 (IntKind.wrap .i64 (x1+1))).bind fun v12=>
 ref01_UTF8_j5 m rec1 x0 x1 x3 (decide (143<v12)))
 else
 ref01_UTF8_j5 m rec1 x0 x1 x3 false)))
 else
 (bif (x2==244) then
 ((idxS x0 (IntKind.wrap .i64 (x1+1))).bind fun v13=>
 ref01_UTF8_j5 m rec1 x0 x1 x3 (decide (143<v13)))
 else
 ref01_UTF8_j5 m rec1 x0 x1 x3 false))))
   else
 (bif (x2==240) then
 ((idxS x0 (IntKind.wrap .i64 (x1+1))).bind fun v14=>
 (bif (decide (v14<144)) then
 ref01_UTF8_j5 m rec1 x0 x1 x3 true
 else
 (bif (x2==244) then
 ((idxS x0 (IntKind.wrap .i64 (x1+1))).bind fun v15=>
 ref01_UTF8_j5 m rec1 x0 x1 x3 (decide (143<v15)))
 else
 ref01_UTF8_j5 m rec1 x0 x1 x3 false)))
 else
 (bif (x2==244) then
 ((idxS x0 (IntKind.wrap .i64 (x1+1))).bind fun v16=>
 ref01_UTF8_j5 m rec1 x0 x1 x3 (decide (143<v16)))
 else
 ref01_UTF8_j5 m rec1 x0 x1 x3 false))))
noncomputable def ref01_UTF8_j3 (m:Nat) (rec1:ByteArray→Int→Option Bool) (x0:ByteArray) (x1 x2 x3:Int):Option Bool:=
  ((ref01_tail m x0 (IntKind.wrap .i64 (x1+1)) x3).bind fun r1=>
    (bif (Bool.not r1) then
 some false
    else
 ref01_UTF8_j4 m rec1 x0 x1 x2 x3))
noncomputable def ref01_UTF8_j9 (m:Nat) (rec1:ByteArray→Int→Option Bool) (x0:ByteArray) (x1 x2:Int) (x3:Bool):Option Bool:=
 (bif x3 then
  ref01_UTF8_j3 m rec1 x0 x1 x2 3
 else
  some false)
noncomputable def ref01_UTF8_j8 (m:Nat) (rec1:ByteArray→Int→Option Bool) (x0:ByteArray) (x1 x2:Int) (x3:Bool):Option Bool:=
  (bif x3 then
   ref01_UTF8_j3 m rec1 x0 x1 x2 2
  else
   (bif (decide (240≤x2)) then
 ref01_UTF8_j9 m rec1 x0 x1 x2 (decide (x2≤244))
   else
 ref01_UTF8_j9 m rec1 x0 x1 x2 false))
noncomputable def ref01_UTF8_j7 (m:Nat) (rec1:ByteArray→Int→Option Bool) (x0:ByteArray) (x1 x2:Int) (x3:Bool):Option Bool:=
  (bif x3 then
   ref01_UTF8_j3 m rec1 x0 x1 x2 1
  else
   (bif (decide (224≤x2)) then
 ref01_UTF8_j8 m rec1 x0 x1 x2 (decide (x2≤239))
   else
 ref01_UTF8_j8 m rec1 x0 x1 x2 false))
noncomputable def ref01_UTF8_j2 (m:Nat) (rec1:ByteArray→Int→Option Bool) (x0:ByteArray) (x1:Int):Option Bool:=
  ((idxS x0 x1).bind fun v0=>
    (bif (decide (v0<128)) then
 ref01_UTF8_j3 m rec1 x0 x1 v0 0
    else
 (bif (decide (194≤v0)) then
 ref01_UTF8_j7 m rec1 x0 x1 v0 (decide (v0≤223))
 else
 ref01_UTF8_j7 m rec1 x0 x1 v0 false)))
noncomputable def ref01_UTF8_j10 (m:Nat):Option Bool:=
 some true
noncomputable def ref01_UTF8_l1 (m:Nat):Nat→ByteArray→Int→Option Bool
 |0,_,_=>none
 |M1+1,x0,x1=>
  (bif (decide (x1<(ByteArray.size x0:Int))) then
  ref01_UTF8_j2 m (ref01_UTF8_l1 m M1) x0 x1
 else
  ref01_UTF8_j10 m)
noncomputable def ref01_UTF8_j0 (m:Nat) (x0:ByteArray) (x1:Int):Option Bool:=
 ref01_UTF8_l1 m (Nat.succ m) x0 x1
noncomputable def ref01_UTF8:Nat→ByteArray→Option Bool
 |0,_=>none
 |m+1,a0=>
  ref01_UTF8_j0 m a0 0
noncomputable def ref01_wide_j6 (m:Nat) (rec3:ByteArray→Int→Option Bool) (x0:ByteArray) (x1:Int):Option Bool:=
 rec3 x0 (IntKind.wrap .i64 (x1+1))
noncomputable def ref01_wide_j5 (m:Nat) (rec3:ByteArray→Int→Option Bool) (x0:ByteArray) (x1:Int) (x2:Bool):Option Bool:=
 (bif x2 then
  some false
 else
  ref01_wide_j6 m rec3 x0 x1)
noncomputable def ref01_wide_j4 (m:Nat) (rec3:ByteArray→Int→Option Bool) (x0:ByteArray) (x1:Int):Option Bool:=
  ((idxS x0 x1).bind fun v0=>
    (bif (decide (v0<32)) then
 ref01_wide_j5 m rec3 x0 x1 true
    else
 ((idxS x0 x1).bind fun v1=>
 ref01_wide_j5 m rec3 x0 x1 (decide (126<v1)))))
noncomputable def ref01_wide_j7 (m:Nat):Option Bool:=
 some true
noncomputable def ref01_wide_l3 (m:Nat):Nat→ByteArray→Int→Option Bool
 |0,_,_=>none
 |M3+1,x0,x1=>
  (bif (decide (x1<(ByteArray.size x0:Int))) then
  ref01_wide_j4 m (ref01_wide_l3 m M3) x0 x1
 else
  ref01_wide_j7 m)
noncomputable def ref01_wide_j2 (m:Nat) (x0:ByteArray) (x1:Int):Option Bool:=
 ref01_wide_l3 m (Nat.succ m) x0 x1
noncomputable def ref01_wide_j1 (m:Nat) (x0:ByteArray):Option Bool:=
 ref01_wide_j2 m x0 0
noncomputable def ref01_wide_j0 (m:Nat) (x0:ByteArray) (x1:Bool):Option Bool:=
 (bif x1 then
  some false
 else
  ref01_wide_j1 m x0)
noncomputable def ref01_wide:Nat→ByteArray→Option Bool
 |0,_=>none
 |m+1,a0=>
  (bif (decide ((ByteArray.size a0:Int)<1)) then
  ref01_wide_j0 m a0 true
 else
  ref01_wide_j0 m a0 (decide (128<(ByteArray.size a0:Int))))
noncomputable def ref01_formed_j10 (m:Nat) (self35:Dt→Bool→Option Bool) (self45:Dt→Bool→Option Bool) (rec8:Bool→Int→Dt→Option Bool) (x0:Bool) (x1:Int) (x2:Dt):Option Bool:=
 rec8 x0 (IntKind.wrap .i64 (x1+1)) x2
noncomputable def ref01_formed_j9 (m:Nat) (self35:Dt→Bool→Option Bool) (self45:Dt→Bool→Option Bool) (rec8:Bool→Int→Dt→Option Bool) (x0:Bool) (x1:Int) (x2:Dt):Option Bool:=
  ((idx (Dt.L x2 3) x1).bind fun v1=>
    ((self35 v1 x0).bind fun r2=>
 (bif (Bool.not r2) then
 some false
 else
 ref01_formed_j10 m self35 self45 rec8 x0 x1 x2)))
noncomputable def ref01_formed_j11 (m:Nat) (self35:Dt→Bool→Option Bool) (self45:Dt→Bool→Option Bool) (x0:Bool) (x1:Dt):Option Bool:=
 ((self45 x1 x0).bind fun r3=>
   some r3)
noncomputable def ref01_formed_l8 (m:Nat) (self35:Dt→Bool→Option Bool) (self45:Dt→Bool→Option Bool):Nat→Bool→Int→Dt→Option Bool
 |0,_,_,_=>none
 |M8+1,x0,x1,x2=>
  (bif (decide (x1<(List.length (Dt.L x2 3):Int))) then
  ref01_formed_j9 m self35 self45 (ref01_formed_l8 m self35 self45 M8) x0 x1 x2
 else
  ref01_formed_j11 m self35 self45 x0 x2)
noncomputable def ref01_formed_j7 (m:Nat) (self35:Dt→Bool→Option Bool) (self45:Dt→Bool→Option Bool) (x0:Bool) (x1:Int) (x2:Dt):Option Bool:=
 ref01_formed_l8 m self35 self45 (Nat.succ m) x0 x1 x2
noncomputable def ref01_formed_j6 (m:Nat) (self35:Dt→Bool→Option Bool) (self45:Dt→Bool→Option Bool) (x0:Bool) (x1:Dt):Option Bool:=
 ref01_formed_j7 m self35 self45 x0 0 x1
noncomputable def ref01_formed_j5 (m:Nat) (self35:Dt→Bool→Option Bool) (self45:Dt→Bool→Option Bool) (x0:Bool) (x1:Dt):Option Bool:=
  (bif ((Dt.I x1 0)==9) then
   (bif ((Dt.I x1 1)==0) then
 some true
   else
 some ((Dt.I x1 1)==1))
  else
   (bif ((Dt.I x1 0)==10) then
 some (decide (0≤(Dt.I x1 1)))
   else
 (bif ((Dt.I x1 0)==4) then
 (bif (decide ((ByteArray.size (Dt.S x1 2):Int)≤4096)) then
 ((ref01_UTF8 m (Dt.S x1 2)).bind fun r0=>
 some r0)
 else
 some false)
 else
 (bif ((Dt.I x1 0)==7) then
 some (decide ((ByteArray.size (Dt.S x1 2):Int)≤4096))
 else
 (bif ((Dt.I x1 0)==8) then
 some ((ByteArray.size (Dt.S x1 2):Int)==12)
 else
 ref01_formed_j6 m self35 self45 x0 x1)))))
noncomputable def ref01_formed_j4 (m:Nat) (self35:Dt→Bool→Option Bool) (self45:Dt→Bool→Option Bool) (x0 x1:Bool) (x2:Dt):Option Bool:=
 (bif x1 then
  some false
 else
  ref01_formed_j5 m self35 self45 x0 x2)
noncomputable def ref01_formed_j3 (m:Nat) (self35:Dt→Bool→Option Bool) (self45:Dt→Bool→Option Bool) (x0 x1 x2:Bool) (x3:Dt):Option Bool:=
  (bif (Bool.not x1) then
   (bif (Bool.not ((ByteArray.toList (Dt.S x3 2))==[])) then
 ref01_formed_j4 m self35 self45 x0 true x3
   else
 (bif (Bool.not x2) then
 (bif ((Dt.I x3 1) !=0) then
 ref01_formed_j4 m self35 self45 x0 true x3
 else
 (bif (decide ((Dt.I x3 0)<1)) then
 ref01_formed_j4 m self35 self45 x0 true x3
 else
 ref01_formed_j4 m self35 self45 x0 (decide (11<(Dt.I x3 0))) x3))
 else
 (bif (decide ((Dt.I x3 0)<1)) then
 ref01_formed_j4 m self35 self45 x0 true x3
 else
 ref01_formed_j4 m self35 self45 x0 (decide (11<(Dt.I x3 0))) x3)))
  else
   (bif (Bool.not x2) then
 (bif ((Dt.I x3 1) !=0) then
 ref01_formed_j4 m self35 self45 x0 true x3
 else
 (bif (decide ((Dt.I x3 0)<1)) then
 ref01_formed_j4 m self35 self45 x0 true x3
 else
 ref01_formed_j4 m self35 self45 x0 (decide (11<(Dt.I x3 0))) x3))
   else
 (bif (decide ((Dt.I x3 0)<1)) then
 ref01_formed_j4 m self35 self45 x0 true x3
 else
 ref01_formed_j4 m self35 self45 x0 (decide (11<(Dt.I x3 0))) x3)))
noncomputable def ref01_formed_j2 (m:Nat) (self35:Dt→Bool→Option Bool) (self45:Dt→Bool→Option Bool) (x0 x1:Bool) (x2:Dt):Option Bool:=
  (bif ((Dt.I x2 0)==3) then
   ref01_formed_j3 m self35 self45 x0 x1 true x2
  else
   (bif ((Dt.I x2 0)==9) then
 ref01_formed_j3 m self35 self45 x0 x1 true x2
   else
 ref01_formed_j3 m self35 self45 x0 x1 ((Dt.I x2 0)==10) x2))
noncomputable def ref01_formed_j1 (m:Nat) (self35:Dt→Bool→Option Bool) (self45:Dt→Bool→Option Bool) (x0:Bool) (x1:Dt):Option Bool:=
  (bif ((Dt.I x1 0)==4) then
   ref01_formed_j2 m self35 self45 x0 true x1
  else
   (bif ((Dt.I x1 0)==7) then
 ref01_formed_j2 m self35 self45 x0 true x1
   else
 ref01_formed_j2 m self35 self45 x0 ((Dt.I x1 0)==8) x1))
noncomputable def ref01_formed_j0 (m:Nat) (self35:Dt→Bool→Option Bool) (self45:Dt→Bool→Option Bool) (x0 x1:Bool) (x2:Dt):Option Bool:=
 (bif x1 then
  some false
 else
  ref01_formed_j1 m self35 self45 x0 x2)
noncomputable def ref01_fields_j8 (m:Nat) (self35:Dt→Bool→Option Bool) (rec1:Bool→Int→Dt→Option Bool) (rec6:Bool→Int→Int→Dt→Dt→Option Bool) (x0:Bool) (x1 x2:Int) (x3 x4:Dt):Option Bool:=
 rec6 x0 x1 (IntKind.wrap .i64 (x2+1)) x3 x4
noncomputable def ref01_fields_j7 (m:Nat) (self35:Dt→Bool→Option Bool) (rec1:Bool→Int→Dt→Option Bool) (rec6:Bool→Int→Int→Dt→Dt→Option Bool) (x0:Bool) (x1 x2:Int) (x3 x4:Dt):Option Bool:=
  ((idx (Dt.L x3 4) x2).bind fun v2=>
    (bif ((ByteArray.toList (Dt.S v2 0))==(ByteArray.toList (Dt.S x4 0))) then
 some false
    else
 ref01_fields_j8 m self35 rec1 rec6 x0 x1 x2 x3 x4))
noncomputable def ref01_fields_j9 (m:Nat) (self35:Dt→Bool→Option Bool) (rec1:Bool→Int→Dt→Option Bool) (x0:Bool) (x1:Int) (x2:Dt):Option Bool:=
 rec1 x0 (IntKind.wrap .i64 (x1+1)) x2
noncomputable def ref01_fields_l6 (m:Nat) (self35:Dt→Bool→Option Bool) (rec1:Bool→Int→Dt→Option Bool):Nat→Bool→Int→Int→Dt→Dt→Option Bool
 |0,_,_,_,_,_=>none
 |M6+1,x0,x1,x2,x3,x4=>
  (bif (decide (x2<x1)) then
  ref01_fields_j7 m self35 rec1 (ref01_fields_l6 m self35 rec1 M6) x0 x1 x2 x3 x4
 else
  ref01_fields_j9 m self35 rec1 x0 x1 x3)
noncomputable def ref01_fields_j5 (m:Nat) (self35:Dt→Bool→Option Bool) (rec1:Bool→Int→Dt→Option Bool) (x0:Bool) (x1 x2:Int) (x3 x4:Dt):Option Bool:=
 ref01_fields_l6 m self35 rec1 (Nat.succ m) x0 x1 x2 x3 x4
noncomputable def ref01_fields_j4 (m:Nat) (self35:Dt→Bool→Option Bool) (rec1:Bool→Int→Dt→Option Bool) (x0:Bool) (x1:Int) (x2 x3:Dt):Option Bool:=
 ref01_fields_j5 m self35 rec1 x0 x1 0 x2 x3
noncomputable def ref01_fields_j3 (m:Nat) (self35:Dt→Bool→Option Bool) (rec1:Bool→Int→Dt→Option Bool) (x0:Bool) (x1:Int) (x2:Bool) (x3 x4:Dt):Option Bool:=
 (bif x2 then
  some false
 else
  ref01_fields_j4 m self35 rec1 x0 x1 x3 x4)
noncomputable def ref01_fields_j2 (m:Nat) (self35:Dt→Bool→Option Bool) (rec1:Bool→Int→Dt→Option Bool) (x0:Bool) (x1:Int) (x2:Dt):Option Bool:=
  ((idx (Dt.L x2 4) x1).bind fun v0=>
    (bif x0 then
 ((ref01_Name m (Dt.S v0 0)).bind fun r1=>
 (bif (Bool.not r1) then
 ref01_fields_j3 m self35 rec1 x0 x1 true x2 v0
 else
 (bif (Bool.not x0) then
 ((ref01_wide m (Dt.S v0 0)).bind fun r3=>
 (bif (Bool.not r3) then
 ref01_fields_j3 m self35 rec1 x0 x1 true x2 v0
 else
 ((self35 (Dt.fld v0 1) x0).bind fun r4=>
 ref01_fields_j3 m self35 rec1 x0 x1 (Bool.not r4) x2 v0)))
 else
 ((self35 (Dt.fld v0 1) x0).bind fun r5=>
 ref01_fields_j3 m self35 rec1 x0 x1 (Bool.not r5) x2 v0))))
    else
 (bif (Bool.not x0) then
 ((ref01_wide m (Dt.S v0 0)).bind fun r6=>
 (bif (Bool.not r6) then
 ref01_fields_j3 m self35 rec1 x0 x1 true x2 v0
 else
 ((self35 (Dt.fld v0 1) x0).bind fun r7=>
 ref01_fields_j3 m self35 rec1 x0 x1 (Bool.not r7) x2 v0)))
 else
 ((self35 (Dt.fld v0 1) x0).bind fun r8=>
 ref01_fields_j3 m self35 rec1 x0 x1 (Bool.not r8) x2 v0))))
noncomputable def ref01_fields_j10 (m:Nat) (self35:Dt→Bool→Option Bool):Option Bool:=
 some true
noncomputable def ref01_fields_l1 (m:Nat) (self35:Dt→Bool→Option Bool):Nat→Bool→Int→Dt→Option Bool
 |0,_,_,_=>none
 |M1+1,x0,x1,x2=>
  (bif (decide (x1<(List.length (Dt.L x2 4):Int))) then
  ref01_fields_j2 m self35 (ref01_fields_l1 m self35 M1) x0 x1 x2
 else
  ref01_fields_j10 m self35)
noncomputable def ref01_fields_j0 (m:Nat) (self35:Dt→Bool→Option Bool) (x0:Bool) (x1:Int) (x2:Dt):Option Bool:=
 ref01_fields_l1 m self35 (Nat.succ m) x0 x1 x2
mutual
noncomputable def ref01_formed:Nat→Dt→Bool→Option Bool
  |0,_,_=>none
  |m+1,a0,a1=>
   (bif ((Dt.I a0 0) !=6) then
   (bif (decide (0<(List.length (Dt.L a0 3):Int))) then
 ref01_formed_j0 m (ref01_formed m) (ref01_fields m) a1 true a0
   else
 (bif ((Dt.I a0 0) !=5) then
 ref01_formed_j0 m (ref01_formed m) (ref01_fields m) a1 (decide (0<(List.length (Dt.L a0 4):Int))) a0
 else
 ref01_formed_j0 m (ref01_formed m) (ref01_fields m) a1 false a0))
  else
   (bif ((Dt.I a0 0) !=5) then
 ref01_formed_j0 m (ref01_formed m) (ref01_fields m) a1 (decide (0<(List.length (Dt.L a0 4):Int))) a0
   else
 ref01_formed_j0 m (ref01_formed m) (ref01_fields m) a1 false a0))
noncomputable def ref01_fields:Nat→Dt→Bool→Option Bool
 |0,_,_=>none
 |m+1,a0,a1=>
  ref01_fields_j0 m (ref01_formed m) a1 0 a0
end
noncomputable def ref01_Valid:Nat→Dt→Option Bool
  |0,_=>none
  |m+1,a0=>
   ((ref01_Depth m a0).bind fun r0=>
   (bif (decide (r0≤16)) then
 ((ref01_Nodes m a0).bind fun r1=>
 (bif (decide (r1≤1024)) then
 ((ref01_formed m a0 true).bind fun r2=>
 some r2)
 else
 some false))
   else
 some false))
noncomputable def law36_valid_1:Nat→Dt→Option Bool
  |0,_=>none
  |m+1,a0=>
   (bif ((Dt.I a0 0) !=5) then
   some true
  else
   ((ref01_Valid m a0).bind fun r0=>
 some (Bool.not r0)))
noncomputable def i9_j3 (m:Nat) (rec1:List Dt→Int→Int→Option Int) (x0:List Dt) (x1 x2:Int):Option Int:=
 rec1 x0 x1 (IntKind.wrap .i64 (x2+1))
noncomputable def i9_j2 (m:Nat) (rec1:List Dt→Int→Int→Option Int) (x0:List Dt) (x1 x2:Int):Option Int:=
  ((idx x0 x2).bind fun v0=>
    ((law36_valid_1 m v0).bind fun r1=>
 (bif r1 then
 some x2
 else
 i9_j3 m rec1 x0 x1 x2)))
noncomputable def i9_j4 (m:Nat):Option Int:=
 some (-1)
noncomputable def i9_l1 (m:Nat):Nat→List Dt→Int→Int→Option Int
 |0,_,_,_=>none
 |M1+1,x0,x1,x2=>
  (bif (decide (x2<x1)) then
  i9_j2 m (i9_l1 m M1) x0 x1 x2
 else
  i9_j4 m)
noncomputable def i9_j0 (m:Nat) (x0:List Dt) (x1 x2:Int):Option Int:=
 i9_l1 m (Nat.succ m) x0 x1 x2
noncomputable def i9:Nat→List Dt→Option Int
 |0,_=>none
 |m+1,a0=>
  i9_j0 m a0 (List.length a0:Int) 0
noncomputable def i8:Nat→List Dt→Option Bool
 |0,_=>none
 |m+1,a0=>
  ((i9 m a0).bind fun r0=>
  some (decide (0≤r0)))
noncomputable def law36_valid:Nat→List Dt→Option Bool
  |0,_=>none
  |m+1,a0=>
   (bif (decide ((List.length a0:Int)≤30)) then
   ((i8 m a0).bind fun r0=>
 some (Bool.not r0))
  else
   some false)
noncomputable def law36_ReshapeUnwind_j1 (m:Nat) (x0:List Dt) (x1:ByteArray) (x2:Bool) (x3:List Dt):Option Bool:=
  ((reshape_Unwind m x0 x1 x2 x3).bind fun r2=>
    ((ref36_Unwind m x0 x1 x2 x3).bind fun r3=>
 ((law03_SameList m r2 r3).bind fun r4=>
 (bif r4 then
 ((awakeC).bind fun r5=>
 some r5)
 else
 some false))))
noncomputable def law36_ReshapeUnwind_j0 (m:Nat) (x0:List Dt) (x1:ByteArray) (x2:Bool) (x3:List Dt) (x4:Bool):Option Bool:=
  (bif x4 then
   ((awakeC).bind fun r1=>
 some r1)
  else
   law36_ReshapeUnwind_j1 m x0 x1 x2 x3)
noncomputable def law36_ReshapeUnwind:Nat→List Dt→ByteArray→Bool→List Dt→Option Bool
  |0,_,_,_,_=>none
  |m+1,a0,a1,a2,a3=>
   ((law36_valid m a3).bind fun r0=>
   (bif (Bool.not r0) then
 law36_ReshapeUnwind_j0 m a0 a1 a2 a3 true
   else
 ((ref04_Valid m a0).bind fun r6=>
 (bif (Bool.not r6) then
 law36_ReshapeUnwind_j0 m a0 a1 a2 a3 true
 else
 ((law36_named m a1).bind fun r7=>
 law36_ReshapeUnwind_j0 m a0 a1 a2 a3 (Bool.not r7))))))
end Go.Proofs.YtameompfdamfpaaGreatDoor
