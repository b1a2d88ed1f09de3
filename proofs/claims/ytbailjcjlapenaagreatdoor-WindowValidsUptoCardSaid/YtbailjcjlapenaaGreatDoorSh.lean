/- Generated: what the Go functions compute, over plain data. -/
import Derived.Test.YtbailjcjlapenaaGreatDoorAm20
import Derived.Test.YtbailjcjlapenaaGreatDoorOAwake
import Derived.Test.YtbailjcjlapenaaGreatDoorOLibW
import Derived.Test.YtbailjcjlapenaaGreatDoorOWg
set_option linter.unusedVariables false
set_option linter.unusedSimpArgs false
namespace Go.Proofs.YtbailjcjlapenaaGreatDoor
open Go.Am
def kz6c2a1:Dt:=Dt.agg [(Dt.int 0),(Dt.lst []),(Dt.str (ByteArray.mk (List.toArray []))),(Dt.lst []),(Dt.agg [(Dt.int 0),(Dt.int 0),(Dt.str (ByteArray.mk (List.toArray []))),(Dt.lst []),(Dt.lst [])]),(Dt.int 0),(Dt.lst [])]
def kza2373:Dt:=Dt.agg [(Dt.int 0),(Dt.int 0),(Dt.str (ByteArray.mk (List.toArray []))),(Dt.lst []),(Dt.lst [])]
def kz51b50:Dt:=Dt.agg [(Dt.int 0),(Dt.lst []),(Dt.agg [(Dt.int 0),(Dt.int 0),(Dt.str (ByteArray.mk (List.toArray []))),(Dt.lst []),(Dt.lst [])]),(Dt.lst []),(Dt.int 0),(Dt.int 0),(Dt.agg [(Dt.int 0),(Dt.lst []),(Dt.int 0)]),(Dt.agg [(Dt.int 0),(Dt.lst []),(Dt.str (ByteArray.mk (List.toArray []))),(Dt.lst []),(Dt.agg [(Dt.int 0),(Dt.int 0),(Dt.str (ByteArray.mk (List.toArray []))),(Dt.lst []),(Dt.lst [])]),(Dt.int 0),(Dt.lst [])]),(Dt.lst [])]
def kzf26c7:Dt:=Dt.agg [(Dt.bool Bool.false),(Dt.lst []),(Dt.bool Bool.false),(Dt.lst []),(Dt.lst [])]
def kzb6b16:Dt:=Dt.agg [(Dt.agg [(Dt.int 0),(Dt.lst []),(Dt.str (ByteArray.mk (List.toArray []))),(Dt.lst []),(Dt.agg [(Dt.int 0),(Dt.int 0),(Dt.str (ByteArray.mk (List.toArray []))),(Dt.lst []),(Dt.lst [])]),(Dt.int 0),(Dt.lst [])]),(Dt.lst [])]
def kz26949:Dt:=Dt.agg [(Dt.str (ByteArray.mk (List.toArray []))),(Dt.lst []),(Dt.lst []),(Dt.str (ByteArray.mk (List.toArray []))),(Dt.lst [])]
def kz7372b:Dt:=Dt.agg [(Dt.str (ByteArray.mk (List.toArray []))),(Dt.lst []),(Dt.int 0),(Dt.int 0)]
def kzc83f1:Dt:=Dt.agg [(Dt.int 0),(Dt.lst []),(Dt.int 0)]
noncomputable def i7_j4 (m:Nat) (rec2:List Dt→Int→Int→List Dt→Option (List Dt)) (x0:List Dt) (x1 x2:Int) (x3:List Dt):Option (List Dt):=
 rec2 x0 x1 (IntKind.wrap .i64 (x2+1)) x3
noncomputable def i7_j3 (m:Nat) (rec2:List Dt→Int→Int→List Dt→Option (List Dt)) (x0:List Dt) (x1 x2:Int) (x3:List Dt):Option (List Dt):=
  ((idx x0 x2).bind fun v0=>
    ((app x3 [(Dt.lst (Dt.L v0 1))]).bind fun v1=>
 i7_j4 m rec2 x0 x1 x2 v1))
noncomputable def i7_j5 (m:Nat) (x0:List Dt):Option (List Dt):=
 some x0
noncomputable def i7_l2 (m:Nat):Nat→List Dt→Int→Int→List Dt→Option (List Dt)
 |0,_,_,_,_=>none
 |M2+1,x0,x1,x2,x3=>
  (bif (decide (x2<x1)) then
  i7_j3 m (i7_l2 m M2) x0 x1 x2 x3
 else
  i7_j5 m x3)
noncomputable def i7_j1 (m:Nat) (x0:List Dt) (x1 x2:Int) (x3:List Dt):Option (List Dt):=
 i7_l2 m (Nat.succ m) x0 x1 x2 x3
noncomputable def i7_j6 (m:Nat):Option (List Dt):=
 some []
noncomputable def i7_j0 (m:Nat) (x0:Dt) (x1:Int) (x2:Bool):Option (List Dt):=
  (bif x2 then
   some [(Dt.lst (Dt.L (Dt.fld x0 12) 4))]
  else
   (bif (x1==11) then
 i7_j1 m (Dt.L x0 13) (List.length (Dt.L x0 13):Int) 0 []
   else
 i7_j6 m))
noncomputable def i7:Nat→Dt→Option (List Dt)
 |0,_=>none
 |m+1,a0=>
  (bif ((Dt.I a0 0)==10) then
  i7_j0 m a0 (Dt.I a0 0) ((Dt.I a0 0)==10)
 else
  i7_j0 m a0 (Dt.I a0 0) ((Dt.I a0 0)==15))
noncomputable def i6_j9 (m:Nat) (self6:List Dt→Int→Int→Option (Bool×Int)) (rec3:List Dt→Int→Int→Int→Int→Option (Bool×Int)) (rec7:List Dt→Int→Int→Int→List Dt→Int→Int→Int→Option (Bool×Int)) (x0:List Dt) (x1 x2 x3:Int) (x4:List Dt) (x5 x6 x7:Int):Option (Bool×Int):=
 rec7 x0 x1 x2 x3 x4 x5 (IntKind.wrap .i64 (x6+1)) x7
noncomputable def i6_j8 (m:Nat) (self6:List Dt→Int→Int→Option (Bool×Int)) (rec3:List Dt→Int→Int→Int→Int→Option (Bool×Int)) (rec7:List Dt→Int→Int→Int→List Dt→Int→Int→Int→Option (Bool×Int)) (x0:List Dt) (x1 x2 x3:Int) (x4:List Dt) (x5 x6 x7:Int):Option (Bool×Int):=
  ((idx x4 x6).bind fun v2=>
    ((self6 (Dt.toLst v2) (IntKind.wrap .i64 (x1+1)) x7).bind fun r3=>
 (bif r3.1 then
 some (true,r3.2)
 else
 i6_j9 m self6 rec3 rec7 x0 x1 x2 x3 x4 x5 x6 r3.2)))
noncomputable def i6_j10 (m:Nat) (self6:List Dt→Int→Int→Option (Bool×Int)) (rec3:List Dt→Int→Int→Int→Int→Option (Bool×Int)) (x0:List Dt) (x1 x2 x3 x4:Int):Option (Bool×Int):=
 rec3 x0 x1 x2 (IntKind.wrap .i64 (x3+1)) x4
noncomputable def i6_l7 (m:Nat) (self6:List Dt→Int→Int→Option (Bool×Int)) (rec3:List Dt→Int→Int→Int→Int→Option (Bool×Int)):Nat→List Dt→Int→Int→Int→List Dt→Int→Int→Int→Option (Bool×Int)
 |0,_,_,_,_,_,_,_,_=>none
 |M7+1,x0,x1,x2,x3,x4,x5,x6,x7=>
  (bif (decide (x6<x5)) then
  i6_j8 m self6 rec3 (i6_l7 m self6 rec3 M7) x0 x1 x2 x3 x4 x5 x6 x7
 else
  i6_j10 m self6 rec3 x0 x1 x2 x3 x7)
noncomputable def i6_j6 (m:Nat) (self6:List Dt→Int→Int→Option (Bool×Int)) (rec3:List Dt→Int→Int→Int→Int→Option (Bool×Int)) (x0:List Dt) (x1 x2 x3:Int) (x4:List Dt) (x5 x6 x7:Int):Option (Bool×Int):=
 i6_l7 m self6 rec3 (Nat.succ m) x0 x1 x2 x3 x4 x5 x6 x7
noncomputable def i6_j5 (m:Nat) (self6:List Dt→Int→Int→Option (Bool×Int)) (rec3:List Dt→Int→Int→Int→Int→Option (Bool×Int)) (x0:List Dt) (x1 x2 x3 x4 x5:Int):Option (Bool×Int):=
  ((idx x0 x2).bind fun v0=>
    ((i7 m v0).bind fun r1=>
 i6_j6 m self6 rec3 x0 x1 x3 x4 r1 (List.length r1:Int) 0 x5))
noncomputable def i6_j4 (m:Nat) (self6:List Dt→Int→Int→Option (Bool×Int)) (rec3:List Dt→Int→Int→Int→Int→Option (Bool×Int)) (x0:List Dt) (x1 x2 x3 x4:Int):Option (Bool×Int):=
 (bif (decide (32<(IntKind.wrap .i64 (x4+1)))) then
  some (true,(IntKind.wrap .i64 (x4+1)))
 else
  i6_j5 m self6 rec3 x0 x1 x3 x2 x3 (IntKind.wrap .i64 (x4+1)))
noncomputable def i6_j11 (m:Nat) (self6:List Dt→Int→Int→Option (Bool×Int)) (x0:Int):Option (Bool×Int):=
 some (false,x0)
noncomputable def i6_l3 (m:Nat) (self6:List Dt→Int→Int→Option (Bool×Int)):Nat→List Dt→Int→Int→Int→Int→Option (Bool×Int)
 |0,_,_,_,_,_=>none
 |M3+1,x0,x1,x2,x3,x4=>
  (bif (decide (x3<x2)) then
  i6_j4 m self6 (i6_l3 m self6 M3) x0 x1 x2 x3 x4
 else
  i6_j11 m self6 x4)
noncomputable def i6_j2 (m:Nat) (self6:List Dt→Int→Int→Option (Bool×Int)) (x0:List Dt) (x1 x2 x3 x4:Int):Option (Bool×Int):=
 i6_l3 m self6 (Nat.succ m) x0 x1 x2 x3 x4
noncomputable def i6_j1 (m:Nat) (self6:List Dt→Int→Int→Option (Bool×Int)) (x0:List Dt) (x1 x2:Int):Option (Bool×Int):=
 i6_j2 m self6 x0 x1 (List.length x0:Int) 0 x2
noncomputable def i6_j0 (m:Nat) (self6:List Dt→Int→Int→Option (Bool×Int)) (x0:List Dt) (x1:Int) (x2:Bool) (x3:Int):Option (Bool×Int):=
 (bif x2 then
  some (true,x3)
 else
  i6_j1 m self6 x0 x1 x3)
noncomputable def i6:Nat→List Dt→Int→Int→Option (Bool×Int)
 |0,_,_,_=>none
 |m+1,a0,a1,a2=>
  (bif (decide (0<(List.length a0:Int))) then
  i6_j0 m (i6 m) a0 a1 (decide (16<a1)) a2
 else
  i6_j0 m (i6 m) a0 a1 false a2)
noncomputable def ref12_same_j4 (m:Nat) (rec2:List Dt→List Dt→Int→Option Bool) (x0 x1:List Dt) (x2:Int):Option Bool:=
 rec2 x0 x1 (IntKind.wrap .i64 (x2+1))
noncomputable def ref12_same_j3 (m:Nat) (rec2:List Dt→List Dt→Int→Option Bool) (x0 x1:List Dt) (x2:Int):Option Bool:=
  ((idx x0 x2).bind fun v0=>
    ((idx x1 x2).bind fun v1=>
 (bif (Bool.not ((ByteArray.toList (Dt.toStr v0))==(ByteArray.toList (Dt.toStr v1)))) then
 some false
 else
 ref12_same_j4 m rec2 x0 x1 x2)))
noncomputable def ref12_same_j5 (m:Nat):Option Bool:=
 some true
noncomputable def ref12_same_l2 (m:Nat):Nat→List Dt→List Dt→Int→Option Bool
 |0,_,_,_=>none
 |M2+1,x0,x1,x2=>
  (bif (decide (x2<(List.length x0:Int))) then
  ref12_same_j3 m (ref12_same_l2 m M2) x0 x1 x2
 else
  ref12_same_j5 m)
noncomputable def ref12_same_j1 (m:Nat) (x0 x1:List Dt) (x2:Int):Option Bool:=
 ref12_same_l2 m (Nat.succ m) x0 x1 x2
noncomputable def ref12_same_j0 (m:Nat) (x0 x1:List Dt):Option Bool:=
 ref12_same_j1 m x0 x1 0
noncomputable def ref12_same:Nat→List Dt→List Dt→Option Bool
 |0,_,_=>none
 |m+1,a0,a1=>
  (bif ((List.length a0:Int) !=(List.length a1:Int)) then
  some false
 else
  ref12_same_j0 m a0 a1)
noncomputable def ref01_Name_j6 (m:Nat) (rec3:ByteArray→Int→Option Bool) (x0:ByteArray) (x1:Int):Option Bool:=
 rec3 x0 (IntKind.wrap .i64 (x1+1))
noncomputable def ref01_Name_j5 (m:Nat) (rec3:ByteArray→Int→Option Bool) (x0:ByteArray) (x1:Int) (x2:Bool):Option Bool:=
 (bif x2 then
  some false
 else
  ref01_Name_j6 m rec3 x0 x1)
noncomputable def ref01_Name_j4 (m:Nat) (rec3:ByteArray→Int→Option Bool) (x0:ByteArray) (x1:Int):Option Bool:=
  ((idxS x0 x1).bind fun v0=>
    (bif (decide (v0<33)) then
 ref01_Name_j5 m rec3 x0 x1 true
    else
 ((idxS x0 x1).bind fun v1=>
 (bif (decide (126<v1)) then
 ref01_Name_j5 m rec3 x0 x1 true
 else
 ((idxS x0 x1).bind fun v2=>
 ref01_Name_j5 m rec3 x0 x1 (v2==46))))))
noncomputable def ref01_Name_j7 (m:Nat):Option Bool:=
 some true
noncomputable def ref01_Name_l3 (m:Nat):Nat→ByteArray→Int→Option Bool
 |0,_,_=>none
 |M3+1,x0,x1=>
  (bif (decide (x1<(ByteArray.size x0:Int))) then
  ref01_Name_j4 m (ref01_Name_l3 m M3) x0 x1
 else
  ref01_Name_j7 m)
noncomputable def ref01_Name_j2 (m:Nat) (x0:ByteArray) (x1:Int):Option Bool:=
 ref01_Name_l3 m (Nat.succ m) x0 x1
noncomputable def ref01_Name_j1 (m:Nat) (x0:ByteArray):Option Bool:=
 ref01_Name_j2 m x0 0
noncomputable def ref01_Name_j0 (m:Nat) (x0:ByteArray) (x1:Bool):Option Bool:=
 (bif x1 then
  some false
 else
  ref01_Name_j1 m x0)
noncomputable def ref01_Name:Nat→ByteArray→Option Bool
  |0,_=>none
  |m+1,a0=>
   (bif (decide ((ByteArray.size a0:Int)<1)) then
   ref01_Name_j0 m a0 true
  else
   (bif (decide (32<(ByteArray.size a0:Int))) then
 ref01_Name_j0 m a0 true
   else
 ((idxS a0 0).bind fun v3=>
 ref01_Name_j0 m a0 (v3==36))))
noncomputable def ref31_output:Nat→ByteArray→Option Bool
  |0,_=>none
  |m+1,a0=>
   ((ref01_Name m a0).bind fun r0=>
   (bif r0 then
 some (Bool.not ((ByteArray.toList a0)==[95,105,100]))
   else
 some false))
noncomputable def ref04_Valid_j5 (m:Nat) (rec3:List Dt→Int→Option Bool) (x0:List Dt) (x1:Int):Option Bool:=
 rec3 x0 (IntKind.wrap .i64 (x1+1))
noncomputable def ref04_Valid_j4 (m:Nat) (rec3:List Dt→Int→Option Bool) (x0:List Dt) (x1:Int):Option Bool:=
  ((idx x0 x1).bind fun v0=>
    ((ref01_Name m (Dt.toStr v0)).bind fun r1=>
 (bif (Bool.not r1) then
 some false
 else
 ref04_Valid_j5 m rec3 x0 x1)))
noncomputable def ref04_Valid_j6 (m:Nat):Option Bool:=
 some true
noncomputable def ref04_Valid_l3 (m:Nat):Nat→List Dt→Int→Option Bool
 |0,_,_=>none
 |M3+1,x0,x1=>
  (bif (decide (x1<(List.length x0:Int))) then
  ref04_Valid_j4 m (ref04_Valid_l3 m M3) x0 x1
 else
  ref04_Valid_j6 m)
noncomputable def ref04_Valid_j2 (m:Nat) (x0:List Dt) (x1:Int):Option Bool:=
 ref04_Valid_l3 m (Nat.succ m) x0 x1
noncomputable def ref04_Valid_j1 (m:Nat) (x0:List Dt):Option Bool:=
 ref04_Valid_j2 m x0 0
noncomputable def ref04_Valid_j0 (m:Nat) (x0:List Dt) (x1:Bool):Option Bool:=
 (bif x1 then
  some false
 else
  ref04_Valid_j1 m x0)
noncomputable def ref04_Valid:Nat→List Dt→Option Bool
 |0,_=>none
 |m+1,a0=>
  (bif (decide ((List.length a0:Int)<1)) then
  ref04_Valid_j0 m a0 true
 else
  ref04_Valid_j0 m a0 (decide (16<(List.length a0:Int))))
noncomputable def ref12_Valid_j8 (m:Nat) (rec2:List Dt→Int→Option Int) (rec6:List Dt→Int→Int→Option Int) (x0:List Dt) (x1 x2:Int):Option Int:=
 rec6 x0 x1 (IntKind.wrap .i64 (x2+1))
noncomputable def ref12_Valid_j7 (m:Nat) (rec2:List Dt→Int→Option Int) (rec6:List Dt→Int→Int→Option Int) (x0:List Dt) (x1 x2:Int):Option Int:=
  ((idx x0 x1).bind fun v2=>
    ((idx x0 x2).bind fun v3=>
 ((ref12_same m (Dt.L v2 0) (Dt.L v3 0)).bind fun r4=>
 (bif r4 then
 some 12
 else
 ref12_Valid_j8 m rec2 rec6 x0 x1 x2))))
noncomputable def ref12_Valid_j9 (m:Nat) (rec2:List Dt→Int→Option Int) (x0:List Dt) (x1:Int):Option Int:=
 rec2 x0 (IntKind.wrap .i64 (x1+1))
noncomputable def ref12_Valid_l6 (m:Nat) (rec2:List Dt→Int→Option Int):Nat→List Dt→Int→Int→Option Int
 |0,_,_,_=>none
 |M6+1,x0,x1,x2=>
  (bif (decide (x2<x1)) then
  ref12_Valid_j7 m rec2 (ref12_Valid_l6 m rec2 M6) x0 x1 x2
 else
  ref12_Valid_j9 m rec2 x0 x1)
noncomputable def ref12_Valid_j5 (m:Nat) (rec2:List Dt→Int→Option Int) (x0:List Dt) (x1 x2:Int):Option Int:=
 ref12_Valid_l6 m rec2 (Nat.succ m) x0 x1 x2
noncomputable def ref12_Valid_j4 (m:Nat) (rec2:List Dt→Int→Option Int) (x0:List Dt) (x1:Int):Option Int:=
 ref12_Valid_j5 m rec2 x0 x1 0
noncomputable def ref12_Valid_j3 (m:Nat) (rec2:List Dt→Int→Option Int) (x0:List Dt) (x1:Int):Option Int:=
  ((idx x0 x1).bind fun v0=>
    ((ref04_Valid m (Dt.L v0 0)).bind fun r1=>
 (bif (Bool.not r1) then
 some 10
 else
 ref12_Valid_j4 m rec2 x0 x1)))
noncomputable def ref12_Valid_j10 (m:Nat):Option Int:=
 some 0
noncomputable def ref12_Valid_l2 (m:Nat):Nat→List Dt→Int→Option Int
 |0,_,_=>none
 |M2+1,x0,x1=>
  (bif (decide (x1<(List.length x0:Int))) then
  ref12_Valid_j3 m (ref12_Valid_l2 m M2) x0 x1
 else
  ref12_Valid_j10 m)
noncomputable def ref12_Valid_j1 (m:Nat) (x0:List Dt) (x1:Int):Option Int:=
 ref12_Valid_l2 m (Nat.succ m) x0 x1
noncomputable def ref12_Valid_j0 (m:Nat) (x0:List Dt):Option Int:=
 ref12_Valid_j1 m x0 0
noncomputable def ref12_Valid:Nat→List Dt→Option Int
 |0,_=>none
 |m+1,a0=>
  (bif (decide (8<(List.length a0:Int))) then
  some 2
 else
  ref12_Valid_j0 m a0)
noncomputable def pipeline_unless_j0 (m:Nat) (x0:Int):Option Int:=
 some x0
noncomputable def pipeline_unless:Nat→Bool→Int→Option Int
 |0,_,_=>none
 |m+1,a0,a1=>
  (bif a0 then
  some 0
 else
  pipeline_unless_j0 m a1)
noncomputable def slices_Equal_j4 (m:Nat) (rec2:List Dt→List Dt→Int→Int→Option Bool) (x0 x1:List Dt) (x2 x3:Int):Option Bool:=
 rec2 x0 x1 x2 (IntKind.wrap .i64 (x3+1))
noncomputable def slices_Equal_j3 (m:Nat) (rec2:List Dt→List Dt→Int→Int→Option Bool) (x0 x1:List Dt) (x2 x3:Int):Option Bool:=
  ((idx x0 x3).bind fun v0=>
    ((idx x1 x3).bind fun v1=>
 (bif (Bool.not ((ByteArray.toList (Dt.toStr v0))==(ByteArray.toList (Dt.toStr v1)))) then
 some false
 else
 slices_Equal_j4 m rec2 x0 x1 x2 x3)))
noncomputable def slices_Equal_j5 (m:Nat):Option Bool:=
 some true
noncomputable def slices_Equal_l2 (m:Nat):Nat→List Dt→List Dt→Int→Int→Option Bool
 |0,_,_,_,_=>none
 |M2+1,x0,x1,x2,x3=>
  (bif (decide (x3<x2)) then
  slices_Equal_j3 m (slices_Equal_l2 m M2) x0 x1 x2 x3
 else
  slices_Equal_j5 m)
noncomputable def slices_Equal_j1 (m:Nat) (x0 x1:List Dt) (x2 x3:Int):Option Bool:=
 slices_Equal_l2 m (Nat.succ m) x0 x1 x2 x3
noncomputable def slices_Equal_j0 (m:Nat) (x0 x1:List Dt):Option Bool:=
 slices_Equal_j1 m x0 x1 (List.length x0:Int) 0
noncomputable def slices_Equal:Nat→List Dt→List Dt→Option Bool
 |0,_,_=>none
 |m+1,a0,a1=>
  (bif ((List.length a0:Int) !=(List.length a1:Int)) then
  some false
 else
  slices_Equal_j0 m a0 a1)
noncomputable def path_notName_j6 (m:Nat) (rec3:ByteArray→Int→Int→Option Bool) (x0:ByteArray) (x1 x2:Int):Option Bool:=
 rec3 x0 x1 (IntKind.wrap .i64 (x2+1))
noncomputable def path_notName_j5 (m:Nat) (rec3:ByteArray→Int→Int→Option Bool) (x0:ByteArray) (x1 x2:Int) (x3:Bool):Option Bool:=
 (bif x3 then
  some true
 else
  path_notName_j6 m rec3 x0 x1 x2)
noncomputable def path_notName_j4 (m:Nat) (rec3:ByteArray→Int→Int→Option Bool) (x0:ByteArray) (x1 x2:Int):Option Bool:=
  ((idxS x0 x2).bind fun v0=>
    (bif (decide (v0<33)) then
 path_notName_j5 m rec3 x0 x1 x2 true
    else
 ((idxS x0 x2).bind fun v1=>
 (bif (decide (126<v1)) then
 path_notName_j5 m rec3 x0 x1 x2 true
 else
 ((idxS x0 x2).bind fun v2=>
 path_notName_j5 m rec3 x0 x1 x2 (v2==46))))))
noncomputable def path_notName_j7 (m:Nat):Option Bool:=
 some false
noncomputable def path_notName_l3 (m:Nat):Nat→ByteArray→Int→Int→Option Bool
 |0,_,_,_=>none
 |M3+1,x0,x1,x2=>
  (bif (decide (x2<x1)) then
  path_notName_j4 m (path_notName_l3 m M3) x0 x1 x2
 else
  path_notName_j7 m)
noncomputable def path_notName_j2 (m:Nat) (x0:ByteArray) (x1 x2:Int):Option Bool:=
 path_notName_l3 m (Nat.succ m) x0 x1 x2
noncomputable def path_notName_j1 (m:Nat) (x0:ByteArray):Option Bool:=
 path_notName_j2 m x0 (ByteArray.size x0:Int) 0
noncomputable def path_notName_j0 (m:Nat) (x0:ByteArray) (x1:Bool):Option Bool:=
 (bif x1 then
  some true
 else
  path_notName_j1 m x0)
noncomputable def path_notName:Nat→ByteArray→Option Bool
  |0,_=>none
  |m+1,a0=>
   (bif (decide ((ByteArray.size a0:Int)<1)) then
   path_notName_j0 m a0 true
  else
   (bif (decide (32<(ByteArray.size a0:Int))) then
 path_notName_j0 m a0 true
   else
 ((idxS a0 0).bind fun v3=>
 path_notName_j0 m a0 (v3==36))))
noncomputable def i39_j3 (m:Nat) (rec1:List Dt→Int→Int→Option Int) (x0:List Dt) (x1 x2:Int):Option Int:=
 rec1 x0 x1 (IntKind.wrap .i64 (x2+1))
noncomputable def i39_j2 (m:Nat) (rec1:List Dt→Int→Int→Option Int) (x0:List Dt) (x1 x2:Int):Option Int:=
  ((idx x0 x2).bind fun v0=>
    ((path_notName m (Dt.toStr v0)).bind fun r1=>
 (bif r1 then
 some x2
 else
 i39_j3 m rec1 x0 x1 x2)))
noncomputable def i39_j4 (m:Nat):Option Int:=
 some (-1)
noncomputable def i39_l1 (m:Nat):Nat→List Dt→Int→Int→Option Int
 |0,_,_,_=>none
 |M1+1,x0,x1,x2=>
  (bif (decide (x2<x1)) then
  i39_j2 m (i39_l1 m M1) x0 x1 x2
 else
  i39_j4 m)
noncomputable def i39_j0 (m:Nat) (x0:List Dt) (x1 x2:Int):Option Int:=
 i39_l1 m (Nat.succ m) x0 x1 x2
noncomputable def i39:Nat→List Dt→Option Int
 |0,_=>none
 |m+1,a0=>
  i39_j0 m a0 (List.length a0:Int) 0
noncomputable def i38:Nat→List Dt→Option Bool
 |0,_=>none
 |m+1,a0=>
  ((i39 m a0).bind fun r0=>
  some (decide (0≤r0)))
noncomputable def path_Valid:Nat→List Dt→Option Bool
  |0,_=>none
  |m+1,a0=>
   (bif (decide (1≤(List.length a0:Int))) then
   (bif (decide ((List.length a0:Int)≤16)) then
 ((i38 m a0).bind fun r0=>
 some (Bool.not r0))
   else
 some false)
  else
   some false)
noncomputable def order_Valid_j8 (m:Nat) (rec2:List Dt→List Dt→Int→Int→Option Int) (rec6:List Dt→List Dt→Int→Int→List Dt→Int→Int→Dt→Option Int) (x0 x1:List Dt) (x2 x3:Int) (x4:List Dt) (x5 x6:Int) (x7:Dt):Option Int:=
 rec6 x0 x1 x2 x3 x4 x5 (IntKind.wrap .i64 (x6+1)) x7
noncomputable def order_Valid_j7 (m:Nat) (rec2:List Dt→List Dt→Int→Int→Option Int) (rec6:List Dt→List Dt→Int→Int→List Dt→Int→Int→Dt→Option Int) (x0 x1:List Dt) (x2 x3:Int) (x4:List Dt) (x5 x6:Int) (x7:Dt):Option Int:=
  ((idx x4 x6).bind fun v3=>
    ((slices_Equal m (Dt.L v3 0) (Dt.L x7 0)).bind fun r4=>
 (bif r4 then
 some 12
 else
 order_Valid_j8 m rec2 rec6 x0 x1 x2 x3 x4 x5 x6 x7)))
noncomputable def order_Valid_j9 (m:Nat) (rec2:List Dt→List Dt→Int→Int→Option Int) (x0 x1:List Dt) (x2 x3:Int):Option Int:=
 rec2 x0 x1 x2 (IntKind.wrap .i64 (x3+1))
noncomputable def order_Valid_l6 (m:Nat) (rec2:List Dt→List Dt→Int→Int→Option Int):Nat→List Dt→List Dt→Int→Int→List Dt→Int→Int→Dt→Option Int
 |0,_,_,_,_,_,_,_,_=>none
 |M6+1,x0,x1,x2,x3,x4,x5,x6,x7=>
  (bif (decide (x6<x5)) then
  order_Valid_j7 m rec2 (order_Valid_l6 m rec2 M6) x0 x1 x2 x3 x4 x5 x6 x7
 else
  order_Valid_j9 m rec2 x0 x1 x2 x3)
noncomputable def order_Valid_j5 (m:Nat) (rec2:List Dt→List Dt→Int→Int→Option Int) (x0 x1:List Dt) (x2 x3:Int) (x4:List Dt) (x5 x6:Int) (x7:Dt):Option Int:=
 order_Valid_l6 m rec2 (Nat.succ m) x0 x1 x2 x3 x4 x5 x6 x7
noncomputable def order_Valid_j4 (m:Nat) (rec2:List Dt→List Dt→Int→Int→Option Int) (x0:List Dt) (x1:Int) (x2:List Dt) (x3 x4:Int) (x5:Dt):Option Int:=
 ((cutL x0 0 x1).bind fun v2=>
   order_Valid_j5 m rec2 x0 x2 x3 x4 v2 (List.length v2:Int) 0 x5)
noncomputable def order_Valid_j3 (m:Nat) (rec2:List Dt→List Dt→Int→Int→Option Int) (x0 x1:List Dt) (x2 x3:Int):Option Int:=
  ((idx x1 x3).bind fun v0=>
    ((path_Valid m (Dt.L v0 0)).bind fun r1=>
 (bif (Bool.not r1) then
 some 10
 else
 order_Valid_j4 m rec2 x0 x3 x1 x2 x3 v0)))
noncomputable def order_Valid_j10 (m:Nat):Option Int:=
 some 0
noncomputable def order_Valid_l2 (m:Nat):Nat→List Dt→List Dt→Int→Int→Option Int
 |0,_,_,_,_=>none
 |M2+1,x0,x1,x2,x3=>
  (bif (decide (x3<x2)) then
  order_Valid_j3 m (order_Valid_l2 m M2) x0 x1 x2 x3
 else
  order_Valid_j10 m)
noncomputable def order_Valid_j1 (m:Nat) (x0 x1:List Dt) (x2 x3:Int):Option Int:=
 order_Valid_l2 m (Nat.succ m) x0 x1 x2 x3
noncomputable def order_Valid_j0 (m:Nat) (x0:List Dt):Option Int:=
 order_Valid_j1 m x0 x0 (List.length x0:Int) 0
noncomputable def order_Valid:Nat→List Dt→Option Int
 |0,_=>none
 |m+1,a0=>
  (bif (decide (8<(List.length a0:Int))) then
  some 2
 else
  order_Valid_j0 m a0)
noncomputable def pipeline_isName_j6 (m:Nat) (rec3:ByteArray→Int→Int→Option Bool) (x0:ByteArray) (x1 x2:Int):Option Bool:=
 rec3 x0 x1 (IntKind.wrap .i64 (x2+1))
noncomputable def pipeline_isName_j5 (m:Nat) (rec3:ByteArray→Int→Int→Option Bool) (x0:ByteArray) (x1 x2:Int) (x3:Bool):Option Bool:=
 (bif x3 then
  some false
 else
  pipeline_isName_j6 m rec3 x0 x1 x2)
noncomputable def pipeline_isName_j4 (m:Nat) (rec3:ByteArray→Int→Int→Option Bool) (x0:ByteArray) (x1 x2:Int):Option Bool:=
  ((idxS x0 x2).bind fun v0=>
    (bif (decide (v0<33)) then
 pipeline_isName_j5 m rec3 x0 x1 x2 true
    else
 ((idxS x0 x2).bind fun v1=>
 (bif (decide (126<v1)) then
 pipeline_isName_j5 m rec3 x0 x1 x2 true
 else
 ((idxS x0 x2).bind fun v2=>
 pipeline_isName_j5 m rec3 x0 x1 x2 (v2==46))))))
noncomputable def pipeline_isName_j7 (m:Nat):Option Bool:=
 some true
noncomputable def pipeline_isName_l3 (m:Nat):Nat→ByteArray→Int→Int→Option Bool
 |0,_,_,_=>none
 |M3+1,x0,x1,x2=>
  (bif (decide (x2<x1)) then
  pipeline_isName_j4 m (pipeline_isName_l3 m M3) x0 x1 x2
 else
  pipeline_isName_j7 m)
noncomputable def pipeline_isName_j2 (m:Nat) (x0:ByteArray) (x1 x2:Int):Option Bool:=
 pipeline_isName_l3 m (Nat.succ m) x0 x1 x2
noncomputable def pipeline_isName_j1 (m:Nat) (x0:ByteArray):Option Bool:=
 pipeline_isName_j2 m x0 (ByteArray.size x0:Int) 0
noncomputable def pipeline_isName_j0 (m:Nat) (x0:ByteArray) (x1:Bool):Option Bool:=
 (bif x1 then
  some false
 else
  pipeline_isName_j1 m x0)
noncomputable def pipeline_isName:Nat→ByteArray→Option Bool
  |0,_=>none
  |m+1,a0=>
   (bif (decide ((ByteArray.size a0:Int)<1)) then
   pipeline_isName_j0 m a0 true
  else
   (bif (decide (32<(ByteArray.size a0:Int))) then
 pipeline_isName_j0 m a0 true
   else
 ((idxS a0 0).bind fun v3=>
 pipeline_isName_j0 m a0 (v3==36))))
noncomputable def pipeline_isOutput:Nat→ByteArray→Option Bool
  |0,_=>none
  |m+1,a0=>
   ((pipeline_isName m a0).bind fun r0=>
   (bif r0 then
 some (Bool.not ((ByteArray.toList a0)==[95,105,100]))
   else
 some false))
noncomputable def ref01_Same_j5 (m:Nat) (self46:Dt→Dt→Option Bool) (rec3:Int→Dt→Dt→Option Bool) (x0:Int) (x1 x2:Dt):Option Bool:=
 rec3 (IntKind.wrap .i64 (x0+1)) x1 x2
noncomputable def ref01_Same_j4 (m:Nat) (self46:Dt→Dt→Option Bool) (rec3:Int→Dt→Dt→Option Bool) (x0:Int) (x1 x2:Dt):Option Bool:=
  ((idx (Dt.L x1 3) x0).bind fun v0=>
    ((idx (Dt.L x2 3) x0).bind fun v1=>
 ((self46 v0 v1).bind fun r2=>
 (bif (Bool.not r2) then
 some false
 else
 ref01_Same_j5 m self46 rec3 x0 x1 x2))))
noncomputable def ref01_Same_j11 (m:Nat) (self46:Dt→Dt→Option Bool) (rec8:Int→Dt→Dt→Option Bool) (x0:Int) (x1 x2:Dt):Option Bool:=
 rec8 (IntKind.wrap .i64 (x0+1)) x1 x2
noncomputable def ref01_Same_j10 (m:Nat) (self46:Dt→Dt→Option Bool) (rec8:Int→Dt→Dt→Option Bool) (x0:Int) (x1:Bool) (x2 x3:Dt):Option Bool:=
 (bif x1 then
  some false
 else
  ref01_Same_j11 m self46 rec8 x0 x2 x3)
noncomputable def ref01_Same_j9 (m:Nat) (self46:Dt→Dt→Option Bool) (rec8:Int→Dt→Dt→Option Bool) (x0:Int) (x1 x2:Dt):Option Bool:=
  ((idx (Dt.L x1 4) x0).bind fun v3=>
    ((idx (Dt.L x2 4) x0).bind fun v4=>
 (bif (Bool.not ((ByteArray.toList (Dt.S v3 0))==(ByteArray.toList (Dt.S v4 0)))) then
 ref01_Same_j10 m self46 rec8 x0 true x1 x2
 else
 ((idx (Dt.L x1 4) x0).bind fun v5=>
 ((idx (Dt.L x2 4) x0).bind fun v6=>
 ((self46 (Dt.fld v5 1) (Dt.fld v6 1)).bind fun r7=>
 ref01_Same_j10 m self46 rec8 x0 (Bool.not r7) x1 x2))))))
noncomputable def ref01_Same_j12 (m:Nat) (self46:Dt→Dt→Option Bool):Option Bool:=
 some true
noncomputable def ref01_Same_l8 (m:Nat) (self46:Dt→Dt→Option Bool):Nat→Int→Dt→Dt→Option Bool
 |0,_,_,_=>none
 |M8+1,x0,x1,x2=>
  (bif (decide (x0<(List.length (Dt.L x1 4):Int))) then
  ref01_Same_j9 m self46 (ref01_Same_l8 m self46 M8) x0 x1 x2
 else
  ref01_Same_j12 m self46)
noncomputable def ref01_Same_j7 (m:Nat) (self46:Dt→Dt→Option Bool) (x0:Int) (x1 x2:Dt):Option Bool:=
 ref01_Same_l8 m self46 (Nat.succ m) x0 x1 x2
noncomputable def ref01_Same_j6 (m:Nat) (self46:Dt→Dt→Option Bool) (x0 x1:Dt):Option Bool:=
 ref01_Same_j7 m self46 0 x0 x1
noncomputable def ref01_Same_l3 (m:Nat) (self46:Dt→Dt→Option Bool):Nat→Int→Dt→Dt→Option Bool
 |0,_,_,_=>none
 |M3+1,x0,x1,x2=>
  (bif (decide (x0<(List.length (Dt.L x1 3):Int))) then
  ref01_Same_j4 m self46 (ref01_Same_l3 m self46 M3) x0 x1 x2
 else
  ref01_Same_j6 m self46 x1 x2)
noncomputable def ref01_Same_j2 (m:Nat) (self46:Dt→Dt→Option Bool) (x0:Int) (x1 x2:Dt):Option Bool:=
 ref01_Same_l3 m self46 (Nat.succ m) x0 x1 x2
noncomputable def ref01_Same_j1 (m:Nat) (self46:Dt→Dt→Option Bool) (x0 x1:Dt):Option Bool:=
 ref01_Same_j2 m self46 0 x0 x1
noncomputable def ref01_Same_j0 (m:Nat) (self46:Dt→Dt→Option Bool) (x0:Bool) (x1 x2:Dt):Option Bool:=
 (bif x0 then
  some false
 else
  ref01_Same_j1 m self46 x1 x2)
noncomputable def ref01_Same:Nat→Dt→Dt→Option Bool
  |0,_,_=>none
  |m+1,a0,a1=>
   (bif ((Dt.I a0 0) !=(Dt.I a1 0)) then
   ref01_Same_j0 m (ref01_Same m) true a0 a1
  else
   (bif ((Dt.I a0 1) !=(Dt.I a1 1)) then
 ref01_Same_j0 m (ref01_Same m) true a0 a1
   else
 (bif (Bool.not ((ByteArray.toList (Dt.S a0 2))==(ByteArray.toList (Dt.S a1 2)))) then
 ref01_Same_j0 m (ref01_Same m) true a0 a1
 else
 (bif ((List.length (Dt.L a0 3):Int) !=(List.length (Dt.L a1 3):Int)) then
 ref01_Same_j0 m (ref01_Same m) true a0 a1
 else
 ref01_Same_j0 m (ref01_Same m) ((List.length (Dt.L a0 4):Int) !=(List.length (Dt.L a1 4):Int)) a0 a1))))
noncomputable def ref08_named_j7 (m:Nat) (rec1:List Dt→Int→Option Bool) (rec5:List Dt→Int→Int→Option Bool) (x0:List Dt) (x1 x2:Int):Option Bool:=
 rec5 x0 x1 (IntKind.wrap .i64 (x2+1))
noncomputable def ref08_named_j6 (m:Nat) (rec1:List Dt→Int→Option Bool) (rec5:List Dt→Int→Int→Option Bool) (x0:List Dt) (x1 x2:Int):Option Bool:=
  ((idx x0 x2).bind fun v2=>
    ((idx x0 x1).bind fun v3=>
 (bif ((ByteArray.toList (Dt.toStr v2))==(ByteArray.toList (Dt.toStr v3))) then
 some false
 else
 ref08_named_j7 m rec1 rec5 x0 x1 x2)))
noncomputable def ref08_named_j8 (m:Nat) (rec1:List Dt→Int→Option Bool) (x0:List Dt) (x1:Int):Option Bool:=
 rec1 x0 (IntKind.wrap .i64 (x1+1))
noncomputable def ref08_named_l5 (m:Nat) (rec1:List Dt→Int→Option Bool):Nat→List Dt→Int→Int→Option Bool
 |0,_,_,_=>none
 |M5+1,x0,x1,x2=>
  (bif (decide (x2<x1)) then
  ref08_named_j6 m rec1 (ref08_named_l5 m rec1 M5) x0 x1 x2
 else
  ref08_named_j8 m rec1 x0 x1)
noncomputable def ref08_named_j4 (m:Nat) (rec1:List Dt→Int→Option Bool) (x0:List Dt) (x1 x2:Int):Option Bool:=
 ref08_named_l5 m rec1 (Nat.succ m) x0 x1 x2
noncomputable def ref08_named_j3 (m:Nat) (rec1:List Dt→Int→Option Bool) (x0:List Dt) (x1:Int):Option Bool:=
 ref08_named_j4 m rec1 x0 x1 0
noncomputable def ref08_named_j2 (m:Nat) (rec1:List Dt→Int→Option Bool) (x0:List Dt) (x1:Int):Option Bool:=
  ((idx x0 x1).bind fun v0=>
    ((ref01_Name m (Dt.toStr v0)).bind fun r1=>
 (bif (Bool.not r1) then
 some false
 else
 ref08_named_j3 m rec1 x0 x1)))
noncomputable def ref08_named_j9 (m:Nat):Option Bool:=
 some true
noncomputable def ref08_named_l1 (m:Nat):Nat→List Dt→Int→Option Bool
 |0,_,_=>none
 |M1+1,x0,x1=>
  (bif (decide (x1<(List.length x0:Int))) then
  ref08_named_j2 m (ref08_named_l1 m M1) x0 x1
 else
  ref08_named_j9 m)
noncomputable def ref08_named_j0 (m:Nat) (x0:List Dt) (x1:Int):Option Bool:=
 ref08_named_l1 m (Nat.succ m) x0 x1
noncomputable def ref08_named:Nat→List Dt→Option Bool
 |0,_=>none
 |m+1,a0=>
  ref08_named_j0 m a0 0
noncomputable def ref08_Kids_j4 (m:Nat):Option Int:=
 some 2
noncomputable def ref08_Kids_j3 (m:Nat) (x0:Bool):Option Int:=
 (bif x0 then
  some (-1)
 else
  ref08_Kids_j4 m)
noncomputable def ref08_Kids_j2 (m:Nat) (x0:Int) (x1:Bool):Option Int:=
  (bif x1 then
   some 3
  else
   (bif (x0==4) then
 ref08_Kids_j3 m (x0==4)
   else
 (bif (x0==6) then
 ref08_Kids_j3 m (x0==6)
 else
 (bif (x0==16) then
 ref08_Kids_j3 m (x0==16)
 else
 (bif (x0==17) then
 ref08_Kids_j3 m (x0==17)
 else
 (bif (x0==21) then
 ref08_Kids_j3 m (x0==21)
 else
 (bif (x0==29) then
 ref08_Kids_j3 m (x0==29)
 else
 (bif (x0==37) then
 ref08_Kids_j3 m (x0==37)
 else
 (bif (x0==35) then
 ref08_Kids_j3 m (x0==35)
 else
 ref08_Kids_j3 m (x0==34))))))))))
noncomputable def ref08_Kids_j1 (m:Nat) (x0:Int) (x1:Bool):Option Int:=
  (bif x1 then
   some 1
  else
   (bif (x0==19) then
 ref08_Kids_j2 m x0 (x0==19)
   else
 ref08_Kids_j2 m x0 (x0==25)))
noncomputable def ref08_Kids_j0 (m:Nat) (x0:Int) (x1:Bool):Option Int:=
  (bif x1 then
   some 0
  else
   (bif (x0==18) then
 ref08_Kids_j1 m x0 (x0==18)
   else
 (bif (x0==22) then
 ref08_Kids_j1 m x0 (x0==22)
 else
 (bif (x0==23) then
 ref08_Kids_j1 m x0 (x0==23)
 else
 (bif (x0==24) then
 ref08_Kids_j1 m x0 (x0==24)
 else
 (bif (x0==26) then
 ref08_Kids_j1 m x0 (x0==26)
 else
 (bif (x0==30) then
 ref08_Kids_j1 m x0 (x0==30)
 else
 (bif (x0==31) then
 ref08_Kids_j1 m x0 (x0==31)
 else
 ref08_Kids_j1 m x0 (x0==36)))))))))
noncomputable def ref08_Kids:Nat→Int→Option Int
  |0,_=>none
  |m+1,a0=>
   (bif (a0==1) then
   ref08_Kids_j0 m a0 (a0==1)
  else
   (bif (a0==2) then
 ref08_Kids_j0 m a0 (a0==2)
   else
 ref08_Kids_j0 m a0 (a0==3)))
noncomputable def expr_isName:Nat→ByteArray→Option Bool
 |0,_=>none
 |m+1,a0=>
  ((path_Valid m [(Dt.str a0)]).bind fun r0=>
  some r0)
noncomputable def expr_isZero:Nat→Dt→Option Bool
  |0,_=>none
  |m+1,a0=>
   (bif ((Dt.I a0 0)==0) then
   (bif ((Dt.I a0 1)==0) then
 (bif ((ByteArray.toList (Dt.S a0 2))==[]) then
 (bif ((List.length (Dt.L a0 3):Int)==0) then
 some ((List.length (Dt.L a0 4):Int)==0)
 else
 some false)
 else
 some false)
   else
 some false)
  else
   some false)
noncomputable def expr_distinctNames_j5 (m:Nat) (rec1:List Dt→Int→Int→List Dt→Option Bool) (x0:List Dt) (x1 x2:Int) (x3:List Dt):Option Bool:=
 rec1 x0 x1 (IntKind.wrap .i64 (x2+1)) x3
noncomputable def expr_distinctNames_j4 (m:Nat) (rec1:List Dt→Int→Int→List Dt→Option Bool) (x0:ByteArray) (x1:List Dt) (x2 x3:Int) (x4:List Dt):Option Bool:=
 expr_distinctNames_j5 m rec1 x1 x2 x3 (mput x4 x0 (Dt.bool true))
noncomputable def expr_distinctNames_j3 (m:Nat) (rec1:List Dt→Int→Int→List Dt→Option Bool) (x0:ByteArray) (x1:List Dt) (x2 x3:Int) (x4:Bool) (x5:List Dt):Option Bool:=
 (bif x4 then
  some false
 else
  expr_distinctNames_j4 m rec1 x0 x1 x2 x3 x5)
noncomputable def expr_distinctNames_j2 (m:Nat) (rec1:List Dt→Int→Int→List Dt→Option Bool) (x0:List Dt) (x1 x2:Int) (x3:List Dt):Option Bool:=
  ((idx x0 x2).bind fun v0=>
    ((expr_isName m (Dt.toStr v0)).bind fun r1=>
 (bif (Bool.not r1) then
 expr_distinctNames_j3 m rec1 (Dt.toStr v0) x0 x1 x2 true x3
 else
 expr_distinctNames_j3 m rec1 (Dt.toStr v0) x0 x1 x2 (Dt.toBool (mgetD x3 (Dt.toStr v0) (Dt.bool false))) x3)))
noncomputable def expr_distinctNames_j6 (m:Nat):Option Bool:=
 some true
noncomputable def expr_distinctNames_l1 (m:Nat):Nat→List Dt→Int→Int→List Dt→Option Bool
 |0,_,_,_,_=>none
 |M1+1,x0,x1,x2,x3=>
  (bif (decide (x2<x1)) then
  expr_distinctNames_j2 m (expr_distinctNames_l1 m M1) x0 x1 x2 x3
 else
  expr_distinctNames_j6 m)
noncomputable def expr_distinctNames_j0 (m:Nat) (x0:List Dt) (x1 x2:Int) (x3:List Dt):Option Bool:=
 expr_distinctNames_l1 m (Nat.succ m) x0 x1 x2 x3
noncomputable def expr_distinctNames:Nat→List Dt→Option Bool
 |0,_=>none
 |m+1,a0=>
  expr_distinctNames_j0 m a0 (List.length a0:Int) 0 []
noncomputable def expr_shape_j5 (m:Nat):Option Int:=
 some 2
noncomputable def expr_shape_j4 (m:Nat) (x0:Int) (x1:Bool):Option Int:=
  (bif x1 then
   some 5
  else
   (bif (x0==35) then
 some 6
   else
 (bif (x0==34) then
 some 7
 else
 expr_shape_j5 m)))
noncomputable def expr_shape_j3 (m:Nat) (x0:Int) (x1:Bool):Option Int:=
  (bif x1 then
   some 4
  else
   (bif (x0==4) then
 expr_shape_j4 m x0 (x0==4)
   else
 (bif (x0==6) then
 expr_shape_j4 m x0 (x0==6)
 else
 (bif (x0==16) then
 expr_shape_j4 m x0 (x0==16)
 else
 (bif (x0==17) then
 expr_shape_j4 m x0 (x0==17)
 else
 (bif (x0==21) then
 expr_shape_j4 m x0 (x0==21)
 else
 (bif (x0==29) then
 expr_shape_j4 m x0 (x0==29)
 else
 expr_shape_j4 m x0 (x0==37))))))))
noncomputable def expr_shape_j2 (m:Nat) (x0:Int) (x1:Bool):Option Int:=
  (bif x1 then
   some 3
  else
   (bif (x0==19) then
 expr_shape_j3 m x0 (x0==19)
   else
 expr_shape_j3 m x0 (x0==25)))
noncomputable def expr_shape_j1 (m:Nat) (x0:Int) (x1:Bool):Option Int:=
  (bif x1 then
   some 1
  else
   (bif (x0==32) then
 expr_shape_j2 m x0 (x0==32)
   else
 expr_shape_j2 m x0 (x0==33)))
noncomputable def expr_shape_j0 (m:Nat) (x0:Int) (x1:Bool):Option Int:=
  (bif x1 then
   some 0
  else
   (bif (x0==18) then
 expr_shape_j1 m x0 (x0==18)
   else
 (bif (x0==22) then
 expr_shape_j1 m x0 (x0==22)
 else
 (bif (x0==23) then
 expr_shape_j1 m x0 (x0==23)
 else
 (bif (x0==24) then
 expr_shape_j1 m x0 (x0==24)
 else
 (bif (x0==26) then
 expr_shape_j1 m x0 (x0==26)
 else
 (bif (x0==30) then
 expr_shape_j1 m x0 (x0==30)
 else
 (bif (x0==31) then
 expr_shape_j1 m x0 (x0==31)
 else
 expr_shape_j1 m x0 (x0==36)))))))))
noncomputable def expr_shape:Nat→Int→Option Int
  |0,_=>none
  |m+1,a0=>
   (bif (a0==1) then
   expr_shape_j0 m a0 (a0==1)
  else
   (bif (a0==2) then
 expr_shape_j0 m a0 (a0==2)
   else
 expr_shape_j0 m a0 (a0==3)))
noncomputable def expr_hasKids_j1 (m:Nat):Option Bool:=
 some true
noncomputable def expr_hasKids_j0 (m:Nat) (x0 x1:Int) (x2:Bool):Option Bool:=
  (bif x2 then
   some (x0==2)
  else
   (bif (x1==4) then
 some (x0==3)
   else
 (bif (x1==7) then
 some (decide (1≤x0))
 else
 expr_hasKids_j1 m)))
noncomputable def expr_hasKids:Nat→Int→Int→Option Bool
  |0,_,_=>none
  |m+1,a0,a1=>
   (bif (a0==0) then
   some (a1==0)
  else
   (bif (a0==1) then
 some (a1==1)
   else
 (bif (a0==2) then
 expr_hasKids_j0 m a1 a0 (a0==2)
 else
 expr_hasKids_j0 m a1 a0 (a0==3))))
noncomputable def ref04_prefix_j4 (m:Nat) (rec2:List Dt→List Dt→Int→Option Bool) (x0 x1:List Dt) (x2:Int):Option Bool:=
 rec2 x0 x1 (IntKind.wrap .i64 (x2+1))
noncomputable def ref04_prefix_j3 (m:Nat) (rec2:List Dt→List Dt→Int→Option Bool) (x0 x1:List Dt) (x2:Int):Option Bool:=
  ((idx x0 x2).bind fun v0=>
    ((idx x1 x2).bind fun v1=>
 (bif (Bool.not ((ByteArray.toList (Dt.toStr v0))==(ByteArray.toList (Dt.toStr v1)))) then
 some false
 else
 ref04_prefix_j4 m rec2 x0 x1 x2)))
noncomputable def ref04_prefix_j5 (m:Nat):Option Bool:=
 some true
noncomputable def ref04_prefix_l2 (m:Nat):Nat→List Dt→List Dt→Int→Option Bool
 |0,_,_,_=>none
 |M2+1,x0,x1,x2=>
  (bif (decide (x2<(List.length x0:Int))) then
  ref04_prefix_j3 m (ref04_prefix_l2 m M2) x0 x1 x2
 else
  ref04_prefix_j5 m)
noncomputable def ref04_prefix_j1 (m:Nat) (x0 x1:List Dt) (x2:Int):Option Bool:=
 ref04_prefix_l2 m (Nat.succ m) x0 x1 x2
noncomputable def ref04_prefix_j0 (m:Nat) (x0 x1:List Dt):Option Bool:=
 ref04_prefix_j1 m x0 x1 0
noncomputable def ref04_prefix:Nat→List Dt→List Dt→Option Bool
 |0,_,_=>none
 |m+1,a0,a1=>
  (bif (decide ((List.length a1:Int)<(List.length a0:Int))) then
  some false
 else
  ref04_prefix_j0 m a0 a1)
noncomputable def ref04_Same:Nat→List Dt→List Dt→Option Bool
  |0,_,_=>none
  |m+1,a0,a1=>
   (bif ((List.length a0:Int)==(List.length a1:Int)) then
   ((ref04_prefix m a0 a1).bind fun r0=>
 some r0)
  else
   some false)
noncomputable def ref23_SameExpr_j5 (m:Nat) (self36:Dt→Dt→Option Bool) (rec3:Int→Dt→Dt→Option Bool) (x0:Int) (x1 x2:Dt):Option Bool:=
 rec3 (IntKind.wrap .i64 (x0+1)) x1 x2
noncomputable def ref23_SameExpr_j4 (m:Nat) (self36:Dt→Dt→Option Bool) (rec3:Int→Dt→Dt→Option Bool) (x0:Int) (x1 x2:Dt):Option Bool:=
  ((idx (Dt.L x1 6) x0).bind fun v0=>
    ((idx (Dt.L x2 6) x0).bind fun v1=>
 ((self36 v0 v1).bind fun r2=>
 (bif (Bool.not r2) then
 some false
 else
 ref23_SameExpr_j5 m self36 rec3 x0 x1 x2))))
noncomputable def ref23_SameExpr_j6 (m:Nat) (self36:Dt→Dt→Option Bool):Option Bool:=
 some true
noncomputable def ref23_SameExpr_l3 (m:Nat) (self36:Dt→Dt→Option Bool):Nat→Int→Dt→Dt→Option Bool
 |0,_,_,_=>none
 |M3+1,x0,x1,x2=>
  (bif (decide (x0<(List.length (Dt.L x1 6):Int))) then
  ref23_SameExpr_j4 m self36 (ref23_SameExpr_l3 m self36 M3) x0 x1 x2
 else
  ref23_SameExpr_j6 m self36)
noncomputable def ref23_SameExpr_j2 (m:Nat) (self36:Dt→Dt→Option Bool) (x0:Int) (x1 x2:Dt):Option Bool:=
 ref23_SameExpr_l3 m self36 (Nat.succ m) x0 x1 x2
noncomputable def ref23_SameExpr_j1 (m:Nat) (self36:Dt→Dt→Option Bool) (x0 x1:Dt):Option Bool:=
 ref23_SameExpr_j2 m self36 0 x0 x1
noncomputable def ref23_SameExpr_j0 (m:Nat) (self36:Dt→Dt→Option Bool) (x0:Bool) (x1 x2:Dt):Option Bool:=
 (bif x0 then
  some false
 else
  ref23_SameExpr_j1 m self36 x1 x2)
noncomputable def ref23_SameExpr:Nat→Dt→Dt→Option Bool
  |0,_,_=>none
  |m+1,a0,a1=>
   (bif ((Dt.I a0 0) !=(Dt.I a1 0)) then
   ref23_SameExpr_j0 m (ref23_SameExpr m) true a0 a1
  else
   ((ref04_Same m (Dt.L a0 1) (Dt.L a1 1)).bind fun r3=>
 (bif (Bool.not r3) then
 ref23_SameExpr_j0 m (ref23_SameExpr m) true a0 a1
 else
 (bif (Bool.not ((ByteArray.toList (Dt.S a0 2))==(ByteArray.toList (Dt.S a1 2)))) then
 ref23_SameExpr_j0 m (ref23_SameExpr m) true a0 a1
 else
 ((ref04_Same m (Dt.L a0 3) (Dt.L a1 3)).bind fun r4=>
 (bif (Bool.not r4) then
 ref23_SameExpr_j0 m (ref23_SameExpr m) true a0 a1
 else
 ((ref01_Same m (Dt.fld a0 4) (Dt.fld a1 4)).bind fun r5=>
 (bif (Bool.not r5) then
 ref23_SameExpr_j0 m (ref23_SameExpr m) true a0 a1
 else
 (bif ((Dt.I a0 5) !=(Dt.I a1 5)) then
 ref23_SameExpr_j0 m (ref23_SameExpr m) true a0 a1
 else
 ref23_SameExpr_j0 m (ref23_SameExpr m) ((List.length (Dt.L a0 6):Int) !=(List.length (Dt.L a1 6):Int)) a0 a1)))))))))
noncomputable def ref31_zeroExpr:Nat→Dt→Option Bool
 |0,_=>none
 |m+1,a0=>
  ((ref23_SameExpr m a0 kz6c2a1).bind fun r0=>
  some r0)
noncomputable def pipeline_zeroValue:Nat→Dt→Option Bool
  |0,_=>none
  |m+1,a0=>
   (bif ((Dt.I a0 0)==0) then
   (bif ((Dt.I a0 1)==0) then
 (bif ((ByteArray.toList (Dt.S a0 2))==[]) then
 (bif ((List.length (Dt.L a0 3):Int)==0) then
 some ((List.length (Dt.L a0 4):Int)==0)
 else
 some false)
 else
 some false)
   else
 some false)
  else
   some false)
noncomputable def pipeline_zeroExpr:Nat→Dt→Option Bool
  |0,_=>none
  |m+1,a0=>
   (bif ((Dt.I a0 0)==0) then
   (bif ((List.length (Dt.L a0 1):Int)==0) then
 (bif ((ByteArray.toList (Dt.S a0 2))==[]) then
 (bif ((List.length (Dt.L a0 3):Int)==0) then
 ((pipeline_zeroValue m (Dt.fld a0 4)).bind fun r0=>
 (bif r0 then
 (bif ((Dt.I a0 5)==0) then
 some ((List.length (Dt.L a0 6):Int)==0)
 else
 some false)
 else
 some false))
 else
 some false)
 else
 some false)
   else
 some false)
  else
   some false)
noncomputable def value_nodes_j0 (m:Nat) (self76:Dt→Int→Int→Option (Int×Int)) (x0:Dt) (x1 x2:Int):Option Int:=
 ((self76 x0 x2 x1).bind fun r0=>
   some r0.1)
noncomputable def i76_j3 (m:Nat) (self77:Dt→Int→Int→Option (Bool×Int×Int)) (rec1:List Dt→Int→Int→Int→Int→Option (Int×Int)) (x0:List Dt) (x1 x2 x3 x4:Int):Option (Int×Int):=
 rec1 x0 x1 (IntKind.wrap .i64 (x2+1)) x3 x4
noncomputable def i76_j2 (m:Nat) (self77:Dt→Int→Int→Option (Bool×Int×Int)) (rec1:List Dt→Int→Int→Int→Int→Option (Int×Int)) (x0:List Dt) (x1 x2 x3 x4:Int):Option (Int×Int):=
  ((idx x0 x2).bind fun v0=>
    ((self77 v0 x3 x4).bind fun r1=>
 (bif (Bool.not r1.1) then
 some (r1.2.1,r1.2.2)
 else
 i76_j3 m self77 rec1 x0 x1 x2 r1.2.1 r1.2.2)))
noncomputable def i76_l1 (m:Nat) (self77:Dt→Int→Int→Option (Bool×Int×Int)):Nat→List Dt→Int→Int→Int→Int→Option (Int×Int)
 |0,_,_,_,_,_=>none
 |M1+1,x0,x1,x2,x3,x4=>
  (bif (decide (x2<x1)) then
  i76_j2 m self77 (i76_l1 m self77 M1) x0 x1 x2 x3 x4
 else
  some (x3,x4))
noncomputable def i76_j0 (m:Nat) (self77:Dt→Int→Int→Option (Bool×Int×Int)) (x0:List Dt) (x1 x2 x3 x4:Int):Option (Int×Int):=
 i76_l1 m self77 (Nat.succ m) x0 x1 x2 x3 x4
noncomputable def i76_j7 (m:Nat) (self77:Dt→Int→Int→Option (Bool×Int×Int)) (rec5:List Dt→Int→Int→Int→Int→Option (Int×Int)) (x0:List Dt) (x1 x2 x3 x4:Int):Option (Int×Int):=
 rec5 x0 x1 (IntKind.wrap .i64 (x2+1)) x3 x4
noncomputable def i76_j6 (m:Nat) (self77:Dt→Int→Int→Option (Bool×Int×Int)) (rec5:List Dt→Int→Int→Int→Int→Option (Int×Int)) (x0:List Dt) (x1 x2 x3 x4:Int):Option (Int×Int):=
  ((idx x0 x2).bind fun v2=>
    ((self77 (Dt.fld v2 1) x3 x4).bind fun r3=>
 (bif (Bool.not r3.1) then
 some (r3.2.1,r3.2.2)
 else
 i76_j7 m self77 rec5 x0 x1 x2 r3.2.1 r3.2.2)))
noncomputable def i76_l5 (m:Nat) (self77:Dt→Int→Int→Option (Bool×Int×Int)):Nat→List Dt→Int→Int→Int→Int→Option (Int×Int)
 |0,_,_,_,_,_=>none
 |M5+1,x0,x1,x2,x3,x4=>
  (bif (decide (x2<x1)) then
  i76_j6 m self77 (i76_l5 m self77 M5) x0 x1 x2 x3 x4
 else
  some (x3,x4))
noncomputable def i76_j4 (m:Nat) (self77:Dt→Int→Int→Option (Bool×Int×Int)) (x0:List Dt) (x1 x2 x3 x4:Int):Option (Int×Int):=
 i76_l5 m self77 (Nat.succ m) x0 x1 x2 x3 x4
mutual
noncomputable def value_nodes:Nat→Dt→Int→Option Int
 |0,_,_=>none
 |m+1,a0,a1=>
  (bif (1==a1) then
  some 1
 else
  value_nodes_j0 m (i76 m) a0 a1 1)
noncomputable def i76:Nat→Dt→Int→Int→Option (Int×Int)
  |0,_,_,_=>none
  |m+1,a0,a1,a2=>
   (bif ((Dt.I a0 0)==6) then
   i76_j0 m (i77 m) (Dt.L a0 3) (List.length (Dt.L a0 3):Int) 0 a1 a2
  else
   (bif ((Dt.I a0 0)==5) then
 i76_j4 m (i77 m) (Dt.L a0 4) (List.length (Dt.L a0 4):Int) 0 a1 a2
   else
 some (a1,a2)))
noncomputable def i77:Nat→Dt→Int→Int→Option (Bool×Int×Int)
 |0,_,_,_=>none
 |m+1,a0,a1,a2=>
  ((value_nodes m a0 (IntKind.wrap .i64 (a2-a1))).bind fun r0=>
  some ((decide ((IntKind.wrap .i64 (a1+r0))<a2)),(IntKind.wrap .i64 (a1+r0)),a2))
end
noncomputable def value_Nodes:Nat→Dt→Option Int
 |0,_=>none
 |m+1,a0=>
  ((value_nodes m a0 1025).bind fun r0=>
  some r0)
noncomputable def value_depth_j0 (m:Nat) (self78:Dt→Int→Int→Option (Int×Int)) (x0:Dt) (x1:Int):Option Int:=
 ((self78 x0 0 x1).bind fun r0=>
   some (IntKind.wrap .i64 (1+r0.1)))
noncomputable def i78_j3 (m:Nat) (self79:Dt→Int→Int→Option (Bool×Int×Int)) (rec1:List Dt→Int→Int→Int→Int→Option (Int×Int)) (x0:List Dt) (x1 x2 x3 x4:Int):Option (Int×Int):=
 rec1 x0 x1 (IntKind.wrap .i64 (x2+1)) x3 x4
noncomputable def i78_j2 (m:Nat) (self79:Dt→Int→Int→Option (Bool×Int×Int)) (rec1:List Dt→Int→Int→Int→Int→Option (Int×Int)) (x0:List Dt) (x1 x2 x3 x4:Int):Option (Int×Int):=
  ((idx x0 x2).bind fun v0=>
    ((self79 v0 x3 x4).bind fun r1=>
 (bif (Bool.not r1.1) then
 some (r1.2.1,r1.2.2)
 else
 i78_j3 m self79 rec1 x0 x1 x2 r1.2.1 r1.2.2)))
noncomputable def i78_l1 (m:Nat) (self79:Dt→Int→Int→Option (Bool×Int×Int)):Nat→List Dt→Int→Int→Int→Int→Option (Int×Int)
 |0,_,_,_,_,_=>none
 |M1+1,x0,x1,x2,x3,x4=>
  (bif (decide (x2<x1)) then
  i78_j2 m self79 (i78_l1 m self79 M1) x0 x1 x2 x3 x4
 else
  some (x3,x4))
noncomputable def i78_j0 (m:Nat) (self79:Dt→Int→Int→Option (Bool×Int×Int)) (x0:List Dt) (x1 x2 x3 x4:Int):Option (Int×Int):=
 i78_l1 m self79 (Nat.succ m) x0 x1 x2 x3 x4
noncomputable def i78_j7 (m:Nat) (self79:Dt→Int→Int→Option (Bool×Int×Int)) (rec5:List Dt→Int→Int→Int→Int→Option (Int×Int)) (x0:List Dt) (x1 x2 x3 x4:Int):Option (Int×Int):=
 rec5 x0 x1 (IntKind.wrap .i64 (x2+1)) x3 x4
noncomputable def i78_j6 (m:Nat) (self79:Dt→Int→Int→Option (Bool×Int×Int)) (rec5:List Dt→Int→Int→Int→Int→Option (Int×Int)) (x0:List Dt) (x1 x2 x3 x4:Int):Option (Int×Int):=
  ((idx x0 x2).bind fun v2=>
    ((self79 (Dt.fld v2 1) x3 x4).bind fun r3=>
 (bif (Bool.not r3.1) then
 some (r3.2.1,r3.2.2)
 else
 i78_j7 m self79 rec5 x0 x1 x2 r3.2.1 r3.2.2)))
noncomputable def i78_l5 (m:Nat) (self79:Dt→Int→Int→Option (Bool×Int×Int)):Nat→List Dt→Int→Int→Int→Int→Option (Int×Int)
 |0,_,_,_,_,_=>none
 |M5+1,x0,x1,x2,x3,x4=>
  (bif (decide (x2<x1)) then
  i78_j6 m self79 (i78_l5 m self79 M5) x0 x1 x2 x3 x4
 else
  some (x3,x4))
noncomputable def i78_j4 (m:Nat) (self79:Dt→Int→Int→Option (Bool×Int×Int)) (x0:List Dt) (x1 x2 x3 x4:Int):Option (Int×Int):=
 i78_l5 m self79 (Nat.succ m) x0 x1 x2 x3 x4
mutual
noncomputable def value_depth:Nat→Dt→Int→Option Int
 |0,_,_=>none
 |m+1,a0,a1=>
  (bif (a1==1) then
  some 1
 else
  value_depth_j0 m (i78 m) a0 a1)
noncomputable def i78:Nat→Dt→Int→Int→Option (Int×Int)
  |0,_,_,_=>none
  |m+1,a0,a1,a2=>
   (bif ((Dt.I a0 0)==6) then
   i78_j0 m (i79 m) (Dt.L a0 3) (List.length (Dt.L a0 3):Int) 0 a1 a2
  else
   (bif ((Dt.I a0 0)==5) then
 i78_j4 m (i79 m) (Dt.L a0 4) (List.length (Dt.L a0 4):Int) 0 a1 a2
   else
 some (a1,a2)))
noncomputable def i79:Nat→Dt→Int→Int→Option (Bool×Int×Int)
 |0,_,_,_=>none
 |m+1,a0,a1,a2=>
  ((value_depth m a0 (IntKind.wrap .i64 (a2-1))).bind fun r0=>
  some ((decide ((bif (decide (a1<r0)) then r0 else a1)<(IntKind.wrap .i64 (a2-1)))),(bif (decide (a1<r0)) then r0 else a1),a2))
end
noncomputable def value_Depth:Nat→Dt→Option Int
 |0,_=>none
 |m+1,a0=>
  ((value_depth m a0 17).bind fun r0=>
  some r0)
noncomputable def ref01_Parts_j3 (m:Nat) (rec1:Int→Dt→List Dt→Option (List Dt)) (x0:Int) (x1:Dt) (x2:List Dt):Option (List Dt):=
 rec1 (IntKind.wrap .i64 (x0+1)) x1 x2
noncomputable def ref01_Parts_j2 (m:Nat) (rec1:Int→Dt→List Dt→Option (List Dt)) (x0:Int) (x1:Dt) (x2:List Dt):Option (List Dt):=
  ((idx (Dt.L x1 3) x0).bind fun v0=>
    ((app x2 [v0]).bind fun v1=>
 ref01_Parts_j3 m rec1 x0 x1 v1))
noncomputable def ref01_Parts_j8 (m:Nat) (rec6:Int→Dt→List Dt→Option (List Dt)) (x0:Int) (x1:Dt) (x2:List Dt):Option (List Dt):=
 rec6 (IntKind.wrap .i64 (x0+1)) x1 x2
noncomputable def ref01_Parts_j7 (m:Nat) (rec6:Int→Dt→List Dt→Option (List Dt)) (x0:Int) (x1:Dt) (x2:List Dt):Option (List Dt):=
  ((idx (Dt.L x1 4) x0).bind fun v2=>
    ((app x2 [(Dt.fld v2 1)]).bind fun v3=>
 ref01_Parts_j8 m rec6 x0 x1 v3))
noncomputable def ref01_Parts_j9 (m:Nat) (x0:List Dt):Option (List Dt):=
 some x0
noncomputable def ref01_Parts_l6 (m:Nat):Nat→Int→Dt→List Dt→Option (List Dt)
 |0,_,_,_=>none
 |M6+1,x0,x1,x2=>
  (bif (decide (x0<(List.length (Dt.L x1 4):Int))) then
  ref01_Parts_j7 m (ref01_Parts_l6 m M6) x0 x1 x2
 else
  ref01_Parts_j9 m x2)
noncomputable def ref01_Parts_j5 (m:Nat) (x0:Int) (x1:Dt) (x2:List Dt):Option (List Dt):=
 ref01_Parts_l6 m (Nat.succ m) x0 x1 x2
noncomputable def ref01_Parts_j4 (m:Nat) (x0:Dt) (x1:List Dt):Option (List Dt):=
 (bif ((Dt.I x0 0)==5) then
  ref01_Parts_j5 m 0 x0 x1
 else
  ref01_Parts_j9 m x1)
noncomputable def ref01_Parts_l1 (m:Nat):Nat→Int→Dt→List Dt→Option (List Dt)
 |0,_,_,_=>none
 |M1+1,x0,x1,x2=>
  (bif (decide (x0<(List.length (Dt.L x1 3):Int))) then
  ref01_Parts_j2 m (ref01_Parts_l1 m M1) x0 x1 x2
 else
  ref01_Parts_j4 m x1 x2)
noncomputable def ref01_Parts_j0 (m:Nat) (x0:Int) (x1:Dt) (x2:List Dt):Option (List Dt):=
 ref01_Parts_l1 m (Nat.succ m) x0 x1 x2
noncomputable def ref01_Parts:Nat→Dt→Option (List Dt)
 |0,_=>none
 |m+1,a0=>
  (bif ((Dt.I a0 0)==6) then
  ref01_Parts_j0 m 0 a0 []
 else
  ref01_Parts_j4 m a0 [])
noncomputable def ref01_levels_j5 (m:Nat) (self65:Dt→Int→Option Int) (rec3:Int→List Dt→Int→Int→Option Int) (x0:Int) (x1:List Dt) (x2 x3:Int):Option Int:=
 rec3 x0 x1 x2 (IntKind.wrap .i64 (x3+1))
noncomputable def ref01_levels_j4 (m:Nat) (self65:Dt→Int→Option Int) (rec3:Int→List Dt→Int→Int→Option Int) (x0:Int) (x1:List Dt) (x2 x3:Int):Option Int:=
  ((idx x1 x3).bind fun v1=>
    ((self65 v1 (IntKind.wrap .i64 (x0-1))).bind fun r2=>
 ref01_levels_j5 m self65 rec3 x0 x1 (bif (decide (x2<r2)) then r2 else x2) x3))
noncomputable def ref01_levels_j6 (m:Nat) (self65:Dt→Int→Option Int) (x0:Int):Option Int:=
 some (IntKind.wrap .i64 (x0+1))
noncomputable def ref01_levels_l3 (m:Nat) (self65:Dt→Int→Option Int):Nat→Int→List Dt→Int→Int→Option Int
 |0,_,_,_,_=>none
 |M3+1,x0,x1,x2,x3=>
  (bif (decide (x3<(List.length x1:Int))) then
  ref01_levels_j4 m self65 (ref01_levels_l3 m self65 M3) x0 x1 x2 x3
 else
  ref01_levels_j6 m self65 x2)
noncomputable def ref01_levels_j2 (m:Nat) (self65:Dt→Int→Option Int) (x0:Int) (x1:List Dt) (x2 x3:Int):Option Int:=
 ref01_levels_l3 m self65 (Nat.succ m) x0 x1 x2 x3
noncomputable def ref01_levels_j1 (m:Nat) (self65:Dt→Int→Option Int) (x0:Int) (x1:List Dt):Option Int:=
 ref01_levels_j2 m self65 x0 x1 0 0
noncomputable def ref01_levels_j0 (m:Nat) (self65:Dt→Int→Option Int) (x0:Int) (x1:List Dt) (x2:Bool):Option Int:=
 (bif x2 then
  some 1
 else
  ref01_levels_j1 m self65 x0 x1)
noncomputable def ref01_levels:Nat→Dt→Int→Option Int
  |0,_,_=>none
  |m+1,a0,a1=>
   ((ref01_Parts m a0).bind fun r0=>
   (bif (decide (a1<2)) then
 ref01_levels_j0 m (ref01_levels m) a1 r0 true
   else
 ref01_levels_j0 m (ref01_levels m) a1 r0 ((List.length r0:Int)==0)))
noncomputable def ref01_Depth:Nat→Dt→Option Int
 |0,_=>none
 |m+1,a0=>
  ((ref01_levels m a0 17).bind fun r0=>
  some r0)
noncomputable def ref01_count_j3 (m:Nat) (self66:Dt→Int→Option Int) (rec1:Int→Int→List Dt→Int→Option Int) (x0 x1:Int) (x2:List Dt) (x3:Int):Option Int:=
 rec1 x0 x1 x2 (IntKind.wrap .i64 (x3+1))
noncomputable def ref01_count_j2 (m:Nat) (self66:Dt→Int→Option Int) (rec1:Int→Int→List Dt→Int→Option Int) (x0 x1:Int) (x2:List Dt) (x3:Int):Option Int:=
  ((idx x2 x3).bind fun v1=>
    ((self66 v1 (IntKind.wrap .i64 (x0-x1))).bind fun r2=>
 ref01_count_j3 m self66 rec1 x0 (IntKind.wrap .i64 (x1+r2)) x2 x3))
noncomputable def ref01_count_j4 (m:Nat) (self66:Dt→Int→Option Int) (x0:Int):Option Int:=
 some x0
noncomputable def ref01_count_l1 (m:Nat) (self66:Dt→Int→Option Int):Nat→Int→Int→List Dt→Int→Option Int
  |0,_,_,_,_=>none
  |M1+1,x0,x1,x2,x3=>
   (bif (decide (x3<(List.length x2:Int))) then
   (bif (decide (x1<x0)) then
 ref01_count_j2 m self66 (ref01_count_l1 m self66 M1) x0 x1 x2 x3
   else
 ref01_count_j4 m self66 x1)
  else
   ref01_count_j4 m self66 x1)
noncomputable def ref01_count_j0 (m:Nat) (self66:Dt→Int→Option Int) (x0 x1:Int) (x2:List Dt) (x3:Int):Option Int:=
 ref01_count_l1 m self66 (Nat.succ m) x0 x1 x2 x3
noncomputable def ref01_count:Nat→Dt→Int→Option Int
 |0,_,_=>none
 |m+1,a0,a1=>
  ((ref01_Parts m a0).bind fun r0=>
  ref01_count_j0 m (ref01_count m) a1 1 r0 0)
noncomputable def ref01_Nodes:Nat→Dt→Option Int
 |0,_=>none
 |m+1,a0=>
  ((ref01_count m a0 1025).bind fun r0=>
  some r0)
noncomputable def ref01_tail_j5 (m:Nat) (rec2:ByteArray→Int→Int→Int→Option Bool) (x0:ByteArray) (x1 x2 x3:Int):Option Bool:=
 rec2 x0 x1 x2 (IntKind.wrap .i64 (x3+1))
noncomputable def ref01_tail_j4 (m:Nat) (rec2:ByteArray→Int→Int→Int→Option Bool) (x0:ByteArray) (x1 x2 x3:Int) (x4:Bool):Option Bool:=
 (bif x4 then
  some false
 else
  ref01_tail_j5 m rec2 x0 x1 x2 x3)
noncomputable def ref01_tail_j3 (m:Nat) (rec2:ByteArray→Int→Int→Int→Option Bool) (x0:ByteArray) (x1 x2 x3:Int):Option Bool:=
  ((idxS x0 (IntKind.wrap .i64 (x1+x3))).bind fun v0=>
    (bif (decide (v0<128)) then
 ref01_tail_j4 m rec2 x0 x1 x2 x3 true
    else
 ((idxS x0 (IntKind.wrap .i64 (x1+x3))).bind fun v1=>
 ref01_tail_j4 m rec2 x0 x1 x2 x3 (decide (191<v1)))))
noncomputable def ref01_tail_j6 (m:Nat):Option Bool:=
 some true
noncomputable def ref01_tail_l2 (m:Nat):Nat→ByteArray→Int→Int→Int→Option Bool
 |0,_,_,_,_=>none
 |M2+1,x0,x1,x2,x3=>
  (bif (decide (x3<x2)) then
  ref01_tail_j3 m (ref01_tail_l2 m M2) x0 x1 x2 x3
 else
  ref01_tail_j6 m)
noncomputable def ref01_tail_j1 (m:Nat) (x0:ByteArray) (x1 x2 x3:Int):Option Bool:=
 ref01_tail_l2 m (Nat.succ m) x0 x1 x2 x3
noncomputable def ref01_tail_j0 (m:Nat) (x0:ByteArray) (x1 x2:Int):Option Bool:=
 ref01_tail_j1 m x0 x1 x2 0
noncomputable def ref01_tail:Nat→ByteArray→Int→Int→Option Bool
 |0,_,_,_=>none
 |m+1,a0,a1,a2=>
  (bif (decide ((ByteArray.size a0:Int)<(IntKind.wrap .i64 (a1+a2)))) then
  some false
 else
  ref01_tail_j0 m a0 a1 a2)
noncomputable def ref01_UTF8_j6 (m:Nat) (rec1:ByteArray→Int→Option Bool) (x0:ByteArray) (x1 x2:Int):Option Bool:=
 rec1 x0 (IntKind.wrap .i64 ((IntKind.wrap .i64 (x1+x2))+1))
noncomputable def ref01_UTF8_j5 (m:Nat) (rec1:ByteArray→Int→Option Bool) (x0:ByteArray) (x1 x2:Int) (x3:Bool):Option Bool:=
 (bif x3 then
  some false
 else
  ref01_UTF8_j6 m rec1 x0 x1 x2)
noncomputable def ref01_UTF8_j4 (m:Nat) (rec1:ByteArray→Int→Option Bool) (x0:ByteArray) (x1 x2 x3:Int):Option Bool:=
  (bif (x2==224) then
   ((idxS x0 (IntKind.wrap .i64 (x1+1))).bind fun v2=>
 (bif (decide (v2<160)) then
 ref01_UTF8_j5 m rec1 x0 x1 x3 true
 else
 (bif (x2==237) then
 ((idxS x0 (IntKind.wrap .i64 (x1+1))).bind fun v3=>
 (bif (decide (159<v3)) then
 ref01_UTF8_j5 m rec1 x0 x1 x3 true
 else
 (bif (x2==240) then
 ((idxS x0 (IntKind.wrap .i64 (x1+1))).bind fun v4=>
 (bif (decide (v4<144)) then
 ref01_UTF8_j5 m rec1 x0 x1 x3 true
 else
 (bif (x2==244) then
 ((idxS x0 (IntKind.wrap .i64 (x1+1))).bind fun v5=>
 ref01_UTF8_j5 m rec1 x0 x1 x3 (decide (143<v5)))
 else
 ref01_UTF8_j5 m rec1 x0 x1 x3 false)))
 else
 (bif (x2==244) then
 ((idxS x0 (IntKind.wrap .i64 (x1+1))).bind fun v6=>
 ref01_UTF8_j5 m rec1 x0 x1 x3 (decide (143<v6)))
 else
 ref01_UTF8_j5 m rec1 x0 x1 x3 false))))
 else
 (bif (x2==240) then
 ((idxS x0 (IntKind.wrap .i64 (x1+1))).bind fun v7=>
 (bif (decide (v7<144)) then
 ref01_UTF8_j5 m rec1 x0 x1 x3 true
 else
 (bif (x2==244) then
 ((idxS x0 (IntKind.wrap .i64 (x1+1))).bind fun v8=>
 ref01_UTF8_j5 m rec1 x0 x1 x3 (decide (143<v8)))
 else
 ref01_UTF8_j5 m rec1 x0 x1 x3 false)))
 else
 (bif (x2==244) then
 ((idxS x0 (IntKind.wrap .i64 (x1+1))).bind fun v9=>
 ref01_UTF8_j5 m rec1 x0 x1 x3 (decide (143<v9)))
 else
 ref01_UTF8_j5 m rec1 x0 x1 x3 false)))))
  else
   (bif (x2==237) then
 ((idxS x0 (IntKind.wrap .i64 (x1+1))).bind fun v10=>
 (bif (decide (159<v10)) then
 ref01_UTF8_j5 m rec1 x0 x1 x3 true
 else
 (bif (x2==240) then
 ((idxS x0 (IntKind.wrap .i64 (x1+1))).bind fun v11=>
 (bif (decide (v11<144)) then
 ref01_UTF8_j5 m rec1 x0 x1 x3 true
 else
 (bif (x2==244) then
 ((idxS x0 (IntKind.wrap .i64 (x1+1))).bind fun v12=>
 ref01_UTF8_j5 m rec1 x0 x1 x3 (decide (143<v12)))
 else
 ref01_UTF8_j5 m rec1 x0 x1 x3 false)))
 else
 (bif (x2==244) then
 ((idxS x0 (IntKind.wrap .i64 (x1+1))).bind fun v13=>
 ref01_UTF8_j5 m rec1 x0 x1 x3 (decide (143<v13)))
 else
 ref01_UTF8_j5 m rec1 x0 x1 x3 false))))
   else
 (bif (x2==240) then
 ((idxS x0 (IntKind.wrap .i64 (x1+1))).bind fun v14=>
 (bif (decide (v14<144)) then
 ref01_UTF8_j5 m rec1 x0 x1 x3 true
 else
 (bif (x2==244) then
 ((idxS x0 (IntKind.wrap .i64 (x1+1))).bind fun v15=>
 ref01_UTF8_j5 m rec1 x0 x1 x3 (decide (143<v15)))
 else
 ref01_UTF8_j5 m rec1 x0 x1 x3 false)))
 else
 (bif (x2==244) then
 ((idxS x0 (IntKind.wrap .i64 (x1+1))).bind fun v16=>
 ref01_UTF8_j5 m rec1 x0 x1 x3 (decide (143<v16)))
 else
 ref01_UTF8_j5 m rec1 x0 x1 x3 false))))
noncomputable def ref01_UTF8_j3 (m:Nat) (rec1:ByteArray→Int→Option Bool) (x0:ByteArray) (x1 x2 x3:Int):Option Bool:=
  ((ref01_tail m x0 (IntKind.wrap .i64 (x1+1)) x3).bind fun r1=>
    (bif (Bool.not r1) then
 some false
    else
 ref01_UTF8_j4 m rec1 x0 x1 x2 x3))
noncomputable def ref01_UTF8_j9 (m:Nat) (rec1:ByteArray→Int→Option Bool) (x0:ByteArray) (x1 x2:Int) (x3:Bool):Option Bool:=
 (bif x3 then
  ref01_UTF8_j3 m rec1 x0 x1 x2 3
 else
  some false)
noncomputable def ref01_UTF8_j8 (m:Nat) (rec1:ByteArray→Int→Option Bool) (x0:ByteArray) (x1 x2:Int) (x3:Bool):Option Bool:=
  (bif x3 then
   ref01_UTF8_j3 m rec1 x0 x1 x2 2
  else
   (bif (decide (240≤x2)) then
 ref01_UTF8_j9 m rec1 x0 x1 x2 (decide (x2≤244))
   else
 ref01_UTF8_j9 m rec1 x0 x1 x2 false))
noncomputable def ref01_UTF8_j7 (m:Nat) (rec1:ByteArray→Int→Option Bool) (x0:ByteArray) (x1 x2:Int) (x3:Bool):Option Bool:=
  (bif x3 then
   ref01_UTF8_j3 m rec1 x0 x1 x2 1
  else
   (bif (decide (224≤x2)) then
 ref01_UTF8_j8 m rec1 x0 x1 x2 (decide (x2≤239))
   else
 ref01_UTF8_j8 m rec1 x0 x1 x2 false))
noncomputable def ref01_UTF8_j2 (m:Nat) (rec1:ByteArray→Int→Option Bool) (x0:ByteArray) (x1:Int):Option Bool:=
  ((idxS x0 x1).bind fun v0=>
    (bif (decide (v0<128)) then
 ref01_UTF8_j3 m rec1 x0 x1 v0 0
    else
 (bif (decide (194≤v0)) then
 ref01_UTF8_j7 m rec1 x0 x1 v0 (decide (v0≤223))
 else
 ref01_UTF8_j7 m rec1 x0 x1 v0 false)))
noncomputable def ref01_UTF8_j10 (m:Nat):Option Bool:=
 some true
noncomputable def ref01_UTF8_l1 (m:Nat):Nat→ByteArray→Int→Option Bool
 |0,_,_=>none
 |M1+1,x0,x1=>
  (bif (decide (x1<(ByteArray.size x0:Int))) then
  ref01_UTF8_j2 m (ref01_UTF8_l1 m M1) x0 x1
 else
  ref01_UTF8_j10 m)
noncomputable def ref01_UTF8_j0 (m:Nat) (x0:ByteArray) (x1:Int):Option Bool:=
 ref01_UTF8_l1 m (Nat.succ m) x0 x1
noncomputable def ref01_UTF8:Nat→ByteArray→Option Bool
 |0,_=>none
 |m+1,a0=>
  ref01_UTF8_j0 m a0 0
noncomputable def ref01_wide_j6 (m:Nat) (rec3:ByteArray→Int→Option Bool) (x0:ByteArray) (x1:Int):Option Bool:=
 rec3 x0 (IntKind.wrap .i64 (x1+1))
noncomputable def ref01_wide_j5 (m:Nat) (rec3:ByteArray→Int→Option Bool) (x0:ByteArray) (x1:Int) (x2:Bool):Option Bool:=
 (bif x2 then
  some false
 else
  ref01_wide_j6 m rec3 x0 x1)
noncomputable def ref01_wide_j4 (m:Nat) (rec3:ByteArray→Int→Option Bool) (x0:ByteArray) (x1:Int):Option Bool:=
  ((idxS x0 x1).bind fun v0=>
    (bif (decide (v0<32)) then
 ref01_wide_j5 m rec3 x0 x1 true
    else
 ((idxS x0 x1).bind fun v1=>
 ref01_wide_j5 m rec3 x0 x1 (decide (126<v1)))))
noncomputable def ref01_wide_j7 (m:Nat):Option Bool:=
 some true
noncomputable def ref01_wide_l3 (m:Nat):Nat→ByteArray→Int→Option Bool
 |0,_,_=>none
 |M3+1,x0,x1=>
  (bif (decide (x1<(ByteArray.size x0:Int))) then
  ref01_wide_j4 m (ref01_wide_l3 m M3) x0 x1
 else
  ref01_wide_j7 m)
noncomputable def ref01_wide_j2 (m:Nat) (x0:ByteArray) (x1:Int):Option Bool:=
 ref01_wide_l3 m (Nat.succ m) x0 x1
noncomputable def ref01_wide_j1 (m:Nat) (x0:ByteArray):Option Bool:=
 ref01_wide_j2 m x0 0
noncomputable def ref01_wide_j0 (m:Nat) (x0:ByteArray) (x1:Bool):Option Bool:=
 (bif x1 then
  some false
 else
  ref01_wide_j1 m x0)
noncomputable def ref01_wide:Nat→ByteArray→Option Bool
 |0,_=>none
 |m+1,a0=>
  (bif (decide ((ByteArray.size a0:Int)<1)) then
  ref01_wide_j0 m a0 true
 else
  ref01_wide_j0 m a0 (decide (128<(ByteArray.size a0:Int))))
noncomputable def ref01_formed_j10 (m:Nat) (self59:Dt→Bool→Option Bool) (self68:Dt→Bool→Option Bool) (rec8:Bool→Int→Dt→Option Bool) (x0:Bool) (x1:Int) (x2:Dt):Option Bool:=
 rec8 x0 (IntKind.wrap .i64 (x1+1)) x2
noncomputable def ref01_formed_j9 (m:Nat) (self59:Dt→Bool→Option Bool) (self68:Dt→Bool→Option Bool) (rec8:Bool→Int→Dt→Option Bool) (x0:Bool) (x1:Int) (x2:Dt):Option Bool:=
  ((idx (Dt.L x2 3) x1).bind fun v1=>
    ((self59 v1 x0).bind fun r2=>
 (bif (Bool.not r2) then
 some false
 else
 ref01_formed_j10 m self59 self68 rec8 x0 x1 x2)))
noncomputable def ref01_formed_j11 (m:Nat) (self59:Dt→Bool→Option Bool) (self68:Dt→Bool→Option Bool) (x0:Bool) (x1:Dt):Option Bool:=
 ((self68 x1 x0).bind fun r3=>
   some r3)
noncomputable def ref01_formed_l8 (m:Nat) (self59:Dt→Bool→Option Bool) (self68:Dt→Bool→Option Bool):Nat→Bool→Int→Dt→Option Bool
 |0,_,_,_=>none
 |M8+1,x0,x1,x2=>
  (bif (decide (x1<(List.length (Dt.L x2 3):Int))) then
  ref01_formed_j9 m self59 self68 (ref01_formed_l8 m self59 self68 M8) x0 x1 x2
 else
  ref01_formed_j11 m self59 self68 x0 x2)
noncomputable def ref01_formed_j7 (m:Nat) (self59:Dt→Bool→Option Bool) (self68:Dt→Bool→Option Bool) (x0:Bool) (x1:Int) (x2:Dt):Option Bool:=
 ref01_formed_l8 m self59 self68 (Nat.succ m) x0 x1 x2
noncomputable def ref01_formed_j6 (m:Nat) (self59:Dt→Bool→Option Bool) (self68:Dt→Bool→Option Bool) (x0:Bool) (x1:Dt):Option Bool:=
 ref01_formed_j7 m self59 self68 x0 0 x1
noncomputable def ref01_formed_j5 (m:Nat) (self59:Dt→Bool→Option Bool) (self68:Dt→Bool→Option Bool) (x0:Bool) (x1:Dt):Option Bool:=
  (bif ((Dt.I x1 0)==9) then
   (bif ((Dt.I x1 1)==0) then
 some true
   else
 some ((Dt.I x1 1)==1))
  else
   (bif ((Dt.I x1 0)==10) then
 some (decide (0≤(Dt.I x1 1)))
   else
 (bif ((Dt.I x1 0)==4) then
 (bif (decide ((ByteArray.size (Dt.S x1 2):Int)≤4096)) then
 ((ref01_UTF8 m (Dt.S x1 2)).bind fun r0=>
 some r0)
 else
 some false)
 else
 (bif ((Dt.I x1 0)==7) then
 some (decide ((ByteArray.size (Dt.S x1 2):Int)≤4096))
 else
 (bif ((Dt.I x1 0)==8) then
 some ((ByteArray.size (Dt.S x1 2):Int)==12)
 else
 ref01_formed_j6 m self59 self68 x0 x1)))))
noncomputable def ref01_formed_j4 (m:Nat) (self59:Dt→Bool→Option Bool) (self68:Dt→Bool→Option Bool) (x0 x1:Bool) (x2:Dt):Option Bool:=
 (bif x1 then
  some false
 else
  ref01_formed_j5 m self59 self68 x0 x2)
noncomputable def ref01_formed_j3 (m:Nat) (self59:Dt→Bool→Option Bool) (self68:Dt→Bool→Option Bool) (x0 x1 x2:Bool) (x3:Dt):Option Bool:=
  (bif (Bool.not x1) then
   (bif (Bool.not ((ByteArray.toList (Dt.S x3 2))==[])) then
 ref01_formed_j4 m self59 self68 x0 true x3
   else
 (bif (Bool.not x2) then
 (bif ((Dt.I x3 1) !=0) then
 ref01_formed_j4 m self59 self68 x0 true x3
 else
 (bif (decide ((Dt.I x3 0)<1)) then
 ref01_formed_j4 m self59 self68 x0 true x3
 else
 ref01_formed_j4 m self59 self68 x0 (decide (11<(Dt.I x3 0))) x3))
 else
 (bif (decide ((Dt.I x3 0)<1)) then
 ref01_formed_j4 m self59 self68 x0 true x3
 else
 ref01_formed_j4 m self59 self68 x0 (decide (11<(Dt.I x3 0))) x3)))
  else
   (bif (Bool.not x2) then
 (bif ((Dt.I x3 1) !=0) then
 ref01_formed_j4 m self59 self68 x0 true x3
 else
 (bif (decide ((Dt.I x3 0)<1)) then
 ref01_formed_j4 m self59 self68 x0 true x3
 else
 ref01_formed_j4 m self59 self68 x0 (decide (11<(Dt.I x3 0))) x3))
   else
 (bif (decide ((Dt.I x3 0)<1)) then
 ref01_formed_j4 m self59 self68 x0 true x3
 else
 ref01_formed_j4 m self59 self68 x0 (decide (11<(Dt.I x3 0))) x3)))
noncomputable def ref01_formed_j2 (m:Nat) (self59:Dt→Bool→Option Bool) (self68:Dt→Bool→Option Bool) (x0 x1:Bool) (x2:Dt):Option Bool:=
  (bif ((Dt.I x2 0)==3) then
   ref01_formed_j3 m self59 self68 x0 x1 true x2
  else
   (bif ((Dt.I x2 0)==9) then
 ref01_formed_j3 m self59 self68 x0 x1 true x2
   else
 ref01_formed_j3 m self59 self68 x0 x1 ((Dt.I x2 0)==10) x2))
noncomputable def ref01_formed_j1 (m:Nat) (self59:Dt→Bool→Option Bool) (self68:Dt→Bool→Option Bool) (x0:Bool) (x1:Dt):Option Bool:=
  (bif ((Dt.I x1 0)==4) then
   ref01_formed_j2 m self59 self68 x0 true x1
  else
   (bif ((Dt.I x1 0)==7) then
 ref01_formed_j2 m self59 self68 x0 true x1
   else
 ref01_formed_j2 m self59 self68 x0 ((Dt.I x1 0)==8) x1))
noncomputable def ref01_formed_j0 (m:Nat) (self59:Dt→Bool→Option Bool) (self68:Dt→Bool→Option Bool) (x0 x1:Bool) (x2:Dt):Option Bool:=
 (bif x1 then
  some false
 else
  ref01_formed_j1 m self59 self68 x0 x2)
noncomputable def ref01_fields_j8 (m:Nat) (self59:Dt→Bool→Option Bool) (rec1:Bool→Int→Dt→Option Bool) (rec6:Bool→Int→Int→Dt→Dt→Option Bool) (x0:Bool) (x1 x2:Int) (x3 x4:Dt):Option Bool:=
 rec6 x0 x1 (IntKind.wrap .i64 (x2+1)) x3 x4
noncomputable def ref01_fields_j7 (m:Nat) (self59:Dt→Bool→Option Bool) (rec1:Bool→Int→Dt→Option Bool) (rec6:Bool→Int→Int→Dt→Dt→Option Bool) (x0:Bool) (x1 x2:Int) (x3 x4:Dt):Option Bool:=
  ((idx (Dt.L x3 4) x2).bind fun v2=>
    (bif ((ByteArray.toList (Dt.S v2 0))==(ByteArray.toList (Dt.S x4 0))) then
 some false
    else
 ref01_fields_j8 m self59 rec1 rec6 x0 x1 x2 x3 x4))
noncomputable def ref01_fields_j9 (m:Nat) (self59:Dt→Bool→Option Bool) (rec1:Bool→Int→Dt→Option Bool) (x0:Bool) (x1:Int) (x2:Dt):Option Bool:=
 rec1 x0 (IntKind.wrap .i64 (x1+1)) x2
noncomputable def ref01_fields_l6 (m:Nat) (self59:Dt→Bool→Option Bool) (rec1:Bool→Int→Dt→Option Bool):Nat→Bool→Int→Int→Dt→Dt→Option Bool
 |0,_,_,_,_,_=>none
 |M6+1,x0,x1,x2,x3,x4=>
  (bif (decide (x2<x1)) then
  ref01_fields_j7 m self59 rec1 (ref01_fields_l6 m self59 rec1 M6) x0 x1 x2 x3 x4
 else
  ref01_fields_j9 m self59 rec1 x0 x1 x3)
noncomputable def ref01_fields_j5 (m:Nat) (self59:Dt→Bool→Option Bool) (rec1:Bool→Int→Dt→Option Bool) (x0:Bool) (x1 x2:Int) (x3 x4:Dt):Option Bool:=
 ref01_fields_l6 m self59 rec1 (Nat.succ m) x0 x1 x2 x3 x4
noncomputable def ref01_fields_j4 (m:Nat) (self59:Dt→Bool→Option Bool) (rec1:Bool→Int→Dt→Option Bool) (x0:Bool) (x1:Int) (x2 x3:Dt):Option Bool:=
 ref01_fields_j5 m self59 rec1 x0 x1 0 x2 x3
noncomputable def ref01_fields_j3 (m:Nat) (self59:Dt→Bool→Option Bool) (rec1:Bool→Int→Dt→Option Bool) (x0:Bool) (x1:Int) (x2:Bool) (x3 x4:Dt):Option Bool:=
 (bif x2 then
  some false
 else
  ref01_fields_j4 m self59 rec1 x0 x1 x3 x4)
noncomputable def ref01_fields_j2 (m:Nat) (self59:Dt→Bool→Option Bool) (rec1:Bool→Int→Dt→Option Bool) (x0:Bool) (x1:Int) (x2:Dt):Option Bool:=
  ((idx (Dt.L x2 4) x1).bind fun v0=>
    (bif x0 then
 ((ref01_Name m (Dt.S v0 0)).bind fun r1=>
 (bif (Bool.not r1) then
 ref01_fields_j3 m self59 rec1 x0 x1 true x2 v0
 else
 (bif (Bool.not x0) then
 ((ref01_wide m (Dt.S v0 0)).bind fun r3=>
 (bif (Bool.not r3) then
 ref01_fields_j3 m self59 rec1 x0 x1 true x2 v0
 else
 ((self59 (Dt.fld v0 1) x0).bind fun r4=>
 ref01_fields_j3 m self59 rec1 x0 x1 (Bool.not r4) x2 v0)))
 else
 ((self59 (Dt.fld v0 1) x0).bind fun r5=>
 ref01_fields_j3 m self59 rec1 x0 x1 (Bool.not r5) x2 v0))))
    else
 (bif (Bool.not x0) then
 ((ref01_wide m (Dt.S v0 0)).bind fun r6=>
 (bif (Bool.not r6) then
 ref01_fields_j3 m self59 rec1 x0 x1 true x2 v0
 else
 ((self59 (Dt.fld v0 1) x0).bind fun r7=>
 ref01_fields_j3 m self59 rec1 x0 x1 (Bool.not r7) x2 v0)))
 else
 ((self59 (Dt.fld v0 1) x0).bind fun r8=>
 ref01_fields_j3 m self59 rec1 x0 x1 (Bool.not r8) x2 v0))))
noncomputable def ref01_fields_j10 (m:Nat) (self59:Dt→Bool→Option Bool):Option Bool:=
 some true
noncomputable def ref01_fields_l1 (m:Nat) (self59:Dt→Bool→Option Bool):Nat→Bool→Int→Dt→Option Bool
 |0,_,_,_=>none
 |M1+1,x0,x1,x2=>
  (bif (decide (x1<(List.length (Dt.L x2 4):Int))) then
  ref01_fields_j2 m self59 (ref01_fields_l1 m self59 M1) x0 x1 x2
 else
  ref01_fields_j10 m self59)
noncomputable def ref01_fields_j0 (m:Nat) (self59:Dt→Bool→Option Bool) (x0:Bool) (x1:Int) (x2:Dt):Option Bool:=
 ref01_fields_l1 m self59 (Nat.succ m) x0 x1 x2
mutual
noncomputable def ref01_formed:Nat→Dt→Bool→Option Bool
  |0,_,_=>none
  |m+1,a0,a1=>
   (bif ((Dt.I a0 0) !=6) then
   (bif (decide (0<(List.length (Dt.L a0 3):Int))) then
 ref01_formed_j0 m (ref01_formed m) (ref01_fields m) a1 true a0
   else
 (bif ((Dt.I a0 0) !=5) then
 ref01_formed_j0 m (ref01_formed m) (ref01_fields m) a1 (decide (0<(List.length (Dt.L a0 4):Int))) a0
 else
 ref01_formed_j0 m (ref01_formed m) (ref01_fields m) a1 false a0))
  else
   (bif ((Dt.I a0 0) !=5) then
 ref01_formed_j0 m (ref01_formed m) (ref01_fields m) a1 (decide (0<(List.length (Dt.L a0 4):Int))) a0
   else
 ref01_formed_j0 m (ref01_formed m) (ref01_fields m) a1 false a0))
noncomputable def ref01_fields:Nat→Dt→Bool→Option Bool
 |0,_,_=>none
 |m+1,a0,a1=>
  ref01_fields_j0 m (ref01_formed m) a1 0 a0
end
noncomputable def ref01_Valid:Nat→Dt→Option Bool
  |0,_=>none
  |m+1,a0=>
   ((ref01_Depth m a0).bind fun r0=>
   (bif (decide (r0≤16)) then
 ((ref01_Nodes m a0).bind fun r1=>
 (bif (decide (r1≤1024)) then
 ((ref01_formed m a0 true).bind fun r2=>
 some r2)
 else
 some false))
   else
 some false))
noncomputable def ref08_node_j10 (m:Nat):Option Int:=
 some 0
noncomputable def ref08_node_j9 (m:Nat) (x0:Bool):Option Int:=
 (bif x0 then
  some 4
 else
  ref08_node_j10 m)
noncomputable def ref08_node_j8 (m:Nat) (x0:Bool) (x1:Dt):Option Int:=
  (bif ((Dt.I x1 0) !=2) then
   (bif ((Dt.I x1 0) !=3) then
 (bif (decide (0<(List.length (Dt.L x1 1):Int))) then
 ref08_node_j9 m true
 else
 (bif (Bool.not x0) then
 (bif (Bool.not ((ByteArray.toList (Dt.S x1 2))==[])) then
 ref08_node_j9 m true
 else
 (bif ((Dt.I x1 0) !=34) then
 (bif (decide (0<(List.length (Dt.L x1 3):Int))) then
 ref08_node_j9 m true
 else
 (bif ((Dt.I x1 0) !=1) then
 ((ref01_Same m (Dt.fld x1 4) kza2373).bind fun r3=>
 (bif (Bool.not r3) then
 ref08_node_j9 m true
 else
 ref08_node_j9 m ((Dt.I x1 5) !=0)))
 else
 ref08_node_j9 m ((Dt.I x1 5) !=0)))
 else
 (bif ((Dt.I x1 0) !=1) then
 ((ref01_Same m (Dt.fld x1 4) kza2373).bind fun r4=>
 (bif (Bool.not r4) then
 ref08_node_j9 m true
 else
 ref08_node_j9 m ((Dt.I x1 5) !=0)))
 else
 ref08_node_j9 m ((Dt.I x1 5) !=0))))
 else
 (bif ((Dt.I x1 0) !=34) then
 (bif (decide (0<(List.length (Dt.L x1 3):Int))) then
 ref08_node_j9 m true
 else
 (bif ((Dt.I x1 0) !=1) then
 ((ref01_Same m (Dt.fld x1 4) kza2373).bind fun r5=>
 (bif (Bool.not r5) then
 ref08_node_j9 m true
 else
 ref08_node_j9 m ((Dt.I x1 5) !=0)))
 else
 ref08_node_j9 m ((Dt.I x1 5) !=0)))
 else
 (bif ((Dt.I x1 0) !=1) then
 ((ref01_Same m (Dt.fld x1 4) kza2373).bind fun r6=>
 (bif (Bool.not r6) then
 ref08_node_j9 m true
 else
 ref08_node_j9 m ((Dt.I x1 5) !=0)))
 else
 ref08_node_j9 m ((Dt.I x1 5) !=0)))))
   else
 (bif (Bool.not x0) then
 (bif (Bool.not ((ByteArray.toList (Dt.S x1 2))==[])) then
 ref08_node_j9 m true
 else
 (bif ((Dt.I x1 0) !=34) then
 (bif (decide (0<(List.length (Dt.L x1 3):Int))) then
 ref08_node_j9 m true
 else
 (bif ((Dt.I x1 0) !=1) then
 ((ref01_Same m (Dt.fld x1 4) kza2373).bind fun r7=>
 (bif (Bool.not r7) then
 ref08_node_j9 m true
 else
 ref08_node_j9 m ((Dt.I x1 5) !=0)))
 else
 ref08_node_j9 m ((Dt.I x1 5) !=0)))
 else
 (bif ((Dt.I x1 0) !=1) then
 ((ref01_Same m (Dt.fld x1 4) kza2373).bind fun r8=>
 (bif (Bool.not r8) then
 ref08_node_j9 m true
 else
 ref08_node_j9 m ((Dt.I x1 5) !=0)))
 else
 ref08_node_j9 m ((Dt.I x1 5) !=0))))
 else
 (bif ((Dt.I x1 0) !=34) then
 (bif (decide (0<(List.length (Dt.L x1 3):Int))) then
 ref08_node_j9 m true
 else
 (bif ((Dt.I x1 0) !=1) then
 ((ref01_Same m (Dt.fld x1 4) kza2373).bind fun r9=>
 (bif (Bool.not r9) then
 ref08_node_j9 m true
 else
 ref08_node_j9 m ((Dt.I x1 5) !=0)))
 else
 ref08_node_j9 m ((Dt.I x1 5) !=0)))
 else
 (bif ((Dt.I x1 0) !=1) then
 ((ref01_Same m (Dt.fld x1 4) kza2373).bind fun r10=>
 (bif (Bool.not r10) then
 ref08_node_j9 m true
 else
 ref08_node_j9 m ((Dt.I x1 5) !=0)))
 else
 ref08_node_j9 m ((Dt.I x1 5) !=0)))))
  else
   (bif (Bool.not x0) then
 (bif (Bool.not ((ByteArray.toList (Dt.S x1 2))==[])) then
 ref08_node_j9 m true
 else
 (bif ((Dt.I x1 0) !=34) then
 (bif (decide (0<(List.length (Dt.L x1 3):Int))) then
 ref08_node_j9 m true
 else
 (bif ((Dt.I x1 0) !=1) then
 ((ref01_Same m (Dt.fld x1 4) kza2373).bind fun r11=>
 (bif (Bool.not r11) then
 ref08_node_j9 m true
 else
 ref08_node_j9 m ((Dt.I x1 5) !=0)))
 else
 ref08_node_j9 m ((Dt.I x1 5) !=0)))
 else
 (bif ((Dt.I x1 0) !=1) then
 ((ref01_Same m (Dt.fld x1 4) kza2373).bind fun r12=>
 (bif (Bool.not r12) then
 ref08_node_j9 m true
 else
 ref08_node_j9 m ((Dt.I x1 5) !=0)))
 else
 ref08_node_j9 m ((Dt.I x1 5) !=0))))
   else
 (bif ((Dt.I x1 0) !=34) then
 (bif (decide (0<(List.length (Dt.L x1 3):Int))) then
 ref08_node_j9 m true
 else
 (bif ((Dt.I x1 0) !=1) then
 ((ref01_Same m (Dt.fld x1 4) kza2373).bind fun r13=>
 (bif (Bool.not r13) then
 ref08_node_j9 m true
 else
 ref08_node_j9 m ((Dt.I x1 5) !=0)))
 else
 ref08_node_j9 m ((Dt.I x1 5) !=0)))
 else
 (bif ((Dt.I x1 0) !=1) then
 ((ref01_Same m (Dt.fld x1 4) kza2373).bind fun r14=>
 (bif (Bool.not r14) then
 ref08_node_j9 m true
 else
 ref08_node_j9 m ((Dt.I x1 5) !=0)))
 else
 ref08_node_j9 m ((Dt.I x1 5) !=0)))))
noncomputable def ref08_node_j7 (m:Nat) (x0 x1:Bool) (x2:Dt):Option Int:=
 (bif x1 then
  some 8
 else
  ref08_node_j8 m x0 x2)
noncomputable def ref08_node_j6 (m:Nat) (x0:Bool) (x1:Dt):Option Int:=
  (bif ((Dt.I x1 0)==1) then
   ((ref01_Valid m (Dt.fld x1 4)).bind fun r2=>
 ref08_node_j7 m x0 (Bool.not r2) x1)
  else
   ref08_node_j7 m x0 false x1)
noncomputable def ref08_node_j5 (m:Nat) (x0 x1:Bool) (x2:Dt):Option Int:=
 (bif x1 then
  some 9
 else
  ref08_node_j6 m x0 x2)
noncomputable def ref08_node_j4 (m:Nat) (x0:Bool) (x1:Dt):Option Int:=
  (bif x0 then
   ((ref01_Name m (Dt.S x1 2)).bind fun r1=>
 (bif (Bool.not r1) then
 ref08_node_j5 m x0 true x1
 else
 (bif ((Dt.I x1 0)==34) then
 ((ref08_named m (Dt.L x1 3)).bind fun r15=>
 ref08_node_j5 m x0 (Bool.not r15) x1)
 else
 ref08_node_j5 m x0 false x1)))
  else
   (bif ((Dt.I x1 0)==34) then
 ((ref08_named m (Dt.L x1 3)).bind fun r16=>
 ref08_node_j5 m x0 (Bool.not r16) x1)
   else
 ref08_node_j5 m x0 false x1))
noncomputable def ref08_node_j3 (m:Nat) (x0:Dt):Option Int:=
  (bif ((Dt.I x0 0)==3) then
   ref08_node_j4 m true x0
  else
   (bif ((Dt.I x0 0)==32) then
 ref08_node_j4 m true x0
   else
 ref08_node_j4 m ((Dt.I x0 0)==33) x0))
noncomputable def ref08_node_j2 (m:Nat) (x0:Bool) (x1:Dt):Option Int:=
 (bif x0 then
  some 10
 else
  ref08_node_j3 m x1)
noncomputable def ref08_node_j1 (m:Nat) (x0:Dt):Option Int:=
  (bif ((Dt.I x0 0)==2) then
   ((ref04_Valid m (Dt.L x0 1)).bind fun r0=>
 (bif (Bool.not r0) then
 ref08_node_j2 m true x0
 else
 (bif ((Dt.I x0 0)==3) then
 (bif (decide (0<(List.length (Dt.L x0 1):Int))) then
 ((ref04_Valid m (Dt.L x0 1)).bind fun r17=>
 ref08_node_j2 m (Bool.not r17) x0)
 else
 ref08_node_j2 m false x0)
 else
 ref08_node_j2 m false x0)))
  else
   (bif ((Dt.I x0 0)==3) then
 (bif (decide (0<(List.length (Dt.L x0 1):Int))) then
 ((ref04_Valid m (Dt.L x0 1)).bind fun r18=>
 ref08_node_j2 m (Bool.not r18) x0)
 else
 ref08_node_j2 m false x0)
   else
 ref08_node_j2 m false x0))
noncomputable def ref08_node_j0 (m:Nat) (x0:Bool) (x1:Dt):Option Int:=
 (bif x0 then
  some 11
 else
  ref08_node_j1 m x1)
noncomputable def ref08_node:Nat→Dt→Option Int
  |0,_=>none
  |m+1,a0=>
   (bif (decide ((Dt.I a0 0)<1)) then
   ref08_node_j0 m true a0
  else
   (bif (decide (37<(Dt.I a0 0))) then
 ref08_node_j0 m true a0
   else
 ((ref08_Kids m (Dt.I a0 0)).bind fun r19=>
 (bif (decide (0≤r19)) then
 ((ref08_Kids m (Dt.I a0 0)).bind fun r20=>
 (bif ((List.length (Dt.L a0 6):Int) !=r20) then
 ref08_node_j0 m true a0
 else
 (bif ((Dt.I a0 0)==34) then
 (bif ((List.length (Dt.L a0 6):Int) !=(List.length (Dt.L a0 3):Int)) then
 ref08_node_j0 m true a0
 else
 ref08_node_j0 m ((List.length (Dt.L a0 6):Int)==0) a0)
 else
 ref08_node_j0 m false a0)))
 else
 (bif ((Dt.I a0 0)==34) then
 (bif ((List.length (Dt.L a0 6):Int) !=(List.length (Dt.L a0 3):Int)) then
 ref08_node_j0 m true a0
 else
 ref08_node_j0 m ((List.length (Dt.L a0 6):Int)==0) a0)
 else
 ref08_node_j0 m false a0)))))
noncomputable def ref08_check_j7 (m:Nat) (self15:Dt→Int→Int→Option (Int×Int)) (rec4:Int→Int→Int→Dt→Option (Int×Int)) (x0 x1 x2:Int) (x3:Dt):Option (Int×Int):=
 rec4 x0 x1 (IntKind.wrap .i64 (x2+1)) x3
noncomputable def ref08_check_j6 (m:Nat) (self15:Dt→Int→Int→Option (Int×Int)) (rec4:Int→Int→Int→Dt→Option (Int×Int)) (x0 x1 x2:Int) (x3:Dt):Option (Int×Int):=
 ref08_check_j7 m self15 rec4 x2 x0 x1 x3
noncomputable def ref08_check_j5 (m:Nat) (self15:Dt→Int→Int→Option (Int×Int)) (rec4:Int→Int→Int→Dt→Option (Int×Int)) (x0 x1 x2:Int) (x3:Dt):Option (Int×Int):=
  ((idx (Dt.L x3 6) x2).bind fun v1=>
    ((self15 v1 (IntKind.wrap .i64 (x0+1)) (IntKind.wrap .i64 (x1+1))).bind fun r2=>
 (bif (r2.2 !=0) then
 some (r2.1,r2.2)
 else
 ref08_check_j6 m self15 rec4 x1 x2 r2.1 x3)))
noncomputable def ref08_check_j8 (m:Nat) (self15:Dt→Int→Int→Option (Int×Int)) (x0:Int):Option (Int×Int):=
 some (x0,0)
noncomputable def ref08_check_l4 (m:Nat) (self15:Dt→Int→Int→Option (Int×Int)):Nat→Int→Int→Int→Dt→Option (Int×Int)
 |0,_,_,_,_=>none
 |M4+1,x0,x1,x2,x3=>
  (bif (decide (x2<(List.length (Dt.L x3 6):Int))) then
  ref08_check_j5 m self15 (ref08_check_l4 m self15 M4) x0 x1 x2 x3
 else
  ref08_check_j8 m self15 x0)
noncomputable def ref08_check_j3 (m:Nat) (self15:Dt→Int→Int→Option (Int×Int)) (x0 x1 x2:Int) (x3:Dt):Option (Int×Int):=
 ref08_check_l4 m self15 (Nat.succ m) x0 x1 x2 x3
noncomputable def ref08_check_j2 (m:Nat) (self15:Dt→Int→Int→Option (Int×Int)) (x0 x1:Int) (x2:Dt):Option (Int×Int):=
 ref08_check_j3 m self15 x0 x1 0 x2
noncomputable def ref08_check_j1 (m:Nat) (self15:Dt→Int→Int→Option (Int×Int)) (x0 x1:Int) (x2:Dt):Option (Int×Int):=
  ((ref08_node m x2).bind fun r0=>
    (bif (r0 !=0) then
 some (x0,r0)
    else
 ref08_check_j2 m self15 x0 x1 x2))
noncomputable def ref08_check_j0 (m:Nat) (self15:Dt→Int→Int→Option (Int×Int)) (x0 x1:Int) (x2:Bool) (x3:Dt):Option (Int×Int):=
 (bif x2 then
  some (x0,2)
 else
  ref08_check_j1 m self15 x0 x1 x3)
noncomputable def ref08_check:Nat→Dt→Int→Int→Option (Int×Int)
 |0,_,_,_=>none
 |m+1,a0,a1,a2=>
  (bif (decide (16<a2)) then
  ref08_check_j0 m (ref08_check m) a1 a2 true a0
 else
  ref08_check_j0 m (ref08_check m) a1 a2 (decide (256<a1)) a0)
noncomputable def ref08_Valid:Nat→Dt→Option Int
 |0,_=>none
 |m+1,a0=>
  ((ref08_check m a0 1 1).bind fun r0=>
  some r0.2)
noncomputable def ref31_out_j8 (m:Nat):Option Int:=
 some 0
noncomputable def ref31_out_j7 (m:Nat) (x0:Bool):Option Int:=
 (bif x0 then
  some 1
 else
  ref31_out_j8 m)
noncomputable def ref31_out_j6 (m:Nat) (x0:Dt):Option Int:=
  (bif (decide ((Dt.I x0 3)<(-4096))) then
   ref31_out_j7 m true
  else
   (bif (decide (4096<(Dt.I x0 3))) then
 ref31_out_j7 m true
   else
 (bif (decide ((Dt.I x0 4)<(-4096))) then
 ref31_out_j7 m true
 else
 (bif (decide (4096<(Dt.I x0 4))) then
 ref31_out_j7 m true
 else
 (bif ((Dt.I x0 1) !=24) then
 ref31_out_j7 m (decide ((Dt.I x0 4)<(Dt.I x0 3)))
 else
 ref31_out_j7 m false)))))
noncomputable def ref31_out_j5 (m:Nat) (x0:Bool) (x1:Dt):Option Int:=
  (bif (Bool.not x0) then
   ((ref08_Valid m (Dt.fld x1 2)).bind fun r1=>
 (bif (r1 !=0) then
 some r1
 else
 ref31_out_j6 m x1))
  else
   ref31_out_j6 m x1)
noncomputable def ref31_out_j4 (m:Nat) (x0 x1:Bool) (x2:Dt):Option Int:=
 (bif x1 then
  some 21
 else
  ref31_out_j5 m x0 x2)
noncomputable def ref31_out_j3 (m:Nat) (x0 x1:Bool) (x2:Dt):Option Int:=
  (bif x1 then
   ((ref31_zeroExpr m (Dt.fld x2 2)).bind fun r0=>
 (bif (Bool.not r0) then
 ref31_out_j4 m x1 true x2
 else
 (bif x0 then
 (bif ((Dt.I x2 3) !=0) then
 ref31_out_j4 m x1 true x2
 else
 (bif ((Dt.I x2 4) !=0) then
 ref31_out_j4 m x1 true x2
 else
 (bif (Dt.B x2 5) then
 ref31_out_j4 m x1 true x2
 else
 (bif ((Dt.I x2 1)==24) then
 (bif ((Dt.I x2 4) !=0) then
 ref31_out_j4 m x1 true x2
 else
 (bif (Dt.B x2 5) then
 ref31_out_j4 m x1 true x2
 else
 (bif (Dt.B x2 5) then
 (bif ((Dt.I x2 3) !=0) then
 ref31_out_j4 m x1 true x2
 else
 ref31_out_j4 m x1 ((Dt.I x2 4) !=0) x2)
 else
 ref31_out_j4 m x1 false x2)))
 else
 (bif (Dt.B x2 5) then
 (bif ((Dt.I x2 3) !=0) then
 ref31_out_j4 m x1 true x2
 else
 ref31_out_j4 m x1 ((Dt.I x2 4) !=0) x2)
 else
 ref31_out_j4 m x1 false x2)))))
 else
 (bif ((Dt.I x2 1)==24) then
 (bif ((Dt.I x2 4) !=0) then
 ref31_out_j4 m x1 true x2
 else
 (bif (Dt.B x2 5) then
 ref31_out_j4 m x1 true x2
 else
 (bif (Dt.B x2 5) then
 (bif ((Dt.I x2 3) !=0) then
 ref31_out_j4 m x1 true x2
 else
 ref31_out_j4 m x1 ((Dt.I x2 4) !=0) x2)
 else
 ref31_out_j4 m x1 false x2)))
 else
 (bif (Dt.B x2 5) then
 (bif ((Dt.I x2 3) !=0) then
 ref31_out_j4 m x1 true x2
 else
 ref31_out_j4 m x1 ((Dt.I x2 4) !=0) x2)
 else
 ref31_out_j4 m x1 false x2)))))
  else
   (bif x0 then
 (bif ((Dt.I x2 3) !=0) then
 ref31_out_j4 m x1 true x2
 else
 (bif ((Dt.I x2 4) !=0) then
 ref31_out_j4 m x1 true x2
 else
 (bif (Dt.B x2 5) then
 ref31_out_j4 m x1 true x2
 else
 (bif ((Dt.I x2 1)==24) then
 (bif ((Dt.I x2 4) !=0) then
 ref31_out_j4 m x1 true x2
 else
 (bif (Dt.B x2 5) then
 ref31_out_j4 m x1 true x2
 else
 (bif (Dt.B x2 5) then
 (bif ((Dt.I x2 3) !=0) then
 ref31_out_j4 m x1 true x2
 else
 ref31_out_j4 m x1 ((Dt.I x2 4) !=0) x2)
 else
 ref31_out_j4 m x1 false x2)))
 else
 (bif (Dt.B x2 5) then
 (bif ((Dt.I x2 3) !=0) then
 ref31_out_j4 m x1 true x2
 else
 ref31_out_j4 m x1 ((Dt.I x2 4) !=0) x2)
 else
 ref31_out_j4 m x1 false x2)))))
   else
 (bif ((Dt.I x2 1)==24) then
 (bif ((Dt.I x2 4) !=0) then
 ref31_out_j4 m x1 true x2
 else
 (bif (Dt.B x2 5) then
 ref31_out_j4 m x1 true x2
 else
 (bif (Dt.B x2 5) then
 (bif ((Dt.I x2 3) !=0) then
 ref31_out_j4 m x1 true x2
 else
 ref31_out_j4 m x1 ((Dt.I x2 4) !=0) x2)
 else
 ref31_out_j4 m x1 false x2)))
 else
 (bif (Dt.B x2 5) then
 (bif ((Dt.I x2 3) !=0) then
 ref31_out_j4 m x1 true x2
 else
 ref31_out_j4 m x1 ((Dt.I x2 4) !=0) x2)
 else
 ref31_out_j4 m x1 false x2))))
noncomputable def ref31_out_j2 (m:Nat) (x0:Bool) (x1:Dt):Option Int:=
 (bif x0 then
  ref31_out_j3 m x0 true x1
 else
  ref31_out_j3 m x0 ((Dt.I x1 1)==2) x1)
noncomputable def ref31_out_j1 (m:Nat) (x0 x1:Bool) (x2:Dt):Option Int:=
 (bif x1 then
  some 11
 else
  ref31_out_j2 m x0 x2)
noncomputable def ref31_out_j0 (m:Nat) (x0:Bool) (x1:Dt):Option Int:=
  (bif (decide ((Dt.I x1 1)<1)) then
   (bif (Bool.not x0) then
 ref31_out_j1 m x0 ((Dt.I x1 1) !=24) x1
   else
 ref31_out_j1 m x0 false x1)
  else
   (bif (decide (8<(Dt.I x1 1))) then
 (bif (Bool.not x0) then
 ref31_out_j1 m x0 ((Dt.I x1 1) !=24) x1
 else
 ref31_out_j1 m x0 false x1)
   else
 ref31_out_j1 m x0 false x1))
noncomputable def ref31_out:Nat→Dt→Option Int
  |0,_=>none
  |m+1,a0=>
   (bif ((Dt.I a0 1)==21) then
   ref31_out_j0 m true a0
  else
   (bif ((Dt.I a0 1)==22) then
 ref31_out_j0 m true a0
   else
 ref31_out_j0 m ((Dt.I a0 1)==23) a0))
noncomputable def ref31_Window_j10 (m:Nat) (rec5:Int→Dt→Option Int) (rec8:Int→Bool→Int→Dt→Option Int) (x0:Int) (x1:Bool) (x2:Int) (x3:Dt):Option Int:=
 rec8 x0 x1 (IntKind.wrap .i64 (x2+1)) x3
noncomputable def ref31_Window_j9 (m:Nat) (rec5:Int→Dt→Option Int) (rec8:Int→Bool→Int→Dt→Option Int) (x0:Int) (x1:Bool) (x2:Int) (x3:Dt):Option Int:=
  (bif x1 then
   ((idx (Dt.L x3 2) x2).bind fun v4=>
 ((idx (Dt.L x3 2) x0).bind fun v5=>
 ref31_Window_j10 m rec5 rec8 x0 (Bool.not ((ByteArray.toList (Dt.S v4 0))==(ByteArray.toList (Dt.S v5 0)))) x2 x3))
  else
   ref31_Window_j10 m rec5 rec8 x0 false x2 x3)
noncomputable def ref31_Window_j13 (m:Nat) (rec5:Int→Dt→Option Int) (x0:Int) (x1:Dt):Option Int:=
 rec5 (IntKind.wrap .i64 (x0+1)) x1
noncomputable def ref31_Window_j12 (m:Nat) (rec5:Int→Dt→Option Int) (x0:Int) (x1:Dt):Option Int:=
  ((idx (Dt.L x1 2) x0).bind fun v6=>
    ((ref31_out m v6).bind fun r7=>
 (bif (r7 !=0) then
 some r7
 else
 ref31_Window_j13 m rec5 x0 x1)))
noncomputable def ref31_Window_j11 (m:Nat) (rec5:Int→Dt→Option Int) (x0:Int) (x1:Bool) (x2:Dt):Option Int:=
 (bif (Bool.not x1) then
  some 9
 else
  ref31_Window_j12 m rec5 x0 x2)
noncomputable def ref31_Window_l8 (m:Nat) (rec5:Int→Dt→Option Int):Nat→Int→Bool→Int→Dt→Option Int
 |0,_,_,_,_=>none
 |M8+1,x0,x1,x2,x3=>
  (bif (decide (x2<x0)) then
  ref31_Window_j9 m rec5 (ref31_Window_l8 m rec5 M8) x0 x1 x2 x3
 else
  ref31_Window_j11 m rec5 x0 x1 x3)
noncomputable def ref31_Window_j7 (m:Nat) (rec5:Int→Dt→Option Int) (x0:Int) (x1:Bool) (x2:Int) (x3:Dt):Option Int:=
 ref31_Window_l8 m rec5 (Nat.succ m) x0 x1 x2 x3
noncomputable def ref31_Window_j6 (m:Nat) (rec5:Int→Dt→Option Int) (x0:Int) (x1:Dt):Option Int:=
  ((idx (Dt.L x1 2) x0).bind fun v2=>
    ((ref31_output m (Dt.S v2 0)).bind fun r3=>
 ref31_Window_j7 m rec5 x0 r3 0 x1))
noncomputable def ref31_Window_j14 (m:Nat):Option Int:=
 some 0
noncomputable def ref31_Window_l5 (m:Nat):Nat→Int→Dt→Option Int
 |0,_,_=>none
 |M5+1,x0,x1=>
  (bif (decide (x0<(List.length (Dt.L x1 2):Int))) then
  ref31_Window_j6 m (ref31_Window_l5 m M5) x0 x1
 else
  ref31_Window_j14 m)
noncomputable def ref31_Window_j4 (m:Nat) (x0:Int) (x1:Dt):Option Int:=
 ref31_Window_l5 m (Nat.succ m) x0 x1
noncomputable def ref31_Window_j3 (m:Nat) (x0:Dt):Option Int:=
 ref31_Window_j4 m 0 x0
noncomputable def ref31_Window_j2 (m:Nat) (x0:Bool) (x1:Dt):Option Int:=
 (bif x0 then
  some 21
 else
  ref31_Window_j3 m x1)
noncomputable def ref31_Window_j1 (m:Nat) (x0:Dt):Option Int:=
 (bif (decide ((List.length (Dt.L x0 2):Int)<1)) then
  ref31_Window_j2 m true x0
 else
  ref31_Window_j2 m (decide (32<(List.length (Dt.L x0 2):Int))) x0)
noncomputable def ref31_Window_j0 (m:Nat) (x0:Int) (x1:Dt):Option Int:=
 (bif (x0 !=0) then
  some x0
 else
  ref31_Window_j1 m x1)
noncomputable def ref31_Window:Nat→Dt→Option Int
  |0,_=>none
  |m+1,a0=>
   ((ref08_Valid m (Dt.fld a0 0)).bind fun r0=>
   (bif (r0==0) then
 ((ref12_Valid m (Dt.L a0 1)).bind fun r1=>
 ref31_Window_j0 m r1 a0)
   else
 ref31_Window_j0 m r0 a0))
noncomputable def ref34_Valid:Nat→Dt→Option Int
 |0,_=>none
 |m+1,a0=>
  ((ref31_Window m a0).bind fun r0=>
  some r0)
noncomputable def value_isName_j6 (m:Nat) (rec3:ByteArray→Int→Int→Option Bool) (x0:ByteArray) (x1 x2:Int):Option Bool:=
 rec3 x0 x1 (IntKind.wrap .i64 (x2+1))
noncomputable def value_isName_j5 (m:Nat) (rec3:ByteArray→Int→Int→Option Bool) (x0:ByteArray) (x1 x2:Int) (x3:Bool):Option Bool:=
 (bif x3 then
  some false
 else
  value_isName_j6 m rec3 x0 x1 x2)
noncomputable def value_isName_j4 (m:Nat) (rec3:ByteArray→Int→Int→Option Bool) (x0:ByteArray) (x1 x2:Int):Option Bool:=
  ((idxS x0 x2).bind fun v0=>
    (bif (decide (v0<33)) then
 value_isName_j5 m rec3 x0 x1 x2 true
    else
 ((idxS x0 x2).bind fun v1=>
 (bif (decide (126<v1)) then
 value_isName_j5 m rec3 x0 x1 x2 true
 else
 ((idxS x0 x2).bind fun v2=>
 value_isName_j5 m rec3 x0 x1 x2 (v2==46))))))
noncomputable def value_isName_j7 (m:Nat):Option Bool:=
 some true
noncomputable def value_isName_l3 (m:Nat):Nat→ByteArray→Int→Int→Option Bool
 |0,_,_,_=>none
 |M3+1,x0,x1,x2=>
  (bif (decide (x2<x1)) then
  value_isName_j4 m (value_isName_l3 m M3) x0 x1 x2
 else
  value_isName_j7 m)
noncomputable def value_isName_j2 (m:Nat) (x0:ByteArray) (x1 x2:Int):Option Bool:=
 value_isName_l3 m (Nat.succ m) x0 x1 x2
noncomputable def value_isName_j1 (m:Nat) (x0:ByteArray):Option Bool:=
 value_isName_j2 m x0 (ByteArray.size x0:Int) 0
noncomputable def value_isName_j0 (m:Nat) (x0:ByteArray) (x1:Bool):Option Bool:=
 (bif x1 then
  some false
 else
  value_isName_j1 m x0)
noncomputable def value_isName:Nat→ByteArray→Option Bool
  |0,_=>none
  |m+1,a0=>
   (bif (decide ((ByteArray.size a0:Int)<1)) then
   value_isName_j0 m a0 true
  else
   (bif (decide (32<(ByteArray.size a0:Int))) then
 value_isName_j0 m a0 true
   else
 ((idxS a0 0).bind fun v3=>
 value_isName_j0 m a0 (v3==36))))
noncomputable def value_sound_j10 (m:Nat) (self64:Dt→Option Bool) (self72:List Dt→Option Bool) (rec8:List Dt→Int→Int→Option Bool) (x0:List Dt) (x1 x2:Int):Option Bool:=
 rec8 x0 x1 (IntKind.wrap .i64 (x2+1))
noncomputable def value_sound_j9 (m:Nat) (self64:Dt→Option Bool) (self72:List Dt→Option Bool) (rec8:List Dt→Int→Int→Option Bool) (x0:List Dt) (x1 x2:Int):Option Bool:=
  ((idx x0 x2).bind fun v1=>
    ((self64 v1).bind fun r2=>
 (bif (Bool.not r2) then
 some false
 else
 value_sound_j10 m self64 self72 rec8 x0 x1 x2)))
noncomputable def value_sound_j11 (m:Nat) (self64:Dt→Option Bool) (self72:List Dt→Option Bool):Option Bool:=
 some true
noncomputable def value_sound_l8 (m:Nat) (self64:Dt→Option Bool) (self72:List Dt→Option Bool):Nat→List Dt→Int→Int→Option Bool
 |0,_,_,_=>none
 |M8+1,x0,x1,x2=>
  (bif (decide (x2<x1)) then
  value_sound_j9 m self64 self72 (value_sound_l8 m self64 self72 M8) x0 x1 x2
 else
  value_sound_j11 m self64 self72)
noncomputable def value_sound_j7 (m:Nat) (self64:Dt→Option Bool) (self72:List Dt→Option Bool) (x0:List Dt) (x1 x2:Int):Option Bool:=
 value_sound_l8 m self64 self72 (Nat.succ m) x0 x1 x2
noncomputable def value_sound_j12 (m:Nat) (self64:Dt→Option Bool) (self72:List Dt→Option Bool):Option Bool:=
 some false
noncomputable def value_sound_j6 (m:Nat) (self64:Dt→Option Bool) (self72:List Dt→Option Bool) (x0:Int) (x1:Bool) (x2:Dt):Option Bool:=
  (bif x1 then
   some true
  else
   (bif (x0==9) then
 (bif ((Dt.I x2 1)==0) then
 some true
 else
 some ((Dt.I x2 1)==1))
   else
 (bif (x0==10) then
 some (decide (0≤(Dt.I x2 1)))
 else
 (bif (x0==4) then
 (bif (decide ((ByteArray.size (Dt.S x2 2):Int)≤4096)) then
 ((utf8_ValidString (Dt.S x2 2)).bind fun r0=>
 some r0)
 else
 some false)
 else
 (bif (x0==7) then
 some (decide ((ByteArray.size (Dt.S x2 2):Int)≤4096))
 else
 (bif (x0==8) then
 some ((ByteArray.size (Dt.S x2 2):Int)==12)
 else
 (bif (x0==6) then
 value_sound_j7 m self64 self72 (Dt.L x2 3) (List.length (Dt.L x2 3):Int) 0
 else
 (bif (x0==5) then
 ((self72 (Dt.L x2 4)).bind fun r3=>
 some r3)
 else
 value_sound_j12 m self64 self72))))))))
noncomputable def value_sound_j5 (m:Nat) (self64:Dt→Option Bool) (self72:List Dt→Option Bool) (x0:Dt):Option Bool:=
  (bif ((Dt.I x0 0)==1) then
   value_sound_j6 m self64 self72 (Dt.I x0 0) ((Dt.I x0 0)==1) x0
  else
   (bif ((Dt.I x0 0)==2) then
 value_sound_j6 m self64 self72 (Dt.I x0 0) ((Dt.I x0 0)==2) x0
   else
 (bif ((Dt.I x0 0)==11) then
 value_sound_j6 m self64 self72 (Dt.I x0 0) ((Dt.I x0 0)==11) x0
 else
 value_sound_j6 m self64 self72 (Dt.I x0 0) ((Dt.I x0 0)==3) x0)))
noncomputable def value_sound_j4 (m:Nat) (self64:Dt→Option Bool) (self72:List Dt→Option Bool) (x0:Bool) (x1:Dt):Option Bool:=
 (bif x0 then
  some false
 else
  value_sound_j5 m self64 self72 x1)
noncomputable def value_sound_j3 (m:Nat) (self64:Dt→Option Bool) (self72:List Dt→Option Bool) (x0:Dt):Option Bool:=
  (bif ((Dt.I x0 0) !=6) then
   (bif (decide (0<(List.length (Dt.L x0 3):Int))) then
 value_sound_j4 m self64 self72 true x0
   else
 (bif ((Dt.I x0 0) !=5) then
 value_sound_j4 m self64 self72 (decide (0<(List.length (Dt.L x0 4):Int))) x0
 else
 value_sound_j4 m self64 self72 false x0))
  else
   (bif ((Dt.I x0 0) !=5) then
 value_sound_j4 m self64 self72 (decide (0<(List.length (Dt.L x0 4):Int))) x0
   else
 value_sound_j4 m self64 self72 false x0))
noncomputable def value_sound_j2 (m:Nat) (self64:Dt→Option Bool) (self72:List Dt→Option Bool) (x0:Bool) (x1:Dt):Option Bool:=
 (bif x0 then
  some false
 else
  value_sound_j3 m self64 self72 x1)
noncomputable def value_sound_j1 (m:Nat) (self64:Dt→Option Bool) (self72:List Dt→Option Bool) (x0 x1:Bool) (x2:Dt):Option Bool:=
  (bif (Bool.not x0) then
   (bif ((Dt.I x2 1) !=0) then
 value_sound_j2 m self64 self72 true x2
   else
 (bif (Bool.not x1) then
 value_sound_j2 m self64 self72 (Bool.not ((ByteArray.toList (Dt.S x2 2))==[])) x2
 else
 value_sound_j2 m self64 self72 false x2))
  else
   (bif (Bool.not x1) then
 value_sound_j2 m self64 self72 (Bool.not ((ByteArray.toList (Dt.S x2 2))==[])) x2
   else
 value_sound_j2 m self64 self72 false x2))
noncomputable def value_sound_j0 (m:Nat) (self64:Dt→Option Bool) (self72:List Dt→Option Bool) (x0:Bool) (x1:Dt):Option Bool:=
  (bif ((Dt.I x1 0)==4) then
   value_sound_j1 m self64 self72 x0 true x1
  else
   (bif ((Dt.I x1 0)==7) then
 value_sound_j1 m self64 self72 x0 true x1
   else
 value_sound_j1 m self64 self72 x0 ((Dt.I x1 0)==8) x1))
noncomputable def value_soundFields_j5 (m:Nat) (self64:Dt→Option Bool) (rec1:List Dt→Int→Int→List Dt→Option Bool) (x0:List Dt) (x1 x2:Int) (x3:List Dt):Option Bool:=
 rec1 x0 x1 (IntKind.wrap .i64 (x2+1)) x3
noncomputable def value_soundFields_j4 (m:Nat) (self64:Dt→Option Bool) (rec1:List Dt→Int→Int→List Dt→Option Bool) (x0:List Dt) (x1 x2:Int) (x3:List Dt) (x4:Dt):Option Bool:=
 value_soundFields_j5 m self64 rec1 x0 x1 x2 (mput x3 (Dt.S x4 0) (Dt.bool true))
noncomputable def value_soundFields_j3 (m:Nat) (self64:Dt→Option Bool) (rec1:List Dt→Int→Int→List Dt→Option Bool) (x0:List Dt) (x1 x2:Int) (x3:Bool) (x4:List Dt) (x5:Dt):Option Bool:=
 (bif x3 then
  some false
 else
  value_soundFields_j4 m self64 rec1 x0 x1 x2 x4 x5)
noncomputable def value_soundFields_j2 (m:Nat) (self64:Dt→Option Bool) (rec1:List Dt→Int→Int→List Dt→Option Bool) (x0:List Dt) (x1 x2:Int) (x3:List Dt):Option Bool:=
  ((idx x0 x2).bind fun v0=>
    ((value_isName m (Dt.S v0 0)).bind fun r1=>
 (bif (Bool.not r1) then
 value_soundFields_j3 m self64 rec1 x0 x1 x2 true x3 v0
 else
 (bif (Dt.toBool (mgetD x3 (Dt.S v0 0) (Dt.bool false))) then
 value_soundFields_j3 m self64 rec1 x0 x1 x2 true x3 v0
 else
 ((self64 (Dt.fld v0 1)).bind fun r2=>
 value_soundFields_j3 m self64 rec1 x0 x1 x2 (Bool.not r2) x3 v0)))))
noncomputable def value_soundFields_j6 (m:Nat) (self64:Dt→Option Bool):Option Bool:=
 some true
noncomputable def value_soundFields_l1 (m:Nat) (self64:Dt→Option Bool):Nat→List Dt→Int→Int→List Dt→Option Bool
 |0,_,_,_,_=>none
 |M1+1,x0,x1,x2,x3=>
  (bif (decide (x2<x1)) then
  value_soundFields_j2 m self64 (value_soundFields_l1 m self64 M1) x0 x1 x2 x3
 else
  value_soundFields_j6 m self64)
noncomputable def value_soundFields_j0 (m:Nat) (self64:Dt→Option Bool) (x0:List Dt) (x1 x2:Int) (x3:List Dt):Option Bool:=
 value_soundFields_l1 m self64 (Nat.succ m) x0 x1 x2 x3
mutual
noncomputable def value_sound:Nat→Dt→Option Bool
  |0,_=>none
  |m+1,a0=>
   (bif ((Dt.I a0 0)==3) then
   value_sound_j0 m (value_sound m) (value_soundFields m) true a0
  else
   (bif ((Dt.I a0 0)==9) then
 value_sound_j0 m (value_sound m) (value_soundFields m) true a0
   else
 value_sound_j0 m (value_sound m) (value_soundFields m) ((Dt.I a0 0)==10) a0))
noncomputable def value_soundFields:Nat→List Dt→Option Bool
 |0,_=>none
 |m+1,a0=>
  value_soundFields_j0 m (value_sound m) a0 (List.length a0:Int) 0 []
end
noncomputable def value_Valid:Nat→Dt→Option Bool
  |0,_=>none
  |m+1,a0=>
   ((value_Nodes m a0).bind fun r0=>
   (bif (decide (r0≤1024)) then
 ((value_Depth m a0).bind fun r1=>
 (bif (decide (r1≤16)) then
 ((value_sound m a0).bind fun r2=>
 some r2)
 else
 some false))
   else
 some false))
noncomputable def expr_checkNode_j15 (m:Nat):Option Int:=
 some 0
noncomputable def expr_checkNode_j14 (m:Nat) (x0:Bool):Option Int:=
 (bif x0 then
  some 4
 else
  expr_checkNode_j15 m)
noncomputable def expr_checkNode_j13 (m:Nat) (x0:Dt):Option Int:=
  (bif ((Dt.I x0 0) !=1) then
   ((expr_isZero m (Dt.fld x0 4)).bind fun r3=>
 (bif (Bool.not r3) then
 expr_checkNode_j14 m true
 else
 expr_checkNode_j14 m ((Dt.I x0 5) !=0)))
  else
   expr_checkNode_j14 m ((Dt.I x0 5) !=0))
noncomputable def expr_checkNode_j12 (m:Nat) (x0:Bool) (x1:Dt):Option Int:=
 (bif x0 then
  some 4
 else
  expr_checkNode_j13 m x1)
noncomputable def expr_checkNode_j11 (m:Nat) (x0 x1:Bool) (x2:Dt):Option Int:=
  (bif (Bool.not x0) then
   (bif (decide (0<(List.length (Dt.L x2 1):Int))) then
 expr_checkNode_j12 m true x2
   else
 (bif (Bool.not x1) then
 (bif (Bool.not ((ByteArray.toList (Dt.S x2 2))==[])) then
 expr_checkNode_j12 m true x2
 else
 (bif ((Dt.I x2 0) !=34) then
 expr_checkNode_j12 m (decide (0<(List.length (Dt.L x2 3):Int))) x2
 else
 expr_checkNode_j12 m false x2))
 else
 (bif ((Dt.I x2 0) !=34) then
 expr_checkNode_j12 m (decide (0<(List.length (Dt.L x2 3):Int))) x2
 else
 expr_checkNode_j12 m false x2)))
  else
   (bif (Bool.not x1) then
 (bif (Bool.not ((ByteArray.toList (Dt.S x2 2))==[])) then
 expr_checkNode_j12 m true x2
 else
 (bif ((Dt.I x2 0) !=34) then
 expr_checkNode_j12 m (decide (0<(List.length (Dt.L x2 3):Int))) x2
 else
 expr_checkNode_j12 m false x2))
   else
 (bif ((Dt.I x2 0) !=34) then
 expr_checkNode_j12 m (decide (0<(List.length (Dt.L x2 3):Int))) x2
 else
 expr_checkNode_j12 m false x2)))
noncomputable def expr_checkNode_j10 (m:Nat) (x0 x1 x2:Bool) (x3:Dt):Option Int:=
 (bif x2 then
  some 8
 else
  expr_checkNode_j11 m x0 x1 x3)
noncomputable def expr_checkNode_j9 (m:Nat) (x0 x1:Bool) (x2:Dt):Option Int:=
  (bif ((Dt.I x2 0)==1) then
   ((value_Valid m (Dt.fld x2 4)).bind fun r2=>
 expr_checkNode_j10 m x0 x1 (Bool.not r2) x2)
  else
   expr_checkNode_j10 m x0 x1 false x2)
noncomputable def expr_checkNode_j8 (m:Nat) (x0 x1 x2:Bool) (x3:Dt):Option Int:=
 (bif x2 then
  some 9
 else
  expr_checkNode_j9 m x0 x1 x3)
noncomputable def expr_checkNode_j7 (m:Nat) (x0 x1:Bool) (x2:Dt):Option Int:=
  (bif x1 then
   ((expr_isName m (Dt.S x2 2)).bind fun r1=>
 (bif (Bool.not r1) then
 expr_checkNode_j8 m x0 x1 true x2
 else
 (bif ((Dt.I x2 0)==34) then
 ((expr_distinctNames m (Dt.L x2 3)).bind fun r4=>
 expr_checkNode_j8 m x0 x1 (Bool.not r4) x2)
 else
 expr_checkNode_j8 m x0 x1 false x2)))
  else
   (bif ((Dt.I x2 0)==34) then
 ((expr_distinctNames m (Dt.L x2 3)).bind fun r5=>
 expr_checkNode_j8 m x0 x1 (Bool.not r5) x2)
   else
 expr_checkNode_j8 m x0 x1 false x2))
noncomputable def expr_checkNode_j6 (m:Nat) (x0 x1 x2:Bool) (x3:Dt):Option Int:=
 (bif x2 then
  some 10
 else
  expr_checkNode_j7 m x0 x1 x3)
noncomputable def expr_checkNode_j5 (m:Nat) (x0 x1:Bool) (x2:Dt):Option Int:=
  (bif x0 then
   ((path_Valid m (Dt.L x2 1)).bind fun r0=>
 (bif (Bool.not r0) then
 (bif ((Dt.I x2 0)==2) then
 expr_checkNode_j6 m x0 x1 true x2
 else
 expr_checkNode_j6 m x0 x1 (decide (0<(List.length (Dt.L x2 1):Int))) x2)
 else
 expr_checkNode_j6 m x0 x1 false x2))
  else
   expr_checkNode_j6 m x0 x1 false x2)
noncomputable def expr_checkNode_j4 (m:Nat) (x0:Bool) (x1:Dt):Option Int:=
  (bif ((Dt.I x1 0)==3) then
   expr_checkNode_j5 m x0 true x1
  else
   ((expr_shape m (Dt.I x1 0)).bind fun r6=>
 expr_checkNode_j5 m x0 (r6==3) x1))
noncomputable def expr_checkNode_j3 (m:Nat) (x0:Dt):Option Int:=
 (bif ((Dt.I x0 0)==2) then
  expr_checkNode_j4 m true x0
 else
  expr_checkNode_j4 m ((Dt.I x0 0)==3) x0)
noncomputable def expr_checkNode_j2 (m:Nat) (x0:Bool) (x1:Dt):Option Int:=
 (bif x0 then
  some 11
 else
  expr_checkNode_j3 m x1)
noncomputable def expr_checkNode_j1 (m:Nat) (x0:Dt):Option Int:=
 (bif ((Dt.I x0 0)==34) then
  expr_checkNode_j2 m ((List.length (Dt.L x0 6):Int) !=(List.length (Dt.L x0 3):Int)) x0
 else
  expr_checkNode_j2 m false x0)
noncomputable def expr_checkNode_j0 (m:Nat) (x0:Bool) (x1:Dt):Option Int:=
 (bif x0 then
  some 11
 else
  expr_checkNode_j1 m x1)
noncomputable def expr_checkNode:Nat→Dt→Option Int
  |0,_=>none
  |m+1,a0=>
   (bif (decide ((Dt.I a0 0)<1)) then
   expr_checkNode_j0 m true a0
  else
   (bif (decide (37<(Dt.I a0 0))) then
 expr_checkNode_j0 m true a0
   else
 ((expr_shape m (Dt.I a0 0)).bind fun r7=>
 ((expr_hasKids m r7 (List.length (Dt.L a0 6):Int)).bind fun r8=>
 expr_checkNode_j0 m (Bool.not r8) a0))))
noncomputable def i43_j6 (m:Nat) (self43:Dt→Int→Int→Option (Int×Int)) (rec4:Int→List Dt→Int→Int→Int→Option (Int×Int)) (x0:Int) (x1:List Dt) (x2 x3 x4:Int):Option (Int×Int):=
 rec4 x0 x1 x2 (IntKind.wrap .i64 (x3+1)) x4
noncomputable def i43_j5 (m:Nat) (self43:Dt→Int→Int→Option (Int×Int)) (rec4:Int→List Dt→Int→Int→Int→Option (Int×Int)) (x0:Int) (x1:List Dt) (x2 x3 x4:Int):Option (Int×Int):=
  ((idx x1 x3).bind fun v1=>
    ((self43 v1 (IntKind.wrap .i64 (x0+1)) x4).bind fun r2=>
 (bif (r2.1 !=0) then
 some (r2.1,r2.2)
 else
 i43_j6 m self43 rec4 x0 x1 x2 x3 r2.2)))
noncomputable def i43_j7 (m:Nat) (self43:Dt→Int→Int→Option (Int×Int)) (x0:Int):Option (Int×Int):=
 some (0,x0)
noncomputable def i43_l4 (m:Nat) (self43:Dt→Int→Int→Option (Int×Int)):Nat→Int→List Dt→Int→Int→Int→Option (Int×Int)
 |0,_,_,_,_,_=>none
 |M4+1,x0,x1,x2,x3,x4=>
  (bif (decide (x3<x2)) then
  i43_j5 m self43 (i43_l4 m self43 M4) x0 x1 x2 x3 x4
 else
  i43_j7 m self43 x4)
noncomputable def i43_j3 (m:Nat) (self43:Dt→Int→Int→Option (Int×Int)) (x0:Int) (x1:List Dt) (x2 x3 x4:Int):Option (Int×Int):=
 i43_l4 m self43 (Nat.succ m) x0 x1 x2 x3 x4
noncomputable def i43_j2 (m:Nat) (self43:Dt→Int→Int→Option (Int×Int)) (x0 x1:Int) (x2:Dt):Option (Int×Int):=
 i43_j3 m self43 x0 (Dt.L x2 6) (List.length (Dt.L x2 6):Int) 0 x1
noncomputable def i43_j1 (m:Nat) (self43:Dt→Int→Int→Option (Int×Int)) (x0 x1:Int) (x2:Dt):Option (Int×Int):=
  ((expr_checkNode m x2).bind fun r0=>
    (bif (r0 !=0) then
 some (r0,(IntKind.wrap .i64 (x1+1)))
    else
 i43_j2 m self43 x0 (IntKind.wrap .i64 (x1+1)) x2))
noncomputable def i43_j0 (m:Nat) (self43:Dt→Int→Int→Option (Int×Int)) (x0:Int) (x1:Bool) (x2:Int) (x3:Dt):Option (Int×Int):=
 (bif x1 then
  some (2,x2)
 else
  i43_j1 m self43 x0 x2 x3)
noncomputable def i43:Nat→Dt→Int→Int→Option (Int×Int)
 |0,_,_,_=>none
 |m+1,a0,a1,a2=>
  (bif (decide (16<a1)) then
  i43_j0 m (i43 m) a1 true a2 a0
 else
  i43_j0 m (i43 m) a1 (a2==256) a2 a0)
noncomputable def expr_Valid:Nat→Dt→Option Int
 |0,_=>none
 |m+1,a0=>
  ((i43 m a0 1 0).bind fun r0=>
  some r0.1)
noncomputable def pipeline_validOut_j15 (m:Nat) (x0:Dt):Option Int:=
  (bif ((Dt.I x0 1)==24) then
   ((pipeline_unless m true 1).bind fun r2=>
 some r2)
  else
   ((pipeline_unless m (decide ((Dt.I x0 3)≤(Dt.I x0 4))) 1).bind fun r3=>
 some r3))
noncomputable def pipeline_validOut_j14 (m:Nat) (x0:Bool) (x1:Dt):Option Int:=
 (bif x0 then
  some 1
 else
  pipeline_validOut_j15 m x1)
noncomputable def pipeline_validOut_j13 (m:Nat) (x0:Dt):Option Int:=
  (bif (decide ((Dt.I x0 3)<(-4096))) then
   pipeline_validOut_j14 m true x0
  else
   (bif (decide (4096<(Dt.I x0 3))) then
 pipeline_validOut_j14 m true x0
   else
 (bif (decide ((Dt.I x0 4)<(-4096))) then
 pipeline_validOut_j14 m true x0
 else
 pipeline_validOut_j14 m (decide (4096<(Dt.I x0 4))) x0)))
noncomputable def pipeline_validOut_j12 (m:Nat) (x0:Bool) (x1:Dt):Option Int:=
  (bif (Bool.not x0) then
   ((expr_Valid m (Dt.fld x1 2)).bind fun r1=>
 (bif (r1 !=0) then
 some r1
 else
 pipeline_validOut_j13 m x1))
  else
   pipeline_validOut_j13 m x1)
noncomputable def pipeline_validOut_j11 (m:Nat) (x0 x1:Bool) (x2:Dt):Option Int:=
 (bif x1 then
  some 21
 else
  pipeline_validOut_j12 m x0 x2)
noncomputable def pipeline_validOut_j10 (m:Nat) (x0:Bool) (x1:Dt):Option Int:=
  (bif (Dt.B x1 5) then
   (bif ((Dt.I x1 3) !=0) then
 pipeline_validOut_j11 m x0 true x1
   else
 pipeline_validOut_j11 m x0 ((Dt.I x1 4) !=0) x1)
  else
   pipeline_validOut_j11 m x0 false x1)
noncomputable def pipeline_validOut_j9 (m:Nat) (x0 x1:Bool) (x2:Dt):Option Int:=
 (bif x1 then
  some 21
 else
  pipeline_validOut_j10 m x0 x2)
noncomputable def pipeline_validOut_j8 (m:Nat) (x0:Bool) (x1:Dt):Option Int:=
  (bif ((Dt.I x1 1)==24) then
   (bif ((Dt.I x1 4) !=0) then
 pipeline_validOut_j9 m x0 true x1
   else
 pipeline_validOut_j9 m x0 (Dt.B x1 5) x1)
  else
   pipeline_validOut_j9 m x0 false x1)
noncomputable def pipeline_validOut_j7 (m:Nat) (x0 x1:Bool) (x2:Dt):Option Int:=
 (bif x1 then
  some 21
 else
  pipeline_validOut_j8 m x0 x2)
noncomputable def pipeline_validOut_j6 (m:Nat) (x0 x1:Bool) (x2:Dt):Option Int:=
  (bif x0 then
   (bif ((Dt.I x2 3) !=0) then
 pipeline_validOut_j7 m x1 true x2
   else
 (bif ((Dt.I x2 4) !=0) then
 pipeline_validOut_j7 m x1 true x2
 else
 pipeline_validOut_j7 m x1 (Dt.B x2 5) x2))
  else
   pipeline_validOut_j7 m x1 false x2)
noncomputable def pipeline_validOut_j5 (m:Nat) (x0 x1 x2:Bool) (x3:Dt):Option Int:=
 (bif x2 then
  some 21
 else
  pipeline_validOut_j6 m x0 x1 x3)
noncomputable def pipeline_validOut_j4 (m:Nat) (x0 x1:Bool) (x2:Dt):Option Int:=
  (bif x1 then
   ((pipeline_zeroExpr m (Dt.fld x2 2)).bind fun r0=>
 pipeline_validOut_j5 m x0 x1 (Bool.not r0) x2)
  else
   pipeline_validOut_j5 m x0 x1 false x2)
noncomputable def pipeline_validOut_j3 (m:Nat) (x0:Bool) (x1:Dt):Option Int:=
 (bif x0 then
  pipeline_validOut_j4 m x0 true x1
 else
  pipeline_validOut_j4 m x0 ((Dt.I x1 1)==2) x1)
noncomputable def pipeline_validOut_j2 (m:Nat) (x0 x1:Bool) (x2:Dt):Option Int:=
 (bif x1 then
  some 11
 else
  pipeline_validOut_j3 m x0 x2)
noncomputable def pipeline_validOut_j1 (m:Nat) (x0 x1:Bool) (x2:Dt):Option Int:=
  (bif (Bool.not x1) then
   (bif (Bool.not x0) then
 pipeline_validOut_j2 m x0 ((Dt.I x2 1) !=24) x2
   else
 pipeline_validOut_j2 m x0 false x2)
  else
   pipeline_validOut_j2 m x0 false x2)
noncomputable def pipeline_validOut_j0 (m:Nat) (x0:Bool) (x1:Dt):Option Int:=
 (bif (decide (1≤(Dt.I x1 1))) then
  pipeline_validOut_j1 m x0 (decide ((Dt.I x1 1)≤8)) x1
 else
  pipeline_validOut_j1 m x0 false x1)
noncomputable def pipeline_validOut:Nat→Dt→Option Int
  |0,_=>none
  |m+1,a0=>
   (bif ((Dt.I a0 1)==21) then
   pipeline_validOut_j0 m true a0
  else
   (bif ((Dt.I a0 1)==22) then
 pipeline_validOut_j0 m true a0
   else
 pipeline_validOut_j0 m ((Dt.I a0 1)==23) a0))
noncomputable def pipeline_validWindow_j11 (m:Nat) (rec5:List Dt→Int→Int→Dt→Option Int) (rec9:List Dt→Int→Int→List Dt→Int→Int→Dt→Dt→Option Int) (x0:List Dt) (x1 x2:Int) (x3:List Dt) (x4 x5:Int) (x6 x7:Dt):Option Int:=
 rec9 x0 x1 x2 x3 x4 (IntKind.wrap .i64 (x5+1)) x6 x7
noncomputable def pipeline_validWindow_j10 (m:Nat) (rec5:List Dt→Int→Int→Dt→Option Int) (rec9:List Dt→Int→Int→List Dt→Int→Int→Dt→Dt→Option Int) (x0:List Dt) (x1 x2:Int) (x3:List Dt) (x4 x5:Int) (x6 x7:Dt):Option Int:=
  ((idx x3 x5).bind fun v5=>
    (bif ((ByteArray.toList (Dt.S v5 0))==(ByteArray.toList (Dt.S x7 0))) then
 some 9
    else
 pipeline_validWindow_j11 m rec5 rec9 x0 x1 x2 x3 x4 x5 x6 x7))
noncomputable def pipeline_validWindow_j13 (m:Nat) (rec5:List Dt→Int→Int→Dt→Option Int) (x0:List Dt) (x1 x2:Int) (x3:Dt):Option Int:=
 rec5 x0 x1 (IntKind.wrap .i64 (x2+1)) x3
noncomputable def pipeline_validWindow_j12 (m:Nat) (rec5:List Dt→Int→Int→Dt→Option Int) (x0:List Dt) (x1 x2:Int) (x3 x4:Dt):Option Int:=
  ((pipeline_validOut m x4).bind fun r6=>
    (bif (r6 !=0) then
 some r6
    else
 pipeline_validWindow_j13 m rec5 x0 x1 x2 x3))
noncomputable def pipeline_validWindow_l9 (m:Nat) (rec5:List Dt→Int→Int→Dt→Option Int):Nat→List Dt→Int→Int→List Dt→Int→Int→Dt→Dt→Option Int
 |0,_,_,_,_,_,_,_,_=>none
 |M9+1,x0,x1,x2,x3,x4,x5,x6,x7=>
  (bif (decide (x5<x4)) then
  pipeline_validWindow_j10 m rec5 (pipeline_validWindow_l9 m rec5 M9) x0 x1 x2 x3 x4 x5 x6 x7
 else
  pipeline_validWindow_j12 m rec5 x0 x1 x2 x6 x7)
noncomputable def pipeline_validWindow_j8 (m:Nat) (rec5:List Dt→Int→Int→Dt→Option Int) (x0:List Dt) (x1 x2:Int) (x3:List Dt) (x4 x5:Int) (x6 x7:Dt):Option Int:=
 pipeline_validWindow_l9 m rec5 (Nat.succ m) x0 x1 x2 x3 x4 x5 x6 x7
noncomputable def pipeline_validWindow_j7 (m:Nat) (rec5:List Dt→Int→Int→Dt→Option Int) (x0:Int) (x1:List Dt) (x2 x3:Int) (x4 x5:Dt):Option Int:=
 ((cutL (Dt.L x4 2) 0 x0).bind fun v4=>
   pipeline_validWindow_j8 m rec5 x1 x2 x3 v4 (List.length v4:Int) 0 x4 x5)
noncomputable def pipeline_validWindow_j6 (m:Nat) (rec5:List Dt→Int→Int→Dt→Option Int) (x0:List Dt) (x1 x2:Int) (x3:Dt):Option Int:=
  ((idx x0 x2).bind fun v2=>
    ((pipeline_isOutput m (Dt.S v2 0)).bind fun r3=>
 (bif (Bool.not r3) then
 some 9
 else
 pipeline_validWindow_j7 m rec5 x2 x0 x1 x2 x3 v2)))
noncomputable def pipeline_validWindow_j14 (m:Nat):Option Int:=
 some 0
noncomputable def pipeline_validWindow_l5 (m:Nat):Nat→List Dt→Int→Int→Dt→Option Int
 |0,_,_,_,_=>none
 |M5+1,x0,x1,x2,x3=>
  (bif (decide (x2<x1)) then
  pipeline_validWindow_j6 m (pipeline_validWindow_l5 m M5) x0 x1 x2 x3
 else
  pipeline_validWindow_j14 m)
noncomputable def pipeline_validWindow_j4 (m:Nat) (x0:List Dt) (x1 x2:Int) (x3:Dt):Option Int:=
 pipeline_validWindow_l5 m (Nat.succ m) x0 x1 x2 x3
noncomputable def pipeline_validWindow_j3 (m:Nat) (x0:Dt):Option Int:=
 pipeline_validWindow_j4 m (Dt.L x0 2) (List.length (Dt.L x0 2):Int) 0 x0
noncomputable def pipeline_validWindow_j2 (m:Nat) (x0:Bool) (x1:Dt):Option Int:=
 (bif x0 then
  some 21
 else
  pipeline_validWindow_j3 m x1)
noncomputable def pipeline_validWindow_j1 (m:Nat) (x0:Dt):Option Int:=
 (bif (decide ((List.length (Dt.L x0 2):Int)<1)) then
  pipeline_validWindow_j2 m true x0
 else
  pipeline_validWindow_j2 m (decide (32<(List.length (Dt.L x0 2):Int))) x0)
noncomputable def pipeline_validWindow_j0 (m:Nat) (x0:Dt):Option Int:=
  ((order_Valid m (Dt.L x0 1)).bind fun r1=>
    (bif (r1 !=0) then
 some r1
    else
 pipeline_validWindow_j1 m x0))
noncomputable def pipeline_validWindow:Nat→Dt→Option Int
  |0,_=>none
  |m+1,a0=>
   ((expr_Valid m (Dt.fld a0 0)).bind fun r0=>
   (bif (r0 !=0) then
 some r0
   else
 pipeline_validWindow_j0 m a0))
noncomputable def pipeline_conditions_j0 (m:Nat) (x0:Dt):Option Int:=
 ((order_Valid m (Dt.L x0 4)).bind fun r3=>
   some r3)
noncomputable def pipeline_conditions_j1 (m:Nat) (x0:Dt):Option Int:=
  (bif ((ByteArray.toList (Dt.S x0 7))==[]) then
   ((pipeline_unless m true 9).bind fun r7=>
 some r7)
  else
   ((pipeline_isOutput m (Dt.S x0 7)).bind fun r8=>
 ((pipeline_unless m r8 9).bind fun r9=>
 some r9)))
noncomputable def pipeline_conditions_j4 (m:Nat):Option Int:=
 some 21
noncomputable def pipeline_conditions_j3 (m:Nat) (x0:Int) (x1:Bool) (x2:Dt):Option Int:=
  (bif x1 then
   ((expr_Valid m (Dt.fld x2 9)).bind fun r17=>
 some r17)
  else
   (bif (x0==17) then
 ((nearN x2).bind fun r18=>
 some r18)
   else
 (bif (x0==18) then
 ((mergeN (Dt.fld x2 15)).bind fun r19=>
 some r19)
 else
 pipeline_conditions_j4 m)))
noncomputable def pipeline_conditions_j2 (m:Nat) (x0:Int) (x1:Bool) (x2:Dt):Option Int:=
  (bif x1 then
   ((lookN (Dt.I x2 0) (Dt.fld x2 12)).bind fun r12=>
 some r12)
  else
   (bif (x0==11) then
 ((facetN (Dt.L x2 13)).bind fun r13=>
 some r13)
   else
 (bif (x0==12) then
 ((buckN x2).bind fun r14=>
 some r14)
 else
 (bif (x0==13) then
 ((pipeline_isOutput m (Dt.S x2 7)).bind fun r15=>
 ((pipeline_unless m r15 9).bind fun r16=>
 some r16))
 else
 (bif (x0==14) then
 pipeline_conditions_j3 m x0 (x0==14) x2
 else
 pipeline_conditions_j3 m x0 (x0==16) x2)))))
noncomputable def pipeline_conditions:Nat→Dt→Option Int
  |0,_=>none
  |m+1,a0=>
   (bif ((Dt.I a0 0)==1) then
   ((predN (Dt.fld a0 1)).bind fun r0=>
 some r0)
  else
   (bif ((Dt.I a0 0)==2) then
 ((projN (Dt.fld a0 2)).bind fun r1=>
 some r1)
   else
 (bif ((Dt.I a0 0)==3) then
 ((setsN (Dt.L a0 3)).bind fun r2=>
 some r2)
 else
 (bif ((Dt.I a0 0)==4) then
 (bif ((List.length (Dt.L a0 4):Int)==0) then
 some 21
 else
 pipeline_conditions_j0 m a0)
 else
 (bif ((Dt.I a0 0)==5) then
 ((pipeline_unless m (decide (0≤(Dt.I a0 5))) 1).bind fun r4=>
 some r4)
 else
 (bif ((Dt.I a0 0)==6) then
 ((pipeline_unless m (decide (1≤(Dt.I a0 5))) 1).bind fun r5=>
 some r5)
 else
 (bif ((Dt.I a0 0)==7) then
 ((path_Valid m (Dt.L a0 6)).bind fun r6=>
 (bif (Bool.not r6) then
 some 10
 else
 pipeline_conditions_j1 m a0))
 else
 (bif ((Dt.I a0 0)==8) then
 ((groupN (Dt.fld a0 10)).bind fun r10=>
 some r10)
 else
 (bif ((Dt.I a0 0)==9) then
 ((pipeline_validWindow m (Dt.fld a0 11)).bind fun r11=>
 some r11)
 else
 (bif ((Dt.I a0 0)==10) then
 pipeline_conditions_j2 m (Dt.I a0 0) ((Dt.I a0 0)==10) a0
 else
 pipeline_conditions_j2 m (Dt.I a0 0) ((Dt.I a0 0)==15) a0))))))))))
noncomputable def pipeline_check_j8 (m:Nat) (rec1:List Dt→Bool→List Dt→Int→Int→Option Int) (x0:List Dt) (x1:Bool) (x2:List Dt) (x3 x4:Int):Option Int:=
 rec1 x0 x1 x2 x3 (IntKind.wrap .i64 (x4+1))
noncomputable def pipeline_check_j7 (m:Nat) (rec1:List Dt→Bool→List Dt→Int→Int→Option Int) (x0:List Dt) (x1:Bool) (x2:List Dt) (x3 x4:Int) (x5:Dt):Option Int:=
  ((pipeline_conditions m x5).bind fun r2=>
    (bif (r2 !=0) then
 some r2
    else
 pipeline_check_j8 m rec1 x0 x1 x2 x3 x4))
noncomputable def pipeline_check_j6 (m:Nat) (rec1:List Dt→Bool→List Dt→Int→Int→Option Int) (x0:List Dt) (x1:Bool) (x2:List Dt) (x3 x4:Int) (x5:Dt):Option Int:=
  ((usedC x5).bind fun r1=>
    (bif (Bool.not r1) then
 some 21
    else
 pipeline_check_j7 m rec1 x0 x1 x2 x3 x4 x5))
noncomputable def pipeline_check_j5 (m:Nat) (rec1:List Dt→Bool→List Dt→Int→Int→Option Int) (x0:List Dt) (x1:Bool) (x2:List Dt) (x3 x4:Int) (x5:Bool) (x6:Dt):Option Int:=
 (bif x5 then
  some 21
 else
  pipeline_check_j6 m rec1 x0 x1 x2 x3 x4 x6)
noncomputable def pipeline_check_j4 (m:Nat) (rec1:List Dt→Bool→List Dt→Int→Int→Option Int) (x0:List Dt) (x1:Bool) (x2:Int) (x3:List Dt) (x4 x5:Int) (x6:Dt):Option Int:=
  (bif ((Dt.I x6 0)==18) then
   (bif x1 then
 pipeline_check_j5 m rec1 x0 x1 x3 x4 x5 (Bool.not (x2==(IntKind.wrap .i64 ((List.length x0:Int)-1)))) x6
   else
 pipeline_check_j5 m rec1 x0 x1 x3 x4 x5 true x6)
  else
   pipeline_check_j5 m rec1 x0 x1 x3 x4 x5 false x6)
noncomputable def pipeline_check_j3 (m:Nat) (rec1:List Dt→Bool→List Dt→Int→Int→Option Int) (x0:List Dt) (x1:Bool) (x2:Int) (x3:List Dt) (x4 x5:Int) (x6:Bool) (x7:Dt):Option Int:=
 (bif x6 then
  some 21
 else
  pipeline_check_j4 m rec1 x0 x1 x2 x3 x4 x5 x7)
noncomputable def pipeline_check_j2 (m:Nat) (rec1:List Dt→Bool→List Dt→Int→Int→Option Int) (x0:List Dt) (x1:Bool) (x2:List Dt) (x3 x4:Int):Option Int:=
  ((idx x2 x4).bind fun v0=>
    (bif (decide ((Dt.I v0 0)<1)) then
 pipeline_check_j3 m rec1 x0 x1 x4 x2 x3 x4 true v0
    else
 pipeline_check_j3 m rec1 x0 x1 x4 x2 x3 x4 (decide (18<(Dt.I v0 0))) v0))
noncomputable def pipeline_check_j9 (m:Nat):Option Int:=
 some 0
noncomputable def pipeline_check_l1 (m:Nat):Nat→List Dt→Bool→List Dt→Int→Int→Option Int
 |0,_,_,_,_,_=>none
 |M1+1,x0,x1,x2,x3,x4=>
  (bif (decide (x4<x3)) then
  pipeline_check_j2 m (pipeline_check_l1 m M1) x0 x1 x2 x3 x4
 else
  pipeline_check_j9 m)
noncomputable def pipeline_check_j0 (m:Nat) (x0:List Dt) (x1:Bool) (x2:List Dt) (x3 x4:Int):Option Int:=
 pipeline_check_l1 m (Nat.succ m) x0 x1 x2 x3 x4
noncomputable def pipeline_check:Nat→List Dt→Bool→Option Int
 |0,_,_=>none
 |m+1,a0,a1=>
  pipeline_check_j0 m a0 a1 a0 (List.length a0:Int) 0
noncomputable def pipeline_Valid_j0 (m:Nat) (x0:List Dt):Option Int:=
 ((pipeline_check m x0 true).bind fun r1=>
   some r1)
noncomputable def pipeline_Valid:Nat→List Dt→Option Int
  |0,_=>none
  |m+1,a0=>
   ((i6 m a0 1 0).bind fun r0=>
   (bif r0.1 then
 some 2
   else
 pipeline_Valid_j0 m a0))
noncomputable def window_Valid:Nat→Dt→Option Int
 |0,_=>none
 |m+1,a0=>
  ((pipeline_Valid m [(Dt.agg [(Dt.int 9),kz51b50,kzf26c7,(Dt.lst []),(Dt.lst []),(Dt.int 0),(Dt.lst []),(Dt.str (ByteArray.mk (List.toArray []))),(Dt.bool false),kz6c2a1,kzb6b16,a0,kz26949,(Dt.lst []),(Dt.lst []),kz7372b,kzc83f1])]).bind fun r0=>
  some r0)
noncomputable def law34_WindowValids:Nat→Dt→Option Bool
  |0,_=>none
  |m+1,a0=>
   ((window_Valid m a0).bind fun r0=>
   ((ref34_Valid m a0).bind fun r1=>
 (bif (r0==r1) then
 ((awakeC).bind fun r2=>
 some r2)
 else
 some false)))
end Go.Proofs.YtbailjcjlapenaaGreatDoor
