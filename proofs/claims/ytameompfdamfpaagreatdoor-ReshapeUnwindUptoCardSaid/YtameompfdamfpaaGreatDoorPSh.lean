/- Generated: what the Go functions compute, over plain data. -/
import Derived.Test.YtameompfdamfpaaGreatDoorAmF
set_option linter.unusedVariables false
set_option linter.unusedSimpArgs false
namespace Go.Proofs.YtameompfdamfpaaGreatDoor.P1
open Go.Am
noncomputable def path_Number_j7 (m:Nat) (rec3:ByteArray→Int→Int→Int→Option (Int×Bool)) (x0:ByteArray) (x1 x2 x3:Int):Option (Int×Bool):=
 rec3 x0 x1 x2 (IntKind.wrap .i64 (x3+1))
noncomputable def path_Number_j6 (m:Nat) (rec3:ByteArray→Int→Int→Int→Option (Int×Bool)) (x0:ByteArray) (x1 x2 x3 x4:Int):Option (Int×Bool):=
 ((idxS x0 x2).bind fun v1=>
   path_Number_j7 m rec3 x0 (IntKind.wrap .i64 ((IntKind.wrap .i64 (10*x1))+(IntKind.wrap .i64 (IntKind.wrap IntKind.u8 (v1-48))))) x3 x4)
noncomputable def path_Number_j5 (m:Nat) (rec3:ByteArray→Int→Int→Int→Option (Int×Bool)) (x0:ByteArray) (x1 x2 x3 x4:Int) (x5:Bool):Option (Int×Bool):=
 (bif x5 then
  some (0,false)
 else
  path_Number_j6 m rec3 x0 x1 x2 x3 x4)
noncomputable def path_Number_j4 (m:Nat) (rec3:ByteArray→Int→Int→Int→Option (Int×Bool)) (x0:ByteArray) (x1 x2 x3:Int):Option (Int×Bool):=
  ((idxS x0 x3).bind fun v0=>
    (bif (decide (v0<48)) then
 path_Number_j5 m rec3 x0 x1 x3 x2 x3 true
    else
 ((idxS x0 x3).bind fun v2=>
 path_Number_j5 m rec3 x0 x1 x3 x2 x3 (decide (57<v2)))))
noncomputable def path_Number_j8 (m:Nat) (x0:Int):Option (Int×Bool):=
 some (x0,true)
noncomputable def path_Number_l3 (m:Nat):Nat→ByteArray→Int→Int→Int→Option (Int×Bool)
 |0,_,_,_,_=>none
 |M3+1,x0,x1,x2,x3=>
  (bif (decide (x3<x2)) then
  path_Number_j4 m (path_Number_l3 m M3) x0 x1 x2 x3
 else
  path_Number_j8 m x1)
noncomputable def path_Number_j2 (m:Nat) (x0:ByteArray) (x1 x2 x3:Int):Option (Int×Bool):=
 path_Number_l3 m (Nat.succ m) x0 x1 x2 x3
noncomputable def path_Number_j1 (m:Nat) (x0:ByteArray):Option (Int×Bool):=
 path_Number_j2 m x0 0 (ByteArray.size x0:Int) 0
noncomputable def path_Number_j0 (m:Nat) (x0:ByteArray) (x1:Bool):Option (Int×Bool):=
 (bif x1 then
  some (0,false)
 else
  path_Number_j1 m x0)
noncomputable def path_Number:Nat→ByteArray→Option (Int×Bool)
  |0,_=>none
  |m+1,a0=>
   (bif (decide ((ByteArray.size a0:Int)<1)) then
   path_Number_j0 m a0 true
  else
   (bif (decide (4<(ByteArray.size a0:Int))) then
 path_Number_j0 m a0 true
   else
 ((idxS a0 0).bind fun v3=>
 (bif (v3==48) then
 path_Number_j0 m a0 (decide (1<(ByteArray.size a0:Int)))
 else
 path_Number_j0 m a0 false))))
noncomputable def path_field_j3 (m:Nat) (rec1:List Dt→ByteArray→Int→Int→Option Int) (x0:List Dt) (x1:ByteArray) (x2 x3:Int):Option Int:=
 rec1 x0 x1 x2 (IntKind.wrap .i64 (x3+1))
noncomputable def path_field_j2 (m:Nat) (rec1:List Dt→ByteArray→Int→Int→Option Int) (x0:List Dt) (x1:ByteArray) (x2 x3:Int):Option Int:=
  ((idx x0 x3).bind fun v0=>
    (bif ((ByteArray.toList (Dt.S v0 0))==(ByteArray.toList x1)) then
 some x3
    else
 path_field_j3 m rec1 x0 x1 x2 x3))
noncomputable def path_field_j4 (m:Nat):Option Int:=
 some (-1)
noncomputable def path_field_l1 (m:Nat):Nat→List Dt→ByteArray→Int→Int→Option Int
 |0,_,_,_,_=>none
 |M1+1,x0,x1,x2,x3=>
  (bif (decide (x3<x2)) then
  path_field_j2 m (path_field_l1 m M1) x0 x1 x2 x3
 else
  path_field_j4 m)
noncomputable def path_field_j0 (m:Nat) (x0:List Dt) (x1:ByteArray) (x2 x3:Int):Option Int:=
 path_field_l1 m (Nat.succ m) x0 x1 x2 x3
noncomputable def path_field:Nat→List Dt→ByteArray→Option Int
 |0,_,_=>none
 |m+1,a0,a1=>
  path_field_j0 m a0 a1 (List.length a0:Int) 0
noncomputable def path_notName_j6 (m:Nat) (rec3:ByteArray→Int→Int→Option Bool) (x0:ByteArray) (x1 x2:Int):Option Bool:=
 rec3 x0 x1 (IntKind.wrap .i64 (x2+1))
noncomputable def path_notName_j5 (m:Nat) (rec3:ByteArray→Int→Int→Option Bool) (x0:ByteArray) (x1 x2:Int) (x3:Bool):Option Bool:=
 (bif x3 then
  some true
 else
  path_notName_j6 m rec3 x0 x1 x2)
noncomputable def path_notName_j4 (m:Nat) (rec3:ByteArray→Int→Int→Option Bool) (x0:ByteArray) (x1 x2:Int):Option Bool:=
  ((idxS x0 x2).bind fun v0=>
    (bif (decide (v0<33)) then
 path_notName_j5 m rec3 x0 x1 x2 true
    else
 ((idxS x0 x2).bind fun v1=>
 (bif (decide (126<v1)) then
 path_notName_j5 m rec3 x0 x1 x2 true
 else
 ((idxS x0 x2).bind fun v2=>
 path_notName_j5 m rec3 x0 x1 x2 (v2==46))))))
noncomputable def path_notName_j7 (m:Nat):Option Bool:=
 some false
noncomputable def path_notName_l3 (m:Nat):Nat→ByteArray→Int→Int→Option Bool
 |0,_,_,_=>none
 |M3+1,x0,x1,x2=>
  (bif (decide (x2<x1)) then
  path_notName_j4 m (path_notName_l3 m M3) x0 x1 x2
 else
  path_notName_j7 m)
noncomputable def path_notName_j2 (m:Nat) (x0:ByteArray) (x1 x2:Int):Option Bool:=
 path_notName_l3 m (Nat.succ m) x0 x1 x2
noncomputable def path_notName_j1 (m:Nat) (x0:ByteArray):Option Bool:=
 path_notName_j2 m x0 (ByteArray.size x0:Int) 0
noncomputable def path_notName_j0 (m:Nat) (x0:ByteArray) (x1:Bool):Option Bool:=
 (bif x1 then
  some true
 else
  path_notName_j1 m x0)
noncomputable def path_notName:Nat→ByteArray→Option Bool
  |0,_=>none
  |m+1,a0=>
   (bif (decide ((ByteArray.size a0:Int)<1)) then
   path_notName_j0 m a0 true
  else
   (bif (decide (32<(ByteArray.size a0:Int))) then
 path_notName_j0 m a0 true
   else
 ((idxS a0 0).bind fun v3=>
 path_notName_j0 m a0 (v3==36))))
noncomputable def i4_j3 (m:Nat) (rec1:List Dt→Int→Int→Option Int) (x0:List Dt) (x1 x2:Int):Option Int:=
 rec1 x0 x1 (IntKind.wrap .i64 (x2+1))
noncomputable def i4_j2 (m:Nat) (rec1:List Dt→Int→Int→Option Int) (x0:List Dt) (x1 x2:Int):Option Int:=
  ((idx x0 x2).bind fun v0=>
    ((path_notName m (Dt.toStr v0)).bind fun r1=>
 (bif r1 then
 some x2
 else
 i4_j3 m rec1 x0 x1 x2)))
noncomputable def i4_j4 (m:Nat):Option Int:=
 some (-1)
noncomputable def i4_l1 (m:Nat):Nat→List Dt→Int→Int→Option Int
 |0,_,_,_=>none
 |M1+1,x0,x1,x2=>
  (bif (decide (x2<x1)) then
  i4_j2 m (i4_l1 m M1) x0 x1 x2
 else
  i4_j4 m)
noncomputable def i4_j0 (m:Nat) (x0:List Dt) (x1 x2:Int):Option Int:=
 i4_l1 m (Nat.succ m) x0 x1 x2
noncomputable def i4:Nat→List Dt→Option Int
 |0,_=>none
 |m+1,a0=>
  i4_j0 m a0 (List.length a0:Int) 0
noncomputable def i3:Nat→List Dt→Option Bool
 |0,_=>none
 |m+1,a0=>
  ((i4 m a0).bind fun r0=>
  some (decide (0≤r0)))
noncomputable def path_Valid:Nat→List Dt→Option Bool
  |0,_=>none
  |m+1,a0=>
   (bif (decide (1≤(List.length a0:Int))) then
   (bif (decide ((List.length a0:Int)≤16)) then
 ((i3 m a0).bind fun r0=>
 some (Bool.not r0))
   else
 some false)
  else
   some false)
end Go.Proofs.YtameompfdamfpaaGreatDoor.P1
