/- Generated: what the Go functions compute, over plain data. -/
import Derived.Test.YtpifchdngodgjaaGreatDoorAm20
import Derived.Test.YtpifchdngodgjaaGreatDoorOAwake
import Derived.Test.YtpifchdngodgjaaGreatDoorOLibS
set_option linter.unusedVariables false
set_option linter.unusedSimpArgs false
namespace Go.Proofs.YtpifchdngodgjaaGreatDoor
open Go.Am
def kzcda49:Dt:=Dt.agg [(Dt.str (ByteArray.mk (List.toArray []))),(Dt.agg [(Dt.int 0),(Dt.int 0),(Dt.str (ByteArray.mk (List.toArray []))),(Dt.lst []),(Dt.lst [])])]
def kza2373:Dt:=Dt.agg [(Dt.int 0),(Dt.int 0),(Dt.str (ByteArray.mk (List.toArray []))),(Dt.lst []),(Dt.lst [])]
def kz3c25e:Dt:=Dt.agg [(Dt.int 2),(Dt.int 0),(Dt.str (ByteArray.mk (List.toArray []))),(Dt.lst []),(Dt.lst [])]
def kzd6e5e:Dt:=Dt.agg [(Dt.agg [(Dt.int 0),(Dt.int 0),(Dt.str (ByteArray.mk (List.toArray []))),(Dt.lst []),(Dt.lst [])]),(Dt.lst [])]
noncomputable def qJ_j5 (m:Nat) (self13:Dt→Dt→Option Bool) (rec3:Int→Dt→Dt→Option Bool) (x0:Int) (x1 x2:Dt):Option Bool:=
 rec3 (IntKind.wrap .i64 (x0+1)) x1 x2
noncomputable def qJ_j4 (m:Nat) (self13:Dt→Dt→Option Bool) (rec3:Int→Dt→Dt→Option Bool) (x0:Int) (x1 x2:Dt):Option Bool:=
  ((idx (Dt.L x1 3) x0).bind fun v0=>
    ((idx (Dt.L x2 3) x0).bind fun v1=>
 ((self13 v0 v1).bind fun r2=>
 (bif (Bool.not r2) then
 some false
 else
 qJ_j5 m self13 rec3 x0 x1 x2))))
noncomputable def qJ_j11 (m:Nat) (self13:Dt→Dt→Option Bool) (rec8:Int→Dt→Dt→Option Bool) (x0:Int) (x1 x2:Dt):Option Bool:=
 rec8 (IntKind.wrap .i64 (x0+1)) x1 x2
noncomputable def qJ_j10 (m:Nat) (self13:Dt→Dt→Option Bool) (rec8:Int→Dt→Dt→Option Bool) (x0:Int) (x1:Bool) (x2 x3:Dt):Option Bool:=
 (bif x1 then
  some false
 else
  qJ_j11 m self13 rec8 x0 x2 x3)
noncomputable def qJ_j9 (m:Nat) (self13:Dt→Dt→Option Bool) (rec8:Int→Dt→Dt→Option Bool) (x0:Int) (x1 x2:Dt):Option Bool:=
  ((idx (Dt.L x1 4) x0).bind fun v3=>
    ((idx (Dt.L x2 4) x0).bind fun v4=>
 (bif (Bool.not ((ByteArray.toList (Dt.S v3 0))==(ByteArray.toList (Dt.S v4 0)))) then
 qJ_j10 m self13 rec8 x0 true x1 x2
 else
 ((idx (Dt.L x1 4) x0).bind fun v5=>
 ((idx (Dt.L x2 4) x0).bind fun v6=>
 ((self13 (Dt.fld v5 1) (Dt.fld v6 1)).bind fun r7=>
 qJ_j10 m self13 rec8 x0 (Bool.not r7) x1 x2))))))
noncomputable def qJ_j12 (m:Nat) (self13:Dt→Dt→Option Bool):Option Bool:=
 some true
noncomputable def qJ_l8 (m:Nat) (self13:Dt→Dt→Option Bool):Nat→Int→Dt→Dt→Option Bool
 |0,_,_,_=>none
 |M8+1,x0,x1,x2=>
  (bif (decide (x0<(List.length (Dt.L x1 4):Int))) then
  qJ_j9 m self13 (qJ_l8 m self13 M8) x0 x1 x2
 else
  qJ_j12 m self13)
noncomputable def qJ_j7 (m:Nat) (self13:Dt→Dt→Option Bool) (x0:Int) (x1 x2:Dt):Option Bool:=
 qJ_l8 m self13 (Nat.succ m) x0 x1 x2
noncomputable def qJ_j6 (m:Nat) (self13:Dt→Dt→Option Bool) (x0 x1:Dt):Option Bool:=
 qJ_j7 m self13 0 x0 x1
noncomputable def qJ_l3 (m:Nat) (self13:Dt→Dt→Option Bool):Nat→Int→Dt→Dt→Option Bool
 |0,_,_,_=>none
 |M3+1,x0,x1,x2=>
  (bif (decide (x0<(List.length (Dt.L x1 3):Int))) then
  qJ_j4 m self13 (qJ_l3 m self13 M3) x0 x1 x2
 else
  qJ_j6 m self13 x1 x2)
noncomputable def qJ_j2 (m:Nat) (self13:Dt→Dt→Option Bool) (x0:Int) (x1 x2:Dt):Option Bool:=
 qJ_l3 m self13 (Nat.succ m) x0 x1 x2
noncomputable def qJ_j1 (m:Nat) (self13:Dt→Dt→Option Bool) (x0 x1:Dt):Option Bool:=
 qJ_j2 m self13 0 x0 x1
noncomputable def qJ_j0 (m:Nat) (self13:Dt→Dt→Option Bool) (x0:Bool) (x1 x2:Dt):Option Bool:=
 (bif x0 then
  some false
 else
  qJ_j1 m self13 x1 x2)
noncomputable def qJ:Nat→Dt→Dt→Option Bool
  |0,_,_=>none
  |m+1,a0,a1=>
   (bif ((Dt.I a0 0) !=(Dt.I a1 0)) then
   qJ_j0 m (qJ m) true a0 a1
  else
   (bif ((Dt.I a0 1) !=(Dt.I a1 1)) then
 qJ_j0 m (qJ m) true a0 a1
   else
 (bif (Bool.not ((ByteArray.toList (Dt.S a0 2))==(ByteArray.toList (Dt.S a1 2)))) then
 qJ_j0 m (qJ m) true a0 a1
 else
 (bif ((List.length (Dt.L a0 3):Int) !=(List.length (Dt.L a1 3):Int)) then
 qJ_j0 m (qJ m) true a0 a1
 else
 qJ_j0 m (qJ m) ((List.length (Dt.L a0 4):Int) !=(List.length (Dt.L a1 4):Int)) a0 a1))))
noncomputable def z7:Nat→List Dt→List Dt→Option Bool
 |0,_,_=>none
 |m+1,a0,a1=>
  ((qJ m (Dt.agg [(Dt.int 6),(Dt.int 0),(Dt.str (ByteArray.mk (List.toArray []))),(Dt.lst a0),(Dt.lst [])]) (Dt.agg [(Dt.int 6),(Dt.int 0),(Dt.str (ByteArray.mk (List.toArray []))),(Dt.lst a1),(Dt.lst [])])).bind fun r0=>
  some r0)
noncomputable def zO_j4 (m:Nat) (rec2:List Dt→List Dt→Int→Option Bool) (x0 x1:List Dt) (x2:Int):Option Bool:=
 rec2 x0 x1 (IntKind.wrap .i64 (x2+1))
noncomputable def zO_j3 (m:Nat) (rec2:List Dt→List Dt→Int→Option Bool) (x0 x1:List Dt) (x2:Int):Option Bool:=
  ((idx x0 x2).bind fun v0=>
    ((idx x1 x2).bind fun v1=>
 (bif (Bool.not ((ByteArray.toList (Dt.toStr v0))==(ByteArray.toList (Dt.toStr v1)))) then
 some false
 else
 zO_j4 m rec2 x0 x1 x2)))
noncomputable def zO_j5 (m:Nat):Option Bool:=
 some true
noncomputable def zO_l2 (m:Nat):Nat→List Dt→List Dt→Int→Option Bool
 |0,_,_,_=>none
 |M2+1,x0,x1,x2=>
  (bif (decide (x2<(List.length x0:Int))) then
  zO_j3 m (zO_l2 m M2) x0 x1 x2
 else
  zO_j5 m)
noncomputable def zO_j1 (m:Nat) (x0 x1:List Dt) (x2:Int):Option Bool:=
 zO_l2 m (Nat.succ m) x0 x1 x2
noncomputable def zO_j0 (m:Nat) (x0 x1:List Dt):Option Bool:=
 zO_j1 m x0 x1 0
noncomputable def zO:Nat→List Dt→List Dt→Option Bool
 |0,_,_=>none
 |m+1,a0,a1=>
  (bif ((List.length a0:Int) !=(List.length a1:Int)) then
  some false
 else
  zO_j0 m a0 a1)
noncomputable def qT_j6 (m:Nat) (rec3:ByteArray→Int→Option Bool) (x0:ByteArray) (x1:Int):Option Bool:=
 rec3 x0 (IntKind.wrap .i64 (x1+1))
noncomputable def qT_j5 (m:Nat) (rec3:ByteArray→Int→Option Bool) (x0:ByteArray) (x1:Int) (x2:Bool):Option Bool:=
 (bif x2 then
  some false
 else
  qT_j6 m rec3 x0 x1)
noncomputable def qT_j4 (m:Nat) (rec3:ByteArray→Int→Option Bool) (x0:ByteArray) (x1:Int):Option Bool:=
  ((idxS x0 x1).bind fun v0=>
    (bif (decide (v0<33)) then
 qT_j5 m rec3 x0 x1 true
    else
 ((idxS x0 x1).bind fun v1=>
 (bif (decide (126<v1)) then
 qT_j5 m rec3 x0 x1 true
 else
 ((idxS x0 x1).bind fun v2=>
 qT_j5 m rec3 x0 x1 (v2==46))))))
noncomputable def qT_j7 (m:Nat):Option Bool:=
 some true
noncomputable def qT_l3 (m:Nat):Nat→ByteArray→Int→Option Bool
 |0,_,_=>none
 |M3+1,x0,x1=>
  (bif (decide (x1<(ByteArray.size x0:Int))) then
  qT_j4 m (qT_l3 m M3) x0 x1
 else
  qT_j7 m)
noncomputable def qT_j2 (m:Nat) (x0:ByteArray) (x1:Int):Option Bool:=
 qT_l3 m (Nat.succ m) x0 x1
noncomputable def qT_j1 (m:Nat) (x0:ByteArray):Option Bool:=
 qT_j2 m x0 0
noncomputable def qT_j0 (m:Nat) (x0:ByteArray) (x1:Bool):Option Bool:=
 (bif x1 then
  some false
 else
  qT_j1 m x0)
noncomputable def qT:Nat→ByteArray→Option Bool
  |0,_=>none
  |m+1,a0=>
   (bif (decide ((ByteArray.size a0:Int)<1)) then
   qT_j0 m a0 true
  else
   (bif (decide (32<(ByteArray.size a0:Int))) then
 qT_j0 m a0 true
   else
 ((idxS a0 0).bind fun v3=>
 qT_j0 m a0 (v3==36))))
noncomputable def zC_j5 (m:Nat) (rec3:List Dt→Int→Option Bool) (x0:List Dt) (x1:Int):Option Bool:=
 rec3 x0 (IntKind.wrap .i64 (x1+1))
noncomputable def zC_j4 (m:Nat) (rec3:List Dt→Int→Option Bool) (x0:List Dt) (x1:Int):Option Bool:=
  ((idx x0 x1).bind fun v0=>
    ((qT m (Dt.toStr v0)).bind fun r1=>
 (bif (Bool.not r1) then
 some false
 else
 zC_j5 m rec3 x0 x1)))
noncomputable def zC_j6 (m:Nat):Option Bool:=
 some true
noncomputable def zC_l3 (m:Nat):Nat→List Dt→Int→Option Bool
 |0,_,_=>none
 |M3+1,x0,x1=>
  (bif (decide (x1<(List.length x0:Int))) then
  zC_j4 m (zC_l3 m M3) x0 x1
 else
  zC_j6 m)
noncomputable def zC_j2 (m:Nat) (x0:List Dt) (x1:Int):Option Bool:=
 zC_l3 m (Nat.succ m) x0 x1
noncomputable def zC_j1 (m:Nat) (x0:List Dt):Option Bool:=
 zC_j2 m x0 0
noncomputable def zC_j0 (m:Nat) (x0:List Dt) (x1:Bool):Option Bool:=
 (bif x1 then
  some false
 else
  zC_j1 m x0)
noncomputable def zC:Nat→List Dt→Option Bool
 |0,_=>none
 |m+1,a0=>
  (bif (decide ((List.length a0:Int)<1)) then
  zC_j0 m a0 true
 else
  zC_j0 m a0 (decide (16<(List.length a0:Int))))
noncomputable def qS_j8 (m:Nat) (rec2:List Dt→Int→Option Int) (rec6:List Dt→Int→Int→Option Int) (x0:List Dt) (x1 x2:Int):Option Int:=
 rec6 x0 x1 (IntKind.wrap .i64 (x2+1))
noncomputable def qS_j7 (m:Nat) (rec2:List Dt→Int→Option Int) (rec6:List Dt→Int→Int→Option Int) (x0:List Dt) (x1 x2:Int):Option Int:=
  ((idx x0 x1).bind fun v2=>
    ((idx x0 x2).bind fun v3=>
 ((zO m (Dt.L v2 0) (Dt.L v3 0)).bind fun r4=>
 (bif r4 then
 some 12
 else
 qS_j8 m rec2 rec6 x0 x1 x2))))
noncomputable def qS_j9 (m:Nat) (rec2:List Dt→Int→Option Int) (x0:List Dt) (x1:Int):Option Int:=
 rec2 x0 (IntKind.wrap .i64 (x1+1))
noncomputable def qS_l6 (m:Nat) (rec2:List Dt→Int→Option Int):Nat→List Dt→Int→Int→Option Int
 |0,_,_,_=>none
 |M6+1,x0,x1,x2=>
  (bif (decide (x2<x1)) then
  qS_j7 m rec2 (qS_l6 m rec2 M6) x0 x1 x2
 else
  qS_j9 m rec2 x0 x1)
noncomputable def qS_j5 (m:Nat) (rec2:List Dt→Int→Option Int) (x0:List Dt) (x1 x2:Int):Option Int:=
 qS_l6 m rec2 (Nat.succ m) x0 x1 x2
noncomputable def qS_j4 (m:Nat) (rec2:List Dt→Int→Option Int) (x0:List Dt) (x1:Int):Option Int:=
 qS_j5 m rec2 x0 x1 0
noncomputable def qS_j3 (m:Nat) (rec2:List Dt→Int→Option Int) (x0:List Dt) (x1:Int):Option Int:=
  ((idx x0 x1).bind fun v0=>
    ((zC m (Dt.L v0 0)).bind fun r1=>
 (bif (Bool.not r1) then
 some 10
 else
 qS_j4 m rec2 x0 x1)))
noncomputable def qS_j10 (m:Nat):Option Int:=
 some 0
noncomputable def qS_l2 (m:Nat):Nat→List Dt→Int→Option Int
 |0,_,_=>none
 |M2+1,x0,x1=>
  (bif (decide (x1<(List.length x0:Int))) then
  qS_j3 m (qS_l2 m M2) x0 x1
 else
  qS_j10 m)
noncomputable def qS_j1 (m:Nat) (x0:List Dt) (x1:Int):Option Int:=
 qS_l2 m (Nat.succ m) x0 x1
noncomputable def qS_j0 (m:Nat) (x0:List Dt):Option Int:=
 qS_j1 m x0 0
noncomputable def qS:Nat→List Dt→Option Int
 |0,_=>none
 |m+1,a0=>
  (bif (decide (8<(List.length a0:Int))) then
  some 2
 else
  qS_j0 m a0)
noncomputable def i39_j3 (m:Nat) (rec1:Int→Int→Int→Int→List Dt→List Dt→Option (List Dt×List Dt)) (x0 x1 x2 x3:Int) (x4 x5:List Dt):Option (List Dt×List Dt):=
 rec1 x0 x1 x2 (IntKind.wrap .i64 (x3+1)) x4 x5
noncomputable def i39_j2 (m:Nat) (rec1:Int→Int→Int→Int→List Dt→List Dt→Option (List Dt×List Dt)) (x0 x1 x2 x3:Int) (x4 x5:List Dt):Option (List Dt×List Dt):=
  ((inL x4 (IntKind.wrap .i64 (x1+x3))).bind fun v0=>
    ((x4[(Int.toNat (IntKind.wrap .i64 (x1+x3)))]?).bind fun v1=>
 ((inL x4 (IntKind.wrap .i64 (x0+x3))).bind fun v2=>
 ((x4[(Int.toNat (IntKind.wrap .i64 (x0+x3)))]?).bind fun v3=>
 ((inL x4 (IntKind.wrap .i64 (x0+x3))).bind fun v4=>
 ((x4[(Int.toNat (IntKind.wrap .i64 (x0+x3)))]?).bind fun v5=>
 ((inL (List.set x4 (Int.toNat (IntKind.wrap .i64 (x0+x3))) v1) (IntKind.wrap .i64 (x1+x3))).bind fun v6=>
 (((List.set x4 (Int.toNat (IntKind.wrap .i64 (x0+x3))) v1)[(Int.toNat (IntKind.wrap .i64 (x1+x3)))]?).bind fun v7=>
 i39_j3 m rec1 x0 x1 x2 x3 (List.set (List.set x4 (Int.toNat (IntKind.wrap .i64 (x0+x3))) v1) (Int.toNat (IntKind.wrap .i64 (x1+x3))) v3) x5))))))))
noncomputable def i39_l1 (m:Nat):Nat→Int→Int→Int→Int→List Dt→List Dt→Option (List Dt×List Dt)
 |0,_,_,_,_,_,_=>none
 |M1+1,x0,x1,x2,x3,x4,x5=>
  (bif (decide (x3<x2)) then
  i39_j2 m (i39_l1 m M1) x0 x1 x2 x3 x4 x5
 else
  some (x4,x5))
noncomputable def i39_j0 (m:Nat) (x0 x1 x2 x3:Int) (x4 x5:List Dt):Option (List Dt×List Dt):=
 i39_l1 m (Nat.succ m) x0 x1 x2 x3 x4 x5
noncomputable def i39:Nat→Int→Int→Int→List Dt→List Dt→Option (List Dt×List Dt)
 |0,_,_,_,_,_=>none
 |m+1,a0,a1,a2,a3,a4=>
  i39_j0 m a0 a1 a2 0 a3 a4
noncomputable def i38_j2 (m:Nat) (rec1:Int→Int→Int→List Dt→List Dt→Option (List Dt×List Dt)) (x0 x1 x2:Int) (x3 x4:List Dt):Option (List Dt×List Dt):=
  (bif (decide (x2<x1)) then
   ((i39 m (IntKind.wrap .i64 (x0-x1)) x0 x2 x3 x4).bind fun r0=>
 rec1 x0 (IntKind.wrap .i64 (x1-x2)) x2 r0.1 r0.2)
  else
   ((i39 m (IntKind.wrap .i64 (x0-x1)) (IntKind.wrap .i64 ((IntKind.wrap .i64 (x0+x2))-x1)) x1 x3 x4).bind fun r1=>
 rec1 x0 x1 (IntKind.wrap .i64 (x2-x1)) r1.1 r1.2))
noncomputable def i38_j3 (m:Nat) (x0 x1:Int) (x2 x3:List Dt):Option (List Dt×List Dt):=
 ((i39 m (IntKind.wrap .i64 (x0-x1)) x0 x1 x2 x3).bind fun r2=>
   some (r2.1,r2.2))
noncomputable def i38_l1 (m:Nat):Nat→Int→Int→Int→List Dt→List Dt→Option (List Dt×List Dt)
 |0,_,_,_,_,_=>none
 |M1+1,x0,x1,x2,x3,x4=>
  (bif (x1 !=x2) then
  i38_j2 m (i38_l1 m M1) x0 x1 x2 x3 x4
 else
  i38_j3 m x0 x1 x3 x4)
noncomputable def i38_j0 (m:Nat) (x0 x1 x2:Int) (x3 x4:List Dt):Option (List Dt×List Dt):=
 i38_l1 m (Nat.succ m) x0 x1 x2 x3 x4
noncomputable def i38:Nat→Int→Int→Int→List Dt→List Dt→Option (List Dt×List Dt)
 |0,_,_,_,_,_=>none
 |m+1,a0,a1,a2,a3,a4=>
  i38_j0 m a1 (IntKind.wrap .i64 (a1-a0)) (IntKind.wrap .i64 (a2-a1)) a3 a4
noncomputable def qH_j3 (m:Nat) (self40:Dt→Option Dt) (rec1:List Dt→Int→Int→Dt→Dt→Int→Int→ByteArray→List Dt→Option Dt) (x0:List Dt) (x1 x2:Int) (x3 x4:Dt) (x5 x6:Int) (x7:ByteArray) (x8:List Dt):Option Dt:=
 rec1 x0 x1 (IntKind.wrap .i64 (x2+1)) x3 x4 x5 x6 x7 x8
noncomputable def qH_j2 (m:Nat) (self40:Dt→Option Dt) (rec1:List Dt→Int→Int→Dt→Dt→Int→Int→ByteArray→List Dt→Option Dt) (x0:List Dt) (x1 x2:Int) (x3 x4:Dt) (x5 x6:Int) (x7:ByteArray) (x8:List Dt):Option Dt:=
  ((idx x0 x2).bind fun v1=>
    ((self40 v1).bind fun r2=>
 ((inL x8 x2).bind fun v3=>
 ((x8[(Int.toNat x2)]?).bind fun v4=>
 qH_j3 m self40 rec1 x0 x1 x2 x3 x4 x5 x6 x7 (List.set x8 (Int.toNat x2) r2)))))
noncomputable def qH_j8 (m:Nat) (self40:Dt→Option Dt) (rec6:List Dt→Int→Int→Dt→Int→Int→ByteArray→List Dt→List Dt→Option Dt) (x0:List Dt) (x1 x2:Int) (x3:Dt) (x4 x5:Int) (x6:ByteArray) (x7 x8:List Dt):Option Dt:=
 rec6 x0 x1 (IntKind.wrap .i64 (x2+1)) x3 x4 x5 x6 x7 x8
noncomputable def qH_j7 (m:Nat) (self40:Dt→Option Dt) (rec6:List Dt→Int→Int→Dt→Int→Int→ByteArray→List Dt→List Dt→Option Dt) (x0:List Dt) (x1 x2:Int) (x3:Dt) (x4 x5:Int) (x6:ByteArray) (x7 x8:List Dt):Option Dt:=
  ((idx x0 x2).bind fun v6=>
    ((self40 (Dt.fld v6 1)).bind fun r7=>
 ((inL x8 x2).bind fun v8=>
 ((x8[(Int.toNat x2)]?).bind fun v9=>
 qH_j8 m self40 rec6 x0 x1 x2 x3 x4 x5 x6 x7 (List.set x8 (Int.toNat x2) (Dt.agg [(Dt.str (Dt.S v6 0)),r7]))))))
noncomputable def qH_j9 (m:Nat) (self40:Dt→Option Dt) (x0:Dt) (x1 x2:Int) (x3:ByteArray) (x4 x5:List Dt):Option Dt:=
 some (Dt.agg [(Dt.int x1),(Dt.int x2),(Dt.str x3),(Dt.lst x4),(Dt.lst x5)])
noncomputable def qH_l6 (m:Nat) (self40:Dt→Option Dt):Nat→List Dt→Int→Int→Dt→Int→Int→ByteArray→List Dt→List Dt→Option Dt
 |0,_,_,_,_,_,_,_,_,_=>none
 |M6+1,x0,x1,x2,x3,x4,x5,x6,x7,x8=>
  (bif (decide (x2<x1)) then
  qH_j7 m self40 (qH_l6 m self40 M6) x0 x1 x2 x3 x4 x5 x6 x7 x8
 else
  qH_j9 m self40 x3 x4 x5 x6 x7 x8)
noncomputable def qH_j5 (m:Nat) (self40:Dt→Option Dt) (x0:List Dt) (x1 x2:Int) (x3:Dt) (x4 x5:Int) (x6:ByteArray) (x7 x8:List Dt):Option Dt:=
 qH_l6 m self40 (Nat.succ m) x0 x1 x2 x3 x4 x5 x6 x7 x8
noncomputable def qH_j10 (m:Nat) (self40:Dt→Option Dt) (x0:Dt) (x1 x2:Int) (x3:ByteArray) (x4:List Dt):Option Dt:=
 some (Dt.agg [(Dt.int x1),(Dt.int x2),(Dt.str x3),(Dt.lst x4),(Dt.lst [])])
noncomputable def qH_j4 (m:Nat) (self40:Dt→Option Dt) (x0 x1:Dt) (x2 x3:Int) (x4:ByteArray) (x5:List Dt):Option Dt:=
  (bif (decide (0<(List.length (Dt.L x0 4):Int))) then
   ((mkL (List.length (Dt.L x0 4):Int) (List.length (Dt.L x0 4):Int) kzcda49).bind fun v5=>
 qH_j5 m self40 (Dt.L x0 4) (List.length (Dt.L x0 4):Int) 0 x1 x2 x3 x4 x5 v5)
  else
   qH_j10 m self40 x1 x2 x3 x4 x5)
noncomputable def qH_l1 (m:Nat) (self40:Dt→Option Dt):Nat→List Dt→Int→Int→Dt→Dt→Int→Int→ByteArray→List Dt→Option Dt
 |0,_,_,_,_,_,_,_,_,_=>none
 |M1+1,x0,x1,x2,x3,x4,x5,x6,x7,x8=>
  (bif (decide (x2<x1)) then
  qH_j2 m self40 (qH_l1 m self40 M1) x0 x1 x2 x3 x4 x5 x6 x7 x8
 else
  qH_j4 m self40 x3 x4 x5 x6 x7 x8)
noncomputable def qH_j0 (m:Nat) (self40:Dt→Option Dt) (x0:List Dt) (x1 x2:Int) (x3 x4:Dt) (x5 x6:Int) (x7:ByteArray) (x8:List Dt):Option Dt:=
 qH_l1 m self40 (Nat.succ m) x0 x1 x2 x3 x4 x5 x6 x7 x8
noncomputable def qH_j15 (m:Nat) (self40:Dt→Option Dt) (rec13:List Dt→Int→Int→Dt→Int→Int→ByteArray→List Dt→List Dt→Option Dt) (x0:List Dt) (x1 x2:Int) (x3:Dt) (x4 x5:Int) (x6:ByteArray) (x7 x8:List Dt):Option Dt:=
 rec13 x0 x1 (IntKind.wrap .i64 (x2+1)) x3 x4 x5 x6 x7 x8
noncomputable def qH_j14 (m:Nat) (self40:Dt→Option Dt) (rec13:List Dt→Int→Int→Dt→Int→Int→ByteArray→List Dt→List Dt→Option Dt) (x0:List Dt) (x1 x2:Int) (x3:Dt) (x4 x5:Int) (x6:ByteArray) (x7 x8:List Dt):Option Dt:=
  ((idx x0 x2).bind fun v11=>
    ((self40 (Dt.fld v11 1)).bind fun r12=>
 ((inL x8 x2).bind fun v13=>
 ((x8[(Int.toNat x2)]?).bind fun v14=>
 qH_j15 m self40 rec13 x0 x1 x2 x3 x4 x5 x6 x7 (List.set x8 (Int.toNat x2) (Dt.agg [(Dt.str (Dt.S v11 0)),r12]))))))
noncomputable def qH_j16 (m:Nat) (self40:Dt→Option Dt) (x0:Dt) (x1 x2:Int) (x3:ByteArray) (x4 x5:List Dt):Option Dt:=
 some (Dt.agg [(Dt.int x1),(Dt.int x2),(Dt.str x3),(Dt.lst x4),(Dt.lst x5)])
noncomputable def qH_l13 (m:Nat) (self40:Dt→Option Dt):Nat→List Dt→Int→Int→Dt→Int→Int→ByteArray→List Dt→List Dt→Option Dt
 |0,_,_,_,_,_,_,_,_,_=>none
 |M13+1,x0,x1,x2,x3,x4,x5,x6,x7,x8=>
  (bif (decide (x2<x1)) then
  qH_j14 m self40 (qH_l13 m self40 M13) x0 x1 x2 x3 x4 x5 x6 x7 x8
 else
  qH_j16 m self40 x3 x4 x5 x6 x7 x8)
noncomputable def qH_j12 (m:Nat) (self40:Dt→Option Dt) (x0:List Dt) (x1 x2:Int) (x3:Dt) (x4 x5:Int) (x6:ByteArray) (x7 x8:List Dt):Option Dt:=
 qH_l13 m self40 (Nat.succ m) x0 x1 x2 x3 x4 x5 x6 x7 x8
noncomputable def qH_j17 (m:Nat) (self40:Dt→Option Dt) (x0 x1:Dt):Option Dt:=
 some x1
noncomputable def qH_j11 (m:Nat) (self40:Dt→Option Dt) (x0 x1 x2:Dt):Option Dt:=
  (bif (decide (0<(List.length (Dt.L x0 4):Int))) then
   ((mkL (List.length (Dt.L x0 4):Int) (List.length (Dt.L x0 4):Int) kzcda49).bind fun v10=>
 qH_j12 m self40 (Dt.L x0 4) (List.length (Dt.L x0 4):Int) 0 x1 (Dt.I x2 0) (Dt.I x2 1) (Dt.S x2 2) (Dt.L x2 3) v10)
  else
   qH_j17 m self40 x1 x2)
noncomputable def qH:Nat→Dt→Option Dt
  |0,_=>none
  |m+1,a0=>
   (bif (decide (0<(List.length (Dt.L a0 3):Int))) then
   ((mkL (List.length (Dt.L a0 3):Int) (List.length (Dt.L a0 3):Int) kza2373).bind fun v0=>
 qH_j0 m (qH m) (Dt.L a0 3) (List.length (Dt.L a0 3):Int) 0 a0 kza2373 (Dt.I a0 0) (Dt.I a0 1) (Dt.S a0 2) v0)
  else
   qH_j11 m (qH m) a0 kza2373 (Dt.agg [(Dt.int (Dt.I a0 0)),(Dt.int (Dt.I a0 1)),(Dt.str (Dt.S a0 2)),(Dt.lst []),(Dt.lst [])]))
noncomputable def qR_j3 (m:Nat) (rec1:Int→Dt→List Dt→Option (List Dt)) (x0:Int) (x1:Dt) (x2:List Dt):Option (List Dt):=
 rec1 (IntKind.wrap .i64 (x0+1)) x1 x2
noncomputable def qR_j2 (m:Nat) (rec1:Int→Dt→List Dt→Option (List Dt)) (x0:Int) (x1:Dt) (x2:List Dt):Option (List Dt):=
  ((idx (Dt.L x1 3) x0).bind fun v0=>
    ((app x2 [v0]).bind fun v1=>
 qR_j3 m rec1 x0 x1 v1))
noncomputable def qR_j8 (m:Nat) (rec6:Int→Dt→List Dt→Option (List Dt)) (x0:Int) (x1:Dt) (x2:List Dt):Option (List Dt):=
 rec6 (IntKind.wrap .i64 (x0+1)) x1 x2
noncomputable def qR_j7 (m:Nat) (rec6:Int→Dt→List Dt→Option (List Dt)) (x0:Int) (x1:Dt) (x2:List Dt):Option (List Dt):=
  ((idx (Dt.L x1 4) x0).bind fun v2=>
    ((app x2 [(Dt.fld v2 1)]).bind fun v3=>
 qR_j8 m rec6 x0 x1 v3))
noncomputable def qR_j9 (m:Nat) (x0:List Dt):Option (List Dt):=
 some x0
noncomputable def qR_l6 (m:Nat):Nat→Int→Dt→List Dt→Option (List Dt)
 |0,_,_,_=>none
 |M6+1,x0,x1,x2=>
  (bif (decide (x0<(List.length (Dt.L x1 4):Int))) then
  qR_j7 m (qR_l6 m M6) x0 x1 x2
 else
  qR_j9 m x2)
noncomputable def qR_j5 (m:Nat) (x0:Int) (x1:Dt) (x2:List Dt):Option (List Dt):=
 qR_l6 m (Nat.succ m) x0 x1 x2
noncomputable def qR_j4 (m:Nat) (x0:Dt) (x1:List Dt):Option (List Dt):=
 (bif ((Dt.I x0 0)==5) then
  qR_j5 m 0 x0 x1
 else
  qR_j9 m x1)
noncomputable def qR_l1 (m:Nat):Nat→Int→Dt→List Dt→Option (List Dt)
 |0,_,_,_=>none
 |M1+1,x0,x1,x2=>
  (bif (decide (x0<(List.length (Dt.L x1 3):Int))) then
  qR_j2 m (qR_l1 m M1) x0 x1 x2
 else
  qR_j4 m x1 x2)
noncomputable def qR_j0 (m:Nat) (x0:Int) (x1:Dt) (x2:List Dt):Option (List Dt):=
 qR_l1 m (Nat.succ m) x0 x1 x2
noncomputable def qR:Nat→Dt→Option (List Dt)
 |0,_=>none
 |m+1,a0=>
  (bif ((Dt.I a0 0)==6) then
  qR_j0 m 0 a0 []
 else
  qR_j4 m a0 [])
noncomputable def qM_j5 (m:Nat) (self25:Dt→Int→Option Int) (rec3:Int→List Dt→Int→Int→Option Int) (x0:Int) (x1:List Dt) (x2 x3:Int):Option Int:=
 rec3 x0 x1 x2 (IntKind.wrap .i64 (x3+1))
noncomputable def qM_j4 (m:Nat) (self25:Dt→Int→Option Int) (rec3:Int→List Dt→Int→Int→Option Int) (x0:Int) (x1:List Dt) (x2 x3:Int):Option Int:=
  ((idx x1 x3).bind fun v1=>
    ((self25 v1 (IntKind.wrap .i64 (x0-1))).bind fun r2=>
 qM_j5 m self25 rec3 x0 x1 (bif (decide (x2<r2)) then r2 else x2) x3))
noncomputable def qM_j6 (m:Nat) (self25:Dt→Int→Option Int) (x0:Int):Option Int:=
 some (IntKind.wrap .i64 (x0+1))
noncomputable def qM_l3 (m:Nat) (self25:Dt→Int→Option Int):Nat→Int→List Dt→Int→Int→Option Int
 |0,_,_,_,_=>none
 |M3+1,x0,x1,x2,x3=>
  (bif (decide (x3<(List.length x1:Int))) then
  qM_j4 m self25 (qM_l3 m self25 M3) x0 x1 x2 x3
 else
  qM_j6 m self25 x2)
noncomputable def qM_j2 (m:Nat) (self25:Dt→Int→Option Int) (x0:Int) (x1:List Dt) (x2 x3:Int):Option Int:=
 qM_l3 m self25 (Nat.succ m) x0 x1 x2 x3
noncomputable def qM_j1 (m:Nat) (self25:Dt→Int→Option Int) (x0:Int) (x1:List Dt):Option Int:=
 qM_j2 m self25 x0 x1 0 0
noncomputable def qM_j0 (m:Nat) (self25:Dt→Int→Option Int) (x0:Int) (x1:List Dt) (x2:Bool):Option Int:=
 (bif x2 then
  some 1
 else
  qM_j1 m self25 x0 x1)
noncomputable def qM:Nat→Dt→Int→Option Int
  |0,_,_=>none
  |m+1,a0,a1=>
   ((qR m a0).bind fun r0=>
   (bif (decide (a1<2)) then
 qM_j0 m (qM m) a1 r0 true
   else
 qM_j0 m (qM m) a1 r0 ((List.length r0:Int)==0)))
noncomputable def yI:Nat→Dt→Option Int
 |0,_=>none
 |m+1,a0=>
  ((qM m a0 17).bind fun r0=>
  some r0)
noncomputable def zH_j3 (m:Nat) (self26:Dt→Int→Option Int) (rec1:Int→Int→List Dt→Int→Option Int) (x0 x1:Int) (x2:List Dt) (x3:Int):Option Int:=
 rec1 x0 x1 x2 (IntKind.wrap .i64 (x3+1))
noncomputable def zH_j2 (m:Nat) (self26:Dt→Int→Option Int) (rec1:Int→Int→List Dt→Int→Option Int) (x0 x1:Int) (x2:List Dt) (x3:Int):Option Int:=
  ((idx x2 x3).bind fun v1=>
    ((self26 v1 (IntKind.wrap .i64 (x0-x1))).bind fun r2=>
 zH_j3 m self26 rec1 x0 (IntKind.wrap .i64 (x1+r2)) x2 x3))
noncomputable def zH_j4 (m:Nat) (self26:Dt→Int→Option Int) (x0:Int):Option Int:=
 some x0
noncomputable def zH_l1 (m:Nat) (self26:Dt→Int→Option Int):Nat→Int→Int→List Dt→Int→Option Int
  |0,_,_,_,_=>none
  |M1+1,x0,x1,x2,x3=>
   (bif (decide (x3<(List.length x2:Int))) then
   (bif (decide (x1<x0)) then
 zH_j2 m self26 (zH_l1 m self26 M1) x0 x1 x2 x3
   else
 zH_j4 m self26 x1)
  else
   zH_j4 m self26 x1)
noncomputable def zH_j0 (m:Nat) (self26:Dt→Int→Option Int) (x0 x1:Int) (x2:List Dt) (x3:Int):Option Int:=
 zH_l1 m self26 (Nat.succ m) x0 x1 x2 x3
noncomputable def zH:Nat→Dt→Int→Option Int
 |0,_,_=>none
 |m+1,a0,a1=>
  ((qR m a0).bind fun r0=>
  zH_j0 m (zH m) a1 1 r0 0)
noncomputable def yH:Nat→Dt→Option Int
 |0,_=>none
 |m+1,a0=>
  ((zH m a0 1025).bind fun r0=>
  some r0)
noncomputable def zG_j5 (m:Nat) (rec2:ByteArray→Int→Int→Int→Option Bool) (x0:ByteArray) (x1 x2 x3:Int):Option Bool:=
 rec2 x0 x1 x2 (IntKind.wrap .i64 (x3+1))
noncomputable def zG_j4 (m:Nat) (rec2:ByteArray→Int→Int→Int→Option Bool) (x0:ByteArray) (x1 x2 x3:Int) (x4:Bool):Option Bool:=
 (bif x4 then
  some false
 else
  zG_j5 m rec2 x0 x1 x2 x3)
noncomputable def zG_j3 (m:Nat) (rec2:ByteArray→Int→Int→Int→Option Bool) (x0:ByteArray) (x1 x2 x3:Int):Option Bool:=
  ((idxS x0 (IntKind.wrap .i64 (x1+x3))).bind fun v0=>
    (bif (decide (v0<128)) then
 zG_j4 m rec2 x0 x1 x2 x3 true
    else
 ((idxS x0 (IntKind.wrap .i64 (x1+x3))).bind fun v1=>
 zG_j4 m rec2 x0 x1 x2 x3 (decide (191<v1)))))
noncomputable def zG_j6 (m:Nat):Option Bool:=
 some true
noncomputable def zG_l2 (m:Nat):Nat→ByteArray→Int→Int→Int→Option Bool
 |0,_,_,_,_=>none
 |M2+1,x0,x1,x2,x3=>
  (bif (decide (x3<x2)) then
  zG_j3 m (zG_l2 m M2) x0 x1 x2 x3
 else
  zG_j6 m)
noncomputable def zG_j1 (m:Nat) (x0:ByteArray) (x1 x2 x3:Int):Option Bool:=
 zG_l2 m (Nat.succ m) x0 x1 x2 x3
noncomputable def zG_j0 (m:Nat) (x0:ByteArray) (x1 x2:Int):Option Bool:=
 zG_j1 m x0 x1 x2 0
noncomputable def zG:Nat→ByteArray→Int→Int→Option Bool
 |0,_,_,_=>none
 |m+1,a0,a1,a2=>
  (bif (decide ((ByteArray.size a0:Int)<(IntKind.wrap .i64 (a1+a2)))) then
  some false
 else
  zG_j0 m a0 a1 a2)
noncomputable def qP_j6 (m:Nat) (rec1:ByteArray→Int→Option Bool) (x0:ByteArray) (x1 x2:Int):Option Bool:=
 rec1 x0 (IntKind.wrap .i64 ((IntKind.wrap .i64 (x1+x2))+1))
noncomputable def qP_j5 (m:Nat) (rec1:ByteArray→Int→Option Bool) (x0:ByteArray) (x1 x2:Int) (x3:Bool):Option Bool:=
 (bif x3 then
  some false
 else
  qP_j6 m rec1 x0 x1 x2)
noncomputable def qP_j4 (m:Nat) (rec1:ByteArray→Int→Option Bool) (x0:ByteArray) (x1 x2 x3:Int):Option Bool:=
  (bif (x2==224) then
   ((idxS x0 (IntKind.wrap .i64 (x1+1))).bind fun v2=>
 (bif (decide (v2<160)) then
 qP_j5 m rec1 x0 x1 x3 true
 else
 (bif (x2==237) then
 ((idxS x0 (IntKind.wrap .i64 (x1+1))).bind fun v3=>
 (bif (decide (159<v3)) then
 qP_j5 m rec1 x0 x1 x3 true
 else
 (bif (x2==240) then
 ((idxS x0 (IntKind.wrap .i64 (x1+1))).bind fun v4=>
 (bif (decide (v4<144)) then
 qP_j5 m rec1 x0 x1 x3 true
 else
 (bif (x2==244) then
 ((idxS x0 (IntKind.wrap .i64 (x1+1))).bind fun v5=>
 qP_j5 m rec1 x0 x1 x3 (decide (143<v5)))
 else
 qP_j5 m rec1 x0 x1 x3 false)))
 else
 (bif (x2==244) then
 ((idxS x0 (IntKind.wrap .i64 (x1+1))).bind fun v6=>
 qP_j5 m rec1 x0 x1 x3 (decide (143<v6)))
 else
 qP_j5 m rec1 x0 x1 x3 false))))
 else
 (bif (x2==240) then
 ((idxS x0 (IntKind.wrap .i64 (x1+1))).bind fun v7=>
 (bif (decide (v7<144)) then
 qP_j5 m rec1 x0 x1 x3 true
 else
 (bif (x2==244) then
 ((idxS x0 (IntKind.wrap .i64 (x1+1))).bind fun v8=>
 qP_j5 m rec1 x0 x1 x3 (decide (143<v8)))
 else
 qP_j5 m rec1 x0 x1 x3 false)))
 else
 (bif (x2==244) then
 ((idxS x0 (IntKind.wrap .i64 (x1+1))).bind fun v9=>
 qP_j5 m rec1 x0 x1 x3 (decide (143<v9)))
 else
 qP_j5 m rec1 x0 x1 x3 false)))))
  else
   (bif (x2==237) then
 ((idxS x0 (IntKind.wrap .i64 (x1+1))).bind fun v10=>
 (bif (decide (159<v10)) then
 qP_j5 m rec1 x0 x1 x3 true
 else
 (bif (x2==240) then
 ((idxS x0 (IntKind.wrap .i64 (x1+1))).bind fun v11=>
 (bif (decide (v11<144)) then
 qP_j5 m rec1 x0 x1 x3 true
 else
 (bif (x2==244) then
 ((idxS x0 (IntKind.wrap .i64 (x1+1))).bind fun v12=>
 qP_j5 m rec1 x0 x1 x3 (decide (143<v12)))
 else
 qP_j5 m rec1 x0 x1 x3 false)))
 else
 (bif (x2==244) then
 ((idxS x0 (IntKind.wrap .i64 (x1+1))).bind fun v13=>
 qP_j5 m rec1 x0 x1 x3 (decide (143<v13)))
 else
 qP_j5 m rec1 x0 x1 x3 false))))
   else
 (bif (x2==240) then
 ((idxS x0 (IntKind.wrap .i64 (x1+1))).bind fun v14=>
 (bif (decide (v14<144)) then
 qP_j5 m rec1 x0 x1 x3 true
 else
 (bif (x2==244) then
 ((idxS x0 (IntKind.wrap .i64 (x1+1))).bind fun v15=>
 qP_j5 m rec1 x0 x1 x3 (decide (143<v15)))
 else
 qP_j5 m rec1 x0 x1 x3 false)))
 else
 (bif (x2==244) then
 ((idxS x0 (IntKind.wrap .i64 (x1+1))).bind fun v16=>
 qP_j5 m rec1 x0 x1 x3 (decide (143<v16)))
 else
 qP_j5 m rec1 x0 x1 x3 false))))
noncomputable def qP_j3 (m:Nat) (rec1:ByteArray→Int→Option Bool) (x0:ByteArray) (x1 x2 x3:Int):Option Bool:=
  ((zG m x0 (IntKind.wrap .i64 (x1+1)) x3).bind fun r1=>
    (bif (Bool.not r1) then
 some false
    else
 qP_j4 m rec1 x0 x1 x2 x3))
noncomputable def qP_j9 (m:Nat) (rec1:ByteArray→Int→Option Bool) (x0:ByteArray) (x1 x2:Int) (x3:Bool):Option Bool:=
 (bif x3 then
  qP_j3 m rec1 x0 x1 x2 3
 else
  some false)
noncomputable def qP_j8 (m:Nat) (rec1:ByteArray→Int→Option Bool) (x0:ByteArray) (x1 x2:Int) (x3:Bool):Option Bool:=
  (bif x3 then
   qP_j3 m rec1 x0 x1 x2 2
  else
   (bif (decide (240≤x2)) then
 qP_j9 m rec1 x0 x1 x2 (decide (x2≤244))
   else
 qP_j9 m rec1 x0 x1 x2 false))
noncomputable def qP_j7 (m:Nat) (rec1:ByteArray→Int→Option Bool) (x0:ByteArray) (x1 x2:Int) (x3:Bool):Option Bool:=
  (bif x3 then
   qP_j3 m rec1 x0 x1 x2 1
  else
   (bif (decide (224≤x2)) then
 qP_j8 m rec1 x0 x1 x2 (decide (x2≤239))
   else
 qP_j8 m rec1 x0 x1 x2 false))
noncomputable def qP_j2 (m:Nat) (rec1:ByteArray→Int→Option Bool) (x0:ByteArray) (x1:Int):Option Bool:=
  ((idxS x0 x1).bind fun v0=>
    (bif (decide (v0<128)) then
 qP_j3 m rec1 x0 x1 v0 0
    else
 (bif (decide (194≤v0)) then
 qP_j7 m rec1 x0 x1 v0 (decide (v0≤223))
 else
 qP_j7 m rec1 x0 x1 v0 false)))
noncomputable def qP_j10 (m:Nat):Option Bool:=
 some true
noncomputable def qP_l1 (m:Nat):Nat→ByteArray→Int→Option Bool
 |0,_,_=>none
 |M1+1,x0,x1=>
  (bif (decide (x1<(ByteArray.size x0:Int))) then
  qP_j2 m (qP_l1 m M1) x0 x1
 else
  qP_j10 m)
noncomputable def qP_j0 (m:Nat) (x0:ByteArray) (x1:Int):Option Bool:=
 qP_l1 m (Nat.succ m) x0 x1
noncomputable def qP:Nat→ByteArray→Option Bool
 |0,_=>none
 |m+1,a0=>
  qP_j0 m a0 0
noncomputable def qU_j6 (m:Nat) (rec3:ByteArray→Int→Option Bool) (x0:ByteArray) (x1:Int):Option Bool:=
 rec3 x0 (IntKind.wrap .i64 (x1+1))
noncomputable def qU_j5 (m:Nat) (rec3:ByteArray→Int→Option Bool) (x0:ByteArray) (x1:Int) (x2:Bool):Option Bool:=
 (bif x2 then
  some false
 else
  qU_j6 m rec3 x0 x1)
noncomputable def qU_j4 (m:Nat) (rec3:ByteArray→Int→Option Bool) (x0:ByteArray) (x1:Int):Option Bool:=
  ((idxS x0 x1).bind fun v0=>
    (bif (decide (v0<32)) then
 qU_j5 m rec3 x0 x1 true
    else
 ((idxS x0 x1).bind fun v1=>
 qU_j5 m rec3 x0 x1 (decide (126<v1)))))
noncomputable def qU_j7 (m:Nat):Option Bool:=
 some true
noncomputable def qU_l3 (m:Nat):Nat→ByteArray→Int→Option Bool
 |0,_,_=>none
 |M3+1,x0,x1=>
  (bif (decide (x1<(ByteArray.size x0:Int))) then
  qU_j4 m (qU_l3 m M3) x0 x1
 else
  qU_j7 m)
noncomputable def qU_j2 (m:Nat) (x0:ByteArray) (x1:Int):Option Bool:=
 qU_l3 m (Nat.succ m) x0 x1
noncomputable def qU_j1 (m:Nat) (x0:ByteArray):Option Bool:=
 qU_j2 m x0 0
noncomputable def qU_j0 (m:Nat) (x0:ByteArray) (x1:Bool):Option Bool:=
 (bif x1 then
  some false
 else
  qU_j1 m x0)
noncomputable def qU:Nat→ByteArray→Option Bool
 |0,_=>none
 |m+1,a0=>
  (bif (decide ((ByteArray.size a0:Int)<1)) then
  qU_j0 m a0 true
 else
  qU_j0 m a0 (decide (128<(ByteArray.size a0:Int))))
noncomputable def qE_j10 (m:Nat) (self18:Dt→Bool→Option Bool) (self28:Dt→Bool→Option Bool) (rec8:Bool→Int→Dt→Option Bool) (x0:Bool) (x1:Int) (x2:Dt):Option Bool:=
 rec8 x0 (IntKind.wrap .i64 (x1+1)) x2
noncomputable def qE_j9 (m:Nat) (self18:Dt→Bool→Option Bool) (self28:Dt→Bool→Option Bool) (rec8:Bool→Int→Dt→Option Bool) (x0:Bool) (x1:Int) (x2:Dt):Option Bool:=
  ((idx (Dt.L x2 3) x1).bind fun v1=>
    ((self18 v1 x0).bind fun r2=>
 (bif (Bool.not r2) then
 some false
 else
 qE_j10 m self18 self28 rec8 x0 x1 x2)))
noncomputable def qE_j11 (m:Nat) (self18:Dt→Bool→Option Bool) (self28:Dt→Bool→Option Bool) (x0:Bool) (x1:Dt):Option Bool:=
 ((self28 x1 x0).bind fun r3=>
   some r3)
noncomputable def qE_l8 (m:Nat) (self18:Dt→Bool→Option Bool) (self28:Dt→Bool→Option Bool):Nat→Bool→Int→Dt→Option Bool
 |0,_,_,_=>none
 |M8+1,x0,x1,x2=>
  (bif (decide (x1<(List.length (Dt.L x2 3):Int))) then
  qE_j9 m self18 self28 (qE_l8 m self18 self28 M8) x0 x1 x2
 else
  qE_j11 m self18 self28 x0 x2)
noncomputable def qE_j7 (m:Nat) (self18:Dt→Bool→Option Bool) (self28:Dt→Bool→Option Bool) (x0:Bool) (x1:Int) (x2:Dt):Option Bool:=
 qE_l8 m self18 self28 (Nat.succ m) x0 x1 x2
noncomputable def qE_j6 (m:Nat) (self18:Dt→Bool→Option Bool) (self28:Dt→Bool→Option Bool) (x0:Bool) (x1:Dt):Option Bool:=
 qE_j7 m self18 self28 x0 0 x1
noncomputable def qE_j5 (m:Nat) (self18:Dt→Bool→Option Bool) (self28:Dt→Bool→Option Bool) (x0:Bool) (x1:Dt):Option Bool:=
  (bif ((Dt.I x1 0)==9) then
   (bif ((Dt.I x1 1)==0) then
 some true
   else
 some ((Dt.I x1 1)==1))
  else
   (bif ((Dt.I x1 0)==10) then
 some (decide (0≤(Dt.I x1 1)))
   else
 (bif ((Dt.I x1 0)==4) then
 (bif (decide ((ByteArray.size (Dt.S x1 2):Int)≤4096)) then
 ((qP m (Dt.S x1 2)).bind fun r0=>
 some r0)
 else
 some false)
 else
 (bif ((Dt.I x1 0)==7) then
 some (decide ((ByteArray.size (Dt.S x1 2):Int)≤4096))
 else
 (bif ((Dt.I x1 0)==8) then
 some ((ByteArray.size (Dt.S x1 2):Int)==12)
 else
 qE_j6 m self18 self28 x0 x1)))))
noncomputable def qE_j4 (m:Nat) (self18:Dt→Bool→Option Bool) (self28:Dt→Bool→Option Bool) (x0 x1:Bool) (x2:Dt):Option Bool:=
 (bif x1 then
  some false
 else
  qE_j5 m self18 self28 x0 x2)
noncomputable def qE_j3 (m:Nat) (self18:Dt→Bool→Option Bool) (self28:Dt→Bool→Option Bool) (x0 x1 x2:Bool) (x3:Dt):Option Bool:=
  (bif (Bool.not x1) then
   (bif (Bool.not ((ByteArray.toList (Dt.S x3 2))==[])) then
 qE_j4 m self18 self28 x0 true x3
   else
 (bif (Bool.not x2) then
 (bif ((Dt.I x3 1) !=0) then
 qE_j4 m self18 self28 x0 true x3
 else
 (bif (decide ((Dt.I x3 0)<1)) then
 qE_j4 m self18 self28 x0 true x3
 else
 qE_j4 m self18 self28 x0 (decide (11<(Dt.I x3 0))) x3))
 else
 (bif (decide ((Dt.I x3 0)<1)) then
 qE_j4 m self18 self28 x0 true x3
 else
 qE_j4 m self18 self28 x0 (decide (11<(Dt.I x3 0))) x3)))
  else
   (bif (Bool.not x2) then
 (bif ((Dt.I x3 1) !=0) then
 qE_j4 m self18 self28 x0 true x3
 else
 (bif (decide ((Dt.I x3 0)<1)) then
 qE_j4 m self18 self28 x0 true x3
 else
 qE_j4 m self18 self28 x0 (decide (11<(Dt.I x3 0))) x3))
   else
 (bif (decide ((Dt.I x3 0)<1)) then
 qE_j4 m self18 self28 x0 true x3
 else
 qE_j4 m self18 self28 x0 (decide (11<(Dt.I x3 0))) x3)))
noncomputable def qE_j2 (m:Nat) (self18:Dt→Bool→Option Bool) (self28:Dt→Bool→Option Bool) (x0 x1:Bool) (x2:Dt):Option Bool:=
  (bif ((Dt.I x2 0)==3) then
   qE_j3 m self18 self28 x0 x1 true x2
  else
   (bif ((Dt.I x2 0)==9) then
 qE_j3 m self18 self28 x0 x1 true x2
   else
 qE_j3 m self18 self28 x0 x1 ((Dt.I x2 0)==10) x2))
noncomputable def qE_j1 (m:Nat) (self18:Dt→Bool→Option Bool) (self28:Dt→Bool→Option Bool) (x0:Bool) (x1:Dt):Option Bool:=
  (bif ((Dt.I x1 0)==4) then
   qE_j2 m self18 self28 x0 true x1
  else
   (bif ((Dt.I x1 0)==7) then
 qE_j2 m self18 self28 x0 true x1
   else
 qE_j2 m self18 self28 x0 ((Dt.I x1 0)==8) x1))
noncomputable def qE_j0 (m:Nat) (self18:Dt→Bool→Option Bool) (self28:Dt→Bool→Option Bool) (x0 x1:Bool) (x2:Dt):Option Bool:=
 (bif x1 then
  some false
 else
  qE_j1 m self18 self28 x0 x2)
noncomputable def qG_j8 (m:Nat) (self18:Dt→Bool→Option Bool) (rec1:Bool→Int→Dt→Option Bool) (rec6:Bool→Int→Int→Dt→Dt→Option Bool) (x0:Bool) (x1 x2:Int) (x3 x4:Dt):Option Bool:=
 rec6 x0 x1 (IntKind.wrap .i64 (x2+1)) x3 x4
noncomputable def qG_j7 (m:Nat) (self18:Dt→Bool→Option Bool) (rec1:Bool→Int→Dt→Option Bool) (rec6:Bool→Int→Int→Dt→Dt→Option Bool) (x0:Bool) (x1 x2:Int) (x3 x4:Dt):Option Bool:=
  ((idx (Dt.L x3 4) x2).bind fun v2=>
    (bif ((ByteArray.toList (Dt.S v2 0))==(ByteArray.toList (Dt.S x4 0))) then
 some false
    else
 qG_j8 m self18 rec1 rec6 x0 x1 x2 x3 x4))
noncomputable def qG_j9 (m:Nat) (self18:Dt→Bool→Option Bool) (rec1:Bool→Int→Dt→Option Bool) (x0:Bool) (x1:Int) (x2:Dt):Option Bool:=
 rec1 x0 (IntKind.wrap .i64 (x1+1)) x2
noncomputable def qG_l6 (m:Nat) (self18:Dt→Bool→Option Bool) (rec1:Bool→Int→Dt→Option Bool):Nat→Bool→Int→Int→Dt→Dt→Option Bool
 |0,_,_,_,_,_=>none
 |M6+1,x0,x1,x2,x3,x4=>
  (bif (decide (x2<x1)) then
  qG_j7 m self18 rec1 (qG_l6 m self18 rec1 M6) x0 x1 x2 x3 x4
 else
  qG_j9 m self18 rec1 x0 x1 x3)
noncomputable def qG_j5 (m:Nat) (self18:Dt→Bool→Option Bool) (rec1:Bool→Int→Dt→Option Bool) (x0:Bool) (x1 x2:Int) (x3 x4:Dt):Option Bool:=
 qG_l6 m self18 rec1 (Nat.succ m) x0 x1 x2 x3 x4
noncomputable def qG_j4 (m:Nat) (self18:Dt→Bool→Option Bool) (rec1:Bool→Int→Dt→Option Bool) (x0:Bool) (x1:Int) (x2 x3:Dt):Option Bool:=
 qG_j5 m self18 rec1 x0 x1 0 x2 x3
noncomputable def qG_j3 (m:Nat) (self18:Dt→Bool→Option Bool) (rec1:Bool→Int→Dt→Option Bool) (x0:Bool) (x1:Int) (x2:Bool) (x3 x4:Dt):Option Bool:=
 (bif x2 then
  some false
 else
  qG_j4 m self18 rec1 x0 x1 x3 x4)
noncomputable def qG_j2 (m:Nat) (self18:Dt→Bool→Option Bool) (rec1:Bool→Int→Dt→Option Bool) (x0:Bool) (x1:Int) (x2:Dt):Option Bool:=
  ((idx (Dt.L x2 4) x1).bind fun v0=>
    (bif x0 then
 ((qT m (Dt.S v0 0)).bind fun r1=>
 (bif (Bool.not r1) then
 qG_j3 m self18 rec1 x0 x1 true x2 v0
 else
 (bif (Bool.not x0) then
 ((qU m (Dt.S v0 0)).bind fun r3=>
 (bif (Bool.not r3) then
 qG_j3 m self18 rec1 x0 x1 true x2 v0
 else
 ((self18 (Dt.fld v0 1) x0).bind fun r4=>
 qG_j3 m self18 rec1 x0 x1 (Bool.not r4) x2 v0)))
 else
 ((self18 (Dt.fld v0 1) x0).bind fun r5=>
 qG_j3 m self18 rec1 x0 x1 (Bool.not r5) x2 v0))))
    else
 (bif (Bool.not x0) then
 ((qU m (Dt.S v0 0)).bind fun r6=>
 (bif (Bool.not r6) then
 qG_j3 m self18 rec1 x0 x1 true x2 v0
 else
 ((self18 (Dt.fld v0 1) x0).bind fun r7=>
 qG_j3 m self18 rec1 x0 x1 (Bool.not r7) x2 v0)))
 else
 ((self18 (Dt.fld v0 1) x0).bind fun r8=>
 qG_j3 m self18 rec1 x0 x1 (Bool.not r8) x2 v0))))
noncomputable def qG_j10 (m:Nat) (self18:Dt→Bool→Option Bool):Option Bool:=
 some true
noncomputable def qG_l1 (m:Nat) (self18:Dt→Bool→Option Bool):Nat→Bool→Int→Dt→Option Bool
 |0,_,_,_=>none
 |M1+1,x0,x1,x2=>
  (bif (decide (x1<(List.length (Dt.L x2 4):Int))) then
  qG_j2 m self18 (qG_l1 m self18 M1) x0 x1 x2
 else
  qG_j10 m self18)
noncomputable def qG_j0 (m:Nat) (self18:Dt→Bool→Option Bool) (x0:Bool) (x1:Int) (x2:Dt):Option Bool:=
 qG_l1 m self18 (Nat.succ m) x0 x1 x2
mutual
noncomputable def qE:Nat→Dt→Bool→Option Bool
  |0,_,_=>none
  |m+1,a0,a1=>
   (bif ((Dt.I a0 0) !=6) then
   (bif (decide (0<(List.length (Dt.L a0 3):Int))) then
 qE_j0 m (qE m) (qG m) a1 true a0
   else
 (bif ((Dt.I a0 0) !=5) then
 qE_j0 m (qE m) (qG m) a1 (decide (0<(List.length (Dt.L a0 4):Int))) a0
 else
 qE_j0 m (qE m) (qG m) a1 false a0))
  else
   (bif ((Dt.I a0 0) !=5) then
 qE_j0 m (qE m) (qG m) a1 (decide (0<(List.length (Dt.L a0 4):Int))) a0
   else
 qE_j0 m (qE m) (qG m) a1 false a0))
noncomputable def qG:Nat→Dt→Bool→Option Bool
 |0,_,_=>none
 |m+1,a0,a1=>
  qG_j0 m (qE m) a1 0 a0
end
noncomputable def yC:Nat→Dt→Option Bool
  |0,_=>none
  |m+1,a0=>
   ((yI m a0).bind fun r0=>
   (bif (decide (r0≤16)) then
 ((yH m a0).bind fun r1=>
 (bif (decide (r1≤1024)) then
 ((qE m a0 true).bind fun r2=>
 some r2)
 else
 some false))
   else
 some false))
noncomputable def zI_j5 (m:Nat) (rec2:List Dt→Int→Option Bool) (x0:List Dt) (x1:Int):Option Bool:=
 rec2 x0 (IntKind.wrap .i64 (x1+1))
noncomputable def zI_j4 (m:Nat) (rec2:List Dt→Int→Option Bool) (x0:List Dt) (x1:Int) (x2:Bool):Option Bool:=
 (bif x2 then
  some false
 else
  zI_j5 m rec2 x0 x1)
noncomputable def zI_j3 (m:Nat) (rec2:List Dt→Int→Option Bool) (x0:List Dt) (x1:Int):Option Bool:=
  ((idx x0 x1).bind fun v0=>
    (bif ((Dt.I v0 0) !=5) then
 zI_j4 m rec2 x0 x1 true
    else
 ((idx x0 x1).bind fun v1=>
 ((yC m v1).bind fun r2=>
 zI_j4 m rec2 x0 x1 (Bool.not r2)))))
noncomputable def zI_j6 (m:Nat):Option Bool:=
 some true
noncomputable def zI_l2 (m:Nat):Nat→List Dt→Int→Option Bool
 |0,_,_=>none
 |M2+1,x0,x1=>
  (bif (decide (x1<(List.length x0:Int))) then
  zI_j3 m (zI_l2 m M2) x0 x1
 else
  zI_j6 m)
noncomputable def zI_j1 (m:Nat) (x0:List Dt) (x1:Int):Option Bool:=
 zI_l2 m (Nat.succ m) x0 x1
noncomputable def zI_j0 (m:Nat) (x0:List Dt):Option Bool:=
 zI_j1 m x0 0
noncomputable def zI:Nat→List Dt→Option Bool
 |0,_=>none
 |m+1,a0=>
  (bif (decide (60<(List.length a0:Int))) then
  some false
 else
  zI_j0 m a0)
noncomputable def zU_j1 (m:Nat):Option Int:=
 some 0
noncomputable def zU_j0 (m:Nat) (x0 x1:Int):Option Int:=
 (bif (decide (x1<x0)) then
  some 1
 else
  zU_j1 m)
noncomputable def zU:Nat→Int→Int→Option Int
 |0,_,_=>none
 |m+1,a0,a1=>
  (bif (decide (a0<a1)) then
  some (-1)
 else
  zU_j0 m a0 a1)
noncomputable def zN_j3 (m:Nat) (rec1:ByteArray→ByteArray→Int→Option Int) (x0 x1:ByteArray) (x2:Int):Option Int:=
 rec1 x0 x1 (IntKind.wrap .i64 (x2+1))
noncomputable def zN_j2 (m:Nat) (rec1:ByteArray→ByteArray→Int→Option Int) (x0 x1:ByteArray) (x2:Int):Option Int:=
  ((idxS x0 x2).bind fun v0=>
    ((idxS x1 x2).bind fun v1=>
 (bif (v0 !=v1) then
 ((idxS x0 x2).bind fun v2=>
 ((idxS x1 x2).bind fun v3=>
 ((zU m (IntKind.wrap .i64 v2) (IntKind.wrap .i64 v3)).bind fun r4=>
 some r4)))
 else
 zN_j3 m rec1 x0 x1 x2)))
noncomputable def zN_j4 (m:Nat) (x0 x1:ByteArray):Option Int:=
 ((zU m (ByteArray.size x0:Int) (ByteArray.size x1:Int)).bind fun r5=>
   some r5)
noncomputable def zN_l1 (m:Nat):Nat→ByteArray→ByteArray→Int→Option Int
  |0,_,_,_=>none
  |M1+1,x0,x1,x2=>
   (bif (decide (x2<(ByteArray.size x0:Int))) then
   (bif (decide (x2<(ByteArray.size x1:Int))) then
 zN_j2 m (zN_l1 m M1) x0 x1 x2
   else
 zN_j4 m x0 x1)
  else
   zN_j4 m x0 x1)
noncomputable def zN_j0 (m:Nat) (x0 x1:ByteArray) (x2:Int):Option Int:=
 zN_l1 m (Nat.succ m) x0 x1 x2
noncomputable def zN:Nat→ByteArray→ByteArray→Option Int
 |0,_,_=>none
 |m+1,a0,a1=>
  zN_j0 m a0 a1 0
noncomputable def qB_j6 (m:Nat) (self43:Dt→Dt→Option Int) (rec4:Int→Dt→Dt→Option Int) (x0:Int) (x1 x2:Dt):Option Int:=
 rec4 (IntKind.wrap .i64 (x0+1)) x1 x2
noncomputable def qB_j5 (m:Nat) (self43:Dt→Dt→Option Int) (rec4:Int→Dt→Dt→Option Int) (x0:Int) (x1 x2:Dt):Option Int:=
  ((idx (Dt.L x1 3) x0).bind fun v3=>
    ((idx (Dt.L x2 3) x0).bind fun v4=>
 ((self43 v3 v4).bind fun r5=>
 (bif (r5 !=0) then
 some r5
 else
 qB_j6 m self43 rec4 x0 x1 x2))))
noncomputable def qB_j7 (m:Nat) (self43:Dt→Dt→Option Int) (x0 x1:Dt):Option Int:=
 ((zU m (List.length (Dt.L x0 3):Int) (List.length (Dt.L x1 3):Int)).bind fun r6=>
   some r6)
noncomputable def qB_l4 (m:Nat) (self43:Dt→Dt→Option Int):Nat→Int→Dt→Dt→Option Int
  |0,_,_,_=>none
  |M4+1,x0,x1,x2=>
   (bif (decide (x0<(List.length (Dt.L x1 3):Int))) then
   (bif (decide (x0<(List.length (Dt.L x2 3):Int))) then
 qB_j5 m self43 (qB_l4 m self43 M4) x0 x1 x2
   else
 qB_j7 m self43 x1 x2)
  else
   qB_j7 m self43 x1 x2)
noncomputable def qB_j3 (m:Nat) (self43:Dt→Dt→Option Int) (x0:Int) (x1 x2:Dt):Option Int:=
 qB_l4 m self43 (Nat.succ m) x0 x1 x2
noncomputable def qB_j12 (m:Nat) (self43:Dt→Dt→Option Int) (rec9:Int→Dt→Dt→Option Int) (x0:Int) (x1 x2:Dt):Option Int:=
 rec9 (IntKind.wrap .i64 (x0+1)) x1 x2
noncomputable def qB_j11 (m:Nat) (self43:Dt→Dt→Option Int) (rec9:Int→Dt→Dt→Option Int) (x0 x1:Int) (x2 x3:Dt):Option Int:=
 (bif (x1 !=0) then
  some x1
 else
  qB_j12 m self43 rec9 x0 x2 x3)
noncomputable def qB_j10 (m:Nat) (self43:Dt→Dt→Option Int) (rec9:Int→Dt→Dt→Option Int) (x0:Int) (x1 x2:Dt):Option Int:=
  ((idx (Dt.L x1 4) x0).bind fun v7=>
    ((idx (Dt.L x2 4) x0).bind fun v8=>
 ((zN m (Dt.S v7 0) (Dt.S v8 0)).bind fun r9=>
 (bif (r9==0) then
 ((idx (Dt.L x1 4) x0).bind fun v10=>
 ((idx (Dt.L x2 4) x0).bind fun v11=>
 ((self43 (Dt.fld v10 1) (Dt.fld v11 1)).bind fun r12=>
 qB_j11 m self43 rec9 x0 r12 x1 x2)))
 else
 qB_j11 m self43 rec9 x0 r9 x1 x2))))
noncomputable def qB_j13 (m:Nat) (self43:Dt→Dt→Option Int) (x0 x1:Dt):Option Int:=
 ((zU m (List.length (Dt.L x0 4):Int) (List.length (Dt.L x1 4):Int)).bind fun r13=>
   some r13)
noncomputable def qB_l9 (m:Nat) (self43:Dt→Dt→Option Int):Nat→Int→Dt→Dt→Option Int
  |0,_,_,_=>none
  |M9+1,x0,x1,x2=>
   (bif (decide (x0<(List.length (Dt.L x1 4):Int))) then
   (bif (decide (x0<(List.length (Dt.L x2 4):Int))) then
 qB_j10 m self43 (qB_l9 m self43 M9) x0 x1 x2
   else
 qB_j13 m self43 x1 x2)
  else
   qB_j13 m self43 x1 x2)
noncomputable def qB_j8 (m:Nat) (self43:Dt→Dt→Option Int) (x0:Int) (x1 x2:Dt):Option Int:=
 qB_l9 m self43 (Nat.succ m) x0 x1 x2
noncomputable def qB_j14 (m:Nat) (self43:Dt→Dt→Option Int):Option Int:=
 some 0
noncomputable def qB_j2 (m:Nat) (self43:Dt→Dt→Option Int) (x0:Int) (x1:Bool) (x2 x3:Dt):Option Int:=
  (bif x1 then
   ((zN m (Dt.S x2 2) (Dt.S x3 2)).bind fun r2=>
 some r2)
  else
   (bif (x0==6) then
 qB_j3 m self43 0 x2 x3
   else
 (bif (x0==5) then
 qB_j8 m self43 0 x2 x3
 else
 qB_j14 m self43)))
noncomputable def qB_j1 (m:Nat) (self43:Dt→Dt→Option Int) (x0:Int) (x1:Bool) (x2 x3:Dt):Option Int:=
  (bif x1 then
   ((zU m (Dt.I x2 1) (Dt.I x3 1)).bind fun r1=>
 some r1)
  else
   (bif (x0==4) then
 qB_j2 m self43 x0 (x0==4) x2 x3
   else
 (bif (x0==7) then
 qB_j2 m self43 x0 (x0==7) x2 x3
 else
 qB_j2 m self43 x0 (x0==8) x2 x3)))
noncomputable def qB_j0 (m:Nat) (self43:Dt→Dt→Option Int) (x0 x1:Dt):Option Int:=
  (bif ((Dt.I x0 0)==3) then
   qB_j1 m self43 (Dt.I x0 0) ((Dt.I x0 0)==3) x0 x1
  else
   (bif ((Dt.I x0 0)==9) then
 qB_j1 m self43 (Dt.I x0 0) ((Dt.I x0 0)==9) x0 x1
   else
 qB_j1 m self43 (Dt.I x0 0) ((Dt.I x0 0)==10) x0 x1))
noncomputable def qB:Nat→Dt→Dt→Option Int
  |0,_,_=>none
  |m+1,a0,a1=>
   (bif ((Dt.I a0 0) !=(Dt.I a1 0)) then
   ((zU m (Dt.I a0 0) (Dt.I a1 0)).bind fun r0=>
 some r0)
  else
   qB_j0 m (qB m) a0 a1)
noncomputable def zZ_j0 (m:Nat) (self67:Dt→Int→Int→Option (Int×Int)) (x0:Dt) (x1 x2:Int):Option Int:=
 ((self67 x0 x2 x1).bind fun r0=>
   some r0.1)
noncomputable def i67_j3 (m:Nat) (self68:Dt→Int→Int→Option (Bool×Int×Int)) (rec1:List Dt→Int→Int→Int→Int→Option (Int×Int)) (x0:List Dt) (x1 x2 x3 x4:Int):Option (Int×Int):=
 rec1 x0 x1 (IntKind.wrap .i64 (x2+1)) x3 x4
noncomputable def i67_j2 (m:Nat) (self68:Dt→Int→Int→Option (Bool×Int×Int)) (rec1:List Dt→Int→Int→Int→Int→Option (Int×Int)) (x0:List Dt) (x1 x2 x3 x4:Int):Option (Int×Int):=
  ((idx x0 x2).bind fun v0=>
    ((self68 v0 x3 x4).bind fun r1=>
 (bif (Bool.not r1.1) then
 some (r1.2.1,r1.2.2)
 else
 i67_j3 m self68 rec1 x0 x1 x2 r1.2.1 r1.2.2)))
noncomputable def i67_l1 (m:Nat) (self68:Dt→Int→Int→Option (Bool×Int×Int)):Nat→List Dt→Int→Int→Int→Int→Option (Int×Int)
 |0,_,_,_,_,_=>none
 |M1+1,x0,x1,x2,x3,x4=>
  (bif (decide (x2<x1)) then
  i67_j2 m self68 (i67_l1 m self68 M1) x0 x1 x2 x3 x4
 else
  some (x3,x4))
noncomputable def i67_j0 (m:Nat) (self68:Dt→Int→Int→Option (Bool×Int×Int)) (x0:List Dt) (x1 x2 x3 x4:Int):Option (Int×Int):=
 i67_l1 m self68 (Nat.succ m) x0 x1 x2 x3 x4
noncomputable def i67_j7 (m:Nat) (self68:Dt→Int→Int→Option (Bool×Int×Int)) (rec5:List Dt→Int→Int→Int→Int→Option (Int×Int)) (x0:List Dt) (x1 x2 x3 x4:Int):Option (Int×Int):=
 rec5 x0 x1 (IntKind.wrap .i64 (x2+1)) x3 x4
noncomputable def i67_j6 (m:Nat) (self68:Dt→Int→Int→Option (Bool×Int×Int)) (rec5:List Dt→Int→Int→Int→Int→Option (Int×Int)) (x0:List Dt) (x1 x2 x3 x4:Int):Option (Int×Int):=
  ((idx x0 x2).bind fun v2=>
    ((self68 (Dt.fld v2 1) x3 x4).bind fun r3=>
 (bif (Bool.not r3.1) then
 some (r3.2.1,r3.2.2)
 else
 i67_j7 m self68 rec5 x0 x1 x2 r3.2.1 r3.2.2)))
noncomputable def i67_l5 (m:Nat) (self68:Dt→Int→Int→Option (Bool×Int×Int)):Nat→List Dt→Int→Int→Int→Int→Option (Int×Int)
 |0,_,_,_,_,_=>none
 |M5+1,x0,x1,x2,x3,x4=>
  (bif (decide (x2<x1)) then
  i67_j6 m self68 (i67_l5 m self68 M5) x0 x1 x2 x3 x4
 else
  some (x3,x4))
noncomputable def i67_j4 (m:Nat) (self68:Dt→Int→Int→Option (Bool×Int×Int)) (x0:List Dt) (x1 x2 x3 x4:Int):Option (Int×Int):=
 i67_l5 m self68 (Nat.succ m) x0 x1 x2 x3 x4
mutual
noncomputable def zZ:Nat→Dt→Int→Option Int
 |0,_,_=>none
 |m+1,a0,a1=>
  (bif (1==a1) then
  some 1
 else
  zZ_j0 m (i67 m) a0 a1 1)
noncomputable def i67:Nat→Dt→Int→Int→Option (Int×Int)
  |0,_,_,_=>none
  |m+1,a0,a1,a2=>
   (bif ((Dt.I a0 0)==6) then
   i67_j0 m (i68 m) (Dt.L a0 3) (List.length (Dt.L a0 3):Int) 0 a1 a2
  else
   (bif ((Dt.I a0 0)==5) then
 i67_j4 m (i68 m) (Dt.L a0 4) (List.length (Dt.L a0 4):Int) 0 a1 a2
   else
 some (a1,a2)))
noncomputable def i68:Nat→Dt→Int→Int→Option (Bool×Int×Int)
 |0,_,_,_=>none
 |m+1,a0,a1,a2=>
  ((zZ m a0 (IntKind.wrap .i64 (a2-a1))).bind fun r0=>
  some ((decide ((IntKind.wrap .i64 (a1+r0))<a2)),(IntKind.wrap .i64 (a1+r0)),a2))
end
noncomputable def yF:Nat→Dt→Option Int
 |0,_=>none
 |m+1,a0=>
  ((zZ m a0 1025).bind fun r0=>
  some r0)
noncomputable def zY_j0 (m:Nat) (self69:Dt→Int→Int→Option (Int×Int)) (x0:Dt) (x1:Int):Option Int:=
 ((self69 x0 0 x1).bind fun r0=>
   some (IntKind.wrap .i64 (1+r0.1)))
noncomputable def i69_j3 (m:Nat) (self70:Dt→Int→Int→Option (Bool×Int×Int)) (rec1:List Dt→Int→Int→Int→Int→Option (Int×Int)) (x0:List Dt) (x1 x2 x3 x4:Int):Option (Int×Int):=
 rec1 x0 x1 (IntKind.wrap .i64 (x2+1)) x3 x4
noncomputable def i69_j2 (m:Nat) (self70:Dt→Int→Int→Option (Bool×Int×Int)) (rec1:List Dt→Int→Int→Int→Int→Option (Int×Int)) (x0:List Dt) (x1 x2 x3 x4:Int):Option (Int×Int):=
  ((idx x0 x2).bind fun v0=>
    ((self70 v0 x3 x4).bind fun r1=>
 (bif (Bool.not r1.1) then
 some (r1.2.1,r1.2.2)
 else
 i69_j3 m self70 rec1 x0 x1 x2 r1.2.1 r1.2.2)))
noncomputable def i69_l1 (m:Nat) (self70:Dt→Int→Int→Option (Bool×Int×Int)):Nat→List Dt→Int→Int→Int→Int→Option (Int×Int)
 |0,_,_,_,_,_=>none
 |M1+1,x0,x1,x2,x3,x4=>
  (bif (decide (x2<x1)) then
  i69_j2 m self70 (i69_l1 m self70 M1) x0 x1 x2 x3 x4
 else
  some (x3,x4))
noncomputable def i69_j0 (m:Nat) (self70:Dt→Int→Int→Option (Bool×Int×Int)) (x0:List Dt) (x1 x2 x3 x4:Int):Option (Int×Int):=
 i69_l1 m self70 (Nat.succ m) x0 x1 x2 x3 x4
noncomputable def i69_j7 (m:Nat) (self70:Dt→Int→Int→Option (Bool×Int×Int)) (rec5:List Dt→Int→Int→Int→Int→Option (Int×Int)) (x0:List Dt) (x1 x2 x3 x4:Int):Option (Int×Int):=
 rec5 x0 x1 (IntKind.wrap .i64 (x2+1)) x3 x4
noncomputable def i69_j6 (m:Nat) (self70:Dt→Int→Int→Option (Bool×Int×Int)) (rec5:List Dt→Int→Int→Int→Int→Option (Int×Int)) (x0:List Dt) (x1 x2 x3 x4:Int):Option (Int×Int):=
  ((idx x0 x2).bind fun v2=>
    ((self70 (Dt.fld v2 1) x3 x4).bind fun r3=>
 (bif (Bool.not r3.1) then
 some (r3.2.1,r3.2.2)
 else
 i69_j7 m self70 rec5 x0 x1 x2 r3.2.1 r3.2.2)))
noncomputable def i69_l5 (m:Nat) (self70:Dt→Int→Int→Option (Bool×Int×Int)):Nat→List Dt→Int→Int→Int→Int→Option (Int×Int)
 |0,_,_,_,_,_=>none
 |M5+1,x0,x1,x2,x3,x4=>
  (bif (decide (x2<x1)) then
  i69_j6 m self70 (i69_l5 m self70 M5) x0 x1 x2 x3 x4
 else
  some (x3,x4))
noncomputable def i69_j4 (m:Nat) (self70:Dt→Int→Int→Option (Bool×Int×Int)) (x0:List Dt) (x1 x2 x3 x4:Int):Option (Int×Int):=
 i69_l5 m self70 (Nat.succ m) x0 x1 x2 x3 x4
mutual
noncomputable def zY:Nat→Dt→Int→Option Int
 |0,_,_=>none
 |m+1,a0,a1=>
  (bif (a1==1) then
  some 1
 else
  zY_j0 m (i69 m) a0 a1)
noncomputable def i69:Nat→Dt→Int→Int→Option (Int×Int)
  |0,_,_,_=>none
  |m+1,a0,a1,a2=>
   (bif ((Dt.I a0 0)==6) then
   i69_j0 m (i70 m) (Dt.L a0 3) (List.length (Dt.L a0 3):Int) 0 a1 a2
  else
   (bif ((Dt.I a0 0)==5) then
 i69_j4 m (i70 m) (Dt.L a0 4) (List.length (Dt.L a0 4):Int) 0 a1 a2
   else
 some (a1,a2)))
noncomputable def i70:Nat→Dt→Int→Int→Option (Bool×Int×Int)
 |0,_,_,_=>none
 |m+1,a0,a1,a2=>
  ((zY m a0 (IntKind.wrap .i64 (a2-1))).bind fun r0=>
  some ((decide ((bif (decide (a1<r0)) then r0 else a1)<(IntKind.wrap .i64 (a2-1)))),(bif (decide (a1<r0)) then r0 else a1),a2))
end
noncomputable def yG:Nat→Dt→Option Int
 |0,_=>none
 |m+1,a0=>
  ((zY m a0 17).bind fun r0=>
  some r0)
noncomputable def yE:Nat→Int→Option Int
 |0,_=>none
 |m+1,a0=>
  some (xorI IntKind.u64 (shlI IntKind.u64 (IntKind.wrap IntKind.u64 a0) 1) (IntKind.wrap IntKind.u64 (shrI IntKind.i64 a0 63)))
noncomputable def qZ_j3 (m:Nat) (rec1:Int→Int→Option Int) (x0 x1:Int):Option Int:=
 rec1 x0 (shrI IntKind.u64 x1 7)
noncomputable def qZ_j2 (m:Nat) (rec1:Int→Int→Option Int) (x0 x1:Int):Option Int:=
 qZ_j3 m rec1 (IntKind.wrap .i64 (x0+1)) x1
noncomputable def qZ_j4 (m:Nat) (x0:Int):Option Int:=
 some x0
noncomputable def qZ_l1 (m:Nat):Nat→Int→Int→Option Int
 |0,_,_=>none
 |M1+1,x0,x1=>
  (bif (decide (128≤x1)) then
  qZ_j2 m (qZ_l1 m M1) x0 x1
 else
  qZ_j4 m x0)
noncomputable def qZ_j0 (m:Nat) (x0 x1:Int):Option Int:=
 qZ_l1 m (Nat.succ m) x0 x1
noncomputable def qZ:Nat→Int→Option Int
 |0,_=>none
 |m+1,a0=>
  ((yE m a0).bind fun r0=>
  qZ_j0 m 1 r0)
noncomputable def qF_j1 (m:Nat) (self30:Dt→Option Int) (x0:Int):Option Int:=
 some x0
noncomputable def qF_j6 (m:Nat) (self30:Dt→Option Int) (rec4:Int→List Dt→Int→Int→Option Int) (x0:Int) (x1:List Dt) (x2 x3:Int):Option Int:=
 rec4 x0 x1 x2 (IntKind.wrap .i64 (x3+1))
noncomputable def qF_j5 (m:Nat) (self30:Dt→Option Int) (rec4:Int→List Dt→Int→Int→Option Int) (x0:Int) (x1:List Dt) (x2 x3:Int):Option Int:=
  ((idx x1 x3).bind fun v3=>
    ((self30 v3).bind fun r4=>
 qF_j6 m self30 rec4 (IntKind.wrap .i64 (x0+r4)) x1 x2 x3))
noncomputable def qF_l4 (m:Nat) (self30:Dt→Option Int):Nat→Int→List Dt→Int→Int→Option Int
 |0,_,_,_,_=>none
 |M4+1,x0,x1,x2,x3=>
  (bif (decide (x3<x2)) then
  qF_j5 m self30 (qF_l4 m self30 M4) x0 x1 x2 x3
 else
  qF_j1 m self30 x0)
noncomputable def qF_j3 (m:Nat) (self30:Dt→Option Int) (x0:Int) (x1:List Dt) (x2 x3:Int):Option Int:=
 qF_l4 m self30 (Nat.succ m) x0 x1 x2 x3
noncomputable def qF_j10 (m:Nat) (self30:Dt→Option Int) (rec8:Int→List Dt→Int→Int→Option Int) (x0:Int) (x1:List Dt) (x2 x3:Int):Option Int:=
 rec8 x0 x1 x2 (IntKind.wrap .i64 (x3+1))
noncomputable def qF_j9 (m:Nat) (self30:Dt→Option Int) (rec8:Int→List Dt→Int→Int→Option Int) (x0:Int) (x1:List Dt) (x2 x3:Int):Option Int:=
  ((idx x1 x3).bind fun v6=>
    ((qZ m (ByteArray.size (Dt.S v6 0):Int)).bind fun r7=>
 ((self30 (Dt.fld v6 1)).bind fun r8=>
 qF_j10 m self30 rec8 (IntKind.wrap .i64 (x0+(IntKind.wrap .i64 ((IntKind.wrap .i64 (r7+(ByteArray.size (Dt.S v6 0):Int)))+r8)))) x1 x2 x3)))
noncomputable def qF_l8 (m:Nat) (self30:Dt→Option Int):Nat→Int→List Dt→Int→Int→Option Int
 |0,_,_,_,_=>none
 |M8+1,x0,x1,x2,x3=>
  (bif (decide (x3<x2)) then
  qF_j9 m self30 (qF_l8 m self30 M8) x0 x1 x2 x3
 else
  qF_j1 m self30 x0)
noncomputable def qF_j7 (m:Nat) (self30:Dt→Option Int) (x0:Int) (x1:List Dt) (x2 x3:Int):Option Int:=
 qF_l8 m self30 (Nat.succ m) x0 x1 x2 x3
noncomputable def qF_j2 (m:Nat) (self30:Dt→Option Int) (x0 x1:Int) (x2:Bool) (x3:Dt):Option Int:=
  (bif x2 then
   ((qZ m (ByteArray.size (Dt.S x3 2):Int)).bind fun r1=>
 qF_j1 m self30 (IntKind.wrap .i64 (x0+(IntKind.wrap .i64 (r1+(ByteArray.size (Dt.S x3 2):Int))))))
  else
   (bif (x1==8) then
 qF_j1 m self30 (IntKind.wrap .i64 (x0+(ByteArray.size (Dt.S x3 2):Int)))
   else
 (bif (x1==6) then
 ((qZ m (List.length (Dt.L x3 3):Int)).bind fun r2=>
 qF_j3 m self30 (IntKind.wrap .i64 (x0+r2)) (Dt.L x3 3) (List.length (Dt.L x3 3):Int) 0)
 else
 (bif (x1==5) then
 ((qZ m (List.length (Dt.L x3 4):Int)).bind fun r5=>
 qF_j7 m self30 (IntKind.wrap .i64 (x0+r5)) (Dt.L x3 4) (List.length (Dt.L x3 4):Int) 0)
 else
 qF_j1 m self30 x0))))
noncomputable def qF_j0 (m:Nat) (self30:Dt→Option Int) (x0 x1:Int) (x2:Bool) (x3:Dt):Option Int:=
  (bif x2 then
   ((qZ m (Dt.I x3 1)).bind fun r0=>
 qF_j1 m self30 (IntKind.wrap .i64 (x0+r0)))
  else
   (bif (x1==9) then
 qF_j1 m self30 (IntKind.wrap .i64 (x0+1))
   else
 (bif (x1==4) then
 qF_j2 m self30 x0 x1 (x1==4) x3
 else
 qF_j2 m self30 x0 x1 (x1==7) x3)))
noncomputable def qF:Nat→Dt→Option Int
 |0,_=>none
 |m+1,a0=>
  (bif ((Dt.I a0 0)==3) then
  qF_j0 m (qF m) 1 (Dt.I a0 0) ((Dt.I a0 0)==3) a0
 else
  qF_j0 m (qF m) 1 (Dt.I a0 0) ((Dt.I a0 0)==10) a0)
noncomputable def qL_j6 (m:Nat) (rec3:ByteArray→Int→Int→Option Bool) (x0:ByteArray) (x1 x2:Int):Option Bool:=
 rec3 x0 x1 (IntKind.wrap .i64 (x2+1))
noncomputable def qL_j5 (m:Nat) (rec3:ByteArray→Int→Int→Option Bool) (x0:ByteArray) (x1 x2:Int) (x3:Bool):Option Bool:=
 (bif x3 then
  some false
 else
  qL_j6 m rec3 x0 x1 x2)
noncomputable def qL_j4 (m:Nat) (rec3:ByteArray→Int→Int→Option Bool) (x0:ByteArray) (x1 x2:Int):Option Bool:=
  ((idxS x0 x2).bind fun v0=>
    (bif (decide (v0<33)) then
 qL_j5 m rec3 x0 x1 x2 true
    else
 ((idxS x0 x2).bind fun v1=>
 (bif (decide (126<v1)) then
 qL_j5 m rec3 x0 x1 x2 true
 else
 ((idxS x0 x2).bind fun v2=>
 qL_j5 m rec3 x0 x1 x2 (v2==46))))))
noncomputable def qL_j7 (m:Nat):Option Bool:=
 some true
noncomputable def qL_l3 (m:Nat):Nat→ByteArray→Int→Int→Option Bool
 |0,_,_,_=>none
 |M3+1,x0,x1,x2=>
  (bif (decide (x2<x1)) then
  qL_j4 m (qL_l3 m M3) x0 x1 x2
 else
  qL_j7 m)
noncomputable def qL_j2 (m:Nat) (x0:ByteArray) (x1 x2:Int):Option Bool:=
 qL_l3 m (Nat.succ m) x0 x1 x2
noncomputable def qL_j1 (m:Nat) (x0:ByteArray):Option Bool:=
 qL_j2 m x0 (ByteArray.size x0:Int) 0
noncomputable def qL_j0 (m:Nat) (x0:ByteArray) (x1:Bool):Option Bool:=
 (bif x1 then
  some false
 else
  qL_j1 m x0)
noncomputable def qL:Nat→ByteArray→Option Bool
  |0,_=>none
  |m+1,a0=>
   (bif (decide ((ByteArray.size a0:Int)<1)) then
   qL_j0 m a0 true
  else
   (bif (decide (32<(ByteArray.size a0:Int))) then
 qL_j0 m a0 true
   else
 ((idxS a0 0).bind fun v3=>
 qL_j0 m a0 (v3==36))))
noncomputable def qC_j10 (m:Nat) (self49:Dt→Option Bool) (self60:List Dt→Option Bool) (rec8:List Dt→Int→Int→Option Bool) (x0:List Dt) (x1 x2:Int):Option Bool:=
 rec8 x0 x1 (IntKind.wrap .i64 (x2+1))
noncomputable def qC_j9 (m:Nat) (self49:Dt→Option Bool) (self60:List Dt→Option Bool) (rec8:List Dt→Int→Int→Option Bool) (x0:List Dt) (x1 x2:Int):Option Bool:=
  ((idx x0 x2).bind fun v1=>
    ((self49 v1).bind fun r2=>
 (bif (Bool.not r2) then
 some false
 else
 qC_j10 m self49 self60 rec8 x0 x1 x2)))
noncomputable def qC_j11 (m:Nat) (self49:Dt→Option Bool) (self60:List Dt→Option Bool):Option Bool:=
 some true
noncomputable def qC_l8 (m:Nat) (self49:Dt→Option Bool) (self60:List Dt→Option Bool):Nat→List Dt→Int→Int→Option Bool
 |0,_,_,_=>none
 |M8+1,x0,x1,x2=>
  (bif (decide (x2<x1)) then
  qC_j9 m self49 self60 (qC_l8 m self49 self60 M8) x0 x1 x2
 else
  qC_j11 m self49 self60)
noncomputable def qC_j7 (m:Nat) (self49:Dt→Option Bool) (self60:List Dt→Option Bool) (x0:List Dt) (x1 x2:Int):Option Bool:=
 qC_l8 m self49 self60 (Nat.succ m) x0 x1 x2
noncomputable def qC_j12 (m:Nat) (self49:Dt→Option Bool) (self60:List Dt→Option Bool):Option Bool:=
 some false
noncomputable def qC_j6 (m:Nat) (self49:Dt→Option Bool) (self60:List Dt→Option Bool) (x0:Int) (x1:Bool) (x2:Dt):Option Bool:=
  (bif x1 then
   some true
  else
   (bif (x0==9) then
 (bif ((Dt.I x2 1)==0) then
 some true
 else
 some ((Dt.I x2 1)==1))
   else
 (bif (x0==10) then
 some (decide (0≤(Dt.I x2 1)))
 else
 (bif (x0==4) then
 (bif (decide ((ByteArray.size (Dt.S x2 2):Int)≤4096)) then
 ((utf8_ValidString (Dt.S x2 2)).bind fun r0=>
 some r0)
 else
 some false)
 else
 (bif (x0==7) then
 some (decide ((ByteArray.size (Dt.S x2 2):Int)≤4096))
 else
 (bif (x0==8) then
 some ((ByteArray.size (Dt.S x2 2):Int)==12)
 else
 (bif (x0==6) then
 qC_j7 m self49 self60 (Dt.L x2 3) (List.length (Dt.L x2 3):Int) 0
 else
 (bif (x0==5) then
 ((self60 (Dt.L x2 4)).bind fun r3=>
 some r3)
 else
 qC_j12 m self49 self60))))))))
noncomputable def qC_j5 (m:Nat) (self49:Dt→Option Bool) (self60:List Dt→Option Bool) (x0:Dt):Option Bool:=
  (bif ((Dt.I x0 0)==1) then
   qC_j6 m self49 self60 (Dt.I x0 0) ((Dt.I x0 0)==1) x0
  else
   (bif ((Dt.I x0 0)==2) then
 qC_j6 m self49 self60 (Dt.I x0 0) ((Dt.I x0 0)==2) x0
   else
 (bif ((Dt.I x0 0)==11) then
 qC_j6 m self49 self60 (Dt.I x0 0) ((Dt.I x0 0)==11) x0
 else
 qC_j6 m self49 self60 (Dt.I x0 0) ((Dt.I x0 0)==3) x0)))
noncomputable def qC_j4 (m:Nat) (self49:Dt→Option Bool) (self60:List Dt→Option Bool) (x0:Bool) (x1:Dt):Option Bool:=
 (bif x0 then
  some false
 else
  qC_j5 m self49 self60 x1)
noncomputable def qC_j3 (m:Nat) (self49:Dt→Option Bool) (self60:List Dt→Option Bool) (x0:Dt):Option Bool:=
  (bif ((Dt.I x0 0) !=6) then
   (bif (decide (0<(List.length (Dt.L x0 3):Int))) then
 qC_j4 m self49 self60 true x0
   else
 (bif ((Dt.I x0 0) !=5) then
 qC_j4 m self49 self60 (decide (0<(List.length (Dt.L x0 4):Int))) x0
 else
 qC_j4 m self49 self60 false x0))
  else
   (bif ((Dt.I x0 0) !=5) then
 qC_j4 m self49 self60 (decide (0<(List.length (Dt.L x0 4):Int))) x0
   else
 qC_j4 m self49 self60 false x0))
noncomputable def qC_j2 (m:Nat) (self49:Dt→Option Bool) (self60:List Dt→Option Bool) (x0:Bool) (x1:Dt):Option Bool:=
 (bif x0 then
  some false
 else
  qC_j3 m self49 self60 x1)
noncomputable def qC_j1 (m:Nat) (self49:Dt→Option Bool) (self60:List Dt→Option Bool) (x0 x1:Bool) (x2:Dt):Option Bool:=
  (bif (Bool.not x0) then
   (bif ((Dt.I x2 1) !=0) then
 qC_j2 m self49 self60 true x2
   else
 (bif (Bool.not x1) then
 qC_j2 m self49 self60 (Bool.not ((ByteArray.toList (Dt.S x2 2))==[])) x2
 else
 qC_j2 m self49 self60 false x2))
  else
   (bif (Bool.not x1) then
 qC_j2 m self49 self60 (Bool.not ((ByteArray.toList (Dt.S x2 2))==[])) x2
   else
 qC_j2 m self49 self60 false x2))
noncomputable def qC_j0 (m:Nat) (self49:Dt→Option Bool) (self60:List Dt→Option Bool) (x0:Bool) (x1:Dt):Option Bool:=
  (bif ((Dt.I x1 0)==4) then
   qC_j1 m self49 self60 x0 true x1
  else
   (bif ((Dt.I x1 0)==7) then
 qC_j1 m self49 self60 x0 true x1
   else
 qC_j1 m self49 self60 x0 ((Dt.I x1 0)==8) x1))
noncomputable def qI_j5 (m:Nat) (self49:Dt→Option Bool) (rec1:List Dt→Int→Int→List Dt→Option Bool) (x0:List Dt) (x1 x2:Int) (x3:List Dt):Option Bool:=
 rec1 x0 x1 (IntKind.wrap .i64 (x2+1)) x3
noncomputable def qI_j4 (m:Nat) (self49:Dt→Option Bool) (rec1:List Dt→Int→Int→List Dt→Option Bool) (x0:List Dt) (x1 x2:Int) (x3:List Dt) (x4:Dt):Option Bool:=
 qI_j5 m self49 rec1 x0 x1 x2 (mput x3 (Dt.S x4 0) (Dt.bool true))
noncomputable def qI_j3 (m:Nat) (self49:Dt→Option Bool) (rec1:List Dt→Int→Int→List Dt→Option Bool) (x0:List Dt) (x1 x2:Int) (x3:Bool) (x4:List Dt) (x5:Dt):Option Bool:=
 (bif x3 then
  some false
 else
  qI_j4 m self49 rec1 x0 x1 x2 x4 x5)
noncomputable def qI_j2 (m:Nat) (self49:Dt→Option Bool) (rec1:List Dt→Int→Int→List Dt→Option Bool) (x0:List Dt) (x1 x2:Int) (x3:List Dt):Option Bool:=
  ((idx x0 x2).bind fun v0=>
    ((qL m (Dt.S v0 0)).bind fun r1=>
 (bif (Bool.not r1) then
 qI_j3 m self49 rec1 x0 x1 x2 true x3 v0
 else
 (bif (Dt.toBool (mgetD x3 (Dt.S v0 0) (Dt.bool false))) then
 qI_j3 m self49 rec1 x0 x1 x2 true x3 v0
 else
 ((self49 (Dt.fld v0 1)).bind fun r2=>
 qI_j3 m self49 rec1 x0 x1 x2 (Bool.not r2) x3 v0)))))
noncomputable def qI_j6 (m:Nat) (self49:Dt→Option Bool):Option Bool:=
 some true
noncomputable def qI_l1 (m:Nat) (self49:Dt→Option Bool):Nat→List Dt→Int→Int→List Dt→Option Bool
 |0,_,_,_,_=>none
 |M1+1,x0,x1,x2,x3=>
  (bif (decide (x2<x1)) then
  qI_j2 m self49 (qI_l1 m self49 M1) x0 x1 x2 x3
 else
  qI_j6 m self49)
noncomputable def qI_j0 (m:Nat) (self49:Dt→Option Bool) (x0:List Dt) (x1 x2:Int) (x3:List Dt):Option Bool:=
 qI_l1 m self49 (Nat.succ m) x0 x1 x2 x3
mutual
noncomputable def qC:Nat→Dt→Option Bool
  |0,_=>none
  |m+1,a0=>
   (bif ((Dt.I a0 0)==3) then
   qC_j0 m (qC m) (qI m) true a0
  else
   (bif ((Dt.I a0 0)==9) then
 qC_j0 m (qC m) (qI m) true a0
   else
 qC_j0 m (qC m) (qI m) ((Dt.I a0 0)==10) a0))
noncomputable def qI:Nat→List Dt→Option Bool
 |0,_=>none
 |m+1,a0=>
  qI_j0 m (qC m) a0 (List.length a0:Int) 0 []
end
noncomputable def yK:Nat→Dt→Option Bool
  |0,_=>none
  |m+1,a0=>
   ((yF m a0).bind fun r0=>
   (bif (decide (r0≤1024)) then
 ((yG m a0).bind fun r1=>
 (bif (decide (r1≤16)) then
 ((qC m a0).bind fun r2=>
 some r2)
 else
 some false))
   else
 some false))
noncomputable def zW_j0 (m:Nat) (x0:Dt):Option (Int×Int):=
 ((qF m x0).bind fun r1=>
   some (r1,0))
noncomputable def zW:Nat→Dt→Option (Int×Int)
  |0,_=>none
  |m+1,a0=>
   ((yK m a0).bind fun r0=>
   (bif (Bool.not r0) then
 some (0,8)
   else
 zW_j0 m a0))
noncomputable def qQ_j6 (m:Nat) (rec2:List Dt→Int→Bool→Int→Int→List Dt→Int→Int→List Dt→Option (List Dt×Int)) (x0:List Dt) (x1:Int) (x2:Bool) (x3 x4:Int) (x5:List Dt) (x6 x7:Int) (x8:List Dt):Option (List Dt×Int):=
 rec2 x0 x1 x2 x3 x4 x5 x6 (IntKind.wrap .i64 (x7+1)) x8
noncomputable def qQ_j5 (m:Nat) (rec2:List Dt→Int→Bool→Int→Int→List Dt→Int→Int→List Dt→Option (List Dt×Int)) (x0:List Dt) (x1:Int) (x2:Bool) (x3 x4 x5:Int) (x6:List Dt) (x7 x8:Int) (x9:List Dt):Option (List Dt×Int):=
 qQ_j6 m rec2 x0 x1 x2 x3 (IntKind.wrap .i64 (x4+x5)) x6 x7 x8 x9
noncomputable def qQ_j4 (m:Nat) (rec2:List Dt→Int→Bool→Int→Int→List Dt→Int→Int→List Dt→Option (List Dt×Int)) (x0:List Dt) (x1:Int) (x2:Bool) (x3 x4 x5 x6:Int) (x7:List Dt) (x8 x9:Int) (x10:Bool) (x11:List Dt):Option (List Dt×Int):=
  (bif x10 then
   ((cutL x0 x3 x5).bind fun v2=>
 ((app x11 [(Dt.lst v2)]).bind fun v3=>
 qQ_j5 m rec2 x0 x1 x2 x5 0 x6 x7 x8 x9 v3))
  else
   qQ_j5 m rec2 x0 x1 x2 x3 x4 x6 x7 x8 x9 x11)
noncomputable def qQ_j3 (m:Nat) (rec2:List Dt→Int→Bool→Int→Int→List Dt→Int→Int→List Dt→Option (List Dt×Int)) (x0:List Dt) (x1:Int) (x2:Bool) (x3 x4:Int) (x5:List Dt) (x6 x7:Int) (x8:List Dt):Option (List Dt×Int):=
  ((idx x5 x7).bind fun v0=>
    ((zW m v0).bind fun r1=>
 (bif (decide (x3<x7)) then
 qQ_j4 m rec2 x0 x1 x2 x3 x4 x7 r1.1 x5 x6 x7 (decide ((IntKind.wrap .i64 (x1-x4))<r1.1)) x8
 else
 qQ_j4 m rec2 x0 x1 x2 x3 x4 x7 r1.1 x5 x6 x7 false x8)))
noncomputable def qQ_j10 (m:Nat) (x0:List Dt) (x1:Int) (x2:List Dt):Option (List Dt×Int):=
  ((cutL x0 x1 (List.length x0:Int)).bind fun v4=>
    ((app x2 [(Dt.lst v4)]).bind fun v5=>
 some (v5,0)))
noncomputable def qQ_j9 (m:Nat) (x0:List Dt) (x1:Bool) (x2:Int) (x3:List Dt):Option (List Dt×Int):=
 (bif (Bool.not x1) then
  some ([],22)
 else
  qQ_j10 m x0 x2 x3)
noncomputable def qQ_j8 (m:Nat) (x0:List Dt) (x1:Bool) (x2:Int) (x3:Bool) (x4:List Dt):Option (List Dt×Int):=
 (bif x3 then
  some ([],0)
 else
  qQ_j9 m x0 x1 x2 x4)
noncomputable def qQ_j7 (m:Nat) (x0:List Dt) (x1:Int) (x2:Bool) (x3 x4:Int) (x5:List Dt):Option (List Dt×Int):=
 (bif ((List.length x5:Int)==0) then
  qQ_j8 m x0 x2 x3 (decide (x4≤x1)) x5
 else
  qQ_j8 m x0 x2 x3 false x5)
noncomputable def qQ_l2 (m:Nat):Nat→List Dt→Int→Bool→Int→Int→List Dt→Int→Int→List Dt→Option (List Dt×Int)
 |0,_,_,_,_,_,_,_,_,_=>none
 |M2+1,x0,x1,x2,x3,x4,x5,x6,x7,x8=>
  (bif (decide (x7<x6)) then
  qQ_j3 m (qQ_l2 m M2) x0 x1 x2 x3 x4 x5 x6 x7 x8
 else
  qQ_j7 m x0 x1 x2 x3 x4 x8)
noncomputable def qQ_j1 (m:Nat) (x0:List Dt) (x1:Int) (x2:Bool) (x3 x4:Int) (x5:List Dt) (x6 x7:Int) (x8:List Dt):Option (List Dt×Int):=
 qQ_l2 m (Nat.succ m) x0 x1 x2 x3 x4 x5 x6 x7 x8
noncomputable def qQ_j0 (m:Nat) (x0:List Dt) (x1:Int) (x2:Bool):Option (List Dt×Int):=
 qQ_j1 m x0 x1 x2 0 0 x0 (List.length x0:Int) 0 []
noncomputable def qQ:Nat→List Dt→Int→Bool→Option (List Dt×Int)
 |0,_,_,_=>none
 |m+1,a0,a1,a2=>
  (bif (decide (a1<1)) then
  some ([],1)
 else
  qQ_j0 m a0 a1 a2)
noncomputable def zR_j3 (m:Nat) (rec1:List Dt→ByteArray→Int→Int→Option Int) (x0:List Dt) (x1:ByteArray) (x2 x3:Int):Option Int:=
 rec1 x0 x1 x2 (IntKind.wrap .i64 (x3+1))
noncomputable def zR_j2 (m:Nat) (rec1:List Dt→ByteArray→Int→Int→Option Int) (x0:List Dt) (x1:ByteArray) (x2 x3:Int):Option Int:=
  ((idx x0 x3).bind fun v0=>
    (bif ((ByteArray.toList (Dt.S v0 0))==(ByteArray.toList x1)) then
 some x3
    else
 zR_j3 m rec1 x0 x1 x2 x3))
noncomputable def zR_j4 (m:Nat):Option Int:=
 some (-1)
noncomputable def zR_l1 (m:Nat):Nat→List Dt→ByteArray→Int→Int→Option Int
 |0,_,_,_,_=>none
 |M1+1,x0,x1,x2,x3=>
  (bif (decide (x3<x2)) then
  zR_j2 m (zR_l1 m M1) x0 x1 x2 x3
 else
  zR_j4 m)
noncomputable def zR_j0 (m:Nat) (x0:List Dt) (x1:ByteArray) (x2 x3:Int):Option Int:=
 zR_l1 m (Nat.succ m) x0 x1 x2 x3
noncomputable def zR:Nat→List Dt→ByteArray→Option Int
 |0,_,_=>none
 |m+1,a0,a1=>
  zR_j0 m a0 a1 (List.length a0:Int) 0
noncomputable def zD_j7 (m:Nat) (rec3:ByteArray→Int→Int→Int→Option (Int×Bool)) (x0:ByteArray) (x1 x2 x3:Int):Option (Int×Bool):=
 rec3 x0 x1 x2 (IntKind.wrap .i64 (x3+1))
noncomputable def zD_j6 (m:Nat) (rec3:ByteArray→Int→Int→Int→Option (Int×Bool)) (x0:ByteArray) (x1 x2 x3 x4:Int):Option (Int×Bool):=
 ((idxS x0 x2).bind fun v1=>
   zD_j7 m rec3 x0 (IntKind.wrap .i64 ((IntKind.wrap .i64 (10*x1))+(IntKind.wrap .i64 (IntKind.wrap IntKind.u8 (v1-48))))) x3 x4)
noncomputable def zD_j5 (m:Nat) (rec3:ByteArray→Int→Int→Int→Option (Int×Bool)) (x0:ByteArray) (x1 x2 x3 x4:Int) (x5:Bool):Option (Int×Bool):=
 (bif x5 then
  some (0,false)
 else
  zD_j6 m rec3 x0 x1 x2 x3 x4)
noncomputable def zD_j4 (m:Nat) (rec3:ByteArray→Int→Int→Int→Option (Int×Bool)) (x0:ByteArray) (x1 x2 x3:Int):Option (Int×Bool):=
  ((idxS x0 x3).bind fun v0=>
    (bif (decide (v0<48)) then
 zD_j5 m rec3 x0 x1 x3 x2 x3 true
    else
 ((idxS x0 x3).bind fun v2=>
 zD_j5 m rec3 x0 x1 x3 x2 x3 (decide (57<v2)))))
noncomputable def zD_j8 (m:Nat) (x0:Int):Option (Int×Bool):=
 some (x0,true)
noncomputable def zD_l3 (m:Nat):Nat→ByteArray→Int→Int→Int→Option (Int×Bool)
 |0,_,_,_,_=>none
 |M3+1,x0,x1,x2,x3=>
  (bif (decide (x3<x2)) then
  zD_j4 m (zD_l3 m M3) x0 x1 x2 x3
 else
  zD_j8 m x1)
noncomputable def zD_j2 (m:Nat) (x0:ByteArray) (x1 x2 x3:Int):Option (Int×Bool):=
 zD_l3 m (Nat.succ m) x0 x1 x2 x3
noncomputable def zD_j1 (m:Nat) (x0:ByteArray):Option (Int×Bool):=
 zD_j2 m x0 0 (ByteArray.size x0:Int) 0
noncomputable def zD_j0 (m:Nat) (x0:ByteArray) (x1:Bool):Option (Int×Bool):=
 (bif x1 then
  some (0,false)
 else
  zD_j1 m x0)
noncomputable def zD:Nat→ByteArray→Option (Int×Bool)
  |0,_=>none
  |m+1,a0=>
   (bif (decide ((ByteArray.size a0:Int)<1)) then
   zD_j0 m a0 true
  else
   (bif (decide (4<(ByteArray.size a0:Int))) then
 zD_j0 m a0 true
   else
 ((idxS a0 0).bind fun v3=>
 (bif (v3==48) then
 zD_j0 m a0 (decide (1<(ByteArray.size a0:Int)))
 else
 zD_j0 m a0 false))))
noncomputable def i72_j1 (m:Nat) (self72:Dt→List Dt→List Dt→Option (List Dt)) (x0:List Dt):Option (List Dt):=
 some x0
noncomputable def i72_j5 (m:Nat) (self72:Dt→List Dt→List Dt→Option (List Dt)) (rec3:List Dt→List Dt→Int→Int→List Dt→Dt→Option (List Dt)) (x0 x1:List Dt) (x2 x3:Int) (x4:List Dt) (x5:Dt):Option (List Dt):=
 rec3 x0 x1 x2 (IntKind.wrap .i64 (x3+1)) x4 x5
noncomputable def i72_j4 (m:Nat) (self72:Dt→List Dt→List Dt→Option (List Dt)) (rec3:List Dt→List Dt→Int→Int→List Dt→Dt→Option (List Dt)) (x0 x1:List Dt) (x2 x3:Int) (x4:List Dt) (x5:Dt):Option (List Dt):=
  ((idx x1 x3).bind fun v6=>
    (bif ((Dt.I v6 0)==5) then
 ((self72 v6 x0 x4).bind fun r7=>
 i72_j5 m self72 rec3 x0 x1 x2 x3 r7 x5)
    else
 i72_j5 m self72 rec3 x0 x1 x2 x3 x4 x5))
noncomputable def i72_j7 (m:Nat) (self72:Dt→List Dt→List Dt→Option (List Dt)) (x0:List Dt) (x1:Int) (x2:Bool) (x3:List Dt) (x4:Dt):Option (List Dt):=
  (bif x2 then
   ((idx (Dt.L x4 3) x1).bind fun v10=>
 ((cutL x0 1 (List.length x0:Int)).bind fun v11=>
 ((self72 v10 v11 x3).bind fun r12=>
 i72_j1 m self72 r12)))
  else
   i72_j1 m self72 x3)
noncomputable def i72_j6 (m:Nat) (self72:Dt→List Dt→List Dt→Option (List Dt)) (x0 x1:List Dt) (x2:Dt):Option (List Dt):=
  ((idx x0 0).bind fun v8=>
    ((zD m (Dt.toStr v8)).bind fun r9=>
 (bif r9.2 then
 i72_j7 m self72 x0 r9.1 (decide (r9.1<(List.length (Dt.L x2 3):Int))) x1 x2
 else
 i72_j7 m self72 x0 r9.1 false x1 x2)))
noncomputable def i72_l3 (m:Nat) (self72:Dt→List Dt→List Dt→Option (List Dt)):Nat→List Dt→List Dt→Int→Int→List Dt→Dt→Option (List Dt)
 |0,_,_,_,_,_,_=>none
 |M3+1,x0,x1,x2,x3,x4,x5=>
  (bif (decide (x3<x2)) then
  i72_j4 m self72 (i72_l3 m self72 M3) x0 x1 x2 x3 x4 x5
 else
  i72_j6 m self72 x0 x4 x5)
noncomputable def i72_j2 (m:Nat) (self72:Dt→List Dt→List Dt→Option (List Dt)) (x0 x1:List Dt) (x2 x3:Int) (x4:List Dt) (x5:Dt):Option (List Dt):=
 i72_l3 m self72 (Nat.succ m) x0 x1 x2 x3 x4 x5
noncomputable def i72_j0 (m:Nat) (self72:Dt→List Dt→List Dt→Option (List Dt)) (x0 x1:List Dt) (x2:Dt):Option (List Dt):=
  (bif ((Dt.I x2 0)==5) then
   ((idx x0 0).bind fun v1=>
 ((zR m (Dt.L x2 4) (Dt.toStr v1)).bind fun r2=>
 (bif (decide (0≤r2)) then
 ((idx (Dt.L x2 4) r2).bind fun v3=>
 ((cutL x0 1 (List.length x0:Int)).bind fun v4=>
 ((self72 (Dt.fld v3 1) v4 x1).bind fun r5=>
 i72_j1 m self72 r5)))
 else
 i72_j1 m self72 x1)))
  else
   (bif ((Dt.I x2 0)==6) then
 i72_j2 m self72 x0 (Dt.L x2 3) (List.length (Dt.L x2 3):Int) 0 x1 x2
   else
 i72_j1 m self72 x1))
noncomputable def i72:Nat→Dt→List Dt→List Dt→Option (List Dt)
  |0,_,_,_=>none
  |m+1,a0,a1,a2=>
   (bif ((List.length a1:Int)==0) then
   ((app a2 [a0]).bind fun v0=>
 some v0)
  else
   i72_j0 m (i72 m) a1 a2 a0)
noncomputable def qN_j3 (m:Nat) (self75:Dt→Option (Int×Int×ByteArray×List Dt×List Dt)) (rec1:List Dt→Int→Int→Dt→Dt→Int→Int→ByteArray→List Dt→List Dt→Option (Int×Int×ByteArray×List Dt×List Dt)) (x0:List Dt) (x1 x2:Int) (x3 x4:Dt) (x5 x6:Int) (x7:ByteArray) (x8 x9:List Dt):Option (Int×Int×ByteArray×List Dt×List Dt):=
 rec1 x0 x1 (IntKind.wrap .i64 (x2+1)) x3 x4 x5 x6 x7 x8 x9
noncomputable def qN_j2 (m:Nat) (self75:Dt→Option (Int×Int×ByteArray×List Dt×List Dt)) (rec1:List Dt→Int→Int→Dt→Dt→Int→Int→ByteArray→List Dt→List Dt→Option (Int×Int×ByteArray×List Dt×List Dt)) (x0:List Dt) (x1 x2:Int) (x3 x4:Dt) (x5 x6:Int) (x7:ByteArray) (x8 x9:List Dt):Option (Int×Int×ByteArray×List Dt×List Dt):=
  ((idx x0 x2).bind fun v1=>
    ((self75 v1).bind fun r2=>
 ((inL x8 x2).bind fun v3=>
 ((x8[(Int.toNat x2)]?).bind fun v4=>
 qN_j3 m self75 rec1 x0 x1 x2 x3 x4 x5 x6 x7 (List.set x8 (Int.toNat x2) (Dt.agg [(Dt.int r2.1),(Dt.int r2.2.1),(Dt.str r2.2.2.1),(Dt.lst r2.2.2.2.1),(Dt.lst r2.2.2.2.2)])) x9))))
noncomputable def qN_j8 (m:Nat) (self75:Dt→Option (Int×Int×ByteArray×List Dt×List Dt)) (rec6:List Dt→Int→Int→Dt→Int→Int→ByteArray→List Dt→List Dt→Option (Int×Int×ByteArray×List Dt×List Dt)) (x0:List Dt) (x1 x2:Int) (x3:Dt) (x4 x5:Int) (x6:ByteArray) (x7 x8:List Dt):Option (Int×Int×ByteArray×List Dt×List Dt):=
 rec6 x0 x1 (IntKind.wrap .i64 (x2+1)) x3 x4 x5 x6 x7 x8
noncomputable def qN_j7 (m:Nat) (self75:Dt→Option (Int×Int×ByteArray×List Dt×List Dt)) (rec6:List Dt→Int→Int→Dt→Int→Int→ByteArray→List Dt→List Dt→Option (Int×Int×ByteArray×List Dt×List Dt)) (x0:List Dt) (x1 x2:Int) (x3:Dt) (x4 x5:Int) (x6:ByteArray) (x7 x8:List Dt):Option (Int×Int×ByteArray×List Dt×List Dt):=
  ((idx x0 x2).bind fun v6=>
    ((self75 (Dt.fld v6 1)).bind fun r7=>
 ((inL x8 x2).bind fun v8=>
 ((x8[(Int.toNat x2)]?).bind fun v9=>
 qN_j8 m self75 rec6 x0 x1 x2 x3 x4 x5 x6 x7 (List.set x8 (Int.toNat x2) (Dt.agg [(Dt.str (Dt.S v6 0)),(Dt.agg [(Dt.int r7.1),(Dt.int r7.2.1),(Dt.str r7.2.2.1),(Dt.lst r7.2.2.2.1),(Dt.lst r7.2.2.2.2)])]))))))
noncomputable def qN_j9 (m:Nat) (self75:Dt→Option (Int×Int×ByteArray×List Dt×List Dt)) (x0:Dt) (x1 x2:Int) (x3:ByteArray) (x4 x5:List Dt):Option (Int×Int×ByteArray×List Dt×List Dt):=
 some (x1,x2,x3,x4,x5)
noncomputable def qN_l6 (m:Nat) (self75:Dt→Option (Int×Int×ByteArray×List Dt×List Dt)):Nat→List Dt→Int→Int→Dt→Int→Int→ByteArray→List Dt→List Dt→Option (Int×Int×ByteArray×List Dt×List Dt)
 |0,_,_,_,_,_,_,_,_,_=>none
 |M6+1,x0,x1,x2,x3,x4,x5,x6,x7,x8=>
  (bif (decide (x2<x1)) then
  qN_j7 m self75 (qN_l6 m self75 M6) x0 x1 x2 x3 x4 x5 x6 x7 x8
 else
  qN_j9 m self75 x3 x4 x5 x6 x7 x8)
noncomputable def qN_j5 (m:Nat) (self75:Dt→Option (Int×Int×ByteArray×List Dt×List Dt)) (x0:List Dt) (x1 x2:Int) (x3:Dt) (x4 x5:Int) (x6:ByteArray) (x7 x8:List Dt):Option (Int×Int×ByteArray×List Dt×List Dt):=
 qN_l6 m self75 (Nat.succ m) x0 x1 x2 x3 x4 x5 x6 x7 x8
noncomputable def qN_j4 (m:Nat) (self75:Dt→Option (Int×Int×ByteArray×List Dt×List Dt)) (x0 x1:Dt) (x2 x3:Int) (x4:ByteArray) (x5 x6:List Dt):Option (Int×Int×ByteArray×List Dt×List Dt):=
  (bif (decide (0<(List.length (Dt.L x0 4):Int))) then
   ((mkL (List.length (Dt.L x0 4):Int) (List.length (Dt.L x0 4):Int) kzcda49).bind fun v5=>
 qN_j5 m self75 (Dt.L x0 4) (List.length (Dt.L x0 4):Int) 0 x1 x2 x3 x4 x5 v5)
  else
   qN_j9 m self75 x1 x2 x3 x4 x5 x6)
noncomputable def qN_l1 (m:Nat) (self75:Dt→Option (Int×Int×ByteArray×List Dt×List Dt)):Nat→List Dt→Int→Int→Dt→Dt→Int→Int→ByteArray→List Dt→List Dt→Option (Int×Int×ByteArray×List Dt×List Dt)
 |0,_,_,_,_,_,_,_,_,_,_=>none
 |M1+1,x0,x1,x2,x3,x4,x5,x6,x7,x8,x9=>
  (bif (decide (x2<x1)) then
  qN_j2 m self75 (qN_l1 m self75 M1) x0 x1 x2 x3 x4 x5 x6 x7 x8 x9
 else
  qN_j4 m self75 x3 x4 x5 x6 x7 x8 x9)
noncomputable def qN_j0 (m:Nat) (self75:Dt→Option (Int×Int×ByteArray×List Dt×List Dt)) (x0:List Dt) (x1 x2:Int) (x3 x4:Dt) (x5 x6:Int) (x7:ByteArray) (x8 x9:List Dt):Option (Int×Int×ByteArray×List Dt×List Dt):=
 qN_l1 m self75 (Nat.succ m) x0 x1 x2 x3 x4 x5 x6 x7 x8 x9
noncomputable def qN:Nat→Dt→Option (Int×Int×ByteArray×List Dt×List Dt)
  |0,_=>none
  |m+1,a0=>
   (bif (decide (0<(List.length (Dt.L a0 3):Int))) then
   ((mkL (List.length (Dt.L a0 3):Int) (List.length (Dt.L a0 3):Int) kza2373).bind fun v0=>
 qN_j0 m (qN m) (Dt.L a0 3) (List.length (Dt.L a0 3):Int) 0 a0 kza2373 (Dt.I a0 0) (Dt.I a0 1) (Dt.S a0 2) v0 [])
  else
   qN_j4 m (qN m) a0 kza2373 (Dt.I a0 0) (Dt.I a0 1) (Dt.S a0 2) [] [])
noncomputable def zP_j4 (m:Nat) (rec2:Int→Int→List Dt→Option (List Dt)) (x0 x1:Int) (x2:List Dt):Option (List Dt):=
 rec2 x0 (IntKind.wrap .i64 (x1+1)) x2
noncomputable def zP_j3 (m:Nat) (rec2:Int→Int→List Dt→Option (List Dt)) (x0 x1:Int) (x2:List Dt):Option (List Dt):=
  ((inL x2 x1).bind fun v1=>
    ((x2[(Int.toNat x1)]?).bind fun v2=>
 ((qN m v2).bind fun r3=>
 ((inL x2 x1).bind fun v4=>
 ((x2[(Int.toNat x1)]?).bind fun v5=>
 zP_j4 m rec2 x0 x1 (List.set x2 (Int.toNat x1) (Dt.agg [(Dt.int r3.1),(Dt.int r3.2.1),(Dt.str r3.2.2.1),(Dt.lst r3.2.2.2.1),(Dt.lst r3.2.2.2.2)])))))))
noncomputable def zP_j5 (m:Nat) (x0:List Dt):Option (List Dt):=
 some x0
noncomputable def zP_l2 (m:Nat):Nat→Int→Int→List Dt→Option (List Dt)
 |0,_,_,_=>none
 |M2+1,x0,x1,x2=>
  (bif (decide (x1<x0)) then
  zP_j3 m (zP_l2 m M2) x0 x1 x2
 else
  zP_j5 m x2)
noncomputable def zP_j1 (m:Nat) (x0 x1:Int) (x2:List Dt):Option (List Dt):=
 zP_l2 m (Nat.succ m) x0 x1 x2
noncomputable def zP_j0 (m:Nat) (x0:List Dt):Option (List Dt):=
 zP_j1 m (List.length x0:Int) 0 x0
noncomputable def zP:Nat→Dt→List Dt→Option (List Dt)
  |0,_,_=>none
  |m+1,a0,a1=>
   ((i72 m a0 a1 []).bind fun r0=>
   (bif ((List.length r0:Int)==0) then
 some [kza2373]
   else
 zP_j0 m r0))
noncomputable def yL:Nat→Int→Option Bool
 |0,_=>none
 |m+1,a0=>
  some (a0 !=a0)
noncomputable def zM_j0 (m:Nat):Option Int:=
 some (-1)
noncomputable def zM_j4 (m:Nat):Option Int:=
 some 0
noncomputable def zM_j3 (m:Nat) (x0 x1:Int):Option Int:=
 (bif (decide (x1<x0)) then
  some 1
 else
  zM_j4 m)
noncomputable def zM_j2 (m:Nat) (x0 x1:Int):Option Int:=
 (bif (decide (x0<x1)) then
  some (-1)
 else
  zM_j3 m x0 x1)
noncomputable def zM_j1 (m:Nat) (x0 x1:Int) (x2:Bool):Option Int:=
 (bif x2 then
  some 1
 else
  zM_j2 m x0 x1)
noncomputable def zM:Nat→Int→Int→Option Int
  |0,_,_=>none
  |m+1,a0,a1=>
   ((yL m a0).bind fun r0=>
   ((yL m a1).bind fun r1=>
 (bif r0 then
 (bif r1 then
 some 0
 else
 zM_j0 m)
 else
 zM_j1 m a0 a1 r1)))
noncomputable def qD_j6 (m:Nat) (self52:Dt→Dt→Option Int) (rec4:Int→Int→Dt→Dt→Option Int) (x0 x1:Int) (x2 x3:Dt):Option Int:=
 rec4 x0 (IntKind.wrap .i64 (x1+1)) x2 x3
noncomputable def qD_j5 (m:Nat) (self52:Dt→Dt→Option Int) (rec4:Int→Int→Dt→Dt→Option Int) (x0 x1:Int) (x2 x3:Dt):Option Int:=
  ((idx (Dt.L x2 3) x1).bind fun v3=>
    ((idx (Dt.L x3 3) x1).bind fun v4=>
 ((self52 v3 v4).bind fun r5=>
 (bif (r5 !=0) then
 some r5
 else
 qD_j6 m self52 rec4 x0 x1 x2 x3))))
noncomputable def qD_j7 (m:Nat) (self52:Dt→Dt→Option Int) (x0 x1:Dt):Option Int:=
 ((zM m (List.length (Dt.L x0 3):Int) (List.length (Dt.L x1 3):Int)).bind fun r6=>
   some r6)
noncomputable def qD_l4 (m:Nat) (self52:Dt→Dt→Option Int):Nat→Int→Int→Dt→Dt→Option Int
 |0,_,_,_,_=>none
 |M4+1,x0,x1,x2,x3=>
  (bif (decide (x1<x0)) then
  qD_j5 m self52 (qD_l4 m self52 M4) x0 x1 x2 x3
 else
  qD_j7 m self52 x2 x3)
noncomputable def qD_j3 (m:Nat) (self52:Dt→Dt→Option Int) (x0 x1:Int) (x2 x3:Dt):Option Int:=
 qD_l4 m self52 (Nat.succ m) x0 x1 x2 x3
noncomputable def qD_j12 (m:Nat) (self52:Dt→Dt→Option Int) (rec9:Int→Int→Dt→Dt→Option Int) (x0 x1:Int) (x2 x3:Dt):Option Int:=
 rec9 x0 (IntKind.wrap .i64 (x1+1)) x2 x3
noncomputable def qD_j11 (m:Nat) (self52:Dt→Dt→Option Int) (rec9:Int→Int→Dt→Dt→Option Int) (x0 x1 x2:Int) (x3 x4:Dt):Option Int:=
  ((idx (Dt.L x3 4) x0).bind fun v10=>
    ((idx (Dt.L x4 4) x0).bind fun v11=>
 ((self52 (Dt.fld v10 1) (Dt.fld v11 1)).bind fun r12=>
 (bif (r12 !=0) then
 some r12
 else
 qD_j12 m self52 rec9 x1 x2 x3 x4))))
noncomputable def qD_j10 (m:Nat) (self52:Dt→Dt→Option Int) (rec9:Int→Int→Dt→Dt→Option Int) (x0 x1:Int) (x2 x3:Dt):Option Int:=
  ((idx (Dt.L x2 4) x1).bind fun v7=>
    ((idx (Dt.L x3 4) x1).bind fun v8=>
 ((strings_Compare (Dt.S v7 0) (Dt.S v8 0)).bind fun r9=>
 (bif (r9 !=0) then
 some r9
 else
 qD_j11 m self52 rec9 x1 x0 x1 x2 x3))))
noncomputable def qD_j13 (m:Nat) (self52:Dt→Dt→Option Int) (x0 x1:Dt):Option Int:=
 ((zM m (List.length (Dt.L x0 4):Int) (List.length (Dt.L x1 4):Int)).bind fun r13=>
   some r13)
noncomputable def qD_l9 (m:Nat) (self52:Dt→Dt→Option Int):Nat→Int→Int→Dt→Dt→Option Int
 |0,_,_,_,_=>none
 |M9+1,x0,x1,x2,x3=>
  (bif (decide (x1<x0)) then
  qD_j10 m self52 (qD_l9 m self52 M9) x0 x1 x2 x3
 else
  qD_j13 m self52 x2 x3)
noncomputable def qD_j8 (m:Nat) (self52:Dt→Dt→Option Int) (x0 x1:Int) (x2 x3:Dt):Option Int:=
 qD_l9 m self52 (Nat.succ m) x0 x1 x2 x3
noncomputable def qD_j14 (m:Nat) (self52:Dt→Dt→Option Int):Option Int:=
 some 0
noncomputable def qD_j2 (m:Nat) (self52:Dt→Dt→Option Int) (x0:Int) (x1:Bool) (x2 x3:Dt):Option Int:=
  (bif x1 then
   ((strings_Compare (Dt.S x2 2) (Dt.S x3 2)).bind fun r2=>
 some r2)
  else
   (bif (x0==6) then
 qD_j3 m self52 (bif (decide ((List.length (Dt.L x3 3):Int)<(List.length (Dt.L x2 3):Int))) then(List.length (Dt.L x3 3):Int) else(List.length (Dt.L x2 3):Int)) 0 x2 x3
   else
 (bif (x0==5) then
 qD_j8 m self52 (bif (decide ((List.length (Dt.L x3 4):Int)<(List.length (Dt.L x2 4):Int))) then(List.length (Dt.L x3 4):Int) else(List.length (Dt.L x2 4):Int)) 0 x2 x3
 else
 qD_j14 m self52)))
noncomputable def qD_j1 (m:Nat) (self52:Dt→Dt→Option Int) (x0:Int) (x1:Bool) (x2 x3:Dt):Option Int:=
  (bif x1 then
   ((zM m (Dt.I x2 1) (Dt.I x3 1)).bind fun r1=>
 some r1)
  else
   (bif (x0==4) then
 qD_j2 m self52 x0 (x0==4) x2 x3
   else
 (bif (x0==7) then
 qD_j2 m self52 x0 (x0==7) x2 x3
 else
 qD_j2 m self52 x0 (x0==8) x2 x3)))
noncomputable def qD_j0 (m:Nat) (self52:Dt→Dt→Option Int) (x0 x1:Dt):Option Int:=
  (bif ((Dt.I x0 0)==3) then
   qD_j1 m self52 (Dt.I x0 0) ((Dt.I x0 0)==3) x0 x1
  else
   (bif ((Dt.I x0 0)==9) then
 qD_j1 m self52 (Dt.I x0 0) ((Dt.I x0 0)==9) x0 x1
   else
 qD_j1 m self52 (Dt.I x0 0) ((Dt.I x0 0)==10) x0 x1))
noncomputable def qD:Nat→Dt→Dt→Option Int
  |0,_,_=>none
  |m+1,a0,a1=>
   (bif ((Dt.I a0 0) !=(Dt.I a1 0)) then
   ((zM m (Dt.I a0 0) (Dt.I a1 0)).bind fun r0=>
 some r0)
  else
   qD_j0 m (qD m) a0 a1)
noncomputable def zF_j4 (m:Nat) (rec1:List Dt→List Dt→List Dt→Int→Int→Option Int) (x0 x1 x2:List Dt) (x3 x4:Int):Option Int:=
 rec1 x0 x1 x2 x3 (IntKind.wrap .i64 (x4+1))
noncomputable def zF_j3 (m:Nat) (rec1:List Dt→List Dt→List Dt→Int→Int→Option Int) (x0 x1:List Dt) (x2:Int) (x3:List Dt) (x4 x5:Int):Option Int:=
 (bif (x2 !=0) then
  some x2
 else
  zF_j4 m rec1 x0 x1 x3 x4 x5)
noncomputable def zF_j2 (m:Nat) (rec1:List Dt→List Dt→List Dt→Int→Int→Option Int) (x0 x1 x2:List Dt) (x3 x4:Int):Option Int:=
  ((idx x2 x4).bind fun v0=>
    ((idx x0 x4).bind fun v1=>
 ((idx x1 x4).bind fun v2=>
 ((qD m v1 v2).bind fun r3=>
 (bif (Dt.B v0 1) then
 zF_j3 m rec1 x0 x1 (IntKind.wrap .i64 (0-r3)) x2 x3 x4
 else
 zF_j3 m rec1 x0 x1 r3 x2 x3 x4)))))
noncomputable def zF_j5 (m:Nat):Option Int:=
 some 0
noncomputable def zF_l1 (m:Nat):Nat→List Dt→List Dt→List Dt→Int→Int→Option Int
 |0,_,_,_,_,_=>none
 |M1+1,x0,x1,x2,x3,x4=>
  (bif (decide (x4<x3)) then
  zF_j2 m (zF_l1 m M1) x0 x1 x2 x3 x4
 else
  zF_j5 m)
noncomputable def zF_j0 (m:Nat) (x0 x1 x2:List Dt) (x3 x4:Int):Option Int:=
 zF_l1 m (Nat.succ m) x0 x1 x2 x3 x4
noncomputable def zF:Nat→List Dt→List Dt→List Dt→Option Int
 |0,_,_,_=>none
 |m+1,a0,a1,a2=>
  zF_j0 m a1 a2 a0 (List.length a0:Int) 0
noncomputable def i35:Nat→Dt→Dt→List Dt→Option (Int×List Dt)
 |0,_,_,_=>none
 |m+1,a0,a1,a2=>
  ((zF m a2 (Dt.L a0 1) (Dt.L a1 1)).bind fun r0=>
  some (r0,a2))
noncomputable def i34_j6 (m:Nat) (rec1:Int→Int→Int→List Dt→List Dt→Option (List Dt×List Dt)) (rec4:Int→Int→Int→Int→List Dt→List Dt→Option (List Dt×List Dt)) (x0 x1 x2 x3:Int) (x4 x5:List Dt):Option (List Dt×List Dt):=
 rec4 x0 x1 x2 (IntKind.wrap .i64 (x3-1)) x4 x5
noncomputable def i34_j5 (m:Nat) (rec1:Int→Int→Int→List Dt→List Dt→Option (List Dt×List Dt)) (rec4:Int→Int→Int→Int→List Dt→List Dt→Option (List Dt×List Dt)) (x0 x1 x2 x3:Int) (x4 x5:List Dt):Option (List Dt×List Dt):=
  ((inL x4 (IntKind.wrap .i64 (x3-1))).bind fun v5=>
    ((x4[(Int.toNat (IntKind.wrap .i64 (x3-1)))]?).bind fun v6=>
 ((inL x4 x3).bind fun v7=>
 ((x4[(Int.toNat x3)]?).bind fun v8=>
 ((inL x4 x3).bind fun v9=>
 ((x4[(Int.toNat x3)]?).bind fun v10=>
 ((inL (List.set x4 (Int.toNat x3) v6) (IntKind.wrap .i64 (x3-1))).bind fun v11=>
 (((List.set x4 (Int.toNat x3) v6)[(Int.toNat (IntKind.wrap .i64 (x3-1)))]?).bind fun v12=>
 i34_j6 m rec1 rec4 x0 x1 x2 x3 (List.set (List.set x4 (Int.toNat x3) v6) (Int.toNat (IntKind.wrap .i64 (x3-1))) v8) x5))))))))
noncomputable def i34_j7 (m:Nat) (rec1:Int→Int→Int→List Dt→List Dt→Option (List Dt×List Dt)) (x0 x1 x2:Int) (x3 x4:List Dt):Option (List Dt×List Dt):=
 rec1 x0 x1 (IntKind.wrap .i64 (x2+1)) x3 x4
noncomputable def i34_l4 (m:Nat) (rec1:Int→Int→Int→List Dt→List Dt→Option (List Dt×List Dt)):Nat→Int→Int→Int→Int→List Dt→List Dt→Option (List Dt×List Dt)
  |0,_,_,_,_,_,_=>none
  |M4+1,x0,x1,x2,x3,x4,x5=>
   (bif (decide (x0<x3)) then
   ((inL x4 x3).bind fun v0=>
 ((x4[(Int.toNat x3)]?).bind fun v1=>
 ((inL x4 (IntKind.wrap .i64 (x3-1))).bind fun v2=>
 ((x4[(Int.toNat (IntKind.wrap .i64 (x3-1)))]?).bind fun v3=>
 ((i35 m v1 v3 x5).bind fun r4=>
 (bif (decide (r4.1<0)) then
 i34_j5 m rec1 (i34_l4 m rec1 M4) x0 x1 x2 x3 x4 r4.2
 else
 i34_j7 m rec1 x0 x1 x2 x4 r4.2))))))
  else
   i34_j7 m rec1 x0 x1 x2 x4 x5)
noncomputable def i34_j3 (m:Nat) (rec1:Int→Int→Int→List Dt→List Dt→Option (List Dt×List Dt)) (x0 x1 x2 x3:Int) (x4 x5:List Dt):Option (List Dt×List Dt):=
 i34_l4 m rec1 (Nat.succ m) x0 x1 x2 x3 x4 x5
noncomputable def i34_j2 (m:Nat) (rec1:Int→Int→Int→List Dt→List Dt→Option (List Dt×List Dt)) (x0 x1 x2:Int) (x3 x4:List Dt):Option (List Dt×List Dt):=
 i34_j3 m rec1 x0 x1 x2 x2 x3 x4
noncomputable def i34_l1 (m:Nat):Nat→Int→Int→Int→List Dt→List Dt→Option (List Dt×List Dt)
 |0,_,_,_,_,_=>none
 |M1+1,x0,x1,x2,x3,x4=>
  (bif (decide (x2<x1)) then
  i34_j2 m (i34_l1 m M1) x0 x1 x2 x3 x4
 else
  some (x3,x4))
noncomputable def i34_j0 (m:Nat) (x0 x1 x2:Int) (x3 x4:List Dt):Option (List Dt×List Dt):=
 i34_l1 m (Nat.succ m) x0 x1 x2 x3 x4
noncomputable def i34:Nat→Int→Int→List Dt→List Dt→Option (List Dt×List Dt)
 |0,_,_,_,_=>none
 |m+1,a0,a1,a2,a3=>
  i34_j0 m a0 a1 (IntKind.wrap .i64 (a0+1)) a2 a3
noncomputable def i37_j2 (m:Nat) (self37:Int→Int→Int→List Dt→List Dt→Option (List Dt×List Dt)) (rec1:Int→Int→Int→List Dt→List Dt→Option (List Dt×List Dt)) (x0 x1 x2:Int) (x3 x4:List Dt):Option (List Dt×List Dt):=
  ((inL x3 (IntKind.wrap .i64 (shrI IntKind.u64 (IntKind.wrap IntKind.u64 (IntKind.wrap .i64 (x1+x2))) 1))).bind fun v0=>
    ((x3[(Int.toNat (IntKind.wrap .i64 (shrI IntKind.u64 (IntKind.wrap IntKind.u64 (IntKind.wrap .i64 (x1+x2))) 1)))]?).bind fun v1=>
 ((inL x3 x0).bind fun v2=>
 ((x3[(Int.toNat x0)]?).bind fun v3=>
 ((i35 m v1 v3 x4).bind fun r4=>
 (bif (decide (r4.1<0)) then
 rec1 x0 (IntKind.wrap .i64 ((IntKind.wrap .i64 (shrI IntKind.u64 (IntKind.wrap IntKind.u64 (IntKind.wrap .i64 (x1+x2))) 1))+1)) x2 x3 r4.2
 else
 rec1 x0 x1 (IntKind.wrap .i64 (shrI IntKind.u64 (IntKind.wrap IntKind.u64 (IntKind.wrap .i64 (x1+x2))) 1)) x3 r4.2))))))
noncomputable def i37_j7 (m:Nat) (self37:Int→Int→Int→List Dt→List Dt→Option (List Dt×List Dt)) (rec5:Int→Int→List Dt→List Dt→Option (List Dt×List Dt)) (x0 x1:Int) (x2 x3:List Dt):Option (List Dt×List Dt):=
 rec5 x0 (IntKind.wrap .i64 (x1+1)) x2 x3
noncomputable def i37_j6 (m:Nat) (self37:Int→Int→Int→List Dt→List Dt→Option (List Dt×List Dt)) (rec5:Int→Int→List Dt→List Dt→Option (List Dt×List Dt)) (x0 x1:Int) (x2 x3:List Dt):Option (List Dt×List Dt):=
  ((inL x2 (IntKind.wrap .i64 (x1+1))).bind fun v5=>
    ((x2[(Int.toNat (IntKind.wrap .i64 (x1+1)))]?).bind fun v6=>
 ((inL x2 x1).bind fun v7=>
 ((x2[(Int.toNat x1)]?).bind fun v8=>
 ((inL x2 x1).bind fun v9=>
 ((x2[(Int.toNat x1)]?).bind fun v10=>
 ((inL (List.set x2 (Int.toNat x1) v6) (IntKind.wrap .i64 (x1+1))).bind fun v11=>
 (((List.set x2 (Int.toNat x1) v6)[(Int.toNat (IntKind.wrap .i64 (x1+1)))]?).bind fun v12=>
 i37_j7 m self37 rec5 x0 x1 (List.set (List.set x2 (Int.toNat x1) v6) (Int.toNat (IntKind.wrap .i64 (x1+1))) v8) x3))))))))
noncomputable def i37_l5 (m:Nat) (self37:Int→Int→Int→List Dt→List Dt→Option (List Dt×List Dt)):Nat→Int→Int→List Dt→List Dt→Option (List Dt×List Dt)
 |0,_,_,_,_=>none
 |M5+1,x0,x1,x2,x3=>
  (bif (decide (x1<(IntKind.wrap .i64 (x0-1)))) then
  i37_j6 m self37 (i37_l5 m self37 M5) x0 x1 x2 x3
 else
  some (x2,x3))
noncomputable def i37_j4 (m:Nat) (self37:Int→Int→Int→List Dt→List Dt→Option (List Dt×List Dt)) (x0 x1:Int) (x2 x3:List Dt):Option (List Dt×List Dt):=
 i37_l5 m self37 (Nat.succ m) x0 x1 x2 x3
noncomputable def i37_j3 (m:Nat) (self37:Int→Int→Int→List Dt→List Dt→Option (List Dt×List Dt)) (x0 x1:Int) (x2 x3:List Dt):Option (List Dt×List Dt):=
 i37_j4 m self37 x1 x0 x2 x3
noncomputable def i37_l1 (m:Nat) (self37:Int→Int→Int→List Dt→List Dt→Option (List Dt×List Dt)):Nat→Int→Int→Int→List Dt→List Dt→Option (List Dt×List Dt)
 |0,_,_,_,_,_=>none
 |M1+1,x0,x1,x2,x3,x4=>
  (bif (decide (x1<x2)) then
  i37_j2 m self37 (i37_l1 m self37 M1) x0 x1 x2 x3 x4
 else
  i37_j3 m self37 x0 x1 x3 x4)
noncomputable def i37_j0 (m:Nat) (self37:Int→Int→Int→List Dt→List Dt→Option (List Dt×List Dt)) (x0 x1 x2:Int) (x3 x4:List Dt):Option (List Dt×List Dt):=
 i37_l1 m self37 (Nat.succ m) x0 x1 x2 x3 x4
noncomputable def i37_j11 (m:Nat) (self37:Int→Int→Int→List Dt→List Dt→Option (List Dt×List Dt)) (rec10:Int→Int→Int→List Dt→List Dt→Option (List Dt×List Dt)) (x0 x1 x2:Int) (x3 x4:List Dt):Option (List Dt×List Dt):=
  ((inL x3 x0).bind fun v13=>
    ((x3[(Int.toNat x0)]?).bind fun v14=>
 ((inL x3 (IntKind.wrap .i64 (shrI IntKind.u64 (IntKind.wrap IntKind.u64 (IntKind.wrap .i64 (x1+x2))) 1))).bind fun v15=>
 ((x3[(Int.toNat (IntKind.wrap .i64 (shrI IntKind.u64 (IntKind.wrap IntKind.u64 (IntKind.wrap .i64 (x1+x2))) 1)))]?).bind fun v16=>
 ((i35 m v14 v16 x4).bind fun r17=>
 (bif (Bool.not (decide (r17.1<0))) then
 rec10 x0 (IntKind.wrap .i64 ((IntKind.wrap .i64 (shrI IntKind.u64 (IntKind.wrap IntKind.u64 (IntKind.wrap .i64 (x1+x2))) 1))+1)) x2 x3 r17.2
 else
 rec10 x0 x1 (IntKind.wrap .i64 (shrI IntKind.u64 (IntKind.wrap IntKind.u64 (IntKind.wrap .i64 (x1+x2))) 1)) x3 r17.2))))))
noncomputable def i37_j16 (m:Nat) (self37:Int→Int→Int→List Dt→List Dt→Option (List Dt×List Dt)) (rec14:Int→Int→List Dt→List Dt→Option (List Dt×List Dt)) (x0 x1:Int) (x2 x3:List Dt):Option (List Dt×List Dt):=
 rec14 x0 (IntKind.wrap .i64 (x1-1)) x2 x3
noncomputable def i37_j15 (m:Nat) (self37:Int→Int→Int→List Dt→List Dt→Option (List Dt×List Dt)) (rec14:Int→Int→List Dt→List Dt→Option (List Dt×List Dt)) (x0 x1:Int) (x2 x3:List Dt):Option (List Dt×List Dt):=
  ((inL x2 (IntKind.wrap .i64 (x1-1))).bind fun v18=>
    ((x2[(Int.toNat (IntKind.wrap .i64 (x1-1)))]?).bind fun v19=>
 ((inL x2 x1).bind fun v20=>
 ((x2[(Int.toNat x1)]?).bind fun v21=>
 ((inL x2 x1).bind fun v22=>
 ((x2[(Int.toNat x1)]?).bind fun v23=>
 ((inL (List.set x2 (Int.toNat x1) v19) (IntKind.wrap .i64 (x1-1))).bind fun v24=>
 (((List.set x2 (Int.toNat x1) v19)[(Int.toNat (IntKind.wrap .i64 (x1-1)))]?).bind fun v25=>
 i37_j16 m self37 rec14 x0 x1 (List.set (List.set x2 (Int.toNat x1) v19) (Int.toNat (IntKind.wrap .i64 (x1-1))) v21) x3))))))))
noncomputable def i37_l14 (m:Nat) (self37:Int→Int→Int→List Dt→List Dt→Option (List Dt×List Dt)):Nat→Int→Int→List Dt→List Dt→Option (List Dt×List Dt)
 |0,_,_,_,_=>none
 |M14+1,x0,x1,x2,x3=>
  (bif (decide (x0<x1)) then
  i37_j15 m self37 (i37_l14 m self37 M14) x0 x1 x2 x3
 else
  some (x2,x3))
noncomputable def i37_j13 (m:Nat) (self37:Int→Int→Int→List Dt→List Dt→Option (List Dt×List Dt)) (x0 x1:Int) (x2 x3:List Dt):Option (List Dt×List Dt):=
 i37_l14 m self37 (Nat.succ m) x0 x1 x2 x3
noncomputable def i37_j12 (m:Nat) (self37:Int→Int→Int→List Dt→List Dt→Option (List Dt×List Dt)) (x0 x1:Int) (x2 x3:List Dt):Option (List Dt×List Dt):=
 i37_j13 m self37 x1 x0 x2 x3
noncomputable def i37_l10 (m:Nat) (self37:Int→Int→Int→List Dt→List Dt→Option (List Dt×List Dt)):Nat→Int→Int→Int→List Dt→List Dt→Option (List Dt×List Dt)
 |0,_,_,_,_,_=>none
 |M10+1,x0,x1,x2,x3,x4=>
  (bif (decide (x1<x2)) then
  i37_j11 m self37 (i37_l10 m self37 M10) x0 x1 x2 x3 x4
 else
  i37_j12 m self37 x0 x1 x3 x4)
noncomputable def i37_j9 (m:Nat) (self37:Int→Int→Int→List Dt→List Dt→Option (List Dt×List Dt)) (x0 x1 x2:Int) (x3 x4:List Dt):Option (List Dt×List Dt):=
 i37_l10 m self37 (Nat.succ m) x0 x1 x2 x3 x4
noncomputable def i37_j21 (m:Nat) (self37:Int→Int→Int→List Dt→List Dt→Option (List Dt×List Dt)) (rec20:Int→Int→Int→Int→Int→Int→Int→Int→List Dt→List Dt→Option (List Dt×List Dt)) (x0 x1 x2 x3 x4 x5 x6 x7:Int) (x8 x9:List Dt):Option (List Dt×List Dt):=
  ((inL x8 (IntKind.wrap .i64 (x7-(IntKind.wrap .i64 (shrI IntKind.u64 (IntKind.wrap IntKind.u64 (IntKind.wrap .i64 (x5+x6))) 1))))).bind fun v26=>
    ((x8[(Int.toNat (IntKind.wrap .i64 (x7-(IntKind.wrap .i64 (shrI IntKind.u64 (IntKind.wrap IntKind.u64 (IntKind.wrap .i64 (x5+x6))) 1)))))]?).bind fun v27=>
 ((inL x8 (IntKind.wrap .i64 (shrI IntKind.u64 (IntKind.wrap IntKind.u64 (IntKind.wrap .i64 (x5+x6))) 1))).bind fun v28=>
 ((x8[(Int.toNat (IntKind.wrap .i64 (shrI IntKind.u64 (IntKind.wrap IntKind.u64 (IntKind.wrap .i64 (x5+x6))) 1)))]?).bind fun v29=>
 ((i35 m v27 v29 x9).bind fun r30=>
 (bif (Bool.not (decide (r30.1<0))) then
 rec20 x0 x1 x2 x3 x4 (IntKind.wrap .i64 ((IntKind.wrap .i64 (shrI IntKind.u64 (IntKind.wrap IntKind.u64 (IntKind.wrap .i64 (x5+x6))) 1))+1)) x6 x7 x8 r30.2
 else
 rec20 x0 x1 x2 x3 x4 x5 (IntKind.wrap .i64 (shrI IntKind.u64 (IntKind.wrap IntKind.u64 (IntKind.wrap .i64 (x5+x6))) 1)) x7 x8 r30.2))))))
noncomputable def i37_j27 (m:Nat) (self37:Int→Int→Int→List Dt→List Dt→Option (List Dt×List Dt)) (x0 x1 x2:Int) (x3:Bool) (x4 x5:List Dt):Option (List Dt×List Dt):=
  (bif x3 then
   ((self37 x1 x2 x0 x4 x5).bind fun r33=>
 some (r33.1,r33.2))
  else
   some (x4,x5))
noncomputable def i37_j26 (m:Nat) (self37:Int→Int→Int→List Dt→List Dt→Option (List Dt×List Dt)) (x0 x1 x2:Int) (x3 x4:List Dt):Option (List Dt×List Dt):=
 (bif (decide (x1<x2)) then
  i37_j27 m self37 x0 x1 x2 (decide (x2<x0)) x3 x4
 else
  i37_j27 m self37 x0 x1 x2 false x3 x4)
noncomputable def i37_j25 (m:Nat) (self37:Int→Int→Int→List Dt→List Dt→Option (List Dt×List Dt)) (x0 x1 x2 x3 x4:Int) (x5:Bool) (x6 x7:List Dt):Option (List Dt×List Dt):=
  (bif x5 then
   ((self37 x0 x3 x2 x6 x7).bind fun r32=>
 i37_j26 m self37 x1 x2 x4 r32.1 r32.2)
  else
   i37_j26 m self37 x1 x2 x4 x6 x7)
noncomputable def i37_j24 (m:Nat) (self37:Int→Int→Int→List Dt→List Dt→Option (List Dt×List Dt)) (x0 x1 x2 x3 x4:Int) (x5 x6:List Dt):Option (List Dt×List Dt):=
 (bif (decide (x0<x3)) then
  i37_j25 m self37 x0 x1 x2 x3 x4 (decide (x3<x2)) x5 x6
 else
  i37_j25 m self37 x0 x1 x2 x3 x4 false x5 x6)
noncomputable def i37_j23 (m:Nat) (self37:Int→Int→Int→List Dt→List Dt→Option (List Dt×List Dt)) (x0 x1 x2 x3 x4 x5:Int) (x6:Bool) (x7 x8:List Dt):Option (List Dt×List Dt):=
  (bif x6 then
   ((i38 m x4 x1 x5 x7 x8).bind fun r31=>
 i37_j24 m self37 x0 x2 x3 x4 x5 r31.1 r31.2)
  else
   i37_j24 m self37 x0 x2 x3 x4 x5 x7 x8)
noncomputable def i37_j22 (m:Nat) (self37:Int→Int→Int→List Dt→List Dt→Option (List Dt×List Dt)) (x0 x1 x2 x3 x4 x5:Int) (x6 x7:List Dt):Option (List Dt×List Dt):=
 (bif (decide (x5<x1)) then
  i37_j23 m self37 x0 x1 x2 x3 x5 (IntKind.wrap .i64 (x4-x5)) (decide (x1<(IntKind.wrap .i64 (x4-x5)))) x6 x7
 else
  i37_j23 m self37 x0 x1 x2 x3 x5 (IntKind.wrap .i64 (x4-x5)) false x6 x7)
noncomputable def i37_l20 (m:Nat) (self37:Int→Int→Int→List Dt→List Dt→Option (List Dt×List Dt)):Nat→Int→Int→Int→Int→Int→Int→Int→Int→List Dt→List Dt→Option (List Dt×List Dt)
 |0,_,_,_,_,_,_,_,_,_,_=>none
 |M20+1,x0,x1,x2,x3,x4,x5,x6,x7,x8,x9=>
  (bif (decide (x5<x6)) then
  i37_j21 m self37 (i37_l20 m self37 M20) x0 x1 x2 x3 x4 x5 x6 x7 x8 x9
 else
  i37_j22 m self37 x0 x1 x2 x3 x4 x5 x8 x9)
noncomputable def i37_j19 (m:Nat) (self37:Int→Int→Int→List Dt→List Dt→Option (List Dt×List Dt)) (x0 x1 x2 x3 x4 x5 x6 x7:Int) (x8 x9:List Dt):Option (List Dt×List Dt):=
 i37_l20 m self37 (Nat.succ m) x0 x1 x2 x3 x4 x5 x6 x7 x8 x9
noncomputable def i37_j18 (m:Nat) (self37:Int→Int→Int→List Dt→List Dt→Option (List Dt×List Dt)) (x0 x1 x2 x3 x4 x5 x6:Int) (x7 x8:List Dt):Option (List Dt×List Dt):=
 i37_j19 m self37 x0 x1 x2 x3 x4 x5 x6 (IntKind.wrap .i64 (x4-1)) x7 x8
noncomputable def i37_j17 (m:Nat) (self37:Int→Int→Int→List Dt→List Dt→Option (List Dt×List Dt)) (x0 x1 x2:Int) (x3 x4:List Dt):Option (List Dt×List Dt):=
 (bif (decide ((IntKind.wrap .i64 (shrI IntKind.u64 (IntKind.wrap IntKind.u64 (IntKind.wrap .i64 (x0+x2))) 1))<x1)) then
  i37_j18 m self37 x0 x1 x2 (IntKind.wrap .i64 (shrI IntKind.u64 (IntKind.wrap IntKind.u64 (IntKind.wrap .i64 (x0+x2))) 1)) (IntKind.wrap .i64 ((IntKind.wrap .i64 (shrI IntKind.u64 (IntKind.wrap IntKind.u64 (IntKind.wrap .i64 (x0+x2))) 1))+x1)) (IntKind.wrap .i64 ((IntKind.wrap .i64 ((IntKind.wrap .i64 (shrI IntKind.u64 (IntKind.wrap IntKind.u64 (IntKind.wrap .i64 (x0+x2))) 1))+x1))-x2)) (IntKind.wrap .i64 (shrI IntKind.u64 (IntKind.wrap IntKind.u64 (IntKind.wrap .i64 (x0+x2))) 1)) x3 x4
 else
  i37_j18 m self37 x0 x1 x2 (IntKind.wrap .i64 (shrI IntKind.u64 (IntKind.wrap IntKind.u64 (IntKind.wrap .i64 (x0+x2))) 1)) (IntKind.wrap .i64 ((IntKind.wrap .i64 (shrI IntKind.u64 (IntKind.wrap IntKind.u64 (IntKind.wrap .i64 (x0+x2))) 1))+x1)) x0 x1 x3 x4)
noncomputable def i37_j8 (m:Nat) (self37:Int→Int→Int→List Dt→List Dt→Option (List Dt×List Dt)) (x0 x1 x2:Int) (x3 x4:List Dt):Option (List Dt×List Dt):=
 (bif ((IntKind.wrap .i64 (x2-x1))==1) then
  i37_j9 m self37 x1 x0 x1 x3 x4
 else
  i37_j17 m self37 x0 x1 x2 x3 x4)
noncomputable def i37:Nat→Int→Int→Int→List Dt→List Dt→Option (List Dt×List Dt)
 |0,_,_,_,_,_=>none
 |m+1,a0,a1,a2,a3,a4=>
  (bif ((IntKind.wrap .i64 (a1-a0))==1) then
  i37_j0 m (i37 m) a0 a1 a2 a3 a4
 else
  i37_j8 m (i37 m) a0 a1 a2 a3 a4)
noncomputable def i33_j2 (m:Nat) (rec1:Int→Int→Int→Int→List Dt→List Dt→Option (List Dt×List Dt)) (x0 x1 x2 x3:Int) (x4 x5:List Dt):Option (List Dt×List Dt):=
 ((i34 m x2 x3 x4 x5).bind fun r0=>
   rec1 x0 x1 x3 (IntKind.wrap .i64 (x3+x1)) r0.1 r0.2)
noncomputable def i33_j9 (m:Nat) (rec5:Int→Int→List Dt→List Dt→Option (List Dt×List Dt)) (rec8:Int→Int→Int→Int→List Dt→List Dt→Option (List Dt×List Dt)) (x0 x1 x2 x3:Int) (x4 x5:List Dt):Option (List Dt×List Dt):=
 ((i37 m x2 (IntKind.wrap .i64 (x2+x1)) x3 x4 x5).bind fun r2=>
   rec8 x0 x1 x3 (IntKind.wrap .i64 (x3+(IntKind.wrap .i64 (2*x1)))) r2.1 r2.2)
noncomputable def i33_j11 (m:Nat) (rec5:Int→Int→List Dt→List Dt→Option (List Dt×List Dt)) (x0 x1:Int) (x2 x3:List Dt):Option (List Dt×List Dt):=
 rec5 x0 (IntKind.wrap .i64 (x1*2)) x2 x3
noncomputable def i33_j10 (m:Nat) (rec5:Int→Int→List Dt→List Dt→Option (List Dt×List Dt)) (x0 x1 x2:Int) (x3 x4:List Dt):Option (List Dt×List Dt):=
  (bif (decide ((IntKind.wrap .i64 (x2+x1))<x0)) then
   ((i37 m x2 (IntKind.wrap .i64 (x2+x1)) x0 x3 x4).bind fun r3=>
 i33_j11 m rec5 x0 x1 r3.1 r3.2)
  else
   i33_j11 m rec5 x0 x1 x3 x4)
noncomputable def i33_l8 (m:Nat) (rec5:Int→Int→List Dt→List Dt→Option (List Dt×List Dt)):Nat→Int→Int→Int→Int→List Dt→List Dt→Option (List Dt×List Dt)
 |0,_,_,_,_,_,_=>none
 |M8+1,x0,x1,x2,x3,x4,x5=>
  (bif (decide (x3≤x0)) then
  i33_j9 m rec5 (i33_l8 m rec5 M8) x0 x1 x2 x3 x4 x5
 else
  i33_j10 m rec5 x0 x1 x2 x4 x5)
noncomputable def i33_j7 (m:Nat) (rec5:Int→Int→List Dt→List Dt→Option (List Dt×List Dt)) (x0 x1 x2 x3:Int) (x4 x5:List Dt):Option (List Dt×List Dt):=
 i33_l8 m rec5 (Nat.succ m) x0 x1 x2 x3 x4 x5
noncomputable def i33_j6 (m:Nat) (rec5:Int→Int→List Dt→List Dt→Option (List Dt×List Dt)) (x0 x1:Int) (x2 x3:List Dt):Option (List Dt×List Dt):=
 i33_j7 m rec5 x0 x1 0 (IntKind.wrap .i64 (2*x1)) x2 x3
noncomputable def i33_l5 (m:Nat):Nat→Int→Int→List Dt→List Dt→Option (List Dt×List Dt)
 |0,_,_,_,_=>none
 |M5+1,x0,x1,x2,x3=>
  (bif (decide (x1<x0)) then
  i33_j6 m (i33_l5 m M5) x0 x1 x2 x3
 else
  some (x2,x3))
noncomputable def i33_j4 (m:Nat) (x0 x1:Int) (x2 x3:List Dt):Option (List Dt×List Dt):=
 i33_l5 m (Nat.succ m) x0 x1 x2 x3
noncomputable def i33_j3 (m:Nat) (x0 x1 x2:Int) (x3 x4:List Dt):Option (List Dt×List Dt):=
 ((i34 m x2 x0 x3 x4).bind fun r1=>
   i33_j4 m x0 x1 r1.1 r1.2)
noncomputable def i33_l1 (m:Nat):Nat→Int→Int→Int→Int→List Dt→List Dt→Option (List Dt×List Dt)
 |0,_,_,_,_,_,_=>none
 |M1+1,x0,x1,x2,x3,x4,x5=>
  (bif (decide (x3≤x0)) then
  i33_j2 m (i33_l1 m M1) x0 x1 x2 x3 x4 x5
 else
  i33_j3 m x0 x1 x2 x4 x5)
noncomputable def i33_j0 (m:Nat) (x0 x1 x2 x3:Int) (x4 x5:List Dt):Option (List Dt×List Dt):=
 i33_l1 m (Nat.succ m) x0 x1 x2 x3 x4 x5
noncomputable def i33:Nat→Int→List Dt→List Dt→Option (List Dt×List Dt)
 |0,_,_,_=>none
 |m+1,a0,a1,a2=>
  i33_j0 m a0 20 0 20 a1 a2
noncomputable def i32:Nat→List Dt→List Dt→Option (List Dt×List Dt)
 |0,_,_=>none
 |m+1,a0,a1=>
  ((i33 m (List.length a0:Int) a0 a1).bind fun r0=>
  some (r0.1,r0.2))
noncomputable def qW_j3 (m:Nat) (rec1:List Dt→Int→Int→Dt→Dt→List Dt→Option Dt) (x0:List Dt) (x1 x2:Int) (x3 x4:Dt) (x5:List Dt):Option Dt:=
 rec1 x0 x1 (IntKind.wrap .i64 (x2+1)) x3 x4 x5
noncomputable def qW_j4 (m:Nat) (rec1:List Dt→Int→Int→Dt→Dt→List Dt→Option Dt) (x0:List Dt) (x1 x2:Int) (x3:Bool) (x4 x5:Dt) (x6:List Dt) (x7:Dt):Option Dt:=
  (bif x3 then
   ((app x6 (Dt.L x7 3)).bind fun v3=>
 qW_j3 m rec1 x0 x1 x2 x4 x5 v3)
  else
   ((app x6 [x7]).bind fun v4=>
 qW_j3 m rec1 x0 x1 x2 x4 x5 v4))
noncomputable def qW_j2 (m:Nat) (rec1:List Dt→Int→Int→Dt→Dt→List Dt→Option Dt) (x0:List Dt) (x1 x2:Int) (x3 x4:Dt) (x5:List Dt):Option Dt:=
  ((idx x0 x2).bind fun v1=>
    (bif ((Dt.I v1 0)==0) then
 ((app x5 [kz3c25e]).bind fun v2=>
 qW_j3 m rec1 x0 x1 x2 x3 x4 v2)
    else
 (bif ((Dt.I v1 0)==6) then
 qW_j4 m rec1 x0 x1 x2 (decide (0<(List.length (Dt.L v1 3):Int))) x3 x4 x5 v1
 else
 qW_j4 m rec1 x0 x1 x2 false x3 x4 x5 v1)))
noncomputable def qW_j10 (m:Nat) (rec7:List Dt→Int→Int→Dt→Dt→Dt→Option Dt) (x0:List Dt) (x1 x2:Int) (x3 x4 x5:Dt):Option Dt:=
 rec7 x0 x1 (IntKind.wrap .i64 (x2+1)) x3 x4 x5
noncomputable def qW_j9 (m:Nat) (rec7:List Dt→Int→Int→Dt→Dt→Dt→Option Dt) (x0:List Dt) (x1 x2:Int) (x3:Bool) (x4 x5 x6 x7:Dt):Option Dt:=
 (bif x3 then
  qW_j10 m rec7 x0 x1 x2 x4 x5 x7
 else
  qW_j10 m rec7 x0 x1 x2 x4 x5 x6)
noncomputable def qW_j8 (m:Nat) (rec7:List Dt→Int→Int→Dt→Dt→Dt→Option Dt) (x0:List Dt) (x1 x2:Int) (x3 x4 x5:Dt):Option Dt:=
  ((idx x0 x2).bind fun v8=>
    ((qD m v8 x5).bind fun r9=>
 (bif (decide (r9<0)) then
 (bif (Bool.not (Dt.B x3 1)) then
 qW_j9 m rec7 x0 x1 x2 true x3 x4 x5 v8
 else
 (bif (decide (0<r9)) then
 qW_j9 m rec7 x0 x1 x2 (Dt.B x3 1) x3 x4 x5 v8
 else
 qW_j9 m rec7 x0 x1 x2 false x3 x4 x5 v8))
 else
 (bif (decide (0<r9)) then
 qW_j9 m rec7 x0 x1 x2 (Dt.B x3 1) x3 x4 x5 v8
 else
 qW_j9 m rec7 x0 x1 x2 false x3 x4 x5 v8))))
noncomputable def qW_j11 (m:Nat) (x0 x1:Dt):Option Dt:=
 some x1
noncomputable def qW_l7 (m:Nat):Nat→List Dt→Int→Int→Dt→Dt→Dt→Option Dt
 |0,_,_,_,_,_,_=>none
 |M7+1,x0,x1,x2,x3,x4,x5=>
  (bif (decide (x2<x1)) then
  qW_j8 m (qW_l7 m M7) x0 x1 x2 x3 x4 x5
 else
  qW_j11 m x4 x5)
noncomputable def qW_j6 (m:Nat) (x0:List Dt) (x1 x2:Int) (x3 x4 x5:Dt):Option Dt:=
 qW_l7 m (Nat.succ m) x0 x1 x2 x3 x4 x5
noncomputable def qW_j5 (m:Nat) (x0 x1:Dt) (x2:List Dt):Option Dt:=
  ((inL x2 0).bind fun v5=>
    ((x2[0]?).bind fun v6=>
 ((cutL x2 1 (List.length x2:Int)).bind fun v7=>
 qW_j6 m v7 (List.length v7:Int) 0 x0 x1 v6)))
noncomputable def qW_l1 (m:Nat):Nat→List Dt→Int→Int→Dt→Dt→List Dt→Option Dt
 |0,_,_,_,_,_,_=>none
 |M1+1,x0,x1,x2,x3,x4,x5=>
  (bif (decide (x2<x1)) then
  qW_j2 m (qW_l1 m M1) x0 x1 x2 x3 x4 x5
 else
  qW_j5 m x3 x4 x5)
noncomputable def qW_j0 (m:Nat) (x0:List Dt) (x1 x2:Int) (x3 x4:Dt) (x5:List Dt):Option Dt:=
 qW_l1 m (Nat.succ m) x0 x1 x2 x3 x4 x5
noncomputable def qW:Nat→Dt→Dt→Option Dt
 |0,_,_=>none
 |m+1,a0,a1=>
  ((zP m a1 (Dt.L a0 0)).bind fun r0=>
  qW_j0 m r0 (List.length r0:Int) 0 a0 kza2373 [])
noncomputable def zS_j3 (m:Nat) (rec1:List Dt→Int→Int→Dt→List Dt→Option (List Dt)) (x0:List Dt) (x1 x2:Int) (x3:Dt) (x4:List Dt):Option (List Dt):=
 rec1 x0 x1 (IntKind.wrap .i64 (x2+1)) x3 x4
noncomputable def zS_j2 (m:Nat) (rec1:List Dt→Int→Int→Dt→List Dt→Option (List Dt)) (x0:List Dt) (x1 x2:Int) (x3:Dt) (x4:List Dt):Option (List Dt):=
  ((idx x0 x2).bind fun v0=>
    ((qW m v0 x3).bind fun r1=>
 ((app x4 [r1]).bind fun v2=>
 zS_j3 m rec1 x0 x1 x2 x3 v2)))
noncomputable def zS_j4 (m:Nat) (x0:List Dt):Option (List Dt):=
 some x0
noncomputable def zS_l1 (m:Nat):Nat→List Dt→Int→Int→Dt→List Dt→Option (List Dt)
 |0,_,_,_,_,_=>none
 |M1+1,x0,x1,x2,x3,x4=>
  (bif (decide (x2<x1)) then
  zS_j2 m (zS_l1 m M1) x0 x1 x2 x3 x4
 else
  zS_j4 m x4)
noncomputable def zS_j0 (m:Nat) (x0:List Dt) (x1 x2:Int) (x3:Dt) (x4:List Dt):Option (List Dt):=
 zS_l1 m (Nat.succ m) x0 x1 x2 x3 x4
noncomputable def zS:Nat→List Dt→Dt→Option (List Dt)
 |0,_,_=>none
 |m+1,a0,a1=>
  zS_j0 m a0 (List.length a0:Int) 0 a1 []
noncomputable def qV_j3 (m:Nat) (rec1:Int→List Dt→Int→Int→List Dt→List Dt→Option (List Dt)) (x0:Int) (x1:List Dt) (x2 x3:Int) (x4 x5:List Dt):Option (List Dt):=
 rec1 x0 x1 x2 (IntKind.wrap .i64 (x3+1)) x4 x5
noncomputable def qV_j2 (m:Nat) (rec1:Int→List Dt→Int→Int→List Dt→List Dt→Option (List Dt)) (x0:Int) (x1:List Dt) (x2 x3:Int) (x4 x5:List Dt):Option (List Dt):=
  ((idx x1 x3).bind fun v1=>
    ((zS m x4 v1).bind fun r2=>
 ((inL x5 x3).bind fun v3=>
 ((x5[(Int.toNat x3)]?).bind fun v4=>
 qV_j3 m rec1 x0 x1 x2 x3 x4 (List.set x5 (Int.toNat x3) (Dt.agg [v1,(Dt.lst r2)]))))))
noncomputable def qV_j8 (m:Nat) (rec6:List Dt→Int→Int→List Dt→Option (List Dt)) (x0:List Dt) (x1 x2:Int) (x3:List Dt):Option (List Dt):=
 rec6 x0 x1 (IntKind.wrap .i64 (x2+1)) x3
noncomputable def qV_j7 (m:Nat) (rec6:List Dt→Int→Int→List Dt→Option (List Dt)) (x0:List Dt) (x1 x2:Int) (x3:List Dt):Option (List Dt):=
  ((idx x0 x2).bind fun v7=>
    ((qH m (Dt.fld v7 0)).bind fun r8=>
 ((app x3 [r8]).bind fun v9=>
 qV_j8 m rec6 x0 x1 x2 v9)))
noncomputable def qV_j9 (m:Nat) (x0:List Dt):Option (List Dt):=
 some x0
noncomputable def qV_l6 (m:Nat):Nat→List Dt→Int→Int→List Dt→Option (List Dt)
 |0,_,_,_,_=>none
 |M6+1,x0,x1,x2,x3=>
  (bif (decide (x2<x1)) then
  qV_j7 m (qV_l6 m M6) x0 x1 x2 x3
 else
  qV_j9 m x3)
noncomputable def qV_j5 (m:Nat) (x0:List Dt) (x1 x2:Int) (x3:List Dt):Option (List Dt):=
 qV_l6 m (Nat.succ m) x0 x1 x2 x3
noncomputable def qV_j4 (m:Nat) (x0:Int) (x1 x2:List Dt):Option (List Dt):=
  ((i32 m x2 x1).bind fun r5=>
    ((cutL r5.1 0 x0).bind fun v6=>
 qV_j5 m v6 (List.length v6:Int) 0 []))
noncomputable def qV_l1 (m:Nat):Nat→Int→List Dt→Int→Int→List Dt→List Dt→Option (List Dt)
 |0,_,_,_,_,_,_=>none
 |M1+1,x0,x1,x2,x3,x4,x5=>
  (bif (decide (x3<x2)) then
  qV_j2 m (qV_l1 m M1) x0 x1 x2 x3 x4 x5
 else
  qV_j4 m x0 x4 x5)
noncomputable def qV_j0 (m:Nat) (x0:Int) (x1:List Dt) (x2 x3:Int) (x4 x5:List Dt):Option (List Dt):=
 qV_l1 m (Nat.succ m) x0 x1 x2 x3 x4 x5
noncomputable def qV:Nat→List Dt→List Dt→Int→Option (List Dt)
 |0,_,_,_=>none
 |m+1,a0,a1,a2=>
  ((mkL (List.length a1:Int) (List.length a1:Int) kzd6e5e).bind fun v0=>
  qV_j0 m a2 a1 (List.length a1:Int) 0 a0 v0)
noncomputable def yJ:Nat→List Dt→List Dt→Option (List Dt)
 |0,_,_=>none
 |m+1,a0,a1=>
  ((qV m a0 a1 (List.length a1:Int)).bind fun r0=>
  some r0)
noncomputable def yB:Nat→List Dt→Dt→Dt→Option Int
  |0,_,_,_=>none
  |m+1,a0,a1,a2=>
   ((zS m a0 a1).bind fun r0=>
   ((zS m a0 a2).bind fun r1=>
 ((zF m a0 r0 r1).bind fun r2=>
 some r2)))
noncomputable def zL_j2 (m:Nat) (rec1:List Dt→List Dt→List Dt→List Dt→Option (List Dt)) (x0 x1 x2 x3:List Dt):Option (List Dt):=
  ((idx x1 0).bind fun v1=>
    ((idx x2 0).bind fun v2=>
 ((yB m x0 v1 v2).bind fun r3=>
 (bif (decide (r3≤0)) then
 ((idx x1 0).bind fun v4=>
 ((app x3 [v4]).bind fun v5=>
 ((cutL x1 1 (List.length x1:Int)).bind fun v6=>
 rec1 x0 v6 x2 v5)))
 else
 ((idx x2 0).bind fun v7=>
 ((app x3 [v7]).bind fun v8=>
 ((cutL x2 1 (List.length x2:Int)).bind fun v9=>
 rec1 x0 x1 v9 v8)))))))
noncomputable def zL_j3 (m:Nat) (x0 x1 x2:List Dt):Option (List Dt):=
  ((app x2 x0).bind fun v10=>
    ((app v10 x1).bind fun v11=>
 some v11))
noncomputable def zL_l1 (m:Nat):Nat→List Dt→List Dt→List Dt→List Dt→Option (List Dt)
  |0,_,_,_,_=>none
  |M1+1,x0,x1,x2,x3=>
   (bif (decide (0<(List.length x1:Int))) then
   (bif (decide (0<(List.length x2:Int))) then
 zL_j2 m (zL_l1 m M1) x0 x1 x2 x3
   else
 zL_j3 m x1 x2 x3)
  else
   zL_j3 m x1 x2 x3)
noncomputable def zL_j0 (m:Nat) (x0 x1 x2 x3:List Dt):Option (List Dt):=
 zL_l1 m (Nat.succ m) x0 x1 x2 x3
noncomputable def zL:Nat→List Dt→List Dt→List Dt→Option (List Dt)
 |0,_,_,_=>none
 |m+1,a0,a1,a2=>
  ((mkL 0 (IntKind.wrap .i64 ((List.length a1:Int)+(List.length a2:Int))) kza2373).bind fun v0=>
  zL_j0 m a0 a1 a2 v0)
noncomputable def qA_j5 (m:Nat) (rec3:List Dt→List Dt→List Dt→Int→Int→List Dt→Option (List Dt×Int×Int)) (x0 x1 x2:List Dt) (x3 x4:Int) (x5:List Dt):Option (List Dt×Int×Int):=
 rec3 x0 x1 x2 x3 (IntKind.wrap .i64 (x4+1)) x5
noncomputable def qA_j4 (m:Nat) (rec3:List Dt→List Dt→List Dt→Int→Int→List Dt→Option (List Dt×Int×Int)) (x0 x1 x2:List Dt) (x3 x4:Int) (x5:List Dt):Option (List Dt×Int×Int):=
  ((idx x2 x4).bind fun v3=>
    ((yJ m x0 (Dt.toLst v3)).bind fun r4=>
 ((inL x5 x4).bind fun v5=>
 ((x5[(Int.toNat x4)]?).bind fun v6=>
 qA_j5 m rec3 x0 x1 x2 x3 x4 (List.set x5 (Int.toNat x4) (Dt.lst r4))))))
noncomputable def qA_j12 (m:Nat) (rec7:List Dt→List Dt→List Dt→Option (List Dt×Int×Int)) (rec10:List Dt→List Dt→Int→List Dt→List Dt→Option (List Dt×Int×Int)) (x0 x1:List Dt) (x2:Int) (x3 x4:List Dt):Option (List Dt×Int×Int):=
 rec10 x0 x1 (IntKind.wrap .i64 (x2+2)) x3 x4
noncomputable def qA_j11 (m:Nat) (rec7:List Dt→List Dt→List Dt→Option (List Dt×Int×Int)) (rec10:List Dt→List Dt→Int→List Dt→List Dt→Option (List Dt×Int×Int)) (x0 x1:List Dt) (x2:Int) (x3 x4:List Dt):Option (List Dt×Int×Int):=
  (bif (decide ((IntKind.wrap .i64 (x2+1))<(List.length x3:Int))) then
   ((inL x3 x2).bind fun v7=>
 ((x3[(Int.toNat x2)]?).bind fun v8=>
 ((inL x3 (IntKind.wrap .i64 (x2+1))).bind fun v9=>
 ((x3[(Int.toNat (IntKind.wrap .i64 (x2+1)))]?).bind fun v10=>
 ((zL m x0 (Dt.toLst v8) (Dt.toLst v10)).bind fun r11=>
 ((app x4 [(Dt.lst r11)]).bind fun v12=>
 qA_j12 m rec7 rec10 x0 x1 x2 x3 v12))))))
  else
   ((inL x3 x2).bind fun v13=>
 ((x3[(Int.toNat x2)]?).bind fun v14=>
 ((app x4 [(Dt.lst (Dt.toLst v14))]).bind fun v15=>
 qA_j12 m rec7 rec10 x0 x1 x2 x3 v15))))
noncomputable def qA_j13 (m:Nat) (rec7:List Dt→List Dt→List Dt→Option (List Dt×Int×Int)) (x0 x1 x2:List Dt):Option (List Dt×Int×Int):=
 rec7 x0 x1 x2
noncomputable def qA_l10 (m:Nat) (rec7:List Dt→List Dt→List Dt→Option (List Dt×Int×Int)):Nat→List Dt→List Dt→Int→List Dt→List Dt→Option (List Dt×Int×Int)
 |0,_,_,_,_,_=>none
 |M10+1,x0,x1,x2,x3,x4=>
  (bif (decide (x2<(List.length x3:Int))) then
  qA_j11 m rec7 (qA_l10 m rec7 M10) x0 x1 x2 x3 x4
 else
  qA_j13 m rec7 x0 x1 x4)
noncomputable def qA_j9 (m:Nat) (rec7:List Dt→List Dt→List Dt→Option (List Dt×Int×Int)) (x0 x1:List Dt) (x2:Int) (x3 x4:List Dt):Option (List Dt×Int×Int):=
 qA_l10 m rec7 (Nat.succ m) x0 x1 x2 x3 x4
noncomputable def qA_j8 (m:Nat) (rec7:List Dt→List Dt→List Dt→Option (List Dt×Int×Int)) (x0 x1 x2:List Dt):Option (List Dt×Int×Int):=
 qA_j9 m rec7 x0 x1 0 x2 []
noncomputable def qA_j14 (m:Nat) (x0 x1:List Dt):Option (List Dt×Int×Int):=
  ((inL x1 0).bind fun v16=>
    ((x1[0]?).bind fun v17=>
 some ((Dt.toLst v17),(List.length x0:Int),0)))
noncomputable def qA_l7 (m:Nat):Nat→List Dt→List Dt→List Dt→Option (List Dt×Int×Int)
 |0,_,_,_=>none
 |M7+1,x0,x1,x2=>
  (bif (decide (1<(List.length x2:Int))) then
  qA_j8 m (qA_l7 m M7) x0 x1 x2
 else
  qA_j14 m x1 x2)
noncomputable def qA_j6 (m:Nat) (x0 x1 x2:List Dt):Option (List Dt×Int×Int):=
 qA_l7 m (Nat.succ m) x0 x1 x2
noncomputable def qA_l3 (m:Nat):Nat→List Dt→List Dt→List Dt→Int→Int→List Dt→Option (List Dt×Int×Int)
 |0,_,_,_,_,_,_=>none
 |M3+1,x0,x1,x2,x3,x4,x5=>
  (bif (decide (x4<x3)) then
  qA_j4 m (qA_l3 m M3) x0 x1 x2 x3 x4 x5
 else
  qA_j6 m x0 x1 x5)
noncomputable def qA_j2 (m:Nat) (x0 x1 x2:List Dt) (x3 x4:Int) (x5:List Dt):Option (List Dt×Int×Int):=
 qA_l3 m (Nat.succ m) x0 x1 x2 x3 x4 x5
noncomputable def qA_j1 (m:Nat) (x0 x1:List Dt):Option (List Dt×Int×Int):=
 ((mkL (List.length x1:Int) (List.length x1:Int) (Dt.lst [])).bind fun v2=>
   qA_j2 m x0 x1 x1 (List.length x1:Int) 0 v2)
noncomputable def qA_j0 (m:Nat) (x0 x1 x2:List Dt):Option (List Dt×Int×Int):=
  (bif ((List.length x2:Int)==0) then
   ((yJ m x0 x1).bind fun r1=>
 some (r1,0,0))
  else
   qA_j1 m x0 x2)
noncomputable def qA:Nat→List Dt→List Dt→Int→Bool→Option (List Dt×Int×Int)
  |0,_,_,_,_=>none
  |m+1,a0,a1,a2,a3=>
   ((qQ m a1 a2 a3).bind fun r0=>
   (bif (r0.2 !=0) then
 some ([],0,r0.2)
   else
 qA_j0 m a0 a1 r0.1))
noncomputable def zJ_j4 (m:Nat) (rec2:Int→ByteArray→Int→Option ByteArray) (x0:Int) (x1:ByteArray) (x2:Int):Option ByteArray:=
 rec2 x0 x1 (IntKind.wrap .i64 (x2+1))
noncomputable def zJ_j3 (m:Nat) (rec2:Int→ByteArray→Int→Option ByteArray) (x0:Int) (x1:ByteArray) (x2:Int):Option ByteArray:=
 (bif (Nat.ble ((ByteArray.size x1)+(ByteArray.size (strOfNums [(orI IntKind.u8 (IntKind.wrap IntKind.u8 (Int.tmod x0 128)) 128)]))) 1152921504606846976) then
  zJ_j4 m rec2 (IntKind.wrap IntKind.u64 (Int.tdiv x0 128)) (x1++(strOfNums [(orI IntKind.u8 (IntKind.wrap IntKind.u8 (Int.tmod x0 128)) 128)])) x2
 else
  none)
noncomputable def zJ_j5 (m:Nat) (x0:Int) (x1:ByteArray):Option ByteArray:=
 (bif (Nat.ble ((ByteArray.size x1)+(ByteArray.size (strOfNums [(IntKind.wrap IntKind.u8 x0)]))) 1152921504606846976) then
  some (x1++(strOfNums [(IntKind.wrap IntKind.u8 x0)]))
 else
  none)
noncomputable def zJ_l2 (m:Nat):Nat→Int→ByteArray→Int→Option ByteArray
  |0,_,_,_=>none
  |M2+1,x0,x1,x2=>
   (bif (decide (x2<10)) then
   (bif (decide (128≤x0)) then
 zJ_j3 m (zJ_l2 m M2) x0 x1 x2
   else
 zJ_j5 m x0 x1)
  else
   zJ_j5 m x0 x1)
noncomputable def zJ_j1 (m:Nat) (x0:Int) (x1:ByteArray) (x2:Int):Option ByteArray:=
 zJ_l2 m (Nat.succ m) x0 x1 x2
noncomputable def zJ_j0 (m:Nat) (x0:Int):Option ByteArray:=
 zJ_j1 m x0 (ByteArray.mk (List.toArray [])) 0
noncomputable def zJ:Nat→Int→Option ByteArray
 |0,_=>none
 |m+1,a0=>
  (bif (decide (a0<0)) then
  zJ_j0 m (complI IntKind.u64 (shlI IntKind.u64 (IntKind.wrap IntKind.u64 a0) 1))
 else
  zJ_j0 m (shlI IntKind.u64 (IntKind.wrap IntKind.u64 a0) 1))
noncomputable def qK_j1 (m:Nat) (self65:Dt→Option ByteArray) (x0:ByteArray):Option ByteArray:=
 some x0
noncomputable def qK_j6 (m:Nat) (self65:Dt→Option ByteArray) (rec4:ByteArray→Int→Dt→Option ByteArray) (x0:ByteArray) (x1:Int) (x2:Dt):Option ByteArray:=
 rec4 x0 (IntKind.wrap .i64 (x1+1)) x2
noncomputable def qK_j5 (m:Nat) (self65:Dt→Option ByteArray) (rec4:ByteArray→Int→Dt→Option ByteArray) (x0:ByteArray) (x1:Int) (x2:Dt):Option ByteArray:=
  ((idx (Dt.L x2 3) x1).bind fun v3=>
    ((self65 v3).bind fun r4=>
 (bif (Nat.ble ((ByteArray.size x0)+(ByteArray.size r4)) 1152921504606846976) then
 qK_j6 m self65 rec4 (x0++r4) x1 x2
 else
 none)))
noncomputable def qK_l4 (m:Nat) (self65:Dt→Option ByteArray):Nat→ByteArray→Int→Dt→Option ByteArray
 |0,_,_,_=>none
 |M4+1,x0,x1,x2=>
  (bif (decide (x1<(List.length (Dt.L x2 3):Int))) then
  qK_j5 m self65 (qK_l4 m self65 M4) x0 x1 x2
 else
  qK_j1 m self65 x0)
noncomputable def qK_j3 (m:Nat) (self65:Dt→Option ByteArray) (x0:ByteArray) (x1:Int) (x2:Dt):Option ByteArray:=
 qK_l4 m self65 (Nat.succ m) x0 x1 x2
noncomputable def qK_j10 (m:Nat) (self65:Dt→Option ByteArray) (rec8:ByteArray→Int→Dt→Option ByteArray) (x0:ByteArray) (x1:Int) (x2:Dt):Option ByteArray:=
 rec8 x0 (IntKind.wrap .i64 (x1+1)) x2
noncomputable def qK_j9 (m:Nat) (self65:Dt→Option ByteArray) (rec8:ByteArray→Int→Dt→Option ByteArray) (x0:ByteArray) (x1:Int) (x2:Dt):Option ByteArray:=
  ((idx (Dt.L x2 4) x1).bind fun v6=>
    ((zJ m (ByteArray.size (Dt.S v6 0):Int)).bind fun r7=>
 (bif (Nat.ble ((ByteArray.size x0)+(ByteArray.size r7)) 1152921504606846976) then
 ((idx (Dt.L x2 4) x1).bind fun v8=>
 (bif (Nat.ble ((ByteArray.size (x0++r7))+(ByteArray.size (Dt.S v8 0))) 1152921504606846976) then
 ((idx (Dt.L x2 4) x1).bind fun v9=>
 ((self65 (Dt.fld v9 1)).bind fun r10=>
 (bif (Nat.ble ((ByteArray.size ((x0++r7)++(Dt.S v8 0)))+(ByteArray.size r10)) 1152921504606846976) then
 qK_j10 m self65 rec8 (((x0++r7)++(Dt.S v8 0))++r10) x1 x2
 else
 none)))
 else
 none))
 else
 none)))
noncomputable def qK_l8 (m:Nat) (self65:Dt→Option ByteArray):Nat→ByteArray→Int→Dt→Option ByteArray
 |0,_,_,_=>none
 |M8+1,x0,x1,x2=>
  (bif (decide (x1<(List.length (Dt.L x2 4):Int))) then
  qK_j9 m self65 (qK_l8 m self65 M8) x0 x1 x2
 else
  qK_j1 m self65 x0)
noncomputable def qK_j7 (m:Nat) (self65:Dt→Option ByteArray) (x0:ByteArray) (x1:Int) (x2:Dt):Option ByteArray:=
 qK_l8 m self65 (Nat.succ m) x0 x1 x2
noncomputable def qK_j2 (m:Nat) (self65:Dt→Option ByteArray) (x0:ByteArray) (x1:Int) (x2:Bool) (x3:Dt):Option ByteArray:=
  (bif x2 then
   ((zJ m (ByteArray.size (Dt.S x3 2):Int)).bind fun r1=>
 (bif (Nat.ble ((ByteArray.size x0)+(ByteArray.size r1)) 1152921504606846976) then
 (bif (Nat.ble ((ByteArray.size (x0++r1))+(ByteArray.size (Dt.S x3 2))) 1152921504606846976) then
 qK_j1 m self65 ((x0++r1)++(Dt.S x3 2))
 else
 none)
 else
 none))
  else
   (bif (x1==8) then
 (bif (Nat.ble ((ByteArray.size x0)+(ByteArray.size (Dt.S x3 2))) 1152921504606846976) then
 qK_j1 m self65 (x0++(Dt.S x3 2))
 else
 none)
   else
 (bif (x1==6) then
 ((zJ m (List.length (Dt.L x3 3):Int)).bind fun r2=>
 (bif (Nat.ble ((ByteArray.size x0)+(ByteArray.size r2)) 1152921504606846976) then
 qK_j3 m self65 (x0++r2) 0 x3
 else
 none))
 else
 (bif (x1==5) then
 ((zJ m (List.length (Dt.L x3 4):Int)).bind fun r5=>
 (bif (Nat.ble ((ByteArray.size x0)+(ByteArray.size r5)) 1152921504606846976) then
 qK_j7 m self65 (x0++r5) 0 x3
 else
 none))
 else
 qK_j1 m self65 x0))))
noncomputable def qK_j0 (m:Nat) (self65:Dt→Option ByteArray) (x0:ByteArray) (x1:Int) (x2:Bool) (x3:Dt):Option ByteArray:=
  (bif x2 then
   ((zJ m (Dt.I x3 1)).bind fun r0=>
 (bif (Nat.ble ((ByteArray.size x0)+(ByteArray.size r0)) 1152921504606846976) then
 qK_j1 m self65 (x0++r0)
 else
 none))
  else
   (bif (x1==9) then
 (bif (Nat.ble ((ByteArray.size x0)+(ByteArray.size (strOfNums [(IntKind.wrap IntKind.u8 (Dt.I x3 1))]))) 1152921504606846976) then
 qK_j1 m self65 (x0++(strOfNums [(IntKind.wrap IntKind.u8 (Dt.I x3 1))]))
 else
 none)
   else
 (bif (x1==4) then
 qK_j2 m self65 x0 x1 (x1==4) x3
 else
 qK_j2 m self65 x0 x1 (x1==7) x3)))
noncomputable def qK:Nat→Dt→Option ByteArray
 |0,_=>none
 |m+1,a0=>
  (bif ((Dt.I a0 0)==3) then
  qK_j0 m (qK m) (strOfNums [(IntKind.wrap IntKind.u8 (Dt.I a0 0))]) (Dt.I a0 0) ((Dt.I a0 0)==3) a0
 else
  qK_j0 m (qK m) (strOfNums [(IntKind.wrap IntKind.u8 (Dt.I a0 0))]) (Dt.I a0 0) ((Dt.I a0 0)==10) a0)
noncomputable def z6_j0 (m:Nat) (x0:Dt):Option (ByteArray×Int):=
 ((qK m x0).bind fun r1=>
   some (r1,0))
noncomputable def z6:Nat→Dt→Option (ByteArray×Int)
  |0,_=>none
  |m+1,a0=>
   ((yC m a0).bind fun r0=>
   (bif (Bool.not r0) then
 some ((ByteArray.mk (List.toArray [])),8)
   else
 z6_j0 m a0))
noncomputable def z8:Nat→Dt→Option (Int×Int)
 |0,_=>none
 |m+1,a0=>
  ((z6 m a0).bind fun r0=>
  some ((ByteArray.size r0.1:Int),r0.2))
noncomputable def zA_j5 (m:Nat) (rec1:List Dt→Int→Int→Int→Int→Int→Option Int) (x0:List Dt) (x1 x2 x3 x4 x5:Int):Option Int:=
 rec1 x0 x1 x2 x3 x4 (IntKind.wrap .i64 (x5+1))
noncomputable def zA_j4 (m:Nat) (rec1:List Dt→Int→Int→Int→Int→Int→Option Int) (x0:List Dt) (x1 x2 x3 x4 x5 x6:Int):Option Int:=
 zA_j5 m rec1 x0 x1 x2 (IntKind.wrap .i64 (x3+x6)) x4 x5
noncomputable def zA_j3 (m:Nat) (rec1:List Dt→Int→Int→Int→Int→Int→Option Int) (x0:List Dt) (x1 x2 x3 x4 x5 x6:Int) (x7:Bool):Option Int:=
 (bif x7 then
  zA_j4 m rec1 x0 x1 (IntKind.wrap .i64 (x2+1)) 0 x4 x5 x6
 else
  zA_j4 m rec1 x0 x1 x2 x3 x4 x5 x6)
noncomputable def zA_j2 (m:Nat) (rec1:List Dt→Int→Int→Int→Int→Int→Option Int) (x0:List Dt) (x1 x2 x3 x4 x5:Int):Option Int:=
  ((idx x0 x5).bind fun v0=>
    ((z8 m v0).bind fun r1=>
 (bif (decide (x1<(IntKind.wrap .i64 (x3+r1.1)))) then
 zA_j3 m rec1 x0 x1 x2 x3 (IntKind.wrap .i64 (x4+r1.1)) x5 r1.1 true
 else
 zA_j3 m rec1 x0 x1 x2 x3 (IntKind.wrap .i64 (x4+r1.1)) x5 r1.1 (x2==0))))
noncomputable def zA_j7 (m:Nat) (x0:Int):Option Int:=
 some x0
noncomputable def zA_j6 (m:Nat) (x0 x1 x2:Int):Option Int:=
 (bif (decide (x2≤x0)) then
  some 0
 else
  zA_j7 m x1)
noncomputable def zA_l1 (m:Nat):Nat→List Dt→Int→Int→Int→Int→Int→Option Int
 |0,_,_,_,_,_,_=>none
 |M1+1,x0,x1,x2,x3,x4,x5=>
  (bif (decide (x5<(List.length x0:Int))) then
  zA_j2 m (zA_l1 m M1) x0 x1 x2 x3 x4 x5
 else
  zA_j6 m x1 x2 x4)
noncomputable def zA_j0 (m:Nat) (x0:List Dt) (x1 x2 x3 x4 x5:Int):Option Int:=
 zA_l1 m (Nat.succ m) x0 x1 x2 x3 x4 x5
noncomputable def zA:Nat→List Dt→Int→Option Int
 |0,_,_=>none
 |m+1,a0,a1=>
  zA_j0 m a0 a1 0 a1 0 0
noncomputable def zV_j2 (m:Nat) (x0:Int):Option (Int×Int):=
 some (x0,0)
noncomputable def zV_j1 (m:Nat) (x0:Int) (x1:Bool):Option (Int×Int):=
 (bif x1 then
  some (0,22)
 else
  zV_j2 m x0)
noncomputable def zV_j0 (m:Nat) (x0:List Dt) (x1:Int) (x2:Bool):Option (Int×Int):=
  ((zA m x0 (bif (decide (1099511627776<x1)) then 1099511627776 else x1)).bind fun r0=>
    (bif (decide (0<r0)) then
 zV_j1 m r0 (Bool.not x2)
    else
 zV_j1 m r0 false))
noncomputable def zV:Nat→List Dt→Int→Bool→Option (Int×Int)
 |0,_,_,_=>none
 |m+1,a0,a1,a2=>
  (bif (decide (a1<1)) then
  some (0,1)
 else
  zV_j0 m a0 a1 a2)
noncomputable def qY_j7 (m:Nat) (rec3:ByteArray→Int→Int→Option (Int×Bool)) (x0:ByteArray) (x1 x2:Int):Option (Int×Bool):=
 rec3 x0 x1 (IntKind.wrap .i64 (x2+1))
noncomputable def qY_j6 (m:Nat) (rec3:ByteArray→Int→Int→Option (Int×Bool)) (x0:ByteArray) (x1 x2:Int):Option (Int×Bool):=
 ((idxS x0 x2).bind fun v1=>
   qY_j7 m rec3 x0 (IntKind.wrap .i64 ((IntKind.wrap .i64 (x1*10))+(IntKind.wrap .i64 (IntKind.wrap IntKind.u8 (v1-48))))) x2)
noncomputable def qY_j5 (m:Nat) (rec3:ByteArray→Int→Int→Option (Int×Bool)) (x0:ByteArray) (x1 x2:Int) (x3:Bool):Option (Int×Bool):=
 (bif x3 then
  some (0,false)
 else
  qY_j6 m rec3 x0 x1 x2)
noncomputable def qY_j4 (m:Nat) (rec3:ByteArray→Int→Int→Option (Int×Bool)) (x0:ByteArray) (x1 x2:Int):Option (Int×Bool):=
  ((idxS x0 x2).bind fun v0=>
    (bif (decide (v0<48)) then
 qY_j5 m rec3 x0 x1 x2 true
    else
 ((idxS x0 x2).bind fun v2=>
 qY_j5 m rec3 x0 x1 x2 (decide (57<v2)))))
noncomputable def qY_j8 (m:Nat) (x0:Int):Option (Int×Bool):=
 some (x0,true)
noncomputable def qY_l3 (m:Nat):Nat→ByteArray→Int→Int→Option (Int×Bool)
 |0,_,_,_=>none
 |M3+1,x0,x1,x2=>
  (bif (decide (x2<(ByteArray.size x0:Int))) then
  qY_j4 m (qY_l3 m M3) x0 x1 x2
 else
  qY_j8 m x1)
noncomputable def qY_j2 (m:Nat) (x0:ByteArray) (x1 x2:Int):Option (Int×Bool):=
 qY_l3 m (Nat.succ m) x0 x1 x2
noncomputable def qY_j1 (m:Nat) (x0:ByteArray):Option (Int×Bool):=
 qY_j2 m x0 0 0
noncomputable def qY_j0 (m:Nat) (x0:ByteArray) (x1:Bool):Option (Int×Bool):=
 (bif x1 then
  some (0,false)
 else
  qY_j1 m x0)
noncomputable def qY:Nat→ByteArray→Option (Int×Bool)
  |0,_=>none
  |m+1,a0=>
   (bif (decide ((ByteArray.size a0:Int)<1)) then
   qY_j0 m a0 true
  else
   (bif (decide (4<(ByteArray.size a0:Int))) then
 qY_j0 m a0 true
   else
 ((idxS a0 0).bind fun v3=>
 (bif (v3==48) then
 qY_j0 m a0 (decide (1<(ByteArray.size a0:Int)))
 else
 qY_j0 m a0 false))))
noncomputable def zT_j4 (m:Nat) (rec2:ByteArray→Int→Dt→Option Int) (x0:ByteArray) (x1:Int) (x2:Dt):Option Int:=
 rec2 x0 (IntKind.wrap .i64 (x1+1)) x2
noncomputable def zT_j3 (m:Nat) (rec2:ByteArray→Int→Dt→Option Int) (x0:ByteArray) (x1:Int) (x2:Dt):Option Int:=
  ((idx (Dt.L x2 4) x1).bind fun v0=>
    (bif ((ByteArray.toList (Dt.S v0 0))==(ByteArray.toList x0)) then
 some x1
    else
 zT_j4 m rec2 x0 x1 x2))
noncomputable def zT_j5 (m:Nat):Option Int:=
 some (-1)
noncomputable def zT_l2 (m:Nat):Nat→ByteArray→Int→Dt→Option Int
 |0,_,_,_=>none
 |M2+1,x0,x1,x2=>
  (bif (decide (x1<(List.length (Dt.L x2 4):Int))) then
  zT_j3 m (zT_l2 m M2) x0 x1 x2
 else
  zT_j5 m)
noncomputable def zT_j1 (m:Nat) (x0:ByteArray) (x1:Int) (x2:Dt):Option Int:=
 zT_l2 m (Nat.succ m) x0 x1 x2
noncomputable def zT_j0 (m:Nat) (x0:ByteArray) (x1:Dt):Option Int:=
 zT_j1 m x0 0 x1
noncomputable def zT:Nat→Dt→ByteArray→Option Int
 |0,_,_=>none
 |m+1,a0,a1=>
  (bif ((Dt.I a0 0) !=5) then
  some (-1)
 else
  zT_j0 m a1 a0)
noncomputable def yD_j0 (m:Nat) (x0:Int) (x1 x2:Dt):Option (Dt×Bool):=
 ((idx (Dt.L x1 4) x0).bind fun v1=>
   some ((Dt.fld v1 1),true))
noncomputable def yD:Nat→Dt→ByteArray→Option (Dt×Bool)
  |0,_,_=>none
  |m+1,a0,a1=>
   ((zT m a0 a1).bind fun r0=>
   (bif (decide (r0<0)) then
 some (kza2373,false)
   else
 yD_j0 m r0 a0 kza2373))
noncomputable def qO_j1 (m:Nat) (self78:Dt→List Dt→Option (List Dt)):Option (List Dt):=
 some []
noncomputable def qO_j7 (m:Nat) (self78:Dt→List Dt→Option (List Dt)) (rec5:List Dt→Int→Dt→List Dt→Option (List Dt)) (x0:List Dt) (x1:Int) (x2:Dt) (x3:List Dt):Option (List Dt):=
 rec5 x0 (IntKind.wrap .i64 (x1+1)) x2 x3
noncomputable def qO_j6 (m:Nat) (self78:Dt→List Dt→Option (List Dt)) (rec5:List Dt→Int→Dt→List Dt→Option (List Dt)) (x0:List Dt) (x1:Int) (x2:Dt) (x3:List Dt):Option (List Dt):=
  ((idx (Dt.L x2 3) x1).bind fun v4=>
    (bif ((Dt.I v4 0)==5) then
 ((idx (Dt.L x2 3) x1).bind fun v5=>
 ((self78 v5 x0).bind fun r6=>
 ((app x3 r6).bind fun v7=>
 qO_j7 m self78 rec5 x0 x1 x2 v7)))
    else
 qO_j7 m self78 rec5 x0 x1 x2 x3))
noncomputable def qO_j10 (m:Nat) (self78:Dt→List Dt→Option (List Dt)) (x0:List Dt):Option (List Dt):=
 some x0
noncomputable def qO_j9 (m:Nat) (self78:Dt→List Dt→Option (List Dt)) (x0:List Dt) (x1:Int) (x2:Bool) (x3:Dt) (x4:List Dt):Option (List Dt):=
  (bif x2 then
   ((idx (Dt.L x3 3) x1).bind fun v10=>
 ((cutL x0 1 (List.length x0:Int)).bind fun v11=>
 ((self78 v10 v11).bind fun r12=>
 ((app x4 r12).bind fun v13=>
 qO_j10 m self78 v13))))
  else
   qO_j10 m self78 x4)
noncomputable def qO_j8 (m:Nat) (self78:Dt→List Dt→Option (List Dt)) (x0:List Dt) (x1:Dt) (x2:List Dt):Option (List Dt):=
  ((idx x0 0).bind fun v8=>
    ((qY m (Dt.toStr v8)).bind fun r9=>
 (bif r9.2 then
 qO_j9 m self78 x0 r9.1 (decide (r9.1<(List.length (Dt.L x1 3):Int))) x1 x2
 else
 qO_j9 m self78 x0 r9.1 false x1 x2)))
noncomputable def qO_l5 (m:Nat) (self78:Dt→List Dt→Option (List Dt)):Nat→List Dt→Int→Dt→List Dt→Option (List Dt)
 |0,_,_,_,_=>none
 |M5+1,x0,x1,x2,x3=>
  (bif (decide (x1<(List.length (Dt.L x2 3):Int))) then
  qO_j6 m self78 (qO_l5 m self78 M5) x0 x1 x2 x3
 else
  qO_j8 m self78 x0 x2 x3)
noncomputable def qO_j4 (m:Nat) (self78:Dt→List Dt→Option (List Dt)) (x0:List Dt) (x1:Int) (x2:Dt) (x3:List Dt):Option (List Dt):=
 qO_l5 m self78 (Nat.succ m) x0 x1 x2 x3
noncomputable def qO_j3 (m:Nat) (self78:Dt→List Dt→Option (List Dt)) (x0:List Dt) (x1:Dt):Option (List Dt):=
 qO_j4 m self78 x0 0 x1 []
noncomputable def qO_j2 (m:Nat) (self78:Dt→List Dt→Option (List Dt)) (x0:List Dt) (x1:Dt):Option (List Dt):=
 (bif ((Dt.I x1 0) !=6) then
  some []
 else
  qO_j3 m self78 x0 x1)
noncomputable def qO_j0 (m:Nat) (self78:Dt→List Dt→Option (List Dt)) (x0:List Dt) (x1:Dt):Option (List Dt):=
  (bif ((Dt.I x1 0)==5) then
   ((idx x0 0).bind fun v0=>
 ((yD m x1 (Dt.toStr v0)).bind fun r1=>
 (bif r1.2 then
 ((cutL x0 1 (List.length x0:Int)).bind fun v2=>
 ((self78 r1.1 v2).bind fun r3=>
 some r3))
 else
 qO_j1 m self78)))
  else
   qO_j2 m self78 x0 x1)
noncomputable def qO:Nat→Dt→List Dt→Option (List Dt)
 |0,_,_=>none
 |m+1,a0,a1=>
  (bif ((List.length a1:Int)==0) then
  some [a0]
 else
  qO_j0 m (qO m) a1 a0)
noncomputable def zX_j0 (m:Nat) (x0:List Dt):Option (List Dt):=
 some x0
noncomputable def zX:Nat→Dt→List Dt→Option (List Dt)
  |0,_,_=>none
  |m+1,a0,a1=>
   ((qO m a0 a1).bind fun r0=>
   (bif ((List.length r0:Int)==0) then
 some [kza2373]
   else
 zX_j0 m r0))
noncomputable def zB_j3 (m:Nat) (rec1:List Dt→Int→List Dt→Option (List Dt)) (x0:List Dt) (x1:Int) (x2:List Dt):Option (List Dt):=
 rec1 x0 (IntKind.wrap .i64 (x1+1)) x2
noncomputable def zB_j4 (m:Nat) (rec1:List Dt→Int→List Dt→Option (List Dt)) (x0:List Dt) (x1:Int) (x2:Bool) (x3:List Dt):Option (List Dt):=
  (bif x2 then
   ((idx x0 x1).bind fun v5=>
 ((app x3 (Dt.L v5 3)).bind fun v6=>
 zB_j3 m rec1 x0 x1 v6))
  else
   ((idx x0 x1).bind fun v7=>
 ((app x3 [v7]).bind fun v8=>
 zB_j3 m rec1 x0 x1 v8)))
noncomputable def zB_j2 (m:Nat) (rec1:List Dt→Int→List Dt→Option (List Dt)) (x0:List Dt) (x1:Int) (x2:List Dt):Option (List Dt):=
  ((idx x0 x1).bind fun v1=>
    (bif ((Dt.I v1 0)==0) then
 ((app x2 [kz3c25e]).bind fun v2=>
 zB_j3 m rec1 x0 x1 v2)
    else
 ((idx x0 x1).bind fun v3=>
 (bif ((Dt.I v3 0)==6) then
 ((idx x0 x1).bind fun v4=>
 zB_j4 m rec1 x0 x1 (decide (0<(List.length (Dt.L v4 3):Int))) x2)
 else
 zB_j4 m rec1 x0 x1 false x2))))
noncomputable def zB_j5 (m:Nat) (x0:List Dt):Option (List Dt):=
 some x0
noncomputable def zB_l1 (m:Nat):Nat→List Dt→Int→List Dt→Option (List Dt)
 |0,_,_,_=>none
 |M1+1,x0,x1,x2=>
  (bif (decide (x1<(List.length x0:Int))) then
  zB_j2 m (zB_l1 m M1) x0 x1 x2
 else
  zB_j5 m x2)
noncomputable def zB_j0 (m:Nat) (x0:List Dt) (x1:Int) (x2:List Dt):Option (List Dt):=
 zB_l1 m (Nat.succ m) x0 x1 x2
noncomputable def zB:Nat→Dt→List Dt→Option (List Dt)
 |0,_,_=>none
 |m+1,a0,a1=>
  ((zX m a0 a1).bind fun r0=>
  zB_j0 m r0 0 [])
noncomputable def zK_j4 (m:Nat) (rec1:List Dt→Int→Dt→Dt→Dt→Option Dt) (x0:List Dt) (x1:Int) (x2 x3 x4:Dt):Option Dt:=
 rec1 x0 (IntKind.wrap .i64 (x1+1)) x2 x3 x4
noncomputable def zK_j3 (m:Nat) (rec1:List Dt→Int→Dt→Dt→Dt→Option Dt) (x0:List Dt) (x1:Int) (x2:Bool) (x3 x4 x5:Dt):Option Dt:=
  (bif x2 then
   ((idx x0 x1).bind fun v4=>
 zK_j4 m rec1 x0 x1 x3 x4 v4)
  else
   zK_j4 m rec1 x0 x1 x3 x4 x5)
noncomputable def zK_j2 (m:Nat) (rec1:List Dt→Int→Dt→Dt→Dt→Option Dt) (x0:List Dt) (x1:Int) (x2 x3 x4:Dt):Option Dt:=
  ((idx x0 x1).bind fun v2=>
    ((qB m v2 x4).bind fun r3=>
 (bif (decide (r3<0)) then
 (bif (Bool.not (Dt.B x2 1)) then
 zK_j3 m rec1 x0 x1 true x2 x3 x4
 else
 (bif (decide (0<r3)) then
 zK_j3 m rec1 x0 x1 (Dt.B x2 1) x2 x3 x4
 else
 zK_j3 m rec1 x0 x1 false x2 x3 x4))
 else
 (bif (decide (0<r3)) then
 zK_j3 m rec1 x0 x1 (Dt.B x2 1) x2 x3 x4
 else
 zK_j3 m rec1 x0 x1 false x2 x3 x4))))
noncomputable def zK_j5 (m:Nat) (x0 x1:Dt):Option Dt:=
 some x1
noncomputable def zK_l1 (m:Nat):Nat→List Dt→Int→Dt→Dt→Dt→Option Dt
 |0,_,_,_,_,_=>none
 |M1+1,x0,x1,x2,x3,x4=>
  (bif (decide (x1<(List.length x0:Int))) then
  zK_j2 m (zK_l1 m M1) x0 x1 x2 x3 x4
 else
  zK_j5 m x3 x4)
noncomputable def zK_j0 (m:Nat) (x0:List Dt) (x1:Int) (x2 x3 x4:Dt):Option Dt:=
 zK_l1 m (Nat.succ m) x0 x1 x2 x3 x4
noncomputable def zK:Nat→Dt→Dt→Option Dt
  |0,_,_=>none
  |m+1,a0,a1=>
   ((zB m a1 (Dt.L a0 0)).bind fun r0=>
   ((idx r0 0).bind fun v1=>
 zK_j0 m r0 1 a0 kza2373 v1))
noncomputable def qX_j5 (m:Nat) (rec1:List Dt→Int→Dt→Dt→Option Int) (x0:List Dt) (x1:Int) (x2 x3:Dt):Option Int:=
 rec1 x0 (IntKind.wrap .i64 (x1+1)) x2 x3
noncomputable def qX_j4 (m:Nat) (rec1:List Dt→Int→Dt→Dt→Option Int) (x0:List Dt) (x1 x2:Int) (x3 x4:Dt):Option Int:=
 (bif (x2 !=0) then
  some x2
 else
  qX_j5 m rec1 x0 x1 x3 x4)
noncomputable def qX_j3 (m:Nat) (rec1:List Dt→Int→Dt→Dt→Option Int) (x0:List Dt) (x1 x2:Int) (x3:Bool) (x4 x5:Dt):Option Int:=
 (bif x3 then
  some (IntKind.wrap .i64 (0-x2))
 else
  qX_j4 m rec1 x0 x1 x2 x4 x5)
noncomputable def qX_j2 (m:Nat) (rec1:List Dt→Int→Dt→Dt→Option Int) (x0:List Dt) (x1:Int) (x2 x3:Dt):Option Int:=
  ((idx x0 x1).bind fun v0=>
    ((zK m v0 x2).bind fun r1=>
 ((idx x0 x1).bind fun v2=>
 ((zK m v2 x3).bind fun r3=>
 ((qB m r1 r3).bind fun r4=>
 (bif (r4 !=0) then
 ((idx x0 x1).bind fun v5=>
 qX_j3 m rec1 x0 x1 r4 (Dt.B v5 1) x2 x3)
 else
 qX_j3 m rec1 x0 x1 r4 false x2 x3))))))
noncomputable def qX_j6 (m:Nat):Option Int:=
 some 0
noncomputable def qX_l1 (m:Nat):Nat→List Dt→Int→Dt→Dt→Option Int
 |0,_,_,_,_=>none
 |M1+1,x0,x1,x2,x3=>
  (bif (decide (x1<(List.length x0:Int))) then
  qX_j2 m (qX_l1 m M1) x0 x1 x2 x3
 else
  qX_j6 m)
noncomputable def qX_j0 (m:Nat) (x0:List Dt) (x1:Int) (x2 x3:Dt):Option Int:=
 qX_l1 m (Nat.succ m) x0 x1 x2 x3
noncomputable def qX:Nat→List Dt→Dt→Dt→Option Int
 |0,_,_,_=>none
 |m+1,a0,a1,a2=>
  qX_j0 m a0 0 a1 a2
noncomputable def zE_j5 (m:Nat) (rec1:List Dt→List Dt→List Dt→Int→Option (List Dt)) (rec4:List Dt→List Dt→List Dt→Int→Int→Option (List Dt)) (x0 x1 x2:List Dt) (x3 x4:Int):Option (List Dt):=
 rec4 x0 x1 x2 x3 (IntKind.wrap .i64 (x4-1))
noncomputable def zE_j7 (m:Nat) (rec1:List Dt→List Dt→List Dt→Int→Option (List Dt)) (x0 x1 x2:List Dt) (x3:Int):Option (List Dt):=
 rec1 x0 x1 x2 (IntKind.wrap .i64 (x3+1))
noncomputable def zE_j6 (m:Nat) (rec1:List Dt→List Dt→List Dt→Int→Option (List Dt)) (x0 x1 x2:List Dt) (x3 x4:Int):Option (List Dt):=
  ((cutL x2 0 x4).bind fun v3=>
    ((app [] v3).bind fun v4=>
 ((idx x1 x3).bind fun v5=>
 ((app v4 [v5]).bind fun v6=>
 ((cutL x2 x4 (List.length x2:Int)).bind fun v7=>
 ((app v6 v7).bind fun v8=>
 zE_j7 m rec1 x0 x1 v8 x3))))))
noncomputable def zE_l4 (m:Nat) (rec1:List Dt→List Dt→List Dt→Int→Option (List Dt)):Nat→List Dt→List Dt→List Dt→Int→Int→Option (List Dt)
  |0,_,_,_,_,_=>none
  |M4+1,x0,x1,x2,x3,x4=>
   (bif (decide (0<x4)) then
   ((idx x2 (IntKind.wrap .i64 (x4-1))).bind fun v0=>
 ((idx x1 x3).bind fun v1=>
 ((qX m x0 v0 v1).bind fun r2=>
 (bif (decide (0<r2)) then
 zE_j5 m rec1 (zE_l4 m rec1 M4) x0 x1 x2 x3 x4
 else
 zE_j6 m rec1 x0 x1 x2 x3 x4))))
  else
   zE_j6 m rec1 x0 x1 x2 x3 x4)
noncomputable def zE_j3 (m:Nat) (rec1:List Dt→List Dt→List Dt→Int→Option (List Dt)) (x0 x1 x2:List Dt) (x3 x4:Int):Option (List Dt):=
 zE_l4 m rec1 (Nat.succ m) x0 x1 x2 x3 x4
noncomputable def zE_j2 (m:Nat) (rec1:List Dt→List Dt→List Dt→Int→Option (List Dt)) (x0 x1 x2:List Dt) (x3:Int):Option (List Dt):=
 zE_j3 m rec1 x0 x1 x2 x3 (List.length x2:Int)
noncomputable def zE_j8 (m:Nat) (x0:List Dt):Option (List Dt):=
 some x0
noncomputable def zE_l1 (m:Nat):Nat→List Dt→List Dt→List Dt→Int→Option (List Dt)
 |0,_,_,_,_=>none
 |M1+1,x0,x1,x2,x3=>
  (bif (decide (x3<(List.length x1:Int))) then
  zE_j2 m (zE_l1 m M1) x0 x1 x2 x3
 else
  zE_j8 m x2)
noncomputable def zE_j0 (m:Nat) (x0 x1 x2:List Dt) (x3:Int):Option (List Dt):=
 zE_l1 m (Nat.succ m) x0 x1 x2 x3
noncomputable def zE:Nat→List Dt→List Dt→Option (List Dt)
 |0,_,_=>none
 |m+1,a0,a1=>
  zE_j0 m a0 a1 [] 0
noncomputable def yA_j0 (m:Nat) (x0 x1:List Dt) (x2:Int):Option (List Dt×Int×Int):=
 ((zE m x0 x1).bind fun r1=>
   some (r1,x2,0))
noncomputable def yA:Nat→List Dt→List Dt→Int→Bool→Option (List Dt×Int×Int)
  |0,_,_,_,_=>none
  |m+1,a0,a1,a2,a3=>
   ((zV m a1 a2 a3).bind fun r0=>
   (bif (r0.2 !=0) then
 some ([],0,r0.2)
   else
 yA_j0 m a0 a1 r0.1))
noncomputable def zQ_j1 (m:Nat) (x0:Dt):Option Bool:=
  ((qA m (Dt.L x0 0) (Dt.L x0 1) (Dt.I x0 2) (Dt.B x0 3)).bind fun r2=>
    ((yA m (Dt.L x0 0) (Dt.L x0 1) (Dt.I x0 2) (Dt.B x0 3)).bind fun r3=>
 ((z7 m r2.1 r3.1).bind fun r4=>
 (bif r4 then
 (bif (r2.2.1==r3.2.1) then
 (bif (r2.2.2==r3.2.2) then
 ((awakeC).bind fun r5=>
 some r5)
 else
 some false)
 else
 some false)
 else
 some false))))
noncomputable def zQ_j0 (m:Nat) (x0:Bool) (x1:Dt):Option Bool:=
  (bif x0 then
   ((awakeC).bind fun r1=>
 some r1)
  else
   zQ_j1 m x1)
noncomputable def zQ:Nat→Dt→Option Bool
  |0,_=>none
  |m+1,a0=>
   ((zI m (Dt.L a0 1)).bind fun r0=>
   (bif (Bool.not r0) then
 zQ_j0 m true a0
   else
 ((qS m (Dt.L a0 0)).bind fun r6=>
 zQ_j0 m (r6 !=0) a0)))
end Go.Proofs.YtpifchdngodgjaaGreatDoor
