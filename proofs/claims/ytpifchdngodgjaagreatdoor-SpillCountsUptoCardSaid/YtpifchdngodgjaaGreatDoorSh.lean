/- Generated: what the Go functions compute, over plain data. -/
import Derived.Test.YtpifchdngodgjaaGreatDoorAm20
import Derived.Test.YtpifchdngodgjaaGreatDoorOAwake
import Derived.Test.YtpifchdngodgjaaGreatDoorOLibS
import Derived.Test.YtpifchdngodgjaaGreatDoorOCt
set_option linter.unusedVariables false
set_option linter.unusedSimpArgs false
namespace Go.Proofs.YtpifchdngodgjaaGreatDoor
open Go.Am
def kz60e97:Dt:=Dt.agg [(Dt.int 3),(Dt.int 1),(Dt.str (ByteArray.mk (List.toArray []))),(Dt.lst []),(Dt.lst [])]
def kz3c25e:Dt:=Dt.agg [(Dt.int 2),(Dt.int 0),(Dt.str (ByteArray.mk (List.toArray []))),(Dt.lst []),(Dt.lst [])]
def kza2373:Dt:=Dt.agg [(Dt.int 0),(Dt.int 0),(Dt.str (ByteArray.mk (List.toArray []))),(Dt.lst []),(Dt.lst [])]
def kzc575d:Dt:=Dt.agg [(Dt.int 0),(Dt.int 0),(Dt.int 0),(Dt.agg [(Dt.int 0),(Dt.int 0),(Dt.str (ByteArray.mk (List.toArray []))),(Dt.lst []),(Dt.lst [])]),(Dt.lst []),(Dt.lst [])]
def kzcda49:Dt:=Dt.agg [(Dt.str (ByteArray.mk (List.toArray []))),(Dt.agg [(Dt.int 0),(Dt.int 0),(Dt.str (ByteArray.mk (List.toArray []))),(Dt.lst []),(Dt.lst [])])]
def kzd6e5e:Dt:=Dt.agg [(Dt.agg [(Dt.int 0),(Dt.int 0),(Dt.str (ByteArray.mk (List.toArray []))),(Dt.lst []),(Dt.lst [])]),(Dt.lst [])]
noncomputable def z6:Nat→Int→Option Dt
 |0,_=>none
 |m+1,a0=>
  some (Dt.agg [(Dt.int 3),(Dt.int a0),(Dt.str (ByteArray.mk (List.toArray []))),(Dt.lst []),(Dt.lst [])])
noncomputable def qI_j5 (m:Nat) (self14:Dt→Dt→Option Bool) (rec3:Int→Dt→Dt→Option Bool) (x0:Int) (x1 x2:Dt):Option Bool:=
 rec3 (IntKind.wrap .i64 (x0+1)) x1 x2
noncomputable def qI_j4 (m:Nat) (self14:Dt→Dt→Option Bool) (rec3:Int→Dt→Dt→Option Bool) (x0:Int) (x1 x2:Dt):Option Bool:=
  ((idx (Dt.L x1 3) x0).bind fun v0=>
    ((idx (Dt.L x2 3) x0).bind fun v1=>
 ((self14 v0 v1).bind fun r2=>
 (bif (Bool.not r2) then
 some false
 else
 qI_j5 m self14 rec3 x0 x1 x2))))
noncomputable def qI_j11 (m:Nat) (self14:Dt→Dt→Option Bool) (rec8:Int→Dt→Dt→Option Bool) (x0:Int) (x1 x2:Dt):Option Bool:=
 rec8 (IntKind.wrap .i64 (x0+1)) x1 x2
noncomputable def qI_j10 (m:Nat) (self14:Dt→Dt→Option Bool) (rec8:Int→Dt→Dt→Option Bool) (x0:Int) (x1:Bool) (x2 x3:Dt):Option Bool:=
 (bif x1 then
  some false
 else
  qI_j11 m self14 rec8 x0 x2 x3)
noncomputable def qI_j9 (m:Nat) (self14:Dt→Dt→Option Bool) (rec8:Int→Dt→Dt→Option Bool) (x0:Int) (x1 x2:Dt):Option Bool:=
  ((idx (Dt.L x1 4) x0).bind fun v3=>
    ((idx (Dt.L x2 4) x0).bind fun v4=>
 (bif (Bool.not ((ByteArray.toList (Dt.S v3 0))==(ByteArray.toList (Dt.S v4 0)))) then
 qI_j10 m self14 rec8 x0 true x1 x2
 else
 ((idx (Dt.L x1 4) x0).bind fun v5=>
 ((idx (Dt.L x2 4) x0).bind fun v6=>
 ((self14 (Dt.fld v5 1) (Dt.fld v6 1)).bind fun r7=>
 qI_j10 m self14 rec8 x0 (Bool.not r7) x1 x2))))))
noncomputable def qI_j12 (m:Nat) (self14:Dt→Dt→Option Bool):Option Bool:=
 some true
noncomputable def qI_l8 (m:Nat) (self14:Dt→Dt→Option Bool):Nat→Int→Dt→Dt→Option Bool
 |0,_,_,_=>none
 |M8+1,x0,x1,x2=>
  (bif (decide (x0<(List.length (Dt.L x1 4):Int))) then
  qI_j9 m self14 (qI_l8 m self14 M8) x0 x1 x2
 else
  qI_j12 m self14)
noncomputable def qI_j7 (m:Nat) (self14:Dt→Dt→Option Bool) (x0:Int) (x1 x2:Dt):Option Bool:=
 qI_l8 m self14 (Nat.succ m) x0 x1 x2
noncomputable def qI_j6 (m:Nat) (self14:Dt→Dt→Option Bool) (x0 x1:Dt):Option Bool:=
 qI_j7 m self14 0 x0 x1
noncomputable def qI_l3 (m:Nat) (self14:Dt→Dt→Option Bool):Nat→Int→Dt→Dt→Option Bool
 |0,_,_,_=>none
 |M3+1,x0,x1,x2=>
  (bif (decide (x0<(List.length (Dt.L x1 3):Int))) then
  qI_j4 m self14 (qI_l3 m self14 M3) x0 x1 x2
 else
  qI_j6 m self14 x1 x2)
noncomputable def qI_j2 (m:Nat) (self14:Dt→Dt→Option Bool) (x0:Int) (x1 x2:Dt):Option Bool:=
 qI_l3 m self14 (Nat.succ m) x0 x1 x2
noncomputable def qI_j1 (m:Nat) (self14:Dt→Dt→Option Bool) (x0 x1:Dt):Option Bool:=
 qI_j2 m self14 0 x0 x1
noncomputable def qI_j0 (m:Nat) (self14:Dt→Dt→Option Bool) (x0:Bool) (x1 x2:Dt):Option Bool:=
 (bif x0 then
  some false
 else
  qI_j1 m self14 x1 x2)
noncomputable def qI:Nat→Dt→Dt→Option Bool
  |0,_,_=>none
  |m+1,a0,a1=>
   (bif ((Dt.I a0 0) !=(Dt.I a1 0)) then
   qI_j0 m (qI m) true a0 a1
  else
   (bif ((Dt.I a0 1) !=(Dt.I a1 1)) then
 qI_j0 m (qI m) true a0 a1
   else
 (bif (Bool.not ((ByteArray.toList (Dt.S a0 2))==(ByteArray.toList (Dt.S a1 2)))) then
 qI_j0 m (qI m) true a0 a1
 else
 (bif ((List.length (Dt.L a0 3):Int) !=(List.length (Dt.L a1 3):Int)) then
 qI_j0 m (qI m) true a0 a1
 else
 qI_j0 m (qI m) ((List.length (Dt.L a0 4):Int) !=(List.length (Dt.L a1 4):Int)) a0 a1))))
noncomputable def zM:Nat→List Dt→List Dt→Option Bool
 |0,_,_=>none
 |m+1,a0,a1=>
  ((qI m (Dt.agg [(Dt.int 6),(Dt.int 0),(Dt.str (ByteArray.mk (List.toArray []))),(Dt.lst a0),(Dt.lst [])]) (Dt.agg [(Dt.int 6),(Dt.int 0),(Dt.str (ByteArray.mk (List.toArray []))),(Dt.lst a1),(Dt.lst [])])).bind fun r0=>
  some r0)
noncomputable def i21_j6 (m:Nat) (rec1:List Dt→Int→Int→Dt→List Dt→List Dt→List Dt→Option (List Dt×List Dt×List Dt)) (rec5:Int→List Dt→Int→Int→List Dt→Int→Int→Dt→List Dt→List Dt→List Dt→Dt→Option (List Dt×List Dt×List Dt)) (x0:Int) (x1:List Dt) (x2 x3:Int) (x4:List Dt) (x5 x6:Int) (x7:Dt) (x8 x9 x10:List Dt) (x11:Dt):Option (List Dt×List Dt×List Dt):=
  ((idx x4 x6).bind fun v2=>
    ((inL x9 x0).bind fun v3=>
 ((x9[(Int.toNat x0)]?).bind fun v4=>
 ((inL x9 x0).bind fun v5=>
 ((x9[(Int.toNat x0)]?).bind fun v6=>
 ((idx (Dt.toLst v6) x6).bind fun v7=>
 ((accAddN v2 v7 x11).bind fun r8=>
 ((idx (Dt.toLst v4) x6).bind fun v9=>
 none))))))))
noncomputable def i21_j7 (m:Nat) (rec1:List Dt→Int→Int→Dt→List Dt→List Dt→List Dt→Option (List Dt×List Dt×List Dt)) (x0:List Dt) (x1 x2:Int) (x3:Dt) (x4 x5 x6:List Dt):Option (List Dt×List Dt×List Dt):=
 rec1 x0 x1 (IntKind.wrap .i64 (x2+1)) x3 x4 x5 x6
noncomputable def i21_l5 (m:Nat) (rec1:List Dt→Int→Int→Dt→List Dt→List Dt→List Dt→Option (List Dt×List Dt×List Dt)):Nat→Int→List Dt→Int→Int→List Dt→Int→Int→Dt→List Dt→List Dt→List Dt→Dt→Option (List Dt×List Dt×List Dt)
 |0,_,_,_,_,_,_,_,_,_,_,_,_=>none
 |M5+1,x0,x1,x2,x3,x4,x5,x6,x7,x8,x9,x10,x11=>
  (bif (decide (x6<x5)) then
  i21_j6 m rec1 (i21_l5 m rec1 M5) x0 x1 x2 x3 x4 x5 x6 x7 x8 x9 x10 x11
 else
  i21_j7 m rec1 x1 x2 x3 x7 x8 x9 x10)
noncomputable def i21_j4 (m:Nat) (rec1:List Dt→Int→Int→Dt→List Dt→List Dt→List Dt→Option (List Dt×List Dt×List Dt)) (x0:Int) (x1:List Dt) (x2 x3:Int) (x4:List Dt) (x5 x6:Int) (x7:Dt) (x8 x9 x10:List Dt) (x11:Dt):Option (List Dt×List Dt×List Dt):=
 i21_l5 m rec1 (Nat.succ m) x0 x1 x2 x3 x4 x5 x6 x7 x8 x9 x10 x11
noncomputable def i21_j3 (m:Nat) (rec1:List Dt→Int→Int→Dt→List Dt→List Dt→List Dt→Option (List Dt×List Dt×List Dt)) (x0:List Dt) (x1 x2:Int) (x3:Dt) (x4 x5 x6:List Dt) (x7 x8:Dt):Option (List Dt×List Dt×List Dt):=
  (bif (Proofs.YtpifchdngodgjaaGreatDoor.isGr x3 x8) then
   (bif (Proofs.YtpifchdngodgjaaGreatDoor.noKey x4 x5 x6) then
 i21_j4 m rec1 0 x0 x1 x2 (Dt.L x3 1) (List.length (Dt.L x3 1):Int) 0 x3 [kz60e97] [(Dt.lst [])] [(Dt.int 0)] x7
   else
 (bif (Proofs.YtpifchdngodgjaaGreatDoor.oneKey x4 x5 x6) then
 i21_j4 m rec1 0 x0 x1 x2 (Dt.L x3 1) (List.length (Dt.L x3 1):Int) 0 x3 x4 x5 x6 x7
 else
 none))
  else
   none)
noncomputable def i21_j2 (m:Nat) (rec1:List Dt→Int→Int→Dt→List Dt→List Dt→List Dt→Option (List Dt×List Dt×List Dt)) (x0:List Dt) (x1 x2:Int) (x3:Dt) (x4 x5 x6:List Dt):Option (List Dt×List Dt×List Dt):=
  ((idx x0 x2).bind fun v0=>
    ((expr_EvalC (Dt.fld x3 0) v0).bind fun r1=>
 (bif ((Dt.I r1 0)==0) then
 i21_j3 m rec1 x0 x1 x2 x3 x4 x5 x6 v0 kz3c25e
 else
 i21_j3 m rec1 x0 x1 x2 x3 x4 x5 x6 v0 r1)))
noncomputable def i21_j8 (m:Nat) (x0 x1 x2:List Dt):Option (List Dt×List Dt×List Dt):=
 some (x0,x1,x2)
noncomputable def i21_l1 (m:Nat):Nat→List Dt→Int→Int→Dt→List Dt→List Dt→List Dt→Option (List Dt×List Dt×List Dt)
 |0,_,_,_,_,_,_,_=>none
 |M1+1,x0,x1,x2,x3,x4,x5,x6=>
  (bif (decide (x2<x1)) then
  i21_j2 m (i21_l1 m M1) x0 x1 x2 x3 x4 x5 x6
 else
  i21_j8 m x4 x5 x6)
noncomputable def i21_j0 (m:Nat) (x0:List Dt) (x1 x2:Int) (x3:Dt) (x4 x5 x6:List Dt):Option (List Dt×List Dt×List Dt):=
 i21_l1 m (Nat.succ m) x0 x1 x2 x3 x4 x5 x6
noncomputable def i21:Nat→Dt→List Dt→Option (List Dt×List Dt×List Dt)
 |0,_,_=>none
 |m+1,a0,a1=>
  i21_j0 m a1 (List.length a1:Int) 0 a0 [] [] []
noncomputable def qJ_j3 (m:Nat) (self25:Dt→Option Dt) (rec1:List Dt→Int→Int→Dt→Dt→Int→Int→ByteArray→List Dt→List Dt→Option Dt) (x0:List Dt) (x1 x2:Int) (x3 x4:Dt) (x5 x6:Int) (x7:ByteArray) (x8 x9:List Dt):Option Dt:=
 rec1 x0 x1 (IntKind.wrap .i64 (x2+1)) x3 x4 x5 x6 x7 x8 x9
noncomputable def qJ_j2 (m:Nat) (self25:Dt→Option Dt) (rec1:List Dt→Int→Int→Dt→Dt→Int→Int→ByteArray→List Dt→List Dt→Option Dt) (x0:List Dt) (x1 x2:Int) (x3 x4:Dt) (x5 x6:Int) (x7:ByteArray) (x8 x9:List Dt):Option Dt:=
  ((idx x0 x2).bind fun v0=>
    ((self25 v0).bind fun r1=>
 ((app x8 [r1]).bind fun v2=>
 qJ_j3 m self25 rec1 x0 x1 x2 x3 x4 x5 x6 x7 v2 x9)))
noncomputable def qJ_j8 (m:Nat) (self25:Dt→Option Dt) (rec6:List Dt→Int→Int→Dt→Int→Int→ByteArray→List Dt→List Dt→Option Dt) (x0:List Dt) (x1 x2:Int) (x3:Dt) (x4 x5:Int) (x6:ByteArray) (x7 x8:List Dt):Option Dt:=
 rec6 x0 x1 (IntKind.wrap .i64 (x2+1)) x3 x4 x5 x6 x7 x8
noncomputable def qJ_j7 (m:Nat) (self25:Dt→Option Dt) (rec6:List Dt→Int→Int→Dt→Int→Int→ByteArray→List Dt→List Dt→Option Dt) (x0:List Dt) (x1 x2:Int) (x3:Dt) (x4 x5:Int) (x6:ByteArray) (x7 x8:List Dt):Option Dt:=
  ((idx x0 x2).bind fun v3=>
    ((self25 (Dt.fld v3 1)).bind fun r4=>
 ((app x8 [(Dt.agg [(Dt.str (Dt.S v3 0)),r4])]).bind fun v5=>
 qJ_j8 m self25 rec6 x0 x1 x2 x3 x4 x5 x6 x7 v5)))
noncomputable def qJ_j9 (m:Nat) (self25:Dt→Option Dt) (x0:Dt) (x1 x2:Int) (x3:ByteArray) (x4 x5:List Dt):Option Dt:=
 some (Dt.agg [(Dt.int x1),(Dt.int x2),(Dt.str x3),(Dt.lst x4),(Dt.lst x5)])
noncomputable def qJ_l6 (m:Nat) (self25:Dt→Option Dt):Nat→List Dt→Int→Int→Dt→Int→Int→ByteArray→List Dt→List Dt→Option Dt
 |0,_,_,_,_,_,_,_,_,_=>none
 |M6+1,x0,x1,x2,x3,x4,x5,x6,x7,x8=>
  (bif (decide (x2<x1)) then
  qJ_j7 m self25 (qJ_l6 m self25 M6) x0 x1 x2 x3 x4 x5 x6 x7 x8
 else
  qJ_j9 m self25 x3 x4 x5 x6 x7 x8)
noncomputable def qJ_j5 (m:Nat) (self25:Dt→Option Dt) (x0:List Dt) (x1 x2:Int) (x3:Dt) (x4 x5:Int) (x6:ByteArray) (x7 x8:List Dt):Option Dt:=
 qJ_l6 m self25 (Nat.succ m) x0 x1 x2 x3 x4 x5 x6 x7 x8
noncomputable def qJ_j4 (m:Nat) (self25:Dt→Option Dt) (x0 x1:Dt) (x2 x3:Int) (x4:ByteArray) (x5 x6:List Dt):Option Dt:=
 qJ_j5 m self25 (Dt.L x0 4) (List.length (Dt.L x0 4):Int) 0 x1 x2 x3 x4 x5 x6
noncomputable def qJ_l1 (m:Nat) (self25:Dt→Option Dt):Nat→List Dt→Int→Int→Dt→Dt→Int→Int→ByteArray→List Dt→List Dt→Option Dt
 |0,_,_,_,_,_,_,_,_,_,_=>none
 |M1+1,x0,x1,x2,x3,x4,x5,x6,x7,x8,x9=>
  (bif (decide (x2<x1)) then
  qJ_j2 m self25 (qJ_l1 m self25 M1) x0 x1 x2 x3 x4 x5 x6 x7 x8 x9
 else
  qJ_j4 m self25 x3 x4 x5 x6 x7 x8 x9)
noncomputable def qJ_j0 (m:Nat) (self25:Dt→Option Dt) (x0:List Dt) (x1 x2:Int) (x3 x4:Dt) (x5 x6:Int) (x7:ByteArray) (x8 x9:List Dt):Option Dt:=
 qJ_l1 m self25 (Nat.succ m) x0 x1 x2 x3 x4 x5 x6 x7 x8 x9
noncomputable def qJ:Nat→Dt→Option Dt
 |0,_=>none
 |m+1,a0=>
  qJ_j0 m (qJ m) (Dt.L a0 3) (List.length (Dt.L a0 3):Int) 0 a0 kza2373 (Dt.I a0 0) (Dt.I a0 1) (Dt.S a0 2) [] []
noncomputable def i24_j6 (m:Nat) (rec1:List Dt→Int→Int→List Dt→List Dt→List Dt→Dt→List Dt→Option (List Dt×List Dt×List Dt×List Dt)) (rec4:Int→List Dt→Int→Int→List Dt→Int→Int→List Dt→List Dt→List Dt→Dt→List Dt→List Dt→Option (List Dt×List Dt×List Dt×List Dt)) (x0:Int) (x1:List Dt) (x2 x3:Int) (x4:List Dt) (x5 x6:Int) (x7 x8 x9:List Dt) (x10:Dt) (x11 x12:List Dt):Option (List Dt×List Dt×List Dt×List Dt):=
 rec4 x0 x1 x2 x3 x4 x5 (IntKind.wrap .i64 (x6+1)) x7 x8 x9 x10 x11 x12
noncomputable def i24_j5 (m:Nat) (rec1:List Dt→Int→Int→List Dt→List Dt→List Dt→Dt→List Dt→Option (List Dt×List Dt×List Dt×List Dt)) (rec4:Int→List Dt→Int→Int→List Dt→Int→Int→List Dt→List Dt→List Dt→Dt→List Dt→List Dt→Option (List Dt×List Dt×List Dt×List Dt)) (x0:Int) (x1:List Dt) (x2 x3:Int) (x4:List Dt) (x5 x6:Int) (x7 x8 x9:List Dt) (x10:Dt) (x11 x12:List Dt):Option (List Dt×List Dt×List Dt×List Dt):=
  ((idx x4 x6).bind fun v3=>
    ((idx x8 x0).bind fun v4=>
 ((idx (Dt.toLst v4) x6).bind fun v5=>
 ((accResultN v3 v5).bind fun r6=>
 ((app x12 [(Dt.agg [(Dt.str (Dt.S v3 0)),r6])]).bind fun v7=>
 i24_j6 m rec1 rec4 x0 x1 x2 x3 x4 x5 x6 x7 x8 x9 x10 x11 v7)))))
noncomputable def i24_j8 (m:Nat) (rec1:List Dt→Int→Int→List Dt→List Dt→List Dt→Dt→List Dt→Option (List Dt×List Dt×List Dt×List Dt)) (x0:List Dt) (x1 x2:Int) (x3 x4 x5:List Dt) (x6:Dt) (x7:List Dt):Option (List Dt×List Dt×List Dt×List Dt):=
 rec1 x0 x1 (IntKind.wrap .i64 (x2+1)) x3 x4 x5 x6 x7
noncomputable def i24_j7 (m:Nat) (rec1:List Dt→Int→Int→List Dt→List Dt→List Dt→Dt→List Dt→Option (List Dt×List Dt×List Dt×List Dt)) (x0:Int) (x1:List Dt) (x2 x3:Int) (x4 x5 x6:List Dt) (x7:Dt) (x8 x9:List Dt):Option (List Dt×List Dt×List Dt×List Dt):=
  ((inL x8 x0).bind fun v8=>
    ((x8[(Int.toNat x0)]?).bind fun v9=>
 i24_j8 m rec1 x1 x2 x3 x4 x5 x6 x7 (List.set x8 (Int.toNat x0) (Dt.agg [(Dt.int 5),(Dt.int 0),(Dt.str (ByteArray.mk (List.toArray []))),(Dt.lst []),(Dt.lst x9)]))))
noncomputable def i24_l4 (m:Nat) (rec1:List Dt→Int→Int→List Dt→List Dt→List Dt→Dt→List Dt→Option (List Dt×List Dt×List Dt×List Dt)):Nat→Int→List Dt→Int→Int→List Dt→Int→Int→List Dt→List Dt→List Dt→Dt→List Dt→List Dt→Option (List Dt×List Dt×List Dt×List Dt)
 |0,_,_,_,_,_,_,_,_,_,_,_,_,_=>none
 |M4+1,x0,x1,x2,x3,x4,x5,x6,x7,x8,x9,x10,x11,x12=>
  (bif (decide (x6<x5)) then
  i24_j5 m rec1 (i24_l4 m rec1 M4) x0 x1 x2 x3 x4 x5 x6 x7 x8 x9 x10 x11 x12
 else
  i24_j7 m rec1 x0 x1 x2 x3 x7 x8 x9 x10 x11 x12)
noncomputable def i24_j3 (m:Nat) (rec1:List Dt→Int→Int→List Dt→List Dt→List Dt→Dt→List Dt→Option (List Dt×List Dt×List Dt×List Dt)) (x0:Int) (x1:List Dt) (x2 x3:Int) (x4:List Dt) (x5 x6:Int) (x7 x8 x9:List Dt) (x10:Dt) (x11 x12:List Dt):Option (List Dt×List Dt×List Dt×List Dt):=
 i24_l4 m rec1 (Nat.succ m) x0 x1 x2 x3 x4 x5 x6 x7 x8 x9 x10 x11 x12
noncomputable def i24_j2 (m:Nat) (rec1:List Dt→Int→Int→List Dt→List Dt→List Dt→Dt→List Dt→Option (List Dt×List Dt×List Dt×List Dt)) (x0:List Dt) (x1 x2:Int) (x3 x4 x5:List Dt) (x6:Dt) (x7:List Dt):Option (List Dt×List Dt×List Dt×List Dt):=
  ((idx x0 x2).bind fun v1=>
    ((qJ m v1).bind fun r2=>
 i24_j3 m rec1 x2 x0 x1 x2 (Dt.L x6 1) (List.length (Dt.L x6 1):Int) 0 x3 x4 x5 x6 x7 [(Dt.agg [(Dt.str (ByteArray.mk (List.toArray [95,105,100]))),r2])]))
noncomputable def i24_j9 (m:Nat) (x0 x1 x2 x3:List Dt):Option (List Dt×List Dt×List Dt×List Dt):=
 some (x3,x0,x1,x2)
noncomputable def i24_l1 (m:Nat):Nat→List Dt→Int→Int→List Dt→List Dt→List Dt→Dt→List Dt→Option (List Dt×List Dt×List Dt×List Dt)
 |0,_,_,_,_,_,_,_,_=>none
 |M1+1,x0,x1,x2,x3,x4,x5,x6,x7=>
  (bif (decide (x2<x1)) then
  i24_j2 m (i24_l1 m M1) x0 x1 x2 x3 x4 x5 x6 x7
 else
  i24_j9 m x3 x4 x5 x7)
noncomputable def i24_j0 (m:Nat) (x0:List Dt) (x1 x2:Int) (x3 x4 x5:List Dt) (x6:Dt) (x7:List Dt):Option (List Dt×List Dt×List Dt×List Dt):=
 i24_l1 m (Nat.succ m) x0 x1 x2 x3 x4 x5 x6 x7
noncomputable def i24:Nat→Dt→List Dt→List Dt→List Dt→Option (List Dt×List Dt×List Dt×List Dt)
 |0,_,_,_,_=>none
 |m+1,a0,a1,a2,a3=>
  ((mkL (List.length a1:Int) (List.length a1:Int) kza2373).bind fun v0=>
  i24_j0 m a1 (List.length a1:Int) 0 a1 a2 a3 a0 v0)
noncomputable def zY:Nat→Dt→List Dt→Option (List Dt)
  |0,_,_=>none
  |m+1,a0,a1=>
   ((i21 m a0 a1).bind fun r0=>
   ((i24 m a0 r0.1 r0.2.1 r0.2.2).bind fun r1=>
 some r1.1))
noncomputable def zZ:Nat→Dt→Dt→Option Dt
 |0,_,_=>none
 |m+1,a0,a1=>
  ((accPackN a1).bind fun r0=>
  some r0)
noncomputable def i27_j6 (m:Nat) (rec1:List Dt→Int→Int→List Dt→List Dt→List Dt→Dt→List Dt→Option (List Dt×List Dt×List Dt×List Dt)) (rec4:Int→List Dt→Int→Int→List Dt→Int→Int→List Dt→List Dt→List Dt→Dt→List Dt→List Dt→Option (List Dt×List Dt×List Dt×List Dt)) (x0:Int) (x1:List Dt) (x2 x3:Int) (x4:List Dt) (x5 x6:Int) (x7 x8 x9:List Dt) (x10:Dt) (x11 x12:List Dt):Option (List Dt×List Dt×List Dt×List Dt):=
 rec4 x0 x1 x2 x3 x4 x5 (IntKind.wrap .i64 (x6+1)) x7 x8 x9 x10 x11 x12
noncomputable def i27_j5 (m:Nat) (rec1:List Dt→Int→Int→List Dt→List Dt→List Dt→Dt→List Dt→Option (List Dt×List Dt×List Dt×List Dt)) (rec4:Int→List Dt→Int→Int→List Dt→Int→Int→List Dt→List Dt→List Dt→Dt→List Dt→List Dt→Option (List Dt×List Dt×List Dt×List Dt)) (x0:Int) (x1:List Dt) (x2 x3:Int) (x4:List Dt) (x5 x6:Int) (x7 x8 x9:List Dt) (x10:Dt) (x11 x12:List Dt):Option (List Dt×List Dt×List Dt×List Dt):=
  ((idx x4 x6).bind fun v3=>
    ((idx x8 x0).bind fun v4=>
 ((idx (Dt.toLst v4) x6).bind fun v5=>
 ((zZ m v3 v5).bind fun r6=>
 ((app x12 [(Dt.agg [(Dt.str (Dt.S v3 0)),r6])]).bind fun v7=>
 i27_j6 m rec1 rec4 x0 x1 x2 x3 x4 x5 x6 x7 x8 x9 x10 x11 v7)))))
noncomputable def i27_j8 (m:Nat) (rec1:List Dt→Int→Int→List Dt→List Dt→List Dt→Dt→List Dt→Option (List Dt×List Dt×List Dt×List Dt)) (x0:List Dt) (x1 x2:Int) (x3 x4 x5:List Dt) (x6:Dt) (x7:List Dt):Option (List Dt×List Dt×List Dt×List Dt):=
 rec1 x0 x1 (IntKind.wrap .i64 (x2+1)) x3 x4 x5 x6 x7
noncomputable def i27_j7 (m:Nat) (rec1:List Dt→Int→Int→List Dt→List Dt→List Dt→Dt→List Dt→Option (List Dt×List Dt×List Dt×List Dt)) (x0:Int) (x1:List Dt) (x2 x3:Int) (x4 x5 x6:List Dt) (x7:Dt) (x8 x9:List Dt):Option (List Dt×List Dt×List Dt×List Dt):=
  ((inL x8 x0).bind fun v8=>
    ((x8[(Int.toNat x0)]?).bind fun v9=>
 i27_j8 m rec1 x1 x2 x3 x4 x5 x6 x7 (List.set x8 (Int.toNat x0) (Dt.agg [(Dt.int 5),(Dt.int 0),(Dt.str (ByteArray.mk (List.toArray []))),(Dt.lst []),(Dt.lst x9)]))))
noncomputable def i27_l4 (m:Nat) (rec1:List Dt→Int→Int→List Dt→List Dt→List Dt→Dt→List Dt→Option (List Dt×List Dt×List Dt×List Dt)):Nat→Int→List Dt→Int→Int→List Dt→Int→Int→List Dt→List Dt→List Dt→Dt→List Dt→List Dt→Option (List Dt×List Dt×List Dt×List Dt)
 |0,_,_,_,_,_,_,_,_,_,_,_,_,_=>none
 |M4+1,x0,x1,x2,x3,x4,x5,x6,x7,x8,x9,x10,x11,x12=>
  (bif (decide (x6<x5)) then
  i27_j5 m rec1 (i27_l4 m rec1 M4) x0 x1 x2 x3 x4 x5 x6 x7 x8 x9 x10 x11 x12
 else
  i27_j7 m rec1 x0 x1 x2 x3 x7 x8 x9 x10 x11 x12)
noncomputable def i27_j3 (m:Nat) (rec1:List Dt→Int→Int→List Dt→List Dt→List Dt→Dt→List Dt→Option (List Dt×List Dt×List Dt×List Dt)) (x0:Int) (x1:List Dt) (x2 x3:Int) (x4:List Dt) (x5 x6:Int) (x7 x8 x9:List Dt) (x10:Dt) (x11 x12:List Dt):Option (List Dt×List Dt×List Dt×List Dt):=
 i27_l4 m rec1 (Nat.succ m) x0 x1 x2 x3 x4 x5 x6 x7 x8 x9 x10 x11 x12
noncomputable def i27_j2 (m:Nat) (rec1:List Dt→Int→Int→List Dt→List Dt→List Dt→Dt→List Dt→Option (List Dt×List Dt×List Dt×List Dt)) (x0:List Dt) (x1 x2:Int) (x3 x4 x5:List Dt) (x6:Dt) (x7:List Dt):Option (List Dt×List Dt×List Dt×List Dt):=
  ((idx x0 x2).bind fun v1=>
    ((qJ m v1).bind fun r2=>
 i27_j3 m rec1 x2 x0 x1 x2 (Dt.L x6 1) (List.length (Dt.L x6 1):Int) 0 x3 x4 x5 x6 x7 [(Dt.agg [(Dt.str (ByteArray.mk (List.toArray [95,105,100]))),r2])]))
noncomputable def i27_j9 (m:Nat) (x0 x1 x2 x3:List Dt):Option (List Dt×List Dt×List Dt×List Dt):=
 some (x3,x0,x1,x2)
noncomputable def i27_l1 (m:Nat):Nat→List Dt→Int→Int→List Dt→List Dt→List Dt→Dt→List Dt→Option (List Dt×List Dt×List Dt×List Dt)
 |0,_,_,_,_,_,_,_,_=>none
 |M1+1,x0,x1,x2,x3,x4,x5,x6,x7=>
  (bif (decide (x2<x1)) then
  i27_j2 m (i27_l1 m M1) x0 x1 x2 x3 x4 x5 x6 x7
 else
  i27_j9 m x3 x4 x5 x7)
noncomputable def i27_j0 (m:Nat) (x0:List Dt) (x1 x2:Int) (x3 x4 x5:List Dt) (x6:Dt) (x7:List Dt):Option (List Dt×List Dt×List Dt×List Dt):=
 i27_l1 m (Nat.succ m) x0 x1 x2 x3 x4 x5 x6 x7
noncomputable def i27:Nat→Dt→List Dt→List Dt→List Dt→Option (List Dt×List Dt×List Dt×List Dt)
 |0,_,_,_,_=>none
 |m+1,a0,a1,a2,a3=>
  ((mkL (List.length a1:Int) (List.length a1:Int) kza2373).bind fun v0=>
  i27_j0 m a1 (List.length a1:Int) 0 a1 a2 a3 a0 v0)
noncomputable def zN:Nat→Dt→List Dt→Option (List Dt)
  |0,_,_=>none
  |m+1,a0,a1=>
   ((i21 m a0 a1).bind fun r0=>
   ((i27 m a0 r0.1 r0.2.1 r0.2.2).bind fun r1=>
 some r1.1))
noncomputable def qZ_j5 (m:Nat) (rec3:List Dt→Int→Int→Dt→Option Bool) (x0:List Dt) (x1 x2:Int) (x3:Dt):Option Bool:=
 rec3 x0 x1 (IntKind.wrap .i64 (x2+1)) x3
noncomputable def qZ_j4 (m:Nat) (rec3:List Dt→Int→Int→Dt→Option Bool) (x0:List Dt) (x1 x2:Int) (x3:Dt):Option Bool:=
  ((idx x0 x2).bind fun v0=>
    ((idx (Dt.L x3 4) (IntKind.wrap .i64 (x2+1))).bind fun v1=>
 (bif (Bool.not ((ByteArray.toList (Dt.S v1 0))==(ByteArray.toList (Dt.S v0 0)))) then
 some false
 else
 qZ_j5 m rec3 x0 x1 x2 x3)))
noncomputable def qZ_j6 (m:Nat):Option Bool:=
 some true
noncomputable def qZ_l3 (m:Nat):Nat→List Dt→Int→Int→Dt→Option Bool
 |0,_,_,_,_=>none
 |M3+1,x0,x1,x2,x3=>
  (bif (decide (x2<x1)) then
  qZ_j4 m (qZ_l3 m M3) x0 x1 x2 x3
 else
  qZ_j6 m)
noncomputable def qZ_j2 (m:Nat) (x0:List Dt) (x1 x2:Int) (x3:Dt):Option Bool:=
 qZ_l3 m (Nat.succ m) x0 x1 x2 x3
noncomputable def qZ_j1 (m:Nat) (x0 x1:Dt):Option Bool:=
 qZ_j2 m (Dt.L x0 1) (List.length (Dt.L x0 1):Int) 0 x1
noncomputable def qZ_j0 (m:Nat) (x0:Bool) (x1 x2:Dt):Option Bool:=
 (bif x0 then
  some false
 else
  qZ_j1 m x1 x2)
noncomputable def qZ:Nat→Dt→Dt→Option Bool
  |0,_,_=>none
  |m+1,a0,a1=>
   (bif ((Dt.I a1 0) !=5) then
   qZ_j0 m true a0 a1
  else
   (bif ((List.length (Dt.L a1 4):Int) !=(IntKind.wrap .i64 ((List.length (Dt.L a0 1):Int)+1))) then
 qZ_j0 m true a0 a1
   else
 ((idx (Dt.L a1 4) 0).bind fun v2=>
 qZ_j0 m (Bool.not ((ByteArray.toList (Dt.S v2 0))==[95,105,100])) a0 a1)))
noncomputable def qK_j9 (m:Nat) (rec1:List Dt→Int→Int→Dt→List Dt→List Dt→List Dt→Option (List Dt×Int)) (rec5:List Dt→Int→Int→List Dt→Int→Int→Dt→List Dt→List Dt→List Dt→Dt→List Dt→Option (List Dt×Int)) (x0:List Dt) (x1 x2:Int) (x3:List Dt) (x4 x5:Int) (x6:Dt) (x7 x8 x9:List Dt) (x10:Dt) (x11:List Dt):Option (List Dt×Int):=
 rec5 x0 x1 x2 x3 x4 (IntKind.wrap .i64 (x5+1)) x6 x7 x8 x9 x10 x11
noncomputable def qK_j8 (m:Nat) (rec1:List Dt→Int→Int→Dt→List Dt→List Dt→List Dt→Option (List Dt×Int)) (rec5:List Dt→Int→Int→List Dt→Int→Int→Dt→List Dt→List Dt→List Dt→Dt→List Dt→Option (List Dt×Int)) (x0:Int) (x1:List Dt) (x2 x3:Int) (x4:List Dt) (x5 x6:Int) (x7:Dt) (x8 x9 x10:List Dt) (x11:Dt) (x12:List Dt) (x13:Dt):Option (List Dt×Int):=
  ((inL x12 x0).bind fun v6=>
    ((x12[(Int.toNat x0)]?).bind fun v7=>
 qK_j9 m rec1 rec5 x1 x2 x3 x4 x5 x6 x7 x8 x9 x10 x11 (List.set x12 (Int.toNat x0) x13)))
noncomputable def qK_j7 (m:Nat) (rec1:List Dt→Int→Int→Dt→List Dt→List Dt→List Dt→Option (List Dt×Int)) (rec5:List Dt→Int→Int→List Dt→Int→Int→Dt→List Dt→List Dt→List Dt→Dt→List Dt→Option (List Dt×Int)) (x0:Int) (x1:List Dt) (x2 x3:Int) (x4:List Dt) (x5 x6:Int) (x7:Dt) (x8 x9 x10:List Dt) (x11:Dt) (x12:List Dt) (x13 x14:Dt):Option (List Dt×Int):=
 (bif ((Dt.I x14 0) !=(Dt.I x13 1)) then
  some ([],4)
 else
  qK_j8 m rec1 rec5 x0 x1 x2 x3 x4 x5 x6 x7 x8 x9 x10 x11 x12 x14)
noncomputable def qK_j6 (m:Nat) (rec1:List Dt→Int→Int→Dt→List Dt→List Dt→List Dt→Option (List Dt×Int)) (rec5:List Dt→Int→Int→List Dt→Int→Int→Dt→List Dt→List Dt→List Dt→Dt→List Dt→Option (List Dt×Int)) (x0:List Dt) (x1 x2:Int) (x3:List Dt) (x4 x5:Int) (x6:Dt) (x7 x8 x9:List Dt) (x10:Dt) (x11:List Dt):Option (List Dt×Int):=
  ((idx x3 x5).bind fun v3=>
    ((idx (Dt.L x10 4) (IntKind.wrap .i64 (x5+1))).bind fun v4=>
 ((accUnpackN (Dt.fld v4 1)).bind fun r5=>
 (bif (r5.2 !=0) then
 some ([],r5.2)
 else
 qK_j7 m rec1 rec5 x5 x0 x1 x2 x3 x4 x5 x6 x7 x8 x9 x10 x11 v3 r5.1))))
noncomputable def qK_j13 (m:Nat) (rec1:List Dt→Int→Int→Dt→List Dt→List Dt→List Dt→Option (List Dt×Int)) (rec12:Int→List Dt→Int→Int→List Dt→Int→Int→Dt→List Dt→List Dt→List Dt→List Dt→Option (List Dt×Int)) (x0:Int) (x1:List Dt) (x2 x3:Int) (x4:List Dt) (x5 x6:Int) (x7:Dt) (x8 x9 x10 x11:List Dt):Option (List Dt×Int):=
  ((idx x4 x6).bind fun v9=>
    ((inL x9 x0).bind fun v10=>
 ((x9[(Int.toNat x0)]?).bind fun v11=>
 ((inL x9 x0).bind fun v12=>
 ((x9[(Int.toNat x0)]?).bind fun v13=>
 ((idx (Dt.toLst v13) x6).bind fun v14=>
 ((inL x11 x6).bind fun v15=>
 ((x11[(Int.toNat x6)]?).bind fun v16=>
 ((accJoinN v9 v14 v16).bind fun r17=>
 ((idx (Dt.toLst v11) x6).bind fun v18=>
 none))))))))))
noncomputable def qK_j14 (m:Nat) (rec1:List Dt→Int→Int→Dt→List Dt→List Dt→List Dt→Option (List Dt×Int)) (x0:List Dt) (x1 x2:Int) (x3:Dt) (x4 x5 x6:List Dt):Option (List Dt×Int):=
 rec1 x0 x1 (IntKind.wrap .i64 (x2+1)) x3 x4 x5 x6
noncomputable def qK_l12 (m:Nat) (rec1:List Dt→Int→Int→Dt→List Dt→List Dt→List Dt→Option (List Dt×Int)):Nat→Int→List Dt→Int→Int→List Dt→Int→Int→Dt→List Dt→List Dt→List Dt→List Dt→Option (List Dt×Int)
 |0,_,_,_,_,_,_,_,_,_,_,_,_=>none
 |M12+1,x0,x1,x2,x3,x4,x5,x6,x7,x8,x9,x10,x11=>
  (bif (decide (x6<x5)) then
  qK_j13 m rec1 (qK_l12 m rec1 M12) x0 x1 x2 x3 x4 x5 x6 x7 x8 x9 x10 x11
 else
  qK_j14 m rec1 x1 x2 x3 x7 x8 x9 x10)
noncomputable def qK_j11 (m:Nat) (rec1:List Dt→Int→Int→Dt→List Dt→List Dt→List Dt→Option (List Dt×Int)) (x0:Int) (x1:List Dt) (x2 x3:Int) (x4:List Dt) (x5 x6:Int) (x7:Dt) (x8 x9 x10 x11:List Dt):Option (List Dt×Int):=
 qK_l12 m rec1 (Nat.succ m) x0 x1 x2 x3 x4 x5 x6 x7 x8 x9 x10 x11
noncomputable def qK_j10 (m:Nat) (rec1:List Dt→Int→Int→Dt→List Dt→List Dt→List Dt→Option (List Dt×Int)) (x0:List Dt) (x1 x2:Int) (x3:Dt) (x4 x5 x6:List Dt) (x7:Dt) (x8:List Dt):Option (List Dt×Int):=
  ((idx (Dt.L x7 4) 0).bind fun v8=>
    (bif (Proofs.YtpifchdngodgjaaGreatDoor.isGr x3 (Dt.fld v8 1)) then
 (bif (Proofs.YtpifchdngodgjaaGreatDoor.noKey x4 x5 x6) then
 qK_j11 m rec1 0 x0 x1 x2 (Dt.L x3 1) (List.length (Dt.L x3 1):Int) 0 x3 [kz60e97] [(Dt.lst [])] [(Dt.int 0)] x8
 else
 (bif (Proofs.YtpifchdngodgjaaGreatDoor.oneKey x4 x5 x6) then
 qK_j11 m rec1 0 x0 x1 x2 (Dt.L x3 1) (List.length (Dt.L x3 1):Int) 0 x3 x4 x5 x6 x8
 else
 none))
    else
 none))
noncomputable def qK_l5 (m:Nat) (rec1:List Dt→Int→Int→Dt→List Dt→List Dt→List Dt→Option (List Dt×Int)):Nat→List Dt→Int→Int→List Dt→Int→Int→Dt→List Dt→List Dt→List Dt→Dt→List Dt→Option (List Dt×Int)
 |0,_,_,_,_,_,_,_,_,_,_,_,_=>none
 |M5+1,x0,x1,x2,x3,x4,x5,x6,x7,x8,x9,x10,x11=>
  (bif (decide (x5<x4)) then
  qK_j6 m rec1 (qK_l5 m rec1 M5) x0 x1 x2 x3 x4 x5 x6 x7 x8 x9 x10 x11
 else
  qK_j10 m rec1 x0 x1 x2 x6 x7 x8 x9 x10 x11)
noncomputable def qK_j4 (m:Nat) (rec1:List Dt→Int→Int→Dt→List Dt→List Dt→List Dt→Option (List Dt×Int)) (x0:List Dt) (x1 x2:Int) (x3:List Dt) (x4 x5:Int) (x6:Dt) (x7 x8 x9:List Dt) (x10:Dt) (x11:List Dt):Option (List Dt×Int):=
 qK_l5 m rec1 (Nat.succ m) x0 x1 x2 x3 x4 x5 x6 x7 x8 x9 x10 x11
noncomputable def qK_j3 (m:Nat) (rec1:List Dt→Int→Int→Dt→List Dt→List Dt→List Dt→Option (List Dt×Int)) (x0:List Dt) (x1 x2:Int) (x3:Dt) (x4 x5 x6:List Dt) (x7:Dt):Option (List Dt×Int):=
 ((mkL (List.length (Dt.L x3 1):Int) (List.length (Dt.L x3 1):Int) kzc575d).bind fun v2=>
   qK_j4 m rec1 x0 x1 x2 (Dt.L x3 1) (List.length (Dt.L x3 1):Int) 0 x3 x4 x5 x6 x7 v2)
noncomputable def qK_j2 (m:Nat) (rec1:List Dt→Int→Int→Dt→List Dt→List Dt→List Dt→Option (List Dt×Int)) (x0:List Dt) (x1 x2:Int) (x3:Dt) (x4 x5 x6:List Dt):Option (List Dt×Int):=
  ((idx x0 x2).bind fun v0=>
    ((qZ m x3 v0).bind fun r1=>
 (bif (Bool.not r1) then
 some ([],4)
 else
 qK_j3 m rec1 x0 x1 x2 x3 x4 x5 x6 v0)))
noncomputable def qK_j15 (m:Nat) (x0:Dt) (x1 x2 x3:List Dt):Option (List Dt×Int):=
 ((i24 m x0 x1 x2 x3).bind fun r19=>
   some (r19.1,0))
noncomputable def qK_l1 (m:Nat):Nat→List Dt→Int→Int→Dt→List Dt→List Dt→List Dt→Option (List Dt×Int)
 |0,_,_,_,_,_,_,_=>none
 |M1+1,x0,x1,x2,x3,x4,x5,x6=>
  (bif (decide (x2<x1)) then
  qK_j2 m (qK_l1 m M1) x0 x1 x2 x3 x4 x5 x6
 else
  qK_j15 m x3 x4 x5 x6)
noncomputable def qK_j0 (m:Nat) (x0:List Dt) (x1 x2:Int) (x3:Dt) (x4 x5 x6:List Dt):Option (List Dt×Int):=
 qK_l1 m (Nat.succ m) x0 x1 x2 x3 x4 x5 x6
noncomputable def qK:Nat→Dt→List Dt→Option (List Dt×Int)
 |0,_,_=>none
 |m+1,a0,a1=>
  qK_j0 m a1 (List.length a1:Int) 0 a0 [] [] []
noncomputable def i46_j3 (m:Nat) (rec1:Int→Int→Int→Int→List Dt→List Dt→Option (List Dt×List Dt)) (x0 x1 x2 x3:Int) (x4 x5:List Dt):Option (List Dt×List Dt):=
 rec1 x0 x1 x2 (IntKind.wrap .i64 (x3+1)) x4 x5
noncomputable def i46_j2 (m:Nat) (rec1:Int→Int→Int→Int→List Dt→List Dt→Option (List Dt×List Dt)) (x0 x1 x2 x3:Int) (x4 x5:List Dt):Option (List Dt×List Dt):=
  ((inL x4 (IntKind.wrap .i64 (x1+x3))).bind fun v0=>
    ((x4[(Int.toNat (IntKind.wrap .i64 (x1+x3)))]?).bind fun v1=>
 ((inL x4 (IntKind.wrap .i64 (x0+x3))).bind fun v2=>
 ((x4[(Int.toNat (IntKind.wrap .i64 (x0+x3)))]?).bind fun v3=>
 ((inL x4 (IntKind.wrap .i64 (x0+x3))).bind fun v4=>
 ((x4[(Int.toNat (IntKind.wrap .i64 (x0+x3)))]?).bind fun v5=>
 ((inL (List.set x4 (Int.toNat (IntKind.wrap .i64 (x0+x3))) v1) (IntKind.wrap .i64 (x1+x3))).bind fun v6=>
 (((List.set x4 (Int.toNat (IntKind.wrap .i64 (x0+x3))) v1)[(Int.toNat (IntKind.wrap .i64 (x1+x3)))]?).bind fun v7=>
 i46_j3 m rec1 x0 x1 x2 x3 (List.set (List.set x4 (Int.toNat (IntKind.wrap .i64 (x0+x3))) v1) (Int.toNat (IntKind.wrap .i64 (x1+x3))) v3) x5))))))))
noncomputable def i46_l1 (m:Nat):Nat→Int→Int→Int→Int→List Dt→List Dt→Option (List Dt×List Dt)
 |0,_,_,_,_,_,_=>none
 |M1+1,x0,x1,x2,x3,x4,x5=>
  (bif (decide (x3<x2)) then
  i46_j2 m (i46_l1 m M1) x0 x1 x2 x3 x4 x5
 else
  some (x4,x5))
noncomputable def i46_j0 (m:Nat) (x0 x1 x2 x3:Int) (x4 x5:List Dt):Option (List Dt×List Dt):=
 i46_l1 m (Nat.succ m) x0 x1 x2 x3 x4 x5
noncomputable def i46:Nat→Int→Int→Int→List Dt→List Dt→Option (List Dt×List Dt)
 |0,_,_,_,_,_=>none
 |m+1,a0,a1,a2,a3,a4=>
  i46_j0 m a0 a1 a2 0 a3 a4
noncomputable def i45_j2 (m:Nat) (rec1:Int→Int→Int→List Dt→List Dt→Option (List Dt×List Dt)) (x0 x1 x2:Int) (x3 x4:List Dt):Option (List Dt×List Dt):=
  (bif (decide (x2<x1)) then
   ((i46 m (IntKind.wrap .i64 (x0-x1)) x0 x2 x3 x4).bind fun r0=>
 rec1 x0 (IntKind.wrap .i64 (x1-x2)) x2 r0.1 r0.2)
  else
   ((i46 m (IntKind.wrap .i64 (x0-x1)) (IntKind.wrap .i64 ((IntKind.wrap .i64 (x0+x2))-x1)) x1 x3 x4).bind fun r1=>
 rec1 x0 x1 (IntKind.wrap .i64 (x2-x1)) r1.1 r1.2))
noncomputable def i45_j3 (m:Nat) (x0 x1:Int) (x2 x3:List Dt):Option (List Dt×List Dt):=
 ((i46 m (IntKind.wrap .i64 (x0-x1)) x0 x1 x2 x3).bind fun r2=>
   some (r2.1,r2.2))
noncomputable def i45_l1 (m:Nat):Nat→Int→Int→Int→List Dt→List Dt→Option (List Dt×List Dt)
 |0,_,_,_,_,_=>none
 |M1+1,x0,x1,x2,x3,x4=>
  (bif (x1 !=x2) then
  i45_j2 m (i45_l1 m M1) x0 x1 x2 x3 x4
 else
  i45_j3 m x0 x1 x3 x4)
noncomputable def i45_j0 (m:Nat) (x0 x1 x2:Int) (x3 x4:List Dt):Option (List Dt×List Dt):=
 i45_l1 m (Nat.succ m) x0 x1 x2 x3 x4
noncomputable def i45:Nat→Int→Int→Int→List Dt→List Dt→Option (List Dt×List Dt)
 |0,_,_,_,_,_=>none
 |m+1,a0,a1,a2,a3,a4=>
  i45_j0 m a1 (IntKind.wrap .i64 (a1-a0)) (IntKind.wrap .i64 (a2-a1)) a3 a4
noncomputable def qG_j3 (m:Nat) (self47:Dt→Option Dt) (rec1:List Dt→Int→Int→Dt→Dt→Int→Int→ByteArray→List Dt→Option Dt) (x0:List Dt) (x1 x2:Int) (x3 x4:Dt) (x5 x6:Int) (x7:ByteArray) (x8:List Dt):Option Dt:=
 rec1 x0 x1 (IntKind.wrap .i64 (x2+1)) x3 x4 x5 x6 x7 x8
noncomputable def qG_j2 (m:Nat) (self47:Dt→Option Dt) (rec1:List Dt→Int→Int→Dt→Dt→Int→Int→ByteArray→List Dt→Option Dt) (x0:List Dt) (x1 x2:Int) (x3 x4:Dt) (x5 x6:Int) (x7:ByteArray) (x8:List Dt):Option Dt:=
  ((idx x0 x2).bind fun v1=>
    ((self47 v1).bind fun r2=>
 ((inL x8 x2).bind fun v3=>
 ((x8[(Int.toNat x2)]?).bind fun v4=>
 qG_j3 m self47 rec1 x0 x1 x2 x3 x4 x5 x6 x7 (List.set x8 (Int.toNat x2) r2)))))
noncomputable def qG_j8 (m:Nat) (self47:Dt→Option Dt) (rec6:List Dt→Int→Int→Dt→Int→Int→ByteArray→List Dt→List Dt→Option Dt) (x0:List Dt) (x1 x2:Int) (x3:Dt) (x4 x5:Int) (x6:ByteArray) (x7 x8:List Dt):Option Dt:=
 rec6 x0 x1 (IntKind.wrap .i64 (x2+1)) x3 x4 x5 x6 x7 x8
noncomputable def qG_j7 (m:Nat) (self47:Dt→Option Dt) (rec6:List Dt→Int→Int→Dt→Int→Int→ByteArray→List Dt→List Dt→Option Dt) (x0:List Dt) (x1 x2:Int) (x3:Dt) (x4 x5:Int) (x6:ByteArray) (x7 x8:List Dt):Option Dt:=
  ((idx x0 x2).bind fun v6=>
    ((self47 (Dt.fld v6 1)).bind fun r7=>
 ((inL x8 x2).bind fun v8=>
 ((x8[(Int.toNat x2)]?).bind fun v9=>
 qG_j8 m self47 rec6 x0 x1 x2 x3 x4 x5 x6 x7 (List.set x8 (Int.toNat x2) (Dt.agg [(Dt.str (Dt.S v6 0)),r7]))))))
noncomputable def qG_j9 (m:Nat) (self47:Dt→Option Dt) (x0:Dt) (x1 x2:Int) (x3:ByteArray) (x4 x5:List Dt):Option Dt:=
 some (Dt.agg [(Dt.int x1),(Dt.int x2),(Dt.str x3),(Dt.lst x4),(Dt.lst x5)])
noncomputable def qG_l6 (m:Nat) (self47:Dt→Option Dt):Nat→List Dt→Int→Int→Dt→Int→Int→ByteArray→List Dt→List Dt→Option Dt
 |0,_,_,_,_,_,_,_,_,_=>none
 |M6+1,x0,x1,x2,x3,x4,x5,x6,x7,x8=>
  (bif (decide (x2<x1)) then
  qG_j7 m self47 (qG_l6 m self47 M6) x0 x1 x2 x3 x4 x5 x6 x7 x8
 else
  qG_j9 m self47 x3 x4 x5 x6 x7 x8)
noncomputable def qG_j5 (m:Nat) (self47:Dt→Option Dt) (x0:List Dt) (x1 x2:Int) (x3:Dt) (x4 x5:Int) (x6:ByteArray) (x7 x8:List Dt):Option Dt:=
 qG_l6 m self47 (Nat.succ m) x0 x1 x2 x3 x4 x5 x6 x7 x8
noncomputable def qG_j10 (m:Nat) (self47:Dt→Option Dt) (x0:Dt) (x1 x2:Int) (x3:ByteArray) (x4:List Dt):Option Dt:=
 some (Dt.agg [(Dt.int x1),(Dt.int x2),(Dt.str x3),(Dt.lst x4),(Dt.lst [])])
noncomputable def qG_j4 (m:Nat) (self47:Dt→Option Dt) (x0 x1:Dt) (x2 x3:Int) (x4:ByteArray) (x5:List Dt):Option Dt:=
  (bif (decide (0<(List.length (Dt.L x0 4):Int))) then
   ((mkL (List.length (Dt.L x0 4):Int) (List.length (Dt.L x0 4):Int) kzcda49).bind fun v5=>
 qG_j5 m self47 (Dt.L x0 4) (List.length (Dt.L x0 4):Int) 0 x1 x2 x3 x4 x5 v5)
  else
   qG_j10 m self47 x1 x2 x3 x4 x5)
noncomputable def qG_l1 (m:Nat) (self47:Dt→Option Dt):Nat→List Dt→Int→Int→Dt→Dt→Int→Int→ByteArray→List Dt→Option Dt
 |0,_,_,_,_,_,_,_,_,_=>none
 |M1+1,x0,x1,x2,x3,x4,x5,x6,x7,x8=>
  (bif (decide (x2<x1)) then
  qG_j2 m self47 (qG_l1 m self47 M1) x0 x1 x2 x3 x4 x5 x6 x7 x8
 else
  qG_j4 m self47 x3 x4 x5 x6 x7 x8)
noncomputable def qG_j0 (m:Nat) (self47:Dt→Option Dt) (x0:List Dt) (x1 x2:Int) (x3 x4:Dt) (x5 x6:Int) (x7:ByteArray) (x8:List Dt):Option Dt:=
 qG_l1 m self47 (Nat.succ m) x0 x1 x2 x3 x4 x5 x6 x7 x8
noncomputable def qG_j15 (m:Nat) (self47:Dt→Option Dt) (rec13:List Dt→Int→Int→Dt→Int→Int→ByteArray→List Dt→List Dt→Option Dt) (x0:List Dt) (x1 x2:Int) (x3:Dt) (x4 x5:Int) (x6:ByteArray) (x7 x8:List Dt):Option Dt:=
 rec13 x0 x1 (IntKind.wrap .i64 (x2+1)) x3 x4 x5 x6 x7 x8
noncomputable def qG_j14 (m:Nat) (self47:Dt→Option Dt) (rec13:List Dt→Int→Int→Dt→Int→Int→ByteArray→List Dt→List Dt→Option Dt) (x0:List Dt) (x1 x2:Int) (x3:Dt) (x4 x5:Int) (x6:ByteArray) (x7 x8:List Dt):Option Dt:=
  ((idx x0 x2).bind fun v11=>
    ((self47 (Dt.fld v11 1)).bind fun r12=>
 ((inL x8 x2).bind fun v13=>
 ((x8[(Int.toNat x2)]?).bind fun v14=>
 qG_j15 m self47 rec13 x0 x1 x2 x3 x4 x5 x6 x7 (List.set x8 (Int.toNat x2) (Dt.agg [(Dt.str (Dt.S v11 0)),r12]))))))
noncomputable def qG_j16 (m:Nat) (self47:Dt→Option Dt) (x0:Dt) (x1 x2:Int) (x3:ByteArray) (x4 x5:List Dt):Option Dt:=
 some (Dt.agg [(Dt.int x1),(Dt.int x2),(Dt.str x3),(Dt.lst x4),(Dt.lst x5)])
noncomputable def qG_l13 (m:Nat) (self47:Dt→Option Dt):Nat→List Dt→Int→Int→Dt→Int→Int→ByteArray→List Dt→List Dt→Option Dt
 |0,_,_,_,_,_,_,_,_,_=>none
 |M13+1,x0,x1,x2,x3,x4,x5,x6,x7,x8=>
  (bif (decide (x2<x1)) then
  qG_j14 m self47 (qG_l13 m self47 M13) x0 x1 x2 x3 x4 x5 x6 x7 x8
 else
  qG_j16 m self47 x3 x4 x5 x6 x7 x8)
noncomputable def qG_j12 (m:Nat) (self47:Dt→Option Dt) (x0:List Dt) (x1 x2:Int) (x3:Dt) (x4 x5:Int) (x6:ByteArray) (x7 x8:List Dt):Option Dt:=
 qG_l13 m self47 (Nat.succ m) x0 x1 x2 x3 x4 x5 x6 x7 x8
noncomputable def qG_j17 (m:Nat) (self47:Dt→Option Dt) (x0 x1:Dt):Option Dt:=
 some x1
noncomputable def qG_j11 (m:Nat) (self47:Dt→Option Dt) (x0 x1 x2:Dt):Option Dt:=
  (bif (decide (0<(List.length (Dt.L x0 4):Int))) then
   ((mkL (List.length (Dt.L x0 4):Int) (List.length (Dt.L x0 4):Int) kzcda49).bind fun v10=>
 qG_j12 m self47 (Dt.L x0 4) (List.length (Dt.L x0 4):Int) 0 x1 (Dt.I x2 0) (Dt.I x2 1) (Dt.S x2 2) (Dt.L x2 3) v10)
  else
   qG_j17 m self47 x1 x2)
noncomputable def qG:Nat→Dt→Option Dt
  |0,_=>none
  |m+1,a0=>
   (bif (decide (0<(List.length (Dt.L a0 3):Int))) then
   ((mkL (List.length (Dt.L a0 3):Int) (List.length (Dt.L a0 3):Int) kza2373).bind fun v0=>
 qG_j0 m (qG m) (Dt.L a0 3) (List.length (Dt.L a0 3):Int) 0 a0 kza2373 (Dt.I a0 0) (Dt.I a0 1) (Dt.S a0 2) v0)
  else
   qG_j11 m (qG m) a0 kza2373 (Dt.agg [(Dt.int (Dt.I a0 0)),(Dt.int (Dt.I a0 1)),(Dt.str (Dt.S a0 2)),(Dt.lst []),(Dt.lst [])]))
noncomputable def qP_j3 (m:Nat) (rec1:Int→Dt→List Dt→Option (List Dt)) (x0:Int) (x1:Dt) (x2:List Dt):Option (List Dt):=
 rec1 (IntKind.wrap .i64 (x0+1)) x1 x2
noncomputable def qP_j2 (m:Nat) (rec1:Int→Dt→List Dt→Option (List Dt)) (x0:Int) (x1:Dt) (x2:List Dt):Option (List Dt):=
  ((idx (Dt.L x1 3) x0).bind fun v0=>
    ((app x2 [v0]).bind fun v1=>
 qP_j3 m rec1 x0 x1 v1))
noncomputable def qP_j8 (m:Nat) (rec6:Int→Dt→List Dt→Option (List Dt)) (x0:Int) (x1:Dt) (x2:List Dt):Option (List Dt):=
 rec6 (IntKind.wrap .i64 (x0+1)) x1 x2
noncomputable def qP_j7 (m:Nat) (rec6:Int→Dt→List Dt→Option (List Dt)) (x0:Int) (x1:Dt) (x2:List Dt):Option (List Dt):=
  ((idx (Dt.L x1 4) x0).bind fun v2=>
    ((app x2 [(Dt.fld v2 1)]).bind fun v3=>
 qP_j8 m rec6 x0 x1 v3))
noncomputable def qP_j9 (m:Nat) (x0:List Dt):Option (List Dt):=
 some x0
noncomputable def qP_l6 (m:Nat):Nat→Int→Dt→List Dt→Option (List Dt)
 |0,_,_,_=>none
 |M6+1,x0,x1,x2=>
  (bif (decide (x0<(List.length (Dt.L x1 4):Int))) then
  qP_j7 m (qP_l6 m M6) x0 x1 x2
 else
  qP_j9 m x2)
noncomputable def qP_j5 (m:Nat) (x0:Int) (x1:Dt) (x2:List Dt):Option (List Dt):=
 qP_l6 m (Nat.succ m) x0 x1 x2
noncomputable def qP_j4 (m:Nat) (x0:Dt) (x1:List Dt):Option (List Dt):=
 (bif ((Dt.I x0 0)==5) then
  qP_j5 m 0 x0 x1
 else
  qP_j9 m x1)
noncomputable def qP_l1 (m:Nat):Nat→Int→Dt→List Dt→Option (List Dt)
 |0,_,_,_=>none
 |M1+1,x0,x1,x2=>
  (bif (decide (x0<(List.length (Dt.L x1 3):Int))) then
  qP_j2 m (qP_l1 m M1) x0 x1 x2
 else
  qP_j4 m x1 x2)
noncomputable def qP_j0 (m:Nat) (x0:Int) (x1:Dt) (x2:List Dt):Option (List Dt):=
 qP_l1 m (Nat.succ m) x0 x1 x2
noncomputable def qP:Nat→Dt→Option (List Dt)
 |0,_=>none
 |m+1,a0=>
  (bif ((Dt.I a0 0)==6) then
  qP_j0 m 0 a0 []
 else
  qP_j4 m a0 [])
noncomputable def qM_j5 (m:Nat) (self32:Dt→Int→Option Int) (rec3:Int→List Dt→Int→Int→Option Int) (x0:Int) (x1:List Dt) (x2 x3:Int):Option Int:=
 rec3 x0 x1 x2 (IntKind.wrap .i64 (x3+1))
noncomputable def qM_j4 (m:Nat) (self32:Dt→Int→Option Int) (rec3:Int→List Dt→Int→Int→Option Int) (x0:Int) (x1:List Dt) (x2 x3:Int):Option Int:=
  ((idx x1 x3).bind fun v1=>
    ((self32 v1 (IntKind.wrap .i64 (x0-1))).bind fun r2=>
 qM_j5 m self32 rec3 x0 x1 (bif (decide (x2<r2)) then r2 else x2) x3))
noncomputable def qM_j6 (m:Nat) (self32:Dt→Int→Option Int) (x0:Int):Option Int:=
 some (IntKind.wrap .i64 (x0+1))
noncomputable def qM_l3 (m:Nat) (self32:Dt→Int→Option Int):Nat→Int→List Dt→Int→Int→Option Int
 |0,_,_,_,_=>none
 |M3+1,x0,x1,x2,x3=>
  (bif (decide (x3<(List.length x1:Int))) then
  qM_j4 m self32 (qM_l3 m self32 M3) x0 x1 x2 x3
 else
  qM_j6 m self32 x2)
noncomputable def qM_j2 (m:Nat) (self32:Dt→Int→Option Int) (x0:Int) (x1:List Dt) (x2 x3:Int):Option Int:=
 qM_l3 m self32 (Nat.succ m) x0 x1 x2 x3
noncomputable def qM_j1 (m:Nat) (self32:Dt→Int→Option Int) (x0:Int) (x1:List Dt):Option Int:=
 qM_j2 m self32 x0 x1 0 0
noncomputable def qM_j0 (m:Nat) (self32:Dt→Int→Option Int) (x0:Int) (x1:List Dt) (x2:Bool):Option Int:=
 (bif x2 then
  some 1
 else
  qM_j1 m self32 x0 x1)
noncomputable def qM:Nat→Dt→Int→Option Int
  |0,_,_=>none
  |m+1,a0,a1=>
   ((qP m a0).bind fun r0=>
   (bif (decide (a1<2)) then
 qM_j0 m (qM m) a1 r0 true
   else
 qM_j0 m (qM m) a1 r0 ((List.length r0:Int)==0)))
noncomputable def zQ:Nat→Dt→Option Int
 |0,_=>none
 |m+1,a0=>
  ((qM m a0 17).bind fun r0=>
  some r0)
noncomputable def zC_j3 (m:Nat) (self33:Dt→Int→Option Int) (rec1:Int→Int→List Dt→Int→Option Int) (x0 x1:Int) (x2:List Dt) (x3:Int):Option Int:=
 rec1 x0 x1 x2 (IntKind.wrap .i64 (x3+1))
noncomputable def zC_j2 (m:Nat) (self33:Dt→Int→Option Int) (rec1:Int→Int→List Dt→Int→Option Int) (x0 x1:Int) (x2:List Dt) (x3:Int):Option Int:=
  ((idx x2 x3).bind fun v1=>
    ((self33 v1 (IntKind.wrap .i64 (x0-x1))).bind fun r2=>
 zC_j3 m self33 rec1 x0 (IntKind.wrap .i64 (x1+r2)) x2 x3))
noncomputable def zC_j4 (m:Nat) (self33:Dt→Int→Option Int) (x0:Int):Option Int:=
 some x0
noncomputable def zC_l1 (m:Nat) (self33:Dt→Int→Option Int):Nat→Int→Int→List Dt→Int→Option Int
  |0,_,_,_,_=>none
  |M1+1,x0,x1,x2,x3=>
   (bif (decide (x3<(List.length x2:Int))) then
   (bif (decide (x1<x0)) then
 zC_j2 m self33 (zC_l1 m self33 M1) x0 x1 x2 x3
   else
 zC_j4 m self33 x1)
  else
   zC_j4 m self33 x1)
noncomputable def zC_j0 (m:Nat) (self33:Dt→Int→Option Int) (x0 x1:Int) (x2:List Dt) (x3:Int):Option Int:=
 zC_l1 m self33 (Nat.succ m) x0 x1 x2 x3
noncomputable def zC:Nat→Dt→Int→Option Int
 |0,_,_=>none
 |m+1,a0,a1=>
  ((qP m a0).bind fun r0=>
  zC_j0 m (zC m) a1 1 r0 0)
noncomputable def zT:Nat→Dt→Option Int
 |0,_=>none
 |m+1,a0=>
  ((zC m a0 1025).bind fun r0=>
  some r0)
noncomputable def zA_j5 (m:Nat) (rec2:ByteArray→Int→Int→Int→Option Bool) (x0:ByteArray) (x1 x2 x3:Int):Option Bool:=
 rec2 x0 x1 x2 (IntKind.wrap .i64 (x3+1))
noncomputable def zA_j4 (m:Nat) (rec2:ByteArray→Int→Int→Int→Option Bool) (x0:ByteArray) (x1 x2 x3:Int) (x4:Bool):Option Bool:=
 (bif x4 then
  some false
 else
  zA_j5 m rec2 x0 x1 x2 x3)
noncomputable def zA_j3 (m:Nat) (rec2:ByteArray→Int→Int→Int→Option Bool) (x0:ByteArray) (x1 x2 x3:Int):Option Bool:=
  ((idxS x0 (IntKind.wrap .i64 (x1+x3))).bind fun v0=>
    (bif (decide (v0<128)) then
 zA_j4 m rec2 x0 x1 x2 x3 true
    else
 ((idxS x0 (IntKind.wrap .i64 (x1+x3))).bind fun v1=>
 zA_j4 m rec2 x0 x1 x2 x3 (decide (191<v1)))))
noncomputable def zA_j6 (m:Nat):Option Bool:=
 some true
noncomputable def zA_l2 (m:Nat):Nat→ByteArray→Int→Int→Int→Option Bool
 |0,_,_,_,_=>none
 |M2+1,x0,x1,x2,x3=>
  (bif (decide (x3<x2)) then
  zA_j3 m (zA_l2 m M2) x0 x1 x2 x3
 else
  zA_j6 m)
noncomputable def zA_j1 (m:Nat) (x0:ByteArray) (x1 x2 x3:Int):Option Bool:=
 zA_l2 m (Nat.succ m) x0 x1 x2 x3
noncomputable def zA_j0 (m:Nat) (x0:ByteArray) (x1 x2:Int):Option Bool:=
 zA_j1 m x0 x1 x2 0
noncomputable def zA:Nat→ByteArray→Int→Int→Option Bool
 |0,_,_,_=>none
 |m+1,a0,a1,a2=>
  (bif (decide ((ByteArray.size a0:Int)<(IntKind.wrap .i64 (a1+a2)))) then
  some false
 else
  zA_j0 m a0 a1 a2)
noncomputable def qN_j6 (m:Nat) (rec1:ByteArray→Int→Option Bool) (x0:ByteArray) (x1 x2:Int):Option Bool:=
 rec1 x0 (IntKind.wrap .i64 ((IntKind.wrap .i64 (x1+x2))+1))
noncomputable def qN_j5 (m:Nat) (rec1:ByteArray→Int→Option Bool) (x0:ByteArray) (x1 x2:Int) (x3:Bool):Option Bool:=
 (bif x3 then
  some false
 else
  qN_j6 m rec1 x0 x1 x2)
noncomputable def qN_j4 (m:Nat) (rec1:ByteArray→Int→Option Bool) (x0:ByteArray) (x1 x2 x3:Int):Option Bool:=
  (bif (x2==224) then
   ((idxS x0 (IntKind.wrap .i64 (x1+1))).bind fun v2=>
 (bif (decide (v2<160)) then
 qN_j5 m rec1 x0 x1 x3 true
 else
 (bif (x2==237) then
 ((idxS x0 (IntKind.wrap .i64 (x1+1))).bind fun v3=>
 (bif (decide (159<v3)) then
 qN_j5 m rec1 x0 x1 x3 true
 else
 (bif (x2==240) then
 ((idxS x0 (IntKind.wrap .i64 (x1+1))).bind fun v4=>
 (bif (decide (v4<144)) then
 qN_j5 m rec1 x0 x1 x3 true
 else
 (bif (x2==244) then
 ((idxS x0 (IntKind.wrap .i64 (x1+1))).bind fun v5=>
 qN_j5 m rec1 x0 x1 x3 (decide (143<v5)))
 else
 qN_j5 m rec1 x0 x1 x3 false)))
 else
 (bif (x2==244) then
 ((idxS x0 (IntKind.wrap .i64 (x1+1))).bind fun v6=>
 qN_j5 m rec1 x0 x1 x3 (decide (143<v6)))
 else
 qN_j5 m rec1 x0 x1 x3 false))))
 else
 (bif (x2==240) then
 ((idxS x0 (IntKind.wrap .i64 (x1+1))).bind fun v7=>
 (bif (decide (v7<144)) then
 qN_j5 m rec1 x0 x1 x3 true
 else
 (bif (x2==244) then
 ((idxS x0 (IntKind.wrap .i64 (x1+1))).bind fun v8=>
 qN_j5 m rec1 x0 x1 x3 (decide (143<v8)))
 else
 qN_j5 m rec1 x0 x1 x3 false)))
 else
 (bif (x2==244) then
 ((idxS x0 (IntKind.wrap .i64 (x1+1))).bind fun v9=>
 qN_j5 m rec1 x0 x1 x3 (decide (143<v9)))
 else
 qN_j5 m rec1 x0 x1 x3 false)))))
  else
   (bif (x2==237) then
 ((idxS x0 (IntKind.wrap .i64 (x1+1))).bind fun v10=>
 (bif (decide (159<v10)) then
 qN_j5 m rec1 x0 x1 x3 true
 else
 (bif (x2==240) then
 ((idxS x0 (IntKind.wrap .i64 (x1+1))).bind fun v11=>
 (bif (decide (v11<144)) then
 qN_j5 m rec1 x0 x1 x3 true
 else
 (bif (x2==244) then
 ((idxS x0 (IntKind.wrap .i64 (x1+1))).bind fun v12=>
 qN_j5 m rec1 x0 x1 x3 (decide (143<v12)))
 else
 qN_j5 m rec1 x0 x1 x3 false)))
 else
 (bif (x2==244) then
 ((idxS x0 (IntKind.wrap .i64 (x1+1))).bind fun v13=>
 qN_j5 m rec1 x0 x1 x3 (decide (143<v13)))
 else
 qN_j5 m rec1 x0 x1 x3 false))))
   else
 (bif (x2==240) then
 ((idxS x0 (IntKind.wrap .i64 (x1+1))).bind fun v14=>
 (bif (decide (v14<144)) then
 qN_j5 m rec1 x0 x1 x3 true
 else
 (bif (x2==244) then
 ((idxS x0 (IntKind.wrap .i64 (x1+1))).bind fun v15=>
 qN_j5 m rec1 x0 x1 x3 (decide (143<v15)))
 else
 qN_j5 m rec1 x0 x1 x3 false)))
 else
 (bif (x2==244) then
 ((idxS x0 (IntKind.wrap .i64 (x1+1))).bind fun v16=>
 qN_j5 m rec1 x0 x1 x3 (decide (143<v16)))
 else
 qN_j5 m rec1 x0 x1 x3 false))))
noncomputable def qN_j3 (m:Nat) (rec1:ByteArray→Int→Option Bool) (x0:ByteArray) (x1 x2 x3:Int):Option Bool:=
  ((zA m x0 (IntKind.wrap .i64 (x1+1)) x3).bind fun r1=>
    (bif (Bool.not r1) then
 some false
    else
 qN_j4 m rec1 x0 x1 x2 x3))
noncomputable def qN_j9 (m:Nat) (rec1:ByteArray→Int→Option Bool) (x0:ByteArray) (x1 x2:Int) (x3:Bool):Option Bool:=
 (bif x3 then
  qN_j3 m rec1 x0 x1 x2 3
 else
  some false)
noncomputable def qN_j8 (m:Nat) (rec1:ByteArray→Int→Option Bool) (x0:ByteArray) (x1 x2:Int) (x3:Bool):Option Bool:=
  (bif x3 then
   qN_j3 m rec1 x0 x1 x2 2
  else
   (bif (decide (240≤x2)) then
 qN_j9 m rec1 x0 x1 x2 (decide (x2≤244))
   else
 qN_j9 m rec1 x0 x1 x2 false))
noncomputable def qN_j7 (m:Nat) (rec1:ByteArray→Int→Option Bool) (x0:ByteArray) (x1 x2:Int) (x3:Bool):Option Bool:=
  (bif x3 then
   qN_j3 m rec1 x0 x1 x2 1
  else
   (bif (decide (224≤x2)) then
 qN_j8 m rec1 x0 x1 x2 (decide (x2≤239))
   else
 qN_j8 m rec1 x0 x1 x2 false))
noncomputable def qN_j2 (m:Nat) (rec1:ByteArray→Int→Option Bool) (x0:ByteArray) (x1:Int):Option Bool:=
  ((idxS x0 x1).bind fun v0=>
    (bif (decide (v0<128)) then
 qN_j3 m rec1 x0 x1 v0 0
    else
 (bif (decide (194≤v0)) then
 qN_j7 m rec1 x0 x1 v0 (decide (v0≤223))
 else
 qN_j7 m rec1 x0 x1 v0 false)))
noncomputable def qN_j10 (m:Nat):Option Bool:=
 some true
noncomputable def qN_l1 (m:Nat):Nat→ByteArray→Int→Option Bool
 |0,_,_=>none
 |M1+1,x0,x1=>
  (bif (decide (x1<(ByteArray.size x0:Int))) then
  qN_j2 m (qN_l1 m M1) x0 x1
 else
  qN_j10 m)
noncomputable def qN_j0 (m:Nat) (x0:ByteArray) (x1:Int):Option Bool:=
 qN_l1 m (Nat.succ m) x0 x1
noncomputable def qN:Nat→ByteArray→Option Bool
 |0,_=>none
 |m+1,a0=>
  qN_j0 m a0 0
noncomputable def qR_j6 (m:Nat) (rec3:ByteArray→Int→Option Bool) (x0:ByteArray) (x1:Int):Option Bool:=
 rec3 x0 (IntKind.wrap .i64 (x1+1))
noncomputable def qR_j5 (m:Nat) (rec3:ByteArray→Int→Option Bool) (x0:ByteArray) (x1:Int) (x2:Bool):Option Bool:=
 (bif x2 then
  some false
 else
  qR_j6 m rec3 x0 x1)
noncomputable def qR_j4 (m:Nat) (rec3:ByteArray→Int→Option Bool) (x0:ByteArray) (x1:Int):Option Bool:=
  ((idxS x0 x1).bind fun v0=>
    (bif (decide (v0<33)) then
 qR_j5 m rec3 x0 x1 true
    else
 ((idxS x0 x1).bind fun v1=>
 (bif (decide (126<v1)) then
 qR_j5 m rec3 x0 x1 true
 else
 ((idxS x0 x1).bind fun v2=>
 qR_j5 m rec3 x0 x1 (v2==46))))))
noncomputable def qR_j7 (m:Nat):Option Bool:=
 some true
noncomputable def qR_l3 (m:Nat):Nat→ByteArray→Int→Option Bool
 |0,_,_=>none
 |M3+1,x0,x1=>
  (bif (decide (x1<(ByteArray.size x0:Int))) then
  qR_j4 m (qR_l3 m M3) x0 x1
 else
  qR_j7 m)
noncomputable def qR_j2 (m:Nat) (x0:ByteArray) (x1:Int):Option Bool:=
 qR_l3 m (Nat.succ m) x0 x1
noncomputable def qR_j1 (m:Nat) (x0:ByteArray):Option Bool:=
 qR_j2 m x0 0
noncomputable def qR_j0 (m:Nat) (x0:ByteArray) (x1:Bool):Option Bool:=
 (bif x1 then
  some false
 else
  qR_j1 m x0)
noncomputable def qR:Nat→ByteArray→Option Bool
  |0,_=>none
  |m+1,a0=>
   (bif (decide ((ByteArray.size a0:Int)<1)) then
   qR_j0 m a0 true
  else
   (bif (decide (32<(ByteArray.size a0:Int))) then
 qR_j0 m a0 true
   else
 ((idxS a0 0).bind fun v3=>
 qR_j0 m a0 (v3==36))))
noncomputable def qS_j6 (m:Nat) (rec3:ByteArray→Int→Option Bool) (x0:ByteArray) (x1:Int):Option Bool:=
 rec3 x0 (IntKind.wrap .i64 (x1+1))
noncomputable def qS_j5 (m:Nat) (rec3:ByteArray→Int→Option Bool) (x0:ByteArray) (x1:Int) (x2:Bool):Option Bool:=
 (bif x2 then
  some false
 else
  qS_j6 m rec3 x0 x1)
noncomputable def qS_j4 (m:Nat) (rec3:ByteArray→Int→Option Bool) (x0:ByteArray) (x1:Int):Option Bool:=
  ((idxS x0 x1).bind fun v0=>
    (bif (decide (v0<32)) then
 qS_j5 m rec3 x0 x1 true
    else
 ((idxS x0 x1).bind fun v1=>
 qS_j5 m rec3 x0 x1 (decide (126<v1)))))
noncomputable def qS_j7 (m:Nat):Option Bool:=
 some true
noncomputable def qS_l3 (m:Nat):Nat→ByteArray→Int→Option Bool
 |0,_,_=>none
 |M3+1,x0,x1=>
  (bif (decide (x1<(ByteArray.size x0:Int))) then
  qS_j4 m (qS_l3 m M3) x0 x1
 else
  qS_j7 m)
noncomputable def qS_j2 (m:Nat) (x0:ByteArray) (x1:Int):Option Bool:=
 qS_l3 m (Nat.succ m) x0 x1
noncomputable def qS_j1 (m:Nat) (x0:ByteArray):Option Bool:=
 qS_j2 m x0 0
noncomputable def qS_j0 (m:Nat) (x0:ByteArray) (x1:Bool):Option Bool:=
 (bif x1 then
  some false
 else
  qS_j1 m x0)
noncomputable def qS:Nat→ByteArray→Option Bool
 |0,_=>none
 |m+1,a0=>
  (bif (decide ((ByteArray.size a0:Int)<1)) then
  qS_j0 m a0 true
 else
  qS_j0 m a0 (decide (128<(ByteArray.size a0:Int))))
noncomputable def qD_j10 (m:Nat) (self17:Dt→Bool→Option Bool) (self35:Dt→Bool→Option Bool) (rec8:Bool→Int→Dt→Option Bool) (x0:Bool) (x1:Int) (x2:Dt):Option Bool:=
 rec8 x0 (IntKind.wrap .i64 (x1+1)) x2
noncomputable def qD_j9 (m:Nat) (self17:Dt→Bool→Option Bool) (self35:Dt→Bool→Option Bool) (rec8:Bool→Int→Dt→Option Bool) (x0:Bool) (x1:Int) (x2:Dt):Option Bool:=
  ((idx (Dt.L x2 3) x1).bind fun v1=>
    ((self17 v1 x0).bind fun r2=>
 (bif (Bool.not r2) then
 some false
 else
 qD_j10 m self17 self35 rec8 x0 x1 x2)))
noncomputable def qD_j11 (m:Nat) (self17:Dt→Bool→Option Bool) (self35:Dt→Bool→Option Bool) (x0:Bool) (x1:Dt):Option Bool:=
 ((self35 x1 x0).bind fun r3=>
   some r3)
noncomputable def qD_l8 (m:Nat) (self17:Dt→Bool→Option Bool) (self35:Dt→Bool→Option Bool):Nat→Bool→Int→Dt→Option Bool
 |0,_,_,_=>none
 |M8+1,x0,x1,x2=>
  (bif (decide (x1<(List.length (Dt.L x2 3):Int))) then
  qD_j9 m self17 self35 (qD_l8 m self17 self35 M8) x0 x1 x2
 else
  qD_j11 m self17 self35 x0 x2)
noncomputable def qD_j7 (m:Nat) (self17:Dt→Bool→Option Bool) (self35:Dt→Bool→Option Bool) (x0:Bool) (x1:Int) (x2:Dt):Option Bool:=
 qD_l8 m self17 self35 (Nat.succ m) x0 x1 x2
noncomputable def qD_j6 (m:Nat) (self17:Dt→Bool→Option Bool) (self35:Dt→Bool→Option Bool) (x0:Bool) (x1:Dt):Option Bool:=
 qD_j7 m self17 self35 x0 0 x1
noncomputable def qD_j5 (m:Nat) (self17:Dt→Bool→Option Bool) (self35:Dt→Bool→Option Bool) (x0:Bool) (x1:Dt):Option Bool:=
  (bif ((Dt.I x1 0)==9) then
   (bif ((Dt.I x1 1)==0) then
 some true
   else
 some ((Dt.I x1 1)==1))
  else
   (bif ((Dt.I x1 0)==10) then
 some (decide (0≤(Dt.I x1 1)))
   else
 (bif ((Dt.I x1 0)==4) then
 (bif (decide ((ByteArray.size (Dt.S x1 2):Int)≤4096)) then
 ((qN m (Dt.S x1 2)).bind fun r0=>
 some r0)
 else
 some false)
 else
 (bif ((Dt.I x1 0)==7) then
 some (decide ((ByteArray.size (Dt.S x1 2):Int)≤4096))
 else
 (bif ((Dt.I x1 0)==8) then
 some ((ByteArray.size (Dt.S x1 2):Int)==12)
 else
 qD_j6 m self17 self35 x0 x1)))))
noncomputable def qD_j4 (m:Nat) (self17:Dt→Bool→Option Bool) (self35:Dt→Bool→Option Bool) (x0 x1:Bool) (x2:Dt):Option Bool:=
 (bif x1 then
  some false
 else
  qD_j5 m self17 self35 x0 x2)
noncomputable def qD_j3 (m:Nat) (self17:Dt→Bool→Option Bool) (self35:Dt→Bool→Option Bool) (x0 x1 x2:Bool) (x3:Dt):Option Bool:=
  (bif (Bool.not x1) then
   (bif (Bool.not ((ByteArray.toList (Dt.S x3 2))==[])) then
 qD_j4 m self17 self35 x0 true x3
   else
 (bif (Bool.not x2) then
 (bif ((Dt.I x3 1) !=0) then
 qD_j4 m self17 self35 x0 true x3
 else
 (bif (decide ((Dt.I x3 0)<1)) then
 qD_j4 m self17 self35 x0 true x3
 else
 qD_j4 m self17 self35 x0 (decide (11<(Dt.I x3 0))) x3))
 else
 (bif (decide ((Dt.I x3 0)<1)) then
 qD_j4 m self17 self35 x0 true x3
 else
 qD_j4 m self17 self35 x0 (decide (11<(Dt.I x3 0))) x3)))
  else
   (bif (Bool.not x2) then
 (bif ((Dt.I x3 1) !=0) then
 qD_j4 m self17 self35 x0 true x3
 else
 (bif (decide ((Dt.I x3 0)<1)) then
 qD_j4 m self17 self35 x0 true x3
 else
 qD_j4 m self17 self35 x0 (decide (11<(Dt.I x3 0))) x3))
   else
 (bif (decide ((Dt.I x3 0)<1)) then
 qD_j4 m self17 self35 x0 true x3
 else
 qD_j4 m self17 self35 x0 (decide (11<(Dt.I x3 0))) x3)))
noncomputable def qD_j2 (m:Nat) (self17:Dt→Bool→Option Bool) (self35:Dt→Bool→Option Bool) (x0 x1:Bool) (x2:Dt):Option Bool:=
  (bif ((Dt.I x2 0)==3) then
   qD_j3 m self17 self35 x0 x1 true x2
  else
   (bif ((Dt.I x2 0)==9) then
 qD_j3 m self17 self35 x0 x1 true x2
   else
 qD_j3 m self17 self35 x0 x1 ((Dt.I x2 0)==10) x2))
noncomputable def qD_j1 (m:Nat) (self17:Dt→Bool→Option Bool) (self35:Dt→Bool→Option Bool) (x0:Bool) (x1:Dt):Option Bool:=
  (bif ((Dt.I x1 0)==4) then
   qD_j2 m self17 self35 x0 true x1
  else
   (bif ((Dt.I x1 0)==7) then
 qD_j2 m self17 self35 x0 true x1
   else
 qD_j2 m self17 self35 x0 ((Dt.I x1 0)==8) x1))
noncomputable def qD_j0 (m:Nat) (self17:Dt→Bool→Option Bool) (self35:Dt→Bool→Option Bool) (x0 x1:Bool) (x2:Dt):Option Bool:=
 (bif x1 then
  some false
 else
  qD_j1 m self17 self35 x0 x2)
noncomputable def qF_j8 (m:Nat) (self17:Dt→Bool→Option Bool) (rec1:Bool→Int→Dt→Option Bool) (rec6:Bool→Int→Int→Dt→Dt→Option Bool) (x0:Bool) (x1 x2:Int) (x3 x4:Dt):Option Bool:=
 rec6 x0 x1 (IntKind.wrap .i64 (x2+1)) x3 x4
noncomputable def qF_j7 (m:Nat) (self17:Dt→Bool→Option Bool) (rec1:Bool→Int→Dt→Option Bool) (rec6:Bool→Int→Int→Dt→Dt→Option Bool) (x0:Bool) (x1 x2:Int) (x3 x4:Dt):Option Bool:=
  ((idx (Dt.L x3 4) x2).bind fun v2=>
    (bif ((ByteArray.toList (Dt.S v2 0))==(ByteArray.toList (Dt.S x4 0))) then
 some false
    else
 qF_j8 m self17 rec1 rec6 x0 x1 x2 x3 x4))
noncomputable def qF_j9 (m:Nat) (self17:Dt→Bool→Option Bool) (rec1:Bool→Int→Dt→Option Bool) (x0:Bool) (x1:Int) (x2:Dt):Option Bool:=
 rec1 x0 (IntKind.wrap .i64 (x1+1)) x2
noncomputable def qF_l6 (m:Nat) (self17:Dt→Bool→Option Bool) (rec1:Bool→Int→Dt→Option Bool):Nat→Bool→Int→Int→Dt→Dt→Option Bool
 |0,_,_,_,_,_=>none
 |M6+1,x0,x1,x2,x3,x4=>
  (bif (decide (x2<x1)) then
  qF_j7 m self17 rec1 (qF_l6 m self17 rec1 M6) x0 x1 x2 x3 x4
 else
  qF_j9 m self17 rec1 x0 x1 x3)
noncomputable def qF_j5 (m:Nat) (self17:Dt→Bool→Option Bool) (rec1:Bool→Int→Dt→Option Bool) (x0:Bool) (x1 x2:Int) (x3 x4:Dt):Option Bool:=
 qF_l6 m self17 rec1 (Nat.succ m) x0 x1 x2 x3 x4
noncomputable def qF_j4 (m:Nat) (self17:Dt→Bool→Option Bool) (rec1:Bool→Int→Dt→Option Bool) (x0:Bool) (x1:Int) (x2 x3:Dt):Option Bool:=
 qF_j5 m self17 rec1 x0 x1 0 x2 x3
noncomputable def qF_j3 (m:Nat) (self17:Dt→Bool→Option Bool) (rec1:Bool→Int→Dt→Option Bool) (x0:Bool) (x1:Int) (x2:Bool) (x3 x4:Dt):Option Bool:=
 (bif x2 then
  some false
 else
  qF_j4 m self17 rec1 x0 x1 x3 x4)
noncomputable def qF_j2 (m:Nat) (self17:Dt→Bool→Option Bool) (rec1:Bool→Int→Dt→Option Bool) (x0:Bool) (x1:Int) (x2:Dt):Option Bool:=
  ((idx (Dt.L x2 4) x1).bind fun v0=>
    (bif x0 then
 ((qR m (Dt.S v0 0)).bind fun r1=>
 (bif (Bool.not r1) then
 qF_j3 m self17 rec1 x0 x1 true x2 v0
 else
 (bif (Bool.not x0) then
 ((qS m (Dt.S v0 0)).bind fun r3=>
 (bif (Bool.not r3) then
 qF_j3 m self17 rec1 x0 x1 true x2 v0
 else
 ((self17 (Dt.fld v0 1) x0).bind fun r4=>
 qF_j3 m self17 rec1 x0 x1 (Bool.not r4) x2 v0)))
 else
 ((self17 (Dt.fld v0 1) x0).bind fun r5=>
 qF_j3 m self17 rec1 x0 x1 (Bool.not r5) x2 v0))))
    else
 (bif (Bool.not x0) then
 ((qS m (Dt.S v0 0)).bind fun r6=>
 (bif (Bool.not r6) then
 qF_j3 m self17 rec1 x0 x1 true x2 v0
 else
 ((self17 (Dt.fld v0 1) x0).bind fun r7=>
 qF_j3 m self17 rec1 x0 x1 (Bool.not r7) x2 v0)))
 else
 ((self17 (Dt.fld v0 1) x0).bind fun r8=>
 qF_j3 m self17 rec1 x0 x1 (Bool.not r8) x2 v0))))
noncomputable def qF_j10 (m:Nat) (self17:Dt→Bool→Option Bool):Option Bool:=
 some true
noncomputable def qF_l1 (m:Nat) (self17:Dt→Bool→Option Bool):Nat→Bool→Int→Dt→Option Bool
 |0,_,_,_=>none
 |M1+1,x0,x1,x2=>
  (bif (decide (x1<(List.length (Dt.L x2 4):Int))) then
  qF_j2 m self17 (qF_l1 m self17 M1) x0 x1 x2
 else
  qF_j10 m self17)
noncomputable def qF_j0 (m:Nat) (self17:Dt→Bool→Option Bool) (x0:Bool) (x1:Int) (x2:Dt):Option Bool:=
 qF_l1 m self17 (Nat.succ m) x0 x1 x2
mutual
noncomputable def qD:Nat→Dt→Bool→Option Bool
  |0,_,_=>none
  |m+1,a0,a1=>
   (bif ((Dt.I a0 0) !=6) then
   (bif (decide (0<(List.length (Dt.L a0 3):Int))) then
 qD_j0 m (qD m) (qF m) a1 true a0
   else
 (bif ((Dt.I a0 0) !=5) then
 qD_j0 m (qD m) (qF m) a1 (decide (0<(List.length (Dt.L a0 4):Int))) a0
 else
 qD_j0 m (qD m) (qF m) a1 false a0))
  else
   (bif ((Dt.I a0 0) !=5) then
 qD_j0 m (qD m) (qF m) a1 (decide (0<(List.length (Dt.L a0 4):Int))) a0
   else
 qD_j0 m (qD m) (qF m) a1 false a0))
noncomputable def qF:Nat→Dt→Bool→Option Bool
 |0,_,_=>none
 |m+1,a0,a1=>
  qF_j0 m (qD m) a1 0 a0
end
noncomputable def zW:Nat→Dt→Option Bool
  |0,_=>none
  |m+1,a0=>
   ((zQ m a0).bind fun r0=>
   (bif (decide (r0≤16)) then
 ((zT m a0).bind fun r1=>
 (bif (decide (r1≤1024)) then
 ((qD m a0 true).bind fun r2=>
 some r2)
 else
 some false))
   else
 some false))
noncomputable def zD_j5 (m:Nat) (rec2:List Dt→Int→Option Bool) (x0:List Dt) (x1:Int):Option Bool:=
 rec2 x0 (IntKind.wrap .i64 (x1+1))
noncomputable def zD_j4 (m:Nat) (rec2:List Dt→Int→Option Bool) (x0:List Dt) (x1:Int) (x2:Bool):Option Bool:=
 (bif x2 then
  some false
 else
  zD_j5 m rec2 x0 x1)
noncomputable def zD_j3 (m:Nat) (rec2:List Dt→Int→Option Bool) (x0:List Dt) (x1:Int):Option Bool:=
  ((idx x0 x1).bind fun v0=>
    (bif ((Dt.I v0 0) !=5) then
 zD_j4 m rec2 x0 x1 true
    else
 ((idx x0 x1).bind fun v1=>
 ((zW m v1).bind fun r2=>
 zD_j4 m rec2 x0 x1 (Bool.not r2)))))
noncomputable def zD_j6 (m:Nat):Option Bool:=
 some true
noncomputable def zD_l2 (m:Nat):Nat→List Dt→Int→Option Bool
 |0,_,_=>none
 |M2+1,x0,x1=>
  (bif (decide (x1<(List.length x0:Int))) then
  zD_j3 m (zD_l2 m M2) x0 x1
 else
  zD_j6 m)
noncomputable def zD_j1 (m:Nat) (x0:List Dt) (x1:Int):Option Bool:=
 zD_l2 m (Nat.succ m) x0 x1
noncomputable def zD_j0 (m:Nat) (x0:List Dt):Option Bool:=
 zD_j1 m x0 0
noncomputable def zD:Nat→List Dt→Option Bool
 |0,_=>none
 |m+1,a0=>
  (bif (decide (60<(List.length a0:Int))) then
  some false
 else
  zD_j0 m a0)
noncomputable def zL_j0 (m:Nat) (self67:Dt→Int→Int→Option (Int×Int)) (x0:Dt) (x1 x2:Int):Option Int:=
 ((self67 x0 x2 x1).bind fun r0=>
   some r0.1)
noncomputable def i67_j3 (m:Nat) (self68:Dt→Int→Int→Option (Bool×Int×Int)) (rec1:List Dt→Int→Int→Int→Int→Option (Int×Int)) (x0:List Dt) (x1 x2 x3 x4:Int):Option (Int×Int):=
 rec1 x0 x1 (IntKind.wrap .i64 (x2+1)) x3 x4
noncomputable def i67_j2 (m:Nat) (self68:Dt→Int→Int→Option (Bool×Int×Int)) (rec1:List Dt→Int→Int→Int→Int→Option (Int×Int)) (x0:List Dt) (x1 x2 x3 x4:Int):Option (Int×Int):=
  ((idx x0 x2).bind fun v0=>
    ((self68 v0 x3 x4).bind fun r1=>
 (bif (Bool.not r1.1) then
 some (r1.2.1,r1.2.2)
 else
 i67_j3 m self68 rec1 x0 x1 x2 r1.2.1 r1.2.2)))
noncomputable def i67_l1 (m:Nat) (self68:Dt→Int→Int→Option (Bool×Int×Int)):Nat→List Dt→Int→Int→Int→Int→Option (Int×Int)
 |0,_,_,_,_,_=>none
 |M1+1,x0,x1,x2,x3,x4=>
  (bif (decide (x2<x1)) then
  i67_j2 m self68 (i67_l1 m self68 M1) x0 x1 x2 x3 x4
 else
  some (x3,x4))
noncomputable def i67_j0 (m:Nat) (self68:Dt→Int→Int→Option (Bool×Int×Int)) (x0:List Dt) (x1 x2 x3 x4:Int):Option (Int×Int):=
 i67_l1 m self68 (Nat.succ m) x0 x1 x2 x3 x4
noncomputable def i67_j7 (m:Nat) (self68:Dt→Int→Int→Option (Bool×Int×Int)) (rec5:List Dt→Int→Int→Int→Int→Option (Int×Int)) (x0:List Dt) (x1 x2 x3 x4:Int):Option (Int×Int):=
 rec5 x0 x1 (IntKind.wrap .i64 (x2+1)) x3 x4
noncomputable def i67_j6 (m:Nat) (self68:Dt→Int→Int→Option (Bool×Int×Int)) (rec5:List Dt→Int→Int→Int→Int→Option (Int×Int)) (x0:List Dt) (x1 x2 x3 x4:Int):Option (Int×Int):=
  ((idx x0 x2).bind fun v2=>
    ((self68 (Dt.fld v2 1) x3 x4).bind fun r3=>
 (bif (Bool.not r3.1) then
 some (r3.2.1,r3.2.2)
 else
 i67_j7 m self68 rec5 x0 x1 x2 r3.2.1 r3.2.2)))
noncomputable def i67_l5 (m:Nat) (self68:Dt→Int→Int→Option (Bool×Int×Int)):Nat→List Dt→Int→Int→Int→Int→Option (Int×Int)
 |0,_,_,_,_,_=>none
 |M5+1,x0,x1,x2,x3,x4=>
  (bif (decide (x2<x1)) then
  i67_j6 m self68 (i67_l5 m self68 M5) x0 x1 x2 x3 x4
 else
  some (x3,x4))
noncomputable def i67_j4 (m:Nat) (self68:Dt→Int→Int→Option (Bool×Int×Int)) (x0:List Dt) (x1 x2 x3 x4:Int):Option (Int×Int):=
 i67_l5 m self68 (Nat.succ m) x0 x1 x2 x3 x4
mutual
noncomputable def zL:Nat→Dt→Int→Option Int
 |0,_,_=>none
 |m+1,a0,a1=>
  (bif (1==a1) then
  some 1
 else
  zL_j0 m (i67 m) a0 a1 1)
noncomputable def i67:Nat→Dt→Int→Int→Option (Int×Int)
  |0,_,_,_=>none
  |m+1,a0,a1,a2=>
   (bif ((Dt.I a0 0)==6) then
   i67_j0 m (i68 m) (Dt.L a0 3) (List.length (Dt.L a0 3):Int) 0 a1 a2
  else
   (bif ((Dt.I a0 0)==5) then
 i67_j4 m (i68 m) (Dt.L a0 4) (List.length (Dt.L a0 4):Int) 0 a1 a2
   else
 some (a1,a2)))
noncomputable def i68:Nat→Dt→Int→Int→Option (Bool×Int×Int)
 |0,_,_,_=>none
 |m+1,a0,a1,a2=>
  ((zL m a0 (IntKind.wrap .i64 (a2-a1))).bind fun r0=>
  some ((decide ((IntKind.wrap .i64 (a1+r0))<a2)),(IntKind.wrap .i64 (a1+r0)),a2))
end
noncomputable def zR:Nat→Dt→Option Int
 |0,_=>none
 |m+1,a0=>
  ((zL m a0 1025).bind fun r0=>
  some r0)
noncomputable def zK_j0 (m:Nat) (self69:Dt→Int→Int→Option (Int×Int)) (x0:Dt) (x1:Int):Option Int:=
 ((self69 x0 0 x1).bind fun r0=>
   some (IntKind.wrap .i64 (1+r0.1)))
noncomputable def i69_j3 (m:Nat) (self70:Dt→Int→Int→Option (Bool×Int×Int)) (rec1:List Dt→Int→Int→Int→Int→Option (Int×Int)) (x0:List Dt) (x1 x2 x3 x4:Int):Option (Int×Int):=
 rec1 x0 x1 (IntKind.wrap .i64 (x2+1)) x3 x4
noncomputable def i69_j2 (m:Nat) (self70:Dt→Int→Int→Option (Bool×Int×Int)) (rec1:List Dt→Int→Int→Int→Int→Option (Int×Int)) (x0:List Dt) (x1 x2 x3 x4:Int):Option (Int×Int):=
  ((idx x0 x2).bind fun v0=>
    ((self70 v0 x3 x4).bind fun r1=>
 (bif (Bool.not r1.1) then
 some (r1.2.1,r1.2.2)
 else
 i69_j3 m self70 rec1 x0 x1 x2 r1.2.1 r1.2.2)))
noncomputable def i69_l1 (m:Nat) (self70:Dt→Int→Int→Option (Bool×Int×Int)):Nat→List Dt→Int→Int→Int→Int→Option (Int×Int)
 |0,_,_,_,_,_=>none
 |M1+1,x0,x1,x2,x3,x4=>
  (bif (decide (x2<x1)) then
  i69_j2 m self70 (i69_l1 m self70 M1) x0 x1 x2 x3 x4
 else
  some (x3,x4))
noncomputable def i69_j0 (m:Nat) (self70:Dt→Int→Int→Option (Bool×Int×Int)) (x0:List Dt) (x1 x2 x3 x4:Int):Option (Int×Int):=
 i69_l1 m self70 (Nat.succ m) x0 x1 x2 x3 x4
noncomputable def i69_j7 (m:Nat) (self70:Dt→Int→Int→Option (Bool×Int×Int)) (rec5:List Dt→Int→Int→Int→Int→Option (Int×Int)) (x0:List Dt) (x1 x2 x3 x4:Int):Option (Int×Int):=
 rec5 x0 x1 (IntKind.wrap .i64 (x2+1)) x3 x4
noncomputable def i69_j6 (m:Nat) (self70:Dt→Int→Int→Option (Bool×Int×Int)) (rec5:List Dt→Int→Int→Int→Int→Option (Int×Int)) (x0:List Dt) (x1 x2 x3 x4:Int):Option (Int×Int):=
  ((idx x0 x2).bind fun v2=>
    ((self70 (Dt.fld v2 1) x3 x4).bind fun r3=>
 (bif (Bool.not r3.1) then
 some (r3.2.1,r3.2.2)
 else
 i69_j7 m self70 rec5 x0 x1 x2 r3.2.1 r3.2.2)))
noncomputable def i69_l5 (m:Nat) (self70:Dt→Int→Int→Option (Bool×Int×Int)):Nat→List Dt→Int→Int→Int→Int→Option (Int×Int)
 |0,_,_,_,_,_=>none
 |M5+1,x0,x1,x2,x3,x4=>
  (bif (decide (x2<x1)) then
  i69_j6 m self70 (i69_l5 m self70 M5) x0 x1 x2 x3 x4
 else
  some (x3,x4))
noncomputable def i69_j4 (m:Nat) (self70:Dt→Int→Int→Option (Bool×Int×Int)) (x0:List Dt) (x1 x2 x3 x4:Int):Option (Int×Int):=
 i69_l5 m self70 (Nat.succ m) x0 x1 x2 x3 x4
mutual
noncomputable def zK:Nat→Dt→Int→Option Int
 |0,_,_=>none
 |m+1,a0,a1=>
  (bif (a1==1) then
  some 1
 else
  zK_j0 m (i69 m) a0 a1)
noncomputable def i69:Nat→Dt→Int→Int→Option (Int×Int)
  |0,_,_,_=>none
  |m+1,a0,a1,a2=>
   (bif ((Dt.I a0 0)==6) then
   i69_j0 m (i70 m) (Dt.L a0 3) (List.length (Dt.L a0 3):Int) 0 a1 a2
  else
   (bif ((Dt.I a0 0)==5) then
 i69_j4 m (i70 m) (Dt.L a0 4) (List.length (Dt.L a0 4):Int) 0 a1 a2
   else
 some (a1,a2)))
noncomputable def i70:Nat→Dt→Int→Int→Option (Bool×Int×Int)
 |0,_,_,_=>none
 |m+1,a0,a1,a2=>
  ((zK m a0 (IntKind.wrap .i64 (a2-1))).bind fun r0=>
  some ((decide ((bif (decide (a1<r0)) then r0 else a1)<(IntKind.wrap .i64 (a2-1)))),(bif (decide (a1<r0)) then r0 else a1),a2))
end
noncomputable def zS:Nat→Dt→Option Int
 |0,_=>none
 |m+1,a0=>
  ((zK m a0 17).bind fun r0=>
  some r0)
noncomputable def zP:Nat→Int→Option Int
 |0,_=>none
 |m+1,a0=>
  some (xorI IntKind.u64 (shlI IntKind.u64 (IntKind.wrap IntKind.u64 a0) 1) (IntKind.wrap IntKind.u64 (shrI IntKind.i64 a0 63)))
noncomputable def qU_j3 (m:Nat) (rec1:Int→Int→Option Int) (x0 x1:Int):Option Int:=
 rec1 x0 (shrI IntKind.u64 x1 7)
noncomputable def qU_j2 (m:Nat) (rec1:Int→Int→Option Int) (x0 x1:Int):Option Int:=
 qU_j3 m rec1 (IntKind.wrap .i64 (x0+1)) x1
noncomputable def qU_j4 (m:Nat) (x0:Int):Option Int:=
 some x0
noncomputable def qU_l1 (m:Nat):Nat→Int→Int→Option Int
 |0,_,_=>none
 |M1+1,x0,x1=>
  (bif (decide (128≤x1)) then
  qU_j2 m (qU_l1 m M1) x0 x1
 else
  qU_j4 m x0)
noncomputable def qU_j0 (m:Nat) (x0 x1:Int):Option Int:=
 qU_l1 m (Nat.succ m) x0 x1
noncomputable def qU:Nat→Int→Option Int
 |0,_=>none
 |m+1,a0=>
  ((zP m a0).bind fun r0=>
  qU_j0 m 1 r0)
noncomputable def qE_j1 (m:Nat) (self37:Dt→Option Int) (x0:Int):Option Int:=
 some x0
noncomputable def qE_j6 (m:Nat) (self37:Dt→Option Int) (rec4:Int→List Dt→Int→Int→Option Int) (x0:Int) (x1:List Dt) (x2 x3:Int):Option Int:=
 rec4 x0 x1 x2 (IntKind.wrap .i64 (x3+1))
noncomputable def qE_j5 (m:Nat) (self37:Dt→Option Int) (rec4:Int→List Dt→Int→Int→Option Int) (x0:Int) (x1:List Dt) (x2 x3:Int):Option Int:=
  ((idx x1 x3).bind fun v3=>
    ((self37 v3).bind fun r4=>
 qE_j6 m self37 rec4 (IntKind.wrap .i64 (x0+r4)) x1 x2 x3))
noncomputable def qE_l4 (m:Nat) (self37:Dt→Option Int):Nat→Int→List Dt→Int→Int→Option Int
 |0,_,_,_,_=>none
 |M4+1,x0,x1,x2,x3=>
  (bif (decide (x3<x2)) then
  qE_j5 m self37 (qE_l4 m self37 M4) x0 x1 x2 x3
 else
  qE_j1 m self37 x0)
noncomputable def qE_j3 (m:Nat) (self37:Dt→Option Int) (x0:Int) (x1:List Dt) (x2 x3:Int):Option Int:=
 qE_l4 m self37 (Nat.succ m) x0 x1 x2 x3
noncomputable def qE_j10 (m:Nat) (self37:Dt→Option Int) (rec8:Int→List Dt→Int→Int→Option Int) (x0:Int) (x1:List Dt) (x2 x3:Int):Option Int:=
 rec8 x0 x1 x2 (IntKind.wrap .i64 (x3+1))
noncomputable def qE_j9 (m:Nat) (self37:Dt→Option Int) (rec8:Int→List Dt→Int→Int→Option Int) (x0:Int) (x1:List Dt) (x2 x3:Int):Option Int:=
  ((idx x1 x3).bind fun v6=>
    ((qU m (ByteArray.size (Dt.S v6 0):Int)).bind fun r7=>
 ((self37 (Dt.fld v6 1)).bind fun r8=>
 qE_j10 m self37 rec8 (IntKind.wrap .i64 (x0+(IntKind.wrap .i64 ((IntKind.wrap .i64 (r7+(ByteArray.size (Dt.S v6 0):Int)))+r8)))) x1 x2 x3)))
noncomputable def qE_l8 (m:Nat) (self37:Dt→Option Int):Nat→Int→List Dt→Int→Int→Option Int
 |0,_,_,_,_=>none
 |M8+1,x0,x1,x2,x3=>
  (bif (decide (x3<x2)) then
  qE_j9 m self37 (qE_l8 m self37 M8) x0 x1 x2 x3
 else
  qE_j1 m self37 x0)
noncomputable def qE_j7 (m:Nat) (self37:Dt→Option Int) (x0:Int) (x1:List Dt) (x2 x3:Int):Option Int:=
 qE_l8 m self37 (Nat.succ m) x0 x1 x2 x3
noncomputable def qE_j2 (m:Nat) (self37:Dt→Option Int) (x0 x1:Int) (x2:Bool) (x3:Dt):Option Int:=
  (bif x2 then
   ((qU m (ByteArray.size (Dt.S x3 2):Int)).bind fun r1=>
 qE_j1 m self37 (IntKind.wrap .i64 (x0+(IntKind.wrap .i64 (r1+(ByteArray.size (Dt.S x3 2):Int))))))
  else
   (bif (x1==8) then
 qE_j1 m self37 (IntKind.wrap .i64 (x0+(ByteArray.size (Dt.S x3 2):Int)))
   else
 (bif (x1==6) then
 ((qU m (List.length (Dt.L x3 3):Int)).bind fun r2=>
 qE_j3 m self37 (IntKind.wrap .i64 (x0+r2)) (Dt.L x3 3) (List.length (Dt.L x3 3):Int) 0)
 else
 (bif (x1==5) then
 ((qU m (List.length (Dt.L x3 4):Int)).bind fun r5=>
 qE_j7 m self37 (IntKind.wrap .i64 (x0+r5)) (Dt.L x3 4) (List.length (Dt.L x3 4):Int) 0)
 else
 qE_j1 m self37 x0))))
noncomputable def qE_j0 (m:Nat) (self37:Dt→Option Int) (x0 x1:Int) (x2:Bool) (x3:Dt):Option Int:=
  (bif x2 then
   ((qU m (Dt.I x3 1)).bind fun r0=>
 qE_j1 m self37 (IntKind.wrap .i64 (x0+r0)))
  else
   (bif (x1==9) then
 qE_j1 m self37 (IntKind.wrap .i64 (x0+1))
   else
 (bif (x1==4) then
 qE_j2 m self37 x0 x1 (x1==4) x3
 else
 qE_j2 m self37 x0 x1 (x1==7) x3)))
noncomputable def qE:Nat→Dt→Option Int
 |0,_=>none
 |m+1,a0=>
  (bif ((Dt.I a0 0)==3) then
  qE_j0 m (qE m) 1 (Dt.I a0 0) ((Dt.I a0 0)==3) a0
 else
  qE_j0 m (qE m) 1 (Dt.I a0 0) ((Dt.I a0 0)==10) a0)
noncomputable def qL_j6 (m:Nat) (rec3:ByteArray→Int→Int→Option Bool) (x0:ByteArray) (x1 x2:Int):Option Bool:=
 rec3 x0 x1 (IntKind.wrap .i64 (x2+1))
noncomputable def qL_j5 (m:Nat) (rec3:ByteArray→Int→Int→Option Bool) (x0:ByteArray) (x1 x2:Int) (x3:Bool):Option Bool:=
 (bif x3 then
  some false
 else
  qL_j6 m rec3 x0 x1 x2)
noncomputable def qL_j4 (m:Nat) (rec3:ByteArray→Int→Int→Option Bool) (x0:ByteArray) (x1 x2:Int):Option Bool:=
  ((idxS x0 x2).bind fun v0=>
    (bif (decide (v0<33)) then
 qL_j5 m rec3 x0 x1 x2 true
    else
 ((idxS x0 x2).bind fun v1=>
 (bif (decide (126<v1)) then
 qL_j5 m rec3 x0 x1 x2 true
 else
 ((idxS x0 x2).bind fun v2=>
 qL_j5 m rec3 x0 x1 x2 (v2==46))))))
noncomputable def qL_j7 (m:Nat):Option Bool:=
 some true
noncomputable def qL_l3 (m:Nat):Nat→ByteArray→Int→Int→Option Bool
 |0,_,_,_=>none
 |M3+1,x0,x1,x2=>
  (bif (decide (x2<x1)) then
  qL_j4 m (qL_l3 m M3) x0 x1 x2
 else
  qL_j7 m)
noncomputable def qL_j2 (m:Nat) (x0:ByteArray) (x1 x2:Int):Option Bool:=
 qL_l3 m (Nat.succ m) x0 x1 x2
noncomputable def qL_j1 (m:Nat) (x0:ByteArray):Option Bool:=
 qL_j2 m x0 (ByteArray.size x0:Int) 0
noncomputable def qL_j0 (m:Nat) (x0:ByteArray) (x1:Bool):Option Bool:=
 (bif x1 then
  some false
 else
  qL_j1 m x0)
noncomputable def qL:Nat→ByteArray→Option Bool
  |0,_=>none
  |m+1,a0=>
   (bif (decide ((ByteArray.size a0:Int)<1)) then
   qL_j0 m a0 true
  else
   (bif (decide (32<(ByteArray.size a0:Int))) then
 qL_j0 m a0 true
   else
 ((idxS a0 0).bind fun v3=>
 qL_j0 m a0 (v3==36))))
noncomputable def qB_j10 (m:Nat) (self55:Dt→Option Bool) (self62:List Dt→Option Bool) (rec8:List Dt→Int→Int→Option Bool) (x0:List Dt) (x1 x2:Int):Option Bool:=
 rec8 x0 x1 (IntKind.wrap .i64 (x2+1))
noncomputable def qB_j9 (m:Nat) (self55:Dt→Option Bool) (self62:List Dt→Option Bool) (rec8:List Dt→Int→Int→Option Bool) (x0:List Dt) (x1 x2:Int):Option Bool:=
  ((idx x0 x2).bind fun v1=>
    ((self55 v1).bind fun r2=>
 (bif (Bool.not r2) then
 some false
 else
 qB_j10 m self55 self62 rec8 x0 x1 x2)))
noncomputable def qB_j11 (m:Nat) (self55:Dt→Option Bool) (self62:List Dt→Option Bool):Option Bool:=
 some true
noncomputable def qB_l8 (m:Nat) (self55:Dt→Option Bool) (self62:List Dt→Option Bool):Nat→List Dt→Int→Int→Option Bool
 |0,_,_,_=>none
 |M8+1,x0,x1,x2=>
  (bif (decide (x2<x1)) then
  qB_j9 m self55 self62 (qB_l8 m self55 self62 M8) x0 x1 x2
 else
  qB_j11 m self55 self62)
noncomputable def qB_j7 (m:Nat) (self55:Dt→Option Bool) (self62:List Dt→Option Bool) (x0:List Dt) (x1 x2:Int):Option Bool:=
 qB_l8 m self55 self62 (Nat.succ m) x0 x1 x2
noncomputable def qB_j12 (m:Nat) (self55:Dt→Option Bool) (self62:List Dt→Option Bool):Option Bool:=
 some false
noncomputable def qB_j6 (m:Nat) (self55:Dt→Option Bool) (self62:List Dt→Option Bool) (x0:Int) (x1:Bool) (x2:Dt):Option Bool:=
  (bif x1 then
   some true
  else
   (bif (x0==9) then
 (bif ((Dt.I x2 1)==0) then
 some true
 else
 some ((Dt.I x2 1)==1))
   else
 (bif (x0==10) then
 some (decide (0≤(Dt.I x2 1)))
 else
 (bif (x0==4) then
 (bif (decide ((ByteArray.size (Dt.S x2 2):Int)≤4096)) then
 ((utf8_ValidString (Dt.S x2 2)).bind fun r0=>
 some r0)
 else
 some false)
 else
 (bif (x0==7) then
 some (decide ((ByteArray.size (Dt.S x2 2):Int)≤4096))
 else
 (bif (x0==8) then
 some ((ByteArray.size (Dt.S x2 2):Int)==12)
 else
 (bif (x0==6) then
 qB_j7 m self55 self62 (Dt.L x2 3) (List.length (Dt.L x2 3):Int) 0
 else
 (bif (x0==5) then
 ((self62 (Dt.L x2 4)).bind fun r3=>
 some r3)
 else
 qB_j12 m self55 self62))))))))
noncomputable def qB_j5 (m:Nat) (self55:Dt→Option Bool) (self62:List Dt→Option Bool) (x0:Dt):Option Bool:=
  (bif ((Dt.I x0 0)==1) then
   qB_j6 m self55 self62 (Dt.I x0 0) ((Dt.I x0 0)==1) x0
  else
   (bif ((Dt.I x0 0)==2) then
 qB_j6 m self55 self62 (Dt.I x0 0) ((Dt.I x0 0)==2) x0
   else
 (bif ((Dt.I x0 0)==11) then
 qB_j6 m self55 self62 (Dt.I x0 0) ((Dt.I x0 0)==11) x0
 else
 qB_j6 m self55 self62 (Dt.I x0 0) ((Dt.I x0 0)==3) x0)))
noncomputable def qB_j4 (m:Nat) (self55:Dt→Option Bool) (self62:List Dt→Option Bool) (x0:Bool) (x1:Dt):Option Bool:=
 (bif x0 then
  some false
 else
  qB_j5 m self55 self62 x1)
noncomputable def qB_j3 (m:Nat) (self55:Dt→Option Bool) (self62:List Dt→Option Bool) (x0:Dt):Option Bool:=
  (bif ((Dt.I x0 0) !=6) then
   (bif (decide (0<(List.length (Dt.L x0 3):Int))) then
 qB_j4 m self55 self62 true x0
   else
 (bif ((Dt.I x0 0) !=5) then
 qB_j4 m self55 self62 (decide (0<(List.length (Dt.L x0 4):Int))) x0
 else
 qB_j4 m self55 self62 false x0))
  else
   (bif ((Dt.I x0 0) !=5) then
 qB_j4 m self55 self62 (decide (0<(List.length (Dt.L x0 4):Int))) x0
   else
 qB_j4 m self55 self62 false x0))
noncomputable def qB_j2 (m:Nat) (self55:Dt→Option Bool) (self62:List Dt→Option Bool) (x0:Bool) (x1:Dt):Option Bool:=
 (bif x0 then
  some false
 else
  qB_j3 m self55 self62 x1)
noncomputable def qB_j1 (m:Nat) (self55:Dt→Option Bool) (self62:List Dt→Option Bool) (x0 x1:Bool) (x2:Dt):Option Bool:=
  (bif (Bool.not x0) then
   (bif ((Dt.I x2 1) !=0) then
 qB_j2 m self55 self62 true x2
   else
 (bif (Bool.not x1) then
 qB_j2 m self55 self62 (Bool.not ((ByteArray.toList (Dt.S x2 2))==[])) x2
 else
 qB_j2 m self55 self62 false x2))
  else
   (bif (Bool.not x1) then
 qB_j2 m self55 self62 (Bool.not ((ByteArray.toList (Dt.S x2 2))==[])) x2
   else
 qB_j2 m self55 self62 false x2))
noncomputable def qB_j0 (m:Nat) (self55:Dt→Option Bool) (self62:List Dt→Option Bool) (x0:Bool) (x1:Dt):Option Bool:=
  (bif ((Dt.I x1 0)==4) then
   qB_j1 m self55 self62 x0 true x1
  else
   (bif ((Dt.I x1 0)==7) then
 qB_j1 m self55 self62 x0 true x1
   else
 qB_j1 m self55 self62 x0 ((Dt.I x1 0)==8) x1))
noncomputable def qH_j5 (m:Nat) (self55:Dt→Option Bool) (rec1:List Dt→Int→Int→List Dt→Option Bool) (x0:List Dt) (x1 x2:Int) (x3:List Dt):Option Bool:=
 rec1 x0 x1 (IntKind.wrap .i64 (x2+1)) x3
noncomputable def qH_j4 (m:Nat) (self55:Dt→Option Bool) (rec1:List Dt→Int→Int→List Dt→Option Bool) (x0:List Dt) (x1 x2:Int) (x3:List Dt) (x4:Dt):Option Bool:=
 qH_j5 m self55 rec1 x0 x1 x2 (mput x3 (Dt.S x4 0) (Dt.bool true))
noncomputable def qH_j3 (m:Nat) (self55:Dt→Option Bool) (rec1:List Dt→Int→Int→List Dt→Option Bool) (x0:List Dt) (x1 x2:Int) (x3:Bool) (x4:List Dt) (x5:Dt):Option Bool:=
 (bif x3 then
  some false
 else
  qH_j4 m self55 rec1 x0 x1 x2 x4 x5)
noncomputable def qH_j2 (m:Nat) (self55:Dt→Option Bool) (rec1:List Dt→Int→Int→List Dt→Option Bool) (x0:List Dt) (x1 x2:Int) (x3:List Dt):Option Bool:=
  ((idx x0 x2).bind fun v0=>
    ((qL m (Dt.S v0 0)).bind fun r1=>
 (bif (Bool.not r1) then
 qH_j3 m self55 rec1 x0 x1 x2 true x3 v0
 else
 (bif (Dt.toBool (mgetD x3 (Dt.S v0 0) (Dt.bool false))) then
 qH_j3 m self55 rec1 x0 x1 x2 true x3 v0
 else
 ((self55 (Dt.fld v0 1)).bind fun r2=>
 qH_j3 m self55 rec1 x0 x1 x2 (Bool.not r2) x3 v0)))))
noncomputable def qH_j6 (m:Nat) (self55:Dt→Option Bool):Option Bool:=
 some true
noncomputable def qH_l1 (m:Nat) (self55:Dt→Option Bool):Nat→List Dt→Int→Int→List Dt→Option Bool
 |0,_,_,_,_=>none
 |M1+1,x0,x1,x2,x3=>
  (bif (decide (x2<x1)) then
  qH_j2 m self55 (qH_l1 m self55 M1) x0 x1 x2 x3
 else
  qH_j6 m self55)
noncomputable def qH_j0 (m:Nat) (self55:Dt→Option Bool) (x0:List Dt) (x1 x2:Int) (x3:List Dt):Option Bool:=
 qH_l1 m self55 (Nat.succ m) x0 x1 x2 x3
mutual
noncomputable def qB:Nat→Dt→Option Bool
  |0,_=>none
  |m+1,a0=>
   (bif ((Dt.I a0 0)==3) then
   qB_j0 m (qB m) (qH m) true a0
  else
   (bif ((Dt.I a0 0)==9) then
 qB_j0 m (qB m) (qH m) true a0
   else
 qB_j0 m (qB m) (qH m) ((Dt.I a0 0)==10) a0))
noncomputable def qH:Nat→List Dt→Option Bool
 |0,_=>none
 |m+1,a0=>
  qH_j0 m (qB m) a0 (List.length a0:Int) 0 []
end
noncomputable def zV:Nat→Dt→Option Bool
  |0,_=>none
  |m+1,a0=>
   ((zR m a0).bind fun r0=>
   (bif (decide (r0≤1024)) then
 ((zS m a0).bind fun r1=>
 (bif (decide (r1≤16)) then
 ((qB m a0).bind fun r2=>
 some r2)
 else
 some false))
   else
 some false))
noncomputable def zJ_j0 (m:Nat) (x0:Dt):Option (Int×Int):=
 ((qE m x0).bind fun r1=>
   some (r1,0))
noncomputable def zJ:Nat→Dt→Option (Int×Int)
  |0,_=>none
  |m+1,a0=>
   ((zV m a0).bind fun r0=>
   (bif (Bool.not r0) then
 some (0,8)
   else
 zJ_j0 m a0))
noncomputable def qO_j6 (m:Nat) (rec2:List Dt→Int→Bool→Int→Int→List Dt→Int→Int→List Dt→Option (List Dt×Int)) (x0:List Dt) (x1:Int) (x2:Bool) (x3 x4:Int) (x5:List Dt) (x6 x7:Int) (x8:List Dt):Option (List Dt×Int):=
 rec2 x0 x1 x2 x3 x4 x5 x6 (IntKind.wrap .i64 (x7+1)) x8
noncomputable def qO_j5 (m:Nat) (rec2:List Dt→Int→Bool→Int→Int→List Dt→Int→Int→List Dt→Option (List Dt×Int)) (x0:List Dt) (x1:Int) (x2:Bool) (x3 x4 x5:Int) (x6:List Dt) (x7 x8:Int) (x9:List Dt):Option (List Dt×Int):=
 qO_j6 m rec2 x0 x1 x2 x3 (IntKind.wrap .i64 (x4+x5)) x6 x7 x8 x9
noncomputable def qO_j4 (m:Nat) (rec2:List Dt→Int→Bool→Int→Int→List Dt→Int→Int→List Dt→Option (List Dt×Int)) (x0:List Dt) (x1:Int) (x2:Bool) (x3 x4 x5 x6:Int) (x7:List Dt) (x8 x9:Int) (x10:Bool) (x11:List Dt):Option (List Dt×Int):=
  (bif x10 then
   ((cutL x0 x3 x5).bind fun v2=>
 ((app x11 [(Dt.lst v2)]).bind fun v3=>
 qO_j5 m rec2 x0 x1 x2 x5 0 x6 x7 x8 x9 v3))
  else
   qO_j5 m rec2 x0 x1 x2 x3 x4 x6 x7 x8 x9 x11)
noncomputable def qO_j3 (m:Nat) (rec2:List Dt→Int→Bool→Int→Int→List Dt→Int→Int→List Dt→Option (List Dt×Int)) (x0:List Dt) (x1:Int) (x2:Bool) (x3 x4:Int) (x5:List Dt) (x6 x7:Int) (x8:List Dt):Option (List Dt×Int):=
  ((idx x5 x7).bind fun v0=>
    ((zJ m v0).bind fun r1=>
 (bif (decide (x3<x7)) then
 qO_j4 m rec2 x0 x1 x2 x3 x4 x7 r1.1 x5 x6 x7 (decide ((IntKind.wrap .i64 (x1-x4))<r1.1)) x8
 else
 qO_j4 m rec2 x0 x1 x2 x3 x4 x7 r1.1 x5 x6 x7 false x8)))
noncomputable def qO_j10 (m:Nat) (x0:List Dt) (x1:Int) (x2:List Dt):Option (List Dt×Int):=
  ((cutL x0 x1 (List.length x0:Int)).bind fun v4=>
    ((app x2 [(Dt.lst v4)]).bind fun v5=>
 some (v5,0)))
noncomputable def qO_j9 (m:Nat) (x0:List Dt) (x1:Bool) (x2:Int) (x3:List Dt):Option (List Dt×Int):=
 (bif (Bool.not x1) then
  some ([],22)
 else
  qO_j10 m x0 x2 x3)
noncomputable def qO_j8 (m:Nat) (x0:List Dt) (x1:Bool) (x2:Int) (x3:Bool) (x4:List Dt):Option (List Dt×Int):=
 (bif x3 then
  some ([],0)
 else
  qO_j9 m x0 x1 x2 x4)
noncomputable def qO_j7 (m:Nat) (x0:List Dt) (x1:Int) (x2:Bool) (x3 x4:Int) (x5:List Dt):Option (List Dt×Int):=
 (bif ((List.length x5:Int)==0) then
  qO_j8 m x0 x2 x3 (decide (x4≤x1)) x5
 else
  qO_j8 m x0 x2 x3 false x5)
noncomputable def qO_l2 (m:Nat):Nat→List Dt→Int→Bool→Int→Int→List Dt→Int→Int→List Dt→Option (List Dt×Int)
 |0,_,_,_,_,_,_,_,_,_=>none
 |M2+1,x0,x1,x2,x3,x4,x5,x6,x7,x8=>
  (bif (decide (x7<x6)) then
  qO_j3 m (qO_l2 m M2) x0 x1 x2 x3 x4 x5 x6 x7 x8
 else
  qO_j7 m x0 x1 x2 x3 x4 x8)
noncomputable def qO_j1 (m:Nat) (x0:List Dt) (x1:Int) (x2:Bool) (x3 x4:Int) (x5:List Dt) (x6 x7:Int) (x8:List Dt):Option (List Dt×Int):=
 qO_l2 m (Nat.succ m) x0 x1 x2 x3 x4 x5 x6 x7 x8
noncomputable def qO_j0 (m:Nat) (x0:List Dt) (x1:Int) (x2:Bool):Option (List Dt×Int):=
 qO_j1 m x0 x1 x2 0 0 x0 (List.length x0:Int) 0 []
noncomputable def qO:Nat→List Dt→Int→Bool→Option (List Dt×Int)
 |0,_,_,_=>none
 |m+1,a0,a1,a2=>
  (bif (decide (a1<1)) then
  some ([],1)
 else
  qO_j0 m a0 a1 a2)
noncomputable def qW_j5 (m:Nat) (rec3:List Dt→List Dt→Int→Int→Dt→List Dt→Option (List Dt×Int×Int)) (x0 x1:List Dt) (x2 x3:Int) (x4:Dt) (x5:List Dt):Option (List Dt×Int×Int):=
 rec3 x0 x1 x2 (IntKind.wrap .i64 (x3+1)) x4 x5
noncomputable def qW_j4 (m:Nat) (rec3:List Dt→List Dt→Int→Int→Dt→List Dt→Option (List Dt×Int×Int)) (x0 x1:List Dt) (x2 x3:Int) (x4:Dt) (x5:List Dt):Option (List Dt×Int×Int):=
  ((idx x1 x3).bind fun v2=>
    ((zN m x4 (Dt.toLst v2)).bind fun r3=>
 ((app x5 r3).bind fun v4=>
 qW_j5 m rec3 x0 x1 x2 x3 x4 v4)))
noncomputable def qW_j7 (m:Nat) (x0 x1:List Dt):Option (List Dt×Int×Int):=
 some (x1,(List.length x0:Int),0)
noncomputable def qW_j6 (m:Nat) (x0:List Dt) (x1:Dt) (x2:List Dt):Option (List Dt×Int×Int):=
  ((qK m x1 x2).bind fun r5=>
    (bif (r5.2 !=0) then
 some ([],0,r5.2)
    else
 qW_j7 m x0 r5.1))
noncomputable def qW_l3 (m:Nat):Nat→List Dt→List Dt→Int→Int→Dt→List Dt→Option (List Dt×Int×Int)
 |0,_,_,_,_,_,_=>none
 |M3+1,x0,x1,x2,x3,x4,x5=>
  (bif (decide (x3<x2)) then
  qW_j4 m (qW_l3 m M3) x0 x1 x2 x3 x4 x5
 else
  qW_j6 m x0 x4 x5)
noncomputable def qW_j2 (m:Nat) (x0 x1:List Dt) (x2 x3:Int) (x4:Dt) (x5:List Dt):Option (List Dt×Int×Int):=
 qW_l3 m (Nat.succ m) x0 x1 x2 x3 x4 x5
noncomputable def qW_j1 (m:Nat) (x0:List Dt) (x1:Dt):Option (List Dt×Int×Int):=
 qW_j2 m x0 x0 (List.length x0:Int) 0 x1 []
noncomputable def qW_j0 (m:Nat) (x0 x1:List Dt) (x2:Dt):Option (List Dt×Int×Int):=
  (bif ((List.length x1:Int)==0) then
   ((zY m x2 x0).bind fun r1=>
 some (r1,0,0))
  else
   qW_j1 m x1 x2)
noncomputable def qW:Nat→Dt→List Dt→Int→Bool→Option (List Dt×Int×Int)
  |0,_,_,_,_=>none
  |m+1,a0,a1,a2,a3=>
   ((qO m a1 a2 a3).bind fun r0=>
   (bif (r0.2 !=0) then
 some ([],0,r0.2)
   else
 qW_j0 m a1 r0.1 a0))
noncomputable def zI_j3 (m:Nat) (rec1:List Dt→ByteArray→Int→Int→Option Int) (x0:List Dt) (x1:ByteArray) (x2 x3:Int):Option Int:=
 rec1 x0 x1 x2 (IntKind.wrap .i64 (x3+1))
noncomputable def zI_j2 (m:Nat) (rec1:List Dt→ByteArray→Int→Int→Option Int) (x0:List Dt) (x1:ByteArray) (x2 x3:Int):Option Int:=
  ((idx x0 x3).bind fun v0=>
    (bif ((ByteArray.toList (Dt.S v0 0))==(ByteArray.toList x1)) then
 some x3
    else
 zI_j3 m rec1 x0 x1 x2 x3))
noncomputable def zI_j4 (m:Nat):Option Int:=
 some (-1)
noncomputable def zI_l1 (m:Nat):Nat→List Dt→ByteArray→Int→Int→Option Int
 |0,_,_,_,_=>none
 |M1+1,x0,x1,x2,x3=>
  (bif (decide (x3<x2)) then
  zI_j2 m (zI_l1 m M1) x0 x1 x2 x3
 else
  zI_j4 m)
noncomputable def zI_j0 (m:Nat) (x0:List Dt) (x1:ByteArray) (x2 x3:Int):Option Int:=
 zI_l1 m (Nat.succ m) x0 x1 x2 x3
noncomputable def zI:Nat→List Dt→ByteArray→Option Int
 |0,_,_=>none
 |m+1,a0,a1=>
  zI_j0 m a0 a1 (List.length a0:Int) 0
noncomputable def zB_j7 (m:Nat) (rec3:ByteArray→Int→Int→Int→Option (Int×Bool)) (x0:ByteArray) (x1 x2 x3:Int):Option (Int×Bool):=
 rec3 x0 x1 x2 (IntKind.wrap .i64 (x3+1))
noncomputable def zB_j6 (m:Nat) (rec3:ByteArray→Int→Int→Int→Option (Int×Bool)) (x0:ByteArray) (x1 x2 x3 x4:Int):Option (Int×Bool):=
 ((idxS x0 x2).bind fun v1=>
   zB_j7 m rec3 x0 (IntKind.wrap .i64 ((IntKind.wrap .i64 (10*x1))+(IntKind.wrap .i64 (IntKind.wrap IntKind.u8 (v1-48))))) x3 x4)
noncomputable def zB_j5 (m:Nat) (rec3:ByteArray→Int→Int→Int→Option (Int×Bool)) (x0:ByteArray) (x1 x2 x3 x4:Int) (x5:Bool):Option (Int×Bool):=
 (bif x5 then
  some (0,false)
 else
  zB_j6 m rec3 x0 x1 x2 x3 x4)
noncomputable def zB_j4 (m:Nat) (rec3:ByteArray→Int→Int→Int→Option (Int×Bool)) (x0:ByteArray) (x1 x2 x3:Int):Option (Int×Bool):=
  ((idxS x0 x3).bind fun v0=>
    (bif (decide (v0<48)) then
 zB_j5 m rec3 x0 x1 x3 x2 x3 true
    else
 ((idxS x0 x3).bind fun v2=>
 zB_j5 m rec3 x0 x1 x3 x2 x3 (decide (57<v2)))))
noncomputable def zB_j8 (m:Nat) (x0:Int):Option (Int×Bool):=
 some (x0,true)
noncomputable def zB_l3 (m:Nat):Nat→ByteArray→Int→Int→Int→Option (Int×Bool)
 |0,_,_,_,_=>none
 |M3+1,x0,x1,x2,x3=>
  (bif (decide (x3<x2)) then
  zB_j4 m (zB_l3 m M3) x0 x1 x2 x3
 else
  zB_j8 m x1)
noncomputable def zB_j2 (m:Nat) (x0:ByteArray) (x1 x2 x3:Int):Option (Int×Bool):=
 zB_l3 m (Nat.succ m) x0 x1 x2 x3
noncomputable def zB_j1 (m:Nat) (x0:ByteArray):Option (Int×Bool):=
 zB_j2 m x0 0 (ByteArray.size x0:Int) 0
noncomputable def zB_j0 (m:Nat) (x0:ByteArray) (x1:Bool):Option (Int×Bool):=
 (bif x1 then
  some (0,false)
 else
  zB_j1 m x0)
noncomputable def zB:Nat→ByteArray→Option (Int×Bool)
  |0,_=>none
  |m+1,a0=>
   (bif (decide ((ByteArray.size a0:Int)<1)) then
   zB_j0 m a0 true
  else
   (bif (decide (4<(ByteArray.size a0:Int))) then
 zB_j0 m a0 true
   else
 ((idxS a0 0).bind fun v3=>
 (bif (v3==48) then
 zB_j0 m a0 (decide (1<(ByteArray.size a0:Int)))
 else
 zB_j0 m a0 false))))
noncomputable def i72_j1 (m:Nat) (self72:Dt→List Dt→List Dt→Option (List Dt)) (x0:List Dt):Option (List Dt):=
 some x0
noncomputable def i72_j5 (m:Nat) (self72:Dt→List Dt→List Dt→Option (List Dt)) (rec3:List Dt→List Dt→Int→Int→List Dt→Dt→Option (List Dt)) (x0 x1:List Dt) (x2 x3:Int) (x4:List Dt) (x5:Dt):Option (List Dt):=
 rec3 x0 x1 x2 (IntKind.wrap .i64 (x3+1)) x4 x5
noncomputable def i72_j4 (m:Nat) (self72:Dt→List Dt→List Dt→Option (List Dt)) (rec3:List Dt→List Dt→Int→Int→List Dt→Dt→Option (List Dt)) (x0 x1:List Dt) (x2 x3:Int) (x4:List Dt) (x5:Dt):Option (List Dt):=
  ((idx x1 x3).bind fun v6=>
    (bif ((Dt.I v6 0)==5) then
 ((self72 v6 x0 x4).bind fun r7=>
 i72_j5 m self72 rec3 x0 x1 x2 x3 r7 x5)
    else
 i72_j5 m self72 rec3 x0 x1 x2 x3 x4 x5))
noncomputable def i72_j7 (m:Nat) (self72:Dt→List Dt→List Dt→Option (List Dt)) (x0:List Dt) (x1:Int) (x2:Bool) (x3:List Dt) (x4:Dt):Option (List Dt):=
  (bif x2 then
   ((idx (Dt.L x4 3) x1).bind fun v10=>
 ((cutL x0 1 (List.length x0:Int)).bind fun v11=>
 ((self72 v10 v11 x3).bind fun r12=>
 i72_j1 m self72 r12)))
  else
   i72_j1 m self72 x3)
noncomputable def i72_j6 (m:Nat) (self72:Dt→List Dt→List Dt→Option (List Dt)) (x0 x1:List Dt) (x2:Dt):Option (List Dt):=
  ((idx x0 0).bind fun v8=>
    ((zB m (Dt.toStr v8)).bind fun r9=>
 (bif r9.2 then
 i72_j7 m self72 x0 r9.1 (decide (r9.1<(List.length (Dt.L x2 3):Int))) x1 x2
 else
 i72_j7 m self72 x0 r9.1 false x1 x2)))
noncomputable def i72_l3 (m:Nat) (self72:Dt→List Dt→List Dt→Option (List Dt)):Nat→List Dt→List Dt→Int→Int→List Dt→Dt→Option (List Dt)
 |0,_,_,_,_,_,_=>none
 |M3+1,x0,x1,x2,x3,x4,x5=>
  (bif (decide (x3<x2)) then
  i72_j4 m self72 (i72_l3 m self72 M3) x0 x1 x2 x3 x4 x5
 else
  i72_j6 m self72 x0 x4 x5)
noncomputable def i72_j2 (m:Nat) (self72:Dt→List Dt→List Dt→Option (List Dt)) (x0 x1:List Dt) (x2 x3:Int) (x4:List Dt) (x5:Dt):Option (List Dt):=
 i72_l3 m self72 (Nat.succ m) x0 x1 x2 x3 x4 x5
noncomputable def i72_j0 (m:Nat) (self72:Dt→List Dt→List Dt→Option (List Dt)) (x0 x1:List Dt) (x2:Dt):Option (List Dt):=
  (bif ((Dt.I x2 0)==5) then
   ((idx x0 0).bind fun v1=>
 ((zI m (Dt.L x2 4) (Dt.toStr v1)).bind fun r2=>
 (bif (decide (0≤r2)) then
 ((idx (Dt.L x2 4) r2).bind fun v3=>
 ((cutL x0 1 (List.length x0:Int)).bind fun v4=>
 ((self72 (Dt.fld v3 1) v4 x1).bind fun r5=>
 i72_j1 m self72 r5)))
 else
 i72_j1 m self72 x1)))
  else
   (bif ((Dt.I x2 0)==6) then
 i72_j2 m self72 x0 (Dt.L x2 3) (List.length (Dt.L x2 3):Int) 0 x1 x2
   else
 i72_j1 m self72 x1))
noncomputable def i72:Nat→Dt→List Dt→List Dt→Option (List Dt)
  |0,_,_,_=>none
  |m+1,a0,a1,a2=>
   (bif ((List.length a1:Int)==0) then
   ((app a2 [a0]).bind fun v0=>
 some v0)
  else
   i72_j0 m (i72 m) a1 a2 a0)
noncomputable def qV_j3 (m:Nat) (self75:Dt→Option (Int×Int×ByteArray×List Dt×List Dt)) (rec1:List Dt→Int→Int→Dt→Dt→Int→Int→ByteArray→List Dt→List Dt→Option (Int×Int×ByteArray×List Dt×List Dt)) (x0:List Dt) (x1 x2:Int) (x3 x4:Dt) (x5 x6:Int) (x7:ByteArray) (x8 x9:List Dt):Option (Int×Int×ByteArray×List Dt×List Dt):=
 rec1 x0 x1 (IntKind.wrap .i64 (x2+1)) x3 x4 x5 x6 x7 x8 x9
noncomputable def qV_j2 (m:Nat) (self75:Dt→Option (Int×Int×ByteArray×List Dt×List Dt)) (rec1:List Dt→Int→Int→Dt→Dt→Int→Int→ByteArray→List Dt→List Dt→Option (Int×Int×ByteArray×List Dt×List Dt)) (x0:List Dt) (x1 x2:Int) (x3 x4:Dt) (x5 x6:Int) (x7:ByteArray) (x8 x9:List Dt):Option (Int×Int×ByteArray×List Dt×List Dt):=
  ((idx x0 x2).bind fun v1=>
    ((self75 v1).bind fun r2=>
 ((inL x8 x2).bind fun v3=>
 ((x8[(Int.toNat x2)]?).bind fun v4=>
 qV_j3 m self75 rec1 x0 x1 x2 x3 x4 x5 x6 x7 (List.set x8 (Int.toNat x2) (Dt.agg [(Dt.int r2.1),(Dt.int r2.2.1),(Dt.str r2.2.2.1),(Dt.lst r2.2.2.2.1),(Dt.lst r2.2.2.2.2)])) x9))))
noncomputable def qV_j8 (m:Nat) (self75:Dt→Option (Int×Int×ByteArray×List Dt×List Dt)) (rec6:List Dt→Int→Int→Dt→Int→Int→ByteArray→List Dt→List Dt→Option (Int×Int×ByteArray×List Dt×List Dt)) (x0:List Dt) (x1 x2:Int) (x3:Dt) (x4 x5:Int) (x6:ByteArray) (x7 x8:List Dt):Option (Int×Int×ByteArray×List Dt×List Dt):=
 rec6 x0 x1 (IntKind.wrap .i64 (x2+1)) x3 x4 x5 x6 x7 x8
noncomputable def qV_j7 (m:Nat) (self75:Dt→Option (Int×Int×ByteArray×List Dt×List Dt)) (rec6:List Dt→Int→Int→Dt→Int→Int→ByteArray→List Dt→List Dt→Option (Int×Int×ByteArray×List Dt×List Dt)) (x0:List Dt) (x1 x2:Int) (x3:Dt) (x4 x5:Int) (x6:ByteArray) (x7 x8:List Dt):Option (Int×Int×ByteArray×List Dt×List Dt):=
  ((idx x0 x2).bind fun v6=>
    ((self75 (Dt.fld v6 1)).bind fun r7=>
 ((inL x8 x2).bind fun v8=>
 ((x8[(Int.toNat x2)]?).bind fun v9=>
 qV_j8 m self75 rec6 x0 x1 x2 x3 x4 x5 x6 x7 (List.set x8 (Int.toNat x2) (Dt.agg [(Dt.str (Dt.S v6 0)),(Dt.agg [(Dt.int r7.1),(Dt.int r7.2.1),(Dt.str r7.2.2.1),(Dt.lst r7.2.2.2.1),(Dt.lst r7.2.2.2.2)])]))))))
noncomputable def qV_j9 (m:Nat) (self75:Dt→Option (Int×Int×ByteArray×List Dt×List Dt)) (x0:Dt) (x1 x2:Int) (x3:ByteArray) (x4 x5:List Dt):Option (Int×Int×ByteArray×List Dt×List Dt):=
 some (x1,x2,x3,x4,x5)
noncomputable def qV_l6 (m:Nat) (self75:Dt→Option (Int×Int×ByteArray×List Dt×List Dt)):Nat→List Dt→Int→Int→Dt→Int→Int→ByteArray→List Dt→List Dt→Option (Int×Int×ByteArray×List Dt×List Dt)
 |0,_,_,_,_,_,_,_,_,_=>none
 |M6+1,x0,x1,x2,x3,x4,x5,x6,x7,x8=>
  (bif (decide (x2<x1)) then
  qV_j7 m self75 (qV_l6 m self75 M6) x0 x1 x2 x3 x4 x5 x6 x7 x8
 else
  qV_j9 m self75 x3 x4 x5 x6 x7 x8)
noncomputable def qV_j5 (m:Nat) (self75:Dt→Option (Int×Int×ByteArray×List Dt×List Dt)) (x0:List Dt) (x1 x2:Int) (x3:Dt) (x4 x5:Int) (x6:ByteArray) (x7 x8:List Dt):Option (Int×Int×ByteArray×List Dt×List Dt):=
 qV_l6 m self75 (Nat.succ m) x0 x1 x2 x3 x4 x5 x6 x7 x8
noncomputable def qV_j4 (m:Nat) (self75:Dt→Option (Int×Int×ByteArray×List Dt×List Dt)) (x0 x1:Dt) (x2 x3:Int) (x4:ByteArray) (x5 x6:List Dt):Option (Int×Int×ByteArray×List Dt×List Dt):=
  (bif (decide (0<(List.length (Dt.L x0 4):Int))) then
   ((mkL (List.length (Dt.L x0 4):Int) (List.length (Dt.L x0 4):Int) kzcda49).bind fun v5=>
 qV_j5 m self75 (Dt.L x0 4) (List.length (Dt.L x0 4):Int) 0 x1 x2 x3 x4 x5 v5)
  else
   qV_j9 m self75 x1 x2 x3 x4 x5 x6)
noncomputable def qV_l1 (m:Nat) (self75:Dt→Option (Int×Int×ByteArray×List Dt×List Dt)):Nat→List Dt→Int→Int→Dt→Dt→Int→Int→ByteArray→List Dt→List Dt→Option (Int×Int×ByteArray×List Dt×List Dt)
 |0,_,_,_,_,_,_,_,_,_,_=>none
 |M1+1,x0,x1,x2,x3,x4,x5,x6,x7,x8,x9=>
  (bif (decide (x2<x1)) then
  qV_j2 m self75 (qV_l1 m self75 M1) x0 x1 x2 x3 x4 x5 x6 x7 x8 x9
 else
  qV_j4 m self75 x3 x4 x5 x6 x7 x8 x9)
noncomputable def qV_j0 (m:Nat) (self75:Dt→Option (Int×Int×ByteArray×List Dt×List Dt)) (x0:List Dt) (x1 x2:Int) (x3 x4:Dt) (x5 x6:Int) (x7:ByteArray) (x8 x9:List Dt):Option (Int×Int×ByteArray×List Dt×List Dt):=
 qV_l1 m self75 (Nat.succ m) x0 x1 x2 x3 x4 x5 x6 x7 x8 x9
noncomputable def qV:Nat→Dt→Option (Int×Int×ByteArray×List Dt×List Dt)
  |0,_=>none
  |m+1,a0=>
   (bif (decide (0<(List.length (Dt.L a0 3):Int))) then
   ((mkL (List.length (Dt.L a0 3):Int) (List.length (Dt.L a0 3):Int) kza2373).bind fun v0=>
 qV_j0 m (qV m) (Dt.L a0 3) (List.length (Dt.L a0 3):Int) 0 a0 kza2373 (Dt.I a0 0) (Dt.I a0 1) (Dt.S a0 2) v0 [])
  else
   qV_j4 m (qV m) a0 kza2373 (Dt.I a0 0) (Dt.I a0 1) (Dt.S a0 2) [] [])
noncomputable def zG_j4 (m:Nat) (rec2:Int→Int→List Dt→Option (List Dt)) (x0 x1:Int) (x2:List Dt):Option (List Dt):=
 rec2 x0 (IntKind.wrap .i64 (x1+1)) x2
noncomputable def zG_j3 (m:Nat) (rec2:Int→Int→List Dt→Option (List Dt)) (x0 x1:Int) (x2:List Dt):Option (List Dt):=
  ((inL x2 x1).bind fun v1=>
    ((x2[(Int.toNat x1)]?).bind fun v2=>
 ((qV m v2).bind fun r3=>
 ((inL x2 x1).bind fun v4=>
 ((x2[(Int.toNat x1)]?).bind fun v5=>
 zG_j4 m rec2 x0 x1 (List.set x2 (Int.toNat x1) (Dt.agg [(Dt.int r3.1),(Dt.int r3.2.1),(Dt.str r3.2.2.1),(Dt.lst r3.2.2.2.1),(Dt.lst r3.2.2.2.2)])))))))
noncomputable def zG_j5 (m:Nat) (x0:List Dt):Option (List Dt):=
 some x0
noncomputable def zG_l2 (m:Nat):Nat→Int→Int→List Dt→Option (List Dt)
 |0,_,_,_=>none
 |M2+1,x0,x1,x2=>
  (bif (decide (x1<x0)) then
  zG_j3 m (zG_l2 m M2) x0 x1 x2
 else
  zG_j5 m x2)
noncomputable def zG_j1 (m:Nat) (x0 x1:Int) (x2:List Dt):Option (List Dt):=
 zG_l2 m (Nat.succ m) x0 x1 x2
noncomputable def zG_j0 (m:Nat) (x0:List Dt):Option (List Dt):=
 zG_j1 m (List.length x0:Int) 0 x0
noncomputable def zG:Nat→Dt→List Dt→Option (List Dt)
  |0,_,_=>none
  |m+1,a0,a1=>
   ((i72 m a0 a1 []).bind fun r0=>
   (bif ((List.length r0:Int)==0) then
 some [kza2373]
   else
 zG_j0 m r0))
noncomputable def zX:Nat→Int→Option Bool
 |0,_=>none
 |m+1,a0=>
  some (a0 !=a0)
noncomputable def zE_j0 (m:Nat):Option Int:=
 some (-1)
noncomputable def zE_j4 (m:Nat):Option Int:=
 some 0
noncomputable def zE_j3 (m:Nat) (x0 x1:Int):Option Int:=
 (bif (decide (x1<x0)) then
  some 1
 else
  zE_j4 m)
noncomputable def zE_j2 (m:Nat) (x0 x1:Int):Option Int:=
 (bif (decide (x0<x1)) then
  some (-1)
 else
  zE_j3 m x0 x1)
noncomputable def zE_j1 (m:Nat) (x0 x1:Int) (x2:Bool):Option Int:=
 (bif x2 then
  some 1
 else
  zE_j2 m x0 x1)
noncomputable def zE:Nat→Int→Int→Option Int
  |0,_,_=>none
  |m+1,a0,a1=>
   ((zX m a0).bind fun r0=>
   ((zX m a1).bind fun r1=>
 (bif r0 then
 (bif r1 then
 some 0
 else
 zE_j0 m)
 else
 zE_j1 m a0 a1 r1)))
noncomputable def qC_j6 (m:Nat) (self58:Dt→Dt→Option Int) (rec4:Int→Int→Dt→Dt→Option Int) (x0 x1:Int) (x2 x3:Dt):Option Int:=
 rec4 x0 (IntKind.wrap .i64 (x1+1)) x2 x3
noncomputable def qC_j5 (m:Nat) (self58:Dt→Dt→Option Int) (rec4:Int→Int→Dt→Dt→Option Int) (x0 x1:Int) (x2 x3:Dt):Option Int:=
  ((idx (Dt.L x2 3) x1).bind fun v3=>
    ((idx (Dt.L x3 3) x1).bind fun v4=>
 ((self58 v3 v4).bind fun r5=>
 (bif (r5 !=0) then
 some r5
 else
 qC_j6 m self58 rec4 x0 x1 x2 x3))))
noncomputable def qC_j7 (m:Nat) (self58:Dt→Dt→Option Int) (x0 x1:Dt):Option Int:=
 ((zE m (List.length (Dt.L x0 3):Int) (List.length (Dt.L x1 3):Int)).bind fun r6=>
   some r6)
noncomputable def qC_l4 (m:Nat) (self58:Dt→Dt→Option Int):Nat→Int→Int→Dt→Dt→Option Int
 |0,_,_,_,_=>none
 |M4+1,x0,x1,x2,x3=>
  (bif (decide (x1<x0)) then
  qC_j5 m self58 (qC_l4 m self58 M4) x0 x1 x2 x3
 else
  qC_j7 m self58 x2 x3)
noncomputable def qC_j3 (m:Nat) (self58:Dt→Dt→Option Int) (x0 x1:Int) (x2 x3:Dt):Option Int:=
 qC_l4 m self58 (Nat.succ m) x0 x1 x2 x3
noncomputable def qC_j12 (m:Nat) (self58:Dt→Dt→Option Int) (rec9:Int→Int→Dt→Dt→Option Int) (x0 x1:Int) (x2 x3:Dt):Option Int:=
 rec9 x0 (IntKind.wrap .i64 (x1+1)) x2 x3
noncomputable def qC_j11 (m:Nat) (self58:Dt→Dt→Option Int) (rec9:Int→Int→Dt→Dt→Option Int) (x0 x1 x2:Int) (x3 x4:Dt):Option Int:=
  ((idx (Dt.L x3 4) x0).bind fun v10=>
    ((idx (Dt.L x4 4) x0).bind fun v11=>
 ((self58 (Dt.fld v10 1) (Dt.fld v11 1)).bind fun r12=>
 (bif (r12 !=0) then
 some r12
 else
 qC_j12 m self58 rec9 x1 x2 x3 x4))))
noncomputable def qC_j10 (m:Nat) (self58:Dt→Dt→Option Int) (rec9:Int→Int→Dt→Dt→Option Int) (x0 x1:Int) (x2 x3:Dt):Option Int:=
  ((idx (Dt.L x2 4) x1).bind fun v7=>
    ((idx (Dt.L x3 4) x1).bind fun v8=>
 ((strings_Compare (Dt.S v7 0) (Dt.S v8 0)).bind fun r9=>
 (bif (r9 !=0) then
 some r9
 else
 qC_j11 m self58 rec9 x1 x0 x1 x2 x3))))
noncomputable def qC_j13 (m:Nat) (self58:Dt→Dt→Option Int) (x0 x1:Dt):Option Int:=
 ((zE m (List.length (Dt.L x0 4):Int) (List.length (Dt.L x1 4):Int)).bind fun r13=>
   some r13)
noncomputable def qC_l9 (m:Nat) (self58:Dt→Dt→Option Int):Nat→Int→Int→Dt→Dt→Option Int
 |0,_,_,_,_=>none
 |M9+1,x0,x1,x2,x3=>
  (bif (decide (x1<x0)) then
  qC_j10 m self58 (qC_l9 m self58 M9) x0 x1 x2 x3
 else
  qC_j13 m self58 x2 x3)
noncomputable def qC_j8 (m:Nat) (self58:Dt→Dt→Option Int) (x0 x1:Int) (x2 x3:Dt):Option Int:=
 qC_l9 m self58 (Nat.succ m) x0 x1 x2 x3
noncomputable def qC_j14 (m:Nat) (self58:Dt→Dt→Option Int):Option Int:=
 some 0
noncomputable def qC_j2 (m:Nat) (self58:Dt→Dt→Option Int) (x0:Int) (x1:Bool) (x2 x3:Dt):Option Int:=
  (bif x1 then
   ((strings_Compare (Dt.S x2 2) (Dt.S x3 2)).bind fun r2=>
 some r2)
  else
   (bif (x0==6) then
 qC_j3 m self58 (bif (decide ((List.length (Dt.L x3 3):Int)<(List.length (Dt.L x2 3):Int))) then(List.length (Dt.L x3 3):Int) else(List.length (Dt.L x2 3):Int)) 0 x2 x3
   else
 (bif (x0==5) then
 qC_j8 m self58 (bif (decide ((List.length (Dt.L x3 4):Int)<(List.length (Dt.L x2 4):Int))) then(List.length (Dt.L x3 4):Int) else(List.length (Dt.L x2 4):Int)) 0 x2 x3
 else
 qC_j14 m self58)))
noncomputable def qC_j1 (m:Nat) (self58:Dt→Dt→Option Int) (x0:Int) (x1:Bool) (x2 x3:Dt):Option Int:=
  (bif x1 then
   ((zE m (Dt.I x2 1) (Dt.I x3 1)).bind fun r1=>
 some r1)
  else
   (bif (x0==4) then
 qC_j2 m self58 x0 (x0==4) x2 x3
   else
 (bif (x0==7) then
 qC_j2 m self58 x0 (x0==7) x2 x3
 else
 qC_j2 m self58 x0 (x0==8) x2 x3)))
noncomputable def qC_j0 (m:Nat) (self58:Dt→Dt→Option Int) (x0 x1:Dt):Option Int:=
  (bif ((Dt.I x0 0)==3) then
   qC_j1 m self58 (Dt.I x0 0) ((Dt.I x0 0)==3) x0 x1
  else
   (bif ((Dt.I x0 0)==9) then
 qC_j1 m self58 (Dt.I x0 0) ((Dt.I x0 0)==9) x0 x1
   else
 qC_j1 m self58 (Dt.I x0 0) ((Dt.I x0 0)==10) x0 x1))
noncomputable def qC:Nat→Dt→Dt→Option Int
  |0,_,_=>none
  |m+1,a0,a1=>
   (bif ((Dt.I a0 0) !=(Dt.I a1 0)) then
   ((zE m (Dt.I a0 0) (Dt.I a1 0)).bind fun r0=>
 some r0)
  else
   qC_j0 m (qC m) a0 a1)
noncomputable def qY_j4 (m:Nat) (rec1:List Dt→List Dt→List Dt→Int→Int→Option Int) (x0 x1 x2:List Dt) (x3 x4:Int):Option Int:=
 rec1 x0 x1 x2 x3 (IntKind.wrap .i64 (x4+1))
noncomputable def qY_j3 (m:Nat) (rec1:List Dt→List Dt→List Dt→Int→Int→Option Int) (x0 x1:List Dt) (x2:Int) (x3:List Dt) (x4 x5:Int):Option Int:=
 (bif (x2 !=0) then
  some x2
 else
  qY_j4 m rec1 x0 x1 x3 x4 x5)
noncomputable def qY_j2 (m:Nat) (rec1:List Dt→List Dt→List Dt→Int→Int→Option Int) (x0 x1 x2:List Dt) (x3 x4:Int):Option Int:=
  ((idx x2 x4).bind fun v0=>
    ((idx x0 x4).bind fun v1=>
 ((idx x1 x4).bind fun v2=>
 ((qC m v1 v2).bind fun r3=>
 (bif (Dt.B v0 1) then
 qY_j3 m rec1 x0 x1 (IntKind.wrap .i64 (0-r3)) x2 x3 x4
 else
 qY_j3 m rec1 x0 x1 r3 x2 x3 x4)))))
noncomputable def qY_j5 (m:Nat):Option Int:=
 some 0
noncomputable def qY_l1 (m:Nat):Nat→List Dt→List Dt→List Dt→Int→Int→Option Int
 |0,_,_,_,_,_=>none
 |M1+1,x0,x1,x2,x3,x4=>
  (bif (decide (x4<x3)) then
  qY_j2 m (qY_l1 m M1) x0 x1 x2 x3 x4
 else
  qY_j5 m)
noncomputable def qY_j0 (m:Nat) (x0 x1 x2:List Dt) (x3 x4:Int):Option Int:=
 qY_l1 m (Nat.succ m) x0 x1 x2 x3 x4
noncomputable def qY:Nat→List Dt→List Dt→List Dt→Option Int
 |0,_,_,_=>none
 |m+1,a0,a1,a2=>
  qY_j0 m a1 a2 a0 (List.length a0:Int) 0
noncomputable def i42:Nat→Dt→Dt→List Dt→Option (Int×List Dt)
 |0,_,_,_=>none
 |m+1,a0,a1,a2=>
  ((qY m a2 (Dt.L a0 1) (Dt.L a1 1)).bind fun r0=>
  some (r0,a2))
noncomputable def i41_j6 (m:Nat) (rec1:Int→Int→Int→List Dt→List Dt→Option (List Dt×List Dt)) (rec4:Int→Int→Int→Int→List Dt→List Dt→Option (List Dt×List Dt)) (x0 x1 x2 x3:Int) (x4 x5:List Dt):Option (List Dt×List Dt):=
 rec4 x0 x1 x2 (IntKind.wrap .i64 (x3-1)) x4 x5
noncomputable def i41_j5 (m:Nat) (rec1:Int→Int→Int→List Dt→List Dt→Option (List Dt×List Dt)) (rec4:Int→Int→Int→Int→List Dt→List Dt→Option (List Dt×List Dt)) (x0 x1 x2 x3:Int) (x4 x5:List Dt):Option (List Dt×List Dt):=
  ((inL x4 (IntKind.wrap .i64 (x3-1))).bind fun v5=>
    ((x4[(Int.toNat (IntKind.wrap .i64 (x3-1)))]?).bind fun v6=>
 ((inL x4 x3).bind fun v7=>
 ((x4[(Int.toNat x3)]?).bind fun v8=>
 ((inL x4 x3).bind fun v9=>
 ((x4[(Int.toNat x3)]?).bind fun v10=>
 ((inL (List.set x4 (Int.toNat x3) v6) (IntKind.wrap .i64 (x3-1))).bind fun v11=>
 (((List.set x4 (Int.toNat x3) v6)[(Int.toNat (IntKind.wrap .i64 (x3-1)))]?).bind fun v12=>
 i41_j6 m rec1 rec4 x0 x1 x2 x3 (List.set (List.set x4 (Int.toNat x3) v6) (Int.toNat (IntKind.wrap .i64 (x3-1))) v8) x5))))))))
noncomputable def i41_j7 (m:Nat) (rec1:Int→Int→Int→List Dt→List Dt→Option (List Dt×List Dt)) (x0 x1 x2:Int) (x3 x4:List Dt):Option (List Dt×List Dt):=
 rec1 x0 x1 (IntKind.wrap .i64 (x2+1)) x3 x4
noncomputable def i41_l4 (m:Nat) (rec1:Int→Int→Int→List Dt→List Dt→Option (List Dt×List Dt)):Nat→Int→Int→Int→Int→List Dt→List Dt→Option (List Dt×List Dt)
  |0,_,_,_,_,_,_=>none
  |M4+1,x0,x1,x2,x3,x4,x5=>
   (bif (decide (x0<x3)) then
   ((inL x4 x3).bind fun v0=>
 ((x4[(Int.toNat x3)]?).bind fun v1=>
 ((inL x4 (IntKind.wrap .i64 (x3-1))).bind fun v2=>
 ((x4[(Int.toNat (IntKind.wrap .i64 (x3-1)))]?).bind fun v3=>
 ((i42 m v1 v3 x5).bind fun r4=>
 (bif (decide (r4.1<0)) then
 i41_j5 m rec1 (i41_l4 m rec1 M4) x0 x1 x2 x3 x4 r4.2
 else
 i41_j7 m rec1 x0 x1 x2 x4 r4.2))))))
  else
   i41_j7 m rec1 x0 x1 x2 x4 x5)
noncomputable def i41_j3 (m:Nat) (rec1:Int→Int→Int→List Dt→List Dt→Option (List Dt×List Dt)) (x0 x1 x2 x3:Int) (x4 x5:List Dt):Option (List Dt×List Dt):=
 i41_l4 m rec1 (Nat.succ m) x0 x1 x2 x3 x4 x5
noncomputable def i41_j2 (m:Nat) (rec1:Int→Int→Int→List Dt→List Dt→Option (List Dt×List Dt)) (x0 x1 x2:Int) (x3 x4:List Dt):Option (List Dt×List Dt):=
 i41_j3 m rec1 x0 x1 x2 x2 x3 x4
noncomputable def i41_l1 (m:Nat):Nat→Int→Int→Int→List Dt→List Dt→Option (List Dt×List Dt)
 |0,_,_,_,_,_=>none
 |M1+1,x0,x1,x2,x3,x4=>
  (bif (decide (x2<x1)) then
  i41_j2 m (i41_l1 m M1) x0 x1 x2 x3 x4
 else
  some (x3,x4))
noncomputable def i41_j0 (m:Nat) (x0 x1 x2:Int) (x3 x4:List Dt):Option (List Dt×List Dt):=
 i41_l1 m (Nat.succ m) x0 x1 x2 x3 x4
noncomputable def i41:Nat→Int→Int→List Dt→List Dt→Option (List Dt×List Dt)
 |0,_,_,_,_=>none
 |m+1,a0,a1,a2,a3=>
  i41_j0 m a0 a1 (IntKind.wrap .i64 (a0+1)) a2 a3
noncomputable def i44_j2 (m:Nat) (self44:Int→Int→Int→List Dt→List Dt→Option (List Dt×List Dt)) (rec1:Int→Int→Int→List Dt→List Dt→Option (List Dt×List Dt)) (x0 x1 x2:Int) (x3 x4:List Dt):Option (List Dt×List Dt):=
  ((inL x3 (IntKind.wrap .i64 (shrI IntKind.u64 (IntKind.wrap IntKind.u64 (IntKind.wrap .i64 (x1+x2))) 1))).bind fun v0=>
    ((x3[(Int.toNat (IntKind.wrap .i64 (shrI IntKind.u64 (IntKind.wrap IntKind.u64 (IntKind.wrap .i64 (x1+x2))) 1)))]?).bind fun v1=>
 ((inL x3 x0).bind fun v2=>
 ((x3[(Int.toNat x0)]?).bind fun v3=>
 ((i42 m v1 v3 x4).bind fun r4=>
 (bif (decide (r4.1<0)) then
 rec1 x0 (IntKind.wrap .i64 ((IntKind.wrap .i64 (shrI IntKind.u64 (IntKind.wrap IntKind.u64 (IntKind.wrap .i64 (x1+x2))) 1))+1)) x2 x3 r4.2
 else
 rec1 x0 x1 (IntKind.wrap .i64 (shrI IntKind.u64 (IntKind.wrap IntKind.u64 (IntKind.wrap .i64 (x1+x2))) 1)) x3 r4.2))))))
noncomputable def i44_j7 (m:Nat) (self44:Int→Int→Int→List Dt→List Dt→Option (List Dt×List Dt)) (rec5:Int→Int→List Dt→List Dt→Option (List Dt×List Dt)) (x0 x1:Int) (x2 x3:List Dt):Option (List Dt×List Dt):=
 rec5 x0 (IntKind.wrap .i64 (x1+1)) x2 x3
noncomputable def i44_j6 (m:Nat) (self44:Int→Int→Int→List Dt→List Dt→Option (List Dt×List Dt)) (rec5:Int→Int→List Dt→List Dt→Option (List Dt×List Dt)) (x0 x1:Int) (x2 x3:List Dt):Option (List Dt×List Dt):=
  ((inL x2 (IntKind.wrap .i64 (x1+1))).bind fun v5=>
    ((x2[(Int.toNat (IntKind.wrap .i64 (x1+1)))]?).bind fun v6=>
 ((inL x2 x1).bind fun v7=>
 ((x2[(Int.toNat x1)]?).bind fun v8=>
 ((inL x2 x1).bind fun v9=>
 ((x2[(Int.toNat x1)]?).bind fun v10=>
 ((inL (List.set x2 (Int.toNat x1) v6) (IntKind.wrap .i64 (x1+1))).bind fun v11=>
 (((List.set x2 (Int.toNat x1) v6)[(Int.toNat (IntKind.wrap .i64 (x1+1)))]?).bind fun v12=>
 i44_j7 m self44 rec5 x0 x1 (List.set (List.set x2 (Int.toNat x1) v6) (Int.toNat (IntKind.wrap .i64 (x1+1))) v8) x3))))))))
noncomputable def i44_l5 (m:Nat) (self44:Int→Int→Int→List Dt→List Dt→Option (List Dt×List Dt)):Nat→Int→Int→List Dt→List Dt→Option (List Dt×List Dt)
 |0,_,_,_,_=>none
 |M5+1,x0,x1,x2,x3=>
  (bif (decide (x1<(IntKind.wrap .i64 (x0-1)))) then
  i44_j6 m self44 (i44_l5 m self44 M5) x0 x1 x2 x3
 else
  some (x2,x3))
noncomputable def i44_j4 (m:Nat) (self44:Int→Int→Int→List Dt→List Dt→Option (List Dt×List Dt)) (x0 x1:Int) (x2 x3:List Dt):Option (List Dt×List Dt):=
 i44_l5 m self44 (Nat.succ m) x0 x1 x2 x3
noncomputable def i44_j3 (m:Nat) (self44:Int→Int→Int→List Dt→List Dt→Option (List Dt×List Dt)) (x0 x1:Int) (x2 x3:List Dt):Option (List Dt×List Dt):=
 i44_j4 m self44 x1 x0 x2 x3
noncomputable def i44_l1 (m:Nat) (self44:Int→Int→Int→List Dt→List Dt→Option (List Dt×List Dt)):Nat→Int→Int→Int→List Dt→List Dt→Option (List Dt×List Dt)
 |0,_,_,_,_,_=>none
 |M1+1,x0,x1,x2,x3,x4=>
  (bif (decide (x1<x2)) then
  i44_j2 m self44 (i44_l1 m self44 M1) x0 x1 x2 x3 x4
 else
  i44_j3 m self44 x0 x1 x3 x4)
noncomputable def i44_j0 (m:Nat) (self44:Int→Int→Int→List Dt→List Dt→Option (List Dt×List Dt)) (x0 x1 x2:Int) (x3 x4:List Dt):Option (List Dt×List Dt):=
 i44_l1 m self44 (Nat.succ m) x0 x1 x2 x3 x4
noncomputable def i44_j11 (m:Nat) (self44:Int→Int→Int→List Dt→List Dt→Option (List Dt×List Dt)) (rec10:Int→Int→Int→List Dt→List Dt→Option (List Dt×List Dt)) (x0 x1 x2:Int) (x3 x4:List Dt):Option (List Dt×List Dt):=
  ((inL x3 x0).bind fun v13=>
    ((x3[(Int.toNat x0)]?).bind fun v14=>
 ((inL x3 (IntKind.wrap .i64 (shrI IntKind.u64 (IntKind.wrap IntKind.u64 (IntKind.wrap .i64 (x1+x2))) 1))).bind fun v15=>
 ((x3[(Int.toNat (IntKind.wrap .i64 (shrI IntKind.u64 (IntKind.wrap IntKind.u64 (IntKind.wrap .i64 (x1+x2))) 1)))]?).bind fun v16=>
 ((i42 m v14 v16 x4).bind fun r17=>
 (bif (Bool.not (decide (r17.1<0))) then
 rec10 x0 (IntKind.wrap .i64 ((IntKind.wrap .i64 (shrI IntKind.u64 (IntKind.wrap IntKind.u64 (IntKind.wrap .i64 (x1+x2))) 1))+1)) x2 x3 r17.2
 else
 rec10 x0 x1 (IntKind.wrap .i64 (shrI IntKind.u64 (IntKind.wrap IntKind.u64 (IntKind.wrap .i64 (x1+x2))) 1)) x3 r17.2))))))
noncomputable def i44_j16 (m:Nat) (self44:Int→Int→Int→List Dt→List Dt→Option (List Dt×List Dt)) (rec14:Int→Int→List Dt→List Dt→Option (List Dt×List Dt)) (x0 x1:Int) (x2 x3:List Dt):Option (List Dt×List Dt):=
 rec14 x0 (IntKind.wrap .i64 (x1-1)) x2 x3
noncomputable def i44_j15 (m:Nat) (self44:Int→Int→Int→List Dt→List Dt→Option (List Dt×List Dt)) (rec14:Int→Int→List Dt→List Dt→Option (List Dt×List Dt)) (x0 x1:Int) (x2 x3:List Dt):Option (List Dt×List Dt):=
  ((inL x2 (IntKind.wrap .i64 (x1-1))).bind fun v18=>
    ((x2[(Int.toNat (IntKind.wrap .i64 (x1-1)))]?).bind fun v19=>
 ((inL x2 x1).bind fun v20=>
 ((x2[(Int.toNat x1)]?).bind fun v21=>
 ((inL x2 x1).bind fun v22=>
 ((x2[(Int.toNat x1)]?).bind fun v23=>
 ((inL (List.set x2 (Int.toNat x1) v19) (IntKind.wrap .i64 (x1-1))).bind fun v24=>
 (((List.set x2 (Int.toNat x1) v19)[(Int.toNat (IntKind.wrap .i64 (x1-1)))]?).bind fun v25=>
 i44_j16 m self44 rec14 x0 x1 (List.set (List.set x2 (Int.toNat x1) v19) (Int.toNat (IntKind.wrap .i64 (x1-1))) v21) x3))))))))
noncomputable def i44_l14 (m:Nat) (self44:Int→Int→Int→List Dt→List Dt→Option (List Dt×List Dt)):Nat→Int→Int→List Dt→List Dt→Option (List Dt×List Dt)
 |0,_,_,_,_=>none
 |M14+1,x0,x1,x2,x3=>
  (bif (decide (x0<x1)) then
  i44_j15 m self44 (i44_l14 m self44 M14) x0 x1 x2 x3
 else
  some (x2,x3))
noncomputable def i44_j13 (m:Nat) (self44:Int→Int→Int→List Dt→List Dt→Option (List Dt×List Dt)) (x0 x1:Int) (x2 x3:List Dt):Option (List Dt×List Dt):=
 i44_l14 m self44 (Nat.succ m) x0 x1 x2 x3
noncomputable def i44_j12 (m:Nat) (self44:Int→Int→Int→List Dt→List Dt→Option (List Dt×List Dt)) (x0 x1:Int) (x2 x3:List Dt):Option (List Dt×List Dt):=
 i44_j13 m self44 x1 x0 x2 x3
noncomputable def i44_l10 (m:Nat) (self44:Int→Int→Int→List Dt→List Dt→Option (List Dt×List Dt)):Nat→Int→Int→Int→List Dt→List Dt→Option (List Dt×List Dt)
 |0,_,_,_,_,_=>none
 |M10+1,x0,x1,x2,x3,x4=>
  (bif (decide (x1<x2)) then
  i44_j11 m self44 (i44_l10 m self44 M10) x0 x1 x2 x3 x4
 else
  i44_j12 m self44 x0 x1 x3 x4)
noncomputable def i44_j9 (m:Nat) (self44:Int→Int→Int→List Dt→List Dt→Option (List Dt×List Dt)) (x0 x1 x2:Int) (x3 x4:List Dt):Option (List Dt×List Dt):=
 i44_l10 m self44 (Nat.succ m) x0 x1 x2 x3 x4
noncomputable def i44_j21 (m:Nat) (self44:Int→Int→Int→List Dt→List Dt→Option (List Dt×List Dt)) (rec20:Int→Int→Int→Int→Int→Int→Int→Int→List Dt→List Dt→Option (List Dt×List Dt)) (x0 x1 x2 x3 x4 x5 x6 x7:Int) (x8 x9:List Dt):Option (List Dt×List Dt):=
  ((inL x8 (IntKind.wrap .i64 (x7-(IntKind.wrap .i64 (shrI IntKind.u64 (IntKind.wrap IntKind.u64 (IntKind.wrap .i64 (x5+x6))) 1))))).bind fun v26=>
    ((x8[(Int.toNat (IntKind.wrap .i64 (x7-(IntKind.wrap .i64 (shrI IntKind.u64 (IntKind.wrap IntKind.u64 (IntKind.wrap .i64 (x5+x6))) 1)))))]?).bind fun v27=>
 ((inL x8 (IntKind.wrap .i64 (shrI IntKind.u64 (IntKind.wrap IntKind.u64 (IntKind.wrap .i64 (x5+x6))) 1))).bind fun v28=>
 ((x8[(Int.toNat (IntKind.wrap .i64 (shrI IntKind.u64 (IntKind.wrap IntKind.u64 (IntKind.wrap .i64 (x5+x6))) 1)))]?).bind fun v29=>
 ((i42 m v27 v29 x9).bind fun r30=>
 (bif (Bool.not (decide (r30.1<0))) then
 rec20 x0 x1 x2 x3 x4 (IntKind.wrap .i64 ((IntKind.wrap .i64 (shrI IntKind.u64 (IntKind.wrap IntKind.u64 (IntKind.wrap .i64 (x5+x6))) 1))+1)) x6 x7 x8 r30.2
 else
 rec20 x0 x1 x2 x3 x4 x5 (IntKind.wrap .i64 (shrI IntKind.u64 (IntKind.wrap IntKind.u64 (IntKind.wrap .i64 (x5+x6))) 1)) x7 x8 r30.2))))))
noncomputable def i44_j27 (m:Nat) (self44:Int→Int→Int→List Dt→List Dt→Option (List Dt×List Dt)) (x0 x1 x2:Int) (x3:Bool) (x4 x5:List Dt):Option (List Dt×List Dt):=
  (bif x3 then
   ((self44 x1 x2 x0 x4 x5).bind fun r33=>
 some (r33.1,r33.2))
  else
   some (x4,x5))
noncomputable def i44_j26 (m:Nat) (self44:Int→Int→Int→List Dt→List Dt→Option (List Dt×List Dt)) (x0 x1 x2:Int) (x3 x4:List Dt):Option (List Dt×List Dt):=
 (bif (decide (x1<x2)) then
  i44_j27 m self44 x0 x1 x2 (decide (x2<x0)) x3 x4
 else
  i44_j27 m self44 x0 x1 x2 false x3 x4)
noncomputable def i44_j25 (m:Nat) (self44:Int→Int→Int→List Dt→List Dt→Option (List Dt×List Dt)) (x0 x1 x2 x3 x4:Int) (x5:Bool) (x6 x7:List Dt):Option (List Dt×List Dt):=
  (bif x5 then
   ((self44 x0 x3 x2 x6 x7).bind fun r32=>
 i44_j26 m self44 x1 x2 x4 r32.1 r32.2)
  else
   i44_j26 m self44 x1 x2 x4 x6 x7)
noncomputable def i44_j24 (m:Nat) (self44:Int→Int→Int→List Dt→List Dt→Option (List Dt×List Dt)) (x0 x1 x2 x3 x4:Int) (x5 x6:List Dt):Option (List Dt×List Dt):=
 (bif (decide (x0<x3)) then
  i44_j25 m self44 x0 x1 x2 x3 x4 (decide (x3<x2)) x5 x6
 else
  i44_j25 m self44 x0 x1 x2 x3 x4 false x5 x6)
noncomputable def i44_j23 (m:Nat) (self44:Int→Int→Int→List Dt→List Dt→Option (List Dt×List Dt)) (x0 x1 x2 x3 x4 x5:Int) (x6:Bool) (x7 x8:List Dt):Option (List Dt×List Dt):=
  (bif x6 then
   ((i45 m x4 x1 x5 x7 x8).bind fun r31=>
 i44_j24 m self44 x0 x2 x3 x4 x5 r31.1 r31.2)
  else
   i44_j24 m self44 x0 x2 x3 x4 x5 x7 x8)
noncomputable def i44_j22 (m:Nat) (self44:Int→Int→Int→List Dt→List Dt→Option (List Dt×List Dt)) (x0 x1 x2 x3 x4 x5:Int) (x6 x7:List Dt):Option (List Dt×List Dt):=
 (bif (decide (x5<x1)) then
  i44_j23 m self44 x0 x1 x2 x3 x5 (IntKind.wrap .i64 (x4-x5)) (decide (x1<(IntKind.wrap .i64 (x4-x5)))) x6 x7
 else
  i44_j23 m self44 x0 x1 x2 x3 x5 (IntKind.wrap .i64 (x4-x5)) false x6 x7)
noncomputable def i44_l20 (m:Nat) (self44:Int→Int→Int→List Dt→List Dt→Option (List Dt×List Dt)):Nat→Int→Int→Int→Int→Int→Int→Int→Int→List Dt→List Dt→Option (List Dt×List Dt)
 |0,_,_,_,_,_,_,_,_,_,_=>none
 |M20+1,x0,x1,x2,x3,x4,x5,x6,x7,x8,x9=>
  (bif (decide (x5<x6)) then
  i44_j21 m self44 (i44_l20 m self44 M20) x0 x1 x2 x3 x4 x5 x6 x7 x8 x9
 else
  i44_j22 m self44 x0 x1 x2 x3 x4 x5 x8 x9)
noncomputable def i44_j19 (m:Nat) (self44:Int→Int→Int→List Dt→List Dt→Option (List Dt×List Dt)) (x0 x1 x2 x3 x4 x5 x6 x7:Int) (x8 x9:List Dt):Option (List Dt×List Dt):=
 i44_l20 m self44 (Nat.succ m) x0 x1 x2 x3 x4 x5 x6 x7 x8 x9
noncomputable def i44_j18 (m:Nat) (self44:Int→Int→Int→List Dt→List Dt→Option (List Dt×List Dt)) (x0 x1 x2 x3 x4 x5 x6:Int) (x7 x8:List Dt):Option (List Dt×List Dt):=
 i44_j19 m self44 x0 x1 x2 x3 x4 x5 x6 (IntKind.wrap .i64 (x4-1)) x7 x8
noncomputable def i44_j17 (m:Nat) (self44:Int→Int→Int→List Dt→List Dt→Option (List Dt×List Dt)) (x0 x1 x2:Int) (x3 x4:List Dt):Option (List Dt×List Dt):=
 (bif (decide ((IntKind.wrap .i64 (shrI IntKind.u64 (IntKind.wrap IntKind.u64 (IntKind.wrap .i64 (x0+x2))) 1))<x1)) then
  i44_j18 m self44 x0 x1 x2 (IntKind.wrap .i64 (shrI IntKind.u64 (IntKind.wrap IntKind.u64 (IntKind.wrap .i64 (x0+x2))) 1)) (IntKind.wrap .i64 ((IntKind.wrap .i64 (shrI IntKind.u64 (IntKind.wrap IntKind.u64 (IntKind.wrap .i64 (x0+x2))) 1))+x1)) (IntKind.wrap .i64 ((IntKind.wrap .i64 ((IntKind.wrap .i64 (shrI IntKind.u64 (IntKind.wrap IntKind.u64 (IntKind.wrap .i64 (x0+x2))) 1))+x1))-x2)) (IntKind.wrap .i64 (shrI IntKind.u64 (IntKind.wrap IntKind.u64 (IntKind.wrap .i64 (x0+x2))) 1)) x3 x4
 else
  i44_j18 m self44 x0 x1 x2 (IntKind.wrap .i64 (shrI IntKind.u64 (IntKind.wrap IntKind.u64 (IntKind.wrap .i64 (x0+x2))) 1)) (IntKind.wrap .i64 ((IntKind.wrap .i64 (shrI IntKind.u64 (IntKind.wrap IntKind.u64 (IntKind.wrap .i64 (x0+x2))) 1))+x1)) x0 x1 x3 x4)
noncomputable def i44_j8 (m:Nat) (self44:Int→Int→Int→List Dt→List Dt→Option (List Dt×List Dt)) (x0 x1 x2:Int) (x3 x4:List Dt):Option (List Dt×List Dt):=
 (bif ((IntKind.wrap .i64 (x2-x1))==1) then
  i44_j9 m self44 x1 x0 x1 x3 x4
 else
  i44_j17 m self44 x0 x1 x2 x3 x4)
noncomputable def i44:Nat→Int→Int→Int→List Dt→List Dt→Option (List Dt×List Dt)
 |0,_,_,_,_,_=>none
 |m+1,a0,a1,a2,a3,a4=>
  (bif ((IntKind.wrap .i64 (a1-a0))==1) then
  i44_j0 m (i44 m) a0 a1 a2 a3 a4
 else
  i44_j8 m (i44 m) a0 a1 a2 a3 a4)
noncomputable def i40_j2 (m:Nat) (rec1:Int→Int→Int→Int→List Dt→List Dt→Option (List Dt×List Dt)) (x0 x1 x2 x3:Int) (x4 x5:List Dt):Option (List Dt×List Dt):=
 ((i41 m x2 x3 x4 x5).bind fun r0=>
   rec1 x0 x1 x3 (IntKind.wrap .i64 (x3+x1)) r0.1 r0.2)
noncomputable def i40_j9 (m:Nat) (rec5:Int→Int→List Dt→List Dt→Option (List Dt×List Dt)) (rec8:Int→Int→Int→Int→List Dt→List Dt→Option (List Dt×List Dt)) (x0 x1 x2 x3:Int) (x4 x5:List Dt):Option (List Dt×List Dt):=
 ((i44 m x2 (IntKind.wrap .i64 (x2+x1)) x3 x4 x5).bind fun r2=>
   rec8 x0 x1 x3 (IntKind.wrap .i64 (x3+(IntKind.wrap .i64 (2*x1)))) r2.1 r2.2)
noncomputable def i40_j11 (m:Nat) (rec5:Int→Int→List Dt→List Dt→Option (List Dt×List Dt)) (x0 x1:Int) (x2 x3:List Dt):Option (List Dt×List Dt):=
 rec5 x0 (IntKind.wrap .i64 (x1*2)) x2 x3
noncomputable def i40_j10 (m:Nat) (rec5:Int→Int→List Dt→List Dt→Option (List Dt×List Dt)) (x0 x1 x2:Int) (x3 x4:List Dt):Option (List Dt×List Dt):=
  (bif (decide ((IntKind.wrap .i64 (x2+x1))<x0)) then
   ((i44 m x2 (IntKind.wrap .i64 (x2+x1)) x0 x3 x4).bind fun r3=>
 i40_j11 m rec5 x0 x1 r3.1 r3.2)
  else
   i40_j11 m rec5 x0 x1 x3 x4)
noncomputable def i40_l8 (m:Nat) (rec5:Int→Int→List Dt→List Dt→Option (List Dt×List Dt)):Nat→Int→Int→Int→Int→List Dt→List Dt→Option (List Dt×List Dt)
 |0,_,_,_,_,_,_=>none
 |M8+1,x0,x1,x2,x3,x4,x5=>
  (bif (decide (x3≤x0)) then
  i40_j9 m rec5 (i40_l8 m rec5 M8) x0 x1 x2 x3 x4 x5
 else
  i40_j10 m rec5 x0 x1 x2 x4 x5)
noncomputable def i40_j7 (m:Nat) (rec5:Int→Int→List Dt→List Dt→Option (List Dt×List Dt)) (x0 x1 x2 x3:Int) (x4 x5:List Dt):Option (List Dt×List Dt):=
 i40_l8 m rec5 (Nat.succ m) x0 x1 x2 x3 x4 x5
noncomputable def i40_j6 (m:Nat) (rec5:Int→Int→List Dt→List Dt→Option (List Dt×List Dt)) (x0 x1:Int) (x2 x3:List Dt):Option (List Dt×List Dt):=
 i40_j7 m rec5 x0 x1 0 (IntKind.wrap .i64 (2*x1)) x2 x3
noncomputable def i40_l5 (m:Nat):Nat→Int→Int→List Dt→List Dt→Option (List Dt×List Dt)
 |0,_,_,_,_=>none
 |M5+1,x0,x1,x2,x3=>
  (bif (decide (x1<x0)) then
  i40_j6 m (i40_l5 m M5) x0 x1 x2 x3
 else
  some (x2,x3))
noncomputable def i40_j4 (m:Nat) (x0 x1:Int) (x2 x3:List Dt):Option (List Dt×List Dt):=
 i40_l5 m (Nat.succ m) x0 x1 x2 x3
noncomputable def i40_j3 (m:Nat) (x0 x1 x2:Int) (x3 x4:List Dt):Option (List Dt×List Dt):=
 ((i41 m x2 x0 x3 x4).bind fun r1=>
   i40_j4 m x0 x1 r1.1 r1.2)
noncomputable def i40_l1 (m:Nat):Nat→Int→Int→Int→Int→List Dt→List Dt→Option (List Dt×List Dt)
 |0,_,_,_,_,_,_=>none
 |M1+1,x0,x1,x2,x3,x4,x5=>
  (bif (decide (x3≤x0)) then
  i40_j2 m (i40_l1 m M1) x0 x1 x2 x3 x4 x5
 else
  i40_j3 m x0 x1 x2 x4 x5)
noncomputable def i40_j0 (m:Nat) (x0 x1 x2 x3:Int) (x4 x5:List Dt):Option (List Dt×List Dt):=
 i40_l1 m (Nat.succ m) x0 x1 x2 x3 x4 x5
noncomputable def i40:Nat→Int→List Dt→List Dt→Option (List Dt×List Dt)
 |0,_,_,_=>none
 |m+1,a0,a1,a2=>
  i40_j0 m a0 20 0 20 a1 a2
noncomputable def i39:Nat→List Dt→List Dt→Option (List Dt×List Dt)
 |0,_,_=>none
 |m+1,a0,a1=>
  ((i40 m (List.length a0:Int) a0 a1).bind fun r0=>
  some (r0.1,r0.2))
noncomputable def qX_j3 (m:Nat) (rec1:List Dt→Int→Int→Dt→Dt→List Dt→Option Dt) (x0:List Dt) (x1 x2:Int) (x3 x4:Dt) (x5:List Dt):Option Dt:=
 rec1 x0 x1 (IntKind.wrap .i64 (x2+1)) x3 x4 x5
noncomputable def qX_j4 (m:Nat) (rec1:List Dt→Int→Int→Dt→Dt→List Dt→Option Dt) (x0:List Dt) (x1 x2:Int) (x3:Bool) (x4 x5:Dt) (x6:List Dt) (x7:Dt):Option Dt:=
  (bif x3 then
   ((app x6 (Dt.L x7 3)).bind fun v3=>
 qX_j3 m rec1 x0 x1 x2 x4 x5 v3)
  else
   ((app x6 [x7]).bind fun v4=>
 qX_j3 m rec1 x0 x1 x2 x4 x5 v4))
noncomputable def qX_j2 (m:Nat) (rec1:List Dt→Int→Int→Dt→Dt→List Dt→Option Dt) (x0:List Dt) (x1 x2:Int) (x3 x4:Dt) (x5:List Dt):Option Dt:=
  ((idx x0 x2).bind fun v1=>
    (bif ((Dt.I v1 0)==0) then
 ((app x5 [kz3c25e]).bind fun v2=>
 qX_j3 m rec1 x0 x1 x2 x3 x4 v2)
    else
 (bif ((Dt.I v1 0)==6) then
 qX_j4 m rec1 x0 x1 x2 (decide (0<(List.length (Dt.L v1 3):Int))) x3 x4 x5 v1
 else
 qX_j4 m rec1 x0 x1 x2 false x3 x4 x5 v1)))
noncomputable def qX_j10 (m:Nat) (rec7:List Dt→Int→Int→Dt→Dt→Dt→Option Dt) (x0:List Dt) (x1 x2:Int) (x3 x4 x5:Dt):Option Dt:=
 rec7 x0 x1 (IntKind.wrap .i64 (x2+1)) x3 x4 x5
noncomputable def qX_j9 (m:Nat) (rec7:List Dt→Int→Int→Dt→Dt→Dt→Option Dt) (x0:List Dt) (x1 x2:Int) (x3:Bool) (x4 x5 x6 x7:Dt):Option Dt:=
 (bif x3 then
  qX_j10 m rec7 x0 x1 x2 x4 x5 x7
 else
  qX_j10 m rec7 x0 x1 x2 x4 x5 x6)
noncomputable def qX_j8 (m:Nat) (rec7:List Dt→Int→Int→Dt→Dt→Dt→Option Dt) (x0:List Dt) (x1 x2:Int) (x3 x4 x5:Dt):Option Dt:=
  ((idx x0 x2).bind fun v8=>
    ((qC m v8 x5).bind fun r9=>
 (bif (decide (r9<0)) then
 (bif (Bool.not (Dt.B x3 1)) then
 qX_j9 m rec7 x0 x1 x2 true x3 x4 x5 v8
 else
 (bif (decide (0<r9)) then
 qX_j9 m rec7 x0 x1 x2 (Dt.B x3 1) x3 x4 x5 v8
 else
 qX_j9 m rec7 x0 x1 x2 false x3 x4 x5 v8))
 else
 (bif (decide (0<r9)) then
 qX_j9 m rec7 x0 x1 x2 (Dt.B x3 1) x3 x4 x5 v8
 else
 qX_j9 m rec7 x0 x1 x2 false x3 x4 x5 v8))))
noncomputable def qX_j11 (m:Nat) (x0 x1:Dt):Option Dt:=
 some x1
noncomputable def qX_l7 (m:Nat):Nat→List Dt→Int→Int→Dt→Dt→Dt→Option Dt
 |0,_,_,_,_,_,_=>none
 |M7+1,x0,x1,x2,x3,x4,x5=>
  (bif (decide (x2<x1)) then
  qX_j8 m (qX_l7 m M7) x0 x1 x2 x3 x4 x5
 else
  qX_j11 m x4 x5)
noncomputable def qX_j6 (m:Nat) (x0:List Dt) (x1 x2:Int) (x3 x4 x5:Dt):Option Dt:=
 qX_l7 m (Nat.succ m) x0 x1 x2 x3 x4 x5
noncomputable def qX_j5 (m:Nat) (x0 x1:Dt) (x2:List Dt):Option Dt:=
  ((inL x2 0).bind fun v5=>
    ((x2[0]?).bind fun v6=>
 ((cutL x2 1 (List.length x2:Int)).bind fun v7=>
 qX_j6 m v7 (List.length v7:Int) 0 x0 x1 v6)))
noncomputable def qX_l1 (m:Nat):Nat→List Dt→Int→Int→Dt→Dt→List Dt→Option Dt
 |0,_,_,_,_,_,_=>none
 |M1+1,x0,x1,x2,x3,x4,x5=>
  (bif (decide (x2<x1)) then
  qX_j2 m (qX_l1 m M1) x0 x1 x2 x3 x4 x5
 else
  qX_j5 m x3 x4 x5)
noncomputable def qX_j0 (m:Nat) (x0:List Dt) (x1 x2:Int) (x3 x4:Dt) (x5:List Dt):Option Dt:=
 qX_l1 m (Nat.succ m) x0 x1 x2 x3 x4 x5
noncomputable def qX:Nat→Dt→Dt→Option Dt
 |0,_,_=>none
 |m+1,a0,a1=>
  ((zG m a1 (Dt.L a0 0)).bind fun r0=>
  qX_j0 m r0 (List.length r0:Int) 0 a0 kza2373 [])
noncomputable def zH_j3 (m:Nat) (rec1:List Dt→Int→Int→Dt→List Dt→Option (List Dt)) (x0:List Dt) (x1 x2:Int) (x3:Dt) (x4:List Dt):Option (List Dt):=
 rec1 x0 x1 (IntKind.wrap .i64 (x2+1)) x3 x4
noncomputable def zH_j2 (m:Nat) (rec1:List Dt→Int→Int→Dt→List Dt→Option (List Dt)) (x0:List Dt) (x1 x2:Int) (x3:Dt) (x4:List Dt):Option (List Dt):=
  ((idx x0 x2).bind fun v0=>
    ((qX m v0 x3).bind fun r1=>
 ((app x4 [r1]).bind fun v2=>
 zH_j3 m rec1 x0 x1 x2 x3 v2)))
noncomputable def zH_j4 (m:Nat) (x0:List Dt):Option (List Dt):=
 some x0
noncomputable def zH_l1 (m:Nat):Nat→List Dt→Int→Int→Dt→List Dt→Option (List Dt)
 |0,_,_,_,_,_=>none
 |M1+1,x0,x1,x2,x3,x4=>
  (bif (decide (x2<x1)) then
  zH_j2 m (zH_l1 m M1) x0 x1 x2 x3 x4
 else
  zH_j4 m x4)
noncomputable def zH_j0 (m:Nat) (x0:List Dt) (x1 x2:Int) (x3:Dt) (x4:List Dt):Option (List Dt):=
 zH_l1 m (Nat.succ m) x0 x1 x2 x3 x4
noncomputable def zH:Nat→List Dt→Dt→Option (List Dt)
 |0,_,_=>none
 |m+1,a0,a1=>
  zH_j0 m a0 (List.length a0:Int) 0 a1 []
noncomputable def qT_j3 (m:Nat) (rec1:Int→List Dt→Int→Int→List Dt→List Dt→Option (List Dt)) (x0:Int) (x1:List Dt) (x2 x3:Int) (x4 x5:List Dt):Option (List Dt):=
 rec1 x0 x1 x2 (IntKind.wrap .i64 (x3+1)) x4 x5
noncomputable def qT_j2 (m:Nat) (rec1:Int→List Dt→Int→Int→List Dt→List Dt→Option (List Dt)) (x0:Int) (x1:List Dt) (x2 x3:Int) (x4 x5:List Dt):Option (List Dt):=
  ((idx x1 x3).bind fun v1=>
    ((zH m x4 v1).bind fun r2=>
 ((inL x5 x3).bind fun v3=>
 ((x5[(Int.toNat x3)]?).bind fun v4=>
 qT_j3 m rec1 x0 x1 x2 x3 x4 (List.set x5 (Int.toNat x3) (Dt.agg [v1,(Dt.lst r2)]))))))
noncomputable def qT_j8 (m:Nat) (rec6:List Dt→Int→Int→List Dt→Option (List Dt)) (x0:List Dt) (x1 x2:Int) (x3:List Dt):Option (List Dt):=
 rec6 x0 x1 (IntKind.wrap .i64 (x2+1)) x3
noncomputable def qT_j7 (m:Nat) (rec6:List Dt→Int→Int→List Dt→Option (List Dt)) (x0:List Dt) (x1 x2:Int) (x3:List Dt):Option (List Dt):=
  ((idx x0 x2).bind fun v7=>
    ((qG m (Dt.fld v7 0)).bind fun r8=>
 ((app x3 [r8]).bind fun v9=>
 qT_j8 m rec6 x0 x1 x2 v9)))
noncomputable def qT_j9 (m:Nat) (x0:List Dt):Option (List Dt):=
 some x0
noncomputable def qT_l6 (m:Nat):Nat→List Dt→Int→Int→List Dt→Option (List Dt)
 |0,_,_,_,_=>none
 |M6+1,x0,x1,x2,x3=>
  (bif (decide (x2<x1)) then
  qT_j7 m (qT_l6 m M6) x0 x1 x2 x3
 else
  qT_j9 m x3)
noncomputable def qT_j5 (m:Nat) (x0:List Dt) (x1 x2:Int) (x3:List Dt):Option (List Dt):=
 qT_l6 m (Nat.succ m) x0 x1 x2 x3
noncomputable def qT_j4 (m:Nat) (x0:Int) (x1 x2:List Dt):Option (List Dt):=
  ((i39 m x2 x1).bind fun r5=>
    ((cutL r5.1 0 x0).bind fun v6=>
 qT_j5 m v6 (List.length v6:Int) 0 []))
noncomputable def qT_l1 (m:Nat):Nat→Int→List Dt→Int→Int→List Dt→List Dt→Option (List Dt)
 |0,_,_,_,_,_,_=>none
 |M1+1,x0,x1,x2,x3,x4,x5=>
  (bif (decide (x3<x2)) then
  qT_j2 m (qT_l1 m M1) x0 x1 x2 x3 x4 x5
 else
  qT_j4 m x0 x4 x5)
noncomputable def qT_j0 (m:Nat) (x0:Int) (x1:List Dt) (x2 x3:Int) (x4 x5:List Dt):Option (List Dt):=
 qT_l1 m (Nat.succ m) x0 x1 x2 x3 x4 x5
noncomputable def qT:Nat→List Dt→List Dt→Int→Option (List Dt)
 |0,_,_,_=>none
 |m+1,a0,a1,a2=>
  ((mkL (List.length a1:Int) (List.length a1:Int) kzd6e5e).bind fun v0=>
  qT_j0 m a2 a1 (List.length a1:Int) 0 a0 v0)
noncomputable def zU:Nat→List Dt→List Dt→Option (List Dt)
 |0,_,_=>none
 |m+1,a0,a1=>
  ((qT m a0 a1 (List.length a1:Int)).bind fun r0=>
  some r0)
noncomputable def zO:Nat→List Dt→Dt→Dt→Option Int
  |0,_,_,_=>none
  |m+1,a0,a1,a2=>
   ((zH m a0 a1).bind fun r0=>
   ((zH m a0 a2).bind fun r1=>
 ((qY m a0 r0 r1).bind fun r2=>
 some r2)))
noncomputable def zF_j2 (m:Nat) (rec1:List Dt→List Dt→List Dt→List Dt→Option (List Dt)) (x0 x1 x2 x3:List Dt):Option (List Dt):=
  ((idx x1 0).bind fun v1=>
    ((idx x2 0).bind fun v2=>
 ((zO m x0 v1 v2).bind fun r3=>
 (bif (decide (r3≤0)) then
 ((idx x1 0).bind fun v4=>
 ((app x3 [v4]).bind fun v5=>
 ((cutL x1 1 (List.length x1:Int)).bind fun v6=>
 rec1 x0 v6 x2 v5)))
 else
 ((idx x2 0).bind fun v7=>
 ((app x3 [v7]).bind fun v8=>
 ((cutL x2 1 (List.length x2:Int)).bind fun v9=>
 rec1 x0 x1 v9 v8)))))))
noncomputable def zF_j3 (m:Nat) (x0 x1 x2:List Dt):Option (List Dt):=
  ((app x2 x0).bind fun v10=>
    ((app v10 x1).bind fun v11=>
 some v11))
noncomputable def zF_l1 (m:Nat):Nat→List Dt→List Dt→List Dt→List Dt→Option (List Dt)
  |0,_,_,_,_=>none
  |M1+1,x0,x1,x2,x3=>
   (bif (decide (0<(List.length x1:Int))) then
   (bif (decide (0<(List.length x2:Int))) then
 zF_j2 m (zF_l1 m M1) x0 x1 x2 x3
   else
 zF_j3 m x1 x2 x3)
  else
   zF_j3 m x1 x2 x3)
noncomputable def zF_j0 (m:Nat) (x0 x1 x2 x3:List Dt):Option (List Dt):=
 zF_l1 m (Nat.succ m) x0 x1 x2 x3
noncomputable def zF:Nat→List Dt→List Dt→List Dt→Option (List Dt)
 |0,_,_,_=>none
 |m+1,a0,a1,a2=>
  ((mkL 0 (IntKind.wrap .i64 ((List.length a1:Int)+(List.length a2:Int))) kza2373).bind fun v0=>
  zF_j0 m a0 a1 a2 v0)
noncomputable def qA_j5 (m:Nat) (rec3:List Dt→List Dt→List Dt→Int→Int→List Dt→Option (List Dt×Int×Int)) (x0 x1 x2:List Dt) (x3 x4:Int) (x5:List Dt):Option (List Dt×Int×Int):=
 rec3 x0 x1 x2 x3 (IntKind.wrap .i64 (x4+1)) x5
noncomputable def qA_j4 (m:Nat) (rec3:List Dt→List Dt→List Dt→Int→Int→List Dt→Option (List Dt×Int×Int)) (x0 x1 x2:List Dt) (x3 x4:Int) (x5:List Dt):Option (List Dt×Int×Int):=
  ((idx x2 x4).bind fun v3=>
    ((zU m x0 (Dt.toLst v3)).bind fun r4=>
 ((inL x5 x4).bind fun v5=>
 ((x5[(Int.toNat x4)]?).bind fun v6=>
 qA_j5 m rec3 x0 x1 x2 x3 x4 (List.set x5 (Int.toNat x4) (Dt.lst r4))))))
noncomputable def qA_j12 (m:Nat) (rec7:List Dt→List Dt→List Dt→Option (List Dt×Int×Int)) (rec10:List Dt→List Dt→Int→List Dt→List Dt→Option (List Dt×Int×Int)) (x0 x1:List Dt) (x2:Int) (x3 x4:List Dt):Option (List Dt×Int×Int):=
 rec10 x0 x1 (IntKind.wrap .i64 (x2+2)) x3 x4
noncomputable def qA_j11 (m:Nat) (rec7:List Dt→List Dt→List Dt→Option (List Dt×Int×Int)) (rec10:List Dt→List Dt→Int→List Dt→List Dt→Option (List Dt×Int×Int)) (x0 x1:List Dt) (x2:Int) (x3 x4:List Dt):Option (List Dt×Int×Int):=
  (bif (decide ((IntKind.wrap .i64 (x2+1))<(List.length x3:Int))) then
   ((inL x3 x2).bind fun v7=>
 ((x3[(Int.toNat x2)]?).bind fun v8=>
 ((inL x3 (IntKind.wrap .i64 (x2+1))).bind fun v9=>
 ((x3[(Int.toNat (IntKind.wrap .i64 (x2+1)))]?).bind fun v10=>
 ((zF m x0 (Dt.toLst v8) (Dt.toLst v10)).bind fun r11=>
 ((app x4 [(Dt.lst r11)]).bind fun v12=>
 qA_j12 m rec7 rec10 x0 x1 x2 x3 v12))))))
  else
   ((inL x3 x2).bind fun v13=>
 ((x3[(Int.toNat x2)]?).bind fun v14=>
 ((app x4 [(Dt.lst (Dt.toLst v14))]).bind fun v15=>
 qA_j12 m rec7 rec10 x0 x1 x2 x3 v15))))
noncomputable def qA_j13 (m:Nat) (rec7:List Dt→List Dt→List Dt→Option (List Dt×Int×Int)) (x0 x1 x2:List Dt):Option (List Dt×Int×Int):=
 rec7 x0 x1 x2
noncomputable def qA_l10 (m:Nat) (rec7:List Dt→List Dt→List Dt→Option (List Dt×Int×Int)):Nat→List Dt→List Dt→Int→List Dt→List Dt→Option (List Dt×Int×Int)
 |0,_,_,_,_,_=>none
 |M10+1,x0,x1,x2,x3,x4=>
  (bif (decide (x2<(List.length x3:Int))) then
  qA_j11 m rec7 (qA_l10 m rec7 M10) x0 x1 x2 x3 x4
 else
  qA_j13 m rec7 x0 x1 x4)
noncomputable def qA_j9 (m:Nat) (rec7:List Dt→List Dt→List Dt→Option (List Dt×Int×Int)) (x0 x1:List Dt) (x2:Int) (x3 x4:List Dt):Option (List Dt×Int×Int):=
 qA_l10 m rec7 (Nat.succ m) x0 x1 x2 x3 x4
noncomputable def qA_j8 (m:Nat) (rec7:List Dt→List Dt→List Dt→Option (List Dt×Int×Int)) (x0 x1 x2:List Dt):Option (List Dt×Int×Int):=
 qA_j9 m rec7 x0 x1 0 x2 []
noncomputable def qA_j14 (m:Nat) (x0 x1:List Dt):Option (List Dt×Int×Int):=
  ((inL x1 0).bind fun v16=>
    ((x1[0]?).bind fun v17=>
 some ((Dt.toLst v17),(List.length x0:Int),0)))
noncomputable def qA_l7 (m:Nat):Nat→List Dt→List Dt→List Dt→Option (List Dt×Int×Int)
 |0,_,_,_=>none
 |M7+1,x0,x1,x2=>
  (bif (decide (1<(List.length x2:Int))) then
  qA_j8 m (qA_l7 m M7) x0 x1 x2
 else
  qA_j14 m x1 x2)
noncomputable def qA_j6 (m:Nat) (x0 x1 x2:List Dt):Option (List Dt×Int×Int):=
 qA_l7 m (Nat.succ m) x0 x1 x2
noncomputable def qA_l3 (m:Nat):Nat→List Dt→List Dt→List Dt→Int→Int→List Dt→Option (List Dt×Int×Int)
 |0,_,_,_,_,_,_=>none
 |M3+1,x0,x1,x2,x3,x4,x5=>
  (bif (decide (x4<x3)) then
  qA_j4 m (qA_l3 m M3) x0 x1 x2 x3 x4 x5
 else
  qA_j6 m x0 x1 x5)
noncomputable def qA_j2 (m:Nat) (x0 x1 x2:List Dt) (x3 x4:Int) (x5:List Dt):Option (List Dt×Int×Int):=
 qA_l3 m (Nat.succ m) x0 x1 x2 x3 x4 x5
noncomputable def qA_j1 (m:Nat) (x0 x1:List Dt):Option (List Dt×Int×Int):=
 ((mkL (List.length x1:Int) (List.length x1:Int) (Dt.lst [])).bind fun v2=>
   qA_j2 m x0 x1 x1 (List.length x1:Int) 0 v2)
noncomputable def qA_j0 (m:Nat) (x0 x1 x2:List Dt):Option (List Dt×Int×Int):=
  (bif ((List.length x2:Int)==0) then
   ((zU m x0 x1).bind fun r1=>
 some (r1,0,0))
  else
   qA_j1 m x0 x2)
noncomputable def qA:Nat→List Dt→List Dt→Int→Bool→Option (List Dt×Int×Int)
  |0,_,_,_,_=>none
  |m+1,a0,a1,a2,a3=>
   ((qO m a1 a2 a3).bind fun r0=>
   (bif (r0.2 !=0) then
 some ([],0,r0.2)
   else
 qA_j0 m a0 a1 r0.1))
noncomputable def qQ_j4 (m:Nat) (x0 x1:List Dt) (x2:Int):Option Bool:=
  (bif (x2==0) then
   ((zM m x1 x0).bind fun r8=>
 (bif r8 then
 ((awakeC).bind fun r9=>
 some r9)
 else
 some false))
  else
   some false)
noncomputable def qQ_j3 (m:Nat) (x0:List Dt) (x1:Int) (x2:List Dt) (x3:Int):Option Bool:=
  (bif (decide (0<x1)) then
   (bif (x3==22) then
 (bif ((List.length x2:Int)==0) then
 ((awakeC).bind fun r7=>
 some r7)
 else
 some false)
   else
 some false)
  else
   qQ_j4 m x0 x2 x3)
noncomputable def qQ_j2 (m:Nat) (x0:List Dt) (x1:Int) (x2:List Dt) (x3:Int) (x4:Bool):Option Bool:=
 (bif x4 then
  some false
 else
  qQ_j3 m x0 x1 x2 x3)
noncomputable def qQ_j1 (m:Nat) (x0:List Dt) (x1 x2:Int):Option Bool:=
  ((z6 m 1).bind fun r2=>
    ((qA m [] x0 x1 true).bind fun r3=>
 ((qW m (Dt.agg [(Dt.agg [(Dt.int 1),(Dt.lst []),(Dt.str (ByteArray.mk (List.toArray []))),(Dt.lst []),r2,(Dt.int 0),(Dt.lst [])]),(Dt.lst [])]) x0 x1 true).bind fun r4=>
 ((qA m [] x0 x2 true).bind fun r5=>
 ((qA m [] x0 x1 false).bind fun r6=>
 (bif (r3.2.2 !=0) then
 qQ_j2 m x0 r3.2.1 r6.1 r6.2.2 true
 else
 (bif (r4.2.2 !=0) then
 qQ_j2 m x0 r3.2.1 r6.1 r6.2.2 true
 else
 (bif (r5.2.2 !=0) then
 qQ_j2 m x0 r3.2.1 r6.1 r6.2.2 true
 else
 (bif (r3.2.1 !=r4.2.1) then
 qQ_j2 m x0 r3.2.1 r6.1 r6.2.2 true
 else
 (bif (decide (r3.2.1<0)) then
 qQ_j2 m x0 r3.2.1 r6.1 r6.2.2 true
 else
 (bif (decide ((List.length x0:Int)<r3.2.1)) then
 qQ_j2 m x0 r3.2.1 r6.1 r6.2.2 true
 else
 (bif (decide (r3.2.1<r5.2.1)) then
 qQ_j2 m x0 r3.2.1 r6.1 r6.2.2 true
 else
 qQ_j2 m x0 r3.2.1 r6.1 r6.2.2 (r6.2.1 !=0)))))))))))))
noncomputable def qQ_j0 (m:Nat) (x0:List Dt) (x1 x2:Int) (x3:Bool):Option Bool:=
  (bif x3 then
   ((awakeC).bind fun r1=>
 some r1)
  else
   qQ_j1 m x0 x1 x2)
noncomputable def qQ:Nat→List Dt→Int→Int→Option Bool
  |0,_,_,_=>none
  |m+1,a0,a1,a2=>
   ((zD m a0).bind fun r0=>
   (bif (Bool.not r0) then
 qQ_j0 m a0 a1 a2 true
   else
 (bif (decide (a1<1)) then
 qQ_j0 m a0 a1 a2 true
 else
 qQ_j0 m a0 a1 a2 (decide (a2<a1)))))
end Go.Proofs.YtpifchdngodgjaaGreatDoor
