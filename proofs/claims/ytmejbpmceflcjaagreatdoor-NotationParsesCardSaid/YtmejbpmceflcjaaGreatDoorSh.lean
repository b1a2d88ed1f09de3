/- Generated: what the Go functions compute, over plain data. -/
import Derived.Test.YtmejbpmceflcjaaGreatDoorAm20
import Derived.Test.YtmejbpmceflcjaaGreatDoorOAwake
import Derived.Test.YtmejbpmceflcjaaGreatDoorOLibN
import Derived.Test.YtmejbpmceflcjaaGreatDoorOAppF
import Derived.Test.YtmejbpmceflcjaaGreatDoorOParsP
set_option linter.unusedVariables false
set_option linter.unusedSimpArgs false
namespace Go.Proofs.YtmejbpmceflcjaaGreatDoor
open Go.Am
def kza2373:Dt:=Dt.agg [(Dt.int 0),(Dt.int 0),(Dt.str (ByteArray.mk (List.toArray []))),(Dt.lst []),(Dt.lst [])]
def kz2ef54:Dt:=Dt.agg [(Dt.int 1),(Dt.int 0),(Dt.str (ByteArray.mk (List.toArray []))),(Dt.lst []),(Dt.lst [])]
def kzedecf:Dt:=Dt.agg [(Dt.int 11),(Dt.int 0),(Dt.str (ByteArray.mk (List.toArray []))),(Dt.lst []),(Dt.lst [])]
def kz3c25e:Dt:=Dt.agg [(Dt.int 2),(Dt.int 0),(Dt.str (ByteArray.mk (List.toArray []))),(Dt.lst []),(Dt.lst [])]
def kzb2fe3:Dt:=Dt.agg [(Dt.int 9),(Dt.int 1),(Dt.str (ByteArray.mk (List.toArray []))),(Dt.lst []),(Dt.lst [])]
def kzb0365:Dt:=Dt.agg [(Dt.int 9),(Dt.int 0),(Dt.str (ByteArray.mk (List.toArray []))),(Dt.lst []),(Dt.lst [])]
def kz73e26:Dt:=Dt.agg [(Dt.int 6),(Dt.int 0),(Dt.str (ByteArray.mk (List.toArray []))),(Dt.lst []),(Dt.lst [])]
def kze9562:Dt:=Dt.agg [(Dt.int 5),(Dt.int 0),(Dt.str (ByteArray.mk (List.toArray []))),(Dt.lst []),(Dt.lst [])]
def kz6243f:Dt:=Dt.agg [(Dt.int 3),(Dt.int 0),(Dt.str (ByteArray.mk (List.toArray []))),(Dt.lst []),(Dt.lst [])]
noncomputable def i6_j0 (m:Nat) (x0:Dt):Option (Int×Dt):=
 ((idxS (Dt.S x0 0) (Dt.I x0 1)).bind fun v0=>
   some ((IntKind.wrap .i64 v0),x0))
noncomputable def i6:Nat→Dt→Option (Int×Dt)
 |0,_=>none
 |m+1,a0=>
  (bif ((Dt.I a0 1)==(ByteArray.size (Dt.S a0 0):Int)) then
  some ((-1),a0)
 else
  i6_j0 m a0)
noncomputable def i5_j1 (m:Nat) (rec0:Dt→Option Dt) (x0:Bool) (x1:Dt):Option Dt:=
 (bif x0 then
  rec0 (Dt.agg [(Dt.str (Dt.S x1 0)),(Dt.int (IntKind.wrap .i64 ((Dt.I x1 1)+1))),(Dt.int (Dt.I x1 2)),(Dt.int (Dt.I x1 3)),(Dt.int (Dt.I x1 4))])
 else
  some x1)
noncomputable def i5_l0 (m:Nat):Nat→Dt→Option Dt
  |0,_=>none
  |M0+1,x0=>
   ((i6 m x0).bind fun r0=>
   (bif (r0.1==9) then
 i5_j1 m (i5_l0 m M0) (r0.1==9) r0.2
   else
 (bif (r0.1==10) then
 i5_j1 m (i5_l0 m M0) (r0.1==10) r0.2
 else
 (bif (r0.1==13) then
 i5_j1 m (i5_l0 m M0) (r0.1==13) r0.2
 else
 i5_j1 m (i5_l0 m M0) (r0.1==32) r0.2))))
noncomputable def i5:Nat→Dt→Option Dt
 |0,_=>none
 |m+1,a0=>
  i5_l0 m (Nat.succ m) a0
noncomputable def i9:Nat→Int→Int→Dt→Option (Bool×Dt)
 |0,_,_,_=>none
 |m+1,a0,a1,a2=>
  some (false,(Dt.agg [(Dt.str (Dt.S a2 0)),(Dt.int (Dt.I a2 1)),(Dt.int (Dt.I a2 2)),(Dt.int a0),(Dt.int a1)]))
noncomputable def i8_j1 (m:Nat) (x0:Dt):Option (Bool×Dt):=
 some (true,(Dt.agg [(Dt.str (Dt.S x0 0)),(Dt.int (Dt.I x0 1)),(Dt.int (IntKind.wrap .i64 ((Dt.I x0 2)+1))),(Dt.int (Dt.I x0 3)),(Dt.int (Dt.I x0 4))]))
noncomputable def i8_j0 (m:Nat) (x0:Int) (x1:Bool) (x2:Dt):Option (Bool×Dt):=
  (bif x1 then
   ((i9 m 2 x0 x2).bind fun r0=>
 some (r0.1,r0.2))
  else
   i8_j1 m x2)
noncomputable def i8:Nat→Int→Int→Dt→Option (Bool×Dt)
 |0,_,_,_=>none
 |m+1,a0,a1,a2=>
  (bif (decide (16<a0)) then
  i8_j0 m a1 true a2
 else
  i8_j0 m a1 ((Dt.I a2 2)==1024) a2)
noncomputable def i13_j7 (m:Nat) (rec1:Int→Int→Dt→Option (Int×Bool×Dt)) (x0 x1:Int) (x2:Dt):Option (Int×Bool×Dt):=
 rec1 x0 (IntKind.wrap .i64 (x1+1)) x2
noncomputable def i13_j6 (m:Nat) (rec1:Int→Int→Dt→Option (Int×Bool×Dt)) (x0 x1 x2:Int) (x3:Dt):Option (Int×Bool×Dt):=
 i13_j7 m rec1 (orI IntKind.i32 (shlI IntKind.i32 x0 4) (IntKind.wrap IntKind.i32 x1)) x2 (Dt.agg [(Dt.str (Dt.S x3 0)),(Dt.int (IntKind.wrap .i64 ((Dt.I x3 1)+1))),(Dt.int (Dt.I x3 2)),(Dt.int (Dt.I x3 3)),(Dt.int (Dt.I x3 4))])
noncomputable def i13_j5 (m:Nat) (rec1:Int→Int→Dt→Option (Int×Bool×Dt)) (x0 x1 x2:Int) (x3:Bool) (x4:Dt):Option (Int×Bool×Dt):=
  (bif x3 then
   ((i9 m 4 (Dt.I x4 1) x4).bind fun r1=>
 some (0,r1.1,r1.2))
  else
   i13_j6 m rec1 x0 x1 x2 x4)
noncomputable def i13_j4 (m:Nat) (rec1:Int→Int→Dt→Option (Int×Bool×Dt)) (x0 x1 x2 x3:Int) (x4:Dt):Option (Int×Bool×Dt):=
  (bif (decide (x2<0)) then
   i13_j5 m rec1 x0 x2 x3 true x4
  else
   (bif (x1==1) then
 (bif (x0==13) then
 i13_j5 m rec1 x0 x2 x3 (decide (8≤x2)) x4
 else
 i13_j5 m rec1 x0 x2 x3 false x4)
   else
 i13_j5 m rec1 x0 x2 x3 false x4))
noncomputable def i13_j9 (m:Nat) (rec1:Int→Int→Dt→Option (Int×Bool×Dt)) (x0 x1 x2 x3 x4:Int) (x5:Bool) (x6:Dt):Option (Int×Bool×Dt):=
 (bif x5 then
  i13_j4 m rec1 x0 x1 (IntKind.wrap .i64 ((IntKind.wrap .i64 (x2-65))+10)) x4 x6
 else
  i13_j4 m rec1 x0 x1 x3 x4 x6)
noncomputable def i13_j8 (m:Nat) (rec1:Int→Int→Dt→Option (Int×Bool×Dt)) (x0 x1 x2 x3 x4:Int) (x5:Bool) (x6:Dt):Option (Int×Bool×Dt):=
  (bif x5 then
   i13_j4 m rec1 x0 x1 (IntKind.wrap .i64 ((IntKind.wrap .i64 (x2-97))+10)) x4 x6
  else
   (bif (decide (65≤x2)) then
 i13_j9 m rec1 x0 x1 x2 x3 x4 (decide (x2≤70)) x6
   else
 i13_j9 m rec1 x0 x1 x2 x3 x4 false x6))
noncomputable def i13_j3 (m:Nat) (rec1:Int→Int→Dt→Option (Int×Bool×Dt)) (x0 x1 x2 x3 x4:Int) (x5:Bool) (x6:Dt):Option (Int×Bool×Dt):=
  (bif x5 then
   i13_j4 m rec1 x0 x1 (IntKind.wrap .i64 (x2-48)) x4 x6
  else
   (bif (decide (97≤x2)) then
 i13_j8 m rec1 x0 x1 x2 x3 x4 (decide (x2≤102)) x6
   else
 i13_j8 m rec1 x0 x1 x2 x3 x4 false x6))
noncomputable def i13_j2 (m:Nat) (rec1:Int→Int→Dt→Option (Int×Bool×Dt)) (x0 x1:Int) (x2:Dt):Option (Int×Bool×Dt):=
  ((i6 m x2).bind fun r0=>
    (bif (decide (48≤r0.1)) then
 i13_j3 m rec1 x0 x1 r0.1 (-1) x1 (decide (r0.1≤57)) r0.2
    else
 i13_j3 m rec1 x0 x1 r0.1 (-1) x1 false r0.2))
noncomputable def i13_j10 (m:Nat) (x0:Int) (x1:Dt):Option (Int×Bool×Dt):=
 some (x0,true,x1)
noncomputable def i13_l1 (m:Nat):Nat→Int→Int→Dt→Option (Int×Bool×Dt)
 |0,_,_,_=>none
 |M1+1,x0,x1,x2=>
  (bif (decide (x1<4)) then
  i13_j2 m (i13_l1 m M1) x0 x1 x2
 else
  i13_j10 m x0 x2)
noncomputable def i13_j0 (m:Nat) (x0 x1:Int) (x2:Dt):Option (Int×Bool×Dt):=
 i13_l1 m (Nat.succ m) x0 x1 x2
noncomputable def i13:Nat→Dt→Option (Int×Bool×Dt)
 |0,_=>none
 |m+1,a0=>
  i13_j0 m 0 0 a0
noncomputable def i12_j1 (m:Nat) (x0:Int) (x1:Dt):Option (Int×Bool×Dt):=
 some (x0,true,(Dt.agg [(Dt.str (Dt.S x1 0)),(Dt.int (IntKind.wrap .i64 ((Dt.I x1 1)+1))),(Dt.int (Dt.I x1 2)),(Dt.int (Dt.I x1 3)),(Dt.int (Dt.I x1 4))]))
noncomputable def i12_j0 (m:Nat) (x0 x1:Int) (x2:Bool) (x3:Dt):Option (Int×Bool×Dt):=
  (bif x2 then
   i12_j1 m x0 x3
  else
   (bif (x1==98) then
 i12_j1 m 8 x3
   else
 (bif (x1==102) then
 i12_j1 m 12 x3
 else
 (bif (x1==110) then
 i12_j1 m 10 x3
 else
 (bif (x1==114) then
 i12_j1 m 13 x3
 else
 (bif (x1==116) then
 i12_j1 m 9 x3
 else
 (bif (x1==117) then
 ((i13 m (Dt.agg [(Dt.str (Dt.S x3 0)),(Dt.int (IntKind.wrap .i64 ((Dt.I x3 1)+1))),(Dt.int (Dt.I x3 2)),(Dt.int (Dt.I x3 3)),(Dt.int (Dt.I x3 4))])).bind fun r1=>
 some (r1.1,r1.2.1,r1.2.2))
 else
 ((i9 m 4 (Dt.I x3 1) x3).bind fun r2=>
 some (0,r2.1,r2.2)))))))))
noncomputable def i12:Nat→Dt→Option (Int×Bool×Dt)
  |0,_=>none
  |m+1,a0=>
   ((i6 m a0).bind fun r0=>
   (bif (r0.1==34) then
 i12_j0 m (IntKind.wrap IntKind.i32 r0.1) r0.1 (r0.1==34) r0.2
   else
 (bif (r0.1==92) then
 i12_j0 m (IntKind.wrap IntKind.i32 r0.1) r0.1 (r0.1==92) r0.2
 else
 i12_j0 m (IntKind.wrap IntKind.i32 r0.1) r0.1 (r0.1==47) r0.2)))
noncomputable def i15_j1 (m:Nat) (x0:Int) (x1:Bool) (x2:List Dt):Option (List Dt):=
  (bif x1 then
   ((app x2 [(Dt.int (orI IntKind.u8 240 (IntKind.wrap IntKind.u8 (shrI IntKind.i32 x0 18)))),(Dt.int (orI IntKind.u8 128 (andI IntKind.u8 (IntKind.wrap IntKind.u8 (shrI IntKind.i32 x0 12)) 63))),(Dt.int (orI IntKind.u8 128 (andI IntKind.u8 (IntKind.wrap IntKind.u8 (shrI IntKind.i32 x0 6)) 63))),(Dt.int (orI IntKind.u8 128 (andI IntKind.u8 (IntKind.wrap IntKind.u8 x0) 63)))]).bind fun v2=>
 some v2)
  else
   ((app x2 [(Dt.int 239),(Dt.int 191),(Dt.int 189)]).bind fun v3=>
 some v3))
noncomputable def i15_j0 (m:Nat) (x0 x1:Int) (x2:Bool) (x3:List Dt):Option (List Dt):=
  (bif x2 then
   ((app x3 [(Dt.int (orI IntKind.u8 224 (IntKind.wrap IntKind.u8 (shrI IntKind.i32 x0 12)))),(Dt.int (orI IntKind.u8 128 (andI IntKind.u8 (IntKind.wrap IntKind.u8 (shrI IntKind.i32 x0 6)) 63))),(Dt.int (orI IntKind.u8 128 (andI IntKind.u8 (IntKind.wrap IntKind.u8 x0) 63)))]).bind fun v1=>
 some v1)
  else
   (bif (decide (65535<x1)) then
 i15_j1 m x0 (decide (x1≤1114111)) x3
   else
 i15_j1 m x0 false x3))
noncomputable def i15:Nat→Int→List Dt→Option (List Dt)
  |0,_,_=>none
  |m+1,a0,a1=>
   (bif (decide ((IntKind.wrap IntKind.u32 a0)≤2047)) then
   ((app a1 [(Dt.int (orI IntKind.u8 192 (IntKind.wrap IntKind.u8 (shrI IntKind.i32 a0 6)))),(Dt.int (orI IntKind.u8 128 (andI IntKind.u8 (IntKind.wrap IntKind.u8 a0) 63)))]).bind fun v0=>
 some v0)
  else
   (bif (decide ((IntKind.wrap IntKind.u32 a0)<55296)) then
 i15_j0 m a0 (IntKind.wrap IntKind.u32 a0) (decide ((IntKind.wrap IntKind.u32 a0)<55296)) a1
   else
 (bif (decide (57343<(IntKind.wrap IntKind.u32 a0))) then
 i15_j0 m a0 (IntKind.wrap IntKind.u32 a0) (decide ((IntKind.wrap IntKind.u32 a0)≤65535)) a1
 else
 i15_j0 m a0 (IntKind.wrap IntKind.u32 a0) false a1)))
noncomputable def i14_j0 (m:Nat) (x0:Int) (x1:List Dt):Option (List Dt):=
 ((i15 m x0 x1).bind fun r1=>
   some r1)
noncomputable def i14:Nat→Int→List Dt→Option (List Dt)
  |0,_,_=>none
  |m+1,a0,a1=>
   (bif (decide ((IntKind.wrap IntKind.u32 a0)≤127)) then
   ((app a1 [(Dt.int (IntKind.wrap IntKind.u8 a0))]).bind fun v0=>
 some v0)
  else
   i14_j0 m a0 a1)
noncomputable def i11_j2 (m:Nat) (x0:Dt) (x1:List Dt):Option (ByteArray×Bool×Dt):=
 ((bif (Nat.ble (List.length x1) 137438953472) then(Option.some (strOfNums (List.map Dt.toInt x1))) else(Option.none)).bind fun v1=>
   some (v1,true,x0))
noncomputable def i11_j3 (m:Nat) (rec1:Dt→List Dt→Option (ByteArray×Bool×Dt)) (x0:Int) (x1:Dt) (x2:List Dt):Option (ByteArray×Bool×Dt):=
 ((i14 m x0 x2).bind fun r4=>
   rec1 x1 r4)
noncomputable def i11_l1 (m:Nat):Nat→Dt→List Dt→Option (ByteArray×Bool×Dt)
  |0,_,_=>none
  |M1+1,x0,x1=>
   ((i6 m x0).bind fun r0=>
   (bif (r0.1==34) then
 i11_j2 m (Dt.agg [(Dt.str (Dt.S r0.2 0)),(Dt.int (IntKind.wrap .i64 ((Dt.I r0.2 1)+1))),(Dt.int (Dt.I r0.2 2)),(Dt.int (Dt.I r0.2 3)),(Dt.int (Dt.I r0.2 4))]) x1
   else
 (bif (decide (r0.1<32)) then
 ((i9 m 4 (Dt.I r0.2 1) r0.2).bind fun r2=>
 some ((ByteArray.mk (List.toArray [])),r2.1,r2.2))
 else
 (bif (r0.1==92) then
 ((i12 m (Dt.agg [(Dt.str (Dt.S r0.2 0)),(Dt.int (IntKind.wrap .i64 ((Dt.I r0.2 1)+1))),(Dt.int (Dt.I r0.2 2)),(Dt.int (Dt.I r0.2 3)),(Dt.int (Dt.I r0.2 4))])).bind fun r3=>
 (bif (Bool.not r3.2.1) then
 some ((ByteArray.mk (List.toArray [])),false,r3.2.2)
 else
 i11_j3 m (i11_l1 m M1) r3.1 r3.2.2 x1))
 else
 ((app x1 [(Dt.int (IntKind.wrap IntKind.u8 r0.1))]).bind fun v5=>
 (i11_l1 m M1) (Dt.agg [(Dt.str (Dt.S r0.2 0)),(Dt.int (IntKind.wrap .i64 ((Dt.I r0.2 1)+1))),(Dt.int (Dt.I r0.2 2)),(Dt.int (Dt.I r0.2 3)),(Dt.int (Dt.I r0.2 4))]) v5)))))
noncomputable def i11_j0 (m:Nat) (x0:Dt) (x1:List Dt):Option (ByteArray×Bool×Dt):=
 i11_l1 m (Nat.succ m) x0 x1
noncomputable def i11:Nat→Dt→Option (ByteArray×Bool×Dt)
 |0,_=>none
 |m+1,a0=>
  i11_j0 m (Dt.agg [(Dt.str (Dt.S a0 0)),(Dt.int (IntKind.wrap .i64 ((Dt.I a0 1)+1))),(Dt.int (Dt.I a0 2)),(Dt.int (Dt.I a0 3)),(Dt.int (Dt.I a0 4))]) []
noncomputable def i10_j2 (m:Nat) (x0:ByteArray) (x1 x2:Dt):Option (Dt×Bool×Dt):=
 some ((Dt.agg [(Dt.int 4),(Dt.int 0),(Dt.str x0),(Dt.lst []),(Dt.lst [])]),true,x1)
noncomputable def i10_j1 (m:Nat) (x0:Int) (x1:ByteArray) (x2 x3:Dt):Option (Dt×Bool×Dt):=
  ((utf8_ValidString x1).bind fun r2=>
    (bif (Bool.not r2) then
 ((i9 m 4 x0 x2).bind fun r3=>
 some (kza2373,r3.1,r3.2))
    else
 i10_j2 m x1 x2 x3))
noncomputable def i10_j0 (m:Nat) (x0:Int) (x1:ByteArray) (x2 x3:Dt):Option (Dt×Bool×Dt):=
  (bif (decide (4096<(ByteArray.size x1:Int))) then
   ((i9 m 2 x0 x2).bind fun r1=>
 some (kza2373,r1.1,r1.2))
  else
   i10_j1 m x0 x1 x2 x3)
noncomputable def i10:Nat→Dt→Option (Dt×Bool×Dt)
  |0,_=>none
  |m+1,a0=>
   ((i11 m a0).bind fun r0=>
   (bif (Bool.not r0.2.1) then
 some (kza2373,false,r0.2.2)
   else
 i10_j0 m (Dt.I a0 1) r0.1 r0.2.2 kza2373))
noncomputable def notation_isField_j4 (m:Nat) (rec1:ByteArray→Int→Int→Option Bool) (x0:ByteArray) (x1 x2:Int):Option Bool:=
 rec1 x0 x1 (IntKind.wrap .i64 (x2+1))
noncomputable def notation_isField_j3 (m:Nat) (rec1:ByteArray→Int→Int→Option Bool) (x0:ByteArray) (x1 x2:Int) (x3:Bool):Option Bool:=
 (bif x3 then
  some false
 else
  notation_isField_j4 m rec1 x0 x1 x2)
noncomputable def notation_isField_j2 (m:Nat) (rec1:ByteArray→Int→Int→Option Bool) (x0:ByteArray) (x1 x2:Int):Option Bool:=
  ((idxS x0 x2).bind fun v0=>
    (bif (decide (v0<32)) then
 notation_isField_j3 m rec1 x0 x1 x2 true
    else
 ((idxS x0 x2).bind fun v1=>
 notation_isField_j3 m rec1 x0 x1 x2 (decide (126<v1)))))
noncomputable def notation_isField_j5 (m:Nat) (x0:ByteArray):Option Bool:=
 some (Bool.not ((ByteArray.toList x0)==[]))
noncomputable def notation_isField_l1 (m:Nat):Nat→ByteArray→Int→Int→Option Bool
 |0,_,_,_=>none
 |M1+1,x0,x1,x2=>
  (bif (decide (x2<x1)) then
  notation_isField_j2 m (notation_isField_l1 m M1) x0 x1 x2
 else
  notation_isField_j5 m x0)
noncomputable def notation_isField_j0 (m:Nat) (x0:ByteArray) (x1 x2:Int):Option Bool:=
 notation_isField_l1 m (Nat.succ m) x0 x1 x2
noncomputable def notation_isField:Nat→ByteArray→Option Bool
 |0,_=>none
 |m+1,a0=>
  notation_isField_j0 m a0 (ByteArray.size a0:Int) 0
noncomputable def i19_j5 (m:Nat) (x0:ByteArray) (x1:Dt) (x2:List Dt):Option (ByteArray×Bool×Dt×List Dt):=
 ((i5 m (Dt.agg [(Dt.str (Dt.S x1 0)),(Dt.int (IntKind.wrap .i64 ((Dt.I x1 1)+1))),(Dt.int (Dt.I x1 2)),(Dt.int (Dt.I x1 3)),(Dt.int (Dt.I x1 4))])).bind fun r9=>
   some (x0,true,r9,x2))
noncomputable def i19_j4 (m:Nat) (x0:ByteArray) (x1:Dt) (x2:List Dt):Option (ByteArray×Bool×Dt×List Dt):=
  ((i5 m x1).bind fun r6=>
    ((i6 m r6).bind fun r7=>
 (bif (r7.1 !=58) then
 ((i9 m 4 (Dt.I r7.2 1) r7.2).bind fun r8=>
 some ((ByteArray.mk (List.toArray [])),r8.1,r8.2,x2))
 else
 i19_j5 m x0 r7.2 x2)))
noncomputable def i19_j3 (m:Nat) (x0:Int) (x1:ByteArray) (x2:Bool) (x3:Dt) (x4:List Dt):Option (ByteArray×Bool×Dt×List Dt):=
  (bif x2 then
   ((i9 m 4 x0 x3).bind fun r5=>
 some ((ByteArray.mk (List.toArray [])),r5.1,r5.2,x4))
  else
   i19_j4 m x1 x3 x4)
noncomputable def i19_j2 (m:Nat) (x0:Int) (x1:ByteArray) (x2:Dt) (x3:List Dt):Option (ByteArray×Bool×Dt×List Dt):=
  ((notation_isField m x1).bind fun r4=>
    (bif (Bool.not r4) then
 i19_j3 m x0 x1 true x2 x3
    else
 i19_j3 m x0 x1 (Dt.toBool (mgetD x3 x1 (Dt.bool false))) x2 x3))
noncomputable def i19_j1 (m:Nat) (x0:Int) (x1:ByteArray) (x2:Dt) (x3:List Dt):Option (ByteArray×Bool×Dt×List Dt):=
  (bif (decide (128<(ByteArray.size x1:Int))) then
   ((i9 m 2 x0 x2).bind fun r3=>
 some ((ByteArray.mk (List.toArray [])),r3.1,r3.2,x3))
  else
   i19_j2 m x0 x1 x2 x3)
noncomputable def i19_j0 (m:Nat) (x0:Int) (x1:Dt) (x2:List Dt):Option (ByteArray×Bool×Dt×List Dt):=
  ((i11 m x1).bind fun r2=>
    (bif (Bool.not r2.2.1) then
 some ((ByteArray.mk (List.toArray [])),false,r2.2.2,x2)
    else
 i19_j1 m x0 r2.1 r2.2.2 x2))
noncomputable def i19:Nat→Dt→List Dt→Option (ByteArray×Bool×Dt×List Dt)
  |0,_,_=>none
  |m+1,a0,a1=>
   ((i6 m a0).bind fun r0=>
   (bif (r0.1 !=34) then
 ((i9 m 4 (Dt.I a0 1) r0.2).bind fun r1=>
 some ((ByteArray.mk (List.toArray [])),r1.1,r1.2,a1))
   else
 i19_j0 m (Dt.I a0 1) r0.2 a1))
noncomputable def notation_isSpecial_j1 (m:Nat):Option Bool:=
 some false
noncomputable def notation_isSpecial_j0 (m:Nat) (x0:Bool):Option Bool:=
 (bif x0 then
  some true
 else
  notation_isSpecial_j1 m)
noncomputable def notation_isSpecial:Nat→ByteArray→Option Bool
  |0,_=>none
  |m+1,a0=>
   (bif ((ByteArray.toList a0)==[36,105,100]) then
   notation_isSpecial_j0 m ((ByteArray.toList a0)==[36,105,100])
  else
   (bif ((ByteArray.toList a0)==[36,98,121,116,101,115]) then
 notation_isSpecial_j0 m ((ByteArray.toList a0)==[36,98,121,116,101,115])
   else
 (bif ((ByteArray.toList a0)==[36,116,105,109,101]) then
 notation_isSpecial_j0 m ((ByteArray.toList a0)==[36,116,105,109,101])
 else
 (bif ((ByteArray.toList a0)==[36,109,105,110]) then
 notation_isSpecial_j0 m ((ByteArray.toList a0)==[36,109,105,110])
 else
 notation_isSpecial_j0 m ((ByteArray.toList a0)==[36,109,97,120])))))
noncomputable def notation_fromHex_j8 (m:Nat) (rec3:Int→Int→Dt→List Dt→Option (ByteArray×Bool)) (x0 x1:Int) (x2:Dt) (x3:List Dt):Option (ByteArray×Bool):=
 rec3 x0 (IntKind.wrap .i64 (x1+1)) x2 x3
noncomputable def notation_fromHex_j7 (m:Nat) (rec3:Int→Int→Dt→List Dt→Option (ByteArray×Bool)) (x0 x1 x2 x3:Int) (x4:Dt) (x5:List Dt):Option (ByteArray×Bool):=
  ((inL x5 (IntKind.wrap .i64 (Int.tdiv x0 2))).bind fun v2=>
    ((x5[(Int.toNat (IntKind.wrap .i64 (Int.tdiv x0 2)))]?).bind fun v3=>
 ((inL x5 (IntKind.wrap .i64 (Int.tdiv x0 2))).bind fun v4=>
 ((x5[(Int.toNat (IntKind.wrap .i64 (Int.tdiv x0 2)))]?).bind fun v5=>
 notation_fromHex_j8 m rec3 x2 x3 x4 (List.set x5 (Int.toNat (IntKind.wrap .i64 (Int.tdiv x0 2))) (Dt.int (orI IntKind.u8 (shlI IntKind.u8 (Dt.toInt v3) 4) (IntKind.wrap IntKind.u8 x1))))))))
noncomputable def notation_fromHex_j6 (m:Nat) (rec3:Int→Int→Dt→List Dt→Option (ByteArray×Bool)) (x0 x1 x2 x3:Int) (x4:Dt) (x5:List Dt):Option (ByteArray×Bool):=
 (bif (decide (x1<0)) then
  some ((ByteArray.mk (List.toArray [])),false)
 else
  notation_fromHex_j7 m rec3 x0 x1 x2 x3 x4 x5)
noncomputable def notation_fromHex_j9 (m:Nat) (rec3:Int→Int→Dt→List Dt→Option (ByteArray×Bool)) (x0 x1 x2 x3 x4:Int) (x5:Bool) (x6:Dt) (x7:List Dt):Option (ByteArray×Bool):=
 (bif x5 then
  notation_fromHex_j6 m rec3 x0 (IntKind.wrap .i64 ((IntKind.wrap .i64 (IntKind.wrap IntKind.u8 (x2-97)))+10)) x3 x4 x6 x7
 else
  notation_fromHex_j6 m rec3 x0 x1 x3 x4 x6 x7)
noncomputable def notation_fromHex_j5 (m:Nat) (rec3:Int→Int→Dt→List Dt→Option (ByteArray×Bool)) (x0 x1 x2 x3 x4:Int) (x5:Bool) (x6:Dt) (x7:List Dt):Option (ByteArray×Bool):=
  (bif x5 then
   notation_fromHex_j6 m rec3 x0 (IntKind.wrap .i64 (IntKind.wrap IntKind.u8 (x2-48))) x3 x4 x6 x7
  else
   (bif (decide (97≤x2)) then
 notation_fromHex_j9 m rec3 x0 x1 x2 x3 x4 (decide (x2≤102)) x6 x7
   else
 notation_fromHex_j9 m rec3 x0 x1 x2 x3 x4 false x6 x7))
noncomputable def notation_fromHex_j4 (m:Nat) (rec3:Int→Int→Dt→List Dt→Option (ByteArray×Bool)) (x0 x1:Int) (x2:Dt) (x3:List Dt):Option (ByteArray×Bool):=
  ((idxS (Dt.S x2 2) x1).bind fun v1=>
    (bif (decide (48≤v1)) then
 notation_fromHex_j5 m rec3 x1 (-1) v1 x0 x1 (decide (v1≤57)) x2 x3
    else
 notation_fromHex_j5 m rec3 x1 (-1) v1 x0 x1 false x2 x3))
noncomputable def notation_fromHex_j10 (m:Nat) (x0:List Dt):Option (ByteArray×Bool):=
 ((bif (Nat.ble (List.length x0) 137438953472) then(Option.some (strOfNums (List.map Dt.toInt x0))) else(Option.none)).bind fun v6=>
   some (v6,true))
noncomputable def notation_fromHex_l3 (m:Nat):Nat→Int→Int→Dt→List Dt→Option (ByteArray×Bool)
 |0,_,_,_,_=>none
 |M3+1,x0,x1,x2,x3=>
  (bif (decide (x1<x0)) then
  notation_fromHex_j4 m (notation_fromHex_l3 m M3) x0 x1 x2 x3
 else
  notation_fromHex_j10 m x3)
noncomputable def notation_fromHex_j2 (m:Nat) (x0 x1:Int) (x2:Dt) (x3:List Dt):Option (ByteArray×Bool):=
 notation_fromHex_l3 m (Nat.succ m) x0 x1 x2 x3
noncomputable def notation_fromHex_j1 (m:Nat) (x0:Dt):Option (ByteArray×Bool):=
 ((mkL (IntKind.wrap .i64 (Int.tdiv (ByteArray.size (Dt.S x0 2):Int) 2)) (IntKind.wrap .i64 (Int.tdiv (ByteArray.size (Dt.S x0 2):Int) 2)) (Dt.int 0)).bind fun v0=>
   notation_fromHex_j2 m (ByteArray.size (Dt.S x0 2):Int) 0 x0 v0)
noncomputable def notation_fromHex_j0 (m:Nat) (x0:Bool) (x1:Dt):Option (ByteArray×Bool):=
 (bif x0 then
  some ((ByteArray.mk (List.toArray [])),false)
 else
  notation_fromHex_j1 m x1)
noncomputable def notation_fromHex:Nat→Dt→Option (ByteArray×Bool)
 |0,_=>none
 |m+1,a0=>
  (bif ((Dt.I a0 0) !=4) then
  notation_fromHex_j0 m true a0
 else
  notation_fromHex_j0 m ((Int.tmod (ByteArray.size (Dt.S a0 2):Int) 2) !=0) a0)
noncomputable def i22_j1 (m:Nat) (x0:List Dt) (x1:Dt):Option (Dt×Bool×List Dt):=
 some (kza2373,false,x0)
noncomputable def i22_j0 (m:Nat) (x0:List Dt) (x1:Dt):Option (Dt×Bool×List Dt):=
  ((inL x0 0).bind fun v0=>
    ((x0[0]?).bind fun v1=>
 ((inL x0 0).bind fun v2=>
 ((x0[0]?).bind fun v3=>
 (bif ((ByteArray.toList (Dt.S v3 0))==[36,105,100]) then
 ((notation_fromHex m (Dt.fld v1 1)).bind fun r4=>
 (bif r4.2 then
 some ((Dt.agg [(Dt.int 8),(Dt.int 0),(Dt.str r4.1),(Dt.lst []),(Dt.lst [])]),((ByteArray.size r4.1:Int)==12),x0)
 else
 some ((Dt.agg [(Dt.int 8),(Dt.int 0),(Dt.str r4.1),(Dt.lst []),(Dt.lst [])]),false,x0)))
 else
 (bif ((ByteArray.toList (Dt.S v3 0))==[36,98,121,116,101,115]) then
 ((notation_fromHex m (Dt.fld v1 1)).bind fun r5=>
 some ((Dt.agg [(Dt.int 7),(Dt.int 0),(Dt.str r5.1),(Dt.lst []),(Dt.lst [])]),r5.2,x0))
 else
 (bif ((ByteArray.toList (Dt.S v3 0))==[36,116,105,109,101]) then
 (bif ((Dt.I (Dt.fld v1 1) 0)==3) then
 some ((Dt.agg [(Dt.int 10),(Dt.int (Dt.I (Dt.fld v1 1) 1)),(Dt.str (ByteArray.mk (List.toArray []))),(Dt.lst []),(Dt.lst [])]),(decide (0≤(Dt.I (Dt.fld v1 1) 1))),x0)
 else
 some ((Dt.agg [(Dt.int 10),(Dt.int (Dt.I (Dt.fld v1 1) 1)),(Dt.str (ByteArray.mk (List.toArray []))),(Dt.lst []),(Dt.lst [])]),false,x0))
 else
 (bif ((ByteArray.toList (Dt.S v3 0))==[36,109,105,110]) then
 (bif ((Dt.I (Dt.fld v1 1) 0)==3) then
 some (kz2ef54,((Dt.I (Dt.fld v1 1) 1)==1),x0)
 else
 some (kz2ef54,false,x0))
 else
 (bif ((ByteArray.toList (Dt.S v3 0))==[36,109,97,120]) then
 (bif ((Dt.I (Dt.fld v1 1) 0)==3) then
 some (kzedecf,((Dt.I (Dt.fld v1 1) 1)==1),x0)
 else
 some (kzedecf,false,x0))
 else
 i22_j1 m x0 x1)))))))))
noncomputable def i22:Nat→List Dt→Option (Dt×Bool×List Dt)
 |0,_=>none
 |m+1,a0=>
  (bif ((List.length a0:Int) !=1) then
  some (kza2373,false,a0)
 else
  i22_j0 m a0 kza2373)
noncomputable def i24_j4 (m:Nat) (rec1:ByteArray→Int→Int→Dt→Option (Bool×Dt)) (x0:ByteArray) (x1 x2:Int) (x3:Dt):Option (Bool×Dt):=
 rec1 x0 x1 (IntKind.wrap .i64 (x2+1)) x3
noncomputable def i24_j3 (m:Nat) (rec1:ByteArray→Int→Int→Dt→Option (Bool×Dt)) (x0:ByteArray) (x1 x2:Int) (x3:Dt):Option (Bool×Dt):=
 i24_j4 m rec1 x0 x1 x2 (Dt.agg [(Dt.str (Dt.S x3 0)),(Dt.int (IntKind.wrap .i64 ((Dt.I x3 1)+1))),(Dt.int (Dt.I x3 2)),(Dt.int (Dt.I x3 3)),(Dt.int (Dt.I x3 4))])
noncomputable def i24_j2 (m:Nat) (rec1:ByteArray→Int→Int→Dt→Option (Bool×Dt)) (x0:ByteArray) (x1 x2:Int) (x3:Dt):Option (Bool×Dt):=
  ((i6 m x3).bind fun r0=>
    ((idxS x0 x2).bind fun v1=>
 (bif (r0.1 !=(IntKind.wrap .i64 v1)) then
 ((i9 m 4 (Dt.I r0.2 1) r0.2).bind fun r2=>
 some (r2.1,r2.2))
 else
 i24_j3 m rec1 x0 x1 x2 r0.2)))
noncomputable def i24_j5 (m:Nat) (x0:Dt):Option (Bool×Dt):=
 some (true,x0)
noncomputable def i24_l1 (m:Nat):Nat→ByteArray→Int→Int→Dt→Option (Bool×Dt)
 |0,_,_,_,_=>none
 |M1+1,x0,x1,x2,x3=>
  (bif (decide (x2<x1)) then
  i24_j2 m (i24_l1 m M1) x0 x1 x2 x3
 else
  i24_j5 m x3)
noncomputable def i24_j0 (m:Nat) (x0:ByteArray) (x1 x2:Int) (x3:Dt):Option (Bool×Dt):=
 i24_l1 m (Nat.succ m) x0 x1 x2 x3
noncomputable def i24:Nat→ByteArray→Dt→Option (Bool×Dt)
 |0,_,_=>none
 |m+1,a0,a1=>
  i24_j0 m a0 (ByteArray.size a0:Int) 0 a1
noncomputable def i25_j4 (m:Nat) (rec3:Int→Dt→Dt→Option (Dt×Bool×Dt)) (x0:Int) (x1 x2:Dt):Option (Dt×Bool×Dt):=
 rec3 x0 (Dt.agg [(Dt.str (Dt.S x1 0)),(Dt.int (IntKind.wrap .i64 ((Dt.I x1 1)+1))),(Dt.int (Dt.I x1 2)),(Dt.int (Dt.I x1 3)),(Dt.int (Dt.I x1 4))]) x2
noncomputable def i25_j6 (m:Nat) (x0:Int) (x1 x2:Dt):Option (Dt×Bool×Dt):=
 some ((Dt.agg [(Dt.int 3),(Dt.int x0),(Dt.str (ByteArray.mk (List.toArray []))),(Dt.lst []),(Dt.lst [])]),true,x1)
noncomputable def i25_j5 (m:Nat) (x0:Int) (x1 x2:Dt):Option (Dt×Bool×Dt):=
  ((cutS (Dt.S x1 0) x0 (Dt.I x1 1)).bind fun v5=>
    ((strconv_ParseInt v5 10 64).bind fun r6=>
 (bif (Bool.not r6.2) then
 ((i9 m 2 x0 x1).bind fun r7=>
 some (kza2373,r7.1,r7.2))
 else
 i25_j6 m r6.1 x1 x2)))
noncomputable def i25_l3 (m:Nat):Nat→Int→Dt→Dt→Option (Dt×Bool×Dt)
  |0,_,_,_=>none
  |M3+1,x0,x1,x2=>
   ((i6 m x1).bind fun r3=>
   (bif (decide (48≤r3.1)) then
 ((i6 m r3.2).bind fun r4=>
 (bif (decide (r4.1≤57)) then
 i25_j4 m (i25_l3 m M3) x0 r4.2 x2
 else
 i25_j5 m x0 r4.2 x2))
   else
 i25_j5 m x0 r3.2 x2))
noncomputable def i25_j2 (m:Nat) (x0 x1:Int) (x2 x3:Dt):Option (Dt×Bool×Dt):=
 (bif (x1 !=48) then
  i25_l3 m (Nat.succ m) x0 (Dt.agg [(Dt.str (Dt.S x2 0)),(Dt.int (IntKind.wrap .i64 ((Dt.I x2 1)+1))),(Dt.int (Dt.I x2 2)),(Dt.int (Dt.I x2 3)),(Dt.int (Dt.I x2 4))]) x3
 else
  i25_j5 m x0 (Dt.agg [(Dt.str (Dt.S x2 0)),(Dt.int (IntKind.wrap .i64 ((Dt.I x2 1)+1))),(Dt.int (Dt.I x2 2)),(Dt.int (Dt.I x2 3)),(Dt.int (Dt.I x2 4))]) x3)
noncomputable def i25_j1 (m:Nat) (x0 x1:Int) (x2:Bool) (x3 x4:Dt):Option (Dt×Bool×Dt):=
  (bif x2 then
   ((i9 m 4 (Dt.I x3 1) x3).bind fun r2=>
 some (kza2373,r2.1,r2.2))
  else
   i25_j2 m x0 x1 x3 x4)
noncomputable def i25_j0 (m:Nat) (x0:Int) (x1:Bool) (x2 x3:Dt):Option (Dt×Bool×Dt):=
  ((i6 m x2).bind fun r1=>
    (bif (decide (r1.1<48)) then
 i25_j1 m x0 r1.1 true r1.2 x3
    else
 (bif (decide (57<r1.1)) then
 i25_j1 m x0 r1.1 true r1.2 x3
 else
 (bif x1 then
 i25_j1 m x0 r1.1 (r1.1==48) r1.2 x3
 else
 i25_j1 m x0 r1.1 false r1.2 x3))))
noncomputable def i25:Nat→Dt→Option (Dt×Bool×Dt)
  |0,_=>none
  |m+1,a0=>
   ((i6 m a0).bind fun r0=>
   (bif (r0.1==45) then
 i25_j0 m (Dt.I a0 1) (r0.1==45) (Dt.agg [(Dt.str (Dt.S r0.2 0)),(Dt.int (IntKind.wrap .i64 ((Dt.I r0.2 1)+1))),(Dt.int (Dt.I r0.2 2)),(Dt.int (Dt.I r0.2 3)),(Dt.int (Dt.I r0.2 4))]) kza2373
   else
 i25_j0 m (Dt.I a0 1) (r0.1==45) r0.2 kza2373))
noncomputable def i7_j4 (m:Nat) (self17:Int→Dt→Option (Dt×Bool×Dt)) (self18:Int→Dt→Option (Dt×Bool×Dt)) (x0 x1:Dt):Option (Dt×Bool×Dt):=
 ((i25 m x0).bind fun r8=>
   some (r8.1,r8.2.1,r8.2.2))
noncomputable def i7_j3 (m:Nat) (self17:Int→Dt→Option (Dt×Bool×Dt)) (self18:Int→Dt→Option (Dt×Bool×Dt)) (x0 x1:Int) (x2 x3:Dt):Option (Dt×Bool×Dt):=
  (bif (x1==34) then
   ((i10 m x2).bind fun r2=>
 some (r2.1,r2.2.1,r2.2.2))
  else
   (bif (x1==91) then
 ((self17 x0 x2).bind fun r3=>
 some (r3.1,r3.2.1,r3.2.2))
   else
 (bif (x1==123) then
 ((self18 x0 x2).bind fun r4=>
 some (r4.1,r4.2.1,r4.2.2))
 else
 (bif (x1==110) then
 ((i24 m (ByteArray.mk (List.toArray [110,117,108,108])) x2).bind fun r5=>
 some (kz3c25e,r5.1,r5.2))
 else
 (bif (x1==116) then
 ((i24 m (ByteArray.mk (List.toArray [116,114,117,101])) x2).bind fun r6=>
 some (kzb2fe3,r6.1,r6.2))
 else
 (bif (x1==102) then
 ((i24 m (ByteArray.mk (List.toArray [102,97,108,115,101])) x2).bind fun r7=>
 some (kzb0365,r7.1,r7.2))
 else
 i7_j4 m self17 self18 x2 x3))))))
noncomputable def i7_j2 (m:Nat) (self17:Int→Dt→Option (Dt×Bool×Dt)) (self18:Int→Dt→Option (Dt×Bool×Dt)) (x0 x1:Int) (x2:Bool) (x3 x4:Dt):Option (Dt×Bool×Dt):=
 (bif x2 then
  some (kza2373,false,x3)
 else
  i7_j3 m self17 self18 x0 x1 x3 x4)
noncomputable def i7_j5 (m:Nat) (self17:Int→Dt→Option (Dt×Bool×Dt)) (self18:Int→Dt→Option (Dt×Bool×Dt)) (x0 x1 x2:Int) (x3:Bool) (x4 x5:Dt):Option (Dt×Bool×Dt):=
  (bif x3 then
   ((i8 m x0 x1 x4).bind fun r9=>
 (bif (Bool.not r9.1) then
 some (kza2373,false,r9.2)
 else
 i7_j3 m self17 self18 x0 x2 r9.2 x5))
  else
   ((i9 m 4 x1 x4).bind fun r10=>
 some (kza2373,r10.1,r10.2)))
noncomputable def i7_j1 (m:Nat) (self17:Int→Dt→Option (Dt×Bool×Dt)) (self18:Int→Dt→Option (Dt×Bool×Dt)) (x0:Int) (x1:Bool) (x2 x3:Int) (x4:Bool) (x5 x6:Dt):Option (Dt×Bool×Dt):=
  (bif x4 then
   (bif (Bool.not x1) then
 ((i8 m x0 x2 x5).bind fun r1=>
 i7_j2 m self17 self18 x0 x3 (Bool.not r1.1) r1.2 x6)
   else
 i7_j2 m self17 self18 x0 x3 false x5 x6)
  else
   (bif (x3==91) then
 i7_j5 m self17 self18 x0 x2 x3 true x5 x6
   else
 (bif (x3==123) then
 i7_j5 m self17 self18 x0 x2 x3 true x5 x6
 else
 (bif (x3==110) then
 i7_j5 m self17 self18 x0 x2 x3 true x5 x6
 else
 (bif (x3==116) then
 i7_j5 m self17 self18 x0 x2 x3 true x5 x6
 else
 i7_j5 m self17 self18 x0 x2 x3 (x3==102) x5 x6)))))
noncomputable def i7_j0 (m:Nat) (self17:Int→Dt→Option (Dt×Bool×Dt)) (self18:Int→Dt→Option (Dt×Bool×Dt)) (x0:Int) (x1:Bool) (x2 x3:Int) (x4:Bool) (x5 x6:Dt):Option (Dt×Bool×Dt):=
 (bif (x3==34) then
  i7_j1 m self17 self18 x0 x1 x2 x3 true x5 x6
 else
  i7_j1 m self17 self18 x0 x1 x2 x3 x4 x5 x6)
noncomputable def i17_j5 (m:Nat) (self7:Int→Bool→Dt→Option (Dt×Bool×Dt)) (rec1:Int→Dt→Dt→Int→Int→ByteArray→List Dt→List Dt→Option (Dt×Bool×Dt)) (x0:Int) (x1 x2:Dt) (x3 x4:Int) (x5:ByteArray) (x6 x7:List Dt):Option (Dt×Bool×Dt):=
 ((i5 m x1).bind fun r7=>
   rec1 x0 r7 x2 x3 x4 x5 x6 x7)
noncomputable def i17_j4 (m:Nat) (self7:Int→Bool→Dt→Option (Dt×Bool×Dt)) (rec1:Int→Dt→Dt→Int→Int→ByteArray→List Dt→List Dt→Option (Dt×Bool×Dt)) (x0 x1:Int) (x2 x3:Dt) (x4 x5:Int) (x6:ByteArray) (x7 x8:List Dt):Option (Dt×Bool×Dt):=
 (bif (x1==93) then
  some ((Dt.agg [(Dt.int x4),(Dt.int x5),(Dt.str x6),(Dt.lst x7),(Dt.lst x8)]),true,(Dt.agg [(Dt.str (Dt.S x2 0)),(Dt.int (IntKind.wrap .i64 ((Dt.I x2 1)+1))),(Dt.int (Dt.I x2 2)),(Dt.int (Dt.I x2 3)),(Dt.int (Dt.I x2 4))]))
 else
  i17_j5 m self7 rec1 x0 (Dt.agg [(Dt.str (Dt.S x2 0)),(Dt.int (IntKind.wrap .i64 ((Dt.I x2 1)+1))),(Dt.int (Dt.I x2 2)),(Dt.int (Dt.I x2 3)),(Dt.int (Dt.I x2 4))]) x3 x4 x5 x6 x7 x8)
noncomputable def i17_j3 (m:Nat) (self7:Int→Bool→Dt→Option (Dt×Bool×Dt)) (rec1:Int→Dt→Dt→Int→Int→ByteArray→List Dt→List Dt→Option (Dt×Bool×Dt)) (x0 x1:Int) (x2:Bool) (x3 x4:Dt) (x5 x6:Int) (x7:ByteArray) (x8 x9:List Dt):Option (Dt×Bool×Dt):=
  (bif x2 then
   ((i9 m 4 (Dt.I x3 1) x3).bind fun r6=>
 some (kza2373,r6.1,r6.2))
  else
   i17_j4 m self7 rec1 x0 x1 x3 x4 x5 x6 x7 x8 x9)
noncomputable def i17_j2 (m:Nat) (self7:Int→Bool→Dt→Option (Dt×Bool×Dt)) (rec1:Int→Dt→Dt→Int→Int→ByteArray→List Dt→List Dt→Option (Dt×Bool×Dt)) (x0:Int) (x1 x2:Dt) (x3 x4:Int) (x5:ByteArray) (x6 x7:List Dt) (x8:Dt):Option (Dt×Bool×Dt):=
  ((app x6 [x8]).bind fun v3=>
    ((i5 m x1).bind fun r4=>
 ((i6 m r4).bind fun r5=>
 (bif (r5.1 !=44) then
 i17_j3 m self7 rec1 x0 r5.1 (r5.1 !=93) r5.2 x2 x3 x4 x5 v3 x7
 else
 i17_j3 m self7 rec1 x0 r5.1 false r5.2 x2 x3 x4 x5 v3 x7))))
noncomputable def i17_l1 (m:Nat) (self7:Int→Bool→Dt→Option (Dt×Bool×Dt)):Nat→Int→Dt→Dt→Int→Int→ByteArray→List Dt→List Dt→Option (Dt×Bool×Dt)
  |0,_,_,_,_,_,_,_,_=>none
  |M1+1,x0,x1,x2,x3,x4,x5,x6,x7=>
   ((self7 (IntKind.wrap .i64 (x0+1)) false x1).bind fun r2=>
   (bif (Bool.not r2.2.1) then
 some (kza2373,false,r2.2.2)
   else
 i17_j2 m self7 (i17_l1 m self7 M1) x0 r2.2.2 x2 x3 x4 x5 x6 x7 r2.1))
noncomputable def i17_j0 (m:Nat) (self7:Int→Bool→Dt→Option (Dt×Bool×Dt)) (x0:Int) (x1 x2:Dt) (x3 x4:Int) (x5:ByteArray) (x6 x7:List Dt):Option (Dt×Bool×Dt):=
 i17_l1 m self7 (Nat.succ m) x0 x1 x2 x3 x4 x5 x6 x7
noncomputable def i18_j10 (m:Nat) (self7:Int→Bool→Dt→Option (Dt×Bool×Dt)) (rec1:Int→Dt→Dt→Int→Int→ByteArray→List Dt→List Dt→List Dt→Option (Dt×Bool×Dt)) (x0:Int) (x1 x2:Dt) (x3 x4:Int) (x5:ByteArray) (x6 x7 x8:List Dt):Option (Dt×Bool×Dt):=
 ((i5 m x1).bind fun r11=>
   rec1 x0 r11 x2 x3 x4 x5 x6 x7 x8)
noncomputable def i18_j9 (m:Nat) (self7:Int→Bool→Dt→Option (Dt×Bool×Dt)) (rec1:Int→Dt→Dt→Int→Int→ByteArray→List Dt→List Dt→List Dt→Option (Dt×Bool×Dt)) (x0 x1:Int) (x2 x3:Dt) (x4 x5:Int) (x6:ByteArray) (x7 x8 x9:List Dt):Option (Dt×Bool×Dt):=
 (bif (x1==125) then
  some ((Dt.agg [(Dt.int x4),(Dt.int x5),(Dt.str x6),(Dt.lst x7),(Dt.lst x8)]),true,x2)
 else
  i18_j10 m self7 rec1 x0 x2 x3 x4 x5 x6 x7 x8 x9)
noncomputable def i18_j8 (m:Nat) (self7:Int→Bool→Dt→Option (Dt×Bool×Dt)) (rec1:Int→Dt→Dt→Int→Int→ByteArray→List Dt→List Dt→List Dt→Option (Dt×Bool×Dt)) (x0 x1:Int) (x2:Bool) (x3 x4:Dt) (x5 x6:Int) (x7:ByteArray) (x8 x9 x10:List Dt):Option (Dt×Bool×Dt):=
 (bif x2 then
  some (kza2373,false,x3)
 else
  i18_j9 m self7 rec1 x0 x1 x3 x4 x5 x6 x7 x8 x9 x10)
noncomputable def i18_j7 (m:Nat) (self7:Int→Bool→Dt→Option (Dt×Bool×Dt)) (rec1:Int→Dt→Dt→Int→Int→ByteArray→List Dt→List Dt→List Dt→Option (Dt×Bool×Dt)) (x0:Int) (x1:Bool) (x2 x3:Int) (x4 x5:Dt) (x6 x7:Int) (x8:ByteArray) (x9 x10 x11:List Dt) (x12:Dt):Option (Dt×Bool×Dt):=
  (bif x1 then
   (bif ((Dt.I x12 0)==4) then
 ((i8 m (IntKind.wrap .i64 (x0+1)) x2 x4).bind fun r10=>
 i18_j8 m self7 rec1 x0 x3 (Bool.not r10.1) r10.2 x5 x6 x7 x8 x9 x10 x11)
   else
 (bif ((Dt.I x12 0)==3) then
 ((i8 m (IntKind.wrap .i64 (x0+1)) x2 x4).bind fun r12=>
 i18_j8 m self7 rec1 x0 x3 (Bool.not r12.1) r12.2 x5 x6 x7 x8 x9 x10 x11)
 else
 i18_j8 m self7 rec1 x0 x3 false x4 x5 x6 x7 x8 x9 x10 x11))
  else
   i18_j8 m self7 rec1 x0 x3 false x4 x5 x6 x7 x8 x9 x10 x11)
noncomputable def i18_j6 (m:Nat) (self7:Int→Bool→Dt→Option (Dt×Bool×Dt)) (rec1:Int→Dt→Dt→Int→Int→ByteArray→List Dt→List Dt→List Dt→Option (Dt×Bool×Dt)) (x0:Int) (x1:Bool) (x2 x3:Int) (x4 x5:Dt) (x6 x7:Int) (x8:ByteArray) (x9 x10 x11:List Dt) (x12:Dt):Option (Dt×Bool×Dt):=
  (bif (x3==125) then
   ((i22 m x10).bind fun r9=>
 (bif r9.2.1 then
 some (r9.1,true,(Dt.agg [(Dt.str (Dt.S x4 0)),(Dt.int (IntKind.wrap .i64 ((Dt.I x4 1)+1))),(Dt.int (Dt.I x4 2)),(Dt.int (Dt.I x4 3)),(Dt.int (Dt.I x4 4))]))
 else
 i18_j7 m self7 rec1 x0 x1 x2 x3 (Dt.agg [(Dt.str (Dt.S x4 0)),(Dt.int (IntKind.wrap .i64 ((Dt.I x4 1)+1))),(Dt.int (Dt.I x4 2)),(Dt.int (Dt.I x4 3)),(Dt.int (Dt.I x4 4))]) x5 x6 x7 x8 x9 r9.2.2 x11 x12))
  else
   i18_j7 m self7 rec1 x0 x1 x2 x3 (Dt.agg [(Dt.str (Dt.S x4 0)),(Dt.int (IntKind.wrap .i64 ((Dt.I x4 1)+1))),(Dt.int (Dt.I x4 2)),(Dt.int (Dt.I x4 3)),(Dt.int (Dt.I x4 4))]) x5 x6 x7 x8 x9 x10 x11 x12)
noncomputable def i18_j5 (m:Nat) (self7:Int→Bool→Dt→Option (Dt×Bool×Dt)) (rec1:Int→Dt→Dt→Int→Int→ByteArray→List Dt→List Dt→List Dt→Option (Dt×Bool×Dt)) (x0:Int) (x1:Bool) (x2 x3:Int) (x4:Bool) (x5 x6:Dt) (x7 x8:Int) (x9:ByteArray) (x10 x11 x12:List Dt) (x13:Dt):Option (Dt×Bool×Dt):=
  (bif x4 then
   ((i9 m 4 (Dt.I x5 1) x5).bind fun r8=>
 some (kza2373,r8.1,r8.2))
  else
   i18_j6 m self7 rec1 x0 x1 x2 x3 x5 x6 x7 x8 x9 x10 x11 x12 x13)
noncomputable def i18_j4 (m:Nat) (self7:Int→Bool→Dt→Option (Dt×Bool×Dt)) (rec1:Int→Dt→Dt→Int→Int→ByteArray→List Dt→List Dt→List Dt→Option (Dt×Bool×Dt)) (x0:Int) (x1:ByteArray) (x2:Bool) (x3:Int) (x4 x5:Dt) (x6 x7:Int) (x8:ByteArray) (x9 x10 x11:List Dt) (x12:Dt):Option (Dt×Bool×Dt):=
  ((app x10 [(Dt.agg [(Dt.str x1),x12])]).bind fun v5=>
    ((i5 m x4).bind fun r6=>
 ((i6 m r6).bind fun r7=>
 (bif (r7.1 !=44) then
 i18_j5 m self7 rec1 x0 x2 x3 r7.1 (r7.1 !=125) r7.2 x5 x6 x7 x8 x9 v5 x11 x12
 else
 i18_j5 m self7 rec1 x0 x2 x3 r7.1 false r7.2 x5 x6 x7 x8 x9 v5 x11 x12))))
noncomputable def i18_j3 (m:Nat) (self7:Int→Bool→Dt→Option (Dt×Bool×Dt)) (rec1:Int→Dt→Dt→Int→Int→ByteArray→List Dt→List Dt→List Dt→Option (Dt×Bool×Dt)) (x0:Int) (x1:ByteArray) (x2:Bool) (x3 x4:Dt) (x5 x6:Int) (x7:ByteArray) (x8 x9 x10:List Dt):Option (Dt×Bool×Dt):=
  ((self7 (IntKind.wrap .i64 (x0+1)) x2 x3).bind fun r4=>
    (bif (Bool.not r4.2.1) then
 some (kza2373,false,r4.2.2)
    else
 i18_j4 m self7 rec1 x0 x1 x2 (Dt.I x3 1) r4.2.2 x4 x5 x6 x7 x8 x9 x10 r4.1))
noncomputable def i18_j2 (m:Nat) (self7:Int→Bool→Dt→Option (Dt×Bool×Dt)) (rec1:Int→Dt→Dt→Int→Int→ByteArray→List Dt→List Dt→List Dt→Option (Dt×Bool×Dt)) (x0:Int) (x1:ByteArray) (x2 x3:Dt) (x4 x5:Int) (x6:ByteArray) (x7 x8 x9:List Dt):Option (Dt×Bool×Dt):=
  (bif ((List.length x8:Int)==0) then
   ((notation_isSpecial m x1).bind fun r3=>
 i18_j3 m self7 rec1 x0 x1 r3 x2 x3 x4 x5 x6 x7 x8 (mput x9 x1 (Dt.bool true)))
  else
   i18_j3 m self7 rec1 x0 x1 false x2 x3 x4 x5 x6 x7 x8 (mput x9 x1 (Dt.bool true)))
noncomputable def i18_l1 (m:Nat) (self7:Int→Bool→Dt→Option (Dt×Bool×Dt)):Nat→Int→Dt→Dt→Int→Int→ByteArray→List Dt→List Dt→List Dt→Option (Dt×Bool×Dt)
  |0,_,_,_,_,_,_,_,_,_=>none
  |M1+1,x0,x1,x2,x3,x4,x5,x6,x7,x8=>
   ((i19 m x1 x8).bind fun r2=>
   (bif (Bool.not r2.2.1) then
 some (kza2373,false,r2.2.2.1)
   else
 i18_j2 m self7 (i18_l1 m self7 M1) x0 r2.1 r2.2.2.1 x2 x3 x4 x5 x6 x7 r2.2.2.2))
noncomputable def i18_j0 (m:Nat) (self7:Int→Bool→Dt→Option (Dt×Bool×Dt)) (x0:Int) (x1 x2:Dt) (x3 x4:Int) (x5:ByteArray) (x6 x7 x8:List Dt):Option (Dt×Bool×Dt):=
 i18_l1 m self7 (Nat.succ m) x0 x1 x2 x3 x4 x5 x6 x7 x8
mutual
noncomputable def i7:Nat→Int→Bool→Dt→Option (Dt×Bool×Dt)
  |0,_,_,_=>none
  |m+1,a0,a1,a2=>
   ((i6 m a2).bind fun r0=>
   (bif (r0.1==45) then
 i7_j0 m (i17 m) (i18 m) a0 a1 (Dt.I a2 1) r0.1 true r0.2 kza2373
   else
 (bif (decide (48≤r0.1)) then
 i7_j0 m (i17 m) (i18 m) a0 a1 (Dt.I a2 1) r0.1 (decide (r0.1≤57)) r0.2 kza2373
 else
 i7_j0 m (i17 m) (i18 m) a0 a1 (Dt.I a2 1) r0.1 false r0.2 kza2373)))
noncomputable def i17:Nat→Int→Dt→Option (Dt×Bool×Dt)
  |0,_,_=>none
  |m+1,a0,a1=>
   ((i5 m (Dt.agg [(Dt.str (Dt.S a1 0)),(Dt.int (IntKind.wrap .i64 ((Dt.I a1 1)+1))),(Dt.int (Dt.I a1 2)),(Dt.int (Dt.I a1 3)),(Dt.int (Dt.I a1 4))])).bind fun r0=>
   ((i6 m r0).bind fun r1=>
 (bif (r1.1==93) then
 some (kz73e26,true,(Dt.agg [(Dt.str (Dt.S r1.2 0)),(Dt.int (IntKind.wrap .i64 ((Dt.I r1.2 1)+1))),(Dt.int (Dt.I r1.2 2)),(Dt.int (Dt.I r1.2 3)),(Dt.int (Dt.I r1.2 4))]))
 else
 i17_j0 m (i7 m) a0 r1.2 kza2373 6 0 (ByteArray.mk (List.toArray [])) [] [])))
noncomputable def i18:Nat→Int→Dt→Option (Dt×Bool×Dt)
  |0,_,_=>none
  |m+1,a0,a1=>
   ((i5 m (Dt.agg [(Dt.str (Dt.S a1 0)),(Dt.int (IntKind.wrap .i64 ((Dt.I a1 1)+1))),(Dt.int (Dt.I a1 2)),(Dt.int (Dt.I a1 3)),(Dt.int (Dt.I a1 4))])).bind fun r0=>
   ((i6 m r0).bind fun r1=>
 (bif (r1.1==125) then
 some (kze9562,true,(Dt.agg [(Dt.str (Dt.S r1.2 0)),(Dt.int (IntKind.wrap .i64 ((Dt.I r1.2 1)+1))),(Dt.int (Dt.I r1.2 2)),(Dt.int (Dt.I r1.2 3)),(Dt.int (Dt.I r1.2 4))]))
 else
 i18_j0 m (i7 m) a0 r1.2 kza2373 5 0 (ByteArray.mk (List.toArray [])) [] [] [])))
end
noncomputable def notation_Parse_j1 (m:Nat) (x0 x1:Dt):Option (Dt×Int×Int):=
 some (x1,0,0)
noncomputable def notation_Parse_j0 (m:Nat) (x0 x1 x2:Dt):Option (Dt×Int×Int):=
 (bif ((Dt.I x1 3) !=0) then
  some (kza2373,(Dt.I x1 4),(Dt.I x1 3))
 else
  notation_Parse_j1 m x0 x2)
noncomputable def notation_Parse:Nat→ByteArray→Option (Dt×Int×Int)
  |0,_=>none
  |m+1,a0=>
   ((i5 m (Dt.agg [(Dt.str a0),(Dt.int 0),(Dt.int 0),(Dt.int 0),(Dt.int 0)])).bind fun r0=>
   ((i7 m 1 false r0).bind fun r1=>
 (bif r1.2.1 then
 ((i5 m r1.2.2).bind fun r2=>
 (bif (decide ((Dt.I r2 1)<(ByteArray.size a0:Int))) then
 ((i9 m 4 (Dt.I r2 1) r2).bind fun r3=>
 notation_Parse_j0 m kza2373 r3.2 r1.1)
 else
 notation_Parse_j0 m kza2373 r2 r1.1))
 else
 notation_Parse_j0 m kza2373 r1.2.2 r1.1)))
noncomputable def i27_j1 (m:Nat) (rec0:Dt→Option Dt) (x0:Dt):Option Dt:=
 rec0 (Dt.agg [(Dt.str (Dt.S x0 0)),(Dt.int (IntKind.wrap .i64 ((Dt.I x0 1)+1))),(Dt.int (Dt.I x0 2)),(Dt.int (Dt.I x0 3)),(Dt.int (Dt.I x0 4))])
noncomputable def i27_l0 (m:Nat):Nat→Dt→Option Dt
  |0,_=>none
  |M0+1,x0=>
   (bif (decide ((Dt.I x0 1)<(ByteArray.size (Dt.S x0 0):Int))) then
   ((idxS (Dt.S x0 0) (Dt.I x0 1)).bind fun v0=>
 (bif (v0==32) then
 i27_j1 m (i27_l0 m M0) x0
 else
 ((idxS (Dt.S x0 0) (Dt.I x0 1)).bind fun v1=>
 (bif (v1==9) then
 i27_j1 m (i27_l0 m M0) x0
 else
 ((idxS (Dt.S x0 0) (Dt.I x0 1)).bind fun v2=>
 (bif (v2==10) then
 i27_j1 m (i27_l0 m M0) x0
 else
 ((idxS (Dt.S x0 0) (Dt.I x0 1)).bind fun v3=>
 (bif (v3==13) then
 i27_j1 m (i27_l0 m M0) x0
 else
 some x0))))))))
  else
   some x0)
noncomputable def i27:Nat→Dt→Option Dt
 |0,_=>none
 |m+1,a0=>
  i27_l0 m (Nat.succ m) a0
noncomputable def i29_j0 (m:Nat) (x0:Dt):Option (Int×Dt):=
 some (0,x0)
noncomputable def i29:Nat→Dt→Option (Int×Dt)
  |0,_=>none
  |m+1,a0=>
   (bif (decide ((Dt.I a0 1)<(ByteArray.size (Dt.S a0 0):Int))) then
   ((idxS (Dt.S a0 0) (Dt.I a0 1)).bind fun v0=>
 some (v0,a0))
  else
   i29_j0 m a0)
noncomputable def ref05_opens:Nat→Int→Option Bool
  |0,_=>none
  |m+1,a0=>
   (bif (a0==110) then
   some true
  else
   (bif (a0==116) then
 some true
   else
 (bif (a0==102) then
 some true
 else
 (bif (a0==45) then
 some true
 else
 (bif (decide (48≤a0)) then
 (bif (decide (a0≤57)) then
 some true
 else
 (bif (a0==34) then
 some true
 else
 (bif (a0==91) then
 some true
 else
 some (a0==123))))
 else
 (bif (a0==34) then
 some true
 else
 (bif (a0==91) then
 some true
 else
 some (a0==123))))))))
noncomputable def i31:Nat→Int→Int→Dt→Option Dt
 |0,_,_,_=>none
 |m+1,a0,a1,a2=>
  (bif ((Dt.I a2 3)==0) then
  some (Dt.agg [(Dt.str (Dt.S a2 0)),(Dt.int (Dt.I a2 1)),(Dt.int (Dt.I a2 2)),(Dt.int a0),(Dt.int a1)])
 else
  some a2)
noncomputable def i32_j1 (m:Nat) (x0:Dt):Option Dt:=
 some (Dt.agg [(Dt.str (Dt.S x0 0)),(Dt.int (Dt.I x0 1)),(Dt.int (IntKind.wrap .i64 ((Dt.I x0 2)+1))),(Dt.int (Dt.I x0 3)),(Dt.int (Dt.I x0 4))])
noncomputable def i32_j0 (m:Nat) (x0:Int) (x1:Bool) (x2:Dt):Option Dt:=
  (bif x1 then
   ((i31 m 2 x0 x2).bind fun r0=>
 i32_j1 m r0)
  else
   i32_j1 m x2)
noncomputable def i32:Nat→Int→Int→Dt→Option Dt
 |0,_,_,_=>none
 |m+1,a0,a1,a2=>
  (bif (decide (16<a1)) then
  i32_j0 m a0 true a2
 else
  i32_j0 m a0 (decide (1024≤(Dt.I a2 2))) a2)
noncomputable def i34_j1 (m:Nat) (x0:Dt):Option Dt:=
 some (Dt.agg [(Dt.str (Dt.S x0 0)),(Dt.int (IntKind.wrap .i64 ((Dt.I x0 1)+1))),(Dt.int (Dt.I x0 2)),(Dt.int (Dt.I x0 3)),(Dt.int (Dt.I x0 4))])
noncomputable def i34_j0 (m:Nat) (x0:Bool) (x1:Dt):Option Dt:=
  (bif x0 then
   ((i31 m 4 (Dt.I x1 1) x1).bind fun r0=>
 some r0)
  else
   i34_j1 m x1)
noncomputable def i34:Nat→Int→Dt→Option Dt
  |0,_,_=>none
  |m+1,a0,a1=>
   (bif (decide ((ByteArray.size (Dt.S a1 0):Int)≤(Dt.I a1 1))) then
   i34_j0 m true a1
  else
   ((idxS (Dt.S a1 0) (Dt.I a1 1)).bind fun v1=>
 i34_j0 m (v1 !=a0) a1))
noncomputable def ref05_utf_j1 (m:Nat) (x0:Int):Option ByteArray:=
 some (strOfNums [(IntKind.wrap IntKind.u8 (IntKind.wrap .i64 (224+(IntKind.wrap .i64 (Int.tdiv x0 4096))))),(IntKind.wrap IntKind.u8 (IntKind.wrap .i64 (128+(Int.tmod (IntKind.wrap .i64 (Int.tdiv x0 64)) 64)))),(IntKind.wrap IntKind.u8 (IntKind.wrap .i64 (128+(Int.tmod x0 64))))])
noncomputable def ref05_utf_j0 (m:Nat) (x0:Int):Option ByteArray:=
 (bif (decide (x0<2048)) then
  some (strOfNums [(IntKind.wrap IntKind.u8 (IntKind.wrap .i64 (192+(IntKind.wrap .i64 (Int.tdiv x0 64))))),(IntKind.wrap IntKind.u8 (IntKind.wrap .i64 (128+(Int.tmod x0 64))))])
 else
  ref05_utf_j1 m x0)
noncomputable def ref05_utf:Nat→Int→Option ByteArray
 |0,_=>none
 |m+1,a0=>
  (bif (decide (a0<128)) then
  some (strOfNums [(IntKind.wrap IntKind.u8 a0)])
 else
  ref05_utf_j0 m a0)
noncomputable def ref05_Label_j4 (m:Nat) (rec1:ByteArray→Int→Option Bool) (x0:ByteArray) (x1:Int):Option Bool:=
 rec1 x0 (IntKind.wrap .i64 (x1+1))
noncomputable def ref05_Label_j3 (m:Nat) (rec1:ByteArray→Int→Option Bool) (x0:ByteArray) (x1:Int) (x2:Bool):Option Bool:=
 (bif x2 then
  some false
 else
  ref05_Label_j4 m rec1 x0 x1)
noncomputable def ref05_Label_j2 (m:Nat) (rec1:ByteArray→Int→Option Bool) (x0:ByteArray) (x1:Int):Option Bool:=
  ((idxS x0 x1).bind fun v0=>
    (bif (decide (v0<32)) then
 ref05_Label_j3 m rec1 x0 x1 true
    else
 ((idxS x0 x1).bind fun v1=>
 ref05_Label_j3 m rec1 x0 x1 (decide (126<v1)))))
noncomputable def ref05_Label_j5 (m:Nat) (x0:ByteArray):Option Bool:=
 (bif (decide (1≤(ByteArray.size x0:Int))) then
  some (decide ((ByteArray.size x0:Int)≤128))
 else
  some false)
noncomputable def ref05_Label_l1 (m:Nat):Nat→ByteArray→Int→Option Bool
 |0,_,_=>none
 |M1+1,x0,x1=>
  (bif (decide (x1<(ByteArray.size x0:Int))) then
  ref05_Label_j2 m (ref05_Label_l1 m M1) x0 x1
 else
  ref05_Label_j5 m x0)
noncomputable def ref05_Label_j0 (m:Nat) (x0:ByteArray) (x1:Int):Option Bool:=
 ref05_Label_l1 m (Nat.succ m) x0 x1
noncomputable def ref05_Label:Nat→ByteArray→Option Bool
 |0,_=>none
 |m+1,a0=>
  ref05_Label_j0 m a0 0
noncomputable def i46_j3 (m:Nat) (rec1:ByteArray→Int→Dt→Dt→Dt→Option (Dt×Dt)) (x0:ByteArray) (x1:Int) (x2 x3 x4:Dt):Option (Dt×Dt):=
 rec1 x0 (IntKind.wrap .i64 (x1+1)) x2 x3 x4
noncomputable def i46_j2 (m:Nat) (rec1:ByteArray→Int→Dt→Dt→Dt→Option (Dt×Dt)) (x0:ByteArray) (x1:Int) (x2 x3 x4:Dt):Option (Dt×Dt):=
  ((idxS x0 x1).bind fun v0=>
    ((i34 m v0 x2).bind fun r1=>
 i46_j3 m rec1 x0 x1 r1 x3 x4))
noncomputable def i46_j4 (m:Nat) (x0 x1 x2:Dt):Option (Dt×Dt):=
 some (x1,x0)
noncomputable def i46_l1 (m:Nat):Nat→ByteArray→Int→Dt→Dt→Dt→Option (Dt×Dt)
 |0,_,_,_,_,_=>none
 |M1+1,x0,x1,x2,x3,x4=>
  (bif (decide (x1<(ByteArray.size x0:Int))) then
  i46_j2 m (i46_l1 m M1) x0 x1 x2 x3 x4
 else
  i46_j4 m x2 x3 x4)
noncomputable def i46_j0 (m:Nat) (x0:ByteArray) (x1:Int) (x2 x3 x4:Dt):Option (Dt×Dt):=
 i46_l1 m (Nat.succ m) x0 x1 x2 x3 x4
noncomputable def i46:Nat→ByteArray→Dt→Dt→Option (Dt×Dt)
 |0,_,_,_=>none
 |m+1,a0,a1,a2=>
  i46_j0 m a0 0 a2 a1 kza2373
noncomputable def i48_j7 (m:Nat) (rec5:Int→Bool→Int→Bool→Dt→Dt→Option (Dt×Dt)) (x0:Int) (x1:Bool) (x2:Int) (x3:Bool) (x4:Int) (x5 x6:Dt):Option (Dt×Dt):=
 rec5 x0 x1 (IntKind.wrap IntKind.u64 ((IntKind.wrap IntKind.u64 (10*x2))+x4)) x3 (Dt.agg [(Dt.str (Dt.S x5 0)),(Dt.int (IntKind.wrap .i64 ((Dt.I x5 1)+1))),(Dt.int (Dt.I x5 2)),(Dt.int (Dt.I x5 3)),(Dt.int (Dt.I x5 4))]) x6
noncomputable def i48_j6 (m:Nat) (rec5:Int→Bool→Int→Bool→Dt→Dt→Option (Dt×Dt)) (x0:Int) (x1:Bool) (x2:Int) (x3:Bool) (x4 x5:Dt):Option (Dt×Dt):=
  ((i29 m x4).bind fun r5=>
    (bif (decide ((IntKind.wrap IntKind.u64 (Int.tdiv (IntKind.wrap IntKind.u64 (9223372036854775808-(IntKind.wrap IntKind.u64 (IntKind.wrap IntKind.u8 (r5.1-48))))) 10))<x2)) then
 i48_j7 m rec5 x0 x1 x2 true (IntKind.wrap IntKind.u64 (IntKind.wrap IntKind.u8 (r5.1-48))) r5.2 x5
    else
 i48_j7 m rec5 x0 x1 x2 x3 (IntKind.wrap IntKind.u64 (IntKind.wrap IntKind.u8 (r5.1-48))) r5.2 x5))
noncomputable def i48_j11 (m:Nat) (x0:Int) (x1 x2:Dt):Option (Dt×Dt):=
 some ((Dt.agg [(Dt.int 3),(Dt.int x0),(Dt.str (ByteArray.mk (List.toArray []))),(Dt.lst []),(Dt.lst [])]),x1)
noncomputable def i48_j10 (m:Nat) (x0:Bool) (x1:Int) (x2 x3:Dt):Option (Dt×Dt):=
 (bif x0 then
  i48_j11 m (IntKind.wrap .i64 (0-(IntKind.wrap .i64 x1))) x2 x3
 else
  i48_j11 m (IntKind.wrap .i64 x1) x2 x3)
noncomputable def i48_j9 (m:Nat) (x0:Int) (x1:Bool) (x2:Int) (x3:Bool) (x4 x5:Dt):Option (Dt×Dt):=
  (bif x3 then
   ((i31 m 2 x0 x4).bind fun r6=>
 some (kza2373,r6))
  else
   i48_j10 m x1 x2 x4 x5)
noncomputable def i48_j8 (m:Nat) (x0:Int) (x1:Bool) (x2:Int) (x3:Bool) (x4 x5:Dt):Option (Dt×Dt):=
  (bif x3 then
   i48_j9 m x0 x1 x2 true x4 x5
  else
   (bif (decide (9223372036854775808<x2)) then
 i48_j9 m x0 x1 x2 true x4 x5
   else
 (bif (x2==9223372036854775808) then
 i48_j9 m x0 x1 x2 (Bool.not x1) x4 x5
 else
 i48_j9 m x0 x1 x2 false x4 x5)))
noncomputable def i48_l5 (m:Nat):Nat→Int→Bool→Int→Bool→Dt→Dt→Option (Dt×Dt)
  |0,_,_,_,_,_,_=>none
  |M5+1,x0,x1,x2,x3,x4,x5=>
   ((i29 m x4).bind fun r3=>
   (bif (decide (48≤r3.1)) then
 ((i29 m r3.2).bind fun r4=>
 (bif (decide (r4.1≤57)) then
 i48_j6 m (i48_l5 m M5) x0 x1 x2 x3 r4.2 x5
 else
 i48_j8 m x0 x1 x2 x3 r4.2 x5))
   else
 i48_j8 m x0 x1 x2 x3 r3.2 x5))
noncomputable def i48_j4 (m:Nat) (x0:Int) (x1:Bool) (x2:Int) (x3:Bool) (x4 x5:Dt):Option (Dt×Dt):=
 i48_l5 m (Nat.succ m) x0 x1 x2 x3 x4 x5
noncomputable def i48_j3 (m:Nat) (x0:Int) (x1:Bool) (x2 x3:Dt):Option (Dt×Dt):=
 i48_j4 m x0 x1 0 false x2 x3
noncomputable def i48_j2 (m:Nat) (x0:Int) (x1:Bool) (x2:Int) (x3 x4:Dt):Option (Dt×Dt):=
 (bif (x2==48) then
  some (kz6243f,(Dt.agg [(Dt.str (Dt.S x3 0)),(Dt.int (IntKind.wrap .i64 ((Dt.I x3 1)+1))),(Dt.int (Dt.I x3 2)),(Dt.int (Dt.I x3 3)),(Dt.int (Dt.I x3 4))]))
 else
  i48_j3 m x0 x1 x3 x4)
noncomputable def i48_j1 (m:Nat) (x0:Int) (x1:Bool) (x2:Int) (x3:Bool) (x4 x5:Dt):Option (Dt×Dt):=
  (bif x3 then
   ((i31 m 4 (Dt.I x4 1) x4).bind fun r2=>
 some (kza2373,r2))
  else
   i48_j2 m x0 x1 x2 x4 x5)
noncomputable def i48_j0 (m:Nat) (x0:Int) (x1:Bool) (x2 x3:Dt):Option (Dt×Dt):=
  ((i29 m x2).bind fun r1=>
    (bif (decide (r1.1<48)) then
 i48_j1 m x0 x1 r1.1 true r1.2 x3
    else
 (bif (decide (57<r1.1)) then
 i48_j1 m x0 x1 r1.1 true r1.2 x3
 else
 (bif x1 then
 i48_j1 m x0 x1 r1.1 (r1.1==48) r1.2 x3
 else
 i48_j1 m x0 x1 r1.1 false r1.2 x3))))
noncomputable def i48:Nat→Dt→Option (Dt×Dt)
  |0,_=>none
  |m+1,a0=>
   ((i29 m a0).bind fun r0=>
   (bif (r0.1==45) then
 i48_j0 m (Dt.I a0 1) (r0.1==45) (Dt.agg [(Dt.str (Dt.S r0.2 0)),(Dt.int (IntKind.wrap .i64 ((Dt.I r0.2 1)+1))),(Dt.int (Dt.I r0.2 2)),(Dt.int (Dt.I r0.2 3)),(Dt.int (Dt.I r0.2 4))]) kza2373
   else
 i48_j0 m (Dt.I a0 1) (r0.1==45) r0.2 kza2373))
noncomputable def ref02_Same_j5 (m:Nat) (self49:Dt→Dt→Option Bool) (rec3:Int→Dt→Dt→Option Bool) (x0:Int) (x1 x2:Dt):Option Bool:=
 rec3 (IntKind.wrap .i64 (x0+1)) x1 x2
noncomputable def ref02_Same_j4 (m:Nat) (self49:Dt→Dt→Option Bool) (rec3:Int→Dt→Dt→Option Bool) (x0:Int) (x1 x2:Dt):Option Bool:=
  ((idx (Dt.L x1 3) x0).bind fun v0=>
    ((idx (Dt.L x2 3) x0).bind fun v1=>
 ((self49 v0 v1).bind fun r2=>
 (bif (Bool.not r2) then
 some false
 else
 ref02_Same_j5 m self49 rec3 x0 x1 x2))))
noncomputable def ref02_Same_j11 (m:Nat) (self49:Dt→Dt→Option Bool) (rec8:Int→Dt→Dt→Option Bool) (x0:Int) (x1 x2:Dt):Option Bool:=
 rec8 (IntKind.wrap .i64 (x0+1)) x1 x2
noncomputable def ref02_Same_j10 (m:Nat) (self49:Dt→Dt→Option Bool) (rec8:Int→Dt→Dt→Option Bool) (x0:Int) (x1:Bool) (x2 x3:Dt):Option Bool:=
 (bif x1 then
  some false
 else
  ref02_Same_j11 m self49 rec8 x0 x2 x3)
noncomputable def ref02_Same_j9 (m:Nat) (self49:Dt→Dt→Option Bool) (rec8:Int→Dt→Dt→Option Bool) (x0:Int) (x1 x2:Dt):Option Bool:=
  ((idx (Dt.L x1 4) x0).bind fun v3=>
    ((idx (Dt.L x2 4) x0).bind fun v4=>
 (bif (Bool.not ((ByteArray.toList (Dt.S v3 0))==(ByteArray.toList (Dt.S v4 0)))) then
 ref02_Same_j10 m self49 rec8 x0 true x1 x2
 else
 ((idx (Dt.L x1 4) x0).bind fun v5=>
 ((idx (Dt.L x2 4) x0).bind fun v6=>
 ((self49 (Dt.fld v5 1) (Dt.fld v6 1)).bind fun r7=>
 ref02_Same_j10 m self49 rec8 x0 (Bool.not r7) x1 x2))))))
noncomputable def ref02_Same_j12 (m:Nat) (self49:Dt→Dt→Option Bool):Option Bool:=
 some true
noncomputable def ref02_Same_l8 (m:Nat) (self49:Dt→Dt→Option Bool):Nat→Int→Dt→Dt→Option Bool
 |0,_,_,_=>none
 |M8+1,x0,x1,x2=>
  (bif (decide (x0<(List.length (Dt.L x1 4):Int))) then
  ref02_Same_j9 m self49 (ref02_Same_l8 m self49 M8) x0 x1 x2
 else
  ref02_Same_j12 m self49)
noncomputable def ref02_Same_j7 (m:Nat) (self49:Dt→Dt→Option Bool) (x0:Int) (x1 x2:Dt):Option Bool:=
 ref02_Same_l8 m self49 (Nat.succ m) x0 x1 x2
noncomputable def ref02_Same_j6 (m:Nat) (self49:Dt→Dt→Option Bool) (x0 x1:Dt):Option Bool:=
 ref02_Same_j7 m self49 0 x0 x1
noncomputable def ref02_Same_l3 (m:Nat) (self49:Dt→Dt→Option Bool):Nat→Int→Dt→Dt→Option Bool
 |0,_,_,_=>none
 |M3+1,x0,x1,x2=>
  (bif (decide (x0<(List.length (Dt.L x1 3):Int))) then
  ref02_Same_j4 m self49 (ref02_Same_l3 m self49 M3) x0 x1 x2
 else
  ref02_Same_j6 m self49 x1 x2)
noncomputable def ref02_Same_j2 (m:Nat) (self49:Dt→Dt→Option Bool) (x0:Int) (x1 x2:Dt):Option Bool:=
 ref02_Same_l3 m self49 (Nat.succ m) x0 x1 x2
noncomputable def ref02_Same_j1 (m:Nat) (self49:Dt→Dt→Option Bool) (x0 x1:Dt):Option Bool:=
 ref02_Same_j2 m self49 0 x0 x1
noncomputable def ref02_Same_j0 (m:Nat) (self49:Dt→Dt→Option Bool) (x0:Bool) (x1 x2:Dt):Option Bool:=
 (bif x0 then
  some false
 else
  ref02_Same_j1 m self49 x1 x2)
noncomputable def ref02_Same:Nat→Dt→Dt→Option Bool
  |0,_,_=>none
  |m+1,a0,a1=>
   (bif ((Dt.I a0 0) !=(Dt.I a1 0)) then
   ref02_Same_j0 m (ref02_Same m) true a0 a1
  else
   (bif ((Dt.I a0 1) !=(Dt.I a1 1)) then
 ref02_Same_j0 m (ref02_Same m) true a0 a1
   else
 (bif (Bool.not ((ByteArray.toList (Dt.S a0 2))==(ByteArray.toList (Dt.S a1 2)))) then
 ref02_Same_j0 m (ref02_Same m) true a0 a1
 else
 (bif ((List.length (Dt.L a0 3):Int) !=(List.length (Dt.L a1 3):Int)) then
 ref02_Same_j0 m (ref02_Same m) true a0 a1
 else
 ref02_Same_j0 m (ref02_Same m) ((List.length (Dt.L a0 4):Int) !=(List.length (Dt.L a1 4):Int)) a0 a1))))
noncomputable def ref05_Same:Nat→Dt→Dt→Option Bool
 |0,_,_=>none
 |m+1,a0,a1=>
  ((ref02_Same m a0 a1).bind fun r0=>
  some r0)
noncomputable def ref05_place_j3 (m:Nat) (rec1:Int→Int→Option Int) (x0 x1:Int):Option Int:=
 rec1 x0 (IntKind.wrap .i64 (x1+1))
noncomputable def ref05_place_j2 (m:Nat) (rec1:Int→Int→Option Int) (x0 x1:Int):Option Int:=
  ((idxS (ByteArray.mk (List.toArray [48,49,50,51,52,53,54,55,56,57,97,98,99,100,101,102])) x1).bind fun v0=>
    (bif (v0==x0) then
 some x1
    else
 ref05_place_j3 m rec1 x0 x1))
noncomputable def ref05_place_j4 (m:Nat):Option Int:=
 some (-1)
noncomputable def ref05_place_l1 (m:Nat):Nat→Int→Int→Option Int
 |0,_,_=>none
 |M1+1,x0,x1=>
  (bif (decide (x1<16)) then
  ref05_place_j2 m (ref05_place_l1 m M1) x0 x1
 else
  ref05_place_j4 m)
noncomputable def ref05_place_j0 (m:Nat) (x0 x1:Int):Option Int:=
 ref05_place_l1 m (Nat.succ m) x0 x1
noncomputable def ref05_place:Nat→Int→Option Int
 |0,_=>none
 |m+1,a0=>
  ref05_place_j0 m a0 0
noncomputable def ref05_hexadecimal_j1 (m:Nat) (x0:Int):Option Int:=
 ((ref05_place m x0).bind fun r0=>
   some r0)
noncomputable def ref05_hexadecimal_j0 (m:Nat) (x0:Int) (x1:Bool):Option Int:=
 (bif x1 then
  ref05_hexadecimal_j1 m (IntKind.wrap IntKind.u8 (x0+32))
 else
  ref05_hexadecimal_j1 m x0)
noncomputable def ref05_hexadecimal:Nat→Int→Option Int
 |0,_=>none
 |m+1,a0=>
  (bif (decide (65≤a0)) then
  ref05_hexadecimal_j0 m a0 (decide (a0≤70))
 else
  ref05_hexadecimal_j0 m a0 false)
noncomputable def i39_j6 (m:Nat) (rec1:Int→Int→Dt→Option (ByteArray×Dt)) (x0 x1:Int) (x2:Dt):Option (ByteArray×Dt):=
 rec1 x0 (IntKind.wrap .i64 (x1+1)) x2
noncomputable def i39_j5 (m:Nat) (rec1:Int→Int→Dt→Option (ByteArray×Dt)) (x0 x1 x2:Int) (x3:Dt):Option (ByteArray×Dt):=
 i39_j6 m rec1 (IntKind.wrap .i64 ((IntKind.wrap .i64 (16*x0))+x2)) x1 (Dt.agg [(Dt.str (Dt.S x3 0)),(Dt.int (IntKind.wrap .i64 ((Dt.I x3 1)+1))),(Dt.int (Dt.I x3 2)),(Dt.int (Dt.I x3 3)),(Dt.int (Dt.I x3 4))])
noncomputable def i39_j4 (m:Nat) (rec1:Int→Int→Dt→Option (ByteArray×Dt)) (x0 x1 x2:Int) (x3:Bool) (x4:Dt):Option (ByteArray×Dt):=
  (bif x3 then
   ((i31 m 4 (Dt.I x4 1) x4).bind fun r2=>
 some ((ByteArray.mk (List.toArray [])),r2))
  else
   i39_j5 m rec1 x0 x1 x2 x4)
noncomputable def i39_j3 (m:Nat) (rec1:Int→Int→Dt→Option (ByteArray×Dt)) (x0 x1 x2:Int) (x3:Dt):Option (ByteArray×Dt):=
  (bif (decide (x2<0)) then
   i39_j4 m rec1 x0 x1 x2 true x3
  else
   (bif (x1==1) then
 (bif (x0==13) then
 i39_j4 m rec1 x0 x1 x2 (decide (8≤x2)) x3
 else
 i39_j4 m rec1 x0 x1 x2 false x3)
   else
 i39_j4 m rec1 x0 x1 x2 false x3))
noncomputable def i39_j2 (m:Nat) (rec1:Int→Int→Dt→Option (ByteArray×Dt)) (x0 x1:Int) (x2:Dt):Option (ByteArray×Dt):=
  (bif (decide ((Dt.I x2 1)<(ByteArray.size (Dt.S x2 0):Int))) then
   ((idxS (Dt.S x2 0) (Dt.I x2 1)).bind fun v0=>
 ((ref05_hexadecimal m v0).bind fun r1=>
 i39_j3 m rec1 x0 x1 r1 x2))
  else
   i39_j3 m rec1 x0 x1 (-1) x2)
noncomputable def i39_j7 (m:Nat) (x0:Int) (x1:Dt):Option (ByteArray×Dt):=
 ((ref05_utf m x0).bind fun r3=>
   some (r3,x1))
noncomputable def i39_l1 (m:Nat):Nat→Int→Int→Dt→Option (ByteArray×Dt)
 |0,_,_,_=>none
 |M1+1,x0,x1,x2=>
  (bif (decide (x1<4)) then
  i39_j2 m (i39_l1 m M1) x0 x1 x2
 else
  i39_j7 m x0 x2)
noncomputable def i39_j0 (m:Nat) (x0 x1:Int) (x2:Dt):Option (ByteArray×Dt):=
 i39_l1 m (Nat.succ m) x0 x1 x2
noncomputable def i39:Nat→Dt→Option (ByteArray×Dt)
 |0,_=>none
 |m+1,a0=>
  i39_j0 m 0 0 a0
noncomputable def i38_j3 (m:Nat) (rec1:Int→Int→Dt→Option (ByteArray×Dt)) (x0 x1:Int) (x2:Dt):Option (ByteArray×Dt):=
 rec1 x0 (IntKind.wrap .i64 (x1+1)) x2
noncomputable def i38_j2 (m:Nat) (rec1:Int→Int→Dt→Option (ByteArray×Dt)) (x0 x1:Int) (x2:Dt):Option (ByteArray×Dt):=
  ((idxS (ByteArray.mk (List.toArray [34,92,47,98,102,110,114,116])) x1).bind fun v1=>
    (bif (x0==v1) then
 ((cutS (ByteArray.mk (List.toArray [34,92,47,8,12,10,13,9])) x1 (IntKind.wrap .i64 (x1+1))).bind fun v2=>
 some (v2,(Dt.agg [(Dt.str (Dt.S x2 0)),(Dt.int (IntKind.wrap .i64 ((Dt.I x2 1)+1))),(Dt.int (Dt.I x2 2)),(Dt.int (Dt.I x2 3)),(Dt.int (Dt.I x2 4))])))
    else
 i38_j3 m rec1 x0 x1 x2))
noncomputable def i38_j5 (m:Nat) (x0:Dt):Option (ByteArray×Dt):=
 ((i39 m (Dt.agg [(Dt.str (Dt.S x0 0)),(Dt.int (IntKind.wrap .i64 ((Dt.I x0 1)+1))),(Dt.int (Dt.I x0 2)),(Dt.int (Dt.I x0 3)),(Dt.int (Dt.I x0 4))])).bind fun r4=>
   some (r4.1,r4.2))
noncomputable def i38_j4 (m:Nat) (x0:Int) (x1:Dt):Option (ByteArray×Dt):=
  (bif (x0 !=117) then
   ((i31 m 4 (Dt.I x1 1) x1).bind fun r3=>
 some ((ByteArray.mk (List.toArray [])),r3))
  else
   i38_j5 m x1)
noncomputable def i38_l1 (m:Nat):Nat→Int→Int→Dt→Option (ByteArray×Dt)
 |0,_,_,_=>none
 |M1+1,x0,x1,x2=>
  (bif (decide (x1<8)) then
  i38_j2 m (i38_l1 m M1) x0 x1 x2
 else
  i38_j4 m x0 x2)
noncomputable def i38_j0 (m:Nat) (x0 x1:Int) (x2:Dt):Option (ByteArray×Dt):=
 i38_l1 m (Nat.succ m) x0 x1 x2
noncomputable def i38:Nat→Dt→Option (ByteArray×Dt)
 |0,_=>none
 |m+1,a0=>
  ((i29 m a0).bind fun r0=>
  i38_j0 m r0.1 0 r0.2)
noncomputable def i37_j4 (m:Nat) (rec1:ByteArray→Dt→Option (ByteArray×Dt)) (x0:ByteArray) (x1:Dt):Option (ByteArray×Dt):=
  ((idxS (Dt.S x1 0) (Dt.I x1 1)).bind fun v2=>
    (bif (v2==34) then
 some (x0,(Dt.agg [(Dt.str (Dt.S x1 0)),(Dt.int (IntKind.wrap .i64 ((Dt.I x1 1)+1))),(Dt.int (Dt.I x1 2)),(Dt.int (Dt.I x1 3)),(Dt.int (Dt.I x1 4))]))
    else
 (bif (v2==92) then
 ((i38 m (Dt.agg [(Dt.str (Dt.S x1 0)),(Dt.int (IntKind.wrap .i64 ((Dt.I x1 1)+1))),(Dt.int (Dt.I x1 2)),(Dt.int (Dt.I x1 3)),(Dt.int (Dt.I x1 4))])).bind fun r3=>
 (bif (Nat.ble ((ByteArray.size x0)+(ByteArray.size r3.1)) 1152921504606846976) then
 rec1 (x0++r3.1) r3.2
 else
 none))
 else
 (bif (Nat.ble ((ByteArray.size x0)+(ByteArray.size (strOfNums [v2]))) 1152921504606846976) then
 rec1 (x0++(strOfNums [v2])) (Dt.agg [(Dt.str (Dt.S x1 0)),(Dt.int (IntKind.wrap .i64 ((Dt.I x1 1)+1))),(Dt.int (Dt.I x1 2)),(Dt.int (Dt.I x1 3)),(Dt.int (Dt.I x1 4))])
 else
 none))))
noncomputable def i37_j3 (m:Nat) (rec1:ByteArray→Dt→Option (ByteArray×Dt)) (x0:ByteArray) (x1:Bool) (x2:Dt):Option (ByteArray×Dt):=
  (bif x1 then
   ((i31 m 4 (Dt.I x2 1) x2).bind fun r1=>
 some ((ByteArray.mk (List.toArray [])),r1))
  else
   i37_j4 m rec1 x0 x2)
noncomputable def i37_j2 (m:Nat) (rec1:ByteArray→Dt→Option (ByteArray×Dt)) (x0:ByteArray) (x1:Dt):Option (ByteArray×Dt):=
  (bif (decide ((ByteArray.size (Dt.S x1 0):Int)≤(Dt.I x1 1))) then
   i37_j3 m rec1 x0 true x1
  else
   ((idxS (Dt.S x1 0) (Dt.I x1 1)).bind fun v4=>
 i37_j3 m rec1 x0 (decide (v4<32)) x1))
noncomputable def i37_j5 (m:Nat) (x0:ByteArray) (x1:Dt):Option (ByteArray×Dt):=
 some (x0,x1)
noncomputable def i37_l1 (m:Nat):Nat→ByteArray→Dt→Option (ByteArray×Dt)
 |0,_,_=>none
 |M1+1,x0,x1=>
  (bif ((Dt.I x1 3)==0) then
  i37_j2 m (i37_l1 m M1) x0 x1
 else
  i37_j5 m x0 x1)
noncomputable def i37_j0 (m:Nat) (x0:ByteArray) (x1:Dt):Option (ByteArray×Dt):=
 i37_l1 m (Nat.succ m) x0 x1
noncomputable def i37:Nat→Dt→Option (ByteArray×Dt)
 |0,_=>none
 |m+1,a0=>
  ((i34 m 34 a0).bind fun r0=>
  i37_j0 m (ByteArray.mk (List.toArray [])) r0)
noncomputable def i36_j4 (m:Nat) (rec2:Int→ByteArray→Int→Dt→List Dt→Option (ByteArray×Dt×List Dt)) (x0:Int) (x1:ByteArray) (x2:Int) (x3:Dt) (x4:List Dt):Option (ByteArray×Dt×List Dt):=
 rec2 x0 x1 (IntKind.wrap .i64 (x2+1)) x3 x4
noncomputable def i36_j3 (m:Nat) (rec2:Int→ByteArray→Int→Dt→List Dt→Option (ByteArray×Dt×List Dt)) (x0:Int) (x1:ByteArray) (x2:Int) (x3:Dt) (x4:List Dt):Option (ByteArray×Dt×List Dt):=
  ((inL x4 x2).bind fun v2=>
    ((x4[(Int.toNat x2)]?).bind fun v3=>
 (bif ((ByteArray.toList (Dt.S v3 0))==(ByteArray.toList x1)) then
 ((i31 m 4 x0 x3).bind fun r4=>
 i36_j4 m rec2 x0 x1 x2 r4 x4)
 else
 i36_j4 m rec2 x0 x1 x2 x3 x4)))
noncomputable def i36_j5 (m:Nat) (x0:ByteArray) (x1:Dt) (x2:List Dt):Option (ByteArray×Dt×List Dt):=
 some (x0,x1,x2)
noncomputable def i36_l2 (m:Nat):Nat→Int→ByteArray→Int→Dt→List Dt→Option (ByteArray×Dt×List Dt)
 |0,_,_,_,_,_=>none
 |M2+1,x0,x1,x2,x3,x4=>
  (bif (decide (x2<(List.length x4:Int))) then
  i36_j3 m (i36_l2 m M2) x0 x1 x2 x3 x4
 else
  i36_j5 m x1 x3 x4)
noncomputable def i36_j1 (m:Nat) (x0:Int) (x1:ByteArray) (x2:Int) (x3:Dt) (x4:List Dt):Option (ByteArray×Dt×List Dt):=
 i36_l2 m (Nat.succ m) x0 x1 x2 x3 x4
noncomputable def i36_j0 (m:Nat) (x0:Int) (x1:ByteArray) (x2:Dt) (x3:List Dt):Option (ByteArray×Dt×List Dt):=
 i36_j1 m x0 x1 0 x2 x3
noncomputable def i36:Nat→Dt→List Dt→Option (ByteArray×Dt×List Dt)
  |0,_,_=>none
  |m+1,a0,a1=>
   ((i37 m a0).bind fun r0=>
   (bif (decide (128<(ByteArray.size r0.1:Int))) then
 ((i31 m 2 (Dt.I a0 1) r0.2).bind fun r1=>
 i36_j0 m (Dt.I a0 1) r0.1 r1 a1)
   else
 ((ref05_Label m r0.1).bind fun r5=>
 (bif (Bool.not r5) then
 ((i31 m 4 (Dt.I a0 1) r0.2).bind fun r6=>
 i36_j0 m (Dt.I a0 1) r0.1 r6 a1)
 else
 i36_j0 m (Dt.I a0 1) r0.1 r0.2 a1))))
noncomputable def ref05_unhex_j6 (m:Nat) (rec2:ByteArray→ByteArray→Int→Option (ByteArray×Bool)) (x0 x1:ByteArray) (x2:Int):Option (ByteArray×Bool):=
 rec2 x0 x1 (IntKind.wrap .i64 (x2+2))
noncomputable def ref05_unhex_j5 (m:Nat) (rec2:ByteArray→ByteArray→Int→Option (ByteArray×Bool)) (x0 x1:ByteArray) (x2 x3 x4:Int):Option (ByteArray×Bool):=
 (bif (Nat.ble ((ByteArray.size x1)+(ByteArray.size (strOfNums [(IntKind.wrap IntKind.u8 (IntKind.wrap .i64 ((IntKind.wrap .i64 (16*x3))+x4)))]))) 1152921504606846976) then
  ref05_unhex_j6 m rec2 x0 (x1++(strOfNums [(IntKind.wrap IntKind.u8 (IntKind.wrap .i64 ((IntKind.wrap .i64 (16*x3))+x4)))])) x2
 else
  none)
noncomputable def ref05_unhex_j4 (m:Nat) (rec2:ByteArray→ByteArray→Int→Option (ByteArray×Bool)) (x0 x1:ByteArray) (x2 x3 x4:Int) (x5:Bool):Option (ByteArray×Bool):=
 (bif x5 then
  some ((ByteArray.mk (List.toArray [])),false)
 else
  ref05_unhex_j5 m rec2 x0 x1 x2 x3 x4)
noncomputable def ref05_unhex_j3 (m:Nat) (rec2:ByteArray→ByteArray→Int→Option (ByteArray×Bool)) (x0 x1:ByteArray) (x2:Int):Option (ByteArray×Bool):=
  ((idxS x0 x2).bind fun v0=>
    ((ref05_place m v0).bind fun r1=>
 ((idxS x0 (IntKind.wrap .i64 (x2+1))).bind fun v2=>
 ((ref05_place m v2).bind fun r3=>
 (bif (decide (r1<0)) then
 ref05_unhex_j4 m rec2 x0 x1 x2 r1 r3 true
 else
 ref05_unhex_j4 m rec2 x0 x1 x2 r1 r3 (decide (r3<0)))))))
noncomputable def ref05_unhex_j7 (m:Nat) (x0:ByteArray):Option (ByteArray×Bool):=
 some (x0,true)
noncomputable def ref05_unhex_l2 (m:Nat):Nat→ByteArray→ByteArray→Int→Option (ByteArray×Bool)
 |0,_,_,_=>none
 |M2+1,x0,x1,x2=>
  (bif (decide (x2<(ByteArray.size x0:Int))) then
  ref05_unhex_j3 m (ref05_unhex_l2 m M2) x0 x1 x2
 else
  ref05_unhex_j7 m x1)
noncomputable def ref05_unhex_j1 (m:Nat) (x0 x1:ByteArray) (x2:Int):Option (ByteArray×Bool):=
 ref05_unhex_l2 m (Nat.succ m) x0 x1 x2
noncomputable def ref05_unhex_j0 (m:Nat) (x0:ByteArray):Option (ByteArray×Bool):=
 ref05_unhex_j1 m x0 (ByteArray.mk (List.toArray [])) 0
noncomputable def ref05_unhex:Nat→ByteArray→Option (ByteArray×Bool)
 |0,_=>none
 |m+1,a0=>
  (bif ((Int.tmod (ByteArray.size a0:Int) 2)==1) then
  some ((ByteArray.mk (List.toArray [])),false)
 else
  ref05_unhex_j0 m a0)
noncomputable def i43_j7 (m:Nat) (x0:List Dt) (x1:Dt):Option (Dt×Bool×List Dt):=
 some (kza2373,false,x0)
noncomputable def i43_j6 (m:Nat) (x0:Bool) (x1:List Dt) (x2:Dt):Option (Dt×Bool×List Dt):=
 (bif x0 then
  some (kzedecf,true,x1)
 else
  i43_j7 m x1 x2)
noncomputable def i43_j5 (m:Nat) (x0:Bool) (x1:List Dt) (x2 x3:Dt):Option (Dt×Bool×List Dt):=
  (bif x0 then
   some (kz2ef54,true,x1)
  else
   ((inL x1 0).bind fun v11=>
 ((x1[0]?).bind fun v12=>
 (bif ((ByteArray.toList (Dt.S v12 0))==[36,109,97,120]) then
 (bif ((Dt.I x3 0)==3) then
 i43_j6 m ((Dt.I x3 1)==1) x1 x2
 else
 i43_j6 m false x1 x2)
 else
 i43_j6 m false x1 x2))))
noncomputable def i43_j4 (m:Nat) (x0:Bool) (x1:List Dt) (x2 x3:Dt):Option (Dt×Bool×List Dt):=
  (bif x0 then
   some ((Dt.agg [(Dt.int 10),(Dt.int (Dt.I x3 1)),(Dt.str (ByteArray.mk (List.toArray []))),(Dt.lst []),(Dt.lst [])]),true,x1)
  else
   ((inL x1 0).bind fun v9=>
 ((x1[0]?).bind fun v10=>
 (bif ((ByteArray.toList (Dt.S v10 0))==[36,109,105,110]) then
 (bif ((Dt.I x3 0)==3) then
 i43_j5 m ((Dt.I x3 1)==1) x1 x2 x3
 else
 i43_j5 m false x1 x2 x3)
 else
 i43_j5 m false x1 x2 x3))))
noncomputable def i43_j3 (m:Nat) (x0:ByteArray) (x1:Bool) (x2:List Dt) (x3 x4:Dt):Option (Dt×Bool×List Dt):=
  (bif x1 then
   some ((Dt.agg [(Dt.int 7),(Dt.int 0),(Dt.str x0),(Dt.lst []),(Dt.lst [])]),true,x2)
  else
   ((inL x2 0).bind fun v7=>
 ((x2[0]?).bind fun v8=>
 (bif ((ByteArray.toList (Dt.S v8 0))==[36,116,105,109,101]) then
 (bif ((Dt.I x4 0)==3) then
 i43_j4 m (decide (0≤(Dt.I x4 1))) x2 x3 x4
 else
 i43_j4 m false x2 x3 x4)
 else
 i43_j4 m false x2 x3 x4))))
noncomputable def i43_j2 (m:Nat) (x0:ByteArray) (x1 x2:Bool) (x3:List Dt) (x4 x5:Dt):Option (Dt×Bool×List Dt):=
  (bif x2 then
   some ((Dt.agg [(Dt.int 8),(Dt.int 0),(Dt.str x0),(Dt.lst []),(Dt.lst [])]),true,x3)
  else
   ((inL x3 0).bind fun v5=>
 ((x3[0]?).bind fun v6=>
 (bif ((ByteArray.toList (Dt.S v6 0))==[36,98,121,116,101,115]) then
 i43_j3 m x0 x1 x3 x4 x5
 else
 i43_j3 m x0 false x3 x4 x5))))
noncomputable def i43_j1 (m:Nat) (x0:ByteArray) (x1:Bool) (x2:List Dt) (x3 x4:Dt):Option (Dt×Bool×List Dt):=
  ((inL x2 0).bind fun v3=>
    ((x2[0]?).bind fun v4=>
 (bif ((ByteArray.toList (Dt.S v4 0))==[36,105,100]) then
 (bif x1 then
 i43_j2 m x0 x1 ((ByteArray.size x0:Int)==12) x2 x3 x4
 else
 i43_j2 m x0 x1 false x2 x3 x4)
 else
 i43_j2 m x0 x1 false x2 x3 x4)))
noncomputable def i43_j0 (m:Nat) (x0:List Dt) (x1:Dt):Option (Dt×Bool×List Dt):=
  ((inL x0 0).bind fun v0=>
    ((x0[0]?).bind fun v1=>
 (bif ((Dt.I (Dt.fld v1 1) 0)==4) then
 ((ref05_unhex m (Dt.S (Dt.fld v1 1) 2)).bind fun r2=>
 i43_j1 m r2.1 r2.2 x0 x1 (Dt.fld v1 1))
 else
 i43_j1 m (ByteArray.mk (List.toArray [])) false x0 x1 (Dt.fld v1 1))))
noncomputable def i43:Nat→List Dt→Option (Dt×Bool×List Dt)
 |0,_=>none
 |m+1,a0=>
  (bif ((List.length a0:Int) !=1) then
  some (kza2373,false,a0)
 else
  i43_j0 m a0 kza2373)
noncomputable def ref01_Parts_j3 (m:Nat) (rec1:Int→Dt→List Dt→Option (List Dt)) (x0:Int) (x1:Dt) (x2:List Dt):Option (List Dt):=
 rec1 (IntKind.wrap .i64 (x0+1)) x1 x2
noncomputable def ref01_Parts_j2 (m:Nat) (rec1:Int→Dt→List Dt→Option (List Dt)) (x0:Int) (x1:Dt) (x2:List Dt):Option (List Dt):=
  ((idx (Dt.L x1 3) x0).bind fun v0=>
    ((app x2 [v0]).bind fun v1=>
 ref01_Parts_j3 m rec1 x0 x1 v1))
noncomputable def ref01_Parts_j8 (m:Nat) (rec6:Int→Dt→List Dt→Option (List Dt)) (x0:Int) (x1:Dt) (x2:List Dt):Option (List Dt):=
 rec6 (IntKind.wrap .i64 (x0+1)) x1 x2
noncomputable def ref01_Parts_j7 (m:Nat) (rec6:Int→Dt→List Dt→Option (List Dt)) (x0:Int) (x1:Dt) (x2:List Dt):Option (List Dt):=
  ((idx (Dt.L x1 4) x0).bind fun v2=>
    ((app x2 [(Dt.fld v2 1)]).bind fun v3=>
 ref01_Parts_j8 m rec6 x0 x1 v3))
noncomputable def ref01_Parts_j9 (m:Nat) (x0:List Dt):Option (List Dt):=
 some x0
noncomputable def ref01_Parts_l6 (m:Nat):Nat→Int→Dt→List Dt→Option (List Dt)
 |0,_,_,_=>none
 |M6+1,x0,x1,x2=>
  (bif (decide (x0<(List.length (Dt.L x1 4):Int))) then
  ref01_Parts_j7 m (ref01_Parts_l6 m M6) x0 x1 x2
 else
  ref01_Parts_j9 m x2)
noncomputable def ref01_Parts_j5 (m:Nat) (x0:Int) (x1:Dt) (x2:List Dt):Option (List Dt):=
 ref01_Parts_l6 m (Nat.succ m) x0 x1 x2
noncomputable def ref01_Parts_j4 (m:Nat) (x0:Dt) (x1:List Dt):Option (List Dt):=
 (bif ((Dt.I x0 0)==5) then
  ref01_Parts_j5 m 0 x0 x1
 else
  ref01_Parts_j9 m x1)
noncomputable def ref01_Parts_l1 (m:Nat):Nat→Int→Dt→List Dt→Option (List Dt)
 |0,_,_,_=>none
 |M1+1,x0,x1,x2=>
  (bif (decide (x0<(List.length (Dt.L x1 3):Int))) then
  ref01_Parts_j2 m (ref01_Parts_l1 m M1) x0 x1 x2
 else
  ref01_Parts_j4 m x1 x2)
noncomputable def ref01_Parts_j0 (m:Nat) (x0:Int) (x1:Dt) (x2:List Dt):Option (List Dt):=
 ref01_Parts_l1 m (Nat.succ m) x0 x1 x2
noncomputable def ref01_Parts:Nat→Dt→Option (List Dt)
 |0,_=>none
 |m+1,a0=>
  (bif ((Dt.I a0 0)==6) then
  ref01_Parts_j0 m 0 a0 []
 else
  ref01_Parts_j4 m a0 [])
noncomputable def ref01_levels_j5 (m:Nat) (self54:Dt→Int→Option Int) (rec3:Int→List Dt→Int→Int→Option Int) (x0:Int) (x1:List Dt) (x2 x3:Int):Option Int:=
 rec3 x0 x1 x2 (IntKind.wrap .i64 (x3+1))
noncomputable def ref01_levels_j4 (m:Nat) (self54:Dt→Int→Option Int) (rec3:Int→List Dt→Int→Int→Option Int) (x0:Int) (x1:List Dt) (x2 x3:Int):Option Int:=
  ((idx x1 x3).bind fun v1=>
    ((self54 v1 (IntKind.wrap .i64 (x0-1))).bind fun r2=>
 ref01_levels_j5 m self54 rec3 x0 x1 (bif (decide (x2<r2)) then r2 else x2) x3))
noncomputable def ref01_levels_j6 (m:Nat) (self54:Dt→Int→Option Int) (x0:Int):Option Int:=
 some (IntKind.wrap .i64 (x0+1))
noncomputable def ref01_levels_l3 (m:Nat) (self54:Dt→Int→Option Int):Nat→Int→List Dt→Int→Int→Option Int
 |0,_,_,_,_=>none
 |M3+1,x0,x1,x2,x3=>
  (bif (decide (x3<(List.length x1:Int))) then
  ref01_levels_j4 m self54 (ref01_levels_l3 m self54 M3) x0 x1 x2 x3
 else
  ref01_levels_j6 m self54 x2)
noncomputable def ref01_levels_j2 (m:Nat) (self54:Dt→Int→Option Int) (x0:Int) (x1:List Dt) (x2 x3:Int):Option Int:=
 ref01_levels_l3 m self54 (Nat.succ m) x0 x1 x2 x3
noncomputable def ref01_levels_j1 (m:Nat) (self54:Dt→Int→Option Int) (x0:Int) (x1:List Dt):Option Int:=
 ref01_levels_j2 m self54 x0 x1 0 0
noncomputable def ref01_levels_j0 (m:Nat) (self54:Dt→Int→Option Int) (x0:Int) (x1:List Dt) (x2:Bool):Option Int:=
 (bif x2 then
  some 1
 else
  ref01_levels_j1 m self54 x0 x1)
noncomputable def ref01_levels:Nat→Dt→Int→Option Int
  |0,_,_=>none
  |m+1,a0,a1=>
   ((ref01_Parts m a0).bind fun r0=>
   (bif (decide (a1<2)) then
 ref01_levels_j0 m (ref01_levels m) a1 r0 true
   else
 ref01_levels_j0 m (ref01_levels m) a1 r0 ((List.length r0:Int)==0)))
noncomputable def ref01_Depth:Nat→Dt→Option Int
 |0,_=>none
 |m+1,a0=>
  ((ref01_levels m a0 17).bind fun r0=>
  some r0)
noncomputable def ref01_count_j3 (m:Nat) (self55:Dt→Int→Option Int) (rec1:Int→Int→List Dt→Int→Option Int) (x0 x1:Int) (x2:List Dt) (x3:Int):Option Int:=
 rec1 x0 x1 x2 (IntKind.wrap .i64 (x3+1))
noncomputable def ref01_count_j2 (m:Nat) (self55:Dt→Int→Option Int) (rec1:Int→Int→List Dt→Int→Option Int) (x0 x1:Int) (x2:List Dt) (x3:Int):Option Int:=
  ((idx x2 x3).bind fun v1=>
    ((self55 v1 (IntKind.wrap .i64 (x0-x1))).bind fun r2=>
 ref01_count_j3 m self55 rec1 x0 (IntKind.wrap .i64 (x1+r2)) x2 x3))
noncomputable def ref01_count_j4 (m:Nat) (self55:Dt→Int→Option Int) (x0:Int):Option Int:=
 some x0
noncomputable def ref01_count_l1 (m:Nat) (self55:Dt→Int→Option Int):Nat→Int→Int→List Dt→Int→Option Int
  |0,_,_,_,_=>none
  |M1+1,x0,x1,x2,x3=>
   (bif (decide (x3<(List.length x2:Int))) then
   (bif (decide (x1<x0)) then
 ref01_count_j2 m self55 (ref01_count_l1 m self55 M1) x0 x1 x2 x3
   else
 ref01_count_j4 m self55 x1)
  else
   ref01_count_j4 m self55 x1)
noncomputable def ref01_count_j0 (m:Nat) (self55:Dt→Int→Option Int) (x0 x1:Int) (x2:List Dt) (x3:Int):Option Int:=
 ref01_count_l1 m self55 (Nat.succ m) x0 x1 x2 x3
noncomputable def ref01_count:Nat→Dt→Int→Option Int
 |0,_,_=>none
 |m+1,a0,a1=>
  ((ref01_Parts m a0).bind fun r0=>
  ref01_count_j0 m (ref01_count m) a1 1 r0 0)
noncomputable def ref01_Nodes:Nat→Dt→Option Int
 |0,_=>none
 |m+1,a0=>
  ((ref01_count m a0 1025).bind fun r0=>
  some r0)
noncomputable def ref01_tail_j5 (m:Nat) (rec2:ByteArray→Int→Int→Int→Option Bool) (x0:ByteArray) (x1 x2 x3:Int):Option Bool:=
 rec2 x0 x1 x2 (IntKind.wrap .i64 (x3+1))
noncomputable def ref01_tail_j4 (m:Nat) (rec2:ByteArray→Int→Int→Int→Option Bool) (x0:ByteArray) (x1 x2 x3:Int) (x4:Bool):Option Bool:=
 (bif x4 then
  some false
 else
  ref01_tail_j5 m rec2 x0 x1 x2 x3)
noncomputable def ref01_tail_j3 (m:Nat) (rec2:ByteArray→Int→Int→Int→Option Bool) (x0:ByteArray) (x1 x2 x3:Int):Option Bool:=
  ((idxS x0 (IntKind.wrap .i64 (x1+x3))).bind fun v0=>
    (bif (decide (v0<128)) then
 ref01_tail_j4 m rec2 x0 x1 x2 x3 true
    else
 ((idxS x0 (IntKind.wrap .i64 (x1+x3))).bind fun v1=>
 ref01_tail_j4 m rec2 x0 x1 x2 x3 (decide (191<v1)))))
noncomputable def ref01_tail_j6 (m:Nat):Option Bool:=
 some true
noncomputable def ref01_tail_l2 (m:Nat):Nat→ByteArray→Int→Int→Int→Option Bool
 |0,_,_,_,_=>none
 |M2+1,x0,x1,x2,x3=>
  (bif (decide (x3<x2)) then
  ref01_tail_j3 m (ref01_tail_l2 m M2) x0 x1 x2 x3
 else
  ref01_tail_j6 m)
noncomputable def ref01_tail_j1 (m:Nat) (x0:ByteArray) (x1 x2 x3:Int):Option Bool:=
 ref01_tail_l2 m (Nat.succ m) x0 x1 x2 x3
noncomputable def ref01_tail_j0 (m:Nat) (x0:ByteArray) (x1 x2:Int):Option Bool:=
 ref01_tail_j1 m x0 x1 x2 0
noncomputable def ref01_tail:Nat→ByteArray→Int→Int→Option Bool
 |0,_,_,_=>none
 |m+1,a0,a1,a2=>
  (bif (decide ((ByteArray.size a0:Int)<(IntKind.wrap .i64 (a1+a2)))) then
  some false
 else
  ref01_tail_j0 m a0 a1 a2)
noncomputable def ref01_UTF8_j6 (m:Nat) (rec1:ByteArray→Int→Option Bool) (x0:ByteArray) (x1 x2:Int):Option Bool:=
 rec1 x0 (IntKind.wrap .i64 ((IntKind.wrap .i64 (x1+x2))+1))
noncomputable def ref01_UTF8_j5 (m:Nat) (rec1:ByteArray→Int→Option Bool) (x0:ByteArray) (x1 x2:Int) (x3:Bool):Option Bool:=
 (bif x3 then
  some false
 else
  ref01_UTF8_j6 m rec1 x0 x1 x2)
noncomputable def ref01_UTF8_j4 (m:Nat) (rec1:ByteArray→Int→Option Bool) (x0:ByteArray) (x1 x2 x3:Int):Option Bool:=
  (bif (x2==224) then
   ((idxS x0 (IntKind.wrap .i64 (x1+1))).bind fun v2=>
 (bif (decide (v2<160)) then
 ref01_UTF8_j5 m rec1 x0 x1 x3 true
 else
 (bif (x2==237) then
 ((idxS x0 (IntKind.wrap .i64 (x1+1))).bind fun v3=>
 (bif (decide (159<v3)) then
 ref01_UTF8_j5 m rec1 x0 x1 x3 true
 else
 (bif (x2==240) then
 ((idxS x0 (IntKind.wrap .i64 (x1+1))).bind fun v4=>
 (bif (decide (v4<144)) then
 ref01_UTF8_j5 m rec1 x0 x1 x3 true
 else
 (bif (x2==244) then
 ((idxS x0 (IntKind.wrap .i64 (x1+1))).bind fun v5=>
 ref01_UTF8_j5 m rec1 x0 x1 x3 (decide (143<v5)))
 else
 ref01_UTF8_j5 m rec1 x0 x1 x3 false)))
 else
 (bif (x2==244) then
 ((idxS x0 (IntKind.wrap .i64 (x1+1))).bind fun v6=>
 ref01_UTF8_j5 m rec1 x0 x1 x3 (decide (143<v6)))
 else
 ref01_UTF8_j5 m rec1 x0 x1 x3 false))))
 else
 (bif (x2==240) then
 ((idxS x0 (IntKind.wrap .i64 (x1+1))).bind fun v7=>
 (bif (decide (v7<144)) then
 ref01_UTF8_j5 m rec1 x0 x1 x3 true
 else
 (bif (x2==244) then
 ((idxS x0 (IntKind.wrap .i64 (x1+1))).bind fun v8=>
 ref01_UTF8_j5 m rec1 x0 x1 x3 (decide (143<v8)))
 else
 ref01_UTF8_j5 m rec1 x0 x1 x3 false)))
 else
 (bif (x2==244) then
 ((idxS x0 (IntKind.wrap .i64 (x1+1))).bind fun v9=>
 ref01_UTF8_j5 m rec1 x0 x1 x3 (decide (143<v9)))
 else
 ref01_UTF8_j5 m rec1 x0 x1 x3 false)))))
  else
   (bif (x2==237) then
 ((idxS x0 (IntKind.wrap .i64 (x1+1))).bind fun v10=>
 (bif (decide (159<v10)) then
 ref01_UTF8_j5 m rec1 x0 x1 x3 true
 else
 (bif (x2==240) then
 ((idxS x0 (IntKind.wrap .i64 (x1+1))).bind fun v11=>
 (bif (decide (v11<144)) then
 ref01_UTF8_j5 m rec1 x0 x1 x3 true
 else
 (bif (x2==244) then
 ((idxS x0 (IntKind.wrap .i64 (x1+1))).bind fun v12=>
 ref01_UTF8_j5 m rec1 x0 x1 x3 (decide (143<v12)))
 else
 ref01_UTF8_j5 m rec1 x0 x1 x3 false)))
 else
 (bif (x2==244) then
 ((idxS x0 (IntKind.wrap .i64 (x1+1))).bind fun v13=>
 ref01_UTF8_j5 m rec1 x0 x1 x3 (decide (143<v13)))
 else
 ref01_UTF8_j5 m rec1 x0 x1 x3 false))))
   else
 (bif (x2==240) then
 ((idxS x0 (IntKind.wrap .i64 (x1+1))).bind fun v14=>
 (bif (decide (v14<144)) then
 ref01_UTF8_j5 m rec1 x0 x1 x3 true
 else
 (bif (x2==244) then
 ((idxS x0 (IntKind.wrap .i64 (x1+1))).bind fun v15=>
 ref01_UTF8_j5 m rec1 x0 x1 x3 (decide (143<v15)))
 else
 ref01_UTF8_j5 m rec1 x0 x1 x3 false)))
 else
 (bif (x2==244) then
 ((idxS x0 (IntKind.wrap .i64 (x1+1))).bind fun v16=>
 ref01_UTF8_j5 m rec1 x0 x1 x3 (decide (143<v16)))
 else
 ref01_UTF8_j5 m rec1 x0 x1 x3 false))))
noncomputable def ref01_UTF8_j3 (m:Nat) (rec1:ByteArray→Int→Option Bool) (x0:ByteArray) (x1 x2 x3:Int):Option Bool:=
  ((ref01_tail m x0 (IntKind.wrap .i64 (x1+1)) x3).bind fun r1=>
    (bif (Bool.not r1) then
 some false
    else
 ref01_UTF8_j4 m rec1 x0 x1 x2 x3))
noncomputable def ref01_UTF8_j9 (m:Nat) (rec1:ByteArray→Int→Option Bool) (x0:ByteArray) (x1 x2:Int) (x3:Bool):Option Bool:=
 (bif x3 then
  ref01_UTF8_j3 m rec1 x0 x1 x2 3
 else
  some false)
noncomputable def ref01_UTF8_j8 (m:Nat) (rec1:ByteArray→Int→Option Bool) (x0:ByteArray) (x1 x2:Int) (x3:Bool):Option Bool:=
  (bif x3 then
   ref01_UTF8_j3 m rec1 x0 x1 x2 2
  else
   (bif (decide (240≤x2)) then
 ref01_UTF8_j9 m rec1 x0 x1 x2 (decide (x2≤244))
   else
 ref01_UTF8_j9 m rec1 x0 x1 x2 false))
noncomputable def ref01_UTF8_j7 (m:Nat) (rec1:ByteArray→Int→Option Bool) (x0:ByteArray) (x1 x2:Int) (x3:Bool):Option Bool:=
  (bif x3 then
   ref01_UTF8_j3 m rec1 x0 x1 x2 1
  else
   (bif (decide (224≤x2)) then
 ref01_UTF8_j8 m rec1 x0 x1 x2 (decide (x2≤239))
   else
 ref01_UTF8_j8 m rec1 x0 x1 x2 false))
noncomputable def ref01_UTF8_j2 (m:Nat) (rec1:ByteArray→Int→Option Bool) (x0:ByteArray) (x1:Int):Option Bool:=
  ((idxS x0 x1).bind fun v0=>
    (bif (decide (v0<128)) then
 ref01_UTF8_j3 m rec1 x0 x1 v0 0
    else
 (bif (decide (194≤v0)) then
 ref01_UTF8_j7 m rec1 x0 x1 v0 (decide (v0≤223))
 else
 ref01_UTF8_j7 m rec1 x0 x1 v0 false)))
noncomputable def ref01_UTF8_j10 (m:Nat):Option Bool:=
 some true
noncomputable def ref01_UTF8_l1 (m:Nat):Nat→ByteArray→Int→Option Bool
 |0,_,_=>none
 |M1+1,x0,x1=>
  (bif (decide (x1<(ByteArray.size x0:Int))) then
  ref01_UTF8_j2 m (ref01_UTF8_l1 m M1) x0 x1
 else
  ref01_UTF8_j10 m)
noncomputable def ref01_UTF8_j0 (m:Nat) (x0:ByteArray) (x1:Int):Option Bool:=
 ref01_UTF8_l1 m (Nat.succ m) x0 x1
noncomputable def ref01_UTF8:Nat→ByteArray→Option Bool
 |0,_=>none
 |m+1,a0=>
  ref01_UTF8_j0 m a0 0
noncomputable def ref01_Name_j6 (m:Nat) (rec3:ByteArray→Int→Option Bool) (x0:ByteArray) (x1:Int):Option Bool:=
 rec3 x0 (IntKind.wrap .i64 (x1+1))
noncomputable def ref01_Name_j5 (m:Nat) (rec3:ByteArray→Int→Option Bool) (x0:ByteArray) (x1:Int) (x2:Bool):Option Bool:=
 (bif x2 then
  some false
 else
  ref01_Name_j6 m rec3 x0 x1)
noncomputable def ref01_Name_j4 (m:Nat) (rec3:ByteArray→Int→Option Bool) (x0:ByteArray) (x1:Int):Option Bool:=
  ((idxS x0 x1).bind fun v0=>
    (bif (decide (v0<33)) then
 ref01_Name_j5 m rec3 x0 x1 true
    else
 ((idxS x0 x1).bind fun v1=>
 (bif (decide (126<v1)) then
 ref01_Name_j5 m rec3 x0 x1 true
 else
 ((idxS x0 x1).bind fun v2=>
 ref01_Name_j5 m rec3 x0 x1 (v2==46))))))
noncomputable def ref01_Name_j7 (m:Nat):Option Bool:=
 some true
noncomputable def ref01_Name_l3 (m:Nat):Nat→ByteArray→Int→Option Bool
 |0,_,_=>none
 |M3+1,x0,x1=>
  (bif (decide (x1<(ByteArray.size x0:Int))) then
  ref01_Name_j4 m (ref01_Name_l3 m M3) x0 x1
 else
  ref01_Name_j7 m)
noncomputable def ref01_Name_j2 (m:Nat) (x0:ByteArray) (x1:Int):Option Bool:=
 ref01_Name_l3 m (Nat.succ m) x0 x1
noncomputable def ref01_Name_j1 (m:Nat) (x0:ByteArray):Option Bool:=
 ref01_Name_j2 m x0 0
noncomputable def ref01_Name_j0 (m:Nat) (x0:ByteArray) (x1:Bool):Option Bool:=
 (bif x1 then
  some false
 else
  ref01_Name_j1 m x0)
noncomputable def ref01_Name:Nat→ByteArray→Option Bool
  |0,_=>none
  |m+1,a0=>
   (bif (decide ((ByteArray.size a0:Int)<1)) then
   ref01_Name_j0 m a0 true
  else
   (bif (decide (32<(ByteArray.size a0:Int))) then
 ref01_Name_j0 m a0 true
   else
 ((idxS a0 0).bind fun v3=>
 ref01_Name_j0 m a0 (v3==36))))
noncomputable def ref01_wide_j6 (m:Nat) (rec3:ByteArray→Int→Option Bool) (x0:ByteArray) (x1:Int):Option Bool:=
 rec3 x0 (IntKind.wrap .i64 (x1+1))
noncomputable def ref01_wide_j5 (m:Nat) (rec3:ByteArray→Int→Option Bool) (x0:ByteArray) (x1:Int) (x2:Bool):Option Bool:=
 (bif x2 then
  some false
 else
  ref01_wide_j6 m rec3 x0 x1)
noncomputable def ref01_wide_j4 (m:Nat) (rec3:ByteArray→Int→Option Bool) (x0:ByteArray) (x1:Int):Option Bool:=
  ((idxS x0 x1).bind fun v0=>
    (bif (decide (v0<32)) then
 ref01_wide_j5 m rec3 x0 x1 true
    else
 ((idxS x0 x1).bind fun v1=>
 ref01_wide_j5 m rec3 x0 x1 (decide (126<v1)))))
noncomputable def ref01_wide_j7 (m:Nat):Option Bool:=
 some true
noncomputable def ref01_wide_l3 (m:Nat):Nat→ByteArray→Int→Option Bool
 |0,_,_=>none
 |M3+1,x0,x1=>
  (bif (decide (x1<(ByteArray.size x0:Int))) then
  ref01_wide_j4 m (ref01_wide_l3 m M3) x0 x1
 else
  ref01_wide_j7 m)
noncomputable def ref01_wide_j2 (m:Nat) (x0:ByteArray) (x1:Int):Option Bool:=
 ref01_wide_l3 m (Nat.succ m) x0 x1
noncomputable def ref01_wide_j1 (m:Nat) (x0:ByteArray):Option Bool:=
 ref01_wide_j2 m x0 0
noncomputable def ref01_wide_j0 (m:Nat) (x0:ByteArray) (x1:Bool):Option Bool:=
 (bif x1 then
  some false
 else
  ref01_wide_j1 m x0)
noncomputable def ref01_wide:Nat→ByteArray→Option Bool
 |0,_=>none
 |m+1,a0=>
  (bif (decide ((ByteArray.size a0:Int)<1)) then
  ref01_wide_j0 m a0 true
 else
  ref01_wide_j0 m a0 (decide (128<(ByteArray.size a0:Int))))
noncomputable def ref01_formed_j10 (m:Nat) (self53:Dt→Bool→Option Bool) (self57:Dt→Bool→Option Bool) (rec8:Bool→Int→Dt→Option Bool) (x0:Bool) (x1:Int) (x2:Dt):Option Bool:=
 rec8 x0 (IntKind.wrap .i64 (x1+1)) x2
noncomputable def ref01_formed_j9 (m:Nat) (self53:Dt→Bool→Option Bool) (self57:Dt→Bool→Option Bool) (rec8:Bool→Int→Dt→Option Bool) (x0:Bool) (x1:Int) (x2:Dt):Option Bool:=
  ((idx (Dt.L x2 3) x1).bind fun v1=>
    ((self53 v1 x0).bind fun r2=>
 (bif (Bool.not r2) then
 some false
 else
 ref01_formed_j10 m self53 self57 rec8 x0 x1 x2)))
noncomputable def ref01_formed_j11 (m:Nat) (self53:Dt→Bool→Option Bool) (self57:Dt→Bool→Option Bool) (x0:Bool) (x1:Dt):Option Bool:=
 ((self57 x1 x0).bind fun r3=>
   some r3)
noncomputable def ref01_formed_l8 (m:Nat) (self53:Dt→Bool→Option Bool) (self57:Dt→Bool→Option Bool):Nat→Bool→Int→Dt→Option Bool
 |0,_,_,_=>none
 |M8+1,x0,x1,x2=>
  (bif (decide (x1<(List.length (Dt.L x2 3):Int))) then
  ref01_formed_j9 m self53 self57 (ref01_formed_l8 m self53 self57 M8) x0 x1 x2
 else
  ref01_formed_j11 m self53 self57 x0 x2)
noncomputable def ref01_formed_j7 (m:Nat) (self53:Dt→Bool→Option Bool) (self57:Dt→Bool→Option Bool) (x0:Bool) (x1:Int) (x2:Dt):Option Bool:=
 ref01_formed_l8 m self53 self57 (Nat.succ m) x0 x1 x2
noncomputable def ref01_formed_j6 (m:Nat) (self53:Dt→Bool→Option Bool) (self57:Dt→Bool→Option Bool) (x0:Bool) (x1:Dt):Option Bool:=
 ref01_formed_j7 m self53 self57 x0 0 x1
noncomputable def ref01_formed_j5 (m:Nat) (self53:Dt→Bool→Option Bool) (self57:Dt→Bool→Option Bool) (x0:Bool) (x1:Dt):Option Bool:=
  (bif ((Dt.I x1 0)==9) then
   (bif ((Dt.I x1 1)==0) then
 some true
   else
 some ((Dt.I x1 1)==1))
  else
   (bif ((Dt.I x1 0)==10) then
 some (decide (0≤(Dt.I x1 1)))
   else
 (bif ((Dt.I x1 0)==4) then
 (bif (decide ((ByteArray.size (Dt.S x1 2):Int)≤4096)) then
 ((ref01_UTF8 m (Dt.S x1 2)).bind fun r0=>
 some r0)
 else
 some false)
 else
 (bif ((Dt.I x1 0)==7) then
 some (decide ((ByteArray.size (Dt.S x1 2):Int)≤4096))
 else
 (bif ((Dt.I x1 0)==8) then
 some ((ByteArray.size (Dt.S x1 2):Int)==12)
 else
 ref01_formed_j6 m self53 self57 x0 x1)))))
noncomputable def ref01_formed_j4 (m:Nat) (self53:Dt→Bool→Option Bool) (self57:Dt→Bool→Option Bool) (x0 x1:Bool) (x2:Dt):Option Bool:=
 (bif x1 then
  some false
 else
  ref01_formed_j5 m self53 self57 x0 x2)
noncomputable def ref01_formed_j3 (m:Nat) (self53:Dt→Bool→Option Bool) (self57:Dt→Bool→Option Bool) (x0 x1 x2:Bool) (x3:Dt):Option Bool:=
  (bif (Bool.not x1) then
   (bif (Bool.not ((ByteArray.toList (Dt.S x3 2))==[])) then
 ref01_formed_j4 m self53 self57 x0 true x3
   else
 (bif (Bool.not x2) then
 (bif ((Dt.I x3 1) !=0) then
 ref01_formed_j4 m self53 self57 x0 true x3
 else
 (bif (decide ((Dt.I x3 0)<1)) then
 ref01_formed_j4 m self53 self57 x0 true x3
 else
 ref01_formed_j4 m self53 self57 x0 (decide (11<(Dt.I x3 0))) x3))
 else
 (bif (decide ((Dt.I x3 0)<1)) then
 ref01_formed_j4 m self53 self57 x0 true x3
 else
 ref01_formed_j4 m self53 self57 x0 (decide (11<(Dt.I x3 0))) x3)))
  else
   (bif (Bool.not x2) then
 (bif ((Dt.I x3 1) !=0) then
 ref01_formed_j4 m self53 self57 x0 true x3
 else
 (bif (decide ((Dt.I x3 0)<1)) then
 ref01_formed_j4 m self53 self57 x0 true x3
 else
 ref01_formed_j4 m self53 self57 x0 (decide (11<(Dt.I x3 0))) x3))
   else
 (bif (decide ((Dt.I x3 0)<1)) then
 ref01_formed_j4 m self53 self57 x0 true x3
 else
 ref01_formed_j4 m self53 self57 x0 (decide (11<(Dt.I x3 0))) x3)))
noncomputable def ref01_formed_j2 (m:Nat) (self53:Dt→Bool→Option Bool) (self57:Dt→Bool→Option Bool) (x0 x1:Bool) (x2:Dt):Option Bool:=
  (bif ((Dt.I x2 0)==3) then
   ref01_formed_j3 m self53 self57 x0 x1 true x2
  else
   (bif ((Dt.I x2 0)==9) then
 ref01_formed_j3 m self53 self57 x0 x1 true x2
   else
 ref01_formed_j3 m self53 self57 x0 x1 ((Dt.I x2 0)==10) x2))
noncomputable def ref01_formed_j1 (m:Nat) (self53:Dt→Bool→Option Bool) (self57:Dt→Bool→Option Bool) (x0:Bool) (x1:Dt):Option Bool:=
  (bif ((Dt.I x1 0)==4) then
   ref01_formed_j2 m self53 self57 x0 true x1
  else
   (bif ((Dt.I x1 0)==7) then
 ref01_formed_j2 m self53 self57 x0 true x1
   else
 ref01_formed_j2 m self53 self57 x0 ((Dt.I x1 0)==8) x1))
noncomputable def ref01_formed_j0 (m:Nat) (self53:Dt→Bool→Option Bool) (self57:Dt→Bool→Option Bool) (x0 x1:Bool) (x2:Dt):Option Bool:=
 (bif x1 then
  some false
 else
  ref01_formed_j1 m self53 self57 x0 x2)
noncomputable def ref01_fields_j8 (m:Nat) (self53:Dt→Bool→Option Bool) (rec1:Bool→Int→Dt→Option Bool) (rec6:Bool→Int→Int→Dt→Dt→Option Bool) (x0:Bool) (x1 x2:Int) (x3 x4:Dt):Option Bool:=
 rec6 x0 x1 (IntKind.wrap .i64 (x2+1)) x3 x4
noncomputable def ref01_fields_j7 (m:Nat) (self53:Dt→Bool→Option Bool) (rec1:Bool→Int→Dt→Option Bool) (rec6:Bool→Int→Int→Dt→Dt→Option Bool) (x0:Bool) (x1 x2:Int) (x3 x4:Dt):Option Bool:=
  ((idx (Dt.L x3 4) x2).bind fun v2=>
    (bif ((ByteArray.toList (Dt.S v2 0))==(ByteArray.toList (Dt.S x4 0))) then
 some false
    else
 ref01_fields_j8 m self53 rec1 rec6 x0 x1 x2 x3 x4))
noncomputable def ref01_fields_j9 (m:Nat) (self53:Dt→Bool→Option Bool) (rec1:Bool→Int→Dt→Option Bool) (x0:Bool) (x1:Int) (x2:Dt):Option Bool:=
 rec1 x0 (IntKind.wrap .i64 (x1+1)) x2
noncomputable def ref01_fields_l6 (m:Nat) (self53:Dt→Bool→Option Bool) (rec1:Bool→Int→Dt→Option Bool):Nat→Bool→Int→Int→Dt→Dt→Option Bool
 |0,_,_,_,_,_=>none
 |M6+1,x0,x1,x2,x3,x4=>
  (bif (decide (x2<x1)) then
  ref01_fields_j7 m self53 rec1 (ref01_fields_l6 m self53 rec1 M6) x0 x1 x2 x3 x4
 else
  ref01_fields_j9 m self53 rec1 x0 x1 x3)
noncomputable def ref01_fields_j5 (m:Nat) (self53:Dt→Bool→Option Bool) (rec1:Bool→Int→Dt→Option Bool) (x0:Bool) (x1 x2:Int) (x3 x4:Dt):Option Bool:=
 ref01_fields_l6 m self53 rec1 (Nat.succ m) x0 x1 x2 x3 x4
noncomputable def ref01_fields_j4 (m:Nat) (self53:Dt→Bool→Option Bool) (rec1:Bool→Int→Dt→Option Bool) (x0:Bool) (x1:Int) (x2 x3:Dt):Option Bool:=
 ref01_fields_j5 m self53 rec1 x0 x1 0 x2 x3
noncomputable def ref01_fields_j3 (m:Nat) (self53:Dt→Bool→Option Bool) (rec1:Bool→Int→Dt→Option Bool) (x0:Bool) (x1:Int) (x2:Bool) (x3 x4:Dt):Option Bool:=
 (bif x2 then
  some false
 else
  ref01_fields_j4 m self53 rec1 x0 x1 x3 x4)
noncomputable def ref01_fields_j2 (m:Nat) (self53:Dt→Bool→Option Bool) (rec1:Bool→Int→Dt→Option Bool) (x0:Bool) (x1:Int) (x2:Dt):Option Bool:=
  ((idx (Dt.L x2 4) x1).bind fun v0=>
    (bif x0 then
 ((ref01_Name m (Dt.S v0 0)).bind fun r1=>
 (bif (Bool.not r1) then
 ref01_fields_j3 m self53 rec1 x0 x1 true x2 v0
 else
 (bif (Bool.not x0) then
 ((ref01_wide m (Dt.S v0 0)).bind fun r3=>
 (bif (Bool.not r3) then
 ref01_fields_j3 m self53 rec1 x0 x1 true x2 v0
 else
 ((self53 (Dt.fld v0 1) x0).bind fun r4=>
 ref01_fields_j3 m self53 rec1 x0 x1 (Bool.not r4) x2 v0)))
 else
 ((self53 (Dt.fld v0 1) x0).bind fun r5=>
 ref01_fields_j3 m self53 rec1 x0 x1 (Bool.not r5) x2 v0))))
    else
 (bif (Bool.not x0) then
 ((ref01_wide m (Dt.S v0 0)).bind fun r6=>
 (bif (Bool.not r6) then
 ref01_fields_j3 m self53 rec1 x0 x1 true x2 v0
 else
 ((self53 (Dt.fld v0 1) x0).bind fun r7=>
 ref01_fields_j3 m self53 rec1 x0 x1 (Bool.not r7) x2 v0)))
 else
 ((self53 (Dt.fld v0 1) x0).bind fun r8=>
 ref01_fields_j3 m self53 rec1 x0 x1 (Bool.not r8) x2 v0))))
noncomputable def ref01_fields_j10 (m:Nat) (self53:Dt→Bool→Option Bool):Option Bool:=
 some true
noncomputable def ref01_fields_l1 (m:Nat) (self53:Dt→Bool→Option Bool):Nat→Bool→Int→Dt→Option Bool
 |0,_,_,_=>none
 |M1+1,x0,x1,x2=>
  (bif (decide (x1<(List.length (Dt.L x2 4):Int))) then
  ref01_fields_j2 m self53 (ref01_fields_l1 m self53 M1) x0 x1 x2
 else
  ref01_fields_j10 m self53)
noncomputable def ref01_fields_j0 (m:Nat) (self53:Dt→Bool→Option Bool) (x0:Bool) (x1:Int) (x2:Dt):Option Bool:=
 ref01_fields_l1 m self53 (Nat.succ m) x0 x1 x2
mutual
noncomputable def ref01_formed:Nat→Dt→Bool→Option Bool
  |0,_,_=>none
  |m+1,a0,a1=>
   (bif ((Dt.I a0 0) !=6) then
   (bif (decide (0<(List.length (Dt.L a0 3):Int))) then
 ref01_formed_j0 m (ref01_formed m) (ref01_fields m) a1 true a0
   else
 (bif ((Dt.I a0 0) !=5) then
 ref01_formed_j0 m (ref01_formed m) (ref01_fields m) a1 (decide (0<(List.length (Dt.L a0 4):Int))) a0
 else
 ref01_formed_j0 m (ref01_formed m) (ref01_fields m) a1 false a0))
  else
   (bif ((Dt.I a0 0) !=5) then
 ref01_formed_j0 m (ref01_formed m) (ref01_fields m) a1 (decide (0<(List.length (Dt.L a0 4):Int))) a0
   else
 ref01_formed_j0 m (ref01_formed m) (ref01_fields m) a1 false a0))
noncomputable def ref01_fields:Nat→Dt→Bool→Option Bool
 |0,_,_=>none
 |m+1,a0,a1=>
  ref01_fields_j0 m (ref01_formed m) a1 0 a0
end
noncomputable def ref01_Valid:Nat→Dt→Option Bool
  |0,_=>none
  |m+1,a0=>
   ((ref01_Depth m a0).bind fun r0=>
   (bif (decide (r0≤16)) then
 ((ref01_Nodes m a0).bind fun r1=>
 (bif (decide (r1≤1024)) then
 ((ref01_formed m a0 true).bind fun r2=>
 some r2)
 else
 some false))
   else
 some false))
noncomputable def i45_j0 (m:Nat) (x0 x1 x2:Dt):Option (Dt×Dt):=
 some (x2,x0)
noncomputable def i45_j1 (m:Nat) (x0 x1:Dt):Option (Dt×Dt):=
 ((i48 m x0).bind fun r8=>
   some (r8.1,r8.2))
noncomputable def i45:Nat→Dt→Option (Dt×Dt)
  |0,_=>none
  |m+1,a0=>
   ((i29 m a0).bind fun r0=>
   (bif (r0.1==110) then
 ((i46 m (ByteArray.mk (List.toArray [110,117,108,108])) kz3c25e r0.2).bind fun r1=>
 some (r1.1,r1.2))
   else
 (bif (r0.1==116) then
 ((i46 m (ByteArray.mk (List.toArray [116,114,117,101])) kzb2fe3 r0.2).bind fun r2=>
 some (r2.1,r2.2))
 else
 (bif (r0.1==102) then
 ((i46 m (ByteArray.mk (List.toArray [102,97,108,115,101])) kzb0365 r0.2).bind fun r3=>
 some (r3.1,r3.2))
 else
 (bif (r0.1==34) then
 ((i37 m r0.2).bind fun r4=>
 (bif (decide (4096<(ByteArray.size r4.1:Int))) then
 ((i31 m 2 (Dt.I r0.2 1) r4.2).bind fun r5=>
 i45_j0 m r5 kza2373 (Dt.agg [(Dt.int 4),(Dt.int 0),(Dt.str r4.1),(Dt.lst []),(Dt.lst [])]))
 else
 ((ref01_Valid m (Dt.agg [(Dt.int 4),(Dt.int 0),(Dt.str r4.1),(Dt.lst []),(Dt.lst [])])).bind fun r6=>
 (bif (Bool.not r6) then
 ((i31 m 4 (Dt.I r0.2 1) r4.2).bind fun r7=>
 i45_j0 m r7 kza2373 (Dt.agg [(Dt.int 4),(Dt.int 0),(Dt.str r4.1),(Dt.lst []),(Dt.lst [])]))
 else
 i45_j0 m r4.2 kza2373 (Dt.agg [(Dt.int 4),(Dt.int 0),(Dt.str r4.1),(Dt.lst []),(Dt.lst [])])))))
 else
 i45_j1 m r0.2 kza2373)))))
noncomputable def i28_j4 (m:Nat) (self33:Int→Dt→Option (Dt×Dt)) (self35:Int→Dt→Option (Dt×Dt)) (x0 x1:Dt):Option (Dt×Dt):=
 ((i45 m x0).bind fun r7=>
   some (r7.1,r7.2))
noncomputable def i28_j3 (m:Nat) (self33:Int→Dt→Option (Dt×Dt)) (self35:Int→Dt→Option (Dt×Dt)) (x0:Int) (x1 x2:Dt):Option (Dt×Dt):=
  ((i29 m x1).bind fun r4=>
    (bif (r4.1==91) then
 ((self33 x0 r4.2).bind fun r5=>
 some (r5.1,r5.2))
    else
 (bif (r4.1==123) then
 ((self35 x0 r4.2).bind fun r6=>
 some (r6.1,r6.2))
 else
 i28_j4 m self33 self35 r4.2 x2)))
noncomputable def i28_j2 (m:Nat) (self33:Int→Dt→Option (Dt×Dt)) (self35:Int→Dt→Option (Dt×Dt)) (x0:Int) (x1 x2:Dt):Option (Dt×Dt):=
 (bif ((Dt.I x1 3) !=0) then
  some (kza2373,x1)
 else
  i28_j3 m self33 self35 x0 x1 x2)
noncomputable def i28_j1 (m:Nat) (self33:Int→Dt→Option (Dt×Dt)) (self35:Int→Dt→Option (Dt×Dt)) (x0:Int) (x1:Bool) (x2 x3:Dt):Option (Dt×Dt):=
  (bif x1 then
   ((i32 m (Dt.I x2 1) x0 x2).bind fun r3=>
 i28_j2 m self33 self35 x0 r3 x3)
  else
   i28_j2 m self33 self35 x0 x2 x3)
noncomputable def i28_j0 (m:Nat) (self33:Int→Dt→Option (Dt×Dt)) (self35:Int→Dt→Option (Dt×Dt)) (x0:Int) (x1:Bool) (x2 x3:Dt):Option (Dt×Dt):=
 (bif x1 then
  i28_j1 m self33 self35 x0 ((Dt.I x2 3)==0) x2 x3
 else
  i28_j1 m self33 self35 x0 false x2 x3)
noncomputable def i33_j3 (m:Nat) (self28:Int→Bool→Dt→Option (Dt×Dt)) (rec1:Int→Dt→Dt→Int→Int→ByteArray→List Dt→List Dt→Option (Dt×Dt)) (x0:Int) (x1 x2:Dt) (x3 x4:Int) (x5:ByteArray) (x6 x7:List Dt):Option (Dt×Dt):=
  ((i34 m 44 x1).bind fun r7=>
    ((i27 m r7).bind fun r8=>
 rec1 x0 r8 x2 x3 x4 x5 x6 x7))
noncomputable def i33_j2 (m:Nat) (self28:Int→Bool→Dt→Option (Dt×Dt)) (rec1:Int→Dt→Dt→Int→Int→ByteArray→List Dt→List Dt→Option (Dt×Dt)) (x0:Int) (x1 x2:Dt) (x3 x4:Int) (x5:ByteArray) (x6 x7:List Dt):Option (Dt×Dt):=
  ((self28 (IntKind.wrap .i64 (x0+1)) true x1).bind fun r3=>
    ((app x6 [r3.1]).bind fun v4=>
 ((i27 m r3.2).bind fun r5=>
 ((i29 m r5).bind fun r6=>
 (bif (r6.1==93) then
 some ((Dt.agg [(Dt.int x3),(Dt.int x4),(Dt.str x5),(Dt.lst v4),(Dt.lst x7)]),(Dt.agg [(Dt.str (Dt.S r6.2 0)),(Dt.int (IntKind.wrap .i64 ((Dt.I r6.2 1)+1))),(Dt.int (Dt.I r6.2 2)),(Dt.int (Dt.I r6.2 3)),(Dt.int (Dt.I r6.2 4))]))
 else
 i33_j3 m self28 rec1 x0 r6.2 x2 x3 x4 x5 v4 x7)))))
noncomputable def i33_j4 (m:Nat) (self28:Int→Bool→Dt→Option (Dt×Dt)) (x0 x1:Dt) (x2 x3:Int) (x4:ByteArray) (x5 x6:List Dt):Option (Dt×Dt):=
 some ((Dt.agg [(Dt.int x2),(Dt.int x3),(Dt.str x4),(Dt.lst x5),(Dt.lst x6)]),x0)
noncomputable def i33_l1 (m:Nat) (self28:Int→Bool→Dt→Option (Dt×Dt)):Nat→Int→Dt→Dt→Int→Int→ByteArray→List Dt→List Dt→Option (Dt×Dt)
 |0,_,_,_,_,_,_,_,_=>none
 |M1+1,x0,x1,x2,x3,x4,x5,x6,x7=>
  (bif ((Dt.I x1 3)==0) then
  i33_j2 m self28 (i33_l1 m self28 M1) x0 x1 x2 x3 x4 x5 x6 x7
 else
  i33_j4 m self28 x1 x2 x3 x4 x5 x6 x7)
noncomputable def i33_j0 (m:Nat) (self28:Int→Bool→Dt→Option (Dt×Dt)) (x0:Int) (x1 x2:Dt) (x3 x4:Int) (x5:ByteArray) (x6 x7:List Dt):Option (Dt×Dt):=
 i33_l1 m self28 (Nat.succ m) x0 x1 x2 x3 x4 x5 x6 x7
noncomputable def i35_j8 (m:Nat) (self28:Int→Bool→Dt→Option (Dt×Dt)) (rec1:Int→Dt→Dt→Int→Int→ByteArray→List Dt→List Dt→Option (Dt×Dt)) (x0:Int) (x1 x2:Dt) (x3 x4:Int) (x5:ByteArray) (x6 x7:List Dt):Option (Dt×Dt):=
  ((i34 m 44 x1).bind fun r14=>
    ((i27 m r14).bind fun r15=>
 rec1 x0 r15 x2 x3 x4 x5 x6 x7))
noncomputable def i35_j7 (m:Nat) (self28:Int→Bool→Dt→Option (Dt×Dt)) (rec1:Int→Dt→Dt→Int→Int→ByteArray→List Dt→List Dt→Option (Dt×Dt)) (x0 x1:Int) (x2 x3:Dt) (x4 x5:Int) (x6:ByteArray) (x7 x8:List Dt):Option (Dt×Dt):=
 (bif (x1==125) then
  some ((Dt.agg [(Dt.int x4),(Dt.int x5),(Dt.str x6),(Dt.lst x7),(Dt.lst x8)]),x2)
 else
  i35_j8 m self28 rec1 x0 x2 x3 x4 x5 x6 x7 x8)
noncomputable def i35_j6 (m:Nat) (self28:Int→Bool→Dt→Option (Dt×Dt)) (rec1:Int→Dt→Dt→Int→Int→ByteArray→List Dt→List Dt→Option (Dt×Dt)) (x0 x1 x2:Int) (x3:Bool) (x4 x5:Dt) (x6 x7:Int) (x8:ByteArray) (x9 x10:List Dt):Option (Dt×Dt):=
  (bif x3 then
   ((i32 m x1 (IntKind.wrap .i64 (x0+1)) x4).bind fun r13=>
 i35_j7 m self28 rec1 x0 x2 r13 x5 x6 x7 x8 x9 x10)
  else
   i35_j7 m self28 rec1 x0 x2 x4 x5 x6 x7 x8 x9 x10)
noncomputable def i35_j5 (m:Nat) (self28:Int→Bool→Dt→Option (Dt×Dt)) (rec1:Int→Dt→Dt→Int→Int→ByteArray→List Dt→List Dt→Option (Dt×Dt)) (x0 x1 x2:Int) (x3:Bool) (x4 x5:Dt) (x6 x7:Int) (x8:ByteArray) (x9 x10:List Dt):Option (Dt×Dt):=
  (bif ((Dt.I x4 3)==0) then
   (bif x3 then
 (bif (x2==125) then
 i35_j6 m self28 rec1 x0 x1 x2 true x4 x5 x6 x7 x8 x9 x10
 else
 i35_j6 m self28 rec1 x0 x1 x2 (x2==44) x4 x5 x6 x7 x8 x9 x10)
   else
 i35_j6 m self28 rec1 x0 x1 x2 false x4 x5 x6 x7 x8 x9 x10)
  else
   i35_j6 m self28 rec1 x0 x1 x2 false x4 x5 x6 x7 x8 x9 x10)
noncomputable def i35_j4 (m:Nat) (self28:Int→Bool→Dt→Option (Dt×Dt)) (rec1:Int→Dt→Dt→Int→Int→ByteArray→List Dt→List Dt→Option (Dt×Dt)) (x0 x1 x2:Int) (x3 x4:Bool) (x5 x6:Dt) (x7 x8:Int) (x9:ByteArray) (x10 x11:List Dt):Option (Dt×Dt):=
  (bif x4 then
   ((i43 m x11).bind fun r12=>
 (bif r12.2.1 then
 some (r12.1,(Dt.agg [(Dt.str (Dt.S x5 0)),(Dt.int (IntKind.wrap .i64 ((Dt.I x5 1)+1))),(Dt.int (Dt.I x5 2)),(Dt.int (Dt.I x5 3)),(Dt.int (Dt.I x5 4))]))
 else
 i35_j5 m self28 rec1 x0 x1 x2 x3 (Dt.agg [(Dt.str (Dt.S x5 0)),(Dt.int (IntKind.wrap .i64 ((Dt.I x5 1)+1))),(Dt.int (Dt.I x5 2)),(Dt.int (Dt.I x5 3)),(Dt.int (Dt.I x5 4))]) x6 x7 x8 x9 x10 r12.2.2))
  else
   i35_j5 m self28 rec1 x0 x1 x2 x3 x5 x6 x7 x8 x9 x10 x11)
noncomputable def i35_j3 (m:Nat) (self28:Int→Bool→Dt→Option (Dt×Dt)) (rec1:Int→Dt→Dt→Int→Int→ByteArray→List Dt→List Dt→Option (Dt×Dt)) (x0:Int) (x1:ByteArray) (x2:Int) (x3:Bool) (x4 x5:Dt) (x6 x7:Int) (x8:ByteArray) (x9 x10:List Dt):Option (Dt×Dt):=
  ((self28 (IntKind.wrap .i64 (x0+1)) (Bool.not x3) x4).bind fun r8=>
    ((app x10 [(Dt.agg [(Dt.str x1),r8.1])]).bind fun v9=>
 ((i27 m r8.2).bind fun r10=>
 ((i29 m r10).bind fun r11=>
 (bif ((Dt.I r11.2 3)==0) then
 i35_j4 m self28 rec1 x0 x2 r11.1 x3 (r11.1==125) r11.2 x5 x6 x7 x8 x9 v9
 else
 i35_j4 m self28 rec1 x0 x2 r11.1 x3 false r11.2 x5 x6 x7 x8 x9 v9)))))
noncomputable def i35_j2 (m:Nat) (self28:Int→Bool→Dt→Option (Dt×Dt)) (rec1:Int→Dt→Dt→Int→Int→ByteArray→List Dt→List Dt→Option (Dt×Dt)) (x0:Int) (x1 x2:Dt) (x3 x4:Int) (x5:ByteArray) (x6 x7:List Dt):Option (Dt×Dt):=
  ((i36 m x1 x7).bind fun r3=>
    ((i27 m r3.2.1).bind fun r4=>
 ((i34 m 58 r4).bind fun r5=>
 ((i27 m r5).bind fun r6=>
 ((i29 m r6).bind fun r7=>
 (bif ((List.length r3.2.2:Int)==0) then
 (bif ((ByteArray.toList r3.1)==[36,105,100]) then
 (bif (r7.1==34) then
 i35_j3 m self28 rec1 x0 r3.1 (Dt.I r6 1) true r7.2 x2 x3 x4 x5 x6 r3.2.2
 else
 (bif (r7.1==45) then
 i35_j3 m self28 rec1 x0 r3.1 (Dt.I r6 1) true r7.2 x2 x3 x4 x5 x6 r3.2.2
 else
 (bif (decide (48≤r7.1)) then
 i35_j3 m self28 rec1 x0 r3.1 (Dt.I r6 1) (decide (r7.1≤57)) r7.2 x2 x3 x4 x5 x6 r3.2.2
 else
 i35_j3 m self28 rec1 x0 r3.1 (Dt.I r6 1) false r7.2 x2 x3 x4 x5 x6 r3.2.2)))
 else
 (bif ((ByteArray.toList r3.1)==[36,98,121,116,101,115]) then
 (bif (r7.1==34) then
 i35_j3 m self28 rec1 x0 r3.1 (Dt.I r6 1) true r7.2 x2 x3 x4 x5 x6 r3.2.2
 else
 (bif (r7.1==45) then
 i35_j3 m self28 rec1 x0 r3.1 (Dt.I r6 1) true r7.2 x2 x3 x4 x5 x6 r3.2.2
 else
 (bif (decide (48≤r7.1)) then
 i35_j3 m self28 rec1 x0 r3.1 (Dt.I r6 1) (decide (r7.1≤57)) r7.2 x2 x3 x4 x5 x6 r3.2.2
 else
 i35_j3 m self28 rec1 x0 r3.1 (Dt.I r6 1) false r7.2 x2 x3 x4 x5 x6 r3.2.2)))
 else
 (bif ((ByteArray.toList r3.1)==[36,116,105,109,101]) then
 (bif (r7.1==34) then
 i35_j3 m self28 rec1 x0 r3.1 (Dt.I r6 1) true r7.2 x2 x3 x4 x5 x6 r3.2.2
 else
 (bif (r7.1==45) then
 i35_j3 m self28 rec1 x0 r3.1 (Dt.I r6 1) true r7.2 x2 x3 x4 x5 x6 r3.2.2
 else
 (bif (decide (48≤r7.1)) then
 i35_j3 m self28 rec1 x0 r3.1 (Dt.I r6 1) (decide (r7.1≤57)) r7.2 x2 x3 x4 x5 x6 r3.2.2
 else
 i35_j3 m self28 rec1 x0 r3.1 (Dt.I r6 1) false r7.2 x2 x3 x4 x5 x6 r3.2.2)))
 else
 (bif ((ByteArray.toList r3.1)==[36,109,105,110]) then
 (bif (r7.1==34) then
 i35_j3 m self28 rec1 x0 r3.1 (Dt.I r6 1) true r7.2 x2 x3 x4 x5 x6 r3.2.2
 else
 (bif (r7.1==45) then
 i35_j3 m self28 rec1 x0 r3.1 (Dt.I r6 1) true r7.2 x2 x3 x4 x5 x6 r3.2.2
 else
 (bif (decide (48≤r7.1)) then
 i35_j3 m self28 rec1 x0 r3.1 (Dt.I r6 1) (decide (r7.1≤57)) r7.2 x2 x3 x4 x5 x6 r3.2.2
 else
 i35_j3 m self28 rec1 x0 r3.1 (Dt.I r6 1) false r7.2 x2 x3 x4 x5 x6 r3.2.2)))
 else
 (bif ((ByteArray.toList r3.1)==[36,109,97,120]) then
 (bif (r7.1==34) then
 i35_j3 m self28 rec1 x0 r3.1 (Dt.I r6 1) true r7.2 x2 x3 x4 x5 x6 r3.2.2
 else
 (bif (r7.1==45) then
 i35_j3 m self28 rec1 x0 r3.1 (Dt.I r6 1) true r7.2 x2 x3 x4 x5 x6 r3.2.2
 else
 (bif (decide (48≤r7.1)) then
 i35_j3 m self28 rec1 x0 r3.1 (Dt.I r6 1) (decide (r7.1≤57)) r7.2 x2 x3 x4 x5 x6 r3.2.2
 else
 i35_j3 m self28 rec1 x0 r3.1 (Dt.I r6 1) false r7.2 x2 x3 x4 x5 x6 r3.2.2)))
 else
 i35_j3 m self28 rec1 x0 r3.1 (Dt.I r6 1) false r7.2 x2 x3 x4 x5 x6 r3.2.2)))))
 else
 i35_j3 m self28 rec1 x0 r3.1 (Dt.I r6 1) false r7.2 x2 x3 x4 x5 x6 r3.2.2))))))
noncomputable def i35_j9 (m:Nat) (self28:Int→Bool→Dt→Option (Dt×Dt)) (x0 x1:Dt) (x2 x3:Int) (x4:ByteArray) (x5 x6:List Dt):Option (Dt×Dt):=
 some ((Dt.agg [(Dt.int x2),(Dt.int x3),(Dt.str x4),(Dt.lst x5),(Dt.lst x6)]),x0)
noncomputable def i35_l1 (m:Nat) (self28:Int→Bool→Dt→Option (Dt×Dt)):Nat→Int→Dt→Dt→Int→Int→ByteArray→List Dt→List Dt→Option (Dt×Dt)
 |0,_,_,_,_,_,_,_,_=>none
 |M1+1,x0,x1,x2,x3,x4,x5,x6,x7=>
  (bif ((Dt.I x1 3)==0) then
  i35_j2 m self28 (i35_l1 m self28 M1) x0 x1 x2 x3 x4 x5 x6 x7
 else
  i35_j9 m self28 x1 x2 x3 x4 x5 x6 x7)
noncomputable def i35_j0 (m:Nat) (self28:Int→Bool→Dt→Option (Dt×Dt)) (x0:Int) (x1 x2:Dt) (x3 x4:Int) (x5:ByteArray) (x6 x7:List Dt):Option (Dt×Dt):=
 i35_l1 m self28 (Nat.succ m) x0 x1 x2 x3 x4 x5 x6 x7
mutual
noncomputable def i28:Nat→Int→Bool→Dt→Option (Dt×Dt)
  |0,_,_,_=>none
  |m+1,a0,a1,a2=>
   ((i29 m a2).bind fun r0=>
   ((ref05_opens m r0.1).bind fun r1=>
 (bif (Bool.not r1) then
 ((i31 m 4 (Dt.I r0.2 1) r0.2).bind fun r2=>
 i28_j0 m (i33 m) (i35 m) a0 a1 r2 kza2373)
 else
 i28_j0 m (i33 m) (i35 m) a0 a1 r0.2 kza2373)))
noncomputable def i33:Nat→Int→Dt→Option (Dt×Dt)
  |0,_,_=>none
  |m+1,a0,a1=>
   ((i34 m 91 a1).bind fun r0=>
   ((i27 m r0).bind fun r1=>
 ((i29 m r1).bind fun r2=>
 (bif (r2.1==93) then
 some (kz73e26,(Dt.agg [(Dt.str (Dt.S r2.2 0)),(Dt.int (IntKind.wrap .i64 ((Dt.I r2.2 1)+1))),(Dt.int (Dt.I r2.2 2)),(Dt.int (Dt.I r2.2 3)),(Dt.int (Dt.I r2.2 4))]))
 else
 i33_j0 m (i28 m) a0 r2.2 kza2373 6 0 (ByteArray.mk (List.toArray [])) [] []))))
noncomputable def i35:Nat→Int→Dt→Option (Dt×Dt)
  |0,_,_=>none
  |m+1,a0,a1=>
   ((i34 m 123 a1).bind fun r0=>
   ((i27 m r0).bind fun r1=>
 ((i29 m r1).bind fun r2=>
 (bif (r2.1==125) then
 some (kze9562,(Dt.agg [(Dt.str (Dt.S r2.2 0)),(Dt.int (IntKind.wrap .i64 ((Dt.I r2.2 1)+1))),(Dt.int (Dt.I r2.2 2)),(Dt.int (Dt.I r2.2 3)),(Dt.int (Dt.I r2.2 4))]))
 else
 i35_j0 m (i28 m) a0 r2.2 kza2373 5 0 (ByteArray.mk (List.toArray [])) [] []))))
end
noncomputable def ref05_Parse_j2 (m:Nat) (x0 x1:Dt):Option (Dt×Int×Int):=
 some (x1,0,0)
noncomputable def ref05_Parse_j1 (m:Nat) (x0 x1 x2:Dt):Option (Dt×Int×Int):=
 (bif ((Dt.I x1 3) !=0) then
  some (kza2373,(Dt.I x1 4),(Dt.I x1 3))
 else
  ref05_Parse_j2 m x0 x2)
noncomputable def ref05_Parse_j0 (m:Nat) (x0:Bool) (x1 x2 x3:Dt):Option (Dt×Int×Int):=
  (bif x0 then
   ((i31 m 4 (Dt.I x2 1) x2).bind fun r3=>
 ref05_Parse_j1 m x1 r3 x3)
  else
   ref05_Parse_j1 m x1 x2 x3)
noncomputable def ref05_Parse:Nat→ByteArray→Option (Dt×Int×Int)
  |0,_=>none
  |m+1,a0=>
   ((i27 m (Dt.agg [(Dt.str a0),(Dt.int 0),(Dt.int 0),(Dt.int 0),(Dt.int 0)])).bind fun r0=>
   ((i28 m 1 true r0).bind fun r1=>
 ((i27 m r1.2).bind fun r2=>
 (bif ((Dt.I r2 3)==0) then
 ref05_Parse_j0 m (decide ((Dt.I r2 1)<(ByteArray.size a0:Int))) kza2373 r2 r1.1
 else
 ref05_Parse_j0 m false kza2373 r2 r1.1))))
noncomputable def law05_NotationParses_j0 (m:Nat) (x0:ByteArray):Option Bool:=
  ((notation_Parse m x0).bind fun r1=>
    ((ref05_Parse m x0).bind fun r2=>
 ((ref05_Same m r1.1 r2.1).bind fun r3=>
 (bif r3 then
 (bif (r1.2.1==r2.2.1) then
 (bif (r1.2.2==r2.2.2) then
 ((awakeC).bind fun r4=>
 some r4)
 else
 some false)
 else
 some false)
 else
 some false))))
noncomputable def law05_NotationParses:Nat→ByteArray→Option Bool
  |0,_=>none
  |m+1,a0=>
   (bif (decide (10000<(ByteArray.size a0:Int))) then
   ((awakeC).bind fun r0=>
 some r0)
  else
   law05_NotationParses_j0 m a0)
end Go.Proofs.YtmejbpmceflcjaaGreatDoor
