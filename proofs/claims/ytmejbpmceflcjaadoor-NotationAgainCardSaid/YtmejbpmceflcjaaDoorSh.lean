/- Generated: what the Go functions compute, over plain data. -/
import Derived.Test.YtmejbpmceflcjaaDoorAm20
import Derived.Test.YtmejbpmceflcjaaDoorOAwake
import Derived.Test.YtmejbpmceflcjaaDoorOLibN
import Derived.Test.YtmejbpmceflcjaaDoorOAppF
import Derived.Test.YtmejbpmceflcjaaDoorOParsP
set_option linter.unusedVariables false
set_option linter.unusedSimpArgs false
namespace Go.Proofs.YtmejbpmceflcjaaDoor
open Go.Am
def kza2373:Dt:=Dt.agg [(Dt.int 0),(Dt.int 0),(Dt.str (ByteArray.mk (List.toArray []))),(Dt.lst []),(Dt.lst [])]
def kz2ef54:Dt:=Dt.agg [(Dt.int 1),(Dt.int 0),(Dt.str (ByteArray.mk (List.toArray []))),(Dt.lst []),(Dt.lst [])]
def kzedecf:Dt:=Dt.agg [(Dt.int 11),(Dt.int 0),(Dt.str (ByteArray.mk (List.toArray []))),(Dt.lst []),(Dt.lst [])]
def kz3c25e:Dt:=Dt.agg [(Dt.int 2),(Dt.int 0),(Dt.str (ByteArray.mk (List.toArray []))),(Dt.lst []),(Dt.lst [])]
def kzb2fe3:Dt:=Dt.agg [(Dt.int 9),(Dt.int 1),(Dt.str (ByteArray.mk (List.toArray []))),(Dt.lst []),(Dt.lst [])]
def kzb0365:Dt:=Dt.agg [(Dt.int 9),(Dt.int 0),(Dt.str (ByteArray.mk (List.toArray []))),(Dt.lst []),(Dt.lst [])]
def kz73e26:Dt:=Dt.agg [(Dt.int 6),(Dt.int 0),(Dt.str (ByteArray.mk (List.toArray []))),(Dt.lst []),(Dt.lst [])]
def kze9562:Dt:=Dt.agg [(Dt.int 5),(Dt.int 0),(Dt.str (ByteArray.mk (List.toArray []))),(Dt.lst []),(Dt.lst [])]
def kzcda49:Dt:=Dt.agg [(Dt.str (ByteArray.mk (List.toArray []))),(Dt.agg [(Dt.int 0),(Dt.int 0),(Dt.str (ByteArray.mk (List.toArray []))),(Dt.lst []),(Dt.lst [])])]
noncomputable def ref02_count_j5 (m:Nat) (self9:Dt→Int→Int→Option Int) (rec3:Int→Int→Int→Dt→Option Int) (x0 x1 x2:Int) (x3:Dt):Option Int:=
 rec3 x0 x1 (IntKind.wrap .i64 (x2+1)) x3
noncomputable def ref02_count_j4 (m:Nat) (self9:Dt→Int→Int→Option Int) (rec3:Int→Int→Int→Dt→Option Int) (x0 x1 x2:Int) (x3:Dt):Option Int:=
  ((idx (Dt.L x3 3) x2).bind fun v0=>
    ((self9 v0 (IntKind.wrap .i64 (x0+1)) x1).bind fun r1=>
 ref02_count_j5 m self9 rec3 x0 r1 x2 x3))
noncomputable def ref02_count_j11 (m:Nat) (self9:Dt→Int→Int→Option Int) (rec8:Int→Int→Int→Dt→Option Int) (x0 x1 x2:Int) (x3:Dt):Option Int:=
 rec8 x0 x1 (IntKind.wrap .i64 (x2+1)) x3
noncomputable def ref02_count_j10 (m:Nat) (self9:Dt→Int→Int→Option Int) (rec8:Int→Int→Int→Dt→Option Int) (x0 x1 x2:Int) (x3:Dt):Option Int:=
  ((idx (Dt.L x3 4) x2).bind fun v3=>
    ((self9 (Dt.fld v3 1) (IntKind.wrap .i64 (x0+1)) x1).bind fun r4=>
 ref02_count_j11 m self9 rec8 x0 r4 x2 x3))
noncomputable def ref02_count_j9 (m:Nat) (self9:Dt→Int→Int→Option Int) (rec8:Int→Int→Int→Dt→Option Int) (x0 x1 x2:Int) (x3:Dt):Option Int:=
  ((idx (Dt.L x3 4) x2).bind fun v2=>
    (bif (decide (200<(ByteArray.size (Dt.S v2 0):Int))) then
 some (-1)
    else
 ref02_count_j10 m self9 rec8 x0 x1 x2 x3))
noncomputable def ref02_count_j12 (m:Nat) (self9:Dt→Int→Int→Option Int) (x0:Int):Option Int:=
 some x0
noncomputable def ref02_count_l8 (m:Nat) (self9:Dt→Int→Int→Option Int):Nat→Int→Int→Int→Dt→Option Int
  |0,_,_,_,_=>none
  |M8+1,x0,x1,x2,x3=>
   (bif (decide (x2<(List.length (Dt.L x3 4):Int))) then
   (bif (decide (0≤x1)) then
 ref02_count_j9 m self9 (ref02_count_l8 m self9 M8) x0 x1 x2 x3
   else
 ref02_count_j12 m self9 x1)
  else
   ref02_count_j12 m self9 x1)
noncomputable def ref02_count_j7 (m:Nat) (self9:Dt→Int→Int→Option Int) (x0 x1 x2:Int) (x3:Dt):Option Int:=
 ref02_count_l8 m self9 (Nat.succ m) x0 x1 x2 x3
noncomputable def ref02_count_j6 (m:Nat) (self9:Dt→Int→Int→Option Int) (x0 x1:Int) (x2:Dt):Option Int:=
 ref02_count_j7 m self9 x0 x1 0 x2
noncomputable def ref02_count_l3 (m:Nat) (self9:Dt→Int→Int→Option Int):Nat→Int→Int→Int→Dt→Option Int
  |0,_,_,_,_=>none
  |M3+1,x0,x1,x2,x3=>
   (bif (decide (x2<(List.length (Dt.L x3 3):Int))) then
   (bif (decide (0≤x1)) then
 ref02_count_j4 m self9 (ref02_count_l3 m self9 M3) x0 x1 x2 x3
   else
 ref02_count_j6 m self9 x0 x1 x3)
  else
   ref02_count_j6 m self9 x0 x1 x3)
noncomputable def ref02_count_j2 (m:Nat) (self9:Dt→Int→Int→Option Int) (x0 x1 x2:Int) (x3:Dt):Option Int:=
 ref02_count_l3 m self9 (Nat.succ m) x0 x1 x2 x3
noncomputable def ref02_count_j1 (m:Nat) (self9:Dt→Int→Int→Option Int) (x0 x1:Int) (x2:Dt):Option Int:=
 ref02_count_j2 m self9 x0 x1 0 x2
noncomputable def ref02_count_j0 (m:Nat) (self9:Dt→Int→Int→Option Int) (x0 x1:Int) (x2:Bool) (x3:Dt):Option Int:=
 (bif x2 then
  some (-1)
 else
  ref02_count_j1 m self9 x0 x1 x3)
noncomputable def ref02_count:Nat→Dt→Int→Int→Option Int
 |0,_,_,_=>none
 |m+1,a0,a1,a2=>
  (bif (decide (40<a1)) then
  ref02_count_j0 m (ref02_count m) a1 (IntKind.wrap .i64 (a2-1)) true a0
 else
  ref02_count_j0 m (ref02_count m) a1 (IntKind.wrap .i64 (a2-1)) (decide (5000<(ByteArray.size (Dt.S a0 2):Int))) a0)
noncomputable def ref02_Few:Nat→Dt→Int→Option Bool
 |0,_,_=>none
 |m+1,a0,a1=>
  ((ref02_count m a0 1 a1).bind fun r0=>
  some (decide (0≤r0)))
noncomputable def i13_j0 (m:Nat) (x0:List Dt):Option (List Dt):=
 ((app x0 [(Dt.int 102),(Dt.int 97),(Dt.int 108),(Dt.int 115),(Dt.int 101)]).bind fun v1=>
   some v1)
noncomputable def i13:Nat→Bool→List Dt→Option (List Dt)
  |0,_,_=>none
  |m+1,a0,a1=>
   (bif a0 then
   ((app a1 [(Dt.int 116),(Dt.int 114),(Dt.int 117),(Dt.int 101)]).bind fun v0=>
 some v0)
  else
   i13_j0 m a1)
noncomputable def i12:Nat→Bool→List Dt→Option (List Dt)
 |0,_,_=>none
 |m+1,a0,a1=>
  ((i13 m a0 a1).bind fun r0=>
  some r0)
noncomputable def notation_Quote_j4 (m:Nat) (rec1:ByteArray→Int→Int→List Dt→Option ByteArray) (x0:ByteArray) (x1 x2:Int) (x3:List Dt):Option ByteArray:=
 rec1 x0 x1 (IntKind.wrap .i64 (x2+1)) x3
noncomputable def notation_Quote_j5 (m:Nat) (rec1:ByteArray→Int→Int→List Dt→Option ByteArray) (x0:ByteArray) (x1 x2 x3:Int) (x4:Bool) (x5:List Dt):Option ByteArray:=
  (bif x4 then
   ((app x5 [(Dt.int 92),(Dt.int 117),(Dt.int 48),(Dt.int 48)]).bind fun v5=>
 ((idxS (ByteArray.mk (List.toArray [48,49,50,51,52,53,54,55,56,57,97,98,99,100,101,102])) (shrI IntKind.u8 x1 4)).bind fun v6=>
 ((idxS (ByteArray.mk (List.toArray [48,49,50,51,52,53,54,55,56,57,97,98,99,100,101,102])) (andI IntKind.u8 x1 15)).bind fun v7=>
 ((app v5 [(Dt.int v6),(Dt.int v7)]).bind fun v8=>
 notation_Quote_j4 m rec1 x0 x2 x3 v8))))
  else
   ((app x5 [(Dt.int x1)]).bind fun v9=>
 notation_Quote_j4 m rec1 x0 x2 x3 v9))
noncomputable def notation_Quote_j3 (m:Nat) (rec1:ByteArray→Int→Int→List Dt→Option ByteArray) (x0:ByteArray) (x1 x2 x3:Int) (x4:Bool) (x5:List Dt):Option ByteArray:=
  (bif x4 then
   ((app x5 [(Dt.int 92),(Dt.int x1)]).bind fun v1=>
 notation_Quote_j4 m rec1 x0 x2 x3 v1)
  else
   (bif (x1==10) then
 ((app x5 [(Dt.int 92),(Dt.int 110)]).bind fun v2=>
 notation_Quote_j4 m rec1 x0 x2 x3 v2)
   else
 (bif (x1==13) then
 ((app x5 [(Dt.int 92),(Dt.int 114)]).bind fun v3=>
 notation_Quote_j4 m rec1 x0 x2 x3 v3)
 else
 (bif (x1==9) then
 ((app x5 [(Dt.int 92),(Dt.int 116)]).bind fun v4=>
 notation_Quote_j4 m rec1 x0 x2 x3 v4)
 else
 (bif (decide (x1<32)) then
 notation_Quote_j5 m rec1 x0 x1 x2 x3 true x5
 else
 notation_Quote_j5 m rec1 x0 x1 x2 x3 (x1==127) x5)))))
noncomputable def notation_Quote_j2 (m:Nat) (rec1:ByteArray→Int→Int→List Dt→Option ByteArray) (x0:ByteArray) (x1 x2:Int) (x3:List Dt):Option ByteArray:=
  ((idxS x0 x2).bind fun v0=>
    (bif (v0==34) then
 notation_Quote_j3 m rec1 x0 v0 x1 x2 true x3
    else
 notation_Quote_j3 m rec1 x0 v0 x1 x2 (v0==92) x3))
noncomputable def notation_Quote_j6 (m:Nat) (x0:List Dt):Option ByteArray:=
  ((app x0 [(Dt.int 34)]).bind fun v10=>
    ((bif (Nat.ble (List.length v10) 137438953472) then(Option.some (strOfNums (List.map Dt.toInt v10))) else(Option.none)).bind fun v11=>
 some v11))
noncomputable def notation_Quote_l1 (m:Nat):Nat→ByteArray→Int→Int→List Dt→Option ByteArray
 |0,_,_,_,_=>none
 |M1+1,x0,x1,x2,x3=>
  (bif (decide (x2<x1)) then
  notation_Quote_j2 m (notation_Quote_l1 m M1) x0 x1 x2 x3
 else
  notation_Quote_j6 m x3)
noncomputable def notation_Quote_j0 (m:Nat) (x0:ByteArray) (x1 x2:Int) (x3:List Dt):Option ByteArray:=
 notation_Quote_l1 m (Nat.succ m) x0 x1 x2 x3
noncomputable def notation_Quote:Nat→ByteArray→Option ByteArray
 |0,_=>none
 |m+1,a0=>
  notation_Quote_j0 m a0 (ByteArray.size a0:Int) 0 [(Dt.int 34)]
noncomputable def i16_j3 (m:Nat) (rec1:ByteArray→Int→Int→List Dt→Option (List Dt)) (x0:ByteArray) (x1 x2:Int) (x3:List Dt):Option (List Dt):=
 rec1 x0 x1 (IntKind.wrap .i64 (x2+1)) x3
noncomputable def i16_j2 (m:Nat) (rec1:ByteArray→Int→Int→List Dt→Option (List Dt)) (x0:ByteArray) (x1 x2:Int) (x3:List Dt):Option (List Dt):=
  ((idxS x0 x2).bind fun v0=>
    ((idxS (ByteArray.mk (List.toArray [48,49,50,51,52,53,54,55,56,57,97,98,99,100,101,102])) (shrI IntKind.u8 v0 4)).bind fun v1=>
 ((idxS x0 x2).bind fun v2=>
 ((idxS (ByteArray.mk (List.toArray [48,49,50,51,52,53,54,55,56,57,97,98,99,100,101,102])) (andI IntKind.u8 v2 15)).bind fun v3=>
 ((app x3 [(Dt.int v1),(Dt.int v3)]).bind fun v4=>
 i16_j3 m rec1 x0 x1 x2 v4)))))
noncomputable def i16_j4 (m:Nat) (x0:List Dt):Option (List Dt):=
 some x0
noncomputable def i16_l1 (m:Nat):Nat→ByteArray→Int→Int→List Dt→Option (List Dt)
 |0,_,_,_,_=>none
 |M1+1,x0,x1,x2,x3=>
  (bif (decide (x2<x1)) then
  i16_j2 m (i16_l1 m M1) x0 x1 x2 x3
 else
  i16_j4 m x3)
noncomputable def i16_j0 (m:Nat) (x0:ByteArray) (x1 x2:Int) (x3:List Dt):Option (List Dt):=
 i16_l1 m (Nat.succ m) x0 x1 x2 x3
noncomputable def i16:Nat→ByteArray→List Dt→Option (List Dt)
 |0,_,_=>none
 |m+1,a0,a1=>
  i16_j0 m a0 (ByteArray.size a0:Int) 0 a1
noncomputable def i24_j0 (m:Nat) (x0:Dt):Option (Int×Dt):=
 ((idxS (Dt.S x0 0) (Dt.I x0 1)).bind fun v0=>
   some ((IntKind.wrap .i64 v0),x0))
noncomputable def i24:Nat→Dt→Option (Int×Dt)
 |0,_=>none
 |m+1,a0=>
  (bif ((Dt.I a0 1)==(ByteArray.size (Dt.S a0 0):Int)) then
  some ((-1),a0)
 else
  i24_j0 m a0)
noncomputable def i23_j1 (m:Nat) (rec0:Dt→Option Dt) (x0:Bool) (x1:Dt):Option Dt:=
 (bif x0 then
  rec0 (Dt.agg [(Dt.str (Dt.S x1 0)),(Dt.int (IntKind.wrap .i64 ((Dt.I x1 1)+1))),(Dt.int (Dt.I x1 2)),(Dt.int (Dt.I x1 3)),(Dt.int (Dt.I x1 4))])
 else
  some x1)
noncomputable def i23_l0 (m:Nat):Nat→Dt→Option Dt
  |0,_=>none
  |M0+1,x0=>
   ((i24 m x0).bind fun r0=>
   (bif (r0.1==9) then
 i23_j1 m (i23_l0 m M0) (r0.1==9) r0.2
   else
 (bif (r0.1==10) then
 i23_j1 m (i23_l0 m M0) (r0.1==10) r0.2
 else
 (bif (r0.1==13) then
 i23_j1 m (i23_l0 m M0) (r0.1==13) r0.2
 else
 i23_j1 m (i23_l0 m M0) (r0.1==32) r0.2))))
noncomputable def i23:Nat→Dt→Option Dt
 |0,_=>none
 |m+1,a0=>
  i23_l0 m (Nat.succ m) a0
noncomputable def i27:Nat→Int→Int→Dt→Option (Bool×Dt)
 |0,_,_,_=>none
 |m+1,a0,a1,a2=>
  some (false,(Dt.agg [(Dt.str (Dt.S a2 0)),(Dt.int (Dt.I a2 1)),(Dt.int (Dt.I a2 2)),(Dt.int a0),(Dt.int a1)]))
noncomputable def i26_j1 (m:Nat) (x0:Dt):Option (Bool×Dt):=
 some (true,(Dt.agg [(Dt.str (Dt.S x0 0)),(Dt.int (Dt.I x0 1)),(Dt.int (IntKind.wrap .i64 ((Dt.I x0 2)+1))),(Dt.int (Dt.I x0 3)),(Dt.int (Dt.I x0 4))]))
noncomputable def i26_j0 (m:Nat) (x0:Int) (x1:Bool) (x2:Dt):Option (Bool×Dt):=
  (bif x1 then
   ((i27 m 2 x0 x2).bind fun r0=>
 some (r0.1,r0.2))
  else
   i26_j1 m x2)
noncomputable def i26:Nat→Int→Int→Dt→Option (Bool×Dt)
 |0,_,_,_=>none
 |m+1,a0,a1,a2=>
  (bif (decide (16<a0)) then
  i26_j0 m a1 true a2
 else
  i26_j0 m a1 ((Dt.I a2 2)==1024) a2)
noncomputable def i31_j7 (m:Nat) (rec1:Int→Int→Dt→Option (Int×Bool×Dt)) (x0 x1:Int) (x2:Dt):Option (Int×Bool×Dt):=
 rec1 x0 (IntKind.wrap .i64 (x1+1)) x2
noncomputable def i31_j6 (m:Nat) (rec1:Int→Int→Dt→Option (Int×Bool×Dt)) (x0 x1 x2:Int) (x3:Dt):Option (Int×Bool×Dt):=
 i31_j7 m rec1 (orI IntKind.i32 (shlI IntKind.i32 x0 4) (IntKind.wrap IntKind.i32 x1)) x2 (Dt.agg [(Dt.str (Dt.S x3 0)),(Dt.int (IntKind.wrap .i64 ((Dt.I x3 1)+1))),(Dt.int (Dt.I x3 2)),(Dt.int (Dt.I x3 3)),(Dt.int (Dt.I x3 4))])
noncomputable def i31_j5 (m:Nat) (rec1:Int→Int→Dt→Option (Int×Bool×Dt)) (x0 x1 x2:Int) (x3:Bool) (x4:Dt):Option (Int×Bool×Dt):=
  (bif x3 then
   ((i27 m 4 (Dt.I x4 1) x4).bind fun r1=>
 some (0,r1.1,r1.2))
  else
   i31_j6 m rec1 x0 x1 x2 x4)
noncomputable def i31_j4 (m:Nat) (rec1:Int→Int→Dt→Option (Int×Bool×Dt)) (x0 x1 x2 x3:Int) (x4:Dt):Option (Int×Bool×Dt):=
  (bif (decide (x2<0)) then
   i31_j5 m rec1 x0 x2 x3 true x4
  else
   (bif (x1==1) then
 (bif (x0==13) then
 i31_j5 m rec1 x0 x2 x3 (decide (8≤x2)) x4
 else
 i31_j5 m rec1 x0 x2 x3 false x4)
   else
 i31_j5 m rec1 x0 x2 x3 false x4))
noncomputable def i31_j9 (m:Nat) (rec1:Int→Int→Dt→Option (Int×Bool×Dt)) (x0 x1 x2 x3 x4:Int) (x5:Bool) (x6:Dt):Option (Int×Bool×Dt):=
 (bif x5 then
  i31_j4 m rec1 x0 x1 (IntKind.wrap .i64 ((IntKind.wrap .i64 (x2-65))+10)) x4 x6
 else
  i31_j4 m rec1 x0 x1 x3 x4 x6)
noncomputable def i31_j8 (m:Nat) (rec1:Int→Int→Dt→Option (Int×Bool×Dt)) (x0 x1 x2 x3 x4:Int) (x5:Bool) (x6:Dt):Option (Int×Bool×Dt):=
  (bif x5 then
   i31_j4 m rec1 x0 x1 (IntKind.wrap .i64 ((IntKind.wrap .i64 (x2-97))+10)) x4 x6
  else
   (bif (decide (65≤x2)) then
 i31_j9 m rec1 x0 x1 x2 x3 x4 (decide (x2≤70)) x6
   else
 i31_j9 m rec1 x0 x1 x2 x3 x4 false x6))
noncomputable def i31_j3 (m:Nat) (rec1:Int→Int→Dt→Option (Int×Bool×Dt)) (x0 x1 x2 x3 x4:Int) (x5:Bool) (x6:Dt):Option (Int×Bool×Dt):=
  (bif x5 then
   i31_j4 m rec1 x0 x1 (IntKind.wrap .i64 (x2-48)) x4 x6
  else
   (bif (decide (97≤x2)) then
 i31_j8 m rec1 x0 x1 x2 x3 x4 (decide (x2≤102)) x6
   else
 i31_j8 m rec1 x0 x1 x2 x3 x4 false x6))
noncomputable def i31_j2 (m:Nat) (rec1:Int→Int→Dt→Option (Int×Bool×Dt)) (x0 x1:Int) (x2:Dt):Option (Int×Bool×Dt):=
  ((i24 m x2).bind fun r0=>
    (bif (decide (48≤r0.1)) then
 i31_j3 m rec1 x0 x1 r0.1 (-1) x1 (decide (r0.1≤57)) r0.2
    else
 i31_j3 m rec1 x0 x1 r0.1 (-1) x1 false r0.2))
noncomputable def i31_j10 (m:Nat) (x0:Int) (x1:Dt):Option (Int×Bool×Dt):=
 some (x0,true,x1)
noncomputable def i31_l1 (m:Nat):Nat→Int→Int→Dt→Option (Int×Bool×Dt)
 |0,_,_,_=>none
 |M1+1,x0,x1,x2=>
  (bif (decide (x1<4)) then
  i31_j2 m (i31_l1 m M1) x0 x1 x2
 else
  i31_j10 m x0 x2)
noncomputable def i31_j0 (m:Nat) (x0 x1:Int) (x2:Dt):Option (Int×Bool×Dt):=
 i31_l1 m (Nat.succ m) x0 x1 x2
noncomputable def i31:Nat→Dt→Option (Int×Bool×Dt)
 |0,_=>none
 |m+1,a0=>
  i31_j0 m 0 0 a0
noncomputable def i30_j1 (m:Nat) (x0:Int) (x1:Dt):Option (Int×Bool×Dt):=
 some (x0,true,(Dt.agg [(Dt.str (Dt.S x1 0)),(Dt.int (IntKind.wrap .i64 ((Dt.I x1 1)+1))),(Dt.int (Dt.I x1 2)),(Dt.int (Dt.I x1 3)),(Dt.int (Dt.I x1 4))]))
noncomputable def i30_j0 (m:Nat) (x0 x1:Int) (x2:Bool) (x3:Dt):Option (Int×Bool×Dt):=
  (bif x2 then
   i30_j1 m x0 x3
  else
   (bif (x1==98) then
 i30_j1 m 8 x3
   else
 (bif (x1==102) then
 i30_j1 m 12 x3
 else
 (bif (x1==110) then
 i30_j1 m 10 x3
 else
 (bif (x1==114) then
 i30_j1 m 13 x3
 else
 (bif (x1==116) then
 i30_j1 m 9 x3
 else
 (bif (x1==117) then
 ((i31 m (Dt.agg [(Dt.str (Dt.S x3 0)),(Dt.int (IntKind.wrap .i64 ((Dt.I x3 1)+1))),(Dt.int (Dt.I x3 2)),(Dt.int (Dt.I x3 3)),(Dt.int (Dt.I x3 4))])).bind fun r1=>
 some (r1.1,r1.2.1,r1.2.2))
 else
 ((i27 m 4 (Dt.I x3 1) x3).bind fun r2=>
 some (0,r2.1,r2.2)))))))))
noncomputable def i30:Nat→Dt→Option (Int×Bool×Dt)
  |0,_=>none
  |m+1,a0=>
   ((i24 m a0).bind fun r0=>
   (bif (r0.1==34) then
 i30_j0 m (IntKind.wrap IntKind.i32 r0.1) r0.1 (r0.1==34) r0.2
   else
 (bif (r0.1==92) then
 i30_j0 m (IntKind.wrap IntKind.i32 r0.1) r0.1 (r0.1==92) r0.2
 else
 i30_j0 m (IntKind.wrap IntKind.i32 r0.1) r0.1 (r0.1==47) r0.2)))
noncomputable def i33_j1 (m:Nat) (x0:Int) (x1:Bool) (x2:List Dt):Option (List Dt):=
  (bif x1 then
   ((app x2 [(Dt.int (orI IntKind.u8 240 (IntKind.wrap IntKind.u8 (shrI IntKind.i32 x0 18)))),(Dt.int (orI IntKind.u8 128 (andI IntKind.u8 (IntKind.wrap IntKind.u8 (shrI IntKind.i32 x0 12)) 63))),(Dt.int (orI IntKind.u8 128 (andI IntKind.u8 (IntKind.wrap IntKind.u8 (shrI IntKind.i32 x0 6)) 63))),(Dt.int (orI IntKind.u8 128 (andI IntKind.u8 (IntKind.wrap IntKind.u8 x0) 63)))]).bind fun v2=>
 some v2)
  else
   ((app x2 [(Dt.int 239),(Dt.int 191),(Dt.int 189)]).bind fun v3=>
 some v3))
noncomputable def i33_j0 (m:Nat) (x0 x1:Int) (x2:Bool) (x3:List Dt):Option (List Dt):=
  (bif x2 then
   ((app x3 [(Dt.int (orI IntKind.u8 224 (IntKind.wrap IntKind.u8 (shrI IntKind.i32 x0 12)))),(Dt.int (orI IntKind.u8 128 (andI IntKind.u8 (IntKind.wrap IntKind.u8 (shrI IntKind.i32 x0 6)) 63))),(Dt.int (orI IntKind.u8 128 (andI IntKind.u8 (IntKind.wrap IntKind.u8 x0) 63)))]).bind fun v1=>
 some v1)
  else
   (bif (decide (65535<x1)) then
 i33_j1 m x0 (decide (x1≤1114111)) x3
   else
 i33_j1 m x0 false x3))
noncomputable def i33:Nat→Int→List Dt→Option (List Dt)
  |0,_,_=>none
  |m+1,a0,a1=>
   (bif (decide ((IntKind.wrap IntKind.u32 a0)≤2047)) then
   ((app a1 [(Dt.int (orI IntKind.u8 192 (IntKind.wrap IntKind.u8 (shrI IntKind.i32 a0 6)))),(Dt.int (orI IntKind.u8 128 (andI IntKind.u8 (IntKind.wrap IntKind.u8 a0) 63)))]).bind fun v0=>
 some v0)
  else
   (bif (decide ((IntKind.wrap IntKind.u32 a0)<55296)) then
 i33_j0 m a0 (IntKind.wrap IntKind.u32 a0) (decide ((IntKind.wrap IntKind.u32 a0)<55296)) a1
   else
 (bif (decide (57343<(IntKind.wrap IntKind.u32 a0))) then
 i33_j0 m a0 (IntKind.wrap IntKind.u32 a0) (decide ((IntKind.wrap IntKind.u32 a0)≤65535)) a1
 else
 i33_j0 m a0 (IntKind.wrap IntKind.u32 a0) false a1)))
noncomputable def i32_j0 (m:Nat) (x0:Int) (x1:List Dt):Option (List Dt):=
 ((i33 m x0 x1).bind fun r1=>
   some r1)
noncomputable def i32:Nat→Int→List Dt→Option (List Dt)
  |0,_,_=>none
  |m+1,a0,a1=>
   (bif (decide ((IntKind.wrap IntKind.u32 a0)≤127)) then
   ((app a1 [(Dt.int (IntKind.wrap IntKind.u8 a0))]).bind fun v0=>
 some v0)
  else
   i32_j0 m a0 a1)
noncomputable def i29_j2 (m:Nat) (x0:Dt) (x1:List Dt):Option (ByteArray×Bool×Dt):=
 ((bif (Nat.ble (List.length x1) 137438953472) then(Option.some (strOfNums (List.map Dt.toInt x1))) else(Option.none)).bind fun v1=>
   some (v1,true,x0))
noncomputable def i29_j3 (m:Nat) (rec1:Dt→List Dt→Option (ByteArray×Bool×Dt)) (x0:Int) (x1:Dt) (x2:List Dt):Option (ByteArray×Bool×Dt):=
 ((i32 m x0 x2).bind fun r4=>
   rec1 x1 r4)
noncomputable def i29_l1 (m:Nat):Nat→Dt→List Dt→Option (ByteArray×Bool×Dt)
  |0,_,_=>none
  |M1+1,x0,x1=>
   ((i24 m x0).bind fun r0=>
   (bif (r0.1==34) then
 i29_j2 m (Dt.agg [(Dt.str (Dt.S r0.2 0)),(Dt.int (IntKind.wrap .i64 ((Dt.I r0.2 1)+1))),(Dt.int (Dt.I r0.2 2)),(Dt.int (Dt.I r0.2 3)),(Dt.int (Dt.I r0.2 4))]) x1
   else
 (bif (decide (r0.1<32)) then
 ((i27 m 4 (Dt.I r0.2 1) r0.2).bind fun r2=>
 some ((ByteArray.mk (List.toArray [])),r2.1,r2.2))
 else
 (bif (r0.1==92) then
 ((i30 m (Dt.agg [(Dt.str (Dt.S r0.2 0)),(Dt.int (IntKind.wrap .i64 ((Dt.I r0.2 1)+1))),(Dt.int (Dt.I r0.2 2)),(Dt.int (Dt.I r0.2 3)),(Dt.int (Dt.I r0.2 4))])).bind fun r3=>
 (bif (Bool.not r3.2.1) then
 some ((ByteArray.mk (List.toArray [])),false,r3.2.2)
 else
 i29_j3 m (i29_l1 m M1) r3.1 r3.2.2 x1))
 else
 ((app x1 [(Dt.int (IntKind.wrap IntKind.u8 r0.1))]).bind fun v5=>
 (i29_l1 m M1) (Dt.agg [(Dt.str (Dt.S r0.2 0)),(Dt.int (IntKind.wrap .i64 ((Dt.I r0.2 1)+1))),(Dt.int (Dt.I r0.2 2)),(Dt.int (Dt.I r0.2 3)),(Dt.int (Dt.I r0.2 4))]) v5)))))
noncomputable def i29_j0 (m:Nat) (x0:Dt) (x1:List Dt):Option (ByteArray×Bool×Dt):=
 i29_l1 m (Nat.succ m) x0 x1
noncomputable def i29:Nat→Dt→Option (ByteArray×Bool×Dt)
 |0,_=>none
 |m+1,a0=>
  i29_j0 m (Dt.agg [(Dt.str (Dt.S a0 0)),(Dt.int (IntKind.wrap .i64 ((Dt.I a0 1)+1))),(Dt.int (Dt.I a0 2)),(Dt.int (Dt.I a0 3)),(Dt.int (Dt.I a0 4))]) []
noncomputable def i28_j2 (m:Nat) (x0:ByteArray) (x1 x2:Dt):Option (Dt×Bool×Dt):=
 some ((Dt.agg [(Dt.int 4),(Dt.int 0),(Dt.str x0),(Dt.lst []),(Dt.lst [])]),true,x1)
noncomputable def i28_j1 (m:Nat) (x0:Int) (x1:ByteArray) (x2 x3:Dt):Option (Dt×Bool×Dt):=
  ((utf8_ValidString x1).bind fun r2=>
    (bif (Bool.not r2) then
 ((i27 m 4 x0 x2).bind fun r3=>
 some (kza2373,r3.1,r3.2))
    else
 i28_j2 m x1 x2 x3))
noncomputable def i28_j0 (m:Nat) (x0:Int) (x1:ByteArray) (x2 x3:Dt):Option (Dt×Bool×Dt):=
  (bif (decide (4096<(ByteArray.size x1:Int))) then
   ((i27 m 2 x0 x2).bind fun r1=>
 some (kza2373,r1.1,r1.2))
  else
   i28_j1 m x0 x1 x2 x3)
noncomputable def i28:Nat→Dt→Option (Dt×Bool×Dt)
  |0,_=>none
  |m+1,a0=>
   ((i29 m a0).bind fun r0=>
   (bif (Bool.not r0.2.1) then
 some (kza2373,false,r0.2.2)
   else
 i28_j0 m (Dt.I a0 1) r0.1 r0.2.2 kza2373))
noncomputable def notation_isField_j4 (m:Nat) (rec1:ByteArray→Int→Int→Option Bool) (x0:ByteArray) (x1 x2:Int):Option Bool:=
 rec1 x0 x1 (IntKind.wrap .i64 (x2+1))
noncomputable def notation_isField_j3 (m:Nat) (rec1:ByteArray→Int→Int→Option Bool) (x0:ByteArray) (x1 x2:Int) (x3:Bool):Option Bool:=
 (bif x3 then
  some false
 else
  notation_isField_j4 m rec1 x0 x1 x2)
noncomputable def notation_isField_j2 (m:Nat) (rec1:ByteArray→Int→Int→Option Bool) (x0:ByteArray) (x1 x2:Int):Option Bool:=
  ((idxS x0 x2).bind fun v0=>
    (bif (decide (v0<32)) then
 notation_isField_j3 m rec1 x0 x1 x2 true
    else
 ((idxS x0 x2).bind fun v1=>
 notation_isField_j3 m rec1 x0 x1 x2 (decide (126<v1)))))
noncomputable def notation_isField_j5 (m:Nat) (x0:ByteArray):Option Bool:=
 some (Bool.not ((ByteArray.toList x0)==[]))
noncomputable def notation_isField_l1 (m:Nat):Nat→ByteArray→Int→Int→Option Bool
 |0,_,_,_=>none
 |M1+1,x0,x1,x2=>
  (bif (decide (x2<x1)) then
  notation_isField_j2 m (notation_isField_l1 m M1) x0 x1 x2
 else
  notation_isField_j5 m x0)
noncomputable def notation_isField_j0 (m:Nat) (x0:ByteArray) (x1 x2:Int):Option Bool:=
 notation_isField_l1 m (Nat.succ m) x0 x1 x2
noncomputable def notation_isField:Nat→ByteArray→Option Bool
 |0,_=>none
 |m+1,a0=>
  notation_isField_j0 m a0 (ByteArray.size a0:Int) 0
noncomputable def i37_j5 (m:Nat) (x0:ByteArray) (x1:Dt) (x2:List Dt):Option (ByteArray×Bool×Dt×List Dt):=
 ((i23 m (Dt.agg [(Dt.str (Dt.S x1 0)),(Dt.int (IntKind.wrap .i64 ((Dt.I x1 1)+1))),(Dt.int (Dt.I x1 2)),(Dt.int (Dt.I x1 3)),(Dt.int (Dt.I x1 4))])).bind fun r9=>
   some (x0,true,r9,x2))
noncomputable def i37_j4 (m:Nat) (x0:ByteArray) (x1:Dt) (x2:List Dt):Option (ByteArray×Bool×Dt×List Dt):=
  ((i23 m x1).bind fun r6=>
    ((i24 m r6).bind fun r7=>
 (bif (r7.1 !=58) then
 ((i27 m 4 (Dt.I r7.2 1) r7.2).bind fun r8=>
 some ((ByteArray.mk (List.toArray [])),r8.1,r8.2,x2))
 else
 i37_j5 m x0 r7.2 x2)))
noncomputable def i37_j3 (m:Nat) (x0:Int) (x1:ByteArray) (x2:Bool) (x3:Dt) (x4:List Dt):Option (ByteArray×Bool×Dt×List Dt):=
  (bif x2 then
   ((i27 m 4 x0 x3).bind fun r5=>
 some ((ByteArray.mk (List.toArray [])),r5.1,r5.2,x4))
  else
   i37_j4 m x1 x3 x4)
noncomputable def i37_j2 (m:Nat) (x0:Int) (x1:ByteArray) (x2:Dt) (x3:List Dt):Option (ByteArray×Bool×Dt×List Dt):=
  ((notation_isField m x1).bind fun r4=>
    (bif (Bool.not r4) then
 i37_j3 m x0 x1 true x2 x3
    else
 i37_j3 m x0 x1 (Dt.toBool (mgetD x3 x1 (Dt.bool false))) x2 x3))
noncomputable def i37_j1 (m:Nat) (x0:Int) (x1:ByteArray) (x2:Dt) (x3:List Dt):Option (ByteArray×Bool×Dt×List Dt):=
  (bif (decide (128<(ByteArray.size x1:Int))) then
   ((i27 m 2 x0 x2).bind fun r3=>
 some ((ByteArray.mk (List.toArray [])),r3.1,r3.2,x3))
  else
   i37_j2 m x0 x1 x2 x3)
noncomputable def i37_j0 (m:Nat) (x0:Int) (x1:Dt) (x2:List Dt):Option (ByteArray×Bool×Dt×List Dt):=
  ((i29 m x1).bind fun r2=>
    (bif (Bool.not r2.2.1) then
 some ((ByteArray.mk (List.toArray [])),false,r2.2.2,x2)
    else
 i37_j1 m x0 r2.1 r2.2.2 x2))
noncomputable def i37:Nat→Dt→List Dt→Option (ByteArray×Bool×Dt×List Dt)
  |0,_,_=>none
  |m+1,a0,a1=>
   ((i24 m a0).bind fun r0=>
   (bif (r0.1 !=34) then
 ((i27 m 4 (Dt.I a0 1) r0.2).bind fun r1=>
 some ((ByteArray.mk (List.toArray [])),r1.1,r1.2,a1))
   else
 i37_j0 m (Dt.I a0 1) r0.2 a1))
noncomputable def notation_isSpecial_j1 (m:Nat):Option Bool:=
 some false
noncomputable def notation_isSpecial_j0 (m:Nat) (x0:Bool):Option Bool:=
 (bif x0 then
  some true
 else
  notation_isSpecial_j1 m)
noncomputable def notation_isSpecial:Nat→ByteArray→Option Bool
  |0,_=>none
  |m+1,a0=>
   (bif ((ByteArray.toList a0)==[36,105,100]) then
   notation_isSpecial_j0 m ((ByteArray.toList a0)==[36,105,100])
  else
   (bif ((ByteArray.toList a0)==[36,98,121,116,101,115]) then
 notation_isSpecial_j0 m ((ByteArray.toList a0)==[36,98,121,116,101,115])
   else
 (bif ((ByteArray.toList a0)==[36,116,105,109,101]) then
 notation_isSpecial_j0 m ((ByteArray.toList a0)==[36,116,105,109,101])
 else
 (bif ((ByteArray.toList a0)==[36,109,105,110]) then
 notation_isSpecial_j0 m ((ByteArray.toList a0)==[36,109,105,110])
 else
 notation_isSpecial_j0 m ((ByteArray.toList a0)==[36,109,97,120])))))
noncomputable def notation_fromHex_j8 (m:Nat) (rec3:Int→Int→Dt→List Dt→Option (ByteArray×Bool)) (x0 x1:Int) (x2:Dt) (x3:List Dt):Option (ByteArray×Bool):=
 rec3 x0 (IntKind.wrap .i64 (x1+1)) x2 x3
noncomputable def notation_fromHex_j7 (m:Nat) (rec3:Int→Int→Dt→List Dt→Option (ByteArray×Bool)) (x0 x1 x2 x3:Int) (x4:Dt) (x5:List Dt):Option (ByteArray×Bool):=
  ((inL x5 (IntKind.wrap .i64 (Int.tdiv x0 2))).bind fun v2=>
    ((x5[(Int.toNat (IntKind.wrap .i64 (Int.tdiv x0 2)))]?).bind fun v3=>
 ((inL x5 (IntKind.wrap .i64 (Int.tdiv x0 2))).bind fun v4=>
 ((x5[(Int.toNat (IntKind.wrap .i64 (Int.tdiv x0 2)))]?).bind fun v5=>
 notation_fromHex_j8 m rec3 x2 x3 x4 (List.set x5 (Int.toNat (IntKind.wrap .i64 (Int.tdiv x0 2))) (Dt.int (orI IntKind.u8 (shlI IntKind.u8 (Dt.toInt v3) 4) (IntKind.wrap IntKind.u8 x1))))))))
noncomputable def notation_fromHex_j6 (m:Nat) (rec3:Int→Int→Dt→List Dt→Option (ByteArray×Bool)) (x0 x1 x2 x3:Int) (x4:Dt) (x5:List Dt):Option (ByteArray×Bool):=
 (bif (decide (x1<0)) then
  some ((ByteArray.mk (List.toArray [])),false)
 else
  notation_fromHex_j7 m rec3 x0 x1 x2 x3 x4 x5)
noncomputable def notation_fromHex_j9 (m:Nat) (rec3:Int→Int→Dt→List Dt→Option (ByteArray×Bool)) (x0 x1 x2 x3 x4:Int) (x5:Bool) (x6:Dt) (x7:List Dt):Option (ByteArray×Bool):=
 (bif x5 then
  notation_fromHex_j6 m rec3 x0 (IntKind.wrap .i64 ((IntKind.wrap .i64 (IntKind.wrap IntKind.u8 (x2-97)))+10)) x3 x4 x6 x7
 else
  notation_fromHex_j6 m rec3 x0 x1 x3 x4 x6 x7)
noncomputable def notation_fromHex_j5 (m:Nat) (rec3:Int→Int→Dt→List Dt→Option (ByteArray×Bool)) (x0 x1 x2 x3 x4:Int) (x5:Bool) (x6:Dt) (x7:List Dt):Option (ByteArray×Bool):=
  (bif x5 then
   notation_fromHex_j6 m rec3 x0 (IntKind.wrap .i64 (IntKind.wrap IntKind.u8 (x2-48))) x3 x4 x6 x7
  else
   (bif (decide (97≤x2)) then
 notation_fromHex_j9 m rec3 x0 x1 x2 x3 x4 (decide (x2≤102)) x6 x7
   else
 notation_fromHex_j9 m rec3 x0 x1 x2 x3 x4 false x6 x7))
noncomputable def notation_fromHex_j4 (m:Nat) (rec3:Int→Int→Dt→List Dt→Option (ByteArray×Bool)) (x0 x1:Int) (x2:Dt) (x3:List Dt):Option (ByteArray×Bool):=
  ((idxS (Dt.S x2 2) x1).bind fun v1=>
    (bif (decide (48≤v1)) then
 notation_fromHex_j5 m rec3 x1 (-1) v1 x0 x1 (decide (v1≤57)) x2 x3
    else
 notation_fromHex_j5 m rec3 x1 (-1) v1 x0 x1 false x2 x3))
noncomputable def notation_fromHex_j10 (m:Nat) (x0:List Dt):Option (ByteArray×Bool):=
 ((bif (Nat.ble (List.length x0) 137438953472) then(Option.some (strOfNums (List.map Dt.toInt x0))) else(Option.none)).bind fun v6=>
   some (v6,true))
noncomputable def notation_fromHex_l3 (m:Nat):Nat→Int→Int→Dt→List Dt→Option (ByteArray×Bool)
 |0,_,_,_,_=>none
 |M3+1,x0,x1,x2,x3=>
  (bif (decide (x1<x0)) then
  notation_fromHex_j4 m (notation_fromHex_l3 m M3) x0 x1 x2 x3
 else
  notation_fromHex_j10 m x3)
noncomputable def notation_fromHex_j2 (m:Nat) (x0 x1:Int) (x2:Dt) (x3:List Dt):Option (ByteArray×Bool):=
 notation_fromHex_l3 m (Nat.succ m) x0 x1 x2 x3
noncomputable def notation_fromHex_j1 (m:Nat) (x0:Dt):Option (ByteArray×Bool):=
 ((mkL (IntKind.wrap .i64 (Int.tdiv (ByteArray.size (Dt.S x0 2):Int) 2)) (IntKind.wrap .i64 (Int.tdiv (ByteArray.size (Dt.S x0 2):Int) 2)) (Dt.int 0)).bind fun v0=>
   notation_fromHex_j2 m (ByteArray.size (Dt.S x0 2):Int) 0 x0 v0)
noncomputable def notation_fromHex_j0 (m:Nat) (x0:Bool) (x1:Dt):Option (ByteArray×Bool):=
 (bif x0 then
  some ((ByteArray.mk (List.toArray [])),false)
 else
  notation_fromHex_j1 m x1)
noncomputable def notation_fromHex:Nat→Dt→Option (ByteArray×Bool)
 |0,_=>none
 |m+1,a0=>
  (bif ((Dt.I a0 0) !=4) then
  notation_fromHex_j0 m true a0
 else
  notation_fromHex_j0 m ((Int.tmod (ByteArray.size (Dt.S a0 2):Int) 2) !=0) a0)
noncomputable def notation_special_j1 (m:Nat) (x0:Dt):Option (Dt×Bool):=
 some (kza2373,false)
noncomputable def notation_special_j0 (m:Nat) (x0:List Dt) (x1:Dt):Option (Dt×Bool):=
  ((idx x0 0).bind fun v0=>
    ((idx x0 0).bind fun v1=>
 (bif ((ByteArray.toList (Dt.S v1 0))==[36,105,100]) then
 ((notation_fromHex m (Dt.fld v0 1)).bind fun r2=>
 (bif r2.2 then
 some ((Dt.agg [(Dt.int 8),(Dt.int 0),(Dt.str r2.1),(Dt.lst []),(Dt.lst [])]),((ByteArray.size r2.1:Int)==12))
 else
 some ((Dt.agg [(Dt.int 8),(Dt.int 0),(Dt.str r2.1),(Dt.lst []),(Dt.lst [])]),false)))
 else
 (bif ((ByteArray.toList (Dt.S v1 0))==[36,98,121,116,101,115]) then
 ((notation_fromHex m (Dt.fld v0 1)).bind fun r3=>
 some ((Dt.agg [(Dt.int 7),(Dt.int 0),(Dt.str r3.1),(Dt.lst []),(Dt.lst [])]),r3.2))
 else
 (bif ((ByteArray.toList (Dt.S v1 0))==[36,116,105,109,101]) then
 (bif ((Dt.I (Dt.fld v0 1) 0)==3) then
 some ((Dt.agg [(Dt.int 10),(Dt.int (Dt.I (Dt.fld v0 1) 1)),(Dt.str (ByteArray.mk (List.toArray []))),(Dt.lst []),(Dt.lst [])]),(decide (0≤(Dt.I (Dt.fld v0 1) 1))))
 else
 some ((Dt.agg [(Dt.int 10),(Dt.int (Dt.I (Dt.fld v0 1) 1)),(Dt.str (ByteArray.mk (List.toArray []))),(Dt.lst []),(Dt.lst [])]),false))
 else
 (bif ((ByteArray.toList (Dt.S v1 0))==[36,109,105,110]) then
 (bif ((Dt.I (Dt.fld v0 1) 0)==3) then
 some (kz2ef54,((Dt.I (Dt.fld v0 1) 1)==1))
 else
 some (kz2ef54,false))
 else
 (bif ((ByteArray.toList (Dt.S v1 0))==[36,109,97,120]) then
 (bif ((Dt.I (Dt.fld v0 1) 0)==3) then
 some (kzedecf,((Dt.I (Dt.fld v0 1) 1)==1))
 else
 some (kzedecf,false))
 else
 notation_special_j1 m x1)))))))
noncomputable def notation_special:Nat→List Dt→Option (Dt×Bool)
 |0,_=>none
 |m+1,a0=>
  (bif ((List.length a0:Int) !=1) then
  some (kza2373,false)
 else
  notation_special_j0 m a0 kza2373)
noncomputable def i11_j0 (m:Nat) (self17:List Dt→List Dt→Option (Int×List Dt)) (self18:List Dt→List Dt→Option (Int×List Dt)) (x0:List Dt):Option (Int×List Dt):=
 some (0,x0)
noncomputable def i11_j1 (m:Nat) (self17:List Dt→List Dt→Option (Int×List Dt)) (self18:List Dt→List Dt→Option (Int×List Dt)) (x0:List Dt) (x1:Dt):Option (Int×List Dt):=
  ((app x0 [(Dt.int 123),(Dt.int 34),(Dt.int 36),(Dt.int 98),(Dt.int 121),(Dt.int 116),(Dt.int 101),(Dt.int 115),(Dt.int 34),(Dt.int 58),(Dt.int 34)]).bind fun v13=>
    ((i16 m (Dt.S x1 2) v13).bind fun r14=>
 ((app r14 [(Dt.int 34),(Dt.int 125)]).bind fun v15=>
 i11_j0 m self17 self18 v15)))
noncomputable def i17_j4 (m:Nat) (self11:Dt→List Dt→Option (Int×List Dt)) (rec1:List Dt→Int→Int→List Dt→Option (Int×List Dt)) (x0:List Dt) (x1 x2:Int) (x3:List Dt):Option (Int×List Dt):=
 rec1 x0 x1 (IntKind.wrap .i64 (x2+1)) x3
noncomputable def i17_j3 (m:Nat) (self11:Dt→List Dt→Option (Int×List Dt)) (rec1:List Dt→Int→Int→List Dt→Option (Int×List Dt)) (x0:List Dt) (x1 x2:Int) (x3:List Dt) (x4:Dt):Option (Int×List Dt):=
  ((self11 x4 x3).bind fun r3=>
    (bif (r3.1 !=0) then
 some (r3.1,[])
    else
 i17_j4 m self11 rec1 x0 x1 x2 r3.2))
noncomputable def i17_j2 (m:Nat) (self11:Dt→List Dt→Option (Int×List Dt)) (rec1:List Dt→Int→Int→List Dt→Option (Int×List Dt)) (x0:List Dt) (x1 x2:Int) (x3:List Dt):Option (Int×List Dt):=
  ((idx x0 x2).bind fun v1=>
    (bif (decide (0<x2)) then
 ((app x3 [(Dt.int 44)]).bind fun v2=>
 i17_j3 m self11 rec1 x0 x1 x2 v2 v1)
    else
 i17_j3 m self11 rec1 x0 x1 x2 x3 v1))
noncomputable def i17_j5 (m:Nat) (self11:Dt→List Dt→Option (Int×List Dt)) (x0:List Dt):Option (Int×List Dt):=
 ((app x0 [(Dt.int 93)]).bind fun v4=>
   some (0,v4))
noncomputable def i17_l1 (m:Nat) (self11:Dt→List Dt→Option (Int×List Dt)):Nat→List Dt→Int→Int→List Dt→Option (Int×List Dt)
 |0,_,_,_,_=>none
 |M1+1,x0,x1,x2,x3=>
  (bif (decide (x2<x1)) then
  i17_j2 m self11 (i17_l1 m self11 M1) x0 x1 x2 x3
 else
  i17_j5 m self11 x3)
noncomputable def i17_j0 (m:Nat) (self11:Dt→List Dt→Option (Int×List Dt)) (x0:List Dt) (x1 x2:Int) (x3:List Dt):Option (Int×List Dt):=
 i17_l1 m self11 (Nat.succ m) x0 x1 x2 x3
noncomputable def i18_j5 (m:Nat) (self11:Dt→List Dt→Option (Int×List Dt)) (rec2:List Dt→Int→Int→List Dt→Option (Int×List Dt)) (x0:List Dt) (x1 x2:Int) (x3:List Dt):Option (Int×List Dt):=
 rec2 x0 x1 (IntKind.wrap .i64 (x2+1)) x3
noncomputable def i18_j4 (m:Nat) (self11:Dt→List Dt→Option (Int×List Dt)) (rec2:List Dt→Int→Int→List Dt→Option (Int×List Dt)) (x0:List Dt) (x1 x2:Int) (x3:List Dt) (x4:Dt):Option (Int×List Dt):=
  ((notation_Quote m (Dt.S x4 0)).bind fun r4=>
    ((app x3 (List.map (fun b=>(Dt.int ((UInt8.toNat b):Int))) (Array.toList (ByteArray.data (Dt.toStr (Dt.str r4)))))).bind fun v5=>
 ((app v5 [(Dt.int 58)]).bind fun v6=>
 ((self11 (Dt.fld x4 1) v6).bind fun r7=>
 (bif (r7.1 !=0) then
 some (r7.1,[])
 else
 i18_j5 m self11 rec2 x0 x1 x2 r7.2)))))
noncomputable def i18_j3 (m:Nat) (self11:Dt→List Dt→Option (Int×List Dt)) (rec2:List Dt→Int→Int→List Dt→Option (Int×List Dt)) (x0:List Dt) (x1 x2:Int) (x3:List Dt):Option (Int×List Dt):=
  ((idx x0 x2).bind fun v2=>
    (bif (decide (0<x2)) then
 ((app x3 [(Dt.int 44)]).bind fun v3=>
 i18_j4 m self11 rec2 x0 x1 x2 v3 v2)
    else
 i18_j4 m self11 rec2 x0 x1 x2 x3 v2))
noncomputable def i18_j6 (m:Nat) (self11:Dt→List Dt→Option (Int×List Dt)) (x0:List Dt):Option (Int×List Dt):=
 ((app x0 [(Dt.int 125)]).bind fun v8=>
   some (0,v8))
noncomputable def i18_l2 (m:Nat) (self11:Dt→List Dt→Option (Int×List Dt)):Nat→List Dt→Int→Int→List Dt→Option (Int×List Dt)
 |0,_,_,_,_=>none
 |M2+1,x0,x1,x2,x3=>
  (bif (decide (x2<x1)) then
  i18_j3 m self11 (i18_l2 m self11 M2) x0 x1 x2 x3
 else
  i18_j6 m self11 x3)
noncomputable def i18_j1 (m:Nat) (self11:Dt→List Dt→Option (Int×List Dt)) (x0:List Dt) (x1 x2:Int) (x3:List Dt):Option (Int×List Dt):=
 i18_l2 m self11 (Nat.succ m) x0 x1 x2 x3
noncomputable def i18_j0 (m:Nat) (self11:Dt→List Dt→Option (Int×List Dt)) (x0 x1:List Dt):Option (Int×List Dt):=
 ((app x1 [(Dt.int 123)]).bind fun v1=>
   i18_j1 m self11 x0 (List.length x0:Int) 0 v1)
mutual
noncomputable def i11:Nat→Dt→List Dt→Option (Int×List Dt)
  |0,_,_=>none
  |m+1,a0,a1=>
   (bif ((Dt.I a0 0)==1) then
   ((app a1 [(Dt.int 123),(Dt.int 34),(Dt.int 36),(Dt.int 109),(Dt.int 105),(Dt.int 110),(Dt.int 34),(Dt.int 58),(Dt.int 49),(Dt.int 125)]).bind fun v0=>
 i11_j0 m (i17 m) (i18 m) v0)
  else
   (bif ((Dt.I a0 0)==11) then
 ((app a1 [(Dt.int 123),(Dt.int 34),(Dt.int 36),(Dt.int 109),(Dt.int 97),(Dt.int 120),(Dt.int 34),(Dt.int 58),(Dt.int 49),(Dt.int 125)]).bind fun v1=>
 i11_j0 m (i17 m) (i18 m) v1)
   else
 (bif ((Dt.I a0 0)==2) then
 ((app a1 [(Dt.int 110),(Dt.int 117),(Dt.int 108),(Dt.int 108)]).bind fun v2=>
 i11_j0 m (i17 m) (i18 m) v2)
 else
 (bif ((Dt.I a0 0)==9) then
 ((i12 m ((Dt.I a0 1)==1) a1).bind fun r3=>
 i11_j0 m (i17 m) (i18 m) r3)
 else
 (bif ((Dt.I a0 0)==3) then
 ((strconv_AppendInt (Dt.I a0 1) 10 a1).bind fun r4=>
 i11_j0 m (i17 m) (i18 m) r4)
 else
 (bif ((Dt.I a0 0)==10) then
 ((app a1 [(Dt.int 123),(Dt.int 34),(Dt.int 36),(Dt.int 116),(Dt.int 105),(Dt.int 109),(Dt.int 101),(Dt.int 34),(Dt.int 58)]).bind fun v5=>
 ((strconv_AppendInt (Dt.I a0 1) 10 v5).bind fun r6=>
 ((app r6 [(Dt.int 125)]).bind fun v7=>
 i11_j0 m (i17 m) (i18 m) v7)))
 else
 (bif ((Dt.I a0 0)==4) then
 ((notation_Quote m (Dt.S a0 2)).bind fun r8=>
 ((app a1 (List.map (fun b=>(Dt.int ((UInt8.toNat b):Int))) (Array.toList (ByteArray.data (Dt.toStr (Dt.str r8)))))).bind fun v9=>
 i11_j0 m (i17 m) (i18 m) v9))
 else
 (bif ((Dt.I a0 0)==8) then
 ((app a1 [(Dt.int 123),(Dt.int 34),(Dt.int 36),(Dt.int 105),(Dt.int 100),(Dt.int 34),(Dt.int 58),(Dt.int 34)]).bind fun v10=>
 ((i16 m (Dt.S a0 2) v10).bind fun r11=>
 ((app r11 [(Dt.int 34),(Dt.int 125)]).bind fun v12=>
 i11_j0 m (i17 m) (i18 m) v12)))
 else
 (bif ((Dt.I a0 0)==7) then
 (bif (decide (2048<(ByteArray.size (Dt.S a0 2):Int))) then
 some (2,[])
 else
 i11_j1 m (i17 m) (i18 m) a1 a0)
 else
 (bif ((Dt.I a0 0)==6) then
 ((i17 m (Dt.L a0 3) a1).bind fun r16=>
 some (r16.1,r16.2))
 else
 (bif ((Dt.I a0 0)==5) then
 ((i18 m (Dt.L a0 4) a1).bind fun r17=>
 some (r17.1,r17.2))
 else
 i11_j0 m (i17 m) (i18 m) a1)))))))))))
noncomputable def i17:Nat→List Dt→List Dt→Option (Int×List Dt)
 |0,_,_=>none
 |m+1,a0,a1=>
  ((app a1 [(Dt.int 91)]).bind fun v0=>
  i17_j0 m (i11 m) a0 (List.length a0:Int) 0 v0)
noncomputable def i18:Nat→List Dt→List Dt→Option (Int×List Dt)
  |0,_,_=>none
  |m+1,a0,a1=>
   ((notation_special m a0).bind fun r0=>
   (bif r0.2 then
 some (4,[])
   else
 i18_j0 m (i11 m) a0 a1))
end
noncomputable def i40_j1 (m:Nat) (x0:List Dt) (x1:Dt):Option (Dt×Bool×List Dt):=
 some (kza2373,false,x0)
noncomputable def i40_j0 (m:Nat) (x0:List Dt) (x1:Dt):Option (Dt×Bool×List Dt):=
  ((inL x0 0).bind fun v0=>
    ((x0[0]?).bind fun v1=>
 ((inL x0 0).bind fun v2=>
 ((x0[0]?).bind fun v3=>
 (bif ((ByteArray.toList (Dt.S v3 0))==[36,105,100]) then
 ((notation_fromHex m (Dt.fld v1 1)).bind fun r4=>
 (bif r4.2 then
 some ((Dt.agg [(Dt.int 8),(Dt.int 0),(Dt.str r4.1),(Dt.lst []),(Dt.lst [])]),((ByteArray.size r4.1:Int)==12),x0)
 else
 some ((Dt.agg [(Dt.int 8),(Dt.int 0),(Dt.str r4.1),(Dt.lst []),(Dt.lst [])]),false,x0)))
 else
 (bif ((ByteArray.toList (Dt.S v3 0))==[36,98,121,116,101,115]) then
 ((notation_fromHex m (Dt.fld v1 1)).bind fun r5=>
 some ((Dt.agg [(Dt.int 7),(Dt.int 0),(Dt.str r5.1),(Dt.lst []),(Dt.lst [])]),r5.2,x0))
 else
 (bif ((ByteArray.toList (Dt.S v3 0))==[36,116,105,109,101]) then
 (bif ((Dt.I (Dt.fld v1 1) 0)==3) then
 some ((Dt.agg [(Dt.int 10),(Dt.int (Dt.I (Dt.fld v1 1) 1)),(Dt.str (ByteArray.mk (List.toArray []))),(Dt.lst []),(Dt.lst [])]),(decide (0≤(Dt.I (Dt.fld v1 1) 1))),x0)
 else
 some ((Dt.agg [(Dt.int 10),(Dt.int (Dt.I (Dt.fld v1 1) 1)),(Dt.str (ByteArray.mk (List.toArray []))),(Dt.lst []),(Dt.lst [])]),false,x0))
 else
 (bif ((ByteArray.toList (Dt.S v3 0))==[36,109,105,110]) then
 (bif ((Dt.I (Dt.fld v1 1) 0)==3) then
 some (kz2ef54,((Dt.I (Dt.fld v1 1) 1)==1),x0)
 else
 some (kz2ef54,false,x0))
 else
 (bif ((ByteArray.toList (Dt.S v3 0))==[36,109,97,120]) then
 (bif ((Dt.I (Dt.fld v1 1) 0)==3) then
 some (kzedecf,((Dt.I (Dt.fld v1 1) 1)==1),x0)
 else
 some (kzedecf,false,x0))
 else
 i40_j1 m x0 x1)))))))))
noncomputable def i40:Nat→List Dt→Option (Dt×Bool×List Dt)
 |0,_=>none
 |m+1,a0=>
  (bif ((List.length a0:Int) !=1) then
  some (kza2373,false,a0)
 else
  i40_j0 m a0 kza2373)
noncomputable def i42_j4 (m:Nat) (rec1:ByteArray→Int→Int→Dt→Option (Bool×Dt)) (x0:ByteArray) (x1 x2:Int) (x3:Dt):Option (Bool×Dt):=
 rec1 x0 x1 (IntKind.wrap .i64 (x2+1)) x3
noncomputable def i42_j3 (m:Nat) (rec1:ByteArray→Int→Int→Dt→Option (Bool×Dt)) (x0:ByteArray) (x1 x2:Int) (x3:Dt):Option (Bool×Dt):=
 i42_j4 m rec1 x0 x1 x2 (Dt.agg [(Dt.str (Dt.S x3 0)),(Dt.int (IntKind.wrap .i64 ((Dt.I x3 1)+1))),(Dt.int (Dt.I x3 2)),(Dt.int (Dt.I x3 3)),(Dt.int (Dt.I x3 4))])
noncomputable def i42_j2 (m:Nat) (rec1:ByteArray→Int→Int→Dt→Option (Bool×Dt)) (x0:ByteArray) (x1 x2:Int) (x3:Dt):Option (Bool×Dt):=
  ((i24 m x3).bind fun r0=>
    ((idxS x0 x2).bind fun v1=>
 (bif (r0.1 !=(IntKind.wrap .i64 v1)) then
 ((i27 m 4 (Dt.I r0.2 1) r0.2).bind fun r2=>
 some (r2.1,r2.2))
 else
 i42_j3 m rec1 x0 x1 x2 r0.2)))
noncomputable def i42_j5 (m:Nat) (x0:Dt):Option (Bool×Dt):=
 some (true,x0)
noncomputable def i42_l1 (m:Nat):Nat→ByteArray→Int→Int→Dt→Option (Bool×Dt)
 |0,_,_,_,_=>none
 |M1+1,x0,x1,x2,x3=>
  (bif (decide (x2<x1)) then
  i42_j2 m (i42_l1 m M1) x0 x1 x2 x3
 else
  i42_j5 m x3)
noncomputable def i42_j0 (m:Nat) (x0:ByteArray) (x1 x2:Int) (x3:Dt):Option (Bool×Dt):=
 i42_l1 m (Nat.succ m) x0 x1 x2 x3
noncomputable def i42:Nat→ByteArray→Dt→Option (Bool×Dt)
 |0,_,_=>none
 |m+1,a0,a1=>
  i42_j0 m a0 (ByteArray.size a0:Int) 0 a1
noncomputable def i43_j4 (m:Nat) (rec3:Int→Dt→Dt→Option (Dt×Bool×Dt)) (x0:Int) (x1 x2:Dt):Option (Dt×Bool×Dt):=
 rec3 x0 (Dt.agg [(Dt.str (Dt.S x1 0)),(Dt.int (IntKind.wrap .i64 ((Dt.I x1 1)+1))),(Dt.int (Dt.I x1 2)),(Dt.int (Dt.I x1 3)),(Dt.int (Dt.I x1 4))]) x2
noncomputable def i43_j6 (m:Nat) (x0:Int) (x1 x2:Dt):Option (Dt×Bool×Dt):=
 some ((Dt.agg [(Dt.int 3),(Dt.int x0),(Dt.str (ByteArray.mk (List.toArray []))),(Dt.lst []),(Dt.lst [])]),true,x1)
noncomputable def i43_j5 (m:Nat) (x0:Int) (x1 x2:Dt):Option (Dt×Bool×Dt):=
  ((cutS (Dt.S x1 0) x0 (Dt.I x1 1)).bind fun v5=>
    ((strconv_ParseInt v5 10 64).bind fun r6=>
 (bif (Bool.not r6.2) then
 ((i27 m 2 x0 x1).bind fun r7=>
 some (kza2373,r7.1,r7.2))
 else
 i43_j6 m r6.1 x1 x2)))
noncomputable def i43_l3 (m:Nat):Nat→Int→Dt→Dt→Option (Dt×Bool×Dt)
  |0,_,_,_=>none
  |M3+1,x0,x1,x2=>
   ((i24 m x1).bind fun r3=>
   (bif (decide (48≤r3.1)) then
 ((i24 m r3.2).bind fun r4=>
 (bif (decide (r4.1≤57)) then
 i43_j4 m (i43_l3 m M3) x0 r4.2 x2
 else
 i43_j5 m x0 r4.2 x2))
   else
 i43_j5 m x0 r3.2 x2))
noncomputable def i43_j2 (m:Nat) (x0 x1:Int) (x2 x3:Dt):Option (Dt×Bool×Dt):=
 (bif (x1 !=48) then
  i43_l3 m (Nat.succ m) x0 (Dt.agg [(Dt.str (Dt.S x2 0)),(Dt.int (IntKind.wrap .i64 ((Dt.I x2 1)+1))),(Dt.int (Dt.I x2 2)),(Dt.int (Dt.I x2 3)),(Dt.int (Dt.I x2 4))]) x3
 else
  i43_j5 m x0 (Dt.agg [(Dt.str (Dt.S x2 0)),(Dt.int (IntKind.wrap .i64 ((Dt.I x2 1)+1))),(Dt.int (Dt.I x2 2)),(Dt.int (Dt.I x2 3)),(Dt.int (Dt.I x2 4))]) x3)
noncomputable def i43_j1 (m:Nat) (x0 x1:Int) (x2:Bool) (x3 x4:Dt):Option (Dt×Bool×Dt):=
  (bif x2 then
   ((i27 m 4 (Dt.I x3 1) x3).bind fun r2=>
 some (kza2373,r2.1,r2.2))
  else
   i43_j2 m x0 x1 x3 x4)
noncomputable def i43_j0 (m:Nat) (x0:Int) (x1:Bool) (x2 x3:Dt):Option (Dt×Bool×Dt):=
  ((i24 m x2).bind fun r1=>
    (bif (decide (r1.1<48)) then
 i43_j1 m x0 r1.1 true r1.2 x3
    else
 (bif (decide (57<r1.1)) then
 i43_j1 m x0 r1.1 true r1.2 x3
 else
 (bif x1 then
 i43_j1 m x0 r1.1 (r1.1==48) r1.2 x3
 else
 i43_j1 m x0 r1.1 false r1.2 x3))))
noncomputable def i43:Nat→Dt→Option (Dt×Bool×Dt)
  |0,_=>none
  |m+1,a0=>
   ((i24 m a0).bind fun r0=>
   (bif (r0.1==45) then
 i43_j0 m (Dt.I a0 1) (r0.1==45) (Dt.agg [(Dt.str (Dt.S r0.2 0)),(Dt.int (IntKind.wrap .i64 ((Dt.I r0.2 1)+1))),(Dt.int (Dt.I r0.2 2)),(Dt.int (Dt.I r0.2 3)),(Dt.int (Dt.I r0.2 4))]) kza2373
   else
 i43_j0 m (Dt.I a0 1) (r0.1==45) r0.2 kza2373))
noncomputable def i25_j4 (m:Nat) (self35:Int→Dt→Option (Dt×Bool×Dt)) (self36:Int→Dt→Option (Dt×Bool×Dt)) (x0 x1:Dt):Option (Dt×Bool×Dt):=
 ((i43 m x0).bind fun r8=>
   some (r8.1,r8.2.1,r8.2.2))
noncomputable def i25_j3 (m:Nat) (self35:Int→Dt→Option (Dt×Bool×Dt)) (self36:Int→Dt→Option (Dt×Bool×Dt)) (x0 x1:Int) (x2 x3:Dt):Option (Dt×Bool×Dt):=
  (bif (x1==34) then
   ((i28 m x2).bind fun r2=>
 some (r2.1,r2.2.1,r2.2.2))
  else
   (bif (x1==91) then
 ((self35 x0 x2).bind fun r3=>
 some (r3.1,r3.2.1,r3.2.2))
   else
 (bif (x1==123) then
 ((self36 x0 x2).bind fun r4=>
 some (r4.1,r4.2.1,r4.2.2))
 else
 (bif (x1==110) then
 ((i42 m (ByteArray.mk (List.toArray [110,117,108,108])) x2).bind fun r5=>
 some (kz3c25e,r5.1,r5.2))
 else
 (bif (x1==116) then
 ((i42 m (ByteArray.mk (List.toArray [116,114,117,101])) x2).bind fun r6=>
 some (kzb2fe3,r6.1,r6.2))
 else
 (bif (x1==102) then
 ((i42 m (ByteArray.mk (List.toArray [102,97,108,115,101])) x2).bind fun r7=>
 some (kzb0365,r7.1,r7.2))
 else
 i25_j4 m self35 self36 x2 x3))))))
noncomputable def i25_j2 (m:Nat) (self35:Int→Dt→Option (Dt×Bool×Dt)) (self36:Int→Dt→Option (Dt×Bool×Dt)) (x0 x1:Int) (x2:Bool) (x3 x4:Dt):Option (Dt×Bool×Dt):=
 (bif x2 then
  some (kza2373,false,x3)
 else
  i25_j3 m self35 self36 x0 x1 x3 x4)
noncomputable def i25_j5 (m:Nat) (self35:Int→Dt→Option (Dt×Bool×Dt)) (self36:Int→Dt→Option (Dt×Bool×Dt)) (x0 x1 x2:Int) (x3:Bool) (x4 x5:Dt):Option (Dt×Bool×Dt):=
  (bif x3 then
   ((i26 m x0 x1 x4).bind fun r9=>
 (bif (Bool.not r9.1) then
 some (kza2373,false,r9.2)
 else
 i25_j3 m self35 self36 x0 x2 r9.2 x5))
  else
   ((i27 m 4 x1 x4).bind fun r10=>
 some (kza2373,r10.1,r10.2)))
noncomputable def i25_j1 (m:Nat) (self35:Int→Dt→Option (Dt×Bool×Dt)) (self36:Int→Dt→Option (Dt×Bool×Dt)) (x0:Int) (x1:Bool) (x2 x3:Int) (x4:Bool) (x5 x6:Dt):Option (Dt×Bool×Dt):=
  (bif x4 then
   (bif (Bool.not x1) then
 ((i26 m x0 x2 x5).bind fun r1=>
 i25_j2 m self35 self36 x0 x3 (Bool.not r1.1) r1.2 x6)
   else
 i25_j2 m self35 self36 x0 x3 false x5 x6)
  else
   (bif (x3==91) then
 i25_j5 m self35 self36 x0 x2 x3 true x5 x6
   else
 (bif (x3==123) then
 i25_j5 m self35 self36 x0 x2 x3 true x5 x6
 else
 (bif (x3==110) then
 i25_j5 m self35 self36 x0 x2 x3 true x5 x6
 else
 (bif (x3==116) then
 i25_j5 m self35 self36 x0 x2 x3 true x5 x6
 else
 i25_j5 m self35 self36 x0 x2 x3 (x3==102) x5 x6)))))
noncomputable def i25_j0 (m:Nat) (self35:Int→Dt→Option (Dt×Bool×Dt)) (self36:Int→Dt→Option (Dt×Bool×Dt)) (x0:Int) (x1:Bool) (x2 x3:Int) (x4:Bool) (x5 x6:Dt):Option (Dt×Bool×Dt):=
 (bif (x3==34) then
  i25_j1 m self35 self36 x0 x1 x2 x3 true x5 x6
 else
  i25_j1 m self35 self36 x0 x1 x2 x3 x4 x5 x6)
noncomputable def i35_j5 (m:Nat) (self25:Int→Bool→Dt→Option (Dt×Bool×Dt)) (rec1:Int→Dt→Dt→Int→Int→ByteArray→List Dt→List Dt→Option (Dt×Bool×Dt)) (x0:Int) (x1 x2:Dt) (x3 x4:Int) (x5:ByteArray) (x6 x7:List Dt):Option (Dt×Bool×Dt):=
 ((i23 m x1).bind fun r7=>
   rec1 x0 r7 x2 x3 x4 x5 x6 x7)
noncomputable def i35_j4 (m:Nat) (self25:Int→Bool→Dt→Option (Dt×Bool×Dt)) (rec1:Int→Dt→Dt→Int→Int→ByteArray→List Dt→List Dt→Option (Dt×Bool×Dt)) (x0 x1:Int) (x2 x3:Dt) (x4 x5:Int) (x6:ByteArray) (x7 x8:List Dt):Option (Dt×Bool×Dt):=
 (bif (x1==93) then
  some ((Dt.agg [(Dt.int x4),(Dt.int x5),(Dt.str x6),(Dt.lst x7),(Dt.lst x8)]),true,(Dt.agg [(Dt.str (Dt.S x2 0)),(Dt.int (IntKind.wrap .i64 ((Dt.I x2 1)+1))),(Dt.int (Dt.I x2 2)),(Dt.int (Dt.I x2 3)),(Dt.int (Dt.I x2 4))]))
 else
  i35_j5 m self25 rec1 x0 (Dt.agg [(Dt.str (Dt.S x2 0)),(Dt.int (IntKind.wrap .i64 ((Dt.I x2 1)+1))),(Dt.int (Dt.I x2 2)),(Dt.int (Dt.I x2 3)),(Dt.int (Dt.I x2 4))]) x3 x4 x5 x6 x7 x8)
noncomputable def i35_j3 (m:Nat) (self25:Int→Bool→Dt→Option (Dt×Bool×Dt)) (rec1:Int→Dt→Dt→Int→Int→ByteArray→List Dt→List Dt→Option (Dt×Bool×Dt)) (x0 x1:Int) (x2:Bool) (x3 x4:Dt) (x5 x6:Int) (x7:ByteArray) (x8 x9:List Dt):Option (Dt×Bool×Dt):=
  (bif x2 then
   ((i27 m 4 (Dt.I x3 1) x3).bind fun r6=>
 some (kza2373,r6.1,r6.2))
  else
   i35_j4 m self25 rec1 x0 x1 x3 x4 x5 x6 x7 x8 x9)
noncomputable def i35_j2 (m:Nat) (self25:Int→Bool→Dt→Option (Dt×Bool×Dt)) (rec1:Int→Dt→Dt→Int→Int→ByteArray→List Dt→List Dt→Option (Dt×Bool×Dt)) (x0:Int) (x1 x2:Dt) (x3 x4:Int) (x5:ByteArray) (x6 x7:List Dt) (x8:Dt):Option (Dt×Bool×Dt):=
  ((app x6 [x8]).bind fun v3=>
    ((i23 m x1).bind fun r4=>
 ((i24 m r4).bind fun r5=>
 (bif (r5.1 !=44) then
 i35_j3 m self25 rec1 x0 r5.1 (r5.1 !=93) r5.2 x2 x3 x4 x5 v3 x7
 else
 i35_j3 m self25 rec1 x0 r5.1 false r5.2 x2 x3 x4 x5 v3 x7))))
noncomputable def i35_l1 (m:Nat) (self25:Int→Bool→Dt→Option (Dt×Bool×Dt)):Nat→Int→Dt→Dt→Int→Int→ByteArray→List Dt→List Dt→Option (Dt×Bool×Dt)
  |0,_,_,_,_,_,_,_,_=>none
  |M1+1,x0,x1,x2,x3,x4,x5,x6,x7=>
   ((self25 (IntKind.wrap .i64 (x0+1)) false x1).bind fun r2=>
   (bif (Bool.not r2.2.1) then
 some (kza2373,false,r2.2.2)
   else
 i35_j2 m self25 (i35_l1 m self25 M1) x0 r2.2.2 x2 x3 x4 x5 x6 x7 r2.1))
noncomputable def i35_j0 (m:Nat) (self25:Int→Bool→Dt→Option (Dt×Bool×Dt)) (x0:Int) (x1 x2:Dt) (x3 x4:Int) (x5:ByteArray) (x6 x7:List Dt):Option (Dt×Bool×Dt):=
 i35_l1 m self25 (Nat.succ m) x0 x1 x2 x3 x4 x5 x6 x7
noncomputable def i36_j10 (m:Nat) (self25:Int→Bool→Dt→Option (Dt×Bool×Dt)) (rec1:Int→Dt→Dt→Int→Int→ByteArray→List Dt→List Dt→List Dt→Option (Dt×Bool×Dt)) (x0:Int) (x1 x2:Dt) (x3 x4:Int) (x5:ByteArray) (x6 x7 x8:List Dt):Option (Dt×Bool×Dt):=
 ((i23 m x1).bind fun r11=>
   rec1 x0 r11 x2 x3 x4 x5 x6 x7 x8)
noncomputable def i36_j9 (m:Nat) (self25:Int→Bool→Dt→Option (Dt×Bool×Dt)) (rec1:Int→Dt→Dt→Int→Int→ByteArray→List Dt→List Dt→List Dt→Option (Dt×Bool×Dt)) (x0 x1:Int) (x2 x3:Dt) (x4 x5:Int) (x6:ByteArray) (x7 x8 x9:List Dt):Option (Dt×Bool×Dt):=
 (bif (x1==125) then
  some ((Dt.agg [(Dt.int x4),(Dt.int x5),(Dt.str x6),(Dt.lst x7),(Dt.lst x8)]),true,x2)
 else
  i36_j10 m self25 rec1 x0 x2 x3 x4 x5 x6 x7 x8 x9)
noncomputable def i36_j8 (m:Nat) (self25:Int→Bool→Dt→Option (Dt×Bool×Dt)) (rec1:Int→Dt→Dt→Int→Int→ByteArray→List Dt→List Dt→List Dt→Option (Dt×Bool×Dt)) (x0 x1:Int) (x2:Bool) (x3 x4:Dt) (x5 x6:Int) (x7:ByteArray) (x8 x9 x10:List Dt):Option (Dt×Bool×Dt):=
 (bif x2 then
  some (kza2373,false,x3)
 else
  i36_j9 m self25 rec1 x0 x1 x3 x4 x5 x6 x7 x8 x9 x10)
noncomputable def i36_j7 (m:Nat) (self25:Int→Bool→Dt→Option (Dt×Bool×Dt)) (rec1:Int→Dt→Dt→Int→Int→ByteArray→List Dt→List Dt→List Dt→Option (Dt×Bool×Dt)) (x0:Int) (x1:Bool) (x2 x3:Int) (x4 x5:Dt) (x6 x7:Int) (x8:ByteArray) (x9 x10 x11:List Dt) (x12:Dt):Option (Dt×Bool×Dt):=
  (bif x1 then
   (bif ((Dt.I x12 0)==4) then
 ((i26 m (IntKind.wrap .i64 (x0+1)) x2 x4).bind fun r10=>
 i36_j8 m self25 rec1 x0 x3 (Bool.not r10.1) r10.2 x5 x6 x7 x8 x9 x10 x11)
   else
 (bif ((Dt.I x12 0)==3) then
 ((i26 m (IntKind.wrap .i64 (x0+1)) x2 x4).bind fun r12=>
 i36_j8 m self25 rec1 x0 x3 (Bool.not r12.1) r12.2 x5 x6 x7 x8 x9 x10 x11)
 else
 i36_j8 m self25 rec1 x0 x3 false x4 x5 x6 x7 x8 x9 x10 x11))
  else
   i36_j8 m self25 rec1 x0 x3 false x4 x5 x6 x7 x8 x9 x10 x11)
noncomputable def i36_j6 (m:Nat) (self25:Int→Bool→Dt→Option (Dt×Bool×Dt)) (rec1:Int→Dt→Dt→Int→Int→ByteArray→List Dt→List Dt→List Dt→Option (Dt×Bool×Dt)) (x0:Int) (x1:Bool) (x2 x3:Int) (x4 x5:Dt) (x6 x7:Int) (x8:ByteArray) (x9 x10 x11:List Dt) (x12:Dt):Option (Dt×Bool×Dt):=
  (bif (x3==125) then
   ((i40 m x10).bind fun r9=>
 (bif r9.2.1 then
 some (r9.1,true,(Dt.agg [(Dt.str (Dt.S x4 0)),(Dt.int (IntKind.wrap .i64 ((Dt.I x4 1)+1))),(Dt.int (Dt.I x4 2)),(Dt.int (Dt.I x4 3)),(Dt.int (Dt.I x4 4))]))
 else
 i36_j7 m self25 rec1 x0 x1 x2 x3 (Dt.agg [(Dt.str (Dt.S x4 0)),(Dt.int (IntKind.wrap .i64 ((Dt.I x4 1)+1))),(Dt.int (Dt.I x4 2)),(Dt.int (Dt.I x4 3)),(Dt.int (Dt.I x4 4))]) x5 x6 x7 x8 x9 r9.2.2 x11 x12))
  else
   i36_j7 m self25 rec1 x0 x1 x2 x3 (Dt.agg [(Dt.str (Dt.S x4 0)),(Dt.int (IntKind.wrap .i64 ((Dt.I x4 1)+1))),(Dt.int (Dt.I x4 2)),(Dt.int (Dt.I x4 3)),(Dt.int (Dt.I x4 4))]) x5 x6 x7 x8 x9 x10 x11 x12)
noncomputable def i36_j5 (m:Nat) (self25:Int→Bool→Dt→Option (Dt×Bool×Dt)) (rec1:Int→Dt→Dt→Int→Int→ByteArray→List Dt→List Dt→List Dt→Option (Dt×Bool×Dt)) (x0:Int) (x1:Bool) (x2 x3:Int) (x4:Bool) (x5 x6:Dt) (x7 x8:Int) (x9:ByteArray) (x10 x11 x12:List Dt) (x13:Dt):Option (Dt×Bool×Dt):=
  (bif x4 then
   ((i27 m 4 (Dt.I x5 1) x5).bind fun r8=>
 some (kza2373,r8.1,r8.2))
  else
   i36_j6 m self25 rec1 x0 x1 x2 x3 x5 x6 x7 x8 x9 x10 x11 x12 x13)
noncomputable def i36_j4 (m:Nat) (self25:Int→Bool→Dt→Option (Dt×Bool×Dt)) (rec1:Int→Dt→Dt→Int→Int→ByteArray→List Dt→List Dt→List Dt→Option (Dt×Bool×Dt)) (x0:Int) (x1:ByteArray) (x2:Bool) (x3:Int) (x4 x5:Dt) (x6 x7:Int) (x8:ByteArray) (x9 x10 x11:List Dt) (x12:Dt):Option (Dt×Bool×Dt):=
  ((app x10 [(Dt.agg [(Dt.str x1),x12])]).bind fun v5=>
    ((i23 m x4).bind fun r6=>
 ((i24 m r6).bind fun r7=>
 (bif (r7.1 !=44) then
 i36_j5 m self25 rec1 x0 x2 x3 r7.1 (r7.1 !=125) r7.2 x5 x6 x7 x8 x9 v5 x11 x12
 else
 i36_j5 m self25 rec1 x0 x2 x3 r7.1 false r7.2 x5 x6 x7 x8 x9 v5 x11 x12))))
noncomputable def i36_j3 (m:Nat) (self25:Int→Bool→Dt→Option (Dt×Bool×Dt)) (rec1:Int→Dt→Dt→Int→Int→ByteArray→List Dt→List Dt→List Dt→Option (Dt×Bool×Dt)) (x0:Int) (x1:ByteArray) (x2:Bool) (x3 x4:Dt) (x5 x6:Int) (x7:ByteArray) (x8 x9 x10:List Dt):Option (Dt×Bool×Dt):=
  ((self25 (IntKind.wrap .i64 (x0+1)) x2 x3).bind fun r4=>
    (bif (Bool.not r4.2.1) then
 some (kza2373,false,r4.2.2)
    else
 i36_j4 m self25 rec1 x0 x1 x2 (Dt.I x3 1) r4.2.2 x4 x5 x6 x7 x8 x9 x10 r4.1))
noncomputable def i36_j2 (m:Nat) (self25:Int→Bool→Dt→Option (Dt×Bool×Dt)) (rec1:Int→Dt→Dt→Int→Int→ByteArray→List Dt→List Dt→List Dt→Option (Dt×Bool×Dt)) (x0:Int) (x1:ByteArray) (x2 x3:Dt) (x4 x5:Int) (x6:ByteArray) (x7 x8 x9:List Dt):Option (Dt×Bool×Dt):=
  (bif ((List.length x8:Int)==0) then
   ((notation_isSpecial m x1).bind fun r3=>
 i36_j3 m self25 rec1 x0 x1 r3 x2 x3 x4 x5 x6 x7 x8 (mput x9 x1 (Dt.bool true)))
  else
   i36_j3 m self25 rec1 x0 x1 false x2 x3 x4 x5 x6 x7 x8 (mput x9 x1 (Dt.bool true)))
noncomputable def i36_l1 (m:Nat) (self25:Int→Bool→Dt→Option (Dt×Bool×Dt)):Nat→Int→Dt→Dt→Int→Int→ByteArray→List Dt→List Dt→List Dt→Option (Dt×Bool×Dt)
  |0,_,_,_,_,_,_,_,_,_=>none
  |M1+1,x0,x1,x2,x3,x4,x5,x6,x7,x8=>
   ((i37 m x1 x8).bind fun r2=>
   (bif (Bool.not r2.2.1) then
 some (kza2373,false,r2.2.2.1)
   else
 i36_j2 m self25 (i36_l1 m self25 M1) x0 r2.1 r2.2.2.1 x2 x3 x4 x5 x6 x7 r2.2.2.2))
noncomputable def i36_j0 (m:Nat) (self25:Int→Bool→Dt→Option (Dt×Bool×Dt)) (x0:Int) (x1 x2:Dt) (x3 x4:Int) (x5:ByteArray) (x6 x7 x8:List Dt):Option (Dt×Bool×Dt):=
 i36_l1 m self25 (Nat.succ m) x0 x1 x2 x3 x4 x5 x6 x7 x8
mutual
noncomputable def i25:Nat→Int→Bool→Dt→Option (Dt×Bool×Dt)
  |0,_,_,_=>none
  |m+1,a0,a1,a2=>
   ((i24 m a2).bind fun r0=>
   (bif (r0.1==45) then
 i25_j0 m (i35 m) (i36 m) a0 a1 (Dt.I a2 1) r0.1 true r0.2 kza2373
   else
 (bif (decide (48≤r0.1)) then
 i25_j0 m (i35 m) (i36 m) a0 a1 (Dt.I a2 1) r0.1 (decide (r0.1≤57)) r0.2 kza2373
 else
 i25_j0 m (i35 m) (i36 m) a0 a1 (Dt.I a2 1) r0.1 false r0.2 kza2373)))
noncomputable def i35:Nat→Int→Dt→Option (Dt×Bool×Dt)
  |0,_,_=>none
  |m+1,a0,a1=>
   ((i23 m (Dt.agg [(Dt.str (Dt.S a1 0)),(Dt.int (IntKind.wrap .i64 ((Dt.I a1 1)+1))),(Dt.int (Dt.I a1 2)),(Dt.int (Dt.I a1 3)),(Dt.int (Dt.I a1 4))])).bind fun r0=>
   ((i24 m r0).bind fun r1=>
 (bif (r1.1==93) then
 some (kz73e26,true,(Dt.agg [(Dt.str (Dt.S r1.2 0)),(Dt.int (IntKind.wrap .i64 ((Dt.I r1.2 1)+1))),(Dt.int (Dt.I r1.2 2)),(Dt.int (Dt.I r1.2 3)),(Dt.int (Dt.I r1.2 4))]))
 else
 i35_j0 m (i25 m) a0 r1.2 kza2373 6 0 (ByteArray.mk (List.toArray [])) [] [])))
noncomputable def i36:Nat→Int→Dt→Option (Dt×Bool×Dt)
  |0,_,_=>none
  |m+1,a0,a1=>
   ((i23 m (Dt.agg [(Dt.str (Dt.S a1 0)),(Dt.int (IntKind.wrap .i64 ((Dt.I a1 1)+1))),(Dt.int (Dt.I a1 2)),(Dt.int (Dt.I a1 3)),(Dt.int (Dt.I a1 4))])).bind fun r0=>
   ((i24 m r0).bind fun r1=>
 (bif (r1.1==125) then
 some (kze9562,true,(Dt.agg [(Dt.str (Dt.S r1.2 0)),(Dt.int (IntKind.wrap .i64 ((Dt.I r1.2 1)+1))),(Dt.int (Dt.I r1.2 2)),(Dt.int (Dt.I r1.2 3)),(Dt.int (Dt.I r1.2 4))]))
 else
 i36_j0 m (i25 m) a0 r1.2 kza2373 5 0 (ByteArray.mk (List.toArray [])) [] [] [])))
end
noncomputable def notation_Parse_j1 (m:Nat) (x0 x1:Dt):Option (Dt×Int×Int):=
 some (x1,0,0)
noncomputable def notation_Parse_j0 (m:Nat) (x0 x1 x2:Dt):Option (Dt×Int×Int):=
 (bif ((Dt.I x1 3) !=0) then
  some (kza2373,(Dt.I x1 4),(Dt.I x1 3))
 else
  notation_Parse_j1 m x0 x2)
noncomputable def notation_Parse:Nat→ByteArray→Option (Dt×Int×Int)
  |0,_=>none
  |m+1,a0=>
   ((i23 m (Dt.agg [(Dt.str a0),(Dt.int 0),(Dt.int 0),(Dt.int 0),(Dt.int 0)])).bind fun r0=>
   ((i25 m 1 false r0).bind fun r1=>
 (bif r1.2.1 then
 ((i23 m r1.2.2).bind fun r2=>
 (bif (decide ((Dt.I r2 1)<(ByteArray.size a0:Int))) then
 ((i27 m 4 (Dt.I r2 1) r2).bind fun r3=>
 notation_Parse_j0 m kza2373 r3.2 r1.1)
 else
 notation_Parse_j0 m kza2373 r2 r1.1))
 else
 notation_Parse_j0 m kza2373 r1.2.2 r1.1)))
noncomputable def ref02_Same_j5 (m:Nat) (self45:Dt→Dt→Option Bool) (rec3:Int→Dt→Dt→Option Bool) (x0:Int) (x1 x2:Dt):Option Bool:=
 rec3 (IntKind.wrap .i64 (x0+1)) x1 x2
noncomputable def ref02_Same_j4 (m:Nat) (self45:Dt→Dt→Option Bool) (rec3:Int→Dt→Dt→Option Bool) (x0:Int) (x1 x2:Dt):Option Bool:=
  ((idx (Dt.L x1 3) x0).bind fun v0=>
    ((idx (Dt.L x2 3) x0).bind fun v1=>
 ((self45 v0 v1).bind fun r2=>
 (bif (Bool.not r2) then
 some false
 else
 ref02_Same_j5 m self45 rec3 x0 x1 x2))))
noncomputable def ref02_Same_j11 (m:Nat) (self45:Dt→Dt→Option Bool) (rec8:Int→Dt→Dt→Option Bool) (x0:Int) (x1 x2:Dt):Option Bool:=
 rec8 (IntKind.wrap .i64 (x0+1)) x1 x2
noncomputable def ref02_Same_j10 (m:Nat) (self45:Dt→Dt→Option Bool) (rec8:Int→Dt→Dt→Option Bool) (x0:Int) (x1:Bool) (x2 x3:Dt):Option Bool:=
 (bif x1 then
  some false
 else
  ref02_Same_j11 m self45 rec8 x0 x2 x3)
noncomputable def ref02_Same_j9 (m:Nat) (self45:Dt→Dt→Option Bool) (rec8:Int→Dt→Dt→Option Bool) (x0:Int) (x1 x2:Dt):Option Bool:=
  ((idx (Dt.L x1 4) x0).bind fun v3=>
    ((idx (Dt.L x2 4) x0).bind fun v4=>
 (bif (Bool.not ((ByteArray.toList (Dt.S v3 0))==(ByteArray.toList (Dt.S v4 0)))) then
 ref02_Same_j10 m self45 rec8 x0 true x1 x2
 else
 ((idx (Dt.L x1 4) x0).bind fun v5=>
 ((idx (Dt.L x2 4) x0).bind fun v6=>
 ((self45 (Dt.fld v5 1) (Dt.fld v6 1)).bind fun r7=>
 ref02_Same_j10 m self45 rec8 x0 (Bool.not r7) x1 x2))))))
noncomputable def ref02_Same_j12 (m:Nat) (self45:Dt→Dt→Option Bool):Option Bool:=
 some true
noncomputable def ref02_Same_l8 (m:Nat) (self45:Dt→Dt→Option Bool):Nat→Int→Dt→Dt→Option Bool
 |0,_,_,_=>none
 |M8+1,x0,x1,x2=>
  (bif (decide (x0<(List.length (Dt.L x1 4):Int))) then
  ref02_Same_j9 m self45 (ref02_Same_l8 m self45 M8) x0 x1 x2
 else
  ref02_Same_j12 m self45)
noncomputable def ref02_Same_j7 (m:Nat) (self45:Dt→Dt→Option Bool) (x0:Int) (x1 x2:Dt):Option Bool:=
 ref02_Same_l8 m self45 (Nat.succ m) x0 x1 x2
noncomputable def ref02_Same_j6 (m:Nat) (self45:Dt→Dt→Option Bool) (x0 x1:Dt):Option Bool:=
 ref02_Same_j7 m self45 0 x0 x1
noncomputable def ref02_Same_l3 (m:Nat) (self45:Dt→Dt→Option Bool):Nat→Int→Dt→Dt→Option Bool
 |0,_,_,_=>none
 |M3+1,x0,x1,x2=>
  (bif (decide (x0<(List.length (Dt.L x1 3):Int))) then
  ref02_Same_j4 m self45 (ref02_Same_l3 m self45 M3) x0 x1 x2
 else
  ref02_Same_j6 m self45 x1 x2)
noncomputable def ref02_Same_j2 (m:Nat) (self45:Dt→Dt→Option Bool) (x0:Int) (x1 x2:Dt):Option Bool:=
 ref02_Same_l3 m self45 (Nat.succ m) x0 x1 x2
noncomputable def ref02_Same_j1 (m:Nat) (self45:Dt→Dt→Option Bool) (x0 x1:Dt):Option Bool:=
 ref02_Same_j2 m self45 0 x0 x1
noncomputable def ref02_Same_j0 (m:Nat) (self45:Dt→Dt→Option Bool) (x0:Bool) (x1 x2:Dt):Option Bool:=
 (bif x0 then
  some false
 else
  ref02_Same_j1 m self45 x1 x2)
noncomputable def ref02_Same:Nat→Dt→Dt→Option Bool
  |0,_,_=>none
  |m+1,a0,a1=>
   (bif ((Dt.I a0 0) !=(Dt.I a1 0)) then
   ref02_Same_j0 m (ref02_Same m) true a0 a1
  else
   (bif ((Dt.I a0 1) !=(Dt.I a1 1)) then
 ref02_Same_j0 m (ref02_Same m) true a0 a1
   else
 (bif (Bool.not ((ByteArray.toList (Dt.S a0 2))==(ByteArray.toList (Dt.S a1 2)))) then
 ref02_Same_j0 m (ref02_Same m) true a0 a1
 else
 (bif ((List.length (Dt.L a0 3):Int) !=(List.length (Dt.L a1 3):Int)) then
 ref02_Same_j0 m (ref02_Same m) true a0 a1
 else
 ref02_Same_j0 m (ref02_Same m) ((List.length (Dt.L a0 4):Int) !=(List.length (Dt.L a1 4):Int)) a0 a1))))
noncomputable def ref05_Same:Nat→Dt→Dt→Option Bool
 |0,_,_=>none
 |m+1,a0,a1=>
  ((ref02_Same m a0 a1).bind fun r0=>
  some r0)
noncomputable def notation_rename_j4 (m:Nat) (self47:Dt→Option (Dt×Bool)) (rec1:List Dt→Int→Int→Dt→Dt→List Dt→Option (Dt×Bool)) (x0:List Dt) (x1 x2:Int) (x3 x4:Dt) (x5:List Dt):Option (Dt×Bool):=
 rec1 x0 x1 (IntKind.wrap .i64 (x2+1)) x3 x4 x5
noncomputable def notation_rename_j3 (m:Nat) (self47:Dt→Option (Dt×Bool)) (rec1:List Dt→Int→Int→Dt→Dt→List Dt→Option (Dt×Bool)) (x0:Int) (x1:List Dt) (x2 x3:Int) (x4 x5:Dt) (x6:List Dt) (x7:Dt):Option (Dt×Bool):=
  ((inL x6 x0).bind fun v3=>
    ((x6[(Int.toNat x0)]?).bind fun v4=>
 notation_rename_j4 m self47 rec1 x1 x2 x3 x4 x5 (List.set x6 (Int.toNat x0) x7)))
noncomputable def notation_rename_j2 (m:Nat) (self47:Dt→Option (Dt×Bool)) (rec1:List Dt→Int→Int→Dt→Dt→List Dt→Option (Dt×Bool)) (x0:List Dt) (x1 x2:Int) (x3 x4:Dt) (x5:List Dt):Option (Dt×Bool):=
  ((idx x0 x2).bind fun v1=>
    ((self47 v1).bind fun r2=>
 (bif (Bool.not r2.2) then
 some (kza2373,false)
 else
 notation_rename_j3 m self47 rec1 x2 x0 x1 x2 x3 x4 x5 r2.1)))
noncomputable def notation_rename_j6 (m:Nat) (self47:Dt→Option (Dt×Bool)) (x0 x1:Dt):Option (Dt×Bool):=
 some (x0,true)
noncomputable def notation_rename_j5 (m:Nat) (self47:Dt→Option (Dt×Bool)) (x0 x1:Dt) (x2:List Dt):Option (Dt×Bool):=
 notation_rename_j6 m self47 (Dt.agg [(Dt.int (Dt.I x0 0)),(Dt.int (Dt.I x0 1)),(Dt.str (Dt.S x0 2)),(Dt.lst x2),(Dt.lst (Dt.L x0 4))]) x1
noncomputable def notation_rename_l1 (m:Nat) (self47:Dt→Option (Dt×Bool)):Nat→List Dt→Int→Int→Dt→Dt→List Dt→Option (Dt×Bool)
 |0,_,_,_,_,_,_=>none
 |M1+1,x0,x1,x2,x3,x4,x5=>
  (bif (decide (x2<x1)) then
  notation_rename_j2 m self47 (notation_rename_l1 m self47 M1) x0 x1 x2 x3 x4 x5
 else
  notation_rename_j5 m self47 x3 x4 x5)
noncomputable def notation_rename_j0 (m:Nat) (self47:Dt→Option (Dt×Bool)) (x0:List Dt) (x1 x2:Int) (x3 x4:Dt) (x5:List Dt):Option (Dt×Bool):=
 notation_rename_l1 m self47 (Nat.succ m) x0 x1 x2 x3 x4 x5
noncomputable def notation_rename_j12 (m:Nat) (self47:Dt→Option (Dt×Bool)) (rec8:List Dt→Int→Int→Dt→Dt→List Dt→List Dt→Option (Dt×Bool)) (x0:List Dt) (x1 x2:Int) (x3 x4:Dt) (x5 x6:List Dt):Option (Dt×Bool):=
 rec8 x0 x1 (IntKind.wrap .i64 (x2+1)) x3 x4 x5 x6
noncomputable def notation_rename_j11 (m:Nat) (self47:Dt→Option (Dt×Bool)) (rec8:List Dt→Int→Int→Dt→Dt→List Dt→List Dt→Option (Dt×Bool)) (x0:Int) (x1:List Dt) (x2 x3:Int) (x4 x5:Dt) (x6 x7:List Dt) (x8 x9:Dt):Option (Dt×Bool):=
  ((strconv_Itoa x0).bind fun r8=>
    ((inL x6 x0).bind fun v9=>
 ((x6[(Int.toNat x0)]?).bind fun v10=>
 notation_rename_j12 m self47 rec8 x1 x2 x3 x4 x5 (List.set x6 (Int.toNat x0) (Dt.agg [(Dt.str r8),x9])) (mput x7 (Dt.S x8 0) (Dt.bool true)))))
noncomputable def notation_rename_j10 (m:Nat) (self47:Dt→Option (Dt×Bool)) (rec8:List Dt→Int→Int→Dt→Dt→List Dt→List Dt→Option (Dt×Bool)) (x0:Int) (x1:List Dt) (x2 x3:Int) (x4:Bool) (x5 x6:Dt) (x7 x8:List Dt) (x9 x10:Dt):Option (Dt×Bool):=
 (bif x4 then
  some (kza2373,false)
 else
  notation_rename_j11 m self47 rec8 x0 x1 x2 x3 x5 x6 x7 x8 x9 x10)
noncomputable def notation_rename_j9 (m:Nat) (self47:Dt→Option (Dt×Bool)) (rec8:List Dt→Int→Int→Dt→Dt→List Dt→List Dt→Option (Dt×Bool)) (x0:List Dt) (x1 x2:Int) (x3 x4:Dt) (x5 x6:List Dt):Option (Dt×Bool):=
  ((idx x0 x2).bind fun v6=>
    ((self47 (Dt.fld v6 1)).bind fun r7=>
 (bif (Bool.not r7.2) then
 notation_rename_j10 m self47 rec8 x2 x0 x1 x2 true x3 x4 x5 x6 v6 r7.1
 else
 (bif (decide (128<(ByteArray.size (Dt.S v6 0):Int))) then
 notation_rename_j10 m self47 rec8 x2 x0 x1 x2 true x3 x4 x5 x6 v6 r7.1
 else
 ((notation_isField m (Dt.S v6 0)).bind fun r11=>
 (bif (Bool.not r11) then
 notation_rename_j10 m self47 rec8 x2 x0 x1 x2 true x3 x4 x5 x6 v6 r7.1
 else
 notation_rename_j10 m self47 rec8 x2 x0 x1 x2 (Dt.toBool (mgetD x6 (Dt.S v6 0) (Dt.bool false))) x3 x4 x5 x6 v6 r7.1))))))
noncomputable def notation_rename_j13 (m:Nat) (self47:Dt→Option (Dt×Bool)) (x0 x1:Dt) (x2:List Dt):Option (Dt×Bool):=
 notation_rename_j6 m self47 (Dt.agg [(Dt.int (Dt.I x0 0)),(Dt.int (Dt.I x0 1)),(Dt.str (Dt.S x0 2)),(Dt.lst (Dt.L x0 3)),(Dt.lst x2)]) x1
noncomputable def notation_rename_l8 (m:Nat) (self47:Dt→Option (Dt×Bool)):Nat→List Dt→Int→Int→Dt→Dt→List Dt→List Dt→Option (Dt×Bool)
 |0,_,_,_,_,_,_,_=>none
 |M8+1,x0,x1,x2,x3,x4,x5,x6=>
  (bif (decide (x2<x1)) then
  notation_rename_j9 m self47 (notation_rename_l8 m self47 M8) x0 x1 x2 x3 x4 x5 x6
 else
  notation_rename_j13 m self47 x3 x4 x5)
noncomputable def notation_rename_j7 (m:Nat) (self47:Dt→Option (Dt×Bool)) (x0:List Dt) (x1 x2:Int) (x3 x4:Dt) (x5 x6:List Dt):Option (Dt×Bool):=
 notation_rename_l8 m self47 (Nat.succ m) x0 x1 x2 x3 x4 x5 x6
noncomputable def notation_rename:Nat→Dt→Option (Dt×Bool)
  |0,_=>none
  |m+1,a0=>
   (bif ((Dt.I a0 0)==6) then
   ((mkL (List.length (Dt.L a0 3):Int) (List.length (Dt.L a0 3):Int) kza2373).bind fun v0=>
 notation_rename_j0 m (notation_rename m) (Dt.L a0 3) (List.length (Dt.L a0 3):Int) 0 a0 kza2373 v0)
  else
   (bif ((Dt.I a0 0)==5) then
 ((mkL (List.length (Dt.L a0 4):Int) (List.length (Dt.L a0 4):Int) kzcda49).bind fun v5=>
 notation_rename_j7 m (notation_rename m) (Dt.L a0 4) (List.length (Dt.L a0 4):Int) 0 a0 kza2373 v5 [])
   else
 notation_rename_j6 m (notation_rename m) a0 kza2373))
noncomputable def ref05_Label_j4 (m:Nat) (rec1:ByteArray→Int→Option Bool) (x0:ByteArray) (x1:Int):Option Bool:=
 rec1 x0 (IntKind.wrap .i64 (x1+1))
noncomputable def ref05_Label_j3 (m:Nat) (rec1:ByteArray→Int→Option Bool) (x0:ByteArray) (x1:Int) (x2:Bool):Option Bool:=
 (bif x2 then
  some false
 else
  ref05_Label_j4 m rec1 x0 x1)
noncomputable def ref05_Label_j2 (m:Nat) (rec1:ByteArray→Int→Option Bool) (x0:ByteArray) (x1:Int):Option Bool:=
  ((idxS x0 x1).bind fun v0=>
    (bif (decide (v0<32)) then
 ref05_Label_j3 m rec1 x0 x1 true
    else
 ((idxS x0 x1).bind fun v1=>
 ref05_Label_j3 m rec1 x0 x1 (decide (126<v1)))))
noncomputable def ref05_Label_j5 (m:Nat) (x0:ByteArray):Option Bool:=
 (bif (decide (1≤(ByteArray.size x0:Int))) then
  some (decide ((ByteArray.size x0:Int)≤128))
 else
  some false)
noncomputable def ref05_Label_l1 (m:Nat):Nat→ByteArray→Int→Option Bool
 |0,_,_=>none
 |M1+1,x0,x1=>
  (bif (decide (x1<(ByteArray.size x0:Int))) then
  ref05_Label_j2 m (ref05_Label_l1 m M1) x0 x1
 else
  ref05_Label_j5 m x0)
noncomputable def ref05_Label_j0 (m:Nat) (x0:ByteArray) (x1:Int):Option Bool:=
 ref05_Label_l1 m (Nat.succ m) x0 x1
noncomputable def ref05_Label:Nat→ByteArray→Option Bool
 |0,_=>none
 |m+1,a0=>
  ref05_Label_j0 m a0 0
noncomputable def value_nodes_j0 (m:Nat) (self60:Dt→Int→Int→Option (Int×Int)) (x0:Dt) (x1 x2:Int):Option Int:=
 ((self60 x0 x2 x1).bind fun r0=>
   some r0.1)
noncomputable def i60_j3 (m:Nat) (self61:Dt→Int→Int→Option (Bool×Int×Int)) (rec1:List Dt→Int→Int→Int→Int→Option (Int×Int)) (x0:List Dt) (x1 x2 x3 x4:Int):Option (Int×Int):=
 rec1 x0 x1 (IntKind.wrap .i64 (x2+1)) x3 x4
noncomputable def i60_j2 (m:Nat) (self61:Dt→Int→Int→Option (Bool×Int×Int)) (rec1:List Dt→Int→Int→Int→Int→Option (Int×Int)) (x0:List Dt) (x1 x2 x3 x4:Int):Option (Int×Int):=
  ((idx x0 x2).bind fun v0=>
    ((self61 v0 x3 x4).bind fun r1=>
 (bif (Bool.not r1.1) then
 some (r1.2.1,r1.2.2)
 else
 i60_j3 m self61 rec1 x0 x1 x2 r1.2.1 r1.2.2)))
noncomputable def i60_l1 (m:Nat) (self61:Dt→Int→Int→Option (Bool×Int×Int)):Nat→List Dt→Int→Int→Int→Int→Option (Int×Int)
 |0,_,_,_,_,_=>none
 |M1+1,x0,x1,x2,x3,x4=>
  (bif (decide (x2<x1)) then
  i60_j2 m self61 (i60_l1 m self61 M1) x0 x1 x2 x3 x4
 else
  some (x3,x4))
noncomputable def i60_j0 (m:Nat) (self61:Dt→Int→Int→Option (Bool×Int×Int)) (x0:List Dt) (x1 x2 x3 x4:Int):Option (Int×Int):=
 i60_l1 m self61 (Nat.succ m) x0 x1 x2 x3 x4
noncomputable def i60_j7 (m:Nat) (self61:Dt→Int→Int→Option (Bool×Int×Int)) (rec5:List Dt→Int→Int→Int→Int→Option (Int×Int)) (x0:List Dt) (x1 x2 x3 x4:Int):Option (Int×Int):=
 rec5 x0 x1 (IntKind.wrap .i64 (x2+1)) x3 x4
noncomputable def i60_j6 (m:Nat) (self61:Dt→Int→Int→Option (Bool×Int×Int)) (rec5:List Dt→Int→Int→Int→Int→Option (Int×Int)) (x0:List Dt) (x1 x2 x3 x4:Int):Option (Int×Int):=
  ((idx x0 x2).bind fun v2=>
    ((self61 (Dt.fld v2 1) x3 x4).bind fun r3=>
 (bif (Bool.not r3.1) then
 some (r3.2.1,r3.2.2)
 else
 i60_j7 m self61 rec5 x0 x1 x2 r3.2.1 r3.2.2)))
noncomputable def i60_l5 (m:Nat) (self61:Dt→Int→Int→Option (Bool×Int×Int)):Nat→List Dt→Int→Int→Int→Int→Option (Int×Int)
 |0,_,_,_,_,_=>none
 |M5+1,x0,x1,x2,x3,x4=>
  (bif (decide (x2<x1)) then
  i60_j6 m self61 (i60_l5 m self61 M5) x0 x1 x2 x3 x4
 else
  some (x3,x4))
noncomputable def i60_j4 (m:Nat) (self61:Dt→Int→Int→Option (Bool×Int×Int)) (x0:List Dt) (x1 x2 x3 x4:Int):Option (Int×Int):=
 i60_l5 m self61 (Nat.succ m) x0 x1 x2 x3 x4
mutual
noncomputable def value_nodes:Nat→Dt→Int→Option Int
 |0,_,_=>none
 |m+1,a0,a1=>
  (bif (1==a1) then
  some 1
 else
  value_nodes_j0 m (i60 m) a0 a1 1)
noncomputable def i60:Nat→Dt→Int→Int→Option (Int×Int)
  |0,_,_,_=>none
  |m+1,a0,a1,a2=>
   (bif ((Dt.I a0 0)==6) then
   i60_j0 m (i61 m) (Dt.L a0 3) (List.length (Dt.L a0 3):Int) 0 a1 a2
  else
   (bif ((Dt.I a0 0)==5) then
 i60_j4 m (i61 m) (Dt.L a0 4) (List.length (Dt.L a0 4):Int) 0 a1 a2
   else
 some (a1,a2)))
noncomputable def i61:Nat→Dt→Int→Int→Option (Bool×Int×Int)
 |0,_,_,_=>none
 |m+1,a0,a1,a2=>
  ((value_nodes m a0 (IntKind.wrap .i64 (a2-a1))).bind fun r0=>
  some ((decide ((IntKind.wrap .i64 (a1+r0))<a2)),(IntKind.wrap .i64 (a1+r0)),a2))
end
noncomputable def value_Nodes:Nat→Dt→Option Int
 |0,_=>none
 |m+1,a0=>
  ((value_nodes m a0 1025).bind fun r0=>
  some r0)
noncomputable def value_depth_j0 (m:Nat) (self63:Dt→Int→Int→Option (Int×Int)) (x0:Dt) (x1:Int):Option Int:=
 ((self63 x0 0 x1).bind fun r0=>
   some (IntKind.wrap .i64 (1+r0.1)))
noncomputable def i63_j3 (m:Nat) (self64:Dt→Int→Int→Option (Bool×Int×Int)) (rec1:List Dt→Int→Int→Int→Int→Option (Int×Int)) (x0:List Dt) (x1 x2 x3 x4:Int):Option (Int×Int):=
 rec1 x0 x1 (IntKind.wrap .i64 (x2+1)) x3 x4
noncomputable def i63_j2 (m:Nat) (self64:Dt→Int→Int→Option (Bool×Int×Int)) (rec1:List Dt→Int→Int→Int→Int→Option (Int×Int)) (x0:List Dt) (x1 x2 x3 x4:Int):Option (Int×Int):=
  ((idx x0 x2).bind fun v0=>
    ((self64 v0 x3 x4).bind fun r1=>
 (bif (Bool.not r1.1) then
 some (r1.2.1,r1.2.2)
 else
 i63_j3 m self64 rec1 x0 x1 x2 r1.2.1 r1.2.2)))
noncomputable def i63_l1 (m:Nat) (self64:Dt→Int→Int→Option (Bool×Int×Int)):Nat→List Dt→Int→Int→Int→Int→Option (Int×Int)
 |0,_,_,_,_,_=>none
 |M1+1,x0,x1,x2,x3,x4=>
  (bif (decide (x2<x1)) then
  i63_j2 m self64 (i63_l1 m self64 M1) x0 x1 x2 x3 x4
 else
  some (x3,x4))
noncomputable def i63_j0 (m:Nat) (self64:Dt→Int→Int→Option (Bool×Int×Int)) (x0:List Dt) (x1 x2 x3 x4:Int):Option (Int×Int):=
 i63_l1 m self64 (Nat.succ m) x0 x1 x2 x3 x4
noncomputable def i63_j7 (m:Nat) (self64:Dt→Int→Int→Option (Bool×Int×Int)) (rec5:List Dt→Int→Int→Int→Int→Option (Int×Int)) (x0:List Dt) (x1 x2 x3 x4:Int):Option (Int×Int):=
 rec5 x0 x1 (IntKind.wrap .i64 (x2+1)) x3 x4
noncomputable def i63_j6 (m:Nat) (self64:Dt→Int→Int→Option (Bool×Int×Int)) (rec5:List Dt→Int→Int→Int→Int→Option (Int×Int)) (x0:List Dt) (x1 x2 x3 x4:Int):Option (Int×Int):=
  ((idx x0 x2).bind fun v2=>
    ((self64 (Dt.fld v2 1) x3 x4).bind fun r3=>
 (bif (Bool.not r3.1) then
 some (r3.2.1,r3.2.2)
 else
 i63_j7 m self64 rec5 x0 x1 x2 r3.2.1 r3.2.2)))
noncomputable def i63_l5 (m:Nat) (self64:Dt→Int→Int→Option (Bool×Int×Int)):Nat→List Dt→Int→Int→Int→Int→Option (Int×Int)
 |0,_,_,_,_,_=>none
 |M5+1,x0,x1,x2,x3,x4=>
  (bif (decide (x2<x1)) then
  i63_j6 m self64 (i63_l5 m self64 M5) x0 x1 x2 x3 x4
 else
  some (x3,x4))
noncomputable def i63_j4 (m:Nat) (self64:Dt→Int→Int→Option (Bool×Int×Int)) (x0:List Dt) (x1 x2 x3 x4:Int):Option (Int×Int):=
 i63_l5 m self64 (Nat.succ m) x0 x1 x2 x3 x4
mutual
noncomputable def value_depth:Nat→Dt→Int→Option Int
 |0,_,_=>none
 |m+1,a0,a1=>
  (bif (a1==1) then
  some 1
 else
  value_depth_j0 m (i63 m) a0 a1)
noncomputable def i63:Nat→Dt→Int→Int→Option (Int×Int)
  |0,_,_,_=>none
  |m+1,a0,a1,a2=>
   (bif ((Dt.I a0 0)==6) then
   i63_j0 m (i64 m) (Dt.L a0 3) (List.length (Dt.L a0 3):Int) 0 a1 a2
  else
   (bif ((Dt.I a0 0)==5) then
 i63_j4 m (i64 m) (Dt.L a0 4) (List.length (Dt.L a0 4):Int) 0 a1 a2
   else
 some (a1,a2)))
noncomputable def i64:Nat→Dt→Int→Int→Option (Bool×Int×Int)
 |0,_,_,_=>none
 |m+1,a0,a1,a2=>
  ((value_depth m a0 (IntKind.wrap .i64 (a2-1))).bind fun r0=>
  some ((decide ((bif (decide (a1<r0)) then r0 else a1)<(IntKind.wrap .i64 (a2-1)))),(bif (decide (a1<r0)) then r0 else a1),a2))
end
noncomputable def value_Depth:Nat→Dt→Option Int
 |0,_=>none
 |m+1,a0=>
  ((value_depth m a0 17).bind fun r0=>
  some r0)
noncomputable def ref01_Parts_j3 (m:Nat) (rec1:Int→Dt→List Dt→Option (List Dt)) (x0:Int) (x1:Dt) (x2:List Dt):Option (List Dt):=
 rec1 (IntKind.wrap .i64 (x0+1)) x1 x2
noncomputable def ref01_Parts_j2 (m:Nat) (rec1:Int→Dt→List Dt→Option (List Dt)) (x0:Int) (x1:Dt) (x2:List Dt):Option (List Dt):=
  ((idx (Dt.L x1 3) x0).bind fun v0=>
    ((app x2 [v0]).bind fun v1=>
 ref01_Parts_j3 m rec1 x0 x1 v1))
noncomputable def ref01_Parts_j8 (m:Nat) (rec6:Int→Dt→List Dt→Option (List Dt)) (x0:Int) (x1:Dt) (x2:List Dt):Option (List Dt):=
 rec6 (IntKind.wrap .i64 (x0+1)) x1 x2
noncomputable def ref01_Parts_j7 (m:Nat) (rec6:Int→Dt→List Dt→Option (List Dt)) (x0:Int) (x1:Dt) (x2:List Dt):Option (List Dt):=
  ((idx (Dt.L x1 4) x0).bind fun v2=>
    ((app x2 [(Dt.fld v2 1)]).bind fun v3=>
 ref01_Parts_j8 m rec6 x0 x1 v3))
noncomputable def ref01_Parts_j9 (m:Nat) (x0:List Dt):Option (List Dt):=
 some x0
noncomputable def ref01_Parts_l6 (m:Nat):Nat→Int→Dt→List Dt→Option (List Dt)
 |0,_,_,_=>none
 |M6+1,x0,x1,x2=>
  (bif (decide (x0<(List.length (Dt.L x1 4):Int))) then
  ref01_Parts_j7 m (ref01_Parts_l6 m M6) x0 x1 x2
 else
  ref01_Parts_j9 m x2)
noncomputable def ref01_Parts_j5 (m:Nat) (x0:Int) (x1:Dt) (x2:List Dt):Option (List Dt):=
 ref01_Parts_l6 m (Nat.succ m) x0 x1 x2
noncomputable def ref01_Parts_j4 (m:Nat) (x0:Dt) (x1:List Dt):Option (List Dt):=
 (bif ((Dt.I x0 0)==5) then
  ref01_Parts_j5 m 0 x0 x1
 else
  ref01_Parts_j9 m x1)
noncomputable def ref01_Parts_l1 (m:Nat):Nat→Int→Dt→List Dt→Option (List Dt)
 |0,_,_,_=>none
 |M1+1,x0,x1,x2=>
  (bif (decide (x0<(List.length (Dt.L x1 3):Int))) then
  ref01_Parts_j2 m (ref01_Parts_l1 m M1) x0 x1 x2
 else
  ref01_Parts_j4 m x1 x2)
noncomputable def ref01_Parts_j0 (m:Nat) (x0:Int) (x1:Dt) (x2:List Dt):Option (List Dt):=
 ref01_Parts_l1 m (Nat.succ m) x0 x1 x2
noncomputable def ref01_Parts:Nat→Dt→Option (List Dt)
 |0,_=>none
 |m+1,a0=>
  (bif ((Dt.I a0 0)==6) then
  ref01_Parts_j0 m 0 a0 []
 else
  ref01_Parts_j4 m a0 [])
noncomputable def ref01_levels_j5 (m:Nat) (self50:Dt→Int→Option Int) (rec3:Int→List Dt→Int→Int→Option Int) (x0:Int) (x1:List Dt) (x2 x3:Int):Option Int:=
 rec3 x0 x1 x2 (IntKind.wrap .i64 (x3+1))
noncomputable def ref01_levels_j4 (m:Nat) (self50:Dt→Int→Option Int) (rec3:Int→List Dt→Int→Int→Option Int) (x0:Int) (x1:List Dt) (x2 x3:Int):Option Int:=
  ((idx x1 x3).bind fun v1=>
    ((self50 v1 (IntKind.wrap .i64 (x0-1))).bind fun r2=>
 ref01_levels_j5 m self50 rec3 x0 x1 (bif (decide (x2<r2)) then r2 else x2) x3))
noncomputable def ref01_levels_j6 (m:Nat) (self50:Dt→Int→Option Int) (x0:Int):Option Int:=
 some (IntKind.wrap .i64 (x0+1))
noncomputable def ref01_levels_l3 (m:Nat) (self50:Dt→Int→Option Int):Nat→Int→List Dt→Int→Int→Option Int
 |0,_,_,_,_=>none
 |M3+1,x0,x1,x2,x3=>
  (bif (decide (x3<(List.length x1:Int))) then
  ref01_levels_j4 m self50 (ref01_levels_l3 m self50 M3) x0 x1 x2 x3
 else
  ref01_levels_j6 m self50 x2)
noncomputable def ref01_levels_j2 (m:Nat) (self50:Dt→Int→Option Int) (x0:Int) (x1:List Dt) (x2 x3:Int):Option Int:=
 ref01_levels_l3 m self50 (Nat.succ m) x0 x1 x2 x3
noncomputable def ref01_levels_j1 (m:Nat) (self50:Dt→Int→Option Int) (x0:Int) (x1:List Dt):Option Int:=
 ref01_levels_j2 m self50 x0 x1 0 0
noncomputable def ref01_levels_j0 (m:Nat) (self50:Dt→Int→Option Int) (x0:Int) (x1:List Dt) (x2:Bool):Option Int:=
 (bif x2 then
  some 1
 else
  ref01_levels_j1 m self50 x0 x1)
noncomputable def ref01_levels:Nat→Dt→Int→Option Int
  |0,_,_=>none
  |m+1,a0,a1=>
   ((ref01_Parts m a0).bind fun r0=>
   (bif (decide (a1<2)) then
 ref01_levels_j0 m (ref01_levels m) a1 r0 true
   else
 ref01_levels_j0 m (ref01_levels m) a1 r0 ((List.length r0:Int)==0)))
noncomputable def ref01_Depth:Nat→Dt→Option Int
 |0,_=>none
 |m+1,a0=>
  ((ref01_levels m a0 17).bind fun r0=>
  some r0)
noncomputable def ref01_count_j3 (m:Nat) (self51:Dt→Int→Option Int) (rec1:Int→Int→List Dt→Int→Option Int) (x0 x1:Int) (x2:List Dt) (x3:Int):Option Int:=
 rec1 x0 x1 x2 (IntKind.wrap .i64 (x3+1))
noncomputable def ref01_count_j2 (m:Nat) (self51:Dt→Int→Option Int) (rec1:Int→Int→List Dt→Int→Option Int) (x0 x1:Int) (x2:List Dt) (x3:Int):Option Int:=
  ((idx x2 x3).bind fun v1=>
    ((self51 v1 (IntKind.wrap .i64 (x0-x1))).bind fun r2=>
 ref01_count_j3 m self51 rec1 x0 (IntKind.wrap .i64 (x1+r2)) x2 x3))
noncomputable def ref01_count_j4 (m:Nat) (self51:Dt→Int→Option Int) (x0:Int):Option Int:=
 some x0
noncomputable def ref01_count_l1 (m:Nat) (self51:Dt→Int→Option Int):Nat→Int→Int→List Dt→Int→Option Int
  |0,_,_,_,_=>none
  |M1+1,x0,x1,x2,x3=>
   (bif (decide (x3<(List.length x2:Int))) then
   (bif (decide (x1<x0)) then
 ref01_count_j2 m self51 (ref01_count_l1 m self51 M1) x0 x1 x2 x3
   else
 ref01_count_j4 m self51 x1)
  else
   ref01_count_j4 m self51 x1)
noncomputable def ref01_count_j0 (m:Nat) (self51:Dt→Int→Option Int) (x0 x1:Int) (x2:List Dt) (x3:Int):Option Int:=
 ref01_count_l1 m self51 (Nat.succ m) x0 x1 x2 x3
noncomputable def ref01_count:Nat→Dt→Int→Option Int
 |0,_,_=>none
 |m+1,a0,a1=>
  ((ref01_Parts m a0).bind fun r0=>
  ref01_count_j0 m (ref01_count m) a1 1 r0 0)
noncomputable def ref01_Nodes:Nat→Dt→Option Int
 |0,_=>none
 |m+1,a0=>
  ((ref01_count m a0 1025).bind fun r0=>
  some r0)
noncomputable def value_isName_j6 (m:Nat) (rec3:ByteArray→Int→Int→Option Bool) (x0:ByteArray) (x1 x2:Int):Option Bool:=
 rec3 x0 x1 (IntKind.wrap .i64 (x2+1))
noncomputable def value_isName_j5 (m:Nat) (rec3:ByteArray→Int→Int→Option Bool) (x0:ByteArray) (x1 x2:Int) (x3:Bool):Option Bool:=
 (bif x3 then
  some false
 else
  value_isName_j6 m rec3 x0 x1 x2)
noncomputable def value_isName_j4 (m:Nat) (rec3:ByteArray→Int→Int→Option Bool) (x0:ByteArray) (x1 x2:Int):Option Bool:=
  ((idxS x0 x2).bind fun v0=>
    (bif (decide (v0<33)) then
 value_isName_j5 m rec3 x0 x1 x2 true
    else
 ((idxS x0 x2).bind fun v1=>
 (bif (decide (126<v1)) then
 value_isName_j5 m rec3 x0 x1 x2 true
 else
 ((idxS x0 x2).bind fun v2=>
 value_isName_j5 m rec3 x0 x1 x2 (v2==46))))))
noncomputable def value_isName_j7 (m:Nat):Option Bool:=
 some true
noncomputable def value_isName_l3 (m:Nat):Nat→ByteArray→Int→Int→Option Bool
 |0,_,_,_=>none
 |M3+1,x0,x1,x2=>
  (bif (decide (x2<x1)) then
  value_isName_j4 m (value_isName_l3 m M3) x0 x1 x2
 else
  value_isName_j7 m)
noncomputable def value_isName_j2 (m:Nat) (x0:ByteArray) (x1 x2:Int):Option Bool:=
 value_isName_l3 m (Nat.succ m) x0 x1 x2
noncomputable def value_isName_j1 (m:Nat) (x0:ByteArray):Option Bool:=
 value_isName_j2 m x0 (ByteArray.size x0:Int) 0
noncomputable def value_isName_j0 (m:Nat) (x0:ByteArray) (x1:Bool):Option Bool:=
 (bif x1 then
  some false
 else
  value_isName_j1 m x0)
noncomputable def value_isName:Nat→ByteArray→Option Bool
  |0,_=>none
  |m+1,a0=>
   (bif (decide ((ByteArray.size a0:Int)<1)) then
   value_isName_j0 m a0 true
  else
   (bif (decide (32<(ByteArray.size a0:Int))) then
 value_isName_j0 m a0 true
   else
 ((idxS a0 0).bind fun v3=>
 value_isName_j0 m a0 (v3==36))))
noncomputable def value_sound_j10 (m:Nat) (self56:Dt→Option Bool) (self62:List Dt→Option Bool) (rec8:List Dt→Int→Int→Option Bool) (x0:List Dt) (x1 x2:Int):Option Bool:=
 rec8 x0 x1 (IntKind.wrap .i64 (x2+1))
noncomputable def value_sound_j9 (m:Nat) (self56:Dt→Option Bool) (self62:List Dt→Option Bool) (rec8:List Dt→Int→Int→Option Bool) (x0:List Dt) (x1 x2:Int):Option Bool:=
  ((idx x0 x2).bind fun v1=>
    ((self56 v1).bind fun r2=>
 (bif (Bool.not r2) then
 some false
 else
 value_sound_j10 m self56 self62 rec8 x0 x1 x2)))
noncomputable def value_sound_j11 (m:Nat) (self56:Dt→Option Bool) (self62:List Dt→Option Bool):Option Bool:=
 some true
noncomputable def value_sound_l8 (m:Nat) (self56:Dt→Option Bool) (self62:List Dt→Option Bool):Nat→List Dt→Int→Int→Option Bool
 |0,_,_,_=>none
 |M8+1,x0,x1,x2=>
  (bif (decide (x2<x1)) then
  value_sound_j9 m self56 self62 (value_sound_l8 m self56 self62 M8) x0 x1 x2
 else
  value_sound_j11 m self56 self62)
noncomputable def value_sound_j7 (m:Nat) (self56:Dt→Option Bool) (self62:List Dt→Option Bool) (x0:List Dt) (x1 x2:Int):Option Bool:=
 value_sound_l8 m self56 self62 (Nat.succ m) x0 x1 x2
noncomputable def value_sound_j12 (m:Nat) (self56:Dt→Option Bool) (self62:List Dt→Option Bool):Option Bool:=
 some false
noncomputable def value_sound_j6 (m:Nat) (self56:Dt→Option Bool) (self62:List Dt→Option Bool) (x0:Int) (x1:Bool) (x2:Dt):Option Bool:=
  (bif x1 then
   some true
  else
   (bif (x0==9) then
 (bif ((Dt.I x2 1)==0) then
 some true
 else
 some ((Dt.I x2 1)==1))
   else
 (bif (x0==10) then
 some (decide (0≤(Dt.I x2 1)))
 else
 (bif (x0==4) then
 (bif (decide ((ByteArray.size (Dt.S x2 2):Int)≤4096)) then
 ((utf8_ValidString (Dt.S x2 2)).bind fun r0=>
 some r0)
 else
 some false)
 else
 (bif (x0==7) then
 some (decide ((ByteArray.size (Dt.S x2 2):Int)≤4096))
 else
 (bif (x0==8) then
 some ((ByteArray.size (Dt.S x2 2):Int)==12)
 else
 (bif (x0==6) then
 value_sound_j7 m self56 self62 (Dt.L x2 3) (List.length (Dt.L x2 3):Int) 0
 else
 (bif (x0==5) then
 ((self62 (Dt.L x2 4)).bind fun r3=>
 some r3)
 else
 value_sound_j12 m self56 self62))))))))
noncomputable def value_sound_j5 (m:Nat) (self56:Dt→Option Bool) (self62:List Dt→Option Bool) (x0:Dt):Option Bool:=
  (bif ((Dt.I x0 0)==1) then
   value_sound_j6 m self56 self62 (Dt.I x0 0) ((Dt.I x0 0)==1) x0
  else
   (bif ((Dt.I x0 0)==2) then
 value_sound_j6 m self56 self62 (Dt.I x0 0) ((Dt.I x0 0)==2) x0
   else
 (bif ((Dt.I x0 0)==11) then
 value_sound_j6 m self56 self62 (Dt.I x0 0) ((Dt.I x0 0)==11) x0
 else
 value_sound_j6 m self56 self62 (Dt.I x0 0) ((Dt.I x0 0)==3) x0)))
noncomputable def value_sound_j4 (m:Nat) (self56:Dt→Option Bool) (self62:List Dt→Option Bool) (x0:Bool) (x1:Dt):Option Bool:=
 (bif x0 then
  some false
 else
  value_sound_j5 m self56 self62 x1)
noncomputable def value_sound_j3 (m:Nat) (self56:Dt→Option Bool) (self62:List Dt→Option Bool) (x0:Dt):Option Bool:=
  (bif ((Dt.I x0 0) !=6) then
   (bif (decide (0<(List.length (Dt.L x0 3):Int))) then
 value_sound_j4 m self56 self62 true x0
   else
 (bif ((Dt.I x0 0) !=5) then
 value_sound_j4 m self56 self62 (decide (0<(List.length (Dt.L x0 4):Int))) x0
 else
 value_sound_j4 m self56 self62 false x0))
  else
   (bif ((Dt.I x0 0) !=5) then
 value_sound_j4 m self56 self62 (decide (0<(List.length (Dt.L x0 4):Int))) x0
   else
 value_sound_j4 m self56 self62 false x0))
noncomputable def value_sound_j2 (m:Nat) (self56:Dt→Option Bool) (self62:List Dt→Option Bool) (x0:Bool) (x1:Dt):Option Bool:=
 (bif x0 then
  some false
 else
  value_sound_j3 m self56 self62 x1)
noncomputable def value_sound_j1 (m:Nat) (self56:Dt→Option Bool) (self62:List Dt→Option Bool) (x0 x1:Bool) (x2:Dt):Option Bool:=
  (bif (Bool.not x0) then
   (bif ((Dt.I x2 1) !=0) then
 value_sound_j2 m self56 self62 true x2
   else
 (bif (Bool.not x1) then
 value_sound_j2 m self56 self62 (Bool.not ((ByteArray.toList (Dt.S x2 2))==[])) x2
 else
 value_sound_j2 m self56 self62 false x2))
  else
   (bif (Bool.not x1) then
 value_sound_j2 m self56 self62 (Bool.not ((ByteArray.toList (Dt.S x2 2))==[])) x2
   else
 value_sound_j2 m self56 self62 false x2))
noncomputable def value_sound_j0 (m:Nat) (self56:Dt→Option Bool) (self62:List Dt→Option Bool) (x0:Bool) (x1:Dt):Option Bool:=
  (bif ((Dt.I x1 0)==4) then
   value_sound_j1 m self56 self62 x0 true x1
  else
   (bif ((Dt.I x1 0)==7) then
 value_sound_j1 m self56 self62 x0 true x1
   else
 value_sound_j1 m self56 self62 x0 ((Dt.I x1 0)==8) x1))
noncomputable def value_soundFields_j5 (m:Nat) (self56:Dt→Option Bool) (rec1:List Dt→Int→Int→List Dt→Option Bool) (x0:List Dt) (x1 x2:Int) (x3:List Dt):Option Bool:=
 rec1 x0 x1 (IntKind.wrap .i64 (x2+1)) x3
noncomputable def value_soundFields_j4 (m:Nat) (self56:Dt→Option Bool) (rec1:List Dt→Int→Int→List Dt→Option Bool) (x0:List Dt) (x1 x2:Int) (x3:List Dt) (x4:Dt):Option Bool:=
 value_soundFields_j5 m self56 rec1 x0 x1 x2 (mput x3 (Dt.S x4 0) (Dt.bool true))
noncomputable def value_soundFields_j3 (m:Nat) (self56:Dt→Option Bool) (rec1:List Dt→Int→Int→List Dt→Option Bool) (x0:List Dt) (x1 x2:Int) (x3:Bool) (x4:List Dt) (x5:Dt):Option Bool:=
 (bif x3 then
  some false
 else
  value_soundFields_j4 m self56 rec1 x0 x1 x2 x4 x5)
noncomputable def value_soundFields_j2 (m:Nat) (self56:Dt→Option Bool) (rec1:List Dt→Int→Int→List Dt→Option Bool) (x0:List Dt) (x1 x2:Int) (x3:List Dt):Option Bool:=
  ((idx x0 x2).bind fun v0=>
    ((value_isName m (Dt.S v0 0)).bind fun r1=>
 (bif (Bool.not r1) then
 value_soundFields_j3 m self56 rec1 x0 x1 x2 true x3 v0
 else
 (bif (Dt.toBool (mgetD x3 (Dt.S v0 0) (Dt.bool false))) then
 value_soundFields_j3 m self56 rec1 x0 x1 x2 true x3 v0
 else
 ((self56 (Dt.fld v0 1)).bind fun r2=>
 value_soundFields_j3 m self56 rec1 x0 x1 x2 (Bool.not r2) x3 v0)))))
noncomputable def value_soundFields_j6 (m:Nat) (self56:Dt→Option Bool):Option Bool:=
 some true
noncomputable def value_soundFields_l1 (m:Nat) (self56:Dt→Option Bool):Nat→List Dt→Int→Int→List Dt→Option Bool
 |0,_,_,_,_=>none
 |M1+1,x0,x1,x2,x3=>
  (bif (decide (x2<x1)) then
  value_soundFields_j2 m self56 (value_soundFields_l1 m self56 M1) x0 x1 x2 x3
 else
  value_soundFields_j6 m self56)
noncomputable def value_soundFields_j0 (m:Nat) (self56:Dt→Option Bool) (x0:List Dt) (x1 x2:Int) (x3:List Dt):Option Bool:=
 value_soundFields_l1 m self56 (Nat.succ m) x0 x1 x2 x3
mutual
noncomputable def value_sound:Nat→Dt→Option Bool
  |0,_=>none
  |m+1,a0=>
   (bif ((Dt.I a0 0)==3) then
   value_sound_j0 m (value_sound m) (value_soundFields m) true a0
  else
   (bif ((Dt.I a0 0)==9) then
 value_sound_j0 m (value_sound m) (value_soundFields m) true a0
   else
 value_sound_j0 m (value_sound m) (value_soundFields m) ((Dt.I a0 0)==10) a0))
noncomputable def value_soundFields:Nat→List Dt→Option Bool
 |0,_=>none
 |m+1,a0=>
  value_soundFields_j0 m (value_sound m) a0 (List.length a0:Int) 0 []
end
noncomputable def value_Valid:Nat→Dt→Option Bool
  |0,_=>none
  |m+1,a0=>
   ((value_Nodes m a0).bind fun r0=>
   (bif (decide (r0≤1024)) then
 ((value_Depth m a0).bind fun r1=>
 (bif (decide (r1≤16)) then
 ((value_sound m a0).bind fun r2=>
 some r2)
 else
 some false))
   else
 some false))
noncomputable def notation_wellFormed_j1 (m:Nat) (x0:Dt):Option Bool:=
  ((notation_rename m x0).bind fun r1=>
    (bif r1.2 then
 ((value_Valid m r1.1).bind fun r2=>
 some r2)
    else
 some false))
noncomputable def notation_wellFormed_j0 (m:Nat) (x0:Bool) (x1:Dt):Option Bool:=
 (bif x0 then
  some false
 else
  notation_wellFormed_j1 m x1)
noncomputable def notation_wellFormed:Nat→Dt→Option Bool
  |0,_=>none
  |m+1,a0=>
   ((value_Nodes m a0).bind fun r0=>
   (bif (decide (1024<r0)) then
 notation_wellFormed_j0 m true a0
   else
 ((value_Depth m a0).bind fun r3=>
 notation_wellFormed_j0 m (decide (16<r3)) a0)))
noncomputable def notation_Print_j1 (m:Nat) (x0:List Dt):Option (ByteArray×Int):=
 ((bif (Nat.ble (List.length x0) 137438953472) then(Option.some (strOfNums (List.map Dt.toInt x0))) else(Option.none)).bind fun v2=>
   some (v2,0))
noncomputable def notation_Print_j0 (m:Nat) (x0:Dt):Option (ByteArray×Int):=
  ((i11 m x0 []).bind fun r1=>
    (bif (r1.1 !=0) then
 some ((ByteArray.mk (List.toArray [])),r1.1)
    else
 notation_Print_j1 m r1.2))
noncomputable def notation_Print:Nat→Dt→Option (ByteArray×Int)
  |0,_=>none
  |m+1,a0=>
   ((notation_wellFormed m a0).bind fun r0=>
   (bif (Bool.not r0) then
 some ((ByteArray.mk (List.toArray [])),8)
   else
 notation_Print_j0 m a0))
noncomputable def law05_NotationCut_j2 (m:Nat) (x0:Int) (x1:ByteArray):Option Bool:=
  (bif (decide ((IntKind.wrap IntKind.u64 (ByteArray.size x1:Int))=0)) then
   none
  else
   ((cutS x1 0 (IntKind.wrap .i64 (Int.tmod x0 (IntKind.wrap IntKind.u64 (ByteArray.size x1:Int))))).bind fun v4=>
 ((notation_Parse m v4).bind fun r5=>
 (bif (r5.2.2==4) then
 (bif (r5.2.1==(IntKind.wrap .i64 (Int.tmod x0 (IntKind.wrap IntKind.u64 (ByteArray.size x1:Int))))) then
 ((awakeC).bind fun r6=>
 some r6)
 else
 some false)
 else
 some false))))
noncomputable def law05_NotationCut_j1 (m:Nat) (x0:Int) (x1:ByteArray) (x2:Bool):Option Bool:=
  (bif x2 then
   ((awakeC).bind fun r3=>
 some r3)
  else
   law05_NotationCut_j2 m x0 x1)
noncomputable def law05_NotationCut_j0 (m:Nat) (x0:Int) (x1:Dt):Option Bool:=
  ((notation_Print m x1).bind fun r2=>
    (bif (r2.2 !=0) then
 law05_NotationCut_j1 m x0 r2.1 true
    else
 (bif ((ByteArray.toList r2.1)==[]) then
 law05_NotationCut_j1 m x0 r2.1 true
 else
 ((idxS r2.1 0).bind fun v7=>
 (bif (v7 !=91) then
 ((idxS r2.1 0).bind fun v8=>
 (bif (v8 !=123) then
 ((idxS r2.1 0).bind fun v9=>
 law05_NotationCut_j1 m x0 r2.1 (v9 !=34))
 else
 law05_NotationCut_j1 m x0 r2.1 false))
 else
 law05_NotationCut_j1 m x0 r2.1 false)))))
noncomputable def law05_NotationCut:Nat→Dt→Int→Option Bool
  |0,_,_=>none
  |m+1,a0,a1=>
   ((ref02_Few m a0 3000).bind fun r0=>
   (bif (Bool.not r0) then
 ((awakeC).bind fun r1=>
 some r1)
   else
 law05_NotationCut_j0 m a1 a0))
noncomputable def ref01_tail_j5 (m:Nat) (rec2:ByteArray→Int→Int→Int→Option Bool) (x0:ByteArray) (x1 x2 x3:Int):Option Bool:=
 rec2 x0 x1 x2 (IntKind.wrap .i64 (x3+1))
noncomputable def ref01_tail_j4 (m:Nat) (rec2:ByteArray→Int→Int→Int→Option Bool) (x0:ByteArray) (x1 x2 x3:Int) (x4:Bool):Option Bool:=
 (bif x4 then
  some false
 else
  ref01_tail_j5 m rec2 x0 x1 x2 x3)
noncomputable def ref01_tail_j3 (m:Nat) (rec2:ByteArray→Int→Int→Int→Option Bool) (x0:ByteArray) (x1 x2 x3:Int):Option Bool:=
  ((idxS x0 (IntKind.wrap .i64 (x1+x3))).bind fun v0=>
    (bif (decide (v0<128)) then
 ref01_tail_j4 m rec2 x0 x1 x2 x3 true
    else
 ((idxS x0 (IntKind.wrap .i64 (x1+x3))).bind fun v1=>
 ref01_tail_j4 m rec2 x0 x1 x2 x3 (decide (191<v1)))))
noncomputable def ref01_tail_j6 (m:Nat):Option Bool:=
 some true
noncomputable def ref01_tail_l2 (m:Nat):Nat→ByteArray→Int→Int→Int→Option Bool
 |0,_,_,_,_=>none
 |M2+1,x0,x1,x2,x3=>
  (bif (decide (x3<x2)) then
  ref01_tail_j3 m (ref01_tail_l2 m M2) x0 x1 x2 x3
 else
  ref01_tail_j6 m)
noncomputable def ref01_tail_j1 (m:Nat) (x0:ByteArray) (x1 x2 x3:Int):Option Bool:=
 ref01_tail_l2 m (Nat.succ m) x0 x1 x2 x3
noncomputable def ref01_tail_j0 (m:Nat) (x0:ByteArray) (x1 x2:Int):Option Bool:=
 ref01_tail_j1 m x0 x1 x2 0
noncomputable def ref01_tail:Nat→ByteArray→Int→Int→Option Bool
 |0,_,_,_=>none
 |m+1,a0,a1,a2=>
  (bif (decide ((ByteArray.size a0:Int)<(IntKind.wrap .i64 (a1+a2)))) then
  some false
 else
  ref01_tail_j0 m a0 a1 a2)
noncomputable def ref01_UTF8_j6 (m:Nat) (rec1:ByteArray→Int→Option Bool) (x0:ByteArray) (x1 x2:Int):Option Bool:=
 rec1 x0 (IntKind.wrap .i64 ((IntKind.wrap .i64 (x1+x2))+1))
noncomputable def ref01_UTF8_j5 (m:Nat) (rec1:ByteArray→Int→Option Bool) (x0:ByteArray) (x1 x2:Int) (x3:Bool):Option Bool:=
 (bif x3 then
  some false
 else
  ref01_UTF8_j6 m rec1 x0 x1 x2)
noncomputable def ref01_UTF8_j4 (m:Nat) (rec1:ByteArray→Int→Option Bool) (x0:ByteArray) (x1 x2 x3:Int):Option Bool:=
  (bif (x2==224) then
   ((idxS x0 (IntKind.wrap .i64 (x1+1))).bind fun v2=>
 (bif (decide (v2<160)) then
 ref01_UTF8_j5 m rec1 x0 x1 x3 true
 else
 (bif (x2==237) then
 ((idxS x0 (IntKind.wrap .i64 (x1+1))).bind fun v3=>
 (bif (decide (159<v3)) then
 ref01_UTF8_j5 m rec1 x0 x1 x3 true
 else
 (bif (x2==240) then
 ((idxS x0 (IntKind.wrap .i64 (x1+1))).bind fun v4=>
 (bif (decide (v4<144)) then
 ref01_UTF8_j5 m rec1 x0 x1 x3 true
 else
 (bif (x2==244) then
 ((idxS x0 (IntKind.wrap .i64 (x1+1))).bind fun v5=>
 ref01_UTF8_j5 m rec1 x0 x1 x3 (decide (143<v5)))
 else
 ref01_UTF8_j5 m rec1 x0 x1 x3 false)))
 else
 (bif (x2==244) then
 ((idxS x0 (IntKind.wrap .i64 (x1+1))).bind fun v6=>
 ref01_UTF8_j5 m rec1 x0 x1 x3 (decide (143<v6)))
 else
 ref01_UTF8_j5 m rec1 x0 x1 x3 false))))
 else
 (bif (x2==240) then
 ((idxS x0 (IntKind.wrap .i64 (x1+1))).bind fun v7=>
 (bif (decide (v7<144)) then
 ref01_UTF8_j5 m rec1 x0 x1 x3 true
 else
 (bif (x2==244) then
 ((idxS x0 (IntKind.wrap .i64 (x1+1))).bind fun v8=>
 ref01_UTF8_j5 m rec1 x0 x1 x3 (decide (143<v8)))
 else
 ref01_UTF8_j5 m rec1 x0 x1 x3 false)))
 else
 (bif (x2==244) then
 ((idxS x0 (IntKind.wrap .i64 (x1+1))).bind fun v9=>
 ref01_UTF8_j5 m rec1 x0 x1 x3 (decide (143<v9)))
 else
 ref01_UTF8_j5 m rec1 x0 x1 x3 false)))))
  else
   (bif (x2==237) then
 ((idxS x0 (IntKind.wrap .i64 (x1+1))).bind fun v10=>
 (bif (decide (159<v10)) then
 ref01_UTF8_j5 m rec1 x0 x1 x3 true
 else
 (bif (x2==240) then
 ((idxS x0 (IntKind.wrap .i64 (x1+1))).bind fun v11=>
 (bif (decide (v11<144)) then
 ref01_UTF8_j5 m rec1 x0 x1 x3 true
 else
 (bif (x2==244) then
 ((idxS x0 (IntKind.wrap .i64 (x1+1))).bind fun v12=>
 ref01_UTF8_j5 m rec1 x0 x1 x3 (decide (143<v12)))
 else
 ref01_UTF8_j5 m rec1 x0 x1 x3 false)))
 else
 (bif (x2==244) then
 ((idxS x0 (IntKind.wrap .i64 (x1+1))).bind fun v13=>
 ref01_UTF8_j5 m rec1 x0 x1 x3 (decide (143<v13)))
 else
 ref01_UTF8_j5 m rec1 x0 x1 x3 false))))
   else
 (bif (x2==240) then
 ((idxS x0 (IntKind.wrap .i64 (x1+1))).bind fun v14=>
 (bif (decide (v14<144)) then
 ref01_UTF8_j5 m rec1 x0 x1 x3 true
 else
 (bif (x2==244) then
 ((idxS x0 (IntKind.wrap .i64 (x1+1))).bind fun v15=>
 ref01_UTF8_j5 m rec1 x0 x1 x3 (decide (143<v15)))
 else
 ref01_UTF8_j5 m rec1 x0 x1 x3 false)))
 else
 (bif (x2==244) then
 ((idxS x0 (IntKind.wrap .i64 (x1+1))).bind fun v16=>
 ref01_UTF8_j5 m rec1 x0 x1 x3 (decide (143<v16)))
 else
 ref01_UTF8_j5 m rec1 x0 x1 x3 false))))
noncomputable def ref01_UTF8_j3 (m:Nat) (rec1:ByteArray→Int→Option Bool) (x0:ByteArray) (x1 x2 x3:Int):Option Bool:=
  ((ref01_tail m x0 (IntKind.wrap .i64 (x1+1)) x3).bind fun r1=>
    (bif (Bool.not r1) then
 some false
    else
 ref01_UTF8_j4 m rec1 x0 x1 x2 x3))
noncomputable def ref01_UTF8_j9 (m:Nat) (rec1:ByteArray→Int→Option Bool) (x0:ByteArray) (x1 x2:Int) (x3:Bool):Option Bool:=
 (bif x3 then
  ref01_UTF8_j3 m rec1 x0 x1 x2 3
 else
  some false)
noncomputable def ref01_UTF8_j8 (m:Nat) (rec1:ByteArray→Int→Option Bool) (x0:ByteArray) (x1 x2:Int) (x3:Bool):Option Bool:=
  (bif x3 then
   ref01_UTF8_j3 m rec1 x0 x1 x2 2
  else
   (bif (decide (240≤x2)) then
 ref01_UTF8_j9 m rec1 x0 x1 x2 (decide (x2≤244))
   else
 ref01_UTF8_j9 m rec1 x0 x1 x2 false))
noncomputable def ref01_UTF8_j7 (m:Nat) (rec1:ByteArray→Int→Option Bool) (x0:ByteArray) (x1 x2:Int) (x3:Bool):Option Bool:=
  (bif x3 then
   ref01_UTF8_j3 m rec1 x0 x1 x2 1
  else
   (bif (decide (224≤x2)) then
 ref01_UTF8_j8 m rec1 x0 x1 x2 (decide (x2≤239))
   else
 ref01_UTF8_j8 m rec1 x0 x1 x2 false))
noncomputable def ref01_UTF8_j2 (m:Nat) (rec1:ByteArray→Int→Option Bool) (x0:ByteArray) (x1:Int):Option Bool:=
  ((idxS x0 x1).bind fun v0=>
    (bif (decide (v0<128)) then
 ref01_UTF8_j3 m rec1 x0 x1 v0 0
    else
 (bif (decide (194≤v0)) then
 ref01_UTF8_j7 m rec1 x0 x1 v0 (decide (v0≤223))
 else
 ref01_UTF8_j7 m rec1 x0 x1 v0 false)))
noncomputable def ref01_UTF8_j10 (m:Nat):Option Bool:=
 some true
noncomputable def ref01_UTF8_l1 (m:Nat):Nat→ByteArray→Int→Option Bool
 |0,_,_=>none
 |M1+1,x0,x1=>
  (bif (decide (x1<(ByteArray.size x0:Int))) then
  ref01_UTF8_j2 m (ref01_UTF8_l1 m M1) x0 x1
 else
  ref01_UTF8_j10 m)
noncomputable def ref01_UTF8_j0 (m:Nat) (x0:ByteArray) (x1:Int):Option Bool:=
 ref01_UTF8_l1 m (Nat.succ m) x0 x1
noncomputable def ref01_UTF8:Nat→ByteArray→Option Bool
 |0,_=>none
 |m+1,a0=>
  ref01_UTF8_j0 m a0 0
noncomputable def ref01_Name_j6 (m:Nat) (rec3:ByteArray→Int→Option Bool) (x0:ByteArray) (x1:Int):Option Bool:=
 rec3 x0 (IntKind.wrap .i64 (x1+1))
noncomputable def ref01_Name_j5 (m:Nat) (rec3:ByteArray→Int→Option Bool) (x0:ByteArray) (x1:Int) (x2:Bool):Option Bool:=
 (bif x2 then
  some false
 else
  ref01_Name_j6 m rec3 x0 x1)
noncomputable def ref01_Name_j4 (m:Nat) (rec3:ByteArray→Int→Option Bool) (x0:ByteArray) (x1:Int):Option Bool:=
  ((idxS x0 x1).bind fun v0=>
    (bif (decide (v0<33)) then
 ref01_Name_j5 m rec3 x0 x1 true
    else
 ((idxS x0 x1).bind fun v1=>
 (bif (decide (126<v1)) then
 ref01_Name_j5 m rec3 x0 x1 true
 else
 ((idxS x0 x1).bind fun v2=>
 ref01_Name_j5 m rec3 x0 x1 (v2==46))))))
noncomputable def ref01_Name_j7 (m:Nat):Option Bool:=
 some true
noncomputable def ref01_Name_l3 (m:Nat):Nat→ByteArray→Int→Option Bool
 |0,_,_=>none
 |M3+1,x0,x1=>
  (bif (decide (x1<(ByteArray.size x0:Int))) then
  ref01_Name_j4 m (ref01_Name_l3 m M3) x0 x1
 else
  ref01_Name_j7 m)
noncomputable def ref01_Name_j2 (m:Nat) (x0:ByteArray) (x1:Int):Option Bool:=
 ref01_Name_l3 m (Nat.succ m) x0 x1
noncomputable def ref01_Name_j1 (m:Nat) (x0:ByteArray):Option Bool:=
 ref01_Name_j2 m x0 0
noncomputable def ref01_Name_j0 (m:Nat) (x0:ByteArray) (x1:Bool):Option Bool:=
 (bif x1 then
  some false
 else
  ref01_Name_j1 m x0)
noncomputable def ref01_Name:Nat→ByteArray→Option Bool
  |0,_=>none
  |m+1,a0=>
   (bif (decide ((ByteArray.size a0:Int)<1)) then
   ref01_Name_j0 m a0 true
  else
   (bif (decide (32<(ByteArray.size a0:Int))) then
 ref01_Name_j0 m a0 true
   else
 ((idxS a0 0).bind fun v3=>
 ref01_Name_j0 m a0 (v3==36))))
noncomputable def ref01_wide_j6 (m:Nat) (rec3:ByteArray→Int→Option Bool) (x0:ByteArray) (x1:Int):Option Bool:=
 rec3 x0 (IntKind.wrap .i64 (x1+1))
noncomputable def ref01_wide_j5 (m:Nat) (rec3:ByteArray→Int→Option Bool) (x0:ByteArray) (x1:Int) (x2:Bool):Option Bool:=
 (bif x2 then
  some false
 else
  ref01_wide_j6 m rec3 x0 x1)
noncomputable def ref01_wide_j4 (m:Nat) (rec3:ByteArray→Int→Option Bool) (x0:ByteArray) (x1:Int):Option Bool:=
  ((idxS x0 x1).bind fun v0=>
    (bif (decide (v0<32)) then
 ref01_wide_j5 m rec3 x0 x1 true
    else
 ((idxS x0 x1).bind fun v1=>
 ref01_wide_j5 m rec3 x0 x1 (decide (126<v1)))))
noncomputable def ref01_wide_j7 (m:Nat):Option Bool:=
 some true
noncomputable def ref01_wide_l3 (m:Nat):Nat→ByteArray→Int→Option Bool
 |0,_,_=>none
 |M3+1,x0,x1=>
  (bif (decide (x1<(ByteArray.size x0:Int))) then
  ref01_wide_j4 m (ref01_wide_l3 m M3) x0 x1
 else
  ref01_wide_j7 m)
noncomputable def ref01_wide_j2 (m:Nat) (x0:ByteArray) (x1:Int):Option Bool:=
 ref01_wide_l3 m (Nat.succ m) x0 x1
noncomputable def ref01_wide_j1 (m:Nat) (x0:ByteArray):Option Bool:=
 ref01_wide_j2 m x0 0
noncomputable def ref01_wide_j0 (m:Nat) (x0:ByteArray) (x1:Bool):Option Bool:=
 (bif x1 then
  some false
 else
  ref01_wide_j1 m x0)
noncomputable def ref01_wide:Nat→ByteArray→Option Bool
 |0,_=>none
 |m+1,a0=>
  (bif (decide ((ByteArray.size a0:Int)<1)) then
  ref01_wide_j0 m a0 true
 else
  ref01_wide_j0 m a0 (decide (128<(ByteArray.size a0:Int))))
noncomputable def ref01_formed_j10 (m:Nat) (self59:Dt→Bool→Option Bool) (self66:Dt→Bool→Option Bool) (rec8:Bool→Int→Dt→Option Bool) (x0:Bool) (x1:Int) (x2:Dt):Option Bool:=
 rec8 x0 (IntKind.wrap .i64 (x1+1)) x2
noncomputable def ref01_formed_j9 (m:Nat) (self59:Dt→Bool→Option Bool) (self66:Dt→Bool→Option Bool) (rec8:Bool→Int→Dt→Option Bool) (x0:Bool) (x1:Int) (x2:Dt):Option Bool:=
  ((idx (Dt.L x2 3) x1).bind fun v1=>
    ((self59 v1 x0).bind fun r2=>
 (bif (Bool.not r2) then
 some false
 else
 ref01_formed_j10 m self59 self66 rec8 x0 x1 x2)))
noncomputable def ref01_formed_j11 (m:Nat) (self59:Dt→Bool→Option Bool) (self66:Dt→Bool→Option Bool) (x0:Bool) (x1:Dt):Option Bool:=
 ((self66 x1 x0).bind fun r3=>
   some r3)
noncomputable def ref01_formed_l8 (m:Nat) (self59:Dt→Bool→Option Bool) (self66:Dt→Bool→Option Bool):Nat→Bool→Int→Dt→Option Bool
 |0,_,_,_=>none
 |M8+1,x0,x1,x2=>
  (bif (decide (x1<(List.length (Dt.L x2 3):Int))) then
  ref01_formed_j9 m self59 self66 (ref01_formed_l8 m self59 self66 M8) x0 x1 x2
 else
  ref01_formed_j11 m self59 self66 x0 x2)
noncomputable def ref01_formed_j7 (m:Nat) (self59:Dt→Bool→Option Bool) (self66:Dt→Bool→Option Bool) (x0:Bool) (x1:Int) (x2:Dt):Option Bool:=
 ref01_formed_l8 m self59 self66 (Nat.succ m) x0 x1 x2
noncomputable def ref01_formed_j6 (m:Nat) (self59:Dt→Bool→Option Bool) (self66:Dt→Bool→Option Bool) (x0:Bool) (x1:Dt):Option Bool:=
 ref01_formed_j7 m self59 self66 x0 0 x1
noncomputable def ref01_formed_j5 (m:Nat) (self59:Dt→Bool→Option Bool) (self66:Dt→Bool→Option Bool) (x0:Bool) (x1:Dt):Option Bool:=
  (bif ((Dt.I x1 0)==9) then
   (bif ((Dt.I x1 1)==0) then
 some true
   else
 some ((Dt.I x1 1)==1))
  else
   (bif ((Dt.I x1 0)==10) then
 some (decide (0≤(Dt.I x1 1)))
   else
 (bif ((Dt.I x1 0)==4) then
 (bif (decide ((ByteArray.size (Dt.S x1 2):Int)≤4096)) then
 ((ref01_UTF8 m (Dt.S x1 2)).bind fun r0=>
 some r0)
 else
 some false)
 else
 (bif ((Dt.I x1 0)==7) then
 some (decide ((ByteArray.size (Dt.S x1 2):Int)≤4096))
 else
 (bif ((Dt.I x1 0)==8) then
 some ((ByteArray.size (Dt.S x1 2):Int)==12)
 else
 ref01_formed_j6 m self59 self66 x0 x1)))))
noncomputable def ref01_formed_j4 (m:Nat) (self59:Dt→Bool→Option Bool) (self66:Dt→Bool→Option Bool) (x0 x1:Bool) (x2:Dt):Option Bool:=
 (bif x1 then
  some false
 else
  ref01_formed_j5 m self59 self66 x0 x2)
noncomputable def ref01_formed_j3 (m:Nat) (self59:Dt→Bool→Option Bool) (self66:Dt→Bool→Option Bool) (x0 x1 x2:Bool) (x3:Dt):Option Bool:=
  (bif (Bool.not x1) then
   (bif (Bool.not ((ByteArray.toList (Dt.S x3 2))==[])) then
 ref01_formed_j4 m self59 self66 x0 true x3
   else
 (bif (Bool.not x2) then
 (bif ((Dt.I x3 1) !=0) then
 ref01_formed_j4 m self59 self66 x0 true x3
 else
 (bif (decide ((Dt.I x3 0)<1)) then
 ref01_formed_j4 m self59 self66 x0 true x3
 else
 ref01_formed_j4 m self59 self66 x0 (decide (11<(Dt.I x3 0))) x3))
 else
 (bif (decide ((Dt.I x3 0)<1)) then
 ref01_formed_j4 m self59 self66 x0 true x3
 else
 ref01_formed_j4 m self59 self66 x0 (decide (11<(Dt.I x3 0))) x3)))
  else
   (bif (Bool.not x2) then
 (bif ((Dt.I x3 1) !=0) then
 ref01_formed_j4 m self59 self66 x0 true x3
 else
 (bif (decide ((Dt.I x3 0)<1)) then
 ref01_formed_j4 m self59 self66 x0 true x3
 else
 ref01_formed_j4 m self59 self66 x0 (decide (11<(Dt.I x3 0))) x3))
   else
 (bif (decide ((Dt.I x3 0)<1)) then
 ref01_formed_j4 m self59 self66 x0 true x3
 else
 ref01_formed_j4 m self59 self66 x0 (decide (11<(Dt.I x3 0))) x3)))
noncomputable def ref01_formed_j2 (m:Nat) (self59:Dt→Bool→Option Bool) (self66:Dt→Bool→Option Bool) (x0 x1:Bool) (x2:Dt):Option Bool:=
  (bif ((Dt.I x2 0)==3) then
   ref01_formed_j3 m self59 self66 x0 x1 true x2
  else
   (bif ((Dt.I x2 0)==9) then
 ref01_formed_j3 m self59 self66 x0 x1 true x2
   else
 ref01_formed_j3 m self59 self66 x0 x1 ((Dt.I x2 0)==10) x2))
noncomputable def ref01_formed_j1 (m:Nat) (self59:Dt→Bool→Option Bool) (self66:Dt→Bool→Option Bool) (x0:Bool) (x1:Dt):Option Bool:=
  (bif ((Dt.I x1 0)==4) then
   ref01_formed_j2 m self59 self66 x0 true x1
  else
   (bif ((Dt.I x1 0)==7) then
 ref01_formed_j2 m self59 self66 x0 true x1
   else
 ref01_formed_j2 m self59 self66 x0 ((Dt.I x1 0)==8) x1))
noncomputable def ref01_formed_j0 (m:Nat) (self59:Dt→Bool→Option Bool) (self66:Dt→Bool→Option Bool) (x0 x1:Bool) (x2:Dt):Option Bool:=
 (bif x1 then
  some false
 else
  ref01_formed_j1 m self59 self66 x0 x2)
noncomputable def ref01_fields_j8 (m:Nat) (self59:Dt→Bool→Option Bool) (rec1:Bool→Int→Dt→Option Bool) (rec6:Bool→Int→Int→Dt→Dt→Option Bool) (x0:Bool) (x1 x2:Int) (x3 x4:Dt):Option Bool:=
 rec6 x0 x1 (IntKind.wrap .i64 (x2+1)) x3 x4
noncomputable def ref01_fields_j7 (m:Nat) (self59:Dt→Bool→Option Bool) (rec1:Bool→Int→Dt→Option Bool) (rec6:Bool→Int→Int→Dt→Dt→Option Bool) (x0:Bool) (x1 x2:Int) (x3 x4:Dt):Option Bool:=
  ((idx (Dt.L x3 4) x2).bind fun v2=>
    (bif ((ByteArray.toList (Dt.S v2 0))==(ByteArray.toList (Dt.S x4 0))) then
 some false
    else
 ref01_fields_j8 m self59 rec1 rec6 x0 x1 x2 x3 x4))
noncomputable def ref01_fields_j9 (m:Nat) (self59:Dt→Bool→Option Bool) (rec1:Bool→Int→Dt→Option Bool) (x0:Bool) (x1:Int) (x2:Dt):Option Bool:=
 rec1 x0 (IntKind.wrap .i64 (x1+1)) x2
noncomputable def ref01_fields_l6 (m:Nat) (self59:Dt→Bool→Option Bool) (rec1:Bool→Int→Dt→Option Bool):Nat→Bool→Int→Int→Dt→Dt→Option Bool
 |0,_,_,_,_,_=>none
 |M6+1,x0,x1,x2,x3,x4=>
  (bif (decide (x2<x1)) then
  ref01_fields_j7 m self59 rec1 (ref01_fields_l6 m self59 rec1 M6) x0 x1 x2 x3 x4
 else
  ref01_fields_j9 m self59 rec1 x0 x1 x3)
noncomputable def ref01_fields_j5 (m:Nat) (self59:Dt→Bool→Option Bool) (rec1:Bool→Int→Dt→Option Bool) (x0:Bool) (x1 x2:Int) (x3 x4:Dt):Option Bool:=
 ref01_fields_l6 m self59 rec1 (Nat.succ m) x0 x1 x2 x3 x4
noncomputable def ref01_fields_j4 (m:Nat) (self59:Dt→Bool→Option Bool) (rec1:Bool→Int→Dt→Option Bool) (x0:Bool) (x1:Int) (x2 x3:Dt):Option Bool:=
 ref01_fields_j5 m self59 rec1 x0 x1 0 x2 x3
noncomputable def ref01_fields_j3 (m:Nat) (self59:Dt→Bool→Option Bool) (rec1:Bool→Int→Dt→Option Bool) (x0:Bool) (x1:Int) (x2:Bool) (x3 x4:Dt):Option Bool:=
 (bif x2 then
  some false
 else
  ref01_fields_j4 m self59 rec1 x0 x1 x3 x4)
noncomputable def ref01_fields_j2 (m:Nat) (self59:Dt→Bool→Option Bool) (rec1:Bool→Int→Dt→Option Bool) (x0:Bool) (x1:Int) (x2:Dt):Option Bool:=
  ((idx (Dt.L x2 4) x1).bind fun v0=>
    (bif x0 then
 ((ref01_Name m (Dt.S v0 0)).bind fun r1=>
 (bif (Bool.not r1) then
 ref01_fields_j3 m self59 rec1 x0 x1 true x2 v0
 else
 (bif (Bool.not x0) then
 ((ref01_wide m (Dt.S v0 0)).bind fun r3=>
 (bif (Bool.not r3) then
 ref01_fields_j3 m self59 rec1 x0 x1 true x2 v0
 else
 ((self59 (Dt.fld v0 1) x0).bind fun r4=>
 ref01_fields_j3 m self59 rec1 x0 x1 (Bool.not r4) x2 v0)))
 else
 ((self59 (Dt.fld v0 1) x0).bind fun r5=>
 ref01_fields_j3 m self59 rec1 x0 x1 (Bool.not r5) x2 v0))))
    else
 (bif (Bool.not x0) then
 ((ref01_wide m (Dt.S v0 0)).bind fun r6=>
 (bif (Bool.not r6) then
 ref01_fields_j3 m self59 rec1 x0 x1 true x2 v0
 else
 ((self59 (Dt.fld v0 1) x0).bind fun r7=>
 ref01_fields_j3 m self59 rec1 x0 x1 (Bool.not r7) x2 v0)))
 else
 ((self59 (Dt.fld v0 1) x0).bind fun r8=>
 ref01_fields_j3 m self59 rec1 x0 x1 (Bool.not r8) x2 v0))))
noncomputable def ref01_fields_j10 (m:Nat) (self59:Dt→Bool→Option Bool):Option Bool:=
 some true
noncomputable def ref01_fields_l1 (m:Nat) (self59:Dt→Bool→Option Bool):Nat→Bool→Int→Dt→Option Bool
 |0,_,_,_=>none
 |M1+1,x0,x1,x2=>
  (bif (decide (x1<(List.length (Dt.L x2 4):Int))) then
  ref01_fields_j2 m self59 (ref01_fields_l1 m self59 M1) x0 x1 x2
 else
  ref01_fields_j10 m self59)
noncomputable def ref01_fields_j0 (m:Nat) (self59:Dt→Bool→Option Bool) (x0:Bool) (x1:Int) (x2:Dt):Option Bool:=
 ref01_fields_l1 m self59 (Nat.succ m) x0 x1 x2
mutual
noncomputable def ref01_formed:Nat→Dt→Bool→Option Bool
  |0,_,_=>none
  |m+1,a0,a1=>
   (bif ((Dt.I a0 0) !=6) then
   (bif (decide (0<(List.length (Dt.L a0 3):Int))) then
 ref01_formed_j0 m (ref01_formed m) (ref01_fields m) a1 true a0
   else
 (bif ((Dt.I a0 0) !=5) then
 ref01_formed_j0 m (ref01_formed m) (ref01_fields m) a1 (decide (0<(List.length (Dt.L a0 4):Int))) a0
 else
 ref01_formed_j0 m (ref01_formed m) (ref01_fields m) a1 false a0))
  else
   (bif ((Dt.I a0 0) !=5) then
 ref01_formed_j0 m (ref01_formed m) (ref01_fields m) a1 (decide (0<(List.length (Dt.L a0 4):Int))) a0
   else
 ref01_formed_j0 m (ref01_formed m) (ref01_fields m) a1 false a0))
noncomputable def ref01_fields:Nat→Dt→Bool→Option Bool
 |0,_,_=>none
 |m+1,a0,a1=>
  ref01_fields_j0 m (ref01_formed m) a1 0 a0
end
noncomputable def ref01_Valid:Nat→Dt→Option Bool
  |0,_=>none
  |m+1,a0=>
   ((ref01_Depth m a0).bind fun r0=>
   (bif (decide (r0≤16)) then
 ((ref01_Nodes m a0).bind fun r1=>
 (bif (decide (r1≤1024)) then
 ((ref01_formed m a0 true).bind fun r2=>
 some r2)
 else
 some false))
   else
 some false))
noncomputable def ref05_formed_j5 (m:Nat) (self22:Dt→Option Bool) (rec3:Int→Dt→Option Bool) (x0:Int) (x1:Dt):Option Bool:=
 rec3 (IntKind.wrap .i64 (x0+1)) x1
noncomputable def ref05_formed_j4 (m:Nat) (self22:Dt→Option Bool) (rec3:Int→Dt→Option Bool) (x0:Int) (x1:Dt):Option Bool:=
  ((idx (Dt.L x1 3) x0).bind fun v0=>
    ((self22 v0).bind fun r1=>
 (bif (Bool.not r1) then
 some false
 else
 ref05_formed_j5 m self22 rec3 x0 x1)))
noncomputable def ref05_formed_j15 (m:Nat) (self22:Dt→Option Bool) (rec8:Int→Dt→Option Bool) (rec13:Int→Int→Dt→Option Bool) (x0 x1:Int) (x2:Dt):Option Bool:=
 rec13 x0 (IntKind.wrap .i64 (x1+1)) x2
noncomputable def ref05_formed_j14 (m:Nat) (self22:Dt→Option Bool) (rec8:Int→Dt→Option Bool) (rec13:Int→Int→Dt→Option Bool) (x0 x1:Int) (x2:Dt):Option Bool:=
  ((idx (Dt.L x2 4) x1).bind fun v4=>
    ((idx (Dt.L x2 4) x0).bind fun v5=>
 (bif ((ByteArray.toList (Dt.S v4 0))==(ByteArray.toList (Dt.S v5 0))) then
 some false
 else
 ref05_formed_j15 m self22 rec8 rec13 x0 x1 x2)))
noncomputable def ref05_formed_j16 (m:Nat) (self22:Dt→Option Bool) (rec8:Int→Dt→Option Bool) (x0:Int) (x1:Dt):Option Bool:=
 rec8 (IntKind.wrap .i64 (x0+1)) x1
noncomputable def ref05_formed_l13 (m:Nat) (self22:Dt→Option Bool) (rec8:Int→Dt→Option Bool):Nat→Int→Int→Dt→Option Bool
 |0,_,_,_=>none
 |M13+1,x0,x1,x2=>
  (bif (decide (x1<x0)) then
  ref05_formed_j14 m self22 rec8 (ref05_formed_l13 m self22 rec8 M13) x0 x1 x2
 else
  ref05_formed_j16 m self22 rec8 x0 x2)
noncomputable def ref05_formed_j12 (m:Nat) (self22:Dt→Option Bool) (rec8:Int→Dt→Option Bool) (x0 x1:Int) (x2:Dt):Option Bool:=
 ref05_formed_l13 m self22 rec8 (Nat.succ m) x0 x1 x2
noncomputable def ref05_formed_j11 (m:Nat) (self22:Dt→Option Bool) (rec8:Int→Dt→Option Bool) (x0:Int) (x1:Dt):Option Bool:=
 ref05_formed_j12 m self22 rec8 x0 0 x1
noncomputable def ref05_formed_j10 (m:Nat) (self22:Dt→Option Bool) (rec8:Int→Dt→Option Bool) (x0:Int) (x1:Bool) (x2:Dt):Option Bool:=
 (bif x1 then
  some false
 else
  ref05_formed_j11 m self22 rec8 x0 x2)
noncomputable def ref05_formed_j9 (m:Nat) (self22:Dt→Option Bool) (rec8:Int→Dt→Option Bool) (x0:Int) (x1:Dt):Option Bool:=
  ((idx (Dt.L x1 4) x0).bind fun v2=>
    ((ref05_Label m (Dt.S v2 0)).bind fun r3=>
 (bif (Bool.not r3) then
 ref05_formed_j10 m self22 rec8 x0 true x1
 else
 ((idx (Dt.L x1 4) x0).bind fun v6=>
 ((self22 (Dt.fld v6 1)).bind fun r7=>
 ref05_formed_j10 m self22 rec8 x0 (Bool.not r7) x1)))))
noncomputable def ref05_formed_j17 (m:Nat) (self22:Dt→Option Bool):Option Bool:=
 some true
noncomputable def ref05_formed_l8 (m:Nat) (self22:Dt→Option Bool):Nat→Int→Dt→Option Bool
 |0,_,_=>none
 |M8+1,x0,x1=>
  (bif (decide (x0<(List.length (Dt.L x1 4):Int))) then
  ref05_formed_j9 m self22 (ref05_formed_l8 m self22 M8) x0 x1
 else
  ref05_formed_j17 m self22)
noncomputable def ref05_formed_j7 (m:Nat) (self22:Dt→Option Bool) (x0:Int) (x1:Dt):Option Bool:=
 ref05_formed_l8 m self22 (Nat.succ m) x0 x1
noncomputable def ref05_formed_j6 (m:Nat) (self22:Dt→Option Bool) (x0:Dt):Option Bool:=
 ref05_formed_j7 m self22 0 x0
noncomputable def ref05_formed_l3 (m:Nat) (self22:Dt→Option Bool):Nat→Int→Dt→Option Bool
 |0,_,_=>none
 |M3+1,x0,x1=>
  (bif (decide (x0<(List.length (Dt.L x1 3):Int))) then
  ref05_formed_j4 m self22 (ref05_formed_l3 m self22 M3) x0 x1
 else
  ref05_formed_j6 m self22 x1)
noncomputable def ref05_formed_j2 (m:Nat) (self22:Dt→Option Bool) (x0:Int) (x1:Dt):Option Bool:=
 ref05_formed_l3 m self22 (Nat.succ m) x0 x1
noncomputable def ref05_formed_j1 (m:Nat) (self22:Dt→Option Bool) (x0:Dt):Option Bool:=
 ref05_formed_j2 m self22 0 x0
noncomputable def ref05_formed_j0 (m:Nat) (self22:Dt→Option Bool) (x0:Bool) (x1:Dt):Option Bool:=
 (bif x0 then
  some false
 else
  ref05_formed_j1 m self22 x1)
noncomputable def ref05_formed:Nat→Dt→Option Bool
  |0,_=>none
  |m+1,a0=>
   (bif ((Dt.I a0 0) !=6) then
   (bif (decide (0<(List.length (Dt.L a0 3):Int))) then
 ref05_formed_j0 m (ref05_formed m) true a0
   else
 (bif ((Dt.I a0 0) !=5) then
 (bif (decide (0<(List.length (Dt.L a0 4):Int))) then
 ref05_formed_j0 m (ref05_formed m) true a0
 else
 ((ref01_Valid m (Dt.agg [(Dt.int (Dt.I a0 0)),(Dt.int (Dt.I a0 1)),(Dt.str (Dt.S a0 2)),(Dt.lst []),(Dt.lst [])])).bind fun r8=>
 ref05_formed_j0 m (ref05_formed m) (Bool.not r8) a0))
 else
 ((ref01_Valid m (Dt.agg [(Dt.int (Dt.I a0 0)),(Dt.int (Dt.I a0 1)),(Dt.str (Dt.S a0 2)),(Dt.lst []),(Dt.lst [])])).bind fun r9=>
 ref05_formed_j0 m (ref05_formed m) (Bool.not r9) a0)))
  else
   (bif ((Dt.I a0 0) !=5) then
 (bif (decide (0<(List.length (Dt.L a0 4):Int))) then
 ref05_formed_j0 m (ref05_formed m) true a0
 else
 ((ref01_Valid m (Dt.agg [(Dt.int (Dt.I a0 0)),(Dt.int (Dt.I a0 1)),(Dt.str (Dt.S a0 2)),(Dt.lst []),(Dt.lst [])])).bind fun r10=>
 ref05_formed_j0 m (ref05_formed m) (Bool.not r10) a0))
   else
 ((ref01_Valid m (Dt.agg [(Dt.int (Dt.I a0 0)),(Dt.int (Dt.I a0 1)),(Dt.str (Dt.S a0 2)),(Dt.lst []),(Dt.lst [])])).bind fun r11=>
 ref05_formed_j0 m (ref05_formed m) (Bool.not r11) a0)))
noncomputable def ref05_WellFormed:Nat→Dt→Option Bool
  |0,_=>none
  |m+1,a0=>
   ((ref01_Depth m a0).bind fun r0=>
   (bif (decide (r0≤16)) then
 ((ref01_Nodes m a0).bind fun r1=>
 (bif (decide (r1≤1024)) then
 ((ref05_formed m a0).bind fun r2=>
 some r2)
 else
 some false))
   else
 some false))
noncomputable def law05_NotationBack_j1 (m:Nat) (x0 x1:Int) (x2:ByteArray) (x3:Dt):Option Bool:=
  ((cutS (ByteArray.mk (List.toArray [32,9,10,13,32,9,10,13])) 0 (Int.tmod x0 9)).bind fun v5=>
    (bif (Nat.ble ((ByteArray.size v5)+(ByteArray.size x2)) 1152921504606846976) then
 ((cutS (ByteArray.mk (List.toArray [32,9,10,13,32,9,10,13])) 0 (Int.tmod x1 9)).bind fun v6=>
 (bif (Nat.ble ((ByteArray.size (v5++x2))+(ByteArray.size v6)) 1152921504606846976) then
 ((notation_Parse m ((v5++x2)++v6)).bind fun r7=>
 ((ref05_WellFormed m x3).bind fun r8=>
 (bif r8 then
 (bif (r7.2.2==0) then
 (bif (r7.2.1==0) then
 ((ref05_Same m x3 r7.1).bind fun r9=>
 (bif r9 then
 ((awakeC).bind fun r10=>
 some r10)
 else
 some false))
 else
 some false)
 else
 some false)
 else
 some false)))
 else
 none))
    else
 none))
noncomputable def law05_NotationBack_j0 (m:Nat) (x0 x1:Int) (x2:Dt):Option Bool:=
  ((notation_Print m x2).bind fun r2=>
    (bif (r2.2 !=0) then
 (bif ((ByteArray.toList r2.1)==[]) then
 ((ref05_WellFormed m x2).bind fun r3=>
 (bif ((r2.2==8)==(Bool.not r3)) then
 ((awakeC).bind fun r4=>
 some r4)
 else
 some false))
 else
 some false)
    else
 law05_NotationBack_j1 m x0 x1 r2.1 x2))
noncomputable def law05_NotationBack:Nat→Dt→Int→Int→Option Bool
  |0,_,_,_=>none
  |m+1,a0,a1,a2=>
   ((ref02_Few m a0 3000).bind fun r0=>
   (bif (Bool.not r0) then
 ((awakeC).bind fun r1=>
 some r1)
   else
 law05_NotationBack_j0 m a1 a2 a0))
noncomputable def law05_NotationAgain_j1 (m:Nat) (x0:Int) (x1:Dt):Option Bool:=
  ((notation_Print m x1).bind fun r6=>
    ((notation_Parse m r6.1).bind fun r7=>
 (bif (x0==0) then
 ((ref05_WellFormed m x1).bind fun r8=>
 (bif r8 then
 (bif (r6.2==0) then
 (bif (r7.2.2==0) then
 ((ref05_Same m x1 r7.1).bind fun r9=>
 (bif r9 then
 ((awakeC).bind fun r10=>
 some r10)
 else
 some false))
 else
 some false)
 else
 some false)
 else
 some false))
 else
 some false)))
noncomputable def law05_NotationAgain_j0 (m:Nat) (x0:ByteArray):Option Bool:=
  ((notation_Parse m x0).bind fun r1=>
    (bif (r1.2.2 !=0) then
 (bif (decide (0≤r1.2.1)) then
 (bif (decide (r1.2.1≤(ByteArray.size x0:Int))) then
 (bif (r1.2.2==4) then
 ((ref05_Same m r1.1 kza2373).bind fun r2=>
 (bif r2 then
 ((awakeC).bind fun r3=>
 some r3)
 else
 some false))
 else
 (bif (r1.2.2==2) then
 ((ref05_Same m r1.1 kza2373).bind fun r4=>
 (bif r4 then
 ((awakeC).bind fun r5=>
 some r5)
 else
 some false))
 else
 some false))
 else
 some false)
 else
 some false)
    else
 law05_NotationAgain_j1 m r1.2.1 r1.1))
noncomputable def law05_NotationAgain:Nat→ByteArray→Option Bool
  |0,_=>none
  |m+1,a0=>
   (bif (decide (10000<(ByteArray.size a0:Int))) then
   ((awakeC).bind fun r0=>
 some r0)
  else
   law05_NotationAgain_j0 m a0)
end Go.Proofs.YtmejbpmceflcjaaDoor
