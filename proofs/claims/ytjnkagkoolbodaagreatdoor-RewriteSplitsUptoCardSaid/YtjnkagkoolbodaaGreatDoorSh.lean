/- Generated: what the Go functions compute, over plain data. -/
import Derived.Test.YtjnkagkoolbodaaGreatDoorAm20
import Derived.Test.YtjnkagkoolbodaaGreatDoorOAwake
set_option linter.unusedVariables false
set_option linter.unusedSimpArgs false
namespace Go.Proofs.YtjnkagkoolbodaaGreatDoor
open Go.Am
abbrev Q0:=Nat→Nat→Nat→St→Option Bool→Option Bool
abbrev Q1:=Nat→Nat→Nat→St→Option Int→Option Int
abbrev Q2:=List Dt→Int→Option Int
abbrev Q3:=List Dt→Int→Int→List Dt→Option (List Dt)
abbrev Q4:=Dt→Option Dt
abbrev Q5:=Dt→Bool→Option Bool
abbrev Q6:=Dt→Dt→Option Bool
abbrev Q7:=Nat→Nat→Nat→St→Option (List Dt)→Option (List Dt)
abbrev Q8:=Int→Dt→Option Int
abbrev Q9:=Int→Dt→Dt→Option Bool
abbrev Q10:=List Dt→List Dt→Int→Option Bool
abbrev Q11:=Nat→Nat→Nat→St→Option Dt→Option Dt
abbrev Q12:=Dt→Bool→Option Int
abbrev Q13:=List Dt→Bool→Option Int
abbrev Q14:=List Dt→List Dt→Option Bool
abbrev Q15:=ByteArray→Int→Option Bool
abbrev Q16:=Int→Dt→List Dt→Option (List Dt)
abbrev Q17:=Dt→Dt→Option Int
abbrev Q18:=Dt→Int→Option Int
abbrev Q19:=Bool→Int→Dt→Option Bool
abbrev Q20:=List Dt→Int→Dt→Option Int
abbrev Q21:=List Dt→Int→Option Bool
abbrev Q22:=Dt→Int→Int→Option (Int×Int)
abbrev Q23:=Dt→Option Int
abbrev Q24:=List Dt→Int→Int→Int→Option Int
abbrev Q25:=Dt→Int→Int→Option Int
abbrev Q26:=Int→Dt→Dt→Option Int
abbrev Q27:=Bool→Int→Dt→Option Int
abbrev Q28:=Int→Int→Dt→Option Int
abbrev Q29:=List Dt→Int→Int→Option Int
abbrev Q30:=Int→Bool→Int→Dt→Option Int
abbrev Q31:=List Dt→Bool→Int→Option Int
abbrev Q32:=List Dt→Int→Option (List Dt×List Dt×List Dt)
abbrev Q33:=ByteArray→Int→Int→Int→Option Bool
abbrev Q34:=Int→Int→Int→Dt→Option (Int×Int)
abbrev Q35:=Nat→Nat→Nat→St→Option (List Dt×List Dt×List Dt)→Option (List Dt×List Dt×List Dt)
abbrev Q36:=List Dt→Int→Int→Int→List Dt→Int→Option Int
abbrev Q37:=Int→List Dt→Int→Option Bool
abbrev Q38:=Int→Int→Int→Dt→Option Int
abbrev Q39:=ByteArray→ByteArray→Int→Option Int
abbrev Q40:=List Dt→Int→Int→Option Bool
abbrev Q41:=Int→List Dt→Int→Int→Option Int
abbrev Q42:=Int→Int→List Dt→Int→Option Int
abbrev Q43:=Bool→Int→Int→Dt→Dt→Option Bool
abbrev Q44:=List Dt→Int→Int→Dt→Option Int
abbrev Q45:=List Dt→Int→Bool→Int→Option Int
abbrev Q46:=Nat→Nat→Nat→St→Option (Int×Int)→Option (Int×Int)
def Vo:Dt:=Dt.agg [(Dt.lst []),(Dt.bool Bool.false)]
def aW:Dt:=Dt.agg [(Dt.int 0),(Dt.int 0),(Dt.str (ByteArray.mk (List.toArray []))),(Dt.lst []),(Dt.lst [])]
def Vp:Dt:=Dt.agg [(Dt.str (ByteArray.mk (List.toArray []))),(Dt.agg [(Dt.int 0),(Dt.int 0),(Dt.str (ByteArray.mk (List.toArray []))),(Dt.lst []),(Dt.lst [])])]
def vQ:Dt:=Dt.agg [(Dt.int 0),(Dt.lst []),(Dt.str (ByteArray.mk (List.toArray []))),(Dt.lst []),(Dt.agg [(Dt.int 0),(Dt.int 0),(Dt.str (ByteArray.mk (List.toArray []))),(Dt.lst []),(Dt.lst [])]),(Dt.int 0),(Dt.lst [])]
def Vq:Dt:=Dt.agg [(Dt.lst []),(Dt.agg [(Dt.int 0),(Dt.lst []),(Dt.str (ByteArray.mk (List.toArray []))),(Dt.lst []),(Dt.agg [(Dt.int 0),(Dt.int 0),(Dt.str (ByteArray.mk (List.toArray []))),(Dt.lst []),(Dt.lst [])]),(Dt.int 0),(Dt.lst [])])]
def Vr:Dt:=Dt.agg [(Dt.str (ByteArray.mk (List.toArray []))),(Dt.int 0),(Dt.agg [(Dt.int 0),(Dt.lst []),(Dt.str (ByteArray.mk (List.toArray []))),(Dt.lst []),(Dt.agg [(Dt.int 0),(Dt.int 0),(Dt.str (ByteArray.mk (List.toArray []))),(Dt.lst []),(Dt.lst [])]),(Dt.int 0),(Dt.lst [])]),(Dt.lst []),(Dt.int 0)]
def Vs:Dt:=Dt.agg [(Dt.str (ByteArray.mk (List.toArray []))),(Dt.int 0),(Dt.agg [(Dt.int 0),(Dt.lst []),(Dt.str (ByteArray.mk (List.toArray []))),(Dt.lst []),(Dt.agg [(Dt.int 0),(Dt.int 0),(Dt.str (ByteArray.mk (List.toArray []))),(Dt.lst []),(Dt.lst [])]),(Dt.int 0),(Dt.lst [])]),(Dt.int 0),(Dt.int 0),(Dt.bool Bool.false)]
def vR:Dt:=Dt.agg [(Dt.int 0),(Dt.lst []),(Dt.agg [(Dt.int 0),(Dt.int 0),(Dt.str (ByteArray.mk (List.toArray []))),(Dt.lst []),(Dt.lst [])]),(Dt.lst []),(Dt.int 0),(Dt.int 0),(Dt.agg [(Dt.int 0),(Dt.lst []),(Dt.int 0)]),(Dt.agg [(Dt.int 0),(Dt.lst []),(Dt.str (ByteArray.mk (List.toArray []))),(Dt.lst []),(Dt.agg [(Dt.int 0),(Dt.int 0),(Dt.str (ByteArray.mk (List.toArray []))),(Dt.lst []),(Dt.lst [])]),(Dt.int 0),(Dt.lst [])]),(Dt.lst [])]
def Vt:Dt:=Dt.agg [(Dt.lst []),(Dt.int 0),(Dt.int 0)]
def Vu:Dt:=Dt.agg [(Dt.int 0),(Dt.agg [(Dt.int 0),(Dt.lst []),(Dt.agg [(Dt.int 0),(Dt.int 0),(Dt.str (ByteArray.mk (List.toArray []))),(Dt.lst []),(Dt.lst [])]),(Dt.lst []),(Dt.int 0),(Dt.int 0),(Dt.agg [(Dt.int 0),(Dt.lst []),(Dt.int 0)]),(Dt.agg [(Dt.int 0),(Dt.lst []),(Dt.str (ByteArray.mk (List.toArray []))),(Dt.lst []),(Dt.agg [(Dt.int 0),(Dt.int 0),(Dt.str (ByteArray.mk (List.toArray []))),(Dt.lst []),(Dt.lst [])]),(Dt.int 0),(Dt.lst [])]),(Dt.lst [])]),(Dt.agg [(Dt.bool Bool.false),(Dt.lst []),(Dt.bool Bool.false),(Dt.lst []),(Dt.lst [])]),(Dt.lst []),(Dt.lst []),(Dt.int 0),(Dt.lst []),(Dt.str (ByteArray.mk (List.toArray []))),(Dt.bool Bool.false),(Dt.agg [(Dt.int 0),(Dt.lst []),(Dt.str (ByteArray.mk (List.toArray []))),(Dt.lst []),(Dt.agg [(Dt.int 0),(Dt.int 0),(Dt.str (ByteArray.mk (List.toArray []))),(Dt.lst []),(Dt.lst [])]),(Dt.int 0),(Dt.lst [])]),(Dt.agg [(Dt.agg [(Dt.int 0),(Dt.lst []),(Dt.str (ByteArray.mk (List.toArray []))),(Dt.lst []),(Dt.agg [(Dt.int 0),(Dt.int 0),(Dt.str (ByteArray.mk (List.toArray []))),(Dt.lst []),(Dt.lst [])]),(Dt.int 0),(Dt.lst [])]),(Dt.lst [])]),(Dt.agg [(Dt.agg [(Dt.int 0),(Dt.lst []),(Dt.str (ByteArray.mk (List.toArray []))),(Dt.lst []),(Dt.agg [(Dt.int 0),(Dt.int 0),(Dt.str (ByteArray.mk (List.toArray []))),(Dt.lst []),(Dt.lst [])]),(Dt.int 0),(Dt.lst [])]),(Dt.lst []),(Dt.lst [])]),(Dt.agg [(Dt.str (ByteArray.mk (List.toArray []))),(Dt.lst []),(Dt.lst []),(Dt.str (ByteArray.mk (List.toArray []))),(Dt.lst [])]),(Dt.lst []),(Dt.lst []),(Dt.agg [(Dt.str (ByteArray.mk (List.toArray []))),(Dt.lst []),(Dt.int 0),(Dt.int 0)]),(Dt.agg [(Dt.int 0),(Dt.lst []),(Dt.int 0)])]
def Vv:Dt:=Dt.agg [(Dt.str (ByteArray.mk (List.toArray []))),(Dt.lst [])]
def bR:Dt:=Dt.agg [(Dt.int 0),(Dt.lst []),(Dt.int 0)]
def vS:Dt:=Dt.agg [(Dt.bool Bool.false),(Dt.lst []),(Dt.bool Bool.false),(Dt.lst []),(Dt.lst [])]
noncomputable def aic (m:Nat):Option Bool:=
 some false
noncomputable def yc (m:Nat) (x0:Bool):Option Bool:=
 (bif x0 then
  some true
 else
  aic m)
noncomputable def yI:Nat→Int→Option Bool
  |0,_=>none
  |m+1,a0=>
   (bif (a0==1) then
   yc m (a0==1)
  else
   (bif (a0==3) then
 yc m (a0==3)
   else
 (bif (a0==2) then
 yc m (a0==2)
 else
 (bif (a0==7) then
 yc m (a0==7)
 else
 yc m (a0==16)))))
noncomputable def vH:Nat→List Dt→Int→Int→Option Bool
  |0,_,_,_=>none
  |m+1,a0,a1,a2=>
   (bif (decide (a1<(List.length a0:Int))) then
   ((idx a0 a1).bind fun v0=>
 some ((Dt.I v0 0)==a2))
  else
   some false)
noncomputable def yg (m:Nat) (rec1:Q32) (x0:List Dt) (x1:Int):Option (List Dt×List Dt×List Dt):=
 rec1 x0 (IntKind.wrap .i64 (x1+1))
noncomputable def Vw (m:Nat) (x0:List Dt) (x1:Int):Option (List Dt×List Dt×List Dt):=
  ((cutL x0 0 x1).bind fun v9=>
    ((cutL x0 x1 (List.length x0:Int)).bind fun v10=>
 some (v9,v10,[])))
noncomputable def MO (m:Nat) (x0:List Dt) (x1:Int):Option (List Dt×List Dt×List Dt):=
  ((vH m x0 x1 4).bind fun r5=>
    (bif r5 then
 ((cutL x0 0 x1).bind fun v6=>
 ((cutL x0 x1 (List.length x0:Int)).bind fun v7=>
 ((idx x0 x1).bind fun v8=>
 some (v6,v7,(Dt.L v8 4)))))
    else
 Vw m x0 x1))
noncomputable def nL (m:Nat):Nat→List Dt→Int→Option (List Dt×List Dt×List Dt)
  |0,_,_=>none
  |M1+1,x0,x1=>
   ((vH m x0 x1 1).bind fun r0=>
   (bif r0 then
 yg m (nL m M1) x0 x1
   else
 ((vH m x0 x1 3).bind fun r1=>
 (bif r1 then
 yg m (nL m M1) x0 x1
 else
 ((vH m x0 x1 2).bind fun r2=>
 (bif r2 then
 yg m (nL m M1) x0 x1
 else
 ((vH m x0 x1 7).bind fun r3=>
 (bif r3 then
 yg m (nL m M1) x0 x1
 else
 ((vH m x0 x1 16).bind fun r4=>
 (bif r4 then
 yg m (nL m M1) x0 x1
 else
 MO m x0 x1))))))))))
noncomputable def av9 (m:Nat) (x0:List Dt) (x1:Int):Option (List Dt×List Dt×List Dt):=
 nL m (Nat.succ m) x0 x1
noncomputable def z8:Nat→List Dt→Option (List Dt×List Dt×List Dt)
 |0,_=>none
 |m+1,a0=>
  av9 m a0 0
noncomputable def aie (m:Nat) (rec3:Q16) (x0:Int) (x1:Dt) (x2:List Dt):Option (List Dt):=
 rec3 (IntKind.wrap .i64 (x0+1)) x1 x2
noncomputable def aif (m:Nat) (rec3:Q16) (x0:Int) (x1:Dt) (x2:List Dt):Option (List Dt):=
  ((idx (Dt.L x1 13) x0).bind fun v1=>
    ((app x2 [(Dt.lst (Dt.L v1 1))]).bind fun v2=>
 aie m rec3 x0 x1 v2))
noncomputable def aii (m:Nat) (x0:List Dt):Option (List Dt):=
 some x0
noncomputable def FB (m:Nat):Nat→Int→Dt→List Dt→Option (List Dt)
 |0,_,_,_=>none
 |M3+1,x0,x1,x2=>
  (bif (decide (x0<(List.length (Dt.L x1 13):Int))) then
  aif m (FB m M3) x0 x1 x2
 else
  aii m x2)
noncomputable def awc (m:Nat) (x0:Int) (x1:Dt) (x2:List Dt):Option (List Dt):=
 FB m (Nat.succ m) x0 x1 x2
noncomputable def MP (m:Nat) (x0:Dt) (x1:List Dt):Option (List Dt):=
 (bif ((Dt.I x0 0)==11) then
  awc m 0 x0 x1
 else
  aii m x1)
noncomputable def MQ (m:Nat) (x0:Bool) (x1:Dt) (x2:List Dt):Option (List Dt):=
  (bif x0 then
   ((app x2 [(Dt.lst (Dt.L (Dt.fld x1 12) 4))]).bind fun v0=>
 MP m x1 v0)
  else
   MP m x1 x2)
noncomputable def zU:Nat→Dt→Option (List Dt)
 |0,_=>none
 |m+1,a0=>
  (bif ((Dt.I a0 0)==10) then
  MQ m true a0 []
 else
  MQ m ((Dt.I a0 0)==15) a0 [])
noncomputable def aij (m:Nat) (self7:Q2) (rec3:Q24) (rec6:Q36) (x0:List Dt) (x1 x2 x3:Int) (x4:List Dt) (x5:Int):Option Int:=
 rec6 x0 x1 x2 x3 x4 (IntKind.wrap .i64 (x5+1))
noncomputable def aik (m:Nat) (self7:Q2) (rec3:Q24) (rec6:Q36) (x0:List Dt) (x1 x2 x3:Int) (x4:List Dt) (x5:Int):Option Int:=
  ((idx x4 x5).bind fun v2=>
    ((self7 (Dt.toLst v2) (IntKind.wrap .i64 (x1+1))).bind fun r3=>
 aij m self7 rec3 rec6 x0 x1 (IntKind.wrap .i64 (x2+r3)) x3 x4 x5))
noncomputable def MR (m:Nat) (self7:Q2) (rec3:Q24) (x0:List Dt) (x1 x2 x3:Int):Option Int:=
 rec3 x0 x1 x2 (IntKind.wrap .i64 (x3+1))
noncomputable def FC (m:Nat) (self7:Q2) (rec3:Q24):Nat→List Dt→Int→Int→Int→List Dt→Int→Option Int
  |0,_,_,_,_,_,_=>none
  |M6+1,x0,x1,x2,x3,x4,x5=>
   (bif (decide (x5<(List.length x4:Int))) then
   (bif (decide (x2≤32)) then
 aik m self7 rec3 (FC m self7 rec3 M6) x0 x1 x2 x3 x4 x5
   else
 MR m self7 rec3 x0 x1 x2 x3)
  else
   MR m self7 rec3 x0 x1 x2 x3)
noncomputable def awd (m:Nat) (self7:Q2) (rec3:Q24) (x0:List Dt) (x1 x2 x3:Int) (x4:List Dt) (x5:Int):Option Int:=
 FC m self7 rec3 (Nat.succ m) x0 x1 x2 x3 x4 x5
noncomputable def ail (m:Nat) (self7:Q2) (rec3:Q24) (x0:List Dt) (x1 x2 x3:Int):Option Int:=
  ((idx x0 x3).bind fun v0=>
    ((zU m v0).bind fun r1=>
 awd m self7 rec3 x0 x1 x2 x3 r1 0))
noncomputable def Rj (m:Nat) (self7:Q2) (x0:Int):Option Int:=
 some x0
noncomputable def FD (m:Nat) (self7:Q2):Nat→List Dt→Int→Int→Int→Option Int
  |0,_,_,_,_=>none
  |M3+1,x0,x1,x2,x3=>
   (bif (decide (x3<(List.length x0:Int))) then
   (bif (decide (x2≤32)) then
 ail m self7 (FD m self7 M3) x0 x1 x2 x3
   else
 Rj m self7 x2)
  else
   Rj m self7 x2)
noncomputable def awe (m:Nat) (self7:Q2) (x0:List Dt) (x1 x2 x3:Int):Option Int:=
 FD m self7 (Nat.succ m) x0 x1 x2 x3
noncomputable def awf (m:Nat) (self7:Q2) (x0:List Dt) (x1:Int):Option Int:=
 awe m self7 x0 x1 (List.length x0:Int) 0
noncomputable def FH (m:Nat) (self7:Q2) (x0:List Dt) (x1:Int) (x2:Bool):Option Int:=
 (bif x2 then
  some 33
 else
  awf m self7 x0 x1)
noncomputable def qW:Nat→List Dt→Int→Option Int
  |0,_,_=>none
  |m+1,a0,a1=>
   (bif (decide (16<a1)) then
   (bif (decide (0<(List.length a0:Int))) then
 FH m (qW m) a0 a1 true
   else
 FH m (qW m) a0 a1 (decide (32<(List.length a0:Int))))
  else
   FH m (qW m) a0 a1 (decide (32<(List.length a0:Int))))
noncomputable def zW:Nat→List Dt→Option (List Dt)
 |0,_=>none
 |m+1,a0=>
  ((app [] a0).bind fun v0=>
  some v0)
noncomputable def y4:Nat→Dt→Option Dt
 |0,_=>none
 |m+1,a0=>
  ((zW m (Dt.L a0 0)).bind fun r0=>
  some (Dt.agg [(Dt.lst r0),(Dt.bool (Dt.B a0 1))]))
noncomputable def yh (m:Nat) (rec2:Q3) (x0:List Dt) (x1 x2:Int) (x3:List Dt):Option (List Dt):=
 rec2 x0 x1 (IntKind.wrap .i64 (x2+1)) x3
noncomputable def yj (m:Nat) (rec2:Q3) (x0:List Dt) (x1 x2:Int) (x3:List Dt):Option (List Dt):=
  ((idx x0 x2).bind fun v1=>
    ((y4 m v1).bind fun r2=>
 ((inL x3 x2).bind fun v3=>
 ((x3[(Int.toNat x2)]?).bind fun v4=>
 yh m rec2 x0 x1 x2 (List.set x3 (Int.toNat x2) r2)))))
noncomputable def yt (m:Nat) (x0:List Dt):Option (List Dt):=
 some x0
noncomputable def oV (m:Nat):Nat→List Dt→Int→Int→List Dt→Option (List Dt)
 |0,_,_,_,_=>none
 |M2+1,x0,x1,x2,x3=>
  (bif (decide (x2<x1)) then
  yj m (oV m M2) x0 x1 x2 x3
 else
  yt m x3)
noncomputable def yu (m:Nat) (x0:List Dt) (x1 x2:Int) (x3:List Dt):Option (List Dt):=
 oV m (Nat.succ m) x0 x1 x2 x3
noncomputable def yw (m:Nat) (x0:List Dt):Option (List Dt):=
 ((mkL (List.length x0:Int) (List.length x0:Int) Vo).bind fun v0=>
   yu m x0 (List.length x0:Int) 0 v0)
noncomputable def i12:Nat→List Dt→Option (List Dt)
 |0,_=>none
 |m+1,a0=>
  (bif ((List.length a0:Int)==0) then
  some []
 else
  yw m a0)
noncomputable def yx (m:Nat) (self33:Q4) (rec2:Q3) (x0:List Dt) (x1 x2:Int) (x3:List Dt):Option (List Dt):=
 rec2 x0 x1 (IntKind.wrap .i64 (x2+1)) x3
noncomputable def ze (m:Nat) (self33:Q4) (rec2:Q3) (x0:List Dt) (x1 x2:Int) (x3:List Dt):Option (List Dt):=
  ((idx x0 x2).bind fun v1=>
    ((self33 v1).bind fun r2=>
 ((inL x3 x2).bind fun v3=>
 ((x3[(Int.toNat x2)]?).bind fun v4=>
 yx m self33 rec2 x0 x1 x2 (List.set x3 (Int.toNat x2) r2)))))
noncomputable def zf (m:Nat) (self33:Q4) (x0:List Dt):Option (List Dt):=
 some x0
noncomputable def oW (m:Nat) (self33:Q4):Nat→List Dt→Int→Int→List Dt→Option (List Dt)
 |0,_,_,_,_=>none
 |M2+1,x0,x1,x2,x3=>
  (bif (decide (x2<x1)) then
  ze m self33 (oW m self33 M2) x0 x1 x2 x3
 else
  zf m self33 x3)
noncomputable def zh (m:Nat) (self33:Q4) (x0:List Dt) (x1 x2:Int) (x3:List Dt):Option (List Dt):=
 oW m self33 (Nat.succ m) x0 x1 x2 x3
noncomputable def zk (m:Nat) (self33:Q4) (x0:List Dt):Option (List Dt):=
 ((mkL (List.length x0:Int) (List.length x0:Int) aW).bind fun v0=>
   zh m self33 x0 (List.length x0:Int) 0 v0)
noncomputable def zl (m:Nat) (self70:Q4) (rec2:Q3) (x0:List Dt) (x1 x2:Int) (x3:List Dt):Option (List Dt):=
 rec2 x0 x1 (IntKind.wrap .i64 (x2+1)) x3
noncomputable def zm (m:Nat) (self70:Q4) (rec2:Q3) (x0:List Dt) (x1 x2:Int) (x3:List Dt):Option (List Dt):=
  ((idx x0 x2).bind fun v1=>
    ((self70 v1).bind fun r2=>
 ((inL x3 x2).bind fun v3=>
 ((x3[(Int.toNat x2)]?).bind fun v4=>
 zl m self70 rec2 x0 x1 x2 (List.set x3 (Int.toNat x2) r2)))))
noncomputable def zn (m:Nat) (self70:Q4) (x0:List Dt):Option (List Dt):=
 some x0
noncomputable def oZ (m:Nat) (self70:Q4):Nat→List Dt→Int→Int→List Dt→Option (List Dt)
 |0,_,_,_,_=>none
 |M2+1,x0,x1,x2,x3=>
  (bif (decide (x2<x1)) then
  zm m self70 (oZ m self70 M2) x0 x1 x2 x3
 else
  zn m self70 x3)
noncomputable def zo (m:Nat) (self70:Q4) (x0:List Dt) (x1 x2:Int) (x3:List Dt):Option (List Dt):=
 oZ m self70 (Nat.succ m) x0 x1 x2 x3
noncomputable def zq (m:Nat) (self70:Q4) (x0:List Dt):Option (List Dt):=
 ((mkL (List.length x0:Int) (List.length x0:Int) Vp).bind fun v0=>
   zo m self70 x0 (List.length x0:Int) 0 v0)
mutual
noncomputable def i32:Nat→List Dt→Option (List Dt)
 |0,_=>none
 |m+1,a0=>
  (bif ((List.length a0:Int)==0) then
  some []
 else
  zk m (yD m) a0)
noncomputable def yD:Nat→Dt→Option Dt
  |0,_=>none
  |m+1,a0=>
   ((i32 m (Dt.L a0 3)).bind fun r0=>
   ((i69 m (Dt.L a0 4)).bind fun r1=>
 some (Dt.agg [(Dt.int (Dt.I a0 0)),(Dt.int (Dt.I a0 1)),(Dt.str (Dt.S a0 2)),(Dt.lst r0),(Dt.lst r1)])))
noncomputable def i69:Nat→List Dt→Option (List Dt)
 |0,_=>none
 |m+1,a0=>
  (bif ((List.length a0:Int)==0) then
  some []
 else
  zq m (yQ m) a0)
noncomputable def yQ:Nat→Dt→Option Dt
 |0,_=>none
 |m+1,a0=>
  ((yD m (Dt.fld a0 1)).bind fun r0=>
  some (Dt.agg [(Dt.str (Dt.S a0 0)),r0]))
end
noncomputable def zu (m:Nat) (self25:Q4) (rec2:Q3) (x0:List Dt) (x1 x2:Int) (x3:List Dt):Option (List Dt):=
 rec2 x0 x1 (IntKind.wrap .i64 (x2+1)) x3
noncomputable def zw (m:Nat) (self25:Q4) (rec2:Q3) (x0:List Dt) (x1 x2:Int) (x3:List Dt):Option (List Dt):=
  ((idx x0 x2).bind fun v1=>
    ((self25 v1).bind fun r2=>
 ((inL x3 x2).bind fun v3=>
 ((x3[(Int.toNat x2)]?).bind fun v4=>
 zu m self25 rec2 x0 x1 x2 (List.set x3 (Int.toNat x2) r2)))))
noncomputable def zx (m:Nat) (self25:Q4) (x0:List Dt):Option (List Dt):=
 some x0
noncomputable def o7 (m:Nat) (self25:Q4):Nat→List Dt→Int→Int→List Dt→Option (List Dt)
 |0,_,_,_,_=>none
 |M2+1,x0,x1,x2,x3=>
  (bif (decide (x2<x1)) then
  zw m self25 (o7 m self25 M2) x0 x1 x2 x3
 else
  zx m self25 x3)
noncomputable def zy (m:Nat) (self25:Q4) (x0:List Dt) (x1 x2:Int) (x3:List Dt):Option (List Dt):=
 o7 m self25 (Nat.succ m) x0 x1 x2 x3
noncomputable def Aa (m:Nat) (self25:Q4) (x0:List Dt):Option (List Dt):=
 ((mkL (List.length x0:Int) (List.length x0:Int) vQ).bind fun v0=>
   zy m self25 x0 (List.length x0:Int) 0 v0)
mutual
noncomputable def z7:Nat→Dt→Option Dt
  |0,_=>none
  |m+1,a0=>
   ((zW m (Dt.L a0 1)).bind fun r0=>
   ((zW m (Dt.L a0 3)).bind fun r1=>
 ((yD m (Dt.fld a0 4)).bind fun r2=>
 ((i68 m (Dt.L a0 6)).bind fun r3=>
 some (Dt.agg [(Dt.int (Dt.I a0 0)),(Dt.lst r0),(Dt.str (Dt.S a0 2)),(Dt.lst r1),r2,(Dt.int (Dt.I a0 5)),(Dt.lst r3)])))))
noncomputable def i68:Nat→List Dt→Option (List Dt)
 |0,_=>none
 |m+1,a0=>
  (bif ((List.length a0:Int)==0) then
  some []
 else
  Aa m (z7 m) a0)
end
noncomputable def yX:Nat→Dt→Option Dt
  |0,_=>none
  |m+1,a0=>
   ((zW m (Dt.L a0 0)).bind fun r0=>
   ((z7 m (Dt.fld a0 1)).bind fun r1=>
 some (Dt.agg [(Dt.lst r0),r1])))
noncomputable def Ab (m:Nat) (rec2:Q3) (x0:List Dt) (x1 x2:Int) (x3:List Dt):Option (List Dt):=
 rec2 x0 x1 (IntKind.wrap .i64 (x2+1)) x3
noncomputable def Ac (m:Nat) (rec2:Q3) (x0:List Dt) (x1 x2:Int) (x3:List Dt):Option (List Dt):=
  ((idx x0 x2).bind fun v1=>
    ((yX m v1).bind fun r2=>
 ((inL x3 x2).bind fun v3=>
 ((x3[(Int.toNat x2)]?).bind fun v4=>
 Ab m rec2 x0 x1 x2 (List.set x3 (Int.toNat x2) r2)))))
noncomputable def Ad (m:Nat) (x0:List Dt):Option (List Dt):=
 some x0
noncomputable def o8 (m:Nat):Nat→List Dt→Int→Int→List Dt→Option (List Dt)
 |0,_,_,_,_=>none
 |M2+1,x0,x1,x2,x3=>
  (bif (decide (x2<x1)) then
  Ac m (o8 m M2) x0 x1 x2 x3
 else
  Ad m x3)
noncomputable def Ae (m:Nat) (x0:List Dt) (x1 x2:Int) (x3:List Dt):Option (List Dt):=
 o8 m (Nat.succ m) x0 x1 x2 x3
noncomputable def Af (m:Nat) (x0:List Dt):Option (List Dt):=
 ((mkL (List.length x0:Int) (List.length x0:Int) Vq).bind fun v0=>
   Ae m x0 (List.length x0:Int) 0 v0)
noncomputable def i22:Nat→List Dt→Option (List Dt)
 |0,_=>none
 |m+1,a0=>
  (bif ((List.length a0:Int)==0) then
  some []
 else
  Af m a0)
noncomputable def vC:Nat→Dt→Option Dt
  |0,_=>none
  |m+1,a0=>
   ((z7 m (Dt.fld a0 2)).bind fun r0=>
   ((i12 m (Dt.L a0 3)).bind fun r1=>
 some (Dt.agg [(Dt.str (Dt.S a0 0)),(Dt.int (Dt.I a0 1)),r0,(Dt.lst r1),(Dt.int (Dt.I a0 4))])))
noncomputable def Ag (m:Nat) (rec2:Q3) (x0:List Dt) (x1 x2:Int) (x3:List Dt):Option (List Dt):=
 rec2 x0 x1 (IntKind.wrap .i64 (x2+1)) x3
noncomputable def Ah (m:Nat) (rec2:Q3) (x0:List Dt) (x1 x2:Int) (x3:List Dt):Option (List Dt):=
  ((idx x0 x2).bind fun v1=>
    ((vC m v1).bind fun r2=>
 ((inL x3 x2).bind fun v3=>
 ((x3[(Int.toNat x2)]?).bind fun v4=>
 Ag m rec2 x0 x1 x2 (List.set x3 (Int.toNat x2) r2)))))
noncomputable def Ai (m:Nat) (x0:List Dt):Option (List Dt):=
 some x0
noncomputable def o9 (m:Nat):Nat→List Dt→Int→Int→List Dt→Option (List Dt)
 |0,_,_,_,_=>none
 |M2+1,x0,x1,x2,x3=>
  (bif (decide (x2<x1)) then
  Ah m (o9 m M2) x0 x1 x2 x3
 else
  Ai m x3)
noncomputable def Aj (m:Nat) (x0:List Dt) (x1 x2:Int) (x3:List Dt):Option (List Dt):=
 o9 m (Nat.succ m) x0 x1 x2 x3
noncomputable def Ak (m:Nat) (x0:List Dt):Option (List Dt):=
 ((mkL (List.length x0:Int) (List.length x0:Int) Vr).bind fun v0=>
   Aj m x0 (List.length x0:Int) 0 v0)
noncomputable def i26:Nat→List Dt→Option (List Dt)
 |0,_=>none
 |m+1,a0=>
  (bif ((List.length a0:Int)==0) then
  some []
 else
  Ak m a0)
noncomputable def vD:Nat→Dt→Option Dt
 |0,_=>none
 |m+1,a0=>
  ((z7 m (Dt.fld a0 2)).bind fun r0=>
  some (Dt.agg [(Dt.str (Dt.S a0 0)),(Dt.int (Dt.I a0 1)),r0,(Dt.int (Dt.I a0 3)),(Dt.int (Dt.I a0 4)),(Dt.bool (Dt.B a0 5))]))
noncomputable def Al (m:Nat) (rec2:Q3) (x0:List Dt) (x1 x2:Int) (x3:List Dt):Option (List Dt):=
 rec2 x0 x1 (IntKind.wrap .i64 (x2+1)) x3
noncomputable def Ao (m:Nat) (rec2:Q3) (x0:List Dt) (x1 x2:Int) (x3:List Dt):Option (List Dt):=
  ((idx x0 x2).bind fun v1=>
    ((vD m v1).bind fun r2=>
 ((inL x3 x2).bind fun v3=>
 ((x3[(Int.toNat x2)]?).bind fun v4=>
 Al m rec2 x0 x1 x2 (List.set x3 (Int.toNat x2) r2)))))
noncomputable def Ap (m:Nat) (x0:List Dt):Option (List Dt):=
 some x0
noncomputable def pq (m:Nat):Nat→List Dt→Int→Int→List Dt→Option (List Dt)
 |0,_,_,_,_=>none
 |M2+1,x0,x1,x2,x3=>
  (bif (decide (x2<x1)) then
  Ao m (pq m M2) x0 x1 x2 x3
 else
  Ap m x3)
noncomputable def Aq (m:Nat) (x0:List Dt) (x1 x2:Int) (x3:List Dt):Option (List Dt):=
 pq m (Nat.succ m) x0 x1 x2 x3
noncomputable def Ar (m:Nat) (x0:List Dt):Option (List Dt):=
 ((mkL (List.length x0:Int) (List.length x0:Int) Vs).bind fun v0=>
   Aq m x0 (List.length x0:Int) 0 v0)
noncomputable def i28:Nat→List Dt→Option (List Dt)
 |0,_=>none
 |m+1,a0=>
  (bif ((List.length a0:Int)==0) then
  some []
 else
  Ar m a0)
noncomputable def Au (m:Nat) (rec2:Q3) (x0:List Dt) (x1 x2:Int) (x3:List Dt):Option (List Dt):=
 rec2 x0 x1 (IntKind.wrap .i64 (x2+1)) x3
noncomputable def Av (m:Nat) (rec2:Q3) (x0:List Dt) (x1 x2:Int) (x3:List Dt):Option (List Dt):=
  ((idx x0 x2).bind fun v1=>
    ((zW m (Dt.toLst v1)).bind fun r2=>
 ((inL x3 x2).bind fun v3=>
 ((x3[(Int.toNat x2)]?).bind fun v4=>
 Au m rec2 x0 x1 x2 (List.set x3 (Int.toNat x2) (Dt.lst r2))))))
noncomputable def Ay (m:Nat) (x0:List Dt):Option (List Dt):=
 some x0
noncomputable def pz (m:Nat):Nat→List Dt→Int→Int→List Dt→Option (List Dt)
 |0,_,_,_,_=>none
 |M2+1,x0,x1,x2,x3=>
  (bif (decide (x2<x1)) then
  Av m (pz m M2) x0 x1 x2 x3
 else
  Ay m x3)
noncomputable def Az (m:Nat) (x0:List Dt) (x1 x2:Int) (x3:List Dt):Option (List Dt):=
 pz m (Nat.succ m) x0 x1 x2 x3
noncomputable def AA (m:Nat) (x0:List Dt):Option (List Dt):=
 ((mkL (List.length x0:Int) (List.length x0:Int) (Dt.lst [])).bind fun v0=>
   Az m x0 (List.length x0:Int) 0 v0)
noncomputable def i34:Nat→List Dt→Option (List Dt)
 |0,_=>none
 |m+1,a0=>
  (bif ((List.length a0:Int)==0) then
  some []
 else
  AA m a0)
noncomputable def yY:Nat→Dt→Option Dt
 |0,_=>none
 |m+1,a0=>
  ((app [] (Dt.L a0 1)).bind fun v0=>
  some (Dt.agg [(Dt.int (Dt.I a0 0)),(Dt.lst v0),(Dt.int (Dt.I a0 2))]))
noncomputable def AB (m:Nat) (self20:Q4) (rec2:Q3) (x0:List Dt) (x1 x2:Int) (x3:List Dt):Option (List Dt):=
 rec2 x0 x1 (IntKind.wrap .i64 (x2+1)) x3
noncomputable def AJ (m:Nat) (self20:Q4) (rec2:Q3) (x0:List Dt) (x1 x2:Int) (x3:List Dt):Option (List Dt):=
  ((idx x0 x2).bind fun v1=>
    ((self20 v1).bind fun r2=>
 ((inL x3 x2).bind fun v3=>
 ((x3[(Int.toNat x2)]?).bind fun v4=>
 AB m self20 rec2 x0 x1 x2 (List.set x3 (Int.toNat x2) r2)))))
noncomputable def AL (m:Nat) (self20:Q4) (x0:List Dt):Option (List Dt):=
 some x0
noncomputable def pE (m:Nat) (self20:Q4):Nat→List Dt→Int→Int→List Dt→Option (List Dt)
 |0,_,_,_,_=>none
 |M2+1,x0,x1,x2,x3=>
  (bif (decide (x2<x1)) then
  AJ m self20 (pE m self20 M2) x0 x1 x2 x3
 else
  AL m self20 x3)
noncomputable def AO (m:Nat) (self20:Q4) (x0:List Dt) (x1 x2:Int) (x3:List Dt):Option (List Dt):=
 pE m self20 (Nat.succ m) x0 x1 x2 x3
noncomputable def AP (m:Nat) (self20:Q4) (x0:List Dt):Option (List Dt):=
 ((mkL (List.length x0:Int) (List.length x0:Int) vR).bind fun v0=>
   AO m self20 x0 (List.length x0:Int) 0 v0)
mutual
noncomputable def yH:Nat→Dt→Option Dt
  |0,_=>none
  |m+1,a0=>
   ((zW m (Dt.L a0 1)).bind fun r0=>
   ((yD m (Dt.fld a0 2)).bind fun r1=>
 ((i32 m (Dt.L a0 3)).bind fun r2=>
 ((yY m (Dt.fld a0 6)).bind fun r3=>
 ((z7 m (Dt.fld a0 7)).bind fun r4=>
 ((i65 m (Dt.L a0 8)).bind fun r5=>
 some (Dt.agg [(Dt.int (Dt.I a0 0)),(Dt.lst r0),r1,(Dt.lst r2),(Dt.int (Dt.I a0 4)),(Dt.int (Dt.I a0 5)),r3,r4,(Dt.lst r5)])))))))
noncomputable def i65:Nat→List Dt→Option (List Dt)
 |0,_=>none
 |m+1,a0=>
  (bif ((List.length a0:Int)==0) then
  some []
 else
  AP m (yH m) a0)
end
noncomputable def FI (m:Nat) (rec3:Q9) (x0:Int) (x1 x2:Dt):Option Bool:=
 rec3 (IntKind.wrap .i64 (x0+1)) x1 x2
noncomputable def FJ (m:Nat) (rec3:Q9) (x0:Int) (x1 x2:Dt):Option Bool:=
  ((idx (Dt.L x1 1) x0).bind fun v0=>
    ((idx (Dt.L x2 1) x0).bind fun v1=>
 (bif (Bool.not (Bool.and ((Dt.I v0 0)==(Dt.I v1 0)) ((Dt.I v0 1)==(Dt.I v1 1)))) then
 some false
 else
 FI m rec3 x0 x1 x2)))
noncomputable def FK (m:Nat):Option Bool:=
 some true
noncomputable def AQ (m:Nat):Nat→Int→Dt→Dt→Option Bool
 |0,_,_,_=>none
 |M3+1,x0,x1,x2=>
  (bif (decide (x0<(List.length (Dt.L x1 1):Int))) then
  FJ m (AQ m M3) x0 x1 x2
 else
  FK m)
noncomputable def FL (m:Nat) (x0:Int) (x1 x2:Dt):Option Bool:=
 AQ m (Nat.succ m) x0 x1 x2
noncomputable def FM (m:Nat) (x0 x1:Dt):Option Bool:=
 FL m 0 x0 x1
noncomputable def nM (m:Nat) (x0:Bool) (x1 x2:Dt):Option Bool:=
 (bif x0 then
  some false
 else
  FM m x1 x2)
noncomputable def qH:Nat→Dt→Dt→Option Bool
  |0,_,_=>none
  |m+1,a0,a1=>
   (bif ((Dt.I a0 0) !=(Dt.I a1 0)) then
   nM m true a0 a1
  else
   (bif ((Dt.I a0 2) !=(Dt.I a1 2)) then
 nM m true a0 a1
   else
 nM m ((List.length (Dt.L a0 1):Int) !=(List.length (Dt.L a1 1):Int)) a0 a1))
noncomputable def FN (m:Nat) (rec2:Q10) (x0 x1:List Dt) (x2:Int):Option Bool:=
 rec2 x0 x1 (IntKind.wrap .i64 (x2+1))
noncomputable def FP (m:Nat) (rec2:Q10) (x0 x1:List Dt) (x2:Int):Option Bool:=
  ((idx x0 x2).bind fun v0=>
    ((idx x1 x2).bind fun v1=>
 (bif (Bool.not ((ByteArray.toList (Dt.toStr v0))==(ByteArray.toList (Dt.toStr v1)))) then
 some false
 else
 FN m rec2 x0 x1 x2)))
noncomputable def MS (m:Nat):Option Bool:=
 some true
noncomputable def uM (m:Nat):Nat→List Dt→List Dt→Int→Option Bool
 |0,_,_,_=>none
 |M2+1,x0,x1,x2=>
  (bif (decide (x2<(List.length x0:Int))) then
  FP m (uM m M2) x0 x1 x2
 else
  MS m)
noncomputable def MU (m:Nat) (x0 x1:List Dt) (x2:Int):Option Bool:=
 uM m (Nat.succ m) x0 x1 x2
noncomputable def MV (m:Nat) (x0 x1:List Dt):Option Bool:=
 MU m x0 x1 0
noncomputable def zL:Nat→List Dt→List Dt→Option Bool
 |0,_,_=>none
 |m+1,a0,a1=>
  (bif (decide ((List.length a1:Int)<(List.length a0:Int))) then
  some false
 else
  MV m a0 a1)
noncomputable def yE:Nat→List Dt→List Dt→Option Bool
  |0,_,_=>none
  |m+1,a0,a1=>
   (bif ((List.length a0:Int)==(List.length a1:Int)) then
   ((zL m a0 a1).bind fun r0=>
 some r0)
  else
   some false)
noncomputable def MW (m:Nat) (rec2:Q10) (x0 x1:List Dt) (x2:Int):Option Bool:=
 rec2 x0 x1 (IntKind.wrap .i64 (x2+1))
noncomputable def FR (m:Nat) (rec2:Q10) (x0 x1:List Dt) (x2:Int) (x3:Bool):Option Bool:=
 (bif x3 then
  some false
 else
  MW m rec2 x0 x1 x2)
noncomputable def MX (m:Nat) (rec2:Q10) (x0 x1:List Dt) (x2:Int):Option Bool:=
  ((idx x0 x2).bind fun v0=>
    ((idx x1 x2).bind fun v1=>
 (bif (Bool.not ((Dt.B v0 1)==(Dt.B v1 1))) then
 FR m rec2 x0 x1 x2 true
 else
 ((idx x0 x2).bind fun v2=>
 ((idx x1 x2).bind fun v3=>
 ((yE m (Dt.L v2 0) (Dt.L v3 0)).bind fun r4=>
 FR m rec2 x0 x1 x2 (Bool.not r4)))))))
noncomputable def MZ (m:Nat):Option Bool:=
 some true
noncomputable def FT (m:Nat):Nat→List Dt→List Dt→Int→Option Bool
 |0,_,_,_=>none
 |M2+1,x0,x1,x2=>
  (bif (decide (x2<(List.length x0:Int))) then
  MX m (FT m M2) x0 x1 x2
 else
  MZ m)
noncomputable def M0 (m:Nat) (x0 x1:List Dt) (x2:Int):Option Bool:=
 FT m (Nat.succ m) x0 x1 x2
noncomputable def Na (m:Nat) (x0 x1:List Dt):Option Bool:=
 M0 m x0 x1 0
noncomputable def qP:Nat→List Dt→List Dt→Option Bool
 |0,_,_=>none
 |m+1,a0,a1=>
  (bif ((List.length a0:Int) !=(List.length a1:Int)) then
  some false
 else
  Na m a0 a1)
noncomputable def FU (m:Nat) (rec2:Q10) (x0 x1:List Dt) (x2:Int):Option Bool:=
 rec2 x0 x1 (IntKind.wrap .i64 (x2+1))
noncomputable def FV (m:Nat) (rec2:Q10) (x0 x1:List Dt) (x2:Int):Option Bool:=
  ((idx x0 x2).bind fun v0=>
    ((idx x1 x2).bind fun v1=>
 ((yE m (Dt.toLst v0) (Dt.toLst v1)).bind fun r2=>
 (bif (Bool.not r2) then
 some false
 else
 FU m rec2 x0 x1 x2))))
noncomputable def FW (m:Nat):Option Bool:=
 some true
noncomputable def AR (m:Nat):Nat→List Dt→List Dt→Int→Option Bool
 |0,_,_,_=>none
 |M2+1,x0,x1,x2=>
  (bif (decide (x2<(List.length x0:Int))) then
  FV m (AR m M2) x0 x1 x2
 else
  FW m)
noncomputable def FY (m:Nat) (x0 x1:List Dt) (x2:Int):Option Bool:=
 AR m (Nat.succ m) x0 x1 x2
noncomputable def FZ (m:Nat) (x0 x1:List Dt):Option Bool:=
 FY m x0 x1 0
noncomputable def zA:Nat→List Dt→List Dt→Option Bool
 |0,_,_=>none
 |m+1,a0,a1=>
  (bif ((List.length a0:Int) !=(List.length a1:Int)) then
  some false
 else
  FZ m a0 a1)
noncomputable def Nb (m:Nat) (rec2:Q10) (x0 x1:List Dt) (x2:Int):Option Bool:=
 rec2 x0 x1 (IntKind.wrap .i64 (x2+1))
noncomputable def F3 (m:Nat) (rec2:Q10) (x0 x1:List Dt) (x2:Int) (x3:Bool):Option Bool:=
 (bif x3 then
  some false
 else
  Nb m rec2 x0 x1 x2)
noncomputable def Nc (m:Nat) (rec2:Q10) (x0 x1:List Dt) (x2:Int):Option Bool:=
  ((idx x0 x2).bind fun v0=>
    ((idx x1 x2).bind fun v1=>
 (bif (Bool.not ((Dt.B v0 1)==(Dt.B v1 1))) then
 F3 m rec2 x0 x1 x2 true
 else
 ((idx x0 x2).bind fun v2=>
 ((idx x1 x2).bind fun v3=>
 ((yE m (Dt.L v2 0) (Dt.L v3 0)).bind fun r4=>
 F3 m rec2 x0 x1 x2 (Bool.not r4)))))))
noncomputable def Nf (m:Nat):Option Bool:=
 some true
noncomputable def F4 (m:Nat):Nat→List Dt→List Dt→Int→Option Bool
 |0,_,_,_=>none
 |M2+1,x0,x1,x2=>
  (bif (decide (x2<(List.length x0:Int))) then
  Nc m (F4 m M2) x0 x1 x2
 else
  Nf m)
noncomputable def Ng (m:Nat) (x0 x1:List Dt) (x2:Int):Option Bool:=
 F4 m (Nat.succ m) x0 x1 x2
noncomputable def Nh (m:Nat) (x0 x1:List Dt):Option Bool:=
 Ng m x0 x1 0
noncomputable def qK:Nat→List Dt→List Dt→Option Bool
 |0,_,_=>none
 |m+1,a0,a1=>
  (bif ((List.length a0:Int) !=(List.length a1:Int)) then
  some false
 else
  Nh m a0 a1)
noncomputable def ain (m:Nat) (rec1:Q37) (x0:Int) (x1:List Dt) (x2:Int):Option Bool:=
 rec1 x0 x1 (IntKind.wrap .i64 (x2+1))
noncomputable def aio (m:Nat) (rec1:Q37) (x0:Int) (x1:List Dt) (x2:Int):Option Bool:=
  ((idx x1 x2).bind fun v0=>
    (bif ((Dt.toInt v0)==x0) then
 some true
    else
 ain m rec1 x0 x1 x2))
noncomputable def awg (m:Nat):Option Bool:=
 some false
noncomputable def F5 (m:Nat):Nat→Int→List Dt→Int→Option Bool
 |0,_,_,_=>none
 |M1+1,x0,x1,x2=>
  (bif (decide (x2<(List.length x1:Int))) then
  aio m (F5 m M1) x0 x1 x2
 else
  awg m)
noncomputable def awh (m:Nat) (x0:Int) (x1:List Dt) (x2:Int):Option Bool:=
 F5 m (Nat.succ m) x0 x1 x2
noncomputable def zS:Nat→Int→List Dt→Option Bool
 |0,_,_=>none
 |m+1,a0,a1=>
  awh m a0 a1 0
noncomputable def yT:Nat→Dt→Option Bool
  |0,_=>none
  |m+1,a0=>
   (bif ((ByteArray.toList (Dt.S a0 0))==[]) then
   (bif ((List.length (Dt.L a0 1):Int)==0) then
 (bif ((Dt.I a0 2)==0) then
 some ((Dt.I a0 3)==0)
 else
 some false)
   else
 some false)
  else
   some false)
noncomputable def yF:Nat→Dt→Option Bool
  |0,_=>none
  |m+1,a0=>
   (bif ((ByteArray.toList (Dt.S a0 0))==[]) then
   (bif ((List.length (Dt.L a0 1):Int)==0) then
 (bif ((List.length (Dt.L a0 2):Int)==0) then
 (bif ((ByteArray.toList (Dt.S a0 3))==[]) then
 some ((List.length (Dt.L a0 4):Int)==0)
 else
 some false)
 else
 some false)
   else
 some false)
  else
   some false)
noncomputable def y5:Nat→Dt→Option Dt
 |0,_=>none
 |m+1,a0=>
  ((zW m (Dt.L a0 0)).bind fun r0=>
  some (Dt.agg [(Dt.lst r0),(Dt.int (Dt.I a0 1)),(Dt.int (Dt.I a0 2))]))
noncomputable def AU (m:Nat) (rec2:Q3) (x0:List Dt) (x1 x2:Int) (x3:List Dt):Option (List Dt):=
 rec2 x0 x1 (IntKind.wrap .i64 (x2+1)) x3
noncomputable def AX (m:Nat) (rec2:Q3) (x0:List Dt) (x1 x2:Int) (x3:List Dt):Option (List Dt):=
  ((idx x0 x2).bind fun v1=>
    ((y5 m v1).bind fun r2=>
 ((inL x3 x2).bind fun v3=>
 ((x3[(Int.toNat x2)]?).bind fun v4=>
 AU m rec2 x0 x1 x2 (List.set x3 (Int.toNat x2) r2)))))
noncomputable def AY (m:Nat) (x0:List Dt):Option (List Dt):=
 some x0
noncomputable def pF (m:Nat):Nat→List Dt→Int→Int→List Dt→Option (List Dt)
 |0,_,_,_,_=>none
 |M2+1,x0,x1,x2,x3=>
  (bif (decide (x2<x1)) then
  AX m (pF m M2) x0 x1 x2 x3
 else
  AY m x3)
noncomputable def AZ (m:Nat) (x0:List Dt) (x1 x2:Int) (x3:List Dt):Option (List Dt):=
 pF m (Nat.succ m) x0 x1 x2 x3
noncomputable def A8 (m:Nat) (x0:List Dt):Option (List Dt):=
 ((mkL (List.length x0:Int) (List.length x0:Int) Vt).bind fun v0=>
   AZ m x0 (List.length x0:Int) 0 v0)
noncomputable def i66:Nat→List Dt→Option (List Dt)
 |0,_=>none
 |m+1,a0=>
  (bif ((List.length a0:Int)==0) then
  some []
 else
  A8 m a0)
noncomputable def yZ:Nat→Dt→Option Dt
  |0,_=>none
  |m+1,a0=>
   ((i34 m (Dt.L a0 1)).bind fun r0=>
   ((i66 m (Dt.L a0 3)).bind fun r1=>
 ((i22 m (Dt.L a0 4)).bind fun r2=>
 some (Dt.agg [(Dt.bool (Dt.B a0 0)),(Dt.lst r0),(Dt.bool (Dt.B a0 2)),(Dt.lst r1),(Dt.lst r2)]))))
noncomputable def A9 (m:Nat) (self11:Q4) (rec2:Q3) (x0:List Dt) (x1 x2:Int) (x3:List Dt):Option (List Dt):=
 rec2 x0 x1 (IntKind.wrap .i64 (x2+1)) x3
noncomputable def Ba (m:Nat) (self11:Q4) (rec2:Q3) (x0:List Dt) (x1 x2:Int) (x3:List Dt):Option (List Dt):=
  ((idx x0 x2).bind fun v1=>
    ((self11 v1).bind fun r2=>
 ((inL x3 x2).bind fun v3=>
 ((x3[(Int.toNat x2)]?).bind fun v4=>
 A9 m self11 rec2 x0 x1 x2 (List.set x3 (Int.toNat x2) r2)))))
noncomputable def Bb (m:Nat) (self11:Q4) (x0:List Dt):Option (List Dt):=
 some x0
noncomputable def pG (m:Nat) (self11:Q4):Nat→List Dt→Int→Int→List Dt→Option (List Dt)
 |0,_,_,_,_=>none
 |M2+1,x0,x1,x2,x3=>
  (bif (decide (x2<x1)) then
  Ba m self11 (pG m self11 M2) x0 x1 x2 x3
 else
  Bb m self11 x3)
noncomputable def Bc (m:Nat) (self11:Q4) (x0:List Dt) (x1 x2:Int) (x3:List Dt):Option (List Dt):=
 pG m self11 (Nat.succ m) x0 x1 x2 x3
noncomputable def Bd (m:Nat) (self11:Q4) (x0:List Dt):Option (List Dt):=
 ((mkB (List.length x0:Int) (List.length x0:Int) Vu).bind fun v0=>
   Bc m self11 x0 (List.length x0:Int) 0 v0)
noncomputable def Bf (m:Nat) (self31:Q4) (rec2:Q3) (x0:List Dt) (x1 x2:Int) (x3:List Dt):Option (List Dt):=
 rec2 x0 x1 (IntKind.wrap .i64 (x2+1)) x3
noncomputable def Bg (m:Nat) (self31:Q4) (rec2:Q3) (x0:List Dt) (x1 x2:Int) (x3:List Dt):Option (List Dt):=
  ((idx x0 x2).bind fun v1=>
    ((self31 v1).bind fun r2=>
 ((inL x3 x2).bind fun v3=>
 ((x3[(Int.toNat x2)]?).bind fun v4=>
 Bf m self31 rec2 x0 x1 x2 (List.set x3 (Int.toNat x2) r2)))))
noncomputable def Bh (m:Nat) (self31:Q4) (x0:List Dt):Option (List Dt):=
 some x0
noncomputable def pI (m:Nat) (self31:Q4):Nat→List Dt→Int→Int→List Dt→Option (List Dt)
 |0,_,_,_,_=>none
 |M2+1,x0,x1,x2,x3=>
  (bif (decide (x2<x1)) then
  Bg m self31 (pI m self31 M2) x0 x1 x2 x3
 else
  Bh m self31 x3)
noncomputable def Bj (m:Nat) (self31:Q4) (x0:List Dt) (x1 x2:Int) (x3:List Dt):Option (List Dt):=
 pI m self31 (Nat.succ m) x0 x1 x2 x3
noncomputable def Bl (m:Nat) (self31:Q4) (x0:List Dt):Option (List Dt):=
 ((mkL (List.length x0:Int) (List.length x0:Int) Vv).bind fun v0=>
   Bj m self31 x0 (List.length x0:Int) 0 v0)
mutual
noncomputable def i10:Nat→List Dt→Option (List Dt)
 |0,_=>none
 |m+1,a0=>
  (bif ((List.length a0:Int)==0) then
  some []
 else
  Bd m (yJ m) a0)
noncomputable def yJ:Nat→Dt→Option Dt
  |0,_=>none
  |m+1,a0=>
   ((yH m (Dt.fld a0 1)).bind fun r0=>
   ((yZ m (Dt.fld a0 2)).bind fun r1=>
 ((i22 m (Dt.L a0 3)).bind fun r2=>
 ((i12 m (Dt.L a0 4)).bind fun r3=>
 ((zW m (Dt.L a0 6)).bind fun r4=>
 ((z7 m (Dt.fld a0 9)).bind fun r5=>
 ((z7 m (Dt.fld (Dt.fld a0 10) 0)).bind fun r6=>
 ((i26 m (Dt.L (Dt.fld a0 10) 1)).bind fun r7=>
 ((z7 m (Dt.fld (Dt.fld a0 11) 0)).bind fun r8=>
 ((i12 m (Dt.L (Dt.fld a0 11) 1)).bind fun r9=>
 ((i28 m (Dt.L (Dt.fld a0 11) 2)).bind fun r10=>
 ((zW m (Dt.L (Dt.fld a0 12) 1)).bind fun r11=>
 ((zW m (Dt.L (Dt.fld a0 12) 2)).bind fun r12=>
 ((i10 m (Dt.L (Dt.fld a0 12) 4)).bind fun r13=>
 ((i30 m (Dt.L a0 13)).bind fun r14=>
 ((i32 m (Dt.L a0 14)).bind fun r15=>
 ((i34 m (Dt.L (Dt.fld a0 15) 1)).bind fun r16=>
 ((yY m (Dt.fld a0 16)).bind fun r17=>
 some (Dt.agg [(Dt.int (Dt.I a0 0)),r0,r1,(Dt.lst r2),(Dt.lst r3),(Dt.int (Dt.I a0 5)),(Dt.lst r4),(Dt.str (Dt.S a0 7)),(Dt.bool (Dt.B a0 8)),r5,(Dt.agg [r6,(Dt.lst r7)]),(Dt.agg [r8,(Dt.lst r9),(Dt.lst r10)]),(Dt.agg [(Dt.str (Dt.S (Dt.fld a0 12) 0)),(Dt.lst r11),(Dt.lst r12),(Dt.str (Dt.S (Dt.fld a0 12) 3)),(Dt.lst r13)]),(Dt.lst r14),(Dt.lst r15),(Dt.agg [(Dt.str (Dt.S (Dt.fld a0 15) 0)),(Dt.lst r16),(Dt.int (Dt.I (Dt.fld a0 15) 2)),(Dt.int (Dt.I (Dt.fld a0 15) 3))]),r17])))))))))))))))))))
noncomputable def i30:Nat→List Dt→Option (List Dt)
 |0,_=>none
 |m+1,a0=>
  (bif ((List.length a0:Int)==0) then
  some []
 else
  Bl m (yM m) a0)
noncomputable def yM:Nat→Dt→Option Dt
 |0,_=>none
 |m+1,a0=>
  ((i10 m (Dt.L a0 1)).bind fun r0=>
  some (Dt.agg [(Dt.str (Dt.S a0 0)),(Dt.lst r0)]))
end
noncomputable def aip (m:Nat) (rec1:Q32) (x0:List Dt) (x1:Int):Option (List Dt×List Dt×List Dt):=
 rec1 x0 (IntKind.wrap .i64 (x1+1))
noncomputable def aiq (m:Nat) (x0 x1:List Dt):Option (List Dt×List Dt×List Dt):=
 some (x0,x1,[])
noncomputable def Ni (m:Nat) (x0 x1:List Dt) (x2:Bool):Option (List Dt×List Dt×List Dt):=
  (bif x2 then
   ((idx x1 0).bind fun v7=>
 ((i12 m (Dt.L v7 4)).bind fun r8=>
 some (x0,x1,r8)))
  else
   aiq m x0 x1)
noncomputable def F6 (m:Nat) (x0:List Dt) (x1:Int):Option (List Dt×List Dt×List Dt):=
  ((cutL x0 0 x1).bind fun v2=>
    ((i10 m v2).bind fun r3=>
 ((cutL x0 x1 (List.length x0:Int)).bind fun v4=>
 ((i10 m v4).bind fun r5=>
 (bif (decide (0<(List.length r5:Int))) then
 ((idx r5 0).bind fun v6=>
 Ni m r3 r5 ((Dt.I v6 0)==4))
 else
 Ni m r3 r5 false)))))
noncomputable def F7 (m:Nat):Nat→List Dt→Int→Option (List Dt×List Dt×List Dt)
  |0,_,_=>none
  |M1+1,x0,x1=>
   (bif (decide (x1<(List.length x0:Int))) then
   ((idx x0 x1).bind fun v0=>
 ((yI m (Dt.I v0 0)).bind fun r1=>
 (bif r1 then
 aip m (F7 m M1) x0 x1
 else
 F6 m x0 x1)))
  else
   F6 m x0 x1)
noncomputable def awi (m:Nat) (x0:List Dt) (x1:Int):Option (List Dt×List Dt×List Dt):=
 F7 m (Nat.succ m) x0 x1
noncomputable def zV:Nat→List Dt→Option (List Dt×List Dt×List Dt)
 |0,_=>none
 |m+1,a0=>
  awi m a0 0
noncomputable def jH (m:Nat) (self71:Q6) (rec3:Q9) (x0:Int) (x1 x2:Dt):Option Bool:=
 rec3 (IntKind.wrap .i64 (x0+1)) x1 x2
noncomputable def jI (m:Nat) (self71:Q6) (rec3:Q9) (x0:Int) (x1 x2:Dt):Option Bool:=
  ((idx (Dt.L x1 3) x0).bind fun v0=>
    ((idx (Dt.L x2 3) x0).bind fun v1=>
 ((self71 v0 v1).bind fun r2=>
 (bif (Bool.not r2) then
 some false
 else
 jH m self71 rec3 x0 x1 x2))))
noncomputable def fG (m:Nat) (self71:Q6) (rec8:Q9) (x0:Int) (x1 x2:Dt):Option Bool:=
 rec8 (IntKind.wrap .i64 (x0+1)) x1 x2
noncomputable def eP (m:Nat) (self71:Q6) (rec8:Q9) (x0:Int) (x1:Bool) (x2 x3:Dt):Option Bool:=
 (bif x1 then
  some false
 else
  fG m self71 rec8 x0 x2 x3)
noncomputable def jJ (m:Nat) (self71:Q6) (rec8:Q9) (x0:Int) (x1 x2:Dt):Option Bool:=
  ((idx (Dt.L x1 4) x0).bind fun v3=>
    ((idx (Dt.L x2 4) x0).bind fun v4=>
 (bif (Bool.not ((ByteArray.toList (Dt.S v3 0))==(ByteArray.toList (Dt.S v4 0)))) then
 eP m self71 rec8 x0 true x1 x2
 else
 ((idx (Dt.L x1 4) x0).bind fun v5=>
 ((idx (Dt.L x2 4) x0).bind fun v6=>
 ((self71 (Dt.fld v5 1) (Dt.fld v6 1)).bind fun r7=>
 eP m self71 rec8 x0 (Bool.not r7) x1 x2))))))
noncomputable def fH (m:Nat) (self71:Q6):Option Bool:=
 some true
noncomputable def qx (m:Nat) (self71:Q6):Nat→Int→Dt→Dt→Option Bool
 |0,_,_,_=>none
 |M8+1,x0,x1,x2=>
  (bif (decide (x0<(List.length (Dt.L x1 4):Int))) then
  jJ m self71 (qx m self71 M8) x0 x1 x2
 else
  fH m self71)
noncomputable def jK (m:Nat) (self71:Q6) (x0:Int) (x1 x2:Dt):Option Bool:=
 qx m self71 (Nat.succ m) x0 x1 x2
noncomputable def jL (m:Nat) (self71:Q6) (x0 x1:Dt):Option Bool:=
 jK m self71 0 x0 x1
noncomputable def uN (m:Nat) (self71:Q6):Nat→Int→Dt→Dt→Option Bool
 |0,_,_,_=>none
 |M3+1,x0,x1,x2=>
  (bif (decide (x0<(List.length (Dt.L x1 3):Int))) then
  jI m self71 (uN m self71 M3) x0 x1 x2
 else
  jL m self71 x1 x2)
noncomputable def jM (m:Nat) (self71:Q6) (x0:Int) (x1 x2:Dt):Option Bool:=
 uN m self71 (Nat.succ m) x0 x1 x2
noncomputable def jN (m:Nat) (self71:Q6) (x0 x1:Dt):Option Bool:=
 jM m self71 0 x0 x1
noncomputable def dH (m:Nat) (self71:Q6) (x0:Bool) (x1 x2:Dt):Option Bool:=
 (bif x0 then
  some false
 else
  jN m self71 x1 x2)
noncomputable def qA:Nat→Dt→Dt→Option Bool
  |0,_,_=>none
  |m+1,a0,a1=>
   (bif ((Dt.I a0 0) !=(Dt.I a1 0)) then
   dH m (qA m) true a0 a1
  else
   (bif ((Dt.I a0 1) !=(Dt.I a1 1)) then
 dH m (qA m) true a0 a1
   else
 (bif (Bool.not ((ByteArray.toList (Dt.S a0 2))==(ByteArray.toList (Dt.S a1 2)))) then
 dH m (qA m) true a0 a1
 else
 (bif ((List.length (Dt.L a0 3):Int) !=(List.length (Dt.L a1 3):Int)) then
 dH m (qA m) true a0 a1
 else
 dH m (qA m) ((List.length (Dt.L a0 4):Int) !=(List.length (Dt.L a1 4):Int)) a0 a1))))
noncomputable def y0:Nat→List Dt→List Dt→Option Bool
 |0,_,_=>none
 |m+1,a0,a1=>
  ((qA m (Dt.agg [(Dt.int 6),(Dt.int 0),(Dt.str (ByteArray.mk (List.toArray []))),(Dt.lst a0),(Dt.lst [])]) (Dt.agg [(Dt.int 6),(Dt.int 0),(Dt.str (ByteArray.mk (List.toArray []))),(Dt.lst a1),(Dt.lst [])])).bind fun r0=>
  some r0)
noncomputable def F8 (m:Nat) (self40:Q6) (rec3:Q9) (x0:Int) (x1 x2:Dt):Option Bool:=
 rec3 (IntKind.wrap .i64 (x0+1)) x1 x2
noncomputable def F9 (m:Nat) (self40:Q6) (rec3:Q9) (x0:Int) (x1 x2:Dt):Option Bool:=
  ((idx (Dt.L x1 6) x0).bind fun v0=>
    ((idx (Dt.L x2 6) x0).bind fun v1=>
 ((self40 v0 v1).bind fun r2=>
 (bif (Bool.not r2) then
 some false
 else
 F8 m self40 rec3 x0 x1 x2))))
noncomputable def Ga (m:Nat) (self40:Q6):Option Bool:=
 some true
noncomputable def uO (m:Nat) (self40:Q6):Nat→Int→Dt→Dt→Option Bool
 |0,_,_,_=>none
 |M3+1,x0,x1,x2=>
  (bif (decide (x0<(List.length (Dt.L x1 6):Int))) then
  F9 m self40 (uO m self40 M3) x0 x1 x2
 else
  Ga m self40)
noncomputable def Bn (m:Nat) (self40:Q6) (x0:Int) (x1 x2:Dt):Option Bool:=
 uO m self40 (Nat.succ m) x0 x1 x2
noncomputable def Bo (m:Nat) (self40:Q6) (x0 x1:Dt):Option Bool:=
 Bn m self40 0 x0 x1
noncomputable def dR (m:Nat) (self40:Q6) (x0:Bool) (x1 x2:Dt):Option Bool:=
 (bif x0 then
  some false
 else
  Bo m self40 x1 x2)
noncomputable def qC:Nat→Dt→Dt→Option Bool
  |0,_,_=>none
  |m+1,a0,a1=>
   (bif ((Dt.I a0 0) !=(Dt.I a1 0)) then
   dR m (qC m) true a0 a1
  else
   ((yE m (Dt.L a0 1) (Dt.L a1 1)).bind fun r3=>
 (bif (Bool.not r3) then
 dR m (qC m) true a0 a1
 else
 (bif (Bool.not ((ByteArray.toList (Dt.S a0 2))==(ByteArray.toList (Dt.S a1 2)))) then
 dR m (qC m) true a0 a1
 else
 ((yE m (Dt.L a0 3) (Dt.L a1 3)).bind fun r4=>
 (bif (Bool.not r4) then
 dR m (qC m) true a0 a1
 else
 ((qA m (Dt.fld a0 4) (Dt.fld a1 4)).bind fun r5=>
 (bif (Bool.not r5) then
 dR m (qC m) true a0 a1
 else
 (bif ((Dt.I a0 5) !=(Dt.I a1 5)) then
 dR m (qC m) true a0 a1
 else
 dR m (qC m) ((List.length (Dt.L a0 6):Int) !=(List.length (Dt.L a1 6):Int)) a0 a1)))))))))
noncomputable def Nj (m:Nat) (rec3:Q9) (x0:Int) (x1 x2:Dt):Option Bool:=
 rec3 (IntKind.wrap .i64 (x0+1)) x1 x2
noncomputable def qy (m:Nat) (rec3:Q9) (x0:Int) (x1:Bool) (x2 x3:Dt):Option Bool:=
 (bif x1 then
  some false
 else
  Nj m rec3 x0 x2 x3)
noncomputable def Nk (m:Nat) (rec3:Q9) (x0:Int) (x1 x2:Dt):Option Bool:=
  ((idx (Dt.L x1 1) x0).bind fun v1=>
    ((idx (Dt.L x2 1) x0).bind fun v2=>
 (bif (Bool.not ((ByteArray.toList (Dt.S v1 0))==(ByteArray.toList (Dt.S v2 0)))) then
 qy m rec3 x0 true x1 x2
 else
 (bif ((Dt.I v1 1) !=(Dt.I v2 1)) then
 qy m rec3 x0 true x1 x2
 else
 (bif ((Dt.I v1 4) !=(Dt.I v2 4)) then
 qy m rec3 x0 true x1 x2
 else
 ((qC m (Dt.fld v1 2) (Dt.fld v2 2)).bind fun r3=>
 (bif (Bool.not r3) then
 qy m rec3 x0 true x1 x2
 else
 ((qK m (Dt.L v1 3) (Dt.L v2 3)).bind fun r4=>
 qy m rec3 x0 (Bool.not r4) x1 x2))))))))
noncomputable def Nl (m:Nat):Option Bool:=
 some true
noncomputable def Gb (m:Nat):Nat→Int→Dt→Dt→Option Bool
 |0,_,_,_=>none
 |M3+1,x0,x1,x2=>
  (bif (decide (x0<(List.length (Dt.L x1 1):Int))) then
  Nk m (Gb m M3) x0 x1 x2
 else
  Nl m)
noncomputable def Nn (m:Nat) (x0:Int) (x1 x2:Dt):Option Bool:=
 Gb m (Nat.succ m) x0 x1 x2
noncomputable def Np (m:Nat) (x0 x1:Dt):Option Bool:=
 Nn m 0 x0 x1
noncomputable def Gc (m:Nat) (x0:Bool) (x1 x2:Dt):Option Bool:=
 (bif x0 then
  some false
 else
  Np m x1 x2)
noncomputable def qR:Nat→Dt→Dt→Option Bool
  |0,_,_=>none
  |m+1,a0,a1=>
   ((qC m (Dt.fld a0 0) (Dt.fld a1 0)).bind fun r0=>
   (bif (Bool.not r0) then
 Gc m true a0 a1
   else
 Gc m ((List.length (Dt.L a0 1):Int) !=(List.length (Dt.L a1 1):Int)) a0 a1))
noncomputable def Nq (m:Nat) (rec3:Q9) (x0:Int) (x1 x2:Dt):Option Bool:=
 rec3 (IntKind.wrap .i64 (x0+1)) x1 x2
noncomputable def nN (m:Nat) (rec3:Q9) (x0:Int) (x1:Bool) (x2 x3:Dt):Option Bool:=
 (bif x1 then
  some false
 else
  Nq m rec3 x0 x2 x3)
noncomputable def Nr (m:Nat) (rec3:Q9) (x0:Int) (x1 x2:Dt):Option Bool:=
  ((idx (Dt.L x1 2) x0).bind fun v1=>
    ((idx (Dt.L x2 2) x0).bind fun v2=>
 (bif (Bool.not ((ByteArray.toList (Dt.S v1 0))==(ByteArray.toList (Dt.S v2 0)))) then
 nN m rec3 x0 true x1 x2
 else
 (bif ((Dt.I v1 1) !=(Dt.I v2 1)) then
 nN m rec3 x0 true x1 x2
 else
 (bif ((Dt.I v1 3) !=(Dt.I v2 3)) then
 nN m rec3 x0 true x1 x2
 else
 (bif ((Dt.I v1 4) !=(Dt.I v2 4)) then
 nN m rec3 x0 true x1 x2
 else
 (bif (Bool.not ((Dt.B v1 5)==(Dt.B v2 5))) then
 nN m rec3 x0 true x1 x2
 else
 ((qC m (Dt.fld v1 2) (Dt.fld v2 2)).bind fun r3=>
 nN m rec3 x0 (Bool.not r3) x1 x2))))))))
noncomputable def Ns (m:Nat):Option Bool:=
 some true
noncomputable def Gd (m:Nat):Nat→Int→Dt→Dt→Option Bool
 |0,_,_,_=>none
 |M3+1,x0,x1,x2=>
  (bif (decide (x0<(List.length (Dt.L x1 2):Int))) then
  Nr m (Gd m M3) x0 x1 x2
 else
  Ns m)
noncomputable def Nt (m:Nat) (x0:Int) (x1 x2:Dt):Option Bool:=
 Gd m (Nat.succ m) x0 x1 x2
noncomputable def Nu (m:Nat) (x0 x1:Dt):Option Bool:=
 Nt m 0 x0 x1
noncomputable def Bp (m:Nat) (x0:Bool) (x1 x2:Dt):Option Bool:=
 (bif x0 then
  some false
 else
  Nu m x1 x2)
noncomputable def qJ:Nat→Dt→Dt→Option Bool
  |0,_,_=>none
  |m+1,a0,a1=>
   ((qC m (Dt.fld a0 0) (Dt.fld a1 0)).bind fun r0=>
   (bif (Bool.not r0) then
 Bp m true a0 a1
   else
 ((qK m (Dt.L a0 1) (Dt.L a1 1)).bind fun r4=>
 (bif (Bool.not r4) then
 Bp m true a0 a1
 else
 Bp m ((List.length (Dt.L a0 2):Int) !=(List.length (Dt.L a1 2):Int)) a0 a1))))
noncomputable def Gf (m:Nat) (self43:Q6) (rec2:Q9) (x0:Int) (x1 x2:Dt):Option Bool:=
 rec2 (IntKind.wrap .i64 (x0+1)) x1 x2
noncomputable def Gg (m:Nat) (self43:Q6) (rec2:Q9) (x0:Int) (x1 x2:Dt):Option Bool:=
  ((idx (Dt.L x1 8) x0).bind fun v5=>
    ((idx (Dt.L x2 8) x0).bind fun v6=>
 ((self43 v5 v6).bind fun r7=>
 (bif (Bool.not r7) then
 some false
 else
 Gf m self43 rec2 x0 x1 x2))))
noncomputable def Gh (m:Nat) (self43:Q6):Option Bool:=
 some true
noncomputable def Bq (m:Nat) (self43:Q6):Nat→Int→Dt→Dt→Option Bool
 |0,_,_,_=>none
 |M2+1,x0,x1,x2=>
  (bif (decide (x0<(List.length (Dt.L x1 8):Int))) then
  Gg m self43 (Bq m self43 M2) x0 x1 x2
 else
  Gh m self43)
noncomputable def Gi (m:Nat) (self43:Q6) (x0:Int) (x1 x2:Dt):Option Bool:=
 Bq m self43 (Nat.succ m) x0 x1 x2
noncomputable def Gj (m:Nat) (self43:Q6) (x0 x1:Dt):Option Bool:=
 Gi m self43 0 x0 x1
noncomputable def qU:Nat→Dt→Dt→Option Bool
  |0,_,_=>none
  |m+1,a0,a1=>
   (bif ((Dt.I a0 0) !=(Dt.I a1 0)) then
   some false
  else
   ((yE m (Dt.L a0 1) (Dt.L a1 1)).bind fun r0=>
 (bif (Bool.not r0) then
 some false
 else
 ((qA m (Dt.fld a0 2) (Dt.fld a1 2)).bind fun r1=>
 (bif (Bool.not r1) then
 some false
 else
 ((y0 m (Dt.L a0 3) (Dt.L a1 3)).bind fun r2=>
 (bif (Bool.not r2) then
 some false
 else
 (bif ((Dt.I a0 4) !=(Dt.I a1 4)) then
 some false
 else
 (bif ((Dt.I a0 5) !=(Dt.I a1 5)) then
 some false
 else
 ((qH m (Dt.fld a0 6) (Dt.fld a1 6)).bind fun r3=>
 (bif (Bool.not r3) then
 some false
 else
 ((qC m (Dt.fld a0 7) (Dt.fld a1 7)).bind fun r4=>
 (bif (Bool.not r4) then
 some false
 else
 (bif ((List.length (Dt.L a0 8):Int) !=(List.length (Dt.L a1 8):Int)) then
 some false
 else
 Gj m (qU m) a0 a1))))))))))))))
noncomputable def yS:Nat→Dt→Option Bool
 |0,_=>none
 |m+1,a0=>
  ((qC m a0 vQ).bind fun r0=>
  some r0)
noncomputable def y8:Nat→Dt→Option Bool
  |0,_=>none
  |m+1,a0=>
   ((yS m (Dt.fld a0 0)).bind fun r0=>
   (bif r0 then
 some ((List.length (Dt.L a0 1):Int)==0)
   else
 some false))
noncomputable def yU:Nat→Dt→Option Bool
  |0,_=>none
  |m+1,a0=>
   ((yS m (Dt.fld a0 0)).bind fun r0=>
   (bif r0 then
 (bif ((List.length (Dt.L a0 1):Int)==0) then
 some ((List.length (Dt.L a0 2):Int)==0)
 else
 some false)
   else
 some false))
noncomputable def Gl (m:Nat) (rec2:Q10) (x0 x1:List Dt) (x2:Int):Option Bool:=
 rec2 x0 x1 (IntKind.wrap .i64 (x2+1))
noncomputable def Br (m:Nat) (rec2:Q10) (x0 x1:List Dt) (x2:Int) (x3:Bool):Option Bool:=
 (bif x3 then
  some false
 else
  Gl m rec2 x0 x1 x2)
noncomputable def Gm (m:Nat) (rec2:Q10) (x0 x1:List Dt) (x2:Int):Option Bool:=
  ((idx x0 x2).bind fun v0=>
    ((idx x1 x2).bind fun v1=>
 ((yE m (Dt.L v0 0) (Dt.L v1 0)).bind fun r2=>
 (bif (Bool.not r2) then
 Br m rec2 x0 x1 x2 true
 else
 ((idx x0 x2).bind fun v3=>
 ((idx x1 x2).bind fun v4=>
 ((qC m (Dt.fld v3 1) (Dt.fld v4 1)).bind fun r5=>
 Br m rec2 x0 x1 x2 (Bool.not r5))))))))
noncomputable def Gn (m:Nat):Option Bool:=
 some true
noncomputable def Bt (m:Nat):Nat→List Dt→List Dt→Int→Option Bool
 |0,_,_,_=>none
 |M2+1,x0,x1,x2=>
  (bif (decide (x2<(List.length x0:Int))) then
  Gm m (Bt m M2) x0 x1 x2
 else
  Gn m)
noncomputable def Gp (m:Nat) (x0 x1:List Dt) (x2:Int):Option Bool:=
 Bt m (Nat.succ m) x0 x1 x2
noncomputable def Gq (m:Nat) (x0 x1:List Dt):Option Bool:=
 Gp m x0 x1 0
noncomputable def qI:Nat→List Dt→List Dt→Option Bool
 |0,_,_=>none
 |m+1,a0,a1=>
  (bif ((List.length a0:Int) !=(List.length a1:Int)) then
  some false
 else
  Gq m a0 a1)
noncomputable def Bu (m:Nat) (rec3:Q9) (x0:Int) (x1 x2:Dt):Option Bool:=
 rec3 (IntKind.wrap .i64 (x0+1)) x1 x2
noncomputable def qz (m:Nat) (rec3:Q9) (x0:Int) (x1:Bool) (x2 x3:Dt):Option Bool:=
 (bif x1 then
  some false
 else
  Bu m rec3 x0 x2 x3)
noncomputable def Bv (m:Nat) (rec3:Q9) (x0:Int) (x1 x2:Dt):Option Bool:=
  ((idx (Dt.L x1 3) x0).bind fun v0=>
    ((idx (Dt.L x2 3) x0).bind fun v1=>
 (bif ((Dt.I v0 1) !=(Dt.I v1 1)) then
 qz m rec3 x0 true x1 x2
 else
 (bif ((Dt.I v0 2) !=(Dt.I v1 2)) then
 qz m rec3 x0 true x1 x2
 else
 ((yE m (Dt.L v0 0) (Dt.L v1 0)).bind fun r2=>
 qz m rec3 x0 (Bool.not r2) x1 x2)))))
noncomputable def Bw (m:Nat) (x0 x1:Dt):Option Bool:=
 ((qI m (Dt.L x0 4) (Dt.L x1 4)).bind fun r3=>
   some r3)
noncomputable def Bz (m:Nat):Nat→Int→Dt→Dt→Option Bool
 |0,_,_,_=>none
 |M3+1,x0,x1,x2=>
  (bif (decide (x0<(List.length (Dt.L x1 3):Int))) then
  Bv m (Bz m M3) x0 x1 x2
 else
  Bw m x1 x2)
noncomputable def BD (m:Nat) (x0:Int) (x1 x2:Dt):Option Bool:=
 Bz m (Nat.succ m) x0 x1 x2
noncomputable def BF (m:Nat) (x0 x1:Dt):Option Bool:=
 BD m 0 x0 x1
noncomputable def jO (m:Nat) (x0:Bool) (x1 x2:Dt):Option Bool:=
 (bif x0 then
  some false
 else
  BF m x1 x2)
noncomputable def qB:Nat→Dt→Dt→Option Bool
  |0,_,_=>none
  |m+1,a0,a1=>
   (bif (Bool.not ((Dt.B a0 0)==(Dt.B a1 0))) then
   jO m true a0 a1
  else
   (bif (Bool.not ((Dt.B a0 2)==(Dt.B a1 2))) then
 jO m true a0 a1
   else
 ((zA m (Dt.L a0 1) (Dt.L a1 1)).bind fun r4=>
 (bif (Bool.not r4) then
 jO m true a0 a1
 else
 jO m ((List.length (Dt.L a0 3):Int) !=(List.length (Dt.L a1 3):Int)) a0 a1))))
noncomputable def Vx (m:Nat) (x0:Dt):Option Bool:=
  (bif ((Dt.I x0 0) !=11) then
   (bif (decide (0<(List.length (Dt.L x0 13):Int))) then
 some true
   else
 (bif ((Dt.I x0 0) !=12) then
 (bif (decide (0<(List.length (Dt.L x0 14):Int))) then
 some true
 else
 (bif ((Dt.I x0 0) !=18) then
 ((yT m (Dt.fld x0 15)).bind fun r4=>
 (bif (Bool.not r4) then
 some true
 else
 (bif ((Dt.I x0 0) !=17) then
 ((qH m (Dt.fld x0 16) bR).bind fun r5=>
 some (Bool.not r5))
 else
 some false)))
 else
 (bif ((Dt.I x0 0) !=17) then
 ((qH m (Dt.fld x0 16) bR).bind fun r6=>
 some (Bool.not r6))
 else
 some false)))
 else
 (bif ((Dt.I x0 0) !=18) then
 ((yT m (Dt.fld x0 15)).bind fun r7=>
 (bif (Bool.not r7) then
 some true
 else
 (bif ((Dt.I x0 0) !=17) then
 ((qH m (Dt.fld x0 16) bR).bind fun r8=>
 some (Bool.not r8))
 else
 some false)))
 else
 (bif ((Dt.I x0 0) !=17) then
 ((qH m (Dt.fld x0 16) bR).bind fun r9=>
 some (Bool.not r9))
 else
 some false))))
  else
   (bif ((Dt.I x0 0) !=12) then
 (bif (decide (0<(List.length (Dt.L x0 14):Int))) then
 some true
 else
 (bif ((Dt.I x0 0) !=18) then
 ((yT m (Dt.fld x0 15)).bind fun r10=>
 (bif (Bool.not r10) then
 some true
 else
 (bif ((Dt.I x0 0) !=17) then
 ((qH m (Dt.fld x0 16) bR).bind fun r11=>
 some (Bool.not r11))
 else
 some false)))
 else
 (bif ((Dt.I x0 0) !=17) then
 ((qH m (Dt.fld x0 16) bR).bind fun r12=>
 some (Bool.not r12))
 else
 some false)))
   else
 (bif ((Dt.I x0 0) !=18) then
 ((yT m (Dt.fld x0 15)).bind fun r13=>
 (bif (Bool.not r13) then
 some true
 else
 (bif ((Dt.I x0 0) !=17) then
 ((qH m (Dt.fld x0 16) bR).bind fun r14=>
 some (Bool.not r14))
 else
 some false)))
 else
 (bif ((Dt.I x0 0) !=17) then
 ((qH m (Dt.fld x0 16) bR).bind fun r15=>
 some (Bool.not r15))
 else
 some false))))
noncomputable def bX (m:Nat) (x0:Bool) (x1:Dt):Option Bool:=
 (bif x0 then
  some true
 else
  Vx m x1)
noncomputable def Vy (m:Nat) (x0:Dt):Option Bool:=
  ((zS m (Dt.I x0 0) [(Dt.int 12),(Dt.int 14),(Dt.int 16)]).bind fun r2=>
    (bif (Bool.not r2) then
 ((yS m (Dt.fld x0 9)).bind fun r3=>
 (bif (Bool.not r3) then
 bX m true x0
 else
 (bif ((Dt.I x0 0) !=8) then
 ((y8 m (Dt.fld x0 10)).bind fun r16=>
 (bif (Bool.not r16) then
 bX m true x0
 else
 (bif ((Dt.I x0 0) !=9) then
 ((yU m (Dt.fld x0 11)).bind fun r17=>
 (bif (Bool.not r17) then
 bX m true x0
 else
 ((zS m (Dt.I x0 0) [(Dt.int 10),(Dt.int 15)]).bind fun r18=>
 (bif (Bool.not r18) then
 ((yF m (Dt.fld x0 12)).bind fun r19=>
 bX m (Bool.not r19) x0)
 else
 bX m false x0))))
 else
 ((zS m (Dt.I x0 0) [(Dt.int 10),(Dt.int 15)]).bind fun r20=>
 (bif (Bool.not r20) then
 ((yF m (Dt.fld x0 12)).bind fun r21=>
 bX m (Bool.not r21) x0)
 else
 bX m false x0)))))
 else
 (bif ((Dt.I x0 0) !=9) then
 ((yU m (Dt.fld x0 11)).bind fun r22=>
 (bif (Bool.not r22) then
 bX m true x0
 else
 ((zS m (Dt.I x0 0) [(Dt.int 10),(Dt.int 15)]).bind fun r23=>
 (bif (Bool.not r23) then
 ((yF m (Dt.fld x0 12)).bind fun r24=>
 bX m (Bool.not r24) x0)
 else
 bX m false x0))))
 else
 ((zS m (Dt.I x0 0) [(Dt.int 10),(Dt.int 15)]).bind fun r25=>
 (bif (Bool.not r25) then
 ((yF m (Dt.fld x0 12)).bind fun r26=>
 bX m (Bool.not r26) x0)
 else
 bX m false x0))))))
    else
 (bif ((Dt.I x0 0) !=8) then
 ((y8 m (Dt.fld x0 10)).bind fun r27=>
 (bif (Bool.not r27) then
 bX m true x0
 else
 (bif ((Dt.I x0 0) !=9) then
 ((yU m (Dt.fld x0 11)).bind fun r28=>
 (bif (Bool.not r28) then
 bX m true x0
 else
 ((zS m (Dt.I x0 0) [(Dt.int 10),(Dt.int 15)]).bind fun r29=>
 (bif (Bool.not r29) then
 ((yF m (Dt.fld x0 12)).bind fun r30=>
 bX m (Bool.not r30) x0)
 else
 bX m false x0))))
 else
 ((zS m (Dt.I x0 0) [(Dt.int 10),(Dt.int 15)]).bind fun r31=>
 (bif (Bool.not r31) then
 ((yF m (Dt.fld x0 12)).bind fun r32=>
 bX m (Bool.not r32) x0)
 else
 bX m false x0)))))
 else
 (bif ((Dt.I x0 0) !=9) then
 ((yU m (Dt.fld x0 11)).bind fun r33=>
 (bif (Bool.not r33) then
 bX m true x0
 else
 ((zS m (Dt.I x0 0) [(Dt.int 10),(Dt.int 15)]).bind fun r34=>
 (bif (Bool.not r34) then
 ((yF m (Dt.fld x0 12)).bind fun r35=>
 bX m (Bool.not r35) x0)
 else
 bX m false x0))))
 else
 ((zS m (Dt.I x0 0) [(Dt.int 10),(Dt.int 15)]).bind fun r36=>
 (bif (Bool.not r36) then
 ((yF m (Dt.fld x0 12)).bind fun r37=>
 bX m (Bool.not r37) x0)
 else
 bX m false x0))))))
noncomputable def bY (m:Nat) (x0:Bool) (x1:Dt):Option Bool:=
 (bif x0 then
  some true
 else
  Vy m x1)
noncomputable def Vz (m:Nat) (x0:Dt):Option Bool:=
  ((zS m (Dt.I x0 0) [(Dt.int 5),(Dt.int 6)]).bind fun r1=>
    (bif (Bool.not r1) then
 (bif ((Dt.I x0 5) !=0) then
 bY m true x0
 else
 ((zS m (Dt.I x0 0) [(Dt.int 7),(Dt.int 17)]).bind fun r38=>
 (bif (Bool.not r38) then
 (bif (decide (0<(List.length (Dt.L x0 6):Int))) then
 bY m true x0
 else
 ((zS m (Dt.I x0 0) [(Dt.int 7),(Dt.int 13),(Dt.int 17)]).bind fun r39=>
 (bif (Bool.not r39) then
 (bif (Bool.not ((ByteArray.toList (Dt.S x0 7))==[])) then
 bY m true x0
 else
 (bif ((Dt.I x0 0) !=7) then
 bY m (Dt.B x0 8) x0
 else
 bY m false x0))
 else
 (bif ((Dt.I x0 0) !=7) then
 bY m (Dt.B x0 8) x0
 else
 bY m false x0))))
 else
 ((zS m (Dt.I x0 0) [(Dt.int 7),(Dt.int 13),(Dt.int 17)]).bind fun r40=>
 (bif (Bool.not r40) then
 (bif (Bool.not ((ByteArray.toList (Dt.S x0 7))==[])) then
 bY m true x0
 else
 (bif ((Dt.I x0 0) !=7) then
 bY m (Dt.B x0 8) x0
 else
 bY m false x0))
 else
 (bif ((Dt.I x0 0) !=7) then
 bY m (Dt.B x0 8) x0
 else
 bY m false x0))))))
    else
 ((zS m (Dt.I x0 0) [(Dt.int 7),(Dt.int 17)]).bind fun r41=>
 (bif (Bool.not r41) then
 (bif (decide (0<(List.length (Dt.L x0 6):Int))) then
 bY m true x0
 else
 ((zS m (Dt.I x0 0) [(Dt.int 7),(Dt.int 13),(Dt.int 17)]).bind fun r42=>
 (bif (Bool.not r42) then
 (bif (Bool.not ((ByteArray.toList (Dt.S x0 7))==[])) then
 bY m true x0
 else
 (bif ((Dt.I x0 0) !=7) then
 bY m (Dt.B x0 8) x0
 else
 bY m false x0))
 else
 (bif ((Dt.I x0 0) !=7) then
 bY m (Dt.B x0 8) x0
 else
 bY m false x0))))
 else
 ((zS m (Dt.I x0 0) [(Dt.int 7),(Dt.int 13),(Dt.int 17)]).bind fun r43=>
 (bif (Bool.not r43) then
 (bif (Bool.not ((ByteArray.toList (Dt.S x0 7))==[])) then
 bY m true x0
 else
 (bif ((Dt.I x0 0) !=7) then
 bY m (Dt.B x0 8) x0
 else
 bY m false x0))
 else
 (bif ((Dt.I x0 0) !=7) then
 bY m (Dt.B x0 8) x0
 else
 bY m false x0)))))))
noncomputable def bZ (m:Nat) (x0:Bool) (x1:Dt):Option Bool:=
 (bif x0 then
  some true
 else
  Vz m x1)
noncomputable def qO:Nat→Dt→Option Bool
  |0,_=>none
  |m+1,a0=>
   (bif ((Dt.I a0 0) !=1) then
   ((qU m (Dt.fld a0 1) vR).bind fun r0=>
 (bif (Bool.not r0) then
 bZ m true a0
 else
 (bif ((Dt.I a0 0) !=2) then
 ((qB m (Dt.fld a0 2) vS).bind fun r44=>
 (bif (Bool.not r44) then
 bZ m true a0
 else
 (bif ((Dt.I a0 0) !=3) then
 (bif (decide (0<(List.length (Dt.L a0 3):Int))) then
 bZ m true a0
 else
 (bif ((Dt.I a0 0) !=4) then
 bZ m (decide (0<(List.length (Dt.L a0 4):Int))) a0
 else
 bZ m false a0))
 else
 (bif ((Dt.I a0 0) !=4) then
 bZ m (decide (0<(List.length (Dt.L a0 4):Int))) a0
 else
 bZ m false a0))))
 else
 (bif ((Dt.I a0 0) !=3) then
 (bif (decide (0<(List.length (Dt.L a0 3):Int))) then
 bZ m true a0
 else
 (bif ((Dt.I a0 0) !=4) then
 bZ m (decide (0<(List.length (Dt.L a0 4):Int))) a0
 else
 bZ m false a0))
 else
 (bif ((Dt.I a0 0) !=4) then
 bZ m (decide (0<(List.length (Dt.L a0 4):Int))) a0
 else
 bZ m false a0)))))
  else
   (bif ((Dt.I a0 0) !=2) then
 ((qB m (Dt.fld a0 2) vS).bind fun r45=>
 (bif (Bool.not r45) then
 bZ m true a0
 else
 (bif ((Dt.I a0 0) !=3) then
 (bif (decide (0<(List.length (Dt.L a0 3):Int))) then
 bZ m true a0
 else
 (bif ((Dt.I a0 0) !=4) then
 bZ m (decide (0<(List.length (Dt.L a0 4):Int))) a0
 else
 bZ m false a0))
 else
 (bif ((Dt.I a0 0) !=4) then
 bZ m (decide (0<(List.length (Dt.L a0 4):Int))) a0
 else
 bZ m false a0))))
   else
 (bif ((Dt.I a0 0) !=3) then
 (bif (decide (0<(List.length (Dt.L a0 3):Int))) then
 bZ m true a0
 else
 (bif ((Dt.I a0 0) !=4) then
 bZ m (decide (0<(List.length (Dt.L a0 4):Int))) a0
 else
 bZ m false a0))
 else
 (bif ((Dt.I a0 0) !=4) then
 bZ m (decide (0<(List.length (Dt.L a0 4):Int))) a0
 else
 bZ m false a0))))
noncomputable def vG:Nat→List Dt→List Dt→Option Bool
 |0,_,_=>none
 |m+1,a0,a1=>
  ((qB m (Dt.agg [(Dt.bool false),(Dt.lst []),(Dt.bool false),(Dt.lst []),(Dt.lst a0)]) (Dt.agg [(Dt.bool false),(Dt.lst []),(Dt.bool false),(Dt.lst []),(Dt.lst a1)])).bind fun r0=>
  some r0)
noncomputable def Nv (m:Nat) (self15:Q6) (rec2:Q10) (x0 x1:List Dt) (x2:Int):Option Bool:=
 rec2 x0 x1 (IntKind.wrap .i64 (x2+1))
noncomputable def Nw (m:Nat) (self15:Q6) (rec2:Q10) (x0 x1:List Dt) (x2:Int):Option Bool:=
  ((idx x0 x2).bind fun v0=>
    ((idx x1 x2).bind fun v1=>
 ((self15 v0 v1).bind fun r2=>
 (bif (Bool.not r2) then
 some false
 else
 Nv m self15 rec2 x0 x1 x2))))
noncomputable def Ny (m:Nat) (self15:Q6):Option Bool:=
 some true
noncomputable def Gr (m:Nat) (self15:Q6):Nat→List Dt→List Dt→Int→Option Bool
 |0,_,_,_=>none
 |M2+1,x0,x1,x2=>
  (bif (decide (x2<(List.length x0:Int))) then
  Nw m self15 (Gr m self15 M2) x0 x1 x2
 else
  Ny m self15)
noncomputable def Nz (m:Nat) (self15:Q6) (x0 x1:List Dt) (x2:Int):Option Bool:=
 Gr m self15 (Nat.succ m) x0 x1 x2
noncomputable def NA (m:Nat) (self15:Q6) (x0 x1:List Dt):Option Bool:=
 Nz m self15 x0 x1 0
noncomputable def air (m:Nat) (self5:Q14) (self39:Q14) (x0 x1:Dt):Option Bool:=
  ((y0 m (Dt.L x0 14) (Dt.L x1 14)).bind fun r0=>
    (bif r0 then
 (bif ((ByteArray.toList (Dt.S (Dt.fld x0 15) 0))==(ByteArray.toList (Dt.S (Dt.fld x1 15) 0))) then
 ((zA m (Dt.L (Dt.fld x0 15) 1) (Dt.L (Dt.fld x1 15) 1)).bind fun r1=>
 (bif r1 then
 (bif ((Dt.I (Dt.fld x0 15) 2)==(Dt.I (Dt.fld x1 15) 2)) then
 (bif ((Dt.I (Dt.fld x0 15) 3)==(Dt.I (Dt.fld x1 15) 3)) then
 ((qH m (Dt.fld x0 16) (Dt.fld x1 16)).bind fun r2=>
 some r2)
 else
 some false)
 else
 some false)
 else
 some false))
 else
 some false)
    else
 some false))
noncomputable def uP (m:Nat) (self5:Q14) (self39:Q14) (x0:Bool) (x1 x2:Dt):Option Bool:=
 (bif x0 then
  some false
 else
  air m self5 self39 x1 x2)
noncomputable def ais (m:Nat) (self5:Q14) (self39:Q14) (x0 x1:Dt):Option Bool:=
  (bif (Bool.not ((ByteArray.toList (Dt.S (Dt.fld x0 12) 0))==(ByteArray.toList (Dt.S (Dt.fld x1 12) 0)))) then
   uP m self5 self39 true x0 x1
  else
   ((yE m (Dt.L (Dt.fld x0 12) 1) (Dt.L (Dt.fld x1 12) 1)).bind fun r3=>
 (bif (Bool.not r3) then
 uP m self5 self39 true x0 x1
 else
 ((yE m (Dt.L (Dt.fld x0 12) 2) (Dt.L (Dt.fld x1 12) 2)).bind fun r4=>
 (bif (Bool.not r4) then
 uP m self5 self39 true x0 x1
 else
 (bif (Bool.not ((ByteArray.toList (Dt.S (Dt.fld x0 12) 3))==(ByteArray.toList (Dt.S (Dt.fld x1 12) 3)))) then
 uP m self5 self39 true x0 x1
 else
 ((self5 (Dt.L (Dt.fld x0 12) 4) (Dt.L (Dt.fld x1 12) 4)).bind fun r5=>
 (bif (Bool.not r5) then
 uP m self5 self39 true x0 x1
 else
 ((self39 (Dt.L x0 13) (Dt.L x1 13)).bind fun r6=>
 uP m self5 self39 (Bool.not r6) x0 x1)))))))))
noncomputable def ru (m:Nat) (self5:Q14) (self39:Q14) (x0:Bool) (x1 x2:Dt):Option Bool:=
 (bif x0 then
  some false
 else
  ais m self5 self39 x1 x2)
noncomputable def ait (m:Nat) (self5:Q14) (self39:Q14) (x0 x1:Dt):Option Bool:=
  (bif ((Dt.I x0 5) !=(Dt.I x1 5)) then
   ru m self5 self39 true x0 x1
  else
   ((yE m (Dt.L x0 6) (Dt.L x1 6)).bind fun r7=>
 (bif (Bool.not r7) then
 ru m self5 self39 true x0 x1
 else
 (bif (Bool.not ((ByteArray.toList (Dt.S x0 7))==(ByteArray.toList (Dt.S x1 7)))) then
 ru m self5 self39 true x0 x1
 else
 (bif (Bool.not ((Dt.B x0 8)==(Dt.B x1 8))) then
 ru m self5 self39 true x0 x1
 else
 ((qC m (Dt.fld x0 9) (Dt.fld x1 9)).bind fun r8=>
 (bif (Bool.not r8) then
 ru m self5 self39 true x0 x1
 else
 ((qR m (Dt.fld x0 10) (Dt.fld x1 10)).bind fun r9=>
 (bif (Bool.not r9) then
 ru m self5 self39 true x0 x1
 else
 ((qJ m (Dt.fld x0 11) (Dt.fld x1 11)).bind fun r10=>
 ru m self5 self39 (Bool.not r10) x0 x1))))))))))
noncomputable def BG (m:Nat) (self5:Q14) (self39:Q14) (x0:Bool) (x1 x2:Dt):Option Bool:=
 (bif x0 then
  some false
 else
  ait m self5 self39 x1 x2)
noncomputable def NC (m:Nat) (self5:Q14) (rec2:Q10) (x0 x1:List Dt) (x2:Int):Option Bool:=
 rec2 x0 x1 (IntKind.wrap .i64 (x2+1))
noncomputable def Gs (m:Nat) (self5:Q14) (rec2:Q10) (x0 x1:List Dt) (x2:Int) (x3:Bool):Option Bool:=
 (bif x3 then
  some false
 else
  NC m self5 rec2 x0 x1 x2)
noncomputable def ND (m:Nat) (self5:Q14) (rec2:Q10) (x0 x1:List Dt) (x2:Int):Option Bool:=
  ((idx x0 x2).bind fun v0=>
    ((idx x1 x2).bind fun v1=>
 (bif (Bool.not ((ByteArray.toList (Dt.S v0 0))==(ByteArray.toList (Dt.S v1 0)))) then
 Gs m self5 rec2 x0 x1 x2 true
 else
 ((idx x0 x2).bind fun v2=>
 ((idx x1 x2).bind fun v3=>
 ((self5 (Dt.L v2 1) (Dt.L v3 1)).bind fun r4=>
 Gs m self5 rec2 x0 x1 x2 (Bool.not r4)))))))
noncomputable def NG (m:Nat) (self5:Q14):Option Bool:=
 some true
noncomputable def Gt (m:Nat) (self5:Q14):Nat→List Dt→List Dt→Int→Option Bool
 |0,_,_,_=>none
 |M2+1,x0,x1,x2=>
  (bif (decide (x2<(List.length x0:Int))) then
  ND m self5 (Gt m self5 M2) x0 x1 x2
 else
  NG m self5)
noncomputable def NH (m:Nat) (self5:Q14) (x0 x1:List Dt) (x2:Int):Option Bool:=
 Gt m self5 (Nat.succ m) x0 x1 x2
noncomputable def NI (m:Nat) (self5:Q14) (x0 x1:List Dt):Option Bool:=
 NH m self5 x0 x1 0
mutual
noncomputable def zN:Nat→List Dt→List Dt→Option Bool
 |0,_,_=>none
 |m+1,a0,a1=>
  (bif ((List.length a0:Int) !=(List.length a1:Int)) then
  some false
 else
  NA m (qY m) a0 a1)
noncomputable def qY:Nat→Dt→Dt→Option Bool
  |0,_,_=>none
  |m+1,a0,a1=>
   (bif ((Dt.I a0 0) !=(Dt.I a1 0)) then
   BG m (zN m) (qN m) true a0 a1
  else
   ((qU m (Dt.fld a0 1) (Dt.fld a1 1)).bind fun r11=>
 (bif (Bool.not r11) then
 BG m (zN m) (qN m) true a0 a1
 else
 ((qB m (Dt.fld a0 2) (Dt.fld a1 2)).bind fun r12=>
 (bif (Bool.not r12) then
 BG m (zN m) (qN m) true a0 a1
 else
 ((vG m (Dt.L a0 3) (Dt.L a1 3)).bind fun r13=>
 (bif (Bool.not r13) then
 BG m (zN m) (qN m) true a0 a1
 else
 ((qK m (Dt.L a0 4) (Dt.L a1 4)).bind fun r14=>
 BG m (zN m) (qN m) (Bool.not r14) a0 a1))))))))
noncomputable def qN:Nat→List Dt→List Dt→Option Bool
 |0,_,_=>none
 |m+1,a0,a1=>
  (bif ((List.length a0:Int) !=(List.length a1:Int)) then
  some false
 else
  NI m (zN m) a0 a1)
end
noncomputable def aiu (m:Nat) (self73:Q25) (rec3:Q38) (x0 x1 x2:Int) (x3:Dt):Option Int:=
 rec3 x0 x1 (IntKind.wrap .i64 (x2+1)) x3
noncomputable def aiv (m:Nat) (self73:Q25) (rec3:Q38) (x0 x1 x2:Int) (x3:Dt):Option Int:=
  ((idx (Dt.L x3 8) x2).bind fun v0=>
    ((self73 v0 (IntKind.wrap .i64 (x0-1)) x1).bind fun r1=>
 aiu m self73 rec3 x0 r1 x2 x3))
noncomputable def aiw (m:Nat) (self73:Q25) (x0:Int):Option Int:=
 some x0
noncomputable def Gu (m:Nat) (self73:Q25):Nat→Int→Int→Int→Dt→Option Int
  |0,_,_,_,_=>none
  |M3+1,x0,x1,x2,x3=>
   (bif (decide (x2<(List.length (Dt.L x3 8):Int))) then
   (bif (decide (0≤x1)) then
 aiv m self73 (Gu m self73 M3) x0 x1 x2 x3
   else
 aiw m self73 x1)
  else
   aiw m self73 x1)
noncomputable def awj (m:Nat) (self73:Q25) (x0 x1 x2:Int) (x3:Dt):Option Int:=
 Gu m self73 (Nat.succ m) x0 x1 x2 x3
noncomputable def awk (m:Nat) (self73:Q25) (x0 x1:Int) (x2:Dt):Option Int:=
 awj m self73 x0 (IntKind.wrap .i64 (x1-1)) 0 x2
noncomputable def NJ (m:Nat) (self73:Q25) (x0 x1:Int) (x2:Bool) (x3:Dt):Option Int:=
 (bif x2 then
  some (-1)
 else
  awk m self73 x0 x1 x3)
noncomputable def zT:Nat→Dt→Int→Int→Option Int
 |0,_,_,_=>none
 |m+1,a0,a1,a2=>
  (bif (a1==0) then
  NJ m (zT m) a1 a2 true a0
 else
  NJ m (zT m) a1 a2 (decide (a2≤0)) a0)
noncomputable def aix (m:Nat) (rec1:Q16) (x0:Int) (x1:Dt) (x2:List Dt):Option (List Dt):=
 rec1 (IntKind.wrap .i64 (x0+1)) x1 x2
noncomputable def aiy (m:Nat) (rec1:Q16) (x0:Int) (x1:Dt) (x2:List Dt):Option (List Dt):=
  ((idx (Dt.L x1 3) x0).bind fun v1=>
    ((app x2 [(Dt.lst (Dt.L v1 0))]).bind fun v2=>
 aix m rec1 x0 x1 v2))
noncomputable def aiz (m:Nat) (rec6:Q16) (x0:Int) (x1:Dt) (x2:List Dt):Option (List Dt):=
 rec6 (IntKind.wrap .i64 (x0+1)) x1 x2
noncomputable def aiA (m:Nat) (rec6:Q16) (x0:Int) (x1:Dt) (x2:List Dt):Option (List Dt):=
  ((idx (Dt.L x1 4) x0).bind fun v3=>
    ((app x2 [(Dt.lst (Dt.L v3 0))]).bind fun v4=>
 aiz m rec6 x0 x1 v4))
noncomputable def awl (m:Nat) (x0:List Dt):Option (List Dt):=
 some x0
noncomputable def Gv (m:Nat):Nat→Int→Dt→List Dt→Option (List Dt)
 |0,_,_,_=>none
 |M6+1,x0,x1,x2=>
  (bif (decide (x0<(List.length (Dt.L x1 4):Int))) then
  aiA m (Gv m M6) x0 x1 x2
 else
  awl m x2)
noncomputable def awm (m:Nat) (x0:Int) (x1:Dt) (x2:List Dt):Option (List Dt):=
 Gv m (Nat.succ m) x0 x1 x2
noncomputable def awn (m:Nat) (x0:Dt) (x1:List Dt):Option (List Dt):=
 awm m 0 x0 x1
noncomputable def Gw (m:Nat):Nat→Int→Dt→List Dt→Option (List Dt)
 |0,_,_,_=>none
 |M1+1,x0,x1,x2=>
  (bif (decide (x0<(List.length (Dt.L x1 3):Int))) then
  aiy m (Gw m M1) x0 x1 x2
 else
  awn m x1 x2)
noncomputable def awo (m:Nat) (x0:Int) (x1:Dt) (x2:List Dt):Option (List Dt):=
 Gw m (Nat.succ m) x0 x1 x2
noncomputable def zP:Nat→Dt→Option (List Dt)
 |0,_=>none
 |m+1,a0=>
  ((app [] (Dt.L a0 1)).bind fun v0=>
  awo m 0 a0 v0)
noncomputable def y7:Nat→List Dt→List Dt→Option Bool
  |0,_,_=>none
  |m+1,a0,a1=>
   ((zL m a0 a1).bind fun r0=>
   (bif r0 then
 some true
   else
 ((zL m a1 a0).bind fun r1=>
 some r1)))
noncomputable def BH (m:Nat) (rec3:Q15) (x0:ByteArray) (x1:Int):Option Bool:=
 rec3 x0 (IntKind.wrap .i64 (x1+1))
noncomputable def rz (m:Nat) (rec3:Q15) (x0:ByteArray) (x1:Int) (x2:Bool):Option Bool:=
 (bif x2 then
  some false
 else
  BH m rec3 x0 x1)
noncomputable def BI (m:Nat) (rec3:Q15) (x0:ByteArray) (x1:Int):Option Bool:=
  ((idxS x0 x1).bind fun v0=>
    (bif (decide (v0<33)) then
 rz m rec3 x0 x1 true
    else
 ((idxS x0 x1).bind fun v1=>
 (bif (decide (126<v1)) then
 rz m rec3 x0 x1 true
 else
 ((idxS x0 x1).bind fun v2=>
 rz m rec3 x0 x1 (v2==46))))))
noncomputable def BJ (m:Nat):Option Bool:=
 some true
noncomputable def BK (m:Nat):Nat→ByteArray→Int→Option Bool
 |0,_,_=>none
 |M3+1,x0,x1=>
  (bif (decide (x1<(ByteArray.size x0:Int))) then
  BI m (BK m M3) x0 x1
 else
  BJ m)
noncomputable def BL (m:Nat) (x0:ByteArray) (x1:Int):Option Bool:=
 BK m (Nat.succ m) x0 x1
noncomputable def BM (m:Nat) (x0:ByteArray):Option Bool:=
 BL m x0 0
noncomputable def rA (m:Nat) (x0:ByteArray) (x1:Bool):Option Bool:=
 (bif x1 then
  some false
 else
  BM m x0)
noncomputable def zE:Nat→ByteArray→Option Bool
  |0,_=>none
  |m+1,a0=>
   (bif (decide ((ByteArray.size a0:Int)<1)) then
   rA m a0 true
  else
   (bif (decide (32<(ByteArray.size a0:Int))) then
 rA m a0 true
   else
 ((idxS a0 0).bind fun v3=>
 rA m a0 (v3==36))))
noncomputable def NK (m:Nat) (rec3:Q21) (x0:List Dt) (x1:Int):Option Bool:=
 rec3 x0 (IntKind.wrap .i64 (x1+1))
noncomputable def NM (m:Nat) (rec3:Q21) (x0:List Dt) (x1:Int):Option Bool:=
  ((idx x0 x1).bind fun v0=>
    ((zE m (Dt.toStr v0)).bind fun r1=>
 (bif (Bool.not r1) then
 some false
 else
 NK m rec3 x0 x1)))
noncomputable def NN (m:Nat):Option Bool:=
 some true
noncomputable def BN (m:Nat):Nat→List Dt→Int→Option Bool
 |0,_,_=>none
 |M3+1,x0,x1=>
  (bif (decide (x1<(List.length x0:Int))) then
  NM m (BN m M3) x0 x1
 else
  NN m)
noncomputable def NP (m:Nat) (x0:List Dt) (x1:Int):Option Bool:=
 BN m (Nat.succ m) x0 x1
noncomputable def NQ (m:Nat) (x0:List Dt):Option Bool:=
 NP m x0 0
noncomputable def Gx (m:Nat) (x0:List Dt) (x1:Bool):Option Bool:=
 (bif x1 then
  some false
 else
  NQ m x0)
noncomputable def zC:Nat→List Dt→Option Bool
 |0,_=>none
 |m+1,a0=>
  (bif (decide ((List.length a0:Int)<1)) then
  Gx m a0 true
 else
  Gx m a0 (decide (16<(List.length a0:Int))))
noncomputable def I6 (m:Nat) (rec4:Q8) (rec8:Q28) (x0 x1:Int) (x2:Dt):Option Int:=
 rec8 x0 (IntKind.wrap .i64 (x1+1)) x2
noncomputable def VA (m:Nat) (rec4:Q8) (rec8:Q28) (x0 x1:Int) (x2:Dt):Option Int:=
  ((idx (Dt.L x2 1) x0).bind fun v3=>
    ((idx (Dt.L x2 1) x1).bind fun v4=>
 ((y7 m (Dt.toLst v3) (Dt.toLst v4)).bind fun r5=>
 (bif r5 then
 some 12
 else
 I6 m rec4 rec8 x0 x1 x2))))
noncomputable def I7 (m:Nat) (rec4:Q8) (x0:Int) (x1:Dt):Option Int:=
 rec4 (IntKind.wrap .i64 (x0+1)) x1
noncomputable def Gy (m:Nat) (rec4:Q8):Nat→Int→Int→Dt→Option Int
 |0,_,_,_=>none
 |M8+1,x0,x1,x2=>
  (bif (decide (x1<x0)) then
  VA m rec4 (Gy m rec4 M8) x0 x1 x2
 else
  I7 m rec4 x0 x2)
noncomputable def aiB (m:Nat) (rec4:Q8) (x0 x1:Int) (x2:Dt):Option Int:=
 Gy m rec4 (Nat.succ m) x0 x1 x2
noncomputable def aiC (m:Nat) (rec4:Q8) (x0:Int) (x1:Dt):Option Int:=
 aiB m rec4 x0 0 x1
noncomputable def VB (m:Nat) (rec4:Q8) (x0:Int) (x1:Dt):Option Int:=
  ((idx (Dt.L x1 1) x0).bind fun v1=>
    ((zC m (Dt.toLst v1)).bind fun r2=>
 (bif (Bool.not r2) then
 some 10
 else
 aiC m rec4 x0 x1)))
noncomputable def Rk (m:Nat):Option Int:=
 some 0
noncomputable def tN (m:Nat) (x0:Bool):Option Int:=
 (bif x0 then
  some 1
 else
  Rk m)
noncomputable def Rl (m:Nat) (x0:Dt):Option Int:=
  (bif (decide ((Dt.I x0 2)<1)) then
   tN m true
  else
   (bif (decide (4<(Dt.I x0 2))) then
 tN m true
   else
 (bif (decide ((Dt.I x0 3)<4)) then
 tN m true
 else
 tN m (decide (6<(Dt.I x0 3))))))
noncomputable def Gz (m:Nat):Nat→Int→Dt→Option Int
 |0,_,_=>none
 |M4+1,x0,x1=>
  (bif (decide (x0<(List.length (Dt.L x1 1):Int))) then
  VB m (Gz m M4) x0 x1
 else
  Rl m x1)
noncomputable def aiD (m:Nat) (x0:Int) (x1:Dt):Option Int:=
 Gz m (Nat.succ m) x0 x1
noncomputable def aiE (m:Nat) (x0:Dt):Option Int:=
 aiD m 0 x0
noncomputable def GA (m:Nat) (x0:Bool) (x1:Dt):Option Int:=
 (bif x0 then
  some 21
 else
  aiE m x1)
noncomputable def VD (m:Nat) (x0:Dt):Option Int:=
 (bif (decide ((List.length (Dt.L x0 1):Int)<1)) then
  GA m true x0
 else
  GA m (decide (8<(List.length (Dt.L x0 1):Int))) x0)
noncomputable def qQ:Nat→Dt→Option Int
  |0,_=>none
  |m+1,a0=>
   ((zE m (Dt.S a0 0)).bind fun r0=>
   (bif (Bool.not r0) then
 some 9
   else
 VD m a0))
noncomputable def yV:Nat→ByteArray→Option Bool
  |0,_=>none
  |m+1,a0=>
   ((zE m a0).bind fun r0=>
   (bif r0 then
 some (Bool.not ((ByteArray.toList a0)==[95,105,100]))
   else
 some false))
noncomputable def vB:Nat→Int→Option Bool
 |0,_=>none
 |m+1,a0=>
  (bif (decide (2≤a0)) then
  some (decide (a0≤19))
 else
  some false)
noncomputable def yP:Nat→Int→Option Bool
  |0,_=>none
  |m+1,a0=>
   (bif (a0==8) then
   some true
  else
   (bif (a0==9) then
 some true
   else
 some (a0==14)))
noncomputable def y1:Nat→Int→Option Bool
  |0,_=>none
  |m+1,a0=>
   (bif (a0==16) then
   some true
  else
   (bif (a0==17) then
 some true
   else
 some (a0==19)))
noncomputable def y6:Nat→Int→Option Bool
  |0,_=>none
  |m+1,a0=>
   (bif (decide (2≤a0)) then
   (bif (decide (a0≤7)) then
 some true
   else
 ((y1 m a0).bind fun r0=>
 some r0))
  else
   ((y1 m a0).bind fun r1=>
 some r1))
noncomputable def aiF (m:Nat) (x0:Dt):Option Bool:=
 some ((List.length (Dt.L x0 8):Int)==0)
noncomputable def NR (m:Nat) (x0:Bool) (x1:Dt):Option Bool:=
 (bif x0 then
  some (decide (0<(List.length (Dt.L x1 8):Int)))
 else
  aiF m x1)
noncomputable def VE (m:Nat) (x0:Int) (x1:Bool) (x2:Dt):Option Bool:=
  (bif x1 then
   some ((List.length (Dt.L x2 8):Int)==1)
  else
   (bif (x0==20) then
 NR m (x0==20) x2
   else
 (bif (x0==21) then
 NR m (x0==21) x2
 else
 NR m (x0==22) x2)))
noncomputable def yR:Nat→Dt→Option Bool
 |0,_=>none
 |m+1,a0=>
  (bif ((Dt.I a0 0)==15) then
  VE m (Dt.I a0 0) ((Dt.I a0 0)==15) a0
 else
  VE m (Dt.I a0 0) ((Dt.I a0 0)==23) a0)
noncomputable def aiG (m:Nat):Option Bool:=
 some true
noncomputable def yW:Nat→Dt→Option Bool
  |0,_=>none
  |m+1,a0=>
   (bif ((Dt.I a0 0)==10) then
   (bif ((Dt.I a0 4)==0) then
 some true
   else
 some ((Dt.I a0 4)==1))
  else
   (bif ((Dt.I a0 0)==11) then
 (bif (decide (1≤(Dt.I a0 4))) then
 some (decide ((Dt.I a0 4)≤11))
 else
 some false)
   else
 (bif ((Dt.I a0 0)==12) then
 (bif (decide (1≤(Dt.I a0 4))) then
 (bif (decide (0≤(Dt.I a0 5))) then
 some (decide ((Dt.I a0 5)<(Dt.I a0 4)))
 else
 some false)
 else
 some false)
 else
 (bif ((Dt.I a0 0)==13) then
 some (decide (0≤(Dt.I a0 4)))
 else
 aiG m))))
noncomputable def aiH (m:Nat) (rec2:Q10) (x0 x1:List Dt) (x2:Int):Option Bool:=
 rec2 x0 x1 (IntKind.wrap .i64 (x2+1))
noncomputable def aiI (m:Nat) (rec2:Q10) (x0 x1:List Dt) (x2:Int):Option Bool:=
  ((idx x0 x2).bind fun v0=>
    ((idx x1 x2).bind fun v1=>
 (bif (Bool.not ((ByteArray.toList (Dt.toStr v0))==(ByteArray.toList (Dt.toStr v1)))) then
 some false
 else
 aiH m rec2 x0 x1 x2)))
noncomputable def aiJ (m:Nat):Option Bool:=
 some true
noncomputable def GD (m:Nat):Nat→List Dt→List Dt→Int→Option Bool
 |0,_,_,_=>none
 |M2+1,x0,x1,x2=>
  (bif (decide (x2<(List.length x0:Int))) then
  aiI m (GD m M2) x0 x1 x2
 else
  aiJ m)
noncomputable def aiK (m:Nat) (x0 x1:List Dt) (x2:Int):Option Bool:=
 GD m (Nat.succ m) x0 x1 x2
noncomputable def aiL (m:Nat) (x0 x1:List Dt):Option Bool:=
 aiK m x0 x1 0
noncomputable def yC:Nat→List Dt→List Dt→Option Bool
 |0,_,_=>none
 |m+1,a0,a1=>
  (bif ((List.length a0:Int) !=(List.length a1:Int)) then
  some false
 else
  aiL m a0 a1)
noncomputable def aiM (m:Nat) (rec2:Q2) (rec6:Q29) (x0:List Dt) (x1 x2:Int):Option Int:=
 rec6 x0 x1 (IntKind.wrap .i64 (x2+1))
noncomputable def aiN (m:Nat) (rec2:Q2) (rec6:Q29) (x0:List Dt) (x1 x2:Int):Option Int:=
  ((idx x0 x1).bind fun v2=>
    ((idx x0 x2).bind fun v3=>
 ((yC m (Dt.L v2 0) (Dt.L v3 0)).bind fun r4=>
 (bif r4 then
 some 12
 else
 aiM m rec2 rec6 x0 x1 x2))))
noncomputable def aiO (m:Nat) (rec2:Q2) (x0:List Dt) (x1:Int):Option Int:=
 rec2 x0 (IntKind.wrap .i64 (x1+1))
noncomputable def GH (m:Nat) (rec2:Q2):Nat→List Dt→Int→Int→Option Int
 |0,_,_,_=>none
 |M6+1,x0,x1,x2=>
  (bif (decide (x2<x1)) then
  aiN m rec2 (GH m rec2 M6) x0 x1 x2
 else
  aiO m rec2 x0 x1)
noncomputable def aiP (m:Nat) (rec2:Q2) (x0:List Dt) (x1 x2:Int):Option Int:=
 GH m rec2 (Nat.succ m) x0 x1 x2
noncomputable def aiQ (m:Nat) (rec2:Q2) (x0:List Dt) (x1:Int):Option Int:=
 aiP m rec2 x0 x1 0
noncomputable def aiR (m:Nat) (rec2:Q2) (x0:List Dt) (x1:Int):Option Int:=
  ((idx x0 x1).bind fun v0=>
    ((zC m (Dt.L v0 0)).bind fun r1=>
 (bif (Bool.not r1) then
 some 10
 else
 aiQ m rec2 x0 x1)))
noncomputable def Rm (m:Nat):Option Int:=
 some 0
noncomputable def BO (m:Nat):Nat→List Dt→Int→Option Int
 |0,_,_=>none
 |M2+1,x0,x1=>
  (bif (decide (x1<(List.length x0:Int))) then
  aiR m (BO m M2) x0 x1
 else
  Rm m)
noncomputable def aiS (m:Nat) (x0:List Dt) (x1:Int):Option Int:=
 BO m (Nat.succ m) x0 x1
noncomputable def aiT (m:Nat) (x0:List Dt):Option Int:=
 aiS m x0 0
noncomputable def zG:Nat→List Dt→Option Int
 |0,_=>none
 |m+1,a0=>
  (bif (decide (8<(List.length a0:Int))) then
  some 2
 else
  aiT m a0)
noncomputable def aiU (m:Nat):Option Int:=
 some 0
noncomputable def aiV (m:Nat) (x0 x1:Int):Option Int:=
 (bif (decide (x1<x0)) then
  some 1
 else
  aiU m)
noncomputable def yO:Nat→Int→Int→Option Int
 |0,_,_=>none
 |m+1,a0,a1=>
  (bif (decide (a0<a1)) then
  some (-1)
 else
  aiV m a0 a1)
noncomputable def aiW (m:Nat) (rec1:Q39) (x0 x1:ByteArray) (x2:Int):Option Int:=
 rec1 x0 x1 (IntKind.wrap .i64 (x2+1))
noncomputable def aiX (m:Nat) (rec1:Q39) (x0 x1:ByteArray) (x2:Int):Option Int:=
  ((idxS x0 x2).bind fun v0=>
    ((idxS x1 x2).bind fun v1=>
 (bif (v0 !=v1) then
 ((idxS x0 x2).bind fun v2=>
 ((idxS x1 x2).bind fun v3=>
 ((yO m (IntKind.wrap .i64 v2) (IntKind.wrap .i64 v3)).bind fun r4=>
 some r4)))
 else
 aiW m rec1 x0 x1 x2)))
noncomputable def NS (m:Nat) (x0 x1:ByteArray):Option Int:=
 ((yO m (ByteArray.size x0:Int) (ByteArray.size x1:Int)).bind fun r5=>
   some r5)
noncomputable def GI (m:Nat):Nat→ByteArray→ByteArray→Int→Option Int
  |0,_,_,_=>none
  |M1+1,x0,x1,x2=>
   (bif (decide (x2<(ByteArray.size x0:Int))) then
   (bif (decide (x2<(ByteArray.size x1:Int))) then
 aiX m (GI m M1) x0 x1 x2
   else
 NS m x0 x1)
  else
   NS m x0 x1)
noncomputable def awp (m:Nat) (x0 x1:ByteArray) (x2:Int):Option Int:=
 GI m (Nat.succ m) x0 x1 x2
noncomputable def yA:Nat→ByteArray→ByteArray→Option Int
 |0,_,_=>none
 |m+1,a0,a1=>
  awp m a0 a1 0
noncomputable def aiY (m:Nat) (self85:Q17) (rec4:Q26) (x0:Int) (x1 x2:Dt):Option Int:=
 rec4 (IntKind.wrap .i64 (x0+1)) x1 x2
noncomputable def aiZ (m:Nat) (self85:Q17) (rec4:Q26) (x0:Int) (x1 x2:Dt):Option Int:=
  ((idx (Dt.L x1 3) x0).bind fun v3=>
    ((idx (Dt.L x2 3) x0).bind fun v4=>
 ((self85 v3 v4).bind fun r5=>
 (bif (r5 !=0) then
 some r5
 else
 aiY m self85 rec4 x0 x1 x2))))
noncomputable def NT (m:Nat) (self85:Q17) (x0 x1:Dt):Option Int:=
 ((yO m (List.length (Dt.L x0 3):Int) (List.length (Dt.L x1 3):Int)).bind fun r6=>
   some r6)
noncomputable def GJ (m:Nat) (self85:Q17):Nat→Int→Dt→Dt→Option Int
  |0,_,_,_=>none
  |M4+1,x0,x1,x2=>
   (bif (decide (x0<(List.length (Dt.L x1 3):Int))) then
   (bif (decide (x0<(List.length (Dt.L x2 3):Int))) then
 aiZ m self85 (GJ m self85 M4) x0 x1 x2
   else
 NT m self85 x1 x2)
  else
   NT m self85 x1 x2)
noncomputable def VF (m:Nat) (self85:Q17) (x0:Int) (x1 x2:Dt):Option Int:=
 GJ m self85 (Nat.succ m) x0 x1 x2
noncomputable def Rn (m:Nat) (self85:Q17) (rec9:Q26) (x0:Int) (x1 x2:Dt):Option Int:=
 rec9 (IntKind.wrap .i64 (x0+1)) x1 x2
noncomputable def I8 (m:Nat) (self85:Q17) (rec9:Q26) (x0 x1:Int) (x2 x3:Dt):Option Int:=
 (bif (x1 !=0) then
  some x1
 else
  Rn m self85 rec9 x0 x2 x3)
noncomputable def Ro (m:Nat) (self85:Q17) (rec9:Q26) (x0:Int) (x1 x2:Dt):Option Int:=
  ((idx (Dt.L x1 4) x0).bind fun v7=>
    ((idx (Dt.L x2 4) x0).bind fun v8=>
 ((yA m (Dt.S v7 0) (Dt.S v8 0)).bind fun r9=>
 (bif (r9==0) then
 ((idx (Dt.L x1 4) x0).bind fun v10=>
 ((idx (Dt.L x2 4) x0).bind fun v11=>
 ((self85 (Dt.fld v10 1) (Dt.fld v11 1)).bind fun r12=>
 I8 m self85 rec9 x0 r12 x1 x2)))
 else
 I8 m self85 rec9 x0 r9 x1 x2))))
noncomputable def BP (m:Nat) (self85:Q17) (x0 x1:Dt):Option Int:=
 ((yO m (List.length (Dt.L x0 4):Int) (List.length (Dt.L x1 4):Int)).bind fun r13=>
   some r13)
noncomputable def GK (m:Nat) (self85:Q17):Nat→Int→Dt→Dt→Option Int
  |0,_,_,_=>none
  |M9+1,x0,x1,x2=>
   (bif (decide (x0<(List.length (Dt.L x1 4):Int))) then
   (bif (decide (x0<(List.length (Dt.L x2 4):Int))) then
 Ro m self85 (GK m self85 M9) x0 x1 x2
   else
 BP m self85 x1 x2)
  else
   BP m self85 x1 x2)
noncomputable def VG (m:Nat) (self85:Q17) (x0:Int) (x1 x2:Dt):Option Int:=
 GK m self85 (Nat.succ m) x0 x1 x2
noncomputable def Rp (m:Nat) (self85:Q17):Option Int:=
 some 0
noncomputable def NU (m:Nat) (self85:Q17) (x0:Int) (x1:Bool) (x2 x3:Dt):Option Int:=
  (bif x1 then
   ((yA m (Dt.S x2 2) (Dt.S x3 2)).bind fun r2=>
 some r2)
  else
   (bif (x0==6) then
 VF m self85 0 x2 x3
   else
 (bif (x0==5) then
 VG m self85 0 x2 x3
 else
 Rp m self85)))
noncomputable def NV (m:Nat) (self85:Q17) (x0:Int) (x1:Bool) (x2 x3:Dt):Option Int:=
  (bif x1 then
   ((yO m (Dt.I x2 1) (Dt.I x3 1)).bind fun r1=>
 some r1)
  else
   (bif (x0==4) then
 NU m self85 x0 (x0==4) x2 x3
   else
 (bif (x0==7) then
 NU m self85 x0 (x0==7) x2 x3
 else
 NU m self85 x0 (x0==8) x2 x3)))
noncomputable def NW (m:Nat) (self85:Q17) (x0 x1:Dt):Option Int:=
  (bif ((Dt.I x0 0)==3) then
   NV m self85 (Dt.I x0 0) ((Dt.I x0 0)==3) x0 x1
  else
   (bif ((Dt.I x0 0)==9) then
 NV m self85 (Dt.I x0 0) ((Dt.I x0 0)==9) x0 x1
   else
 NV m self85 (Dt.I x0 0) ((Dt.I x0 0)==10) x0 x1))
noncomputable def qD:Nat→Dt→Dt→Option Int
  |0,_,_=>none
  |m+1,a0,a1=>
   (bif ((Dt.I a0 0) !=(Dt.I a1 0)) then
   ((yO m (Dt.I a0 0) (Dt.I a1 0)).bind fun r0=>
 some r0)
  else
   NW m (qD m) a0 a1)
noncomputable def vI:Nat→Int→Option Bool
 |0,_=>none
 |m+1,a0=>
  (bif (decide (0≤a0)) then
  some (decide (a0<65536))
 else
  some false)
noncomputable def vL:Nat→Dt→Option Bool
  |0,_=>none
  |m+1,a0=>
   ((vI m (Dt.I a0 0)).bind fun r0=>
   (bif r0 then
 ((vI m (Dt.I a0 1)).bind fun r1=>
 some r1)
   else
 some false))
noncomputable def ai0 (m:Nat) (rec2:Q28) (x0 x1:Int) (x2:Dt):Option Int:=
 rec2 x0 (IntKind.wrap .i64 (x1+1)) x2
noncomputable def ai1 (m:Nat) (rec2:Q28) (x0 x1:Int) (x2:Dt):Option Int:=
  ((idx (Dt.L x2 1) x1).bind fun v0=>
    ((vL m v0).bind fun r1=>
 (bif (Bool.not r1) then
 some 18
 else
 ai0 m rec2 x0 x1 x2)))
noncomputable def ai2 (m:Nat):Option Int:=
 some 18
noncomputable def bF (m:Nat) (x0:Bool):Option Int:=
 (bif x0 then
  some 0
 else
  ai2 m)
noncomputable def VH (m:Nat) (x0:Int) (x1:Dt):Option Int:=
  (bif ((Dt.I x1 0)==1) then
   (bif (x0==2) then
 (bif ((Dt.I x1 2)==0) then
 bF m true
 else
 (bif ((Dt.I x1 0)==2) then
 (bif (x0==1) then
 ((vI m (Dt.I x1 2)).bind fun r2=>
 (bif r2 then
 bF m true
 else
 (bif ((Dt.I x1 0)==3) then
 (bif (decide (3≤x0)) then
 bF m ((Dt.I x1 2)==0)
 else
 bF m false)
 else
 bF m false)))
 else
 (bif ((Dt.I x1 0)==3) then
 (bif (decide (3≤x0)) then
 bF m ((Dt.I x1 2)==0)
 else
 bF m false)
 else
 bF m false))
 else
 (bif ((Dt.I x1 0)==3) then
 (bif (decide (3≤x0)) then
 bF m ((Dt.I x1 2)==0)
 else
 bF m false)
 else
 bF m false)))
   else
 (bif ((Dt.I x1 0)==2) then
 (bif (x0==1) then
 ((vI m (Dt.I x1 2)).bind fun r3=>
 (bif r3 then
 bF m true
 else
 (bif ((Dt.I x1 0)==3) then
 (bif (decide (3≤x0)) then
 bF m ((Dt.I x1 2)==0)
 else
 bF m false)
 else
 bF m false)))
 else
 (bif ((Dt.I x1 0)==3) then
 (bif (decide (3≤x0)) then
 bF m ((Dt.I x1 2)==0)
 else
 bF m false)
 else
 bF m false))
 else
 (bif ((Dt.I x1 0)==3) then
 (bif (decide (3≤x0)) then
 bF m ((Dt.I x1 2)==0)
 else
 bF m false)
 else
 bF m false)))
  else
   (bif ((Dt.I x1 0)==2) then
 (bif (x0==1) then
 ((vI m (Dt.I x1 2)).bind fun r4=>
 (bif r4 then
 bF m true
 else
 (bif ((Dt.I x1 0)==3) then
 (bif (decide (3≤x0)) then
 bF m ((Dt.I x1 2)==0)
 else
 bF m false)
 else
 bF m false)))
 else
 (bif ((Dt.I x1 0)==3) then
 (bif (decide (3≤x0)) then
 bF m ((Dt.I x1 2)==0)
 else
 bF m false)
 else
 bF m false))
   else
 (bif ((Dt.I x1 0)==3) then
 (bif (decide (3≤x0)) then
 bF m ((Dt.I x1 2)==0)
 else
 bF m false)
 else
 bF m false)))
noncomputable def GL (m:Nat):Nat→Int→Int→Dt→Option Int
 |0,_,_,_=>none
 |M2+1,x0,x1,x2=>
  (bif (decide (x1<x0)) then
  ai1 m (GL m M2) x0 x1 x2
 else
  VH m x0 x2)
noncomputable def awq (m:Nat) (x0 x1:Int) (x2:Dt):Option Int:=
 GL m (Nat.succ m) x0 x1 x2
noncomputable def awr (m:Nat) (x0:Int) (x1:Dt):Option Int:=
 awq m x0 0 x1
noncomputable def zB:Nat→Dt→Option Int
 |0,_=>none
 |m+1,a0=>
  (bif (decide (64<(List.length (Dt.L a0 1):Int))) then
  some 18
 else
  awr m (List.length (Dt.L a0 1):Int) a0)
noncomputable def aws (m:Nat):Option Int:=
 some 0
noncomputable def ai3 (m:Nat) (x0:Dt):Option Int:=
  ((yV m (Dt.S x0 7)).bind fun r2=>
    (bif (Bool.not r2) then
 some 9
    else
 aws m))
noncomputable def ai4 (m:Nat) (x0:Dt):Option Int:=
  ((zC m (Dt.L x0 6)).bind fun r1=>
    (bif (Bool.not r1) then
 some 10
    else
 ai3 m x0))
noncomputable def NY (m:Nat) (x0:Bool) (x1:Dt):Option Int:=
 (bif x0 then
  some 18
 else
  ai4 m x1)
noncomputable def yL:Nat→Dt→Option Int
  |0,_=>none
  |m+1,a0=>
   ((zB m (Dt.fld a0 16)).bind fun r0=>
   (bif (r0 !=0) then
 NY m true a0
   else
 NY m ((Dt.I (Dt.fld a0 16) 0) !=2) a0))
noncomputable def vF:Nat→Dt→Option Bool
  |0,_=>none
  |m+1,a0=>
   (bif ((Dt.I a0 0)==0) then
   (bif ((List.length (Dt.L a0 1):Int)==0) then
 some ((Dt.I a0 2)==0)
   else
 some false)
  else
   some false)
noncomputable def y2:Nat→Dt→Option Bool
  |0,_=>none
  |m+1,a0=>
   (bif ((Dt.I a0 0)==0) then
   (bif ((Dt.I a0 1)==0) then
 (bif ((ByteArray.toList (Dt.S a0 2))==[]) then
 (bif ((List.length (Dt.L a0 3):Int)==0) then
 some ((List.length (Dt.L a0 4):Int)==0)
 else
 some false)
 else
 some false)
   else
 some false)
  else
   some false)
noncomputable def vE:Nat→Dt→Option Bool
  |0,_=>none
  |m+1,a0=>
   (bif ((Dt.I a0 0)==0) then
   (bif ((List.length (Dt.L a0 1):Int)==0) then
 (bif ((ByteArray.toList (Dt.S a0 2))==[]) then
 (bif ((List.length (Dt.L a0 3):Int)==0) then
 ((y2 m (Dt.fld a0 4)).bind fun r0=>
 (bif r0 then
 (bif ((Dt.I a0 5)==0) then
 some ((List.length (Dt.L a0 6):Int)==0)
 else
 some false)
 else
 some false))
 else
 some false)
 else
 some false)
   else
 some false)
  else
   some false)
noncomputable def VI (m:Nat) (x0:Dt):Option Bool:=
  (bif ((Dt.I x0 0)==18) then
   (bif ((Dt.I x0 0)==24) then
 some true
   else
 ((vE m (Dt.fld x0 7)).bind fun r1=>
 some r1))
  else
   ((vF m (Dt.fld x0 6)).bind fun r2=>
 (bif r2 then
 (bif ((Dt.I x0 0)==24) then
 some true
 else
 ((vE m (Dt.fld x0 7)).bind fun r3=>
 some r3))
 else
 some false)))
noncomputable def gY (m:Nat) (x0:Bool) (x1:Dt):Option Bool:=
 (bif x0 then
  some false
 else
  VI m x1)
noncomputable def ai5 (m:Nat) (x0:Dt):Option Bool:=
  (bif ((Dt.I x0 0) !=10) then
   (bif ((Dt.I x0 0) !=11) then
 (bif ((Dt.I x0 0) !=12) then
 (bif ((Dt.I x0 0) !=13) then
 (bif ((Dt.I x0 4) !=0) then
 gY m true x0
 else
 (bif ((Dt.I x0 0) !=12) then
 gY m ((Dt.I x0 5) !=0) x0
 else
 gY m false x0))
 else
 (bif ((Dt.I x0 0) !=12) then
 gY m ((Dt.I x0 5) !=0) x0
 else
 gY m false x0))
 else
 (bif ((Dt.I x0 0) !=12) then
 gY m ((Dt.I x0 5) !=0) x0
 else
 gY m false x0))
   else
 (bif ((Dt.I x0 0) !=12) then
 gY m ((Dt.I x0 5) !=0) x0
 else
 gY m false x0))
  else
   (bif ((Dt.I x0 0) !=12) then
 gY m ((Dt.I x0 5) !=0) x0
   else
 gY m false x0))
noncomputable def gZ (m:Nat) (x0:Bool) (x1:Dt):Option Bool:=
 (bif x0 then
  some false
 else
  ai5 m x1)
noncomputable def zQ:Nat→Dt→Option Bool
  |0,_=>none
  |m+1,a0=>
   ((vB m (Dt.I a0 0)).bind fun r0=>
   (bif (Bool.not r0) then
 (bif (decide (0<(List.length (Dt.L a0 1):Int))) then
 gZ m true a0
 else
 ((y6 m (Dt.I a0 0)).bind fun r4=>
 (bif (Bool.not r4) then
 ((y2 m (Dt.fld a0 2)).bind fun r5=>
 (bif (Bool.not r5) then
 gZ m true a0
 else
 ((yP m (Dt.I a0 0)).bind fun r6=>
 (bif (Bool.not r6) then
 gZ m (decide (0<(List.length (Dt.L a0 3):Int))) a0
 else
 gZ m false a0))))
 else
 ((yP m (Dt.I a0 0)).bind fun r7=>
 (bif (Bool.not r7) then
 gZ m (decide (0<(List.length (Dt.L a0 3):Int))) a0
 else
 gZ m false a0)))))
   else
 ((y6 m (Dt.I a0 0)).bind fun r8=>
 (bif (Bool.not r8) then
 ((y2 m (Dt.fld a0 2)).bind fun r9=>
 (bif (Bool.not r9) then
 gZ m true a0
 else
 ((yP m (Dt.I a0 0)).bind fun r10=>
 (bif (Bool.not r10) then
 gZ m (decide (0<(List.length (Dt.L a0 3):Int))) a0
 else
 gZ m false a0))))
 else
 ((yP m (Dt.I a0 0)).bind fun r11=>
 (bif (Bool.not r11) then
 gZ m (decide (0<(List.length (Dt.L a0 3):Int))) a0
 else
 gZ m false a0))))))
noncomputable def ai6 (m:Nat) (rec1:Q21) (rec5:Q40) (x0:List Dt) (x1 x2:Int):Option Bool:=
 rec5 x0 x1 (IntKind.wrap .i64 (x2+1))
noncomputable def ai7 (m:Nat) (rec1:Q21) (rec5:Q40) (x0:List Dt) (x1 x2:Int):Option Bool:=
  ((idx x0 x2).bind fun v2=>
    ((idx x0 x1).bind fun v3=>
 (bif ((ByteArray.toList (Dt.toStr v2))==(ByteArray.toList (Dt.toStr v3))) then
 some false
 else
 ai6 m rec1 rec5 x0 x1 x2)))
noncomputable def ai8 (m:Nat) (rec1:Q21) (x0:List Dt) (x1:Int):Option Bool:=
 rec1 x0 (IntKind.wrap .i64 (x1+1))
noncomputable def GN (m:Nat) (rec1:Q21):Nat→List Dt→Int→Int→Option Bool
 |0,_,_,_=>none
 |M5+1,x0,x1,x2=>
  (bif (decide (x2<x1)) then
  ai7 m rec1 (GN m rec1 M5) x0 x1 x2
 else
  ai8 m rec1 x0 x1)
noncomputable def ai9 (m:Nat) (rec1:Q21) (x0:List Dt) (x1 x2:Int):Option Bool:=
 GN m rec1 (Nat.succ m) x0 x1 x2
noncomputable def aja (m:Nat) (rec1:Q21) (x0:List Dt) (x1:Int):Option Bool:=
 ai9 m rec1 x0 x1 0
noncomputable def ajb (m:Nat) (rec1:Q21) (x0:List Dt) (x1:Int):Option Bool:=
  ((idx x0 x1).bind fun v0=>
    ((zE m (Dt.toStr v0)).bind fun r1=>
 (bif (Bool.not r1) then
 some false
 else
 aja m rec1 x0 x1)))
noncomputable def ajc (m:Nat):Option Bool:=
 some true
noncomputable def BQ (m:Nat):Nat→List Dt→Int→Option Bool
 |0,_,_=>none
 |M1+1,x0,x1=>
  (bif (decide (x1<(List.length x0:Int))) then
  ajb m (BQ m M1) x0 x1
 else
  ajc m)
noncomputable def awt (m:Nat) (x0:List Dt) (x1:Int):Option Bool:=
 BQ m (Nat.succ m) x0 x1
noncomputable def zM:Nat→List Dt→Option Bool
 |0,_=>none
 |m+1,a0=>
  awt m a0 0
noncomputable def awu (m:Nat):Option Int:=
 some 2
noncomputable def nO (m:Nat) (x0:Bool):Option Int:=
 (bif x0 then
  some (-1)
 else
  awu m)
noncomputable def ajd (m:Nat) (x0:Int) (x1:Bool):Option Int:=
  (bif x1 then
   some 3
  else
   (bif (x0==4) then
 nO m (x0==4)
   else
 (bif (x0==6) then
 nO m (x0==6)
 else
 (bif (x0==16) then
 nO m (x0==16)
 else
 (bif (x0==17) then
 nO m (x0==17)
 else
 (bif (x0==21) then
 nO m (x0==21)
 else
 (bif (x0==29) then
 nO m (x0==29)
 else
 (bif (x0==37) then
 nO m (x0==37)
 else
 (bif (x0==35) then
 nO m (x0==35)
 else
 nO m (x0==34))))))))))
noncomputable def rF (m:Nat) (x0:Int) (x1:Bool):Option Int:=
  (bif x1 then
   some 1
  else
   (bif (x0==19) then
 ajd m x0 (x0==19)
   else
 ajd m x0 (x0==25)))
noncomputable def VJ (m:Nat) (x0:Int) (x1:Bool):Option Int:=
  (bif x1 then
   some 0
  else
   (bif (x0==18) then
 rF m x0 (x0==18)
   else
 (bif (x0==22) then
 rF m x0 (x0==22)
 else
 (bif (x0==23) then
 rF m x0 (x0==23)
 else
 (bif (x0==24) then
 rF m x0 (x0==24)
 else
 (bif (x0==26) then
 rF m x0 (x0==26)
 else
 (bif (x0==30) then
 rF m x0 (x0==30)
 else
 (bif (x0==31) then
 rF m x0 (x0==31)
 else
 rF m x0 (x0==36)))))))))
noncomputable def yB:Nat→Int→Option Int
  |0,_=>none
  |m+1,a0=>
   (bif (a0==1) then
   VJ m a0 (a0==1)
  else
   (bif (a0==2) then
 VJ m a0 (a0==2)
   else
 VJ m a0 (a0==3)))
noncomputable def aje (m:Nat) (rec1:Q16) (x0:Int) (x1:Dt) (x2:List Dt):Option (List Dt):=
 rec1 (IntKind.wrap .i64 (x0+1)) x1 x2
noncomputable def ajf (m:Nat) (rec1:Q16) (x0:Int) (x1:Dt) (x2:List Dt):Option (List Dt):=
  ((idx (Dt.L x1 3) x0).bind fun v0=>
    ((app x2 [v0]).bind fun v1=>
 aje m rec1 x0 x1 v1))
noncomputable def ajg (m:Nat) (rec6:Q16) (x0:Int) (x1:Dt) (x2:List Dt):Option (List Dt):=
 rec6 (IntKind.wrap .i64 (x0+1)) x1 x2
noncomputable def ajh (m:Nat) (rec6:Q16) (x0:Int) (x1:Dt) (x2:List Dt):Option (List Dt):=
  ((idx (Dt.L x1 4) x0).bind fun v2=>
    ((app x2 [(Dt.fld v2 1)]).bind fun v3=>
 ajg m rec6 x0 x1 v3))
noncomputable def NZ (m:Nat) (x0:List Dt):Option (List Dt):=
 some x0
noncomputable def BR (m:Nat):Nat→Int→Dt→List Dt→Option (List Dt)
 |0,_,_,_=>none
 |M6+1,x0,x1,x2=>
  (bif (decide (x0<(List.length (Dt.L x1 4):Int))) then
  ajh m (BR m M6) x0 x1 x2
 else
  NZ m x2)
noncomputable def aji (m:Nat) (x0:Int) (x1:Dt) (x2:List Dt):Option (List Dt):=
 BR m (Nat.succ m) x0 x1 x2
noncomputable def GQ (m:Nat) (x0:Dt) (x1:List Dt):Option (List Dt):=
 (bif ((Dt.I x0 0)==5) then
  aji m 0 x0 x1
 else
  NZ m x1)
noncomputable def BS (m:Nat):Nat→Int→Dt→List Dt→Option (List Dt)
 |0,_,_,_=>none
 |M1+1,x0,x1,x2=>
  (bif (decide (x0<(List.length (Dt.L x1 3):Int))) then
  ajf m (BS m M1) x0 x1 x2
 else
  GQ m x1 x2)
noncomputable def ajj (m:Nat) (x0:Int) (x1:Dt) (x2:List Dt):Option (List Dt):=
 BS m (Nat.succ m) x0 x1 x2
noncomputable def zI:Nat→Dt→Option (List Dt)
 |0,_=>none
 |m+1,a0=>
  (bif ((Dt.I a0 0)==6) then
  ajj m 0 a0 []
 else
  GQ m a0 [])
noncomputable def BU (m:Nat) (self107:Q18) (rec3:Q41) (x0:Int) (x1:List Dt) (x2 x3:Int):Option Int:=
 rec3 x0 x1 x2 (IntKind.wrap .i64 (x3+1))
noncomputable def BX (m:Nat) (self107:Q18) (rec3:Q41) (x0:Int) (x1:List Dt) (x2 x3:Int):Option Int:=
  ((idx x1 x3).bind fun v1=>
    ((self107 v1 (IntKind.wrap .i64 (x0-1))).bind fun r2=>
 BU m self107 rec3 x0 x1 (bif (decide (x2<r2)) then r2 else x2) x3))
noncomputable def BZ (m:Nat) (self107:Q18) (x0:Int):Option Int:=
 some (IntKind.wrap .i64 (x0+1))
noncomputable def Ca (m:Nat) (self107:Q18):Nat→Int→List Dt→Int→Int→Option Int
 |0,_,_,_,_=>none
 |M3+1,x0,x1,x2,x3=>
  (bif (decide (x3<(List.length x1:Int))) then
  BX m self107 (Ca m self107 M3) x0 x1 x2 x3
 else
  BZ m self107 x2)
noncomputable def Cb (m:Nat) (self107:Q18) (x0:Int) (x1:List Dt) (x2 x3:Int):Option Int:=
 Ca m self107 (Nat.succ m) x0 x1 x2 x3
noncomputable def Cc (m:Nat) (self107:Q18) (x0:Int) (x1:List Dt):Option Int:=
 Cb m self107 x0 x1 0 0
noncomputable def uQ (m:Nat) (self107:Q18) (x0:Int) (x1:List Dt) (x2:Bool):Option Int:=
 (bif x2 then
  some 1
 else
  Cc m self107 x0 x1)
noncomputable def qX:Nat→Dt→Int→Option Int
  |0,_,_=>none
  |m+1,a0,a1=>
   ((zI m a0).bind fun r0=>
   (bif (decide (a1<2)) then
 uQ m (qX m) a1 r0 true
   else
 uQ m (qX m) a1 r0 ((List.length r0:Int)==0)))
noncomputable def vJ:Nat→Dt→Option Int
 |0,_=>none
 |m+1,a0=>
  ((qX m a0 17).bind fun r0=>
  some r0)
noncomputable def ajk (m:Nat) (self108:Q18) (rec1:Q42) (x0 x1:Int) (x2:List Dt) (x3:Int):Option Int:=
 rec1 x0 x1 x2 (IntKind.wrap .i64 (x3+1))
noncomputable def ajl (m:Nat) (self108:Q18) (rec1:Q42) (x0 x1:Int) (x2:List Dt) (x3:Int):Option Int:=
  ((idx x2 x3).bind fun v1=>
    ((self108 v1 (IntKind.wrap .i64 (x0-x1))).bind fun r2=>
 ajk m self108 rec1 x0 (IntKind.wrap .i64 (x1+r2)) x2 x3))
noncomputable def GR (m:Nat) (self108:Q18) (x0:Int):Option Int:=
 some x0
noncomputable def GU (m:Nat) (self108:Q18):Nat→Int→Int→List Dt→Int→Option Int
  |0,_,_,_,_=>none
  |M1+1,x0,x1,x2,x3=>
   (bif (decide (x3<(List.length x2:Int))) then
   (bif (decide (x1<x0)) then
 ajl m self108 (GU m self108 M1) x0 x1 x2 x3
   else
 GR m self108 x1)
  else
   GR m self108 x1)
noncomputable def VK (m:Nat) (self108:Q18) (x0 x1:Int) (x2:List Dt) (x3:Int):Option Int:=
 GU m self108 (Nat.succ m) x0 x1 x2 x3
noncomputable def zY:Nat→Dt→Int→Option Int
 |0,_,_=>none
 |m+1,a0,a1=>
  ((zI m a0).bind fun r0=>
  VK m (zY m) a1 1 r0 0)
noncomputable def vK:Nat→Dt→Option Int
 |0,_=>none
 |m+1,a0=>
  ((zY m a0 1025).bind fun r0=>
  some r0)
noncomputable def N7 (m:Nat) (rec2:Q33) (x0:ByteArray) (x1 x2 x3:Int):Option Bool:=
 rec2 x0 x1 x2 (IntKind.wrap .i64 (x3+1))
noncomputable def GV (m:Nat) (rec2:Q33) (x0:ByteArray) (x1 x2 x3:Int) (x4:Bool):Option Bool:=
 (bif x4 then
  some false
 else
  N7 m rec2 x0 x1 x2 x3)
noncomputable def N8 (m:Nat) (rec2:Q33) (x0:ByteArray) (x1 x2 x3:Int):Option Bool:=
  ((idxS x0 (IntKind.wrap .i64 (x1+x3))).bind fun v0=>
    (bif (decide (v0<128)) then
 GV m rec2 x0 x1 x2 x3 true
    else
 ((idxS x0 (IntKind.wrap .i64 (x1+x3))).bind fun v1=>
 GV m rec2 x0 x1 x2 x3 (decide (191<v1)))))
noncomputable def N9 (m:Nat):Option Bool:=
 some true
noncomputable def GX (m:Nat):Nat→ByteArray→Int→Int→Int→Option Bool
 |0,_,_,_,_=>none
 |M2+1,x0,x1,x2,x3=>
  (bif (decide (x3<x2)) then
  N8 m (GX m M2) x0 x1 x2 x3
 else
  N9 m)
noncomputable def Oa (m:Nat) (x0:ByteArray) (x1 x2 x3:Int):Option Bool:=
 GX m (Nat.succ m) x0 x1 x2 x3
noncomputable def Oc (m:Nat) (x0:ByteArray) (x1 x2:Int):Option Bool:=
 Oa m x0 x1 x2 0
noncomputable def zX:Nat→ByteArray→Int→Int→Option Bool
 |0,_,_,_=>none
 |m+1,a0,a1,a2=>
  (bif (decide ((ByteArray.size a0:Int)<(IntKind.wrap .i64 (a1+a2)))) then
  some false
 else
  Oc m a0 a1 a2)
noncomputable def ajm (m:Nat) (rec1:Q15) (x0:ByteArray) (x1 x2:Int):Option Bool:=
 rec1 x0 (IntKind.wrap .i64 ((IntKind.wrap .i64 (x1+x2))+1))
noncomputable def cZ (m:Nat) (rec1:Q15) (x0:ByteArray) (x1 x2:Int) (x3:Bool):Option Bool:=
 (bif x3 then
  some false
 else
  ajm m rec1 x0 x1 x2)
noncomputable def VL (m:Nat) (rec1:Q15) (x0:ByteArray) (x1 x2 x3:Int):Option Bool:=
  (bif (x2==224) then
   ((idxS x0 (IntKind.wrap .i64 (x1+1))).bind fun v2=>
 (bif (decide (v2<160)) then
 cZ m rec1 x0 x1 x3 true
 else
 (bif (x2==237) then
 ((idxS x0 (IntKind.wrap .i64 (x1+1))).bind fun v3=>
 (bif (decide (159<v3)) then
 cZ m rec1 x0 x1 x3 true
 else
 (bif (x2==240) then
 ((idxS x0 (IntKind.wrap .i64 (x1+1))).bind fun v4=>
 (bif (decide (v4<144)) then
 cZ m rec1 x0 x1 x3 true
 else
 (bif (x2==244) then
 ((idxS x0 (IntKind.wrap .i64 (x1+1))).bind fun v5=>
 cZ m rec1 x0 x1 x3 (decide (143<v5)))
 else
 cZ m rec1 x0 x1 x3 false)))
 else
 (bif (x2==244) then
 ((idxS x0 (IntKind.wrap .i64 (x1+1))).bind fun v6=>
 cZ m rec1 x0 x1 x3 (decide (143<v6)))
 else
 cZ m rec1 x0 x1 x3 false))))
 else
 (bif (x2==240) then
 ((idxS x0 (IntKind.wrap .i64 (x1+1))).bind fun v7=>
 (bif (decide (v7<144)) then
 cZ m rec1 x0 x1 x3 true
 else
 (bif (x2==244) then
 ((idxS x0 (IntKind.wrap .i64 (x1+1))).bind fun v8=>
 cZ m rec1 x0 x1 x3 (decide (143<v8)))
 else
 cZ m rec1 x0 x1 x3 false)))
 else
 (bif (x2==244) then
 ((idxS x0 (IntKind.wrap .i64 (x1+1))).bind fun v9=>
 cZ m rec1 x0 x1 x3 (decide (143<v9)))
 else
 cZ m rec1 x0 x1 x3 false)))))
  else
   (bif (x2==237) then
 ((idxS x0 (IntKind.wrap .i64 (x1+1))).bind fun v10=>
 (bif (decide (159<v10)) then
 cZ m rec1 x0 x1 x3 true
 else
 (bif (x2==240) then
 ((idxS x0 (IntKind.wrap .i64 (x1+1))).bind fun v11=>
 (bif (decide (v11<144)) then
 cZ m rec1 x0 x1 x3 true
 else
 (bif (x2==244) then
 ((idxS x0 (IntKind.wrap .i64 (x1+1))).bind fun v12=>
 cZ m rec1 x0 x1 x3 (decide (143<v12)))
 else
 cZ m rec1 x0 x1 x3 false)))
 else
 (bif (x2==244) then
 ((idxS x0 (IntKind.wrap .i64 (x1+1))).bind fun v13=>
 cZ m rec1 x0 x1 x3 (decide (143<v13)))
 else
 cZ m rec1 x0 x1 x3 false))))
   else
 (bif (x2==240) then
 ((idxS x0 (IntKind.wrap .i64 (x1+1))).bind fun v14=>
 (bif (decide (v14<144)) then
 cZ m rec1 x0 x1 x3 true
 else
 (bif (x2==244) then
 ((idxS x0 (IntKind.wrap .i64 (x1+1))).bind fun v15=>
 cZ m rec1 x0 x1 x3 (decide (143<v15)))
 else
 cZ m rec1 x0 x1 x3 false)))
 else
 (bif (x2==244) then
 ((idxS x0 (IntKind.wrap .i64 (x1+1))).bind fun v16=>
 cZ m rec1 x0 x1 x3 (decide (143<v16)))
 else
 cZ m rec1 x0 x1 x3 false))))
noncomputable def Ce (m:Nat) (rec1:Q15) (x0:ByteArray) (x1 x2 x3:Int):Option Bool:=
  ((zX m x0 (IntKind.wrap .i64 (x1+1)) x3).bind fun r1=>
    (bif (Bool.not r1) then
 some false
    else
 VL m rec1 x0 x1 x2 x3))
noncomputable def VN (m:Nat) (rec1:Q15) (x0:ByteArray) (x1 x2:Int) (x3:Bool):Option Bool:=
 (bif x3 then
  Ce m rec1 x0 x1 x2 3
 else
  some false)
noncomputable def VO (m:Nat) (rec1:Q15) (x0:ByteArray) (x1 x2:Int) (x3:Bool):Option Bool:=
  (bif x3 then
   Ce m rec1 x0 x1 x2 2
  else
   (bif (decide (240≤x2)) then
 VN m rec1 x0 x1 x2 (decide (x2≤244))
   else
 VN m rec1 x0 x1 x2 false))
noncomputable def VP (m:Nat) (rec1:Q15) (x0:ByteArray) (x1 x2:Int) (x3:Bool):Option Bool:=
  (bif x3 then
   Ce m rec1 x0 x1 x2 1
  else
   (bif (decide (224≤x2)) then
 VO m rec1 x0 x1 x2 (decide (x2≤239))
   else
 VO m rec1 x0 x1 x2 false))
noncomputable def VQ (m:Nat) (rec1:Q15) (x0:ByteArray) (x1:Int):Option Bool:=
  ((idxS x0 x1).bind fun v0=>
    (bif (decide (v0<128)) then
 Ce m rec1 x0 x1 v0 0
    else
 (bif (decide (194≤v0)) then
 VP m rec1 x0 x1 v0 (decide (v0≤223))
 else
 VP m rec1 x0 x1 v0 false)))
noncomputable def Rq (m:Nat):Option Bool:=
 some true
noncomputable def Cg (m:Nat):Nat→ByteArray→Int→Option Bool
 |0,_,_=>none
 |M1+1,x0,x1=>
  (bif (decide (x1<(ByteArray.size x0:Int))) then
  VQ m (Cg m M1) x0 x1
 else
  Rq m)
noncomputable def awv (m:Nat) (x0:ByteArray) (x1:Int):Option Bool:=
 Cg m (Nat.succ m) x0 x1
noncomputable def qZ:Nat→ByteArray→Option Bool
 |0,_=>none
 |m+1,a0=>
  awv m a0 0
noncomputable def Ch (m:Nat) (rec3:Q15) (x0:ByteArray) (x1:Int):Option Bool:=
 rec3 x0 (IntKind.wrap .i64 (x1+1))
noncomputable def uR (m:Nat) (rec3:Q15) (x0:ByteArray) (x1:Int) (x2:Bool):Option Bool:=
 (bif x2 then
  some false
 else
  Ch m rec3 x0 x1)
noncomputable def Ci (m:Nat) (rec3:Q15) (x0:ByteArray) (x1:Int):Option Bool:=
  ((idxS x0 x1).bind fun v0=>
    (bif (decide (v0<32)) then
 uR m rec3 x0 x1 true
    else
 ((idxS x0 x1).bind fun v1=>
 uR m rec3 x0 x1 (decide (126<v1)))))
noncomputable def Cj (m:Nat):Option Bool:=
 some true
noncomputable def Ck (m:Nat):Nat→ByteArray→Int→Option Bool
 |0,_,_=>none
 |M3+1,x0,x1=>
  (bif (decide (x1<(ByteArray.size x0:Int))) then
  Ci m (Ck m M3) x0 x1
 else
  Cj m)
noncomputable def Cm (m:Nat) (x0:ByteArray) (x1:Int):Option Bool:=
 Ck m (Nat.succ m) x0 x1
noncomputable def Co (m:Nat) (x0:ByteArray):Option Bool:=
 Cm m x0 0
noncomputable def uS (m:Nat) (x0:ByteArray) (x1:Bool):Option Bool:=
 (bif x1 then
  some false
 else
  Co m x0)
noncomputable def zK:Nat→ByteArray→Option Bool
 |0,_=>none
 |m+1,a0=>
  (bif (decide ((ByteArray.size a0:Int)<1)) then
  uS m a0 true
 else
  uS m a0 (decide (128<(ByteArray.size a0:Int))))
noncomputable def Rs (m:Nat) (self98:Q5) (self110:Q5) (rec8:Q19) (x0:Bool) (x1:Int) (x2:Dt):Option Bool:=
 rec8 x0 (IntKind.wrap .i64 (x1+1)) x2
noncomputable def ajn (m:Nat) (self98:Q5) (self110:Q5) (rec8:Q19) (x0:Bool) (x1:Int) (x2:Dt):Option Bool:=
  ((idx (Dt.L x2 3) x1).bind fun v1=>
    ((self98 v1 x0).bind fun r2=>
 (bif (Bool.not r2) then
 some false
 else
 Rs m self98 self110 rec8 x0 x1 x2)))
noncomputable def Rt (m:Nat) (self98:Q5) (self110:Q5) (x0:Bool) (x1:Dt):Option Bool:=
 ((self110 x1 x0).bind fun r3=>
   some r3)
noncomputable def GY (m:Nat) (self98:Q5) (self110:Q5):Nat→Bool→Int→Dt→Option Bool
 |0,_,_,_=>none
 |M8+1,x0,x1,x2=>
  (bif (decide (x1<(List.length (Dt.L x2 3):Int))) then
  ajn m self98 self110 (GY m self98 self110 M8) x0 x1 x2
 else
  Rt m self98 self110 x0 x2)
noncomputable def aww (m:Nat) (self98:Q5) (self110:Q5) (x0:Bool) (x1:Int) (x2:Dt):Option Bool:=
 GY m self98 self110 (Nat.succ m) x0 x1 x2
noncomputable def ajo (m:Nat) (self98:Q5) (self110:Q5) (x0:Bool) (x1:Dt):Option Bool:=
 aww m self98 self110 x0 0 x1
noncomputable def Od (m:Nat) (self98:Q5) (self110:Q5) (x0:Bool) (x1:Dt):Option Bool:=
  (bif ((Dt.I x1 0)==9) then
   (bif ((Dt.I x1 1)==0) then
 some true
   else
 some ((Dt.I x1 1)==1))
  else
   (bif ((Dt.I x1 0)==10) then
 some (decide (0≤(Dt.I x1 1)))
   else
 (bif ((Dt.I x1 0)==4) then
 (bif (decide ((ByteArray.size (Dt.S x1 2):Int)≤4096)) then
 ((qZ m (Dt.S x1 2)).bind fun r0=>
 some r0)
 else
 some false)
 else
 (bif ((Dt.I x1 0)==7) then
 some (decide ((ByteArray.size (Dt.S x1 2):Int)≤4096))
 else
 (bif ((Dt.I x1 0)==8) then
 some ((ByteArray.size (Dt.S x1 2):Int)==12)
 else
 ajo m self98 self110 x0 x1)))))
noncomputable def jm (m:Nat) (self98:Q5) (self110:Q5) (x0 x1:Bool) (x2:Dt):Option Bool:=
 (bif x1 then
  some false
 else
  Od m self98 self110 x0 x2)
noncomputable def Cq (m:Nat) (self98:Q5) (self110:Q5) (x0 x1 x2:Bool) (x3:Dt):Option Bool:=
  (bif (Bool.not x1) then
   (bif (Bool.not ((ByteArray.toList (Dt.S x3 2))==[])) then
 jm m self98 self110 x0 true x3
   else
 (bif (Bool.not x2) then
 (bif ((Dt.I x3 1) !=0) then
 jm m self98 self110 x0 true x3
 else
 (bif (decide ((Dt.I x3 0)<1)) then
 jm m self98 self110 x0 true x3
 else
 jm m self98 self110 x0 (decide (11<(Dt.I x3 0))) x3))
 else
 (bif (decide ((Dt.I x3 0)<1)) then
 jm m self98 self110 x0 true x3
 else
 jm m self98 self110 x0 (decide (11<(Dt.I x3 0))) x3)))
  else
   (bif (Bool.not x2) then
 (bif ((Dt.I x3 1) !=0) then
 jm m self98 self110 x0 true x3
 else
 (bif (decide ((Dt.I x3 0)<1)) then
 jm m self98 self110 x0 true x3
 else
 jm m self98 self110 x0 (decide (11<(Dt.I x3 0))) x3))
   else
 (bif (decide ((Dt.I x3 0)<1)) then
 jm m self98 self110 x0 true x3
 else
 jm m self98 self110 x0 (decide (11<(Dt.I x3 0))) x3)))
noncomputable def Cr (m:Nat) (self98:Q5) (self110:Q5) (x0 x1:Bool) (x2:Dt):Option Bool:=
  (bif ((Dt.I x2 0)==3) then
   Cq m self98 self110 x0 x1 true x2
  else
   (bif ((Dt.I x2 0)==9) then
 Cq m self98 self110 x0 x1 true x2
   else
 Cq m self98 self110 x0 x1 ((Dt.I x2 0)==10) x2))
noncomputable def Oe (m:Nat) (self98:Q5) (self110:Q5) (x0:Bool) (x1:Dt):Option Bool:=
  (bif ((Dt.I x1 0)==4) then
   Cr m self98 self110 x0 true x1
  else
   (bif ((Dt.I x1 0)==7) then
 Cr m self98 self110 x0 true x1
   else
 Cr m self98 self110 x0 ((Dt.I x1 0)==8) x1))
noncomputable def Ct (m:Nat) (self98:Q5) (self110:Q5) (x0 x1:Bool) (x2:Dt):Option Bool:=
 (bif x1 then
  some false
 else
  Oe m self98 self110 x0 x2)
noncomputable def GZ (m:Nat) (self98:Q5) (rec1:Q19) (rec6:Q43) (x0:Bool) (x1 x2:Int) (x3 x4:Dt):Option Bool:=
 rec6 x0 x1 (IntKind.wrap .i64 (x2+1)) x3 x4
noncomputable def G5 (m:Nat) (self98:Q5) (rec1:Q19) (rec6:Q43) (x0:Bool) (x1 x2:Int) (x3 x4:Dt):Option Bool:=
  ((idx (Dt.L x3 4) x2).bind fun v2=>
    (bif ((ByteArray.toList (Dt.S v2 0))==(ByteArray.toList (Dt.S x4 0))) then
 some false
    else
 GZ m self98 rec1 rec6 x0 x1 x2 x3 x4))
noncomputable def G6 (m:Nat) (self98:Q5) (rec1:Q19) (x0:Bool) (x1:Int) (x2:Dt):Option Bool:=
 rec1 x0 (IntKind.wrap .i64 (x1+1)) x2
noncomputable def Cu (m:Nat) (self98:Q5) (rec1:Q19):Nat→Bool→Int→Int→Dt→Dt→Option Bool
 |0,_,_,_,_,_=>none
 |M6+1,x0,x1,x2,x3,x4=>
  (bif (decide (x2<x1)) then
  G5 m self98 rec1 (Cu m self98 rec1 M6) x0 x1 x2 x3 x4
 else
  G6 m self98 rec1 x0 x1 x3)
noncomputable def G7 (m:Nat) (self98:Q5) (rec1:Q19) (x0:Bool) (x1 x2:Int) (x3 x4:Dt):Option Bool:=
 Cu m self98 rec1 (Nat.succ m) x0 x1 x2 x3 x4
noncomputable def G8 (m:Nat) (self98:Q5) (rec1:Q19) (x0:Bool) (x1:Int) (x2 x3:Dt):Option Bool:=
 G7 m self98 rec1 x0 x1 0 x2 x3
noncomputable def jP (m:Nat) (self98:Q5) (rec1:Q19) (x0:Bool) (x1:Int) (x2:Bool) (x3 x4:Dt):Option Bool:=
 (bif x2 then
  some false
 else
  G8 m self98 rec1 x0 x1 x3 x4)
noncomputable def G9 (m:Nat) (self98:Q5) (rec1:Q19) (x0:Bool) (x1:Int) (x2:Dt):Option Bool:=
  ((idx (Dt.L x2 4) x1).bind fun v0=>
    (bif x0 then
 ((zE m (Dt.S v0 0)).bind fun r1=>
 (bif (Bool.not r1) then
 jP m self98 rec1 x0 x1 true x2 v0
 else
 (bif (Bool.not x0) then
 ((zK m (Dt.S v0 0)).bind fun r3=>
 (bif (Bool.not r3) then
 jP m self98 rec1 x0 x1 true x2 v0
 else
 ((self98 (Dt.fld v0 1) x0).bind fun r4=>
 jP m self98 rec1 x0 x1 (Bool.not r4) x2 v0)))
 else
 ((self98 (Dt.fld v0 1) x0).bind fun r5=>
 jP m self98 rec1 x0 x1 (Bool.not r5) x2 v0))))
    else
 (bif (Bool.not x0) then
 ((zK m (Dt.S v0 0)).bind fun r6=>
 (bif (Bool.not r6) then
 jP m self98 rec1 x0 x1 true x2 v0
 else
 ((self98 (Dt.fld v0 1) x0).bind fun r7=>
 jP m self98 rec1 x0 x1 (Bool.not r7) x2 v0)))
 else
 ((self98 (Dt.fld v0 1) x0).bind fun r8=>
 jP m self98 rec1 x0 x1 (Bool.not r8) x2 v0))))
noncomputable def tO (m:Nat) (self98:Q5):Option Bool:=
 some true
noncomputable def uU (m:Nat) (self98:Q5):Nat→Bool→Int→Dt→Option Bool
 |0,_,_,_=>none
 |M1+1,x0,x1,x2=>
  (bif (decide (x1<(List.length (Dt.L x2 4):Int))) then
  G9 m self98 (uU m self98 M1) x0 x1 x2
 else
  tO m self98)
noncomputable def Cw (m:Nat) (self98:Q5) (x0:Bool) (x1:Int) (x2:Dt):Option Bool:=
 uU m self98 (Nat.succ m) x0 x1 x2
mutual
noncomputable def qE:Nat→Dt→Bool→Option Bool
  |0,_,_=>none
  |m+1,a0,a1=>
   (bif ((Dt.I a0 0) !=6) then
   (bif (decide (0<(List.length (Dt.L a0 3):Int))) then
 Ct m (qE m) (qG m) a1 true a0
   else
 (bif ((Dt.I a0 0) !=5) then
 Ct m (qE m) (qG m) a1 (decide (0<(List.length (Dt.L a0 4):Int))) a0
 else
 Ct m (qE m) (qG m) a1 false a0))
  else
   (bif ((Dt.I a0 0) !=5) then
 Ct m (qE m) (qG m) a1 (decide (0<(List.length (Dt.L a0 4):Int))) a0
   else
 Ct m (qE m) (qG m) a1 false a0))
noncomputable def qG:Nat→Dt→Bool→Option Bool
 |0,_,_=>none
 |m+1,a0,a1=>
  Cw m (qE m) a1 0 a0
end
noncomputable def y3:Nat→Dt→Option Bool
  |0,_=>none
  |m+1,a0=>
   ((vJ m a0).bind fun r0=>
   (bif (decide (r0≤16)) then
 ((vK m a0).bind fun r1=>
 (bif (decide (r1≤1024)) then
 ((qE m a0 true).bind fun r2=>
 some r2)
 else
 some false))
   else
 some false))
noncomputable def Ru (m:Nat):Option Int:=
 some 0
noncomputable def aV (m:Nat) (x0:Bool):Option Int:=
 (bif x0 then
  some 4
 else
  Ru m)
noncomputable def VR (m:Nat) (x0:Bool) (x1:Dt):Option Int:=
  (bif ((Dt.I x1 0) !=2) then
   (bif ((Dt.I x1 0) !=3) then
 (bif (decide (0<(List.length (Dt.L x1 1):Int))) then
 aV m true
 else
 (bif (Bool.not x0) then
 (bif (Bool.not ((ByteArray.toList (Dt.S x1 2))==[])) then
 aV m true
 else
 (bif ((Dt.I x1 0) !=34) then
 (bif (decide (0<(List.length (Dt.L x1 3):Int))) then
 aV m true
 else
 (bif ((Dt.I x1 0) !=1) then
 ((qA m (Dt.fld x1 4) aW).bind fun r3=>
 (bif (Bool.not r3) then
 aV m true
 else
 aV m ((Dt.I x1 5) !=0)))
 else
 aV m ((Dt.I x1 5) !=0)))
 else
 (bif ((Dt.I x1 0) !=1) then
 ((qA m (Dt.fld x1 4) aW).bind fun r4=>
 (bif (Bool.not r4) then
 aV m true
 else
 aV m ((Dt.I x1 5) !=0)))
 else
 aV m ((Dt.I x1 5) !=0))))
 else
 (bif ((Dt.I x1 0) !=34) then
 (bif (decide (0<(List.length (Dt.L x1 3):Int))) then
 aV m true
 else
 (bif ((Dt.I x1 0) !=1) then
 ((qA m (Dt.fld x1 4) aW).bind fun r5=>
 (bif (Bool.not r5) then
 aV m true
 else
 aV m ((Dt.I x1 5) !=0)))
 else
 aV m ((Dt.I x1 5) !=0)))
 else
 (bif ((Dt.I x1 0) !=1) then
 ((qA m (Dt.fld x1 4) aW).bind fun r6=>
 (bif (Bool.not r6) then
 aV m true
 else
 aV m ((Dt.I x1 5) !=0)))
 else
 aV m ((Dt.I x1 5) !=0)))))
   else
 (bif (Bool.not x0) then
 (bif (Bool.not ((ByteArray.toList (Dt.S x1 2))==[])) then
 aV m true
 else
 (bif ((Dt.I x1 0) !=34) then
 (bif (decide (0<(List.length (Dt.L x1 3):Int))) then
 aV m true
 else
 (bif ((Dt.I x1 0) !=1) then
 ((qA m (Dt.fld x1 4) aW).bind fun r7=>
 (bif (Bool.not r7) then
 aV m true
 else
 aV m ((Dt.I x1 5) !=0)))
 else
 aV m ((Dt.I x1 5) !=0)))
 else
 (bif ((Dt.I x1 0) !=1) then
 ((qA m (Dt.fld x1 4) aW).bind fun r8=>
 (bif (Bool.not r8) then
 aV m true
 else
 aV m ((Dt.I x1 5) !=0)))
 else
 aV m ((Dt.I x1 5) !=0))))
 else
 (bif ((Dt.I x1 0) !=34) then
 (bif (decide (0<(List.length (Dt.L x1 3):Int))) then
 aV m true
 else
 (bif ((Dt.I x1 0) !=1) then
 ((qA m (Dt.fld x1 4) aW).bind fun r9=>
 (bif (Bool.not r9) then
 aV m true
 else
 aV m ((Dt.I x1 5) !=0)))
 else
 aV m ((Dt.I x1 5) !=0)))
 else
 (bif ((Dt.I x1 0) !=1) then
 ((qA m (Dt.fld x1 4) aW).bind fun r10=>
 (bif (Bool.not r10) then
 aV m true
 else
 aV m ((Dt.I x1 5) !=0)))
 else
 aV m ((Dt.I x1 5) !=0)))))
  else
   (bif (Bool.not x0) then
 (bif (Bool.not ((ByteArray.toList (Dt.S x1 2))==[])) then
 aV m true
 else
 (bif ((Dt.I x1 0) !=34) then
 (bif (decide (0<(List.length (Dt.L x1 3):Int))) then
 aV m true
 else
 (bif ((Dt.I x1 0) !=1) then
 ((qA m (Dt.fld x1 4) aW).bind fun r11=>
 (bif (Bool.not r11) then
 aV m true
 else
 aV m ((Dt.I x1 5) !=0)))
 else
 aV m ((Dt.I x1 5) !=0)))
 else
 (bif ((Dt.I x1 0) !=1) then
 ((qA m (Dt.fld x1 4) aW).bind fun r12=>
 (bif (Bool.not r12) then
 aV m true
 else
 aV m ((Dt.I x1 5) !=0)))
 else
 aV m ((Dt.I x1 5) !=0))))
   else
 (bif ((Dt.I x1 0) !=34) then
 (bif (decide (0<(List.length (Dt.L x1 3):Int))) then
 aV m true
 else
 (bif ((Dt.I x1 0) !=1) then
 ((qA m (Dt.fld x1 4) aW).bind fun r13=>
 (bif (Bool.not r13) then
 aV m true
 else
 aV m ((Dt.I x1 5) !=0)))
 else
 aV m ((Dt.I x1 5) !=0)))
 else
 (bif ((Dt.I x1 0) !=1) then
 ((qA m (Dt.fld x1 4) aW).bind fun r14=>
 (bif (Bool.not r14) then
 aV m true
 else
 aV m ((Dt.I x1 5) !=0)))
 else
 aV m ((Dt.I x1 5) !=0)))))
noncomputable def VU (m:Nat) (x0 x1:Bool) (x2:Dt):Option Int:=
 (bif x1 then
  some 8
 else
  VR m x0 x2)
noncomputable def VW (m:Nat) (x0:Bool) (x1:Dt):Option Int:=
  (bif ((Dt.I x1 0)==1) then
   ((y3 m (Dt.fld x1 4)).bind fun r2=>
 VU m x0 (Bool.not r2) x1)
  else
   VU m x0 false x1)
noncomputable def Cx (m:Nat) (x0 x1:Bool) (x2:Dt):Option Int:=
 (bif x1 then
  some 9
 else
  VW m x0 x2)
noncomputable def He (m:Nat) (x0:Bool) (x1:Dt):Option Int:=
  (bif x0 then
   ((zE m (Dt.S x1 2)).bind fun r1=>
 (bif (Bool.not r1) then
 Cx m x0 true x1
 else
 (bif ((Dt.I x1 0)==34) then
 ((zM m (Dt.L x1 3)).bind fun r15=>
 Cx m x0 (Bool.not r15) x1)
 else
 Cx m x0 false x1)))
  else
   (bif ((Dt.I x1 0)==34) then
 ((zM m (Dt.L x1 3)).bind fun r16=>
 Cx m x0 (Bool.not r16) x1)
   else
 Cx m x0 false x1))
noncomputable def ajp (m:Nat) (x0:Dt):Option Int:=
  (bif ((Dt.I x0 0)==3) then
   He m true x0
  else
   (bif ((Dt.I x0 0)==32) then
 He m true x0
   else
 He m ((Dt.I x0 0)==33) x0))
noncomputable def rG (m:Nat) (x0:Bool) (x1:Dt):Option Int:=
 (bif x0 then
  some 10
 else
  ajp m x1)
noncomputable def VX (m:Nat) (x0:Dt):Option Int:=
  (bif ((Dt.I x0 0)==2) then
   ((zC m (Dt.L x0 1)).bind fun r0=>
 (bif (Bool.not r0) then
 rG m true x0
 else
 (bif ((Dt.I x0 0)==3) then
 (bif (decide (0<(List.length (Dt.L x0 1):Int))) then
 ((zC m (Dt.L x0 1)).bind fun r17=>
 rG m (Bool.not r17) x0)
 else
 rG m false x0)
 else
 rG m false x0)))
  else
   (bif ((Dt.I x0 0)==3) then
 (bif (decide (0<(List.length (Dt.L x0 1):Int))) then
 ((zC m (Dt.L x0 1)).bind fun r18=>
 rG m (Bool.not r18) x0)
 else
 rG m false x0)
   else
 rG m false x0))
noncomputable def kQ (m:Nat) (x0:Bool) (x1:Dt):Option Int:=
 (bif x0 then
  some 11
 else
  VX m x1)
noncomputable def qL:Nat→Dt→Option Int
  |0,_=>none
  |m+1,a0=>
   (bif (decide ((Dt.I a0 0)<1)) then
   kQ m true a0
  else
   (bif (decide (37<(Dt.I a0 0))) then
 kQ m true a0
   else
 ((yB m (Dt.I a0 0)).bind fun r19=>
 (bif (decide (0≤r19)) then
 ((yB m (Dt.I a0 0)).bind fun r20=>
 (bif ((List.length (Dt.L a0 6):Int) !=r20) then
 kQ m true a0
 else
 (bif ((Dt.I a0 0)==34) then
 (bif ((List.length (Dt.L a0 6):Int) !=(List.length (Dt.L a0 3):Int)) then
 kQ m true a0
 else
 kQ m ((List.length (Dt.L a0 6):Int)==0) a0)
 else
 kQ m false a0)))
 else
 (bif ((Dt.I a0 0)==34) then
 (bif ((List.length (Dt.L a0 6):Int) !=(List.length (Dt.L a0 3):Int)) then
 kQ m true a0
 else
 kQ m ((List.length (Dt.L a0 6):Int)==0) a0)
 else
 kQ m false a0)))))
noncomputable def ajq (m:Nat) (self94:Q22) (rec4:Q34) (x0 x1 x2:Int) (x3:Dt):Option (Int×Int):=
 rec4 x0 x1 (IntKind.wrap .i64 (x2+1)) x3
noncomputable def VY (m:Nat) (self94:Q22) (rec4:Q34) (x0 x1 x2:Int) (x3:Dt):Option (Int×Int):=
 ajq m self94 rec4 x2 x0 x1 x3
noncomputable def ajr (m:Nat) (self94:Q22) (rec4:Q34) (x0 x1 x2:Int) (x3:Dt):Option (Int×Int):=
  ((idx (Dt.L x3 6) x2).bind fun v1=>
    ((self94 v1 (IntKind.wrap .i64 (x0+1)) (IntKind.wrap .i64 (x1+1))).bind fun r2=>
 (bif (r2.2 !=0) then
 some (r2.1,r2.2)
 else
 VY m self94 rec4 x1 x2 r2.1 x3)))
noncomputable def awx (m:Nat) (self94:Q22) (x0:Int):Option (Int×Int):=
 some (x0,0)
noncomputable def Cy (m:Nat) (self94:Q22):Nat→Int→Int→Int→Dt→Option (Int×Int)
 |0,_,_,_,_=>none
 |M4+1,x0,x1,x2,x3=>
  (bif (decide (x2<(List.length (Dt.L x3 6):Int))) then
  ajr m self94 (Cy m self94 M4) x0 x1 x2 x3
 else
  awx m self94 x0)
noncomputable def ajs (m:Nat) (self94:Q22) (x0 x1 x2:Int) (x3:Dt):Option (Int×Int):=
 Cy m self94 (Nat.succ m) x0 x1 x2 x3
noncomputable def ajt (m:Nat) (self94:Q22) (x0 x1:Int) (x2:Dt):Option (Int×Int):=
 ajs m self94 x0 x1 0 x2
noncomputable def aju (m:Nat) (self94:Q22) (x0 x1:Int) (x2:Dt):Option (Int×Int):=
  ((qL m x2).bind fun r0=>
    (bif (r0 !=0) then
 some (x0,r0)
    else
 ajt m self94 x0 x1 x2))
noncomputable def VZ (m:Nat) (self94:Q22) (x0 x1:Int) (x2:Bool) (x3:Dt):Option (Int×Int):=
 (bif x2 then
  some (x0,2)
 else
  aju m self94 x0 x1 x3)
noncomputable def zJ:Nat→Dt→Int→Int→Option (Int×Int)
 |0,_,_,_=>none
 |m+1,a0,a1,a2=>
  (bif (decide (16<a2)) then
  VZ m (zJ m) a1 a2 true a0
 else
  VZ m (zJ m) a1 a2 (decide (256<a1)) a0)
noncomputable def yG:Nat→Dt→Option Int
 |0,_=>none
 |m+1,a0=>
  ((zJ m a0 1 1).bind fun r0=>
  some r0.2)
noncomputable def ajv (m:Nat) (rec2:Q20) (rec7:Q44) (x0:List Dt) (x1 x2:Int) (x3:Dt):Option Int:=
 rec7 x0 x1 (IntKind.wrap .i64 (x2+1)) x3
noncomputable def ajw (m:Nat) (rec2:Q20) (rec7:Q44) (x0:List Dt) (x1 x2:Int) (x3:Dt):Option Int:=
  ((idx x0 x2).bind fun v3=>
    ((idx x0 x1).bind fun v4=>
 ((y7 m (Dt.toLst v3) (Dt.toLst v4)).bind fun r5=>
 (bif r5 then
 some 12
 else
 ajv m rec2 rec7 x0 x1 x2 x3))))
noncomputable def Cz (m:Nat) (rec2:Q20) (x0:List Dt) (x1:Int) (x2:Dt):Option Int:=
 rec2 x0 (IntKind.wrap .i64 (x1+1)) x2
noncomputable def Rv (m:Nat) (rec2:Q20) (x0:List Dt) (x1 x2:Int) (x3:Dt):Option Int:=
  (bif (decide (0≤x2)) then
   ((idx (Dt.L x3 4) x2).bind fun v7=>
 ((yG m (Dt.fld v7 1)).bind fun r8=>
 (bif (r8 !=0) then
 some r8
 else
 Cz m rec2 x0 x1 x3)))
  else
   Cz m rec2 x0 x1 x3)
noncomputable def tQ (m:Nat) (rec2:Q20) (x0:List Dt) (x1 x2:Int) (x3:Bool) (x4:Dt):Option Int:=
 (bif x3 then
  some 1
 else
  Rv m rec2 x0 x1 x2 x4)
noncomputable def CB (m:Nat) (rec2:Q20) (x0:List Dt) (x1:Int) (x2:Dt):Option Int:=
  (bif (decide (0≤(IntKind.wrap .i64 (x1-(List.length (Dt.L x2 1):Int))))) then
   (bif (decide ((IntKind.wrap .i64 ((IntKind.wrap .i64 (x1-(List.length (Dt.L x2 1):Int)))-(List.length (Dt.L x2 3):Int)))<0)) then
 ((idx (Dt.L x2 3) (IntKind.wrap .i64 (x1-(List.length (Dt.L x2 1):Int)))).bind fun v6=>
 tQ m rec2 x0 x1 (IntKind.wrap .i64 ((IntKind.wrap .i64 (x1-(List.length (Dt.L x2 1):Int)))-(List.length (Dt.L x2 3):Int))) (decide ((Dt.I v6 2)<0)) x2)
   else
 tQ m rec2 x0 x1 (IntKind.wrap .i64 ((IntKind.wrap .i64 (x1-(List.length (Dt.L x2 1):Int)))-(List.length (Dt.L x2 3):Int))) false x2)
  else
   tQ m rec2 x0 x1 (IntKind.wrap .i64 ((IntKind.wrap .i64 (x1-(List.length (Dt.L x2 1):Int)))-(List.length (Dt.L x2 3):Int))) false x2)
noncomputable def Hf (m:Nat) (rec2:Q20):Nat→List Dt→Int→Int→Dt→Option Int
 |0,_,_,_,_=>none
 |M7+1,x0,x1,x2,x3=>
  (bif (decide (x2<x1)) then
  ajw m rec2 (Hf m rec2 M7) x0 x1 x2 x3
 else
  CB m rec2 x0 x1 x3)
noncomputable def awy (m:Nat) (rec2:Q20) (x0:List Dt) (x1 x2:Int) (x3:Dt):Option Int:=
 Hf m rec2 (Nat.succ m) x0 x1 x2 x3
noncomputable def awz (m:Nat) (rec2:Q20) (x0:List Dt) (x1:Int) (x2:Dt):Option Int:=
 awy m rec2 x0 x1 0 x2
noncomputable def Og (m:Nat) (rec2:Q20) (x0:List Dt) (x1:Int) (x2:Bool) (x3:Dt):Option Int:=
 (bif x2 then
  some 10
 else
  awz m rec2 x0 x1 x3)
noncomputable def ajx (m:Nat) (rec2:Q20) (x0:List Dt) (x1:Int) (x2:Dt):Option Int:=
  ((idx x0 x1).bind fun v1=>
    ((zC m (Dt.toLst v1)).bind fun r2=>
 (bif (Bool.not r2) then
 Og m rec2 x0 x1 true x2
 else
 ((idx x0 x1).bind fun v9=>
 ((idx (Dt.toLst v9) 0).bind fun v10=>
 Og m rec2 x0 x1 ((ByteArray.toList (Dt.toStr v10))==[95,105,100]) x2)))))
noncomputable def ajy (m:Nat):Option Int:=
 some 0
noncomputable def CF (m:Nat):Nat→List Dt→Int→Dt→Option Int
 |0,_,_,_=>none
 |M2+1,x0,x1,x2=>
  (bif (decide (x1<(List.length x0:Int))) then
  ajx m (CF m M2) x0 x1 x2
 else
  ajy m)
noncomputable def awC (m:Nat) (x0:List Dt) (x1:Int) (x2:Dt):Option Int:=
 CF m (Nat.succ m) x0 x1 x2
noncomputable def awD (m:Nat) (x0:List Dt) (x1:Dt):Option Int:=
 awC m x0 0 x1
noncomputable def qS:Nat→Dt→Option Int
  |0,_=>none
  |m+1,a0=>
   ((zP m a0).bind fun r0=>
   (bif (decide (32<(List.length r0:Int))) then
 some 2
   else
 awD m r0 a0))
noncomputable def Rw (m:Nat) (rec3:Q2) (rec8:Q29) (x0:List Dt) (x1 x2:Int):Option Int:=
 rec8 x0 x1 (IntKind.wrap .i64 (x2+1))
noncomputable def ajz (m:Nat) (rec3:Q2) (rec8:Q29) (x0:List Dt) (x1 x2:Int):Option Int:=
  ((idx x0 x1).bind fun v4=>
    ((idx x0 x2).bind fun v5=>
 ((y7 m (Dt.L v4 0) (Dt.L v5 0)).bind fun r6=>
 (bif r6 then
 some 12
 else
 Rw m rec3 rec8 x0 x1 x2))))
noncomputable def Rx (m:Nat) (rec3:Q2) (x0:List Dt) (x1:Int):Option Int:=
 rec3 x0 (IntKind.wrap .i64 (x1+1))
noncomputable def Ry (m:Nat) (rec3:Q2) (x0:List Dt) (x1:Int):Option Int:=
  ((idx x0 x1).bind fun v7=>
    ((yG m (Dt.fld v7 1)).bind fun r8=>
 (bif (r8 !=0) then
 some r8
 else
 Rx m rec3 x0 x1)))
noncomputable def Hg (m:Nat) (rec3:Q2):Nat→List Dt→Int→Int→Option Int
 |0,_,_,_=>none
 |M8+1,x0,x1,x2=>
  (bif (decide (x2<x1)) then
  ajz m rec3 (Hg m rec3 M8) x0 x1 x2
 else
  Ry m rec3 x0 x1)
noncomputable def awE (m:Nat) (rec3:Q2) (x0:List Dt) (x1 x2:Int):Option Int:=
 Hg m rec3 (Nat.succ m) x0 x1 x2
noncomputable def awF (m:Nat) (rec3:Q2) (x0:List Dt) (x1:Int):Option Int:=
 awE m rec3 x0 x1 0
noncomputable def ajA (m:Nat) (rec3:Q2) (x0:List Dt) (x1:Int):Option Int:=
  ((idx x0 x1).bind fun v2=>
    ((idx (Dt.L v2 0) 0).bind fun v3=>
 (bif ((ByteArray.toList (Dt.toStr v3))==[95,105,100]) then
 some 13
 else
 awF m rec3 x0 x1)))
noncomputable def ajB (m:Nat) (rec3:Q2) (x0:List Dt) (x1:Int):Option Int:=
  ((idx x0 x1).bind fun v0=>
    ((zC m (Dt.L v0 0)).bind fun r1=>
 (bif (Bool.not r1) then
 some 10
 else
 ajA m rec3 x0 x1)))
noncomputable def ajC (m:Nat):Option Int:=
 some 0
noncomputable def Hl (m:Nat):Nat→List Dt→Int→Option Int
 |0,_,_=>none
 |M3+1,x0,x1=>
  (bif (decide (x1<(List.length x0:Int))) then
  ajB m (Hl m M3) x0 x1
 else
  ajC m)
noncomputable def awG (m:Nat) (x0:List Dt) (x1:Int):Option Int:=
 Hl m (Nat.succ m) x0 x1
noncomputable def awH (m:Nat) (x0:List Dt):Option Int:=
 awG m x0 0
noncomputable def Oh (m:Nat) (x0:List Dt) (x1:Bool):Option Int:=
 (bif x1 then
  some 21
 else
  awH m x0)
noncomputable def zH:Nat→List Dt→Option Int
 |0,_=>none
 |m+1,a0=>
  (bif (decide ((List.length a0:Int)<1)) then
  Oh m a0 true
 else
  Oh m a0 (decide (32<(List.length a0:Int))))
noncomputable def ajD (m:Nat) (rec3:Q8) (x0:Int) (x1:Dt):Option Int:=
 rec3 (IntKind.wrap .i64 (x0+1)) x1
noncomputable def Oi (m:Nat) (rec3:Q8) (x0:Int) (x1:Bool) (x2:Dt):Option Int:=
 (bif x1 then
  some 1
 else
  ajD m rec3 x0 x2)
noncomputable def ajE (m:Nat) (rec3:Q8) (x0:Int) (x1:Dt):Option Int:=
  (bif (decide (0<x0)) then
   ((idx (Dt.L x1 14) (IntKind.wrap .i64 (x0-1))).bind fun v3=>
 ((idx (Dt.L x1 14) x0).bind fun v4=>
 ((qD m v3 v4).bind fun r5=>
 Oi m rec3 x0 (decide (0≤r5)) x1)))
  else
   Oi m rec3 x0 false x1)
noncomputable def ajF (m:Nat) (rec3:Q8) (x0:Int) (x1:Dt):Option Int:=
  ((idx (Dt.L x1 14) x0).bind fun v1=>
    ((y3 m v1).bind fun r2=>
 (bif (Bool.not r2) then
 some 8
 else
 ajE m rec3 x0 x1)))
noncomputable def awI (m:Nat):Option Int:=
 some 0
noncomputable def CG (m:Nat):Nat→Int→Dt→Option Int
 |0,_,_=>none
 |M3+1,x0,x1=>
  (bif (decide (x0<(List.length (Dt.L x1 14):Int))) then
  ajF m (CG m M3) x0 x1
 else
  awI m)
noncomputable def awJ (m:Nat) (x0:Int) (x1:Dt):Option Int:=
 CG m (Nat.succ m) x0 x1
noncomputable def awK (m:Nat) (x0:Dt):Option Int:=
 awJ m 0 x0
noncomputable def ajG (m:Nat) (x0:Dt):Option Int:=
 (bif (decide ((List.length (Dt.L x0 14):Int)<2)) then
  some 21
 else
  awK m x0)
noncomputable def zO:Nat→Dt→Option Int
  |0,_=>none
  |m+1,a0=>
   ((yG m (Dt.fld a0 9)).bind fun r0=>
   (bif (r0 !=0) then
 some r0
   else
 ajG m a0))
noncomputable def ajH (m:Nat) (x0:Dt):Option Int:=
 ((zG m (Dt.L x0 4)).bind fun r0=>
   some r0)
noncomputable def CJ (m:Nat):Option Int:=
 some 0
noncomputable def V3 (m:Nat) (x0:Bool):Option Int:=
 (bif x0 then
  some 9
 else
  CJ m)
noncomputable def ajI (m:Nat) (x0:Dt):Option Int:=
  (bif (Bool.not ((ByteArray.toList (Dt.S x0 7))==[])) then
   ((yV m (Dt.S x0 7)).bind fun r2=>
 V3 m (Bool.not r2))
  else
   V3 m false)
noncomputable def V4 (m:Nat) (x0:Bool) (x1:Dt):Option Int:=
  (bif x0 then
   ((yG m (Dt.fld x1 9)).bind fun r4=>
 some r4)
  else
   CJ m)
noncomputable def z6:Nat→Dt→Option Int
  |0,_=>none
  |m+1,a0=>
   (bif ((Dt.I a0 0)==4) then
   (bif ((List.length (Dt.L a0 4):Int)==0) then
 some 21
   else
 ajH m a0)
  else
   (bif ((Dt.I a0 0)==5) then
 (bif (decide ((Dt.I a0 5)<0)) then
 some 1
 else
 CJ m)
   else
 (bif ((Dt.I a0 0)==6) then
 (bif (decide ((Dt.I a0 5)<1)) then
 some 1
 else
 CJ m)
 else
 (bif ((Dt.I a0 0)==7) then
 ((zC m (Dt.L a0 6)).bind fun r1=>
 (bif (Bool.not r1) then
 some 10
 else
 ajI m a0))
 else
 (bif ((Dt.I a0 0)==13) then
 ((yV m (Dt.S a0 7)).bind fun r3=>
 (bif (Bool.not r3) then
 some 9
 else
 CJ m))
 else
 (bif ((Dt.I a0 0)==14) then
 V4 m ((Dt.I a0 0)==14) a0
 else
 V4 m ((Dt.I a0 0)==16) a0))))))
noncomputable def ajJ (m:Nat) (self74:Q12) (rec7:Q27) (x0:Bool) (x1:Int) (x2:Dt):Option Int:=
 rec7 x0 (IntKind.wrap .i64 (x1+1)) x2
noncomputable def ajK (m:Nat) (self74:Q12) (rec7:Q27) (x0:Bool) (x1:Int) (x2:Dt):Option Int:=
  ((idx (Dt.L x2 3) x1).bind fun v5=>
    ((y3 m v5).bind fun r6=>
 (bif (Bool.not r6) then
 some 8
 else
 ajJ m self74 rec7 x0 x1 x2)))
noncomputable def Rz (m:Nat) (self74:Q12) (rec15:Q27) (x0:Bool) (x1:Int) (x2:Dt):Option Int:=
 rec15 x0 (IntKind.wrap .i64 (x1+1)) x2
noncomputable def CK (m:Nat) (self74:Q12) (rec15:Q27) (x0:Bool) (x1 x2:Int) (x3:Dt):Option Int:=
 (bif (x2 !=0) then
  some x2
 else
  Rz m self74 rec15 x0 x1 x3)
noncomputable def RB (m:Nat) (self74:Q12) (rec15:Q27) (x0:Bool) (x1:Int) (x2:Dt):Option Int:=
  ((idx (Dt.L x2 8) x1).bind fun v10=>
    (bif x0 then
 ((self74 v10 true).bind fun r11=>
 CK m self74 rec15 x0 x1 r11 x2)
    else
 ((self74 v10 ((Dt.I x2 0)==15)).bind fun r12=>
 CK m self74 rec15 x0 x1 r12 x2)))
noncomputable def ajL (m:Nat) (self74:Q12):Option Int:=
 some 0
noncomputable def pJ (m:Nat) (self74:Q12):Nat→Bool→Int→Dt→Option Int
 |0,_,_,_=>none
 |M15+1,x0,x1,x2=>
  (bif (decide (x1<(List.length (Dt.L x2 8):Int))) then
  RB m self74 (pJ m self74 M15) x0 x1 x2
 else
  ajL m self74)
noncomputable def ajM (m:Nat) (self74:Q12) (x0:Bool) (x1:Int) (x2:Dt):Option Int:=
 pJ m self74 (Nat.succ m) x0 x1 x2
noncomputable def ajN (m:Nat) (self74:Q12) (x0:Bool) (x1:Dt):Option Int:=
 ajM m self74 x0 0 x1
noncomputable def RF (m:Nat) (self74:Q12) (x0:Bool) (x1:Dt):Option Int:=
  (bif ((Dt.I x1 0)==24) then
   ((yG m (Dt.fld x1 7)).bind fun r9=>
 some r9)
  else
   ajN m self74 x0 x1)
noncomputable def CO (m:Nat) (self74:Q12) (x0:Bool) (x1:Dt):Option Int:=
  ((zQ m x1).bind fun r8=>
    (bif (Bool.not r8) then
 some 4
    else
 RF m self74 x0 x1))
noncomputable def tT (m:Nat) (self74:Q12) (x0:Bool) (x1:Dt):Option Int:=
  (bif ((Dt.I x1 0)==18) then
   ((zB m (Dt.fld x1 6)).bind fun r7=>
 (bif (r7 !=0) then
 some r7
 else
 CO m self74 x0 x1))
  else
   CO m self74 x0 x1)
noncomputable def Ho (m:Nat) (self74:Q12):Nat→Bool→Int→Dt→Option Int
  |0,_,_,_=>none
  |M7+1,x0,x1,x2=>
   (bif (decide (x1<(List.length (Dt.L x2 3):Int))) then
   ((yP m (Dt.I x2 0)).bind fun r4=>
 (bif r4 then
 ajK m self74 (Ho m self74 M7) x0 x1 x2
 else
 tT m self74 x0 x2))
  else
   tT m self74 x0 x2)
noncomputable def awL (m:Nat) (self74:Q12) (x0:Bool) (x1:Int) (x2:Dt):Option Int:=
 Ho m self74 (Nat.succ m) x0 x1 x2
noncomputable def awM (m:Nat) (self74:Q12) (x0:Bool) (x1:Dt):Option Int:=
 awL m self74 x0 0 x1
noncomputable def CP (m:Nat) (self74:Q12) (x0 x1:Bool) (x2:Dt):Option Int:=
 (bif x1 then
  some 8
 else
  awM m self74 x0 x2)
noncomputable def V6 (m:Nat) (self74:Q12) (x0:Bool) (x1:Dt):Option Int:=
  ((y6 m (Dt.I x1 0)).bind fun r2=>
    (bif r2 then
 ((y3 m (Dt.fld x1 2)).bind fun r3=>
 (bif (Bool.not r3) then
 CP m self74 x0 true x1
 else
 ((y1 m (Dt.I x1 0)).bind fun r13=>
 (bif r13 then
 CP m self74 x0 ((Dt.I (Dt.fld x1 2) 0) !=4) x1
 else
 CP m self74 x0 false x1))))
    else
 CP m self74 x0 false x1))
noncomputable def CQ (m:Nat) (self74:Q12) (x0 x1:Bool) (x2:Dt):Option Int:=
 (bif x1 then
  some 10
 else
  V6 m self74 x0 x2)
noncomputable def ajO (m:Nat) (self74:Q12) (x0:Bool) (x1:Dt):Option Int:=
  ((vB m (Dt.I x1 0)).bind fun r0=>
    (bif r0 then
 ((zC m (Dt.L x1 1)).bind fun r1=>
 (bif (Bool.not r1) then
 (bif x0 then
 CQ m self74 x0 (Bool.not ((List.length (Dt.L x1 1):Int)==0)) x1
 else
 CQ m self74 x0 true x1)
 else
 CQ m self74 x0 false x1))
    else
 CQ m self74 x0 false x1))
noncomputable def rH (m:Nat) (self74:Q12) (x0 x1:Bool) (x2:Dt):Option Int:=
 (bif x1 then
  some 11
 else
  ajO m self74 x0 x2)
noncomputable def qF:Nat→Dt→Bool→Option Int
  |0,_,_=>none
  |m+1,a0,a1=>
   (bif (decide ((Dt.I a0 0)<1)) then
   rH m (qF m) a1 true a0
  else
   (bif (decide (24<(Dt.I a0 0))) then
 rH m (qF m) a1 true a0
   else
 ((yR m a0).bind fun r14=>
 (bif (Bool.not r14) then
 rH m (qF m) a1 true a0
 else
 ((yP m (Dt.I a0 0)).bind fun r15=>
 (bif r15 then
 (bif ((List.length (Dt.L a0 3):Int)==0) then
 rH m (qF m) a1 true a0
 else
 ((yW m a0).bind fun r16=>
 rH m (qF m) a1 (Bool.not r16) a0))
 else
 ((yW m a0).bind fun r17=>
 rH m (qF m) a1 (Bool.not r17) a0)))))))
noncomputable def ajP (m:Nat) (x0:Dt):Option Int:=
 ((qF m x0 false).bind fun r1=>
   some r1)
noncomputable def vA:Nat→Dt→Option Int
  |0,_=>none
  |m+1,a0=>
   ((zT m a0 16 256).bind fun r0=>
   (bif (decide (r0<0)) then
 some 2
   else
 ajP m a0))
noncomputable def ajQ (m:Nat) (x0:Int):Option Int:=
 some x0
noncomputable def Oj (m:Nat) (x0:Int) (x1:Bool):Option Int:=
 (bif x1 then
  some 1
 else
  ajQ m x0)
noncomputable def ajR (m:Nat) (x0:Dt):Option Int:=
  ((zG m (Dt.L x0 3)).bind fun r2=>
    (bif (r2==0) then
 (bif (decide ((Dt.I x0 4)<1)) then
 Oj m r2 true
 else
 Oj m r2 (decide (64<(Dt.I x0 4))))
    else
 Oj m r2 false))
noncomputable def Ol (m:Nat) (x0:Dt):Option Int:=
 (bif ((Dt.I x0 1) !=10) then
  some 0
 else
  ajR m x0)
noncomputable def ajS (m:Nat) (x0:Dt):Option Int:=
  (bif ((Dt.I x0 1) !=2) then
   ((yG m (Dt.fld x0 2)).bind fun r1=>
 (bif (r1 !=0) then
 some r1
 else
 Ol m x0))
  else
   Ol m x0)
noncomputable def nP (m:Nat) (x0:Bool) (x1:Dt):Option Int:=
 (bif x0 then
  some 21
 else
  ajS m x1)
noncomputable def ajT (m:Nat) (x0:Dt):Option Int:=
  (bif ((Dt.I x0 1)==2) then
   ((yS m (Dt.fld x0 2)).bind fun r0=>
 (bif (Bool.not r0) then
 nP m true x0
 else
 (bif ((Dt.I x0 1) !=10) then
 (bif (decide (0<(List.length (Dt.L x0 3):Int))) then
 nP m true x0
 else
 nP m ((Dt.I x0 4) !=0) x0)
 else
 nP m false x0)))
  else
   (bif ((Dt.I x0 1) !=10) then
 (bif (decide (0<(List.length (Dt.L x0 3):Int))) then
 nP m true x0
 else
 nP m ((Dt.I x0 4) !=0) x0)
   else
 nP m false x0))
noncomputable def Om (m:Nat) (x0:Bool) (x1:Dt):Option Int:=
 (bif x0 then
  some 11
 else
  ajT m x1)
noncomputable def zZ:Nat→Dt→Option Int
 |0,_=>none
 |m+1,a0=>
  (bif (decide ((Dt.I a0 1)<1)) then
  Om m true a0
 else
  Om m (decide (10<(Dt.I a0 1))) a0)
noncomputable def Oo (m:Nat) (rec3:Q8) (rec6:Q30) (x0:Int) (x1:Bool) (x2:Int) (x3:Dt):Option Int:=
 rec6 x0 x1 (IntKind.wrap .i64 (x2+1)) x3
noncomputable def ajU (m:Nat) (rec3:Q8) (rec6:Q30) (x0:Int) (x1:Bool) (x2:Int) (x3:Dt):Option Int:=
  (bif x1 then
   ((idx (Dt.L x3 1) x2).bind fun v3=>
 ((idx (Dt.L x3 1) x0).bind fun v4=>
 Oo m rec3 rec6 x0 (Bool.not ((ByteArray.toList (Dt.S v3 0))==(ByteArray.toList (Dt.S v4 0)))) x2 x3))
  else
   Oo m rec3 rec6 x0 false x2 x3)
noncomputable def RG (m:Nat) (rec3:Q8) (x0:Int) (x1:Dt):Option Int:=
 rec3 (IntKind.wrap .i64 (x0+1)) x1
noncomputable def RH (m:Nat) (rec3:Q8) (x0:Int) (x1:Dt):Option Int:=
  ((idx (Dt.L x1 1) x0).bind fun v5=>
    ((zZ m v5).bind fun r6=>
 (bif (r6 !=0) then
 some r6
 else
 RG m rec3 x0 x1)))
noncomputable def ajV (m:Nat) (rec3:Q8) (x0:Int) (x1:Bool) (x2:Dt):Option Int:=
 (bif (Bool.not x1) then
  some 9
 else
  RH m rec3 x0 x2)
noncomputable def CS (m:Nat) (rec3:Q8):Nat→Int→Bool→Int→Dt→Option Int
 |0,_,_,_,_=>none
 |M6+1,x0,x1,x2,x3=>
  (bif (decide (x2<x0)) then
  ajU m rec3 (CS m rec3 M6) x0 x1 x2 x3
 else
  ajV m rec3 x0 x1 x3)
noncomputable def awN (m:Nat) (rec3:Q8) (x0:Int) (x1:Bool) (x2:Int) (x3:Dt):Option Int:=
 CS m rec3 (Nat.succ m) x0 x1 x2 x3
noncomputable def ajW (m:Nat) (rec3:Q8) (x0:Int) (x1:Dt):Option Int:=
  ((idx (Dt.L x1 1) x0).bind fun v1=>
    ((yV m (Dt.S v1 0)).bind fun r2=>
 awN m rec3 x0 r2 0 x1))
noncomputable def ajX (m:Nat):Option Int:=
 some 0
noncomputable def Hq (m:Nat):Nat→Int→Dt→Option Int
 |0,_,_=>none
 |M3+1,x0,x1=>
  (bif (decide (x0<(List.length (Dt.L x1 1):Int))) then
  ajW m (Hq m M3) x0 x1
 else
  ajX m)
noncomputable def awO (m:Nat) (x0:Int) (x1:Dt):Option Int:=
 Hq m (Nat.succ m) x0 x1
noncomputable def awP (m:Nat) (x0:Dt):Option Int:=
 awO m 0 x0
noncomputable def ajY (m:Nat) (x0:Dt):Option Int:=
 (bif (decide (32<(List.length (Dt.L x0 1):Int))) then
  some 21
 else
  awP m x0)
noncomputable def zD:Nat→Dt→Option Int
  |0,_=>none
  |m+1,a0=>
   ((yG m (Dt.fld a0 0)).bind fun r0=>
   (bif (r0 !=0) then
 some r0
   else
 ajY m a0))
noncomputable def ajZ (m:Nat):Option Int:=
 some 0
noncomputable def uV (m:Nat) (x0:Bool):Option Int:=
 (bif x0 then
  some 1
 else
  ajZ m)
noncomputable def Oq (m:Nat) (x0:Dt):Option Int:=
  (bif (decide ((Dt.I x0 3)<(-4096))) then
   uV m true
  else
   (bif (decide (4096<(Dt.I x0 3))) then
 uV m true
   else
 (bif (decide ((Dt.I x0 4)<(-4096))) then
 uV m true
 else
 (bif (decide (4096<(Dt.I x0 4))) then
 uV m true
 else
 (bif ((Dt.I x0 1) !=24) then
 uV m (decide ((Dt.I x0 4)<(Dt.I x0 3)))
 else
 uV m false)))))
noncomputable def V7 (m:Nat) (x0:Bool) (x1:Dt):Option Int:=
  (bif (Bool.not x0) then
   ((yG m (Dt.fld x1 2)).bind fun r1=>
 (bif (r1 !=0) then
 some r1
 else
 Oq m x1))
  else
   Oq m x1)
noncomputable def aZ (m:Nat) (x0 x1:Bool) (x2:Dt):Option Int:=
 (bif x1 then
  some 21
 else
  V7 m x0 x2)
noncomputable def Ot (m:Nat) (x0 x1:Bool) (x2:Dt):Option Int:=
  (bif x1 then
   ((yS m (Dt.fld x2 2)).bind fun r0=>
 (bif (Bool.not r0) then
 aZ m x1 true x2
 else
 (bif x0 then
 (bif ((Dt.I x2 3) !=0) then
 aZ m x1 true x2
 else
 (bif ((Dt.I x2 4) !=0) then
 aZ m x1 true x2
 else
 (bif (Dt.B x2 5) then
 aZ m x1 true x2
 else
 (bif ((Dt.I x2 1)==24) then
 (bif ((Dt.I x2 4) !=0) then
 aZ m x1 true x2
 else
 (bif (Dt.B x2 5) then
 aZ m x1 true x2
 else
 (bif (Dt.B x2 5) then
 (bif ((Dt.I x2 3) !=0) then
 aZ m x1 true x2
 else
 aZ m x1 ((Dt.I x2 4) !=0) x2)
 else
 aZ m x1 false x2)))
 else
 (bif (Dt.B x2 5) then
 (bif ((Dt.I x2 3) !=0) then
 aZ m x1 true x2
 else
 aZ m x1 ((Dt.I x2 4) !=0) x2)
 else
 aZ m x1 false x2)))))
 else
 (bif ((Dt.I x2 1)==24) then
 (bif ((Dt.I x2 4) !=0) then
 aZ m x1 true x2
 else
 (bif (Dt.B x2 5) then
 aZ m x1 true x2
 else
 (bif (Dt.B x2 5) then
 (bif ((Dt.I x2 3) !=0) then
 aZ m x1 true x2
 else
 aZ m x1 ((Dt.I x2 4) !=0) x2)
 else
 aZ m x1 false x2)))
 else
 (bif (Dt.B x2 5) then
 (bif ((Dt.I x2 3) !=0) then
 aZ m x1 true x2
 else
 aZ m x1 ((Dt.I x2 4) !=0) x2)
 else
 aZ m x1 false x2)))))
  else
   (bif x0 then
 (bif ((Dt.I x2 3) !=0) then
 aZ m x1 true x2
 else
 (bif ((Dt.I x2 4) !=0) then
 aZ m x1 true x2
 else
 (bif (Dt.B x2 5) then
 aZ m x1 true x2
 else
 (bif ((Dt.I x2 1)==24) then
 (bif ((Dt.I x2 4) !=0) then
 aZ m x1 true x2
 else
 (bif (Dt.B x2 5) then
 aZ m x1 true x2
 else
 (bif (Dt.B x2 5) then
 (bif ((Dt.I x2 3) !=0) then
 aZ m x1 true x2
 else
 aZ m x1 ((Dt.I x2 4) !=0) x2)
 else
 aZ m x1 false x2)))
 else
 (bif (Dt.B x2 5) then
 (bif ((Dt.I x2 3) !=0) then
 aZ m x1 true x2
 else
 aZ m x1 ((Dt.I x2 4) !=0) x2)
 else
 aZ m x1 false x2)))))
   else
 (bif ((Dt.I x2 1)==24) then
 (bif ((Dt.I x2 4) !=0) then
 aZ m x1 true x2
 else
 (bif (Dt.B x2 5) then
 aZ m x1 true x2
 else
 (bif (Dt.B x2 5) then
 (bif ((Dt.I x2 3) !=0) then
 aZ m x1 true x2
 else
 aZ m x1 ((Dt.I x2 4) !=0) x2)
 else
 aZ m x1 false x2)))
 else
 (bif (Dt.B x2 5) then
 (bif ((Dt.I x2 3) !=0) then
 aZ m x1 true x2
 else
 aZ m x1 ((Dt.I x2 4) !=0) x2)
 else
 aZ m x1 false x2))))
noncomputable def aj0 (m:Nat) (x0:Bool) (x1:Dt):Option Int:=
 (bif x0 then
  Ot m x0 true x1
 else
  Ot m x0 ((Dt.I x1 1)==2) x1)
noncomputable def CU (m:Nat) (x0 x1:Bool) (x2:Dt):Option Int:=
 (bif x1 then
  some 11
 else
  aj0 m x0 x2)
noncomputable def Ou (m:Nat) (x0:Bool) (x1:Dt):Option Int:=
  (bif (decide ((Dt.I x1 1)<1)) then
   (bif (Bool.not x0) then
 CU m x0 ((Dt.I x1 1) !=24) x1
   else
 CU m x0 false x1)
  else
   (bif (decide (8<(Dt.I x1 1))) then
 (bif (Bool.not x0) then
 CU m x0 ((Dt.I x1 1) !=24) x1
 else
 CU m x0 false x1)
   else
 CU m x0 false x1))
noncomputable def zF:Nat→Dt→Option Int
  |0,_=>none
  |m+1,a0=>
   (bif ((Dt.I a0 1)==21) then
   Ou m true a0
  else
   (bif ((Dt.I a0 1)==22) then
 Ou m true a0
   else
 Ou m ((Dt.I a0 1)==23) a0))
noncomputable def CV (m:Nat) (rec5:Q8) (rec8:Q30) (x0:Int) (x1:Bool) (x2:Int) (x3:Dt):Option Int:=
 rec8 x0 x1 (IntKind.wrap .i64 (x2+1)) x3
noncomputable def aj1 (m:Nat) (rec5:Q8) (rec8:Q30) (x0:Int) (x1:Bool) (x2:Int) (x3:Dt):Option Int:=
  (bif x1 then
   ((idx (Dt.L x3 2) x2).bind fun v4=>
 ((idx (Dt.L x3 2) x0).bind fun v5=>
 CV m rec5 rec8 x0 (Bool.not ((ByteArray.toList (Dt.S v4 0))==(ByteArray.toList (Dt.S v5 0)))) x2 x3))
  else
   CV m rec5 rec8 x0 false x2 x3)
noncomputable def RI (m:Nat) (rec5:Q8) (x0:Int) (x1:Dt):Option Int:=
 rec5 (IntKind.wrap .i64 (x0+1)) x1
noncomputable def RJ (m:Nat) (rec5:Q8) (x0:Int) (x1:Dt):Option Int:=
  ((idx (Dt.L x1 2) x0).bind fun v6=>
    ((zF m v6).bind fun r7=>
 (bif (r7 !=0) then
 some r7
 else
 RI m rec5 x0 x1)))
noncomputable def I9 (m:Nat) (rec5:Q8) (x0:Int) (x1:Bool) (x2:Dt):Option Int:=
 (bif (Bool.not x1) then
  some 9
 else
  RJ m rec5 x0 x2)
noncomputable def Hr (m:Nat) (rec5:Q8):Nat→Int→Bool→Int→Dt→Option Int
 |0,_,_,_,_=>none
 |M8+1,x0,x1,x2,x3=>
  (bif (decide (x2<x0)) then
  aj1 m rec5 (Hr m rec5 M8) x0 x1 x2 x3
 else
  I9 m rec5 x0 x1 x3)
noncomputable def aj2 (m:Nat) (rec5:Q8) (x0:Int) (x1:Bool) (x2:Int) (x3:Dt):Option Int:=
 Hr m rec5 (Nat.succ m) x0 x1 x2 x3
noncomputable def aj3 (m:Nat) (rec5:Q8) (x0:Int) (x1:Dt):Option Int:=
  ((idx (Dt.L x1 2) x0).bind fun v2=>
    ((yV m (Dt.S v2 0)).bind fun r3=>
 aj2 m rec5 x0 r3 0 x1))
noncomputable def aj4 (m:Nat):Option Int:=
 some 0
noncomputable def CX (m:Nat):Nat→Int→Dt→Option Int
 |0,_,_=>none
 |M5+1,x0,x1=>
  (bif (decide (x0<(List.length (Dt.L x1 2):Int))) then
  aj3 m (CX m M5) x0 x1
 else
  aj4 m)
noncomputable def aj5 (m:Nat) (x0:Int) (x1:Dt):Option Int:=
 CX m (Nat.succ m) x0 x1
noncomputable def aj6 (m:Nat) (x0:Dt):Option Int:=
 aj5 m 0 x0
noncomputable def V8 (m:Nat) (x0:Bool) (x1:Dt):Option Int:=
 (bif x0 then
  some 21
 else
  aj6 m x1)
noncomputable def aj7 (m:Nat) (x0:Dt):Option Int:=
 (bif (decide ((List.length (Dt.L x0 2):Int)<1)) then
  V8 m true x0
 else
  V8 m (decide (32<(List.length (Dt.L x0 2):Int))) x0)
noncomputable def Ov (m:Nat) (x0:Int) (x1:Dt):Option Int:=
 (bif (x0 !=0) then
  some x0
 else
  aj7 m x1)
noncomputable def qM:Nat→Dt→Option Int
  |0,_=>none
  |m+1,a0=>
   ((yG m (Dt.fld a0 0)).bind fun r0=>
   (bif (r0==0) then
 ((zG m (Dt.L a0 1)).bind fun r1=>
 Ov m r1 a0)
   else
 Ov m r0 a0))
noncomputable def aj8 (m:Nat) (self18:Q23) (rec1:Q31) (x0:List Dt) (x1:Bool) (x2:Int):Option Int:=
 rec1 x0 x1 (IntKind.wrap .i64 (x2+1))
noncomputable def aj9 (m:Nat) (self18:Q23) (rec1:Q31) (x0:List Dt) (x1:Bool) (x2:Int) (x3:Dt):Option Int:=
  ((self18 x3).bind fun r1=>
    (bif (r1 !=0) then
 some r1
    else
 aj8 m self18 rec1 x0 x1 x2))
noncomputable def rJ (m:Nat) (self18:Q23) (rec1:Q31) (x0:List Dt) (x1:Bool) (x2:Int) (x3:Bool) (x4:Dt):Option Int:=
 (bif x3 then
  some 21
 else
  aj9 m self18 rec1 x0 x1 x2 x4)
noncomputable def akb (m:Nat) (self18:Q23) (rec1:Q31) (x0:List Dt) (x1:Bool) (x2:Int):Option Int:=
  ((idx x0 x2).bind fun v0=>
    (bif (decide ((Dt.I v0 0)<1)) then
 rJ m self18 rec1 x0 x1 x2 true v0
    else
 (bif (decide (18<(Dt.I v0 0))) then
 rJ m self18 rec1 x0 x1 x2 true v0
 else
 (bif ((Dt.I v0 0)==18) then
 (bif (Bool.not x1) then
 rJ m self18 rec1 x0 x1 x2 true v0
 else
 (bif (decide (x2<(IntKind.wrap .i64 ((List.length x0:Int)-1)))) then
 rJ m self18 rec1 x0 x1 x2 true v0
 else
 ((qO m v0).bind fun r2=>
 rJ m self18 rec1 x0 x1 x2 r2 v0)))
 else
 ((qO m v0).bind fun r3=>
 rJ m self18 rec1 x0 x1 x2 r3 v0)))))
noncomputable def awQ (m:Nat) (self18:Q23):Option Int:=
 some 0
noncomputable def CY (m:Nat) (self18:Q23):Nat→List Dt→Bool→Int→Option Int
 |0,_,_,_=>none
 |M1+1,x0,x1,x2=>
  (bif (decide (x2<(List.length x0:Int))) then
  akb m self18 (CY m self18 M1) x0 x1 x2
 else
  awQ m self18)
noncomputable def awR (m:Nat) (self18:Q23) (x0:List Dt) (x1:Bool) (x2:Int):Option Int:=
 CY m self18 (Nat.succ m) x0 x1 x2
noncomputable def akc (m:Nat) (self53:Q23) (self54:List Dt→Option Int) (x0:Dt):Option Int:=
 ((z6 m x0).bind fun r10=>
   some r10)
noncomputable def Ow (m:Nat) (self53:Q23) (self54:List Dt→Option Int) (x0:Int) (x1:Bool) (x2:Dt):Option Int:=
  (bif x1 then
   ((self53 x2).bind fun r5=>
 some r5)
  else
   (bif (x0==11) then
 ((self54 (Dt.L x2 13)).bind fun r6=>
 some r6)
   else
 (bif (x0==12) then
 ((zO m x2).bind fun r7=>
 some r7)
 else
 (bif (x0==17) then
 ((yL m x2).bind fun r8=>
 some r8)
 else
 (bif (x0==18) then
 ((qQ m (Dt.fld x2 15)).bind fun r9=>
 some r9)
 else
 akc m self53 self54 x2)))))
noncomputable def V9 (m:Nat) (self8:Q13) (x0:Dt):Option Int:=
 ((self8 (Dt.L x0 4) false).bind fun r1=>
   some r1)
noncomputable def Ht (m:Nat) (self8:Q13) (x0:Bool) (x1:Dt):Option Int:=
 (bif x0 then
  some 21
 else
  V9 m self8 x1)
noncomputable def akd (m:Nat) (self8:Q13) (x0:Dt):Option Int:=
 ((self8 (Dt.L x0 4) false).bind fun r4=>
   some r4)
noncomputable def ake (m:Nat) (self8:Q13) (x0:Dt):Option Int:=
  ((yV m (Dt.S x0 3)).bind fun r3=>
    (bif (Bool.not r3) then
 some 9
    else
 akd m self8 x0))
noncomputable def Ox (m:Nat) (self8:Q13) (x0:Bool) (x1:Dt):Option Int:=
 (bif x0 then
  some 10
 else
  ake m self8 x1)
noncomputable def akf (m:Nat) (self8:Q13) (x0:Dt):Option Int:=
  ((zC m (Dt.L x0 1)).bind fun r2=>
    (bif (Bool.not r2) then
 Ox m self8 true x0
    else
 ((zC m (Dt.L x0 2)).bind fun r5=>
 Ox m self8 (Bool.not r5) x0)))
noncomputable def akg (m:Nat) (self8:Q13) (x0 x1:Dt):Option Int:=
  (bif ((Dt.I x0 0)==15) then
   (bif (decide (0<(List.length (Dt.L x1 1):Int))) then
 Ht m self8 true x1
   else
 (bif (decide (0<(List.length (Dt.L x1 2):Int))) then
 Ht m self8 true x1
 else
 Ht m self8 (Bool.not ((ByteArray.toList (Dt.S x1 3))==[])) x1))
  else
   akf m self8 x1)
noncomputable def Oy (m:Nat) (self8:Q13) (rec3:Q2) (rec6:Q45) (x0:List Dt) (x1:Int) (x2:Bool) (x3:Int):Option Int:=
 rec6 x0 x1 x2 (IntKind.wrap .i64 (x3+1))
noncomputable def akh (m:Nat) (self8:Q13) (rec3:Q2) (rec6:Q45) (x0:List Dt) (x1:Int) (x2:Bool) (x3:Int):Option Int:=
  (bif x2 then
   ((idx x0 x3).bind fun v2=>
 ((idx x0 x1).bind fun v3=>
 Oy m self8 rec3 rec6 x0 x1 (Bool.not ((ByteArray.toList (Dt.S v2 0))==(ByteArray.toList (Dt.S v3 0)))) x3))
  else
   Oy m self8 rec3 rec6 x0 x1 false x3)
noncomputable def RL (m:Nat) (self8:Q13) (rec3:Q2) (x0:List Dt) (x1:Int):Option Int:=
 rec3 x0 (IntKind.wrap .i64 (x1+1))
noncomputable def RN (m:Nat) (self8:Q13) (rec3:Q2) (x0:List Dt) (x1:Int):Option Int:=
  ((idx x0 x1).bind fun v4=>
    ((self8 (Dt.L v4 1) false).bind fun r5=>
 (bif (r5 !=0) then
 some r5
 else
 RL m self8 rec3 x0 x1)))
noncomputable def aki (m:Nat) (self8:Q13) (rec3:Q2) (x0:List Dt) (x1:Int) (x2:Bool):Option Int:=
 (bif (Bool.not x2) then
  some 9
 else
  RN m self8 rec3 x0 x1)
noncomputable def CZ (m:Nat) (self8:Q13) (rec3:Q2):Nat→List Dt→Int→Bool→Int→Option Int
 |0,_,_,_,_=>none
 |M6+1,x0,x1,x2,x3=>
  (bif (decide (x3<x1)) then
  akh m self8 rec3 (CZ m self8 rec3 M6) x0 x1 x2 x3
 else
  aki m self8 rec3 x0 x1 x2)
noncomputable def awS (m:Nat) (self8:Q13) (rec3:Q2) (x0:List Dt) (x1:Int) (x2:Bool) (x3:Int):Option Int:=
 CZ m self8 rec3 (Nat.succ m) x0 x1 x2 x3
noncomputable def akj (m:Nat) (self8:Q13) (rec3:Q2) (x0:List Dt) (x1:Int):Option Int:=
  ((idx x0 x1).bind fun v0=>
    ((yV m (Dt.S v0 0)).bind fun r1=>
 awS m self8 rec3 x0 x1 r1 0))
noncomputable def akk (m:Nat) (self8:Q13):Option Int:=
 some 0
noncomputable def Hu (m:Nat) (self8:Q13):Nat→List Dt→Int→Option Int
 |0,_,_=>none
 |M3+1,x0,x1=>
  (bif (decide (x1<(List.length x0:Int))) then
  akj m self8 (Hu m self8 M3) x0 x1
 else
  akk m self8)
noncomputable def awT (m:Nat) (self8:Q13) (x0:List Dt) (x1:Int):Option Int:=
 Hu m self8 (Nat.succ m) x0 x1
noncomputable def awU (m:Nat) (self8:Q13) (x0:List Dt):Option Int:=
 awT m self8 x0 0
noncomputable def Oz (m:Nat) (self8:Q13) (x0:List Dt) (x1:Bool):Option Int:=
 (bif x1 then
  some 21
 else
  awU m self8 x0)
mutual
noncomputable def qV:Nat→List Dt→Bool→Option Int
 |0,_,_=>none
 |m+1,a0,a1=>
  awR m (yK m) a0 a1 0
noncomputable def yK:Nat→Dt→Option Int
  |0,_=>none
  |m+1,a0=>
   (bif ((Dt.I a0 0)==1) then
   ((vA m (Dt.fld a0 1)).bind fun r0=>
 some r0)
  else
   (bif ((Dt.I a0 0)==2) then
 ((qS m (Dt.fld a0 2)).bind fun r1=>
 some r1)
   else
 (bif ((Dt.I a0 0)==3) then
 ((zH m (Dt.L a0 3)).bind fun r2=>
 some r2)
 else
 (bif ((Dt.I a0 0)==8) then
 ((zD m (Dt.fld a0 10)).bind fun r3=>
 some r3)
 else
 (bif ((Dt.I a0 0)==9) then
 ((qM m (Dt.fld a0 11)).bind fun r4=>
 some r4)
 else
 (bif ((Dt.I a0 0)==10) then
 Ow m (zR m) (qT m) (Dt.I a0 0) ((Dt.I a0 0)==10) a0
 else
 Ow m (zR m) (qT m) (Dt.I a0 0) ((Dt.I a0 0)==15) a0))))))
noncomputable def zR:Nat→Dt→Option Int
  |0,_=>none
  |m+1,a0=>
   ((zE m (Dt.S (Dt.fld a0 12) 0)).bind fun r0=>
   (bif (Bool.not r0) then
 some 9
   else
 akg m (qV m) a0 (Dt.fld a0 12)))
noncomputable def qT:Nat→List Dt→Option Int
 |0,_=>none
 |m+1,a0=>
  (bif (decide ((List.length a0:Int)<1)) then
  Oz m (qV m) a0 true
 else
  Oz m (qV m) a0 (decide (32<(List.length a0:Int))))
end
noncomputable def akl (m:Nat) (x0:List Dt):Option Int:=
 ((qV m x0 true).bind fun r1=>
   some r1)
noncomputable def y9:Nat→List Dt→Option Int
  |0,_=>none
  |m+1,a0=>
   ((qW m a0 1).bind fun r0=>
   (bif (decide (32<r0)) then
 some 2
   else
 akl m a0))
noncomputable def akm (m:Nat) (x0:List Dt):Option Bool:=
  ((zV m x0).bind fun r2=>
    ((z8 m x0).bind fun r3=>
 ((zN m r2.1 r3.1).bind fun r4=>
 (bif r4 then
 ((zN m r2.2.1 r3.2.1).bind fun r5=>
 (bif r5 then
 ((qP m r2.2.2 r3.2.2).bind fun r6=>
 (bif r6 then
 ((tL).bind fun r7=>
 some r7)
 else
 some false))
 else
 some false))
 else
 some false))))
noncomputable def yN:Nat→List Dt→Option Bool
  |0,_=>none
  |m+1,a0=>
   ((y9 m a0).bind fun r0=>
   (bif (r0 !=0) then
 ((tL).bind fun r1=>
 some r1)
   else
 akm m a0))
end Go.Proofs.YtjnkagkoolbodaaGreatDoor
