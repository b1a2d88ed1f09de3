/- Generated: what the Go functions compute, over plain data. -/
import Derived.Test.YtmecfjhdnbgfeaaGreatDoorAm20
import Derived.Test.YtmecfjhdnbgfeaaGreatDoorOTx
import Derived.Test.YtmecfjhdnbgfeaaGreatDoorOAwake
set_option linter.unusedVariables false
set_option linter.unusedSimpArgs false
noncomputable section
namespace Go.Proofs.YtmecfjhdnbgfeaaGreatDoor
open Go.Am
abbrev Q0:=Nat→Nat→Nat→St→Option Dt→Option Dt
abbrev Q1:=Nat→Nat→Nat→St→Option Bool→Option Bool
abbrev Q2:=Nat→Nat→Nat→St→Option Int→Option Int
abbrev Q3:=Dt→Dt→Dt→Option Dt
abbrev Q4:=Dt→Bool→Option Bool
abbrev Q5:=Dt→Dt→List Dt→Option Dt
abbrev Q6:=Dt→Dt→Option Int
abbrev Q7:=Dt→Option Dt
abbrev Q8:=Dt→Dt→Option Bool
abbrev Q9:=Dt→Option Bool
abbrev Q10:=Dt→Int→Int→Option (Int×Int)
abbrev Q11:=Dt→List Dt→Option Dt
abbrev Q12:=ByteArray→Int→Option Bool
abbrev Q13:=Dt→Int→Int→Option (Bool×Int×Int)
abbrev Q14:=List Dt→Option Bool
abbrev Q15:=List Dt→Int→Int→Dt→Int→Int→ByteArray→List Dt→List Dt→Option Dt
abbrev Q16:=Dt→Int→Option Int
abbrev Q17:=Bool→Int→Dt→Option Bool
abbrev Q20:=List Dt→Int→Option Bool
abbrev Q21:=List Dt→List Dt→Int→Int→Dt→List Dt→Option (List Dt)
abbrev Q22:=Bool→List Dt→Int→Int→Dt→Dt→Option Dt
abbrev Q23:=List Dt→Int→Int→List Dt→Option Bool
abbrev Q24:=Dt→Option (Int×Int×ByteArray×List Dt×List Dt)
abbrev Q27:=List Dt→Int→Dt→Dt→Option Dt
abbrev Q28:=List Dt→List Dt→Option Bool
abbrev Q29:=ByteArray→Int→Int→Option Bool
abbrev Q30:=Nat→Nat→Nat→St→Option (Int×Int)→Option (Int×Int)
abbrev Q31:=Int→Dt→Dt→Option Int
abbrev Q33:=Int→Dt→Dt→Option Bool
abbrev Q34:=ByteArray→Bool→ByteArray→Int→Option ByteArray
abbrev Q35:=List Dt→Int→Int→Dt→Dt→Int→Int→ByteArray→List Dt→List Dt→Option Dt
abbrev Q38:=List Dt→Int→Dt→Dt→Int→Int→ByteArray→List Dt→List Dt→Option Dt
abbrev Q40:=List Dt→Int→List Dt→Int→Int→Dt→List Dt→Option (List Dt)
abbrev Q41:=Nat→Nat→Nat→St→Option (List Dt)→Option (List Dt)
abbrev Q42:=Int→Int→Dt→Dt→Option Bool
abbrev Q43:=ByteArray→Int→Int→Int→Option Bool
abbrev Q44:=Int→Int→Int→Dt→Option (Int×Int)
abbrev Q46:=Int→Bool→Bool→List Dt→Int→Int→Dt→Option Dt
abbrev Q49:=List Dt→List Dt→Int→Int→Int→Int→Dt→List Dt→Option (List Dt)
abbrev Q50:=Nat→Nat→Nat→St→Option (Bool×Int×Int)→Option (Bool×Int×Int)
abbrev Q52:=List Dt→Int→Int→Dt→Dt→Int→Int→ByteArray→List Dt→Option Dt
abbrev Q54:=List Dt→List Dt→Int→Int→Dt→Int→Int→ByteArray→List Dt→List Dt→Option Dt
abbrev Q67:=List Dt→Int→Dt→Dt→Dt→Dt→Int→Int→ByteArray→List Dt→List Dt→Option Dt
abbrev Q73:=Dt→List Dt→Int→Int→Dt→Dt→Dt→Int→Int→ByteArray→List Dt→List Dt→Option Dt
abbrev Q74:=Int→List Dt→Int→Int→Int→Option (Int×Int)
abbrev Q75:=List Dt→List Dt→Int→Dt→Option (List Dt)
abbrev Q76:=List Dt→Int→List Dt→Int→Int→List Dt→Option (List Dt)
abbrev Q77:=List Dt→Int→Int→Int→Dt→Option (Int×Bool)
abbrev Q78:=Nat→Nat→Nat→St→Option (Int×Bool)→Option (Int×Bool)
abbrev Q79:=Nat→Nat→Nat→St→Option ByteArray→Option ByteArray
abbrev Q80:=Nat→Nat→Nat→St→Option (Dt×Bool)→Option (Dt×Bool)
abbrev Q81:=Nat→Nat→Nat→St→Option (Int×Int×ByteArray×List Dt×List Dt)→Option (Int×Int×ByteArray×List Dt×List Dt)
def kza2373:Dt:=Dt.agg [(Dt.int 0),(Dt.int 0),(Dt.str (ByteArray.mk (List.toArray []))),(Dt.lst []),(Dt.lst [])]
def nC:Dt:=Dt.agg [(Dt.int 2),(Dt.int 0),(Dt.str (ByteArray.mk (List.toArray []))),(Dt.lst []),(Dt.lst [])]
def BM:Dt:=Dt.agg [(Dt.str (ByteArray.mk (List.toArray []))),(Dt.agg [(Dt.int 0),(Dt.int 0),(Dt.str (ByteArray.mk (List.toArray []))),(Dt.lst []),(Dt.lst [])])]
def Ky:Dt:=Dt.agg [(Dt.int 9),(Dt.int 0),(Dt.str (ByteArray.mk (List.toArray []))),(Dt.lst []),(Dt.lst [])]
def Kz:Dt:=Dt.agg [(Dt.int 9),(Dt.int 1),(Dt.str (ByteArray.mk (List.toArray []))),(Dt.lst []),(Dt.lst [])]
def KA:Dt:=Dt.agg [(Dt.int 5),(Dt.int 0),(Dt.str (ByteArray.mk (List.toArray []))),(Dt.lst []),(Dt.lst [])]
def jB (m:Nat) (self22:Q8):Nat→List Dt→List Dt→Int→Int→Option Bool
 |0,_,_,_,_=>none
 |  M2+1,x0,x1,x2,x3=>
    (bif (decide (x3<x2)) then
    (((idx x0 x3).bind fun v0=>((idx x1 x3).bind fun v1=>((self22 v0 v1).bind fun r2=>(bif (Bool.not r2) then some false else((jB m self22 M2) x0 x1 x2 (IntKind.wrap .i64 (x3+1))))))))
 else
    (some true))
def wm (m:Nat) (self22:Q8) (x0 x1:List Dt):Option Bool:=
 (jB m self22 (Nat.succ m) x0 x1 (List.length x0:Int) 0)
def rW (m:Nat) (self5:Q28) (self22:Q8) (rec3:Q42) (x0 x1:Int) (x2:Bool) (x3 x4:Dt):Option Bool:=
 (bif x2 then
    some false
 else
    (rec3 x0 (IntKind.wrap .i64 (x1+1)) x3 x4))
def jV (m:Nat) (self5:Q28) (self22:Q8):Nat→Int→Int→Dt→Dt→Option Bool
 |0,_,_,_,_=>none
 |  M3+1,x0,x1,x2,x3=>
    (bif (decide (x1<x0)) then
    (((idx (Dt.L x2 4) x1).bind fun v0=>((idx (Dt.L x3 4) x1).bind fun v1=>(bif (Bool.not ((ByteArray.toList (Dt.S v0 0))==(ByteArray.toList (Dt.S v1 0)))) then rW m self5 self22 (jV m self5 self22 M3) x0 x1 true x2 x3 else((idx (Dt.L x2 4) x1).bind fun v2=>((idx (Dt.L x3 4) x1).bind fun v3=>((self22 (Dt.fld v2 1) (Dt.fld v3 1)).bind fun r4=>rW m self5 self22 (jV m self5 self22 M3) x0 x1 (Bool.not r4) x2 x3)))))))
 else
    (((self5 (Dt.L x2 3) (Dt.L x3 3)).bind fun r5=>some r5)))
def mV (m:Nat) (self5:Q28) (self22:Q8) (x0:Bool) (x1 x2:Dt):Option Bool:=
 (bif x0 then
    some false
 else
    ((jV m self5 self22 (Nat.succ m) (List.length (Dt.L x1 4):Int) 0 x1 x2)))
mutual
def aZ:Nat→List Dt→List Dt→Option Bool
 |0,_,_=>none
 |  m+1,a0,a1=>
    (bif ((List.length a0:Int) !=(List.length a1:Int)) then
    some false
 else
    wm m (bH m) a0 a1)
def bH:Nat→Dt→Dt→Option Bool
  |0,_,_=>none
  | m+1,a0,a1=>
    (bif ((Dt.I a0 0) !=(Dt.I a1 0)) then
    mV m (aZ m) (bH m) true a0 a1
  else
    (bif ((Dt.I a0 1) !=(Dt.I a1 1)) then
 mV m (aZ m) (bH m) true a0 a1
    else
 (bif (Bool.not ((ByteArray.toList (Dt.S a0 2))==(ByteArray.toList (Dt.S a1 2)))) then
 mV m (aZ m) (bH m) true a0 a1
 else
 mV m (aZ m) (bH m) ((List.length (Dt.L a0 4):Int) !=(List.length (Dt.L a1 4):Int)) a0 a1)))
end
def gD (m:Nat) (self16:Q7):Nat→List Dt→Int→Int→Dt→Int→Int→ByteArray→List Dt→List Dt→Option Dt
 |0,_,_,_,_,_,_,_,_,_=>none
 |  M6+1,x0,x1,x2,x3,x4,x5,x6,x7,x8=>
    (bif (decide (x2<x1)) then
    (((idx x0 x2).bind fun v3=>((self16 (Dt.fld v3 1)).bind fun r4=>((app x8 [(Dt.agg [(Dt.str (Dt.S v3 0)),r4])]).bind fun v5=>((gD m self16 M6) x0 x1 (IntKind.wrap .i64 (x2+1)) x3 x4 x5 x6 x7 v5)))))
 else
    (some (Dt.agg [(Dt.int x4),(Dt.int x5),(Dt.str x6),(Dt.lst x7),(Dt.lst x8)])))
def sS (m:Nat) (self16:Q7) (x0 x1:Dt) (x2 x3:Int) (x4:ByteArray) (x5 x6:List Dt):Option Dt:=
 (gD m self16 (Nat.succ m) (Dt.L x0 4) (List.length (Dt.L x0 4):Int) 0 x1 x2 x3 x4 x5 x6)
def eu (m:Nat) (self16:Q7):Nat→List Dt→Int→Int→Dt→Dt→Int→Int→ByteArray→List Dt→List Dt→Option Dt
 |0,_,_,_,_,_,_,_,_,_,_=>none
 |  M1+1,x0,x1,x2,x3,x4,x5,x6,x7,x8,x9=>
    (bif (decide (x2<x1)) then
    (((idx x0 x2).bind fun v0=>((self16 v0).bind fun r1=>((app x8 [r1]).bind fun v2=>((eu m self16 M1) x0 x1 (IntKind.wrap .i64 (x2+1)) x3 x4 x5 x6 x7 v2 x9)))))
 else
    sS m self16 x3 x4 x5 x6 x7 x8 x9)
def aL:Nat→Dt→Option Dt
 |0,_=>none
 |  m+1,a0=>
    (eu m (aL m) (Nat.succ m) (Dt.L a0 3) (List.length (Dt.L a0 3):Int) 0 a0 kza2373 (Dt.I a0 0) (Dt.I a0 1) (Dt.S a0 2) [] [])
def rz:Nat→Option Dt
 |0=>none
 |  m+1=>
    some nC
def xG (m:Nat) (self29:Q7) (rec1:Q52) (x0:List Dt) (x1 x2:Int) (x3 x4:Dt) (x5 x6:Int) (x7:ByteArray) (x8:List Dt):Option Dt:=
 rec1 x0 x1 (IntKind.wrap .i64 (x2+1)) x3 x4 x5 x6 x7 x8
def xH (m:Nat) (self29:Q7) (rec1:Q52) (x0:List Dt) (x1 x2:Int) (x3 x4:Dt) (x5 x6:Int) (x7:ByteArray) (x8:List Dt):Option Dt:=
  ((idx x0 x2).bind fun v1=>
    ((self29 v1).bind fun r2=>
 ((inL x8 x2).bind fun v3=>
 ((x8[(Int.toNat x2)]?).bind fun v4=>
 xG m self29 rec1 x0 x1 x2 x3 x4 x5 x6 x7 (List.set x8 (Int.toNat x2) r2)))))
def xI (m:Nat) (self29:Q7) (rec6:Q15) (x0:List Dt) (x1 x2:Int) (x3:Dt) (x4 x5:Int) (x6:ByteArray) (x7 x8:List Dt):Option Dt:=
 rec6 x0 x1 (IntKind.wrap .i64 (x2+1)) x3 x4 x5 x6 x7 x8
def xJ (m:Nat) (self29:Q7) (rec6:Q15) (x0:List Dt) (x1 x2:Int) (x3:Dt) (x4 x5:Int) (x6:ByteArray) (x7 x8:List Dt):Option Dt:=
  ((idx x0 x2).bind fun v6=>
    ((self29 (Dt.fld v6 1)).bind fun r7=>
 ((inL x8 x2).bind fun v8=>
 ((x8[(Int.toNat x2)]?).bind fun v9=>
 xI m self29 rec6 x0 x1 x2 x3 x4 x5 x6 x7 (List.set x8 (Int.toNat x2) (Dt.agg [(Dt.str (Dt.S v6 0)),r7]))))))
def xK (m:Nat) (self29:Q7) (x0:Dt) (x1 x2:Int) (x3:ByteArray) (x4 x5:List Dt):Option Dt:=
 some (Dt.agg [(Dt.int x1),(Dt.int x2),(Dt.str x3),(Dt.lst x4),(Dt.lst x5)])
def mW (m:Nat) (self29:Q7):Nat→List Dt→Int→Int→Dt→Int→Int→ByteArray→List Dt→List Dt→Option Dt
 |0,_,_,_,_,_,_,_,_,_=>none
 |  M6+1,x0,x1,x2,x3,x4,x5,x6,x7,x8=>
    (bif (decide (x2<x1)) then
    xJ m self29 (mW m self29 M6) x0 x1 x2 x3 x4 x5 x6 x7 x8
 else
    xK m self29 x3 x4 x5 x6 x7 x8)
def Ag (m:Nat) (self29:Q7) (x0:Dt) (x1 x2:Int) (x3:ByteArray) (x4:List Dt):Option Dt:=
 some (Dt.agg [(Dt.int x1),(Dt.int x2),(Dt.str x3),(Dt.lst x4),(Dt.lst [])])
def xL (m:Nat) (self29:Q7) (x0 x1:Dt) (x2 x3:Int) (x4:ByteArray) (x5:List Dt):Option Dt:=
  (bif (decide (0<(List.length (Dt.L x0 4):Int))) then
    ((mkL (List.length (Dt.L x0 4):Int) (List.length (Dt.L x0 4):Int) BM).bind fun v5=>
 (mW m self29 (Nat.succ m) (Dt.L x0 4) (List.length (Dt.L x0 4):Int) 0 x1 x2 x3 x4 x5 v5))
  else
    Ag m self29 x1 x2 x3 x4 x5)
def jW (m:Nat) (self29:Q7):Nat→List Dt→Int→Int→Dt→Dt→Int→Int→ByteArray→List Dt→Option Dt
 |0,_,_,_,_,_,_,_,_,_=>none
 |  M1+1,x0,x1,x2,x3,x4,x5,x6,x7,x8=>
    (bif (decide (x2<x1)) then
    xH m self29 (jW m self29 M1) x0 x1 x2 x3 x4 x5 x6 x7 x8
 else
    xL m self29 x3 x4 x5 x6 x7 x8)
def uJ (m:Nat) (self29:Q7) (rec13:Q15) (x0:List Dt) (x1 x2:Int) (x3:Dt) (x4 x5:Int) (x6:ByteArray) (x7 x8:List Dt):Option Dt:=
 rec13 x0 x1 (IntKind.wrap .i64 (x2+1)) x3 x4 x5 x6 x7 x8
def uK (m:Nat) (self29:Q7) (rec13:Q15) (x0:List Dt) (x1 x2:Int) (x3:Dt) (x4 x5:Int) (x6:ByteArray) (x7 x8:List Dt):Option Dt:=
  ((idx x0 x2).bind fun v11=>
    ((self29 (Dt.fld v11 1)).bind fun r12=>
 ((inL x8 x2).bind fun v13=>
 ((x8[(Int.toNat x2)]?).bind fun v14=>
 uJ m self29 rec13 x0 x1 x2 x3 x4 x5 x6 x7 (List.set x8 (Int.toNat x2) (Dt.agg [(Dt.str (Dt.S v11 0)),r12]))))))
def uL (m:Nat) (self29:Q7) (x0:Dt) (x1 x2:Int) (x3:ByteArray) (x4 x5:List Dt):Option Dt:=
 some (Dt.agg [(Dt.int x1),(Dt.int x2),(Dt.str x3),(Dt.lst x4),(Dt.lst x5)])
def j6 (m:Nat) (self29:Q7):Nat→List Dt→Int→Int→Dt→Int→Int→ByteArray→List Dt→List Dt→Option Dt
 |0,_,_,_,_,_,_,_,_,_=>none
 |  M13+1,x0,x1,x2,x3,x4,x5,x6,x7,x8=>
    (bif (decide (x2<x1)) then
    uK m self29 (j6 m self29 M13) x0 x1 x2 x3 x4 x5 x6 x7 x8
 else
    uL m self29 x3 x4 x5 x6 x7 x8)
def Ah (m:Nat) (self29:Q7) (x0 x1:Dt):Option Dt:=
 some x1
def Ai (m:Nat) (self29:Q7) (x0 x1 x2:Dt):Option Dt:=
  (bif (decide (0<(List.length (Dt.L x0 4):Int))) then
    ((mkL (List.length (Dt.L x0 4):Int) (List.length (Dt.L x0 4):Int) BM).bind fun v10=>
 (j6 m self29 (Nat.succ m) (Dt.L x0 4) (List.length (Dt.L x0 4):Int) 0 x1 (Dt.I x2 0) (Dt.I x2 1) (Dt.S x2 2) (Dt.L x2 3) v10))
  else
    Ah m self29 x1 x2)
def aJ:Nat→Dt→Option Dt
  |0,_=>none
  | m+1,a0=>
    (bif (decide (0<(List.length (Dt.L a0 3):Int))) then
    ((mkL (List.length (Dt.L a0 3):Int) (List.length (Dt.L a0 3):Int) kza2373).bind fun v0=>
 (jW m (aJ m) (Nat.succ m) (Dt.L a0 3) (List.length (Dt.L a0 3):Int) 0 a0 kza2373 (Dt.I a0 0) (Dt.I a0 1) (Dt.S a0 2) v0))
  else
    Ai m (aJ m) a0 kza2373 (Dt.agg [(Dt.int (Dt.I a0 0)),(Dt.int (Dt.I a0 1)),(Dt.str (Dt.S a0 2)),(Dt.lst []),(Dt.lst [])]))
def mh:Nat→Int→Option Dt
 |0,_=>none
 |  m+1,a0=>
    some (Dt.agg [(Dt.int 3),(Dt.int a0),(Dt.str (ByteArray.mk (List.toArray []))),(Dt.lst []),(Dt.lst [])])
def fB:Nat→Dt→Int→Option Dt
 |0,_,_=>none
 |  m+1,a0,a1=>
    ((mh m a1).bind fun r0=>
    some (Dt.agg [(Dt.int 5),(Dt.int 0),(Dt.str (ByteArray.mk (List.toArray []))),(Dt.lst []),(Dt.lst [(Dt.agg [(Dt.str (ByteArray.mk (List.toArray [95,105,100]))),a0]),(Dt.agg [(Dt.str (ByteArray.mk (List.toArray [99,111,117,110,116]))),r0])])]))
def bI:Nat→Int→Int→Option Int
 |0,_,_=>none
 |  m+1,a0,a1=>
    (bif (decide (a0<a1)) then
    some (-1)
 else
    ((bif (decide (a1<a0)) then some 1 else(some 0))))
def nM (m:Nat):Nat→ByteArray→ByteArray→Int→Option Int
  |0,_,_,_=>none
  | M1+1,x0,x1,x2=>
    (bif (decide (x2<(ByteArray.size x0:Int))) then
    (bif (decide (x2<(ByteArray.size x1:Int))) then
 (((idxS x0 x2).bind fun v0=>((idxS x1 x2).bind fun v1=>(bif (v0 !=v1) then((idxS x0 x2).bind fun v2=>((idxS x1 x2).bind fun v3=>((bI m (IntKind.wrap .i64 v2) (IntKind.wrap .i64 v3)).bind fun r4=>some r4))) else((nM m M1) x0 x1 (IntKind.wrap .i64 (x2+1)))))))
    else
 (((bI m (ByteArray.size x0:Int) (ByteArray.size x1:Int)).bind fun r5=>some r5)))
  else
    (((bI m (ByteArray.size x0:Int) (ByteArray.size x1:Int)).bind fun r5=>some r5)))
def iq:Nat→ByteArray→ByteArray→Option Int
 |0,_,_=>none
 |  m+1,a0,a1=>
    (nM m (Nat.succ m) a0 a1 0)
def ko (m:Nat) (self18:Q6) (x0 x1:Dt):Option Int:=
 (( bI m (List.length (Dt.L x0 3):Int) (List.length (Dt.L x1 3):Int)).bind fun r6=>
    some r6)
def kr (m:Nat) (self18:Q6):Nat→Int→Dt→Dt→Option Int
  |0,_,_,_=>none
  | M4+1,x0,x1,x2=>
    (bif (decide (x0<(List.length (Dt.L x1 3):Int))) then
    (bif (decide (x0<(List.length (Dt.L x2 3):Int))) then
 (((idx (Dt.L x1 3) x0).bind fun v3=>((idx (Dt.L x2 3) x0).bind fun v4=>((self18 v3 v4).bind fun r5=>(bif (r5 !=0) then some r5 else((kr m self18 M4) (IntKind.wrap .i64 (x0+1)) x1 x2))))))
    else
 ko m self18 x1 x2)
  else
    ko m self18 x1 x2)
def rA (m:Nat) (self18:Q6) (x0:Int) (x1 x2:Dt):Option Int:=
 kr m self18 (Nat.succ m) x0 x1 x2
def nD (m:Nat) (self18:Q6) (rec9:Q31) (x0 x1:Int) (x2 x3:Dt):Option Int:=
 (bif (x1 !=0) then
    some x1
 else
    (rec9 (IntKind.wrap .i64 (x0+1)) x2 x3))
def jC (m:Nat) (self18:Q6) (x0 x1:Dt):Option Int:=
 (( bI m (List.length (Dt.L x0 4):Int) (List.length (Dt.L x1 4):Int)).bind fun r13=>
    some r13)
def fJ (m:Nat) (self18:Q6):Nat→Int→Dt→Dt→Option Int
  |0,_,_,_=>none
  | M9+1,x0,x1,x2=>
    (bif (decide (x0<(List.length (Dt.L x1 4):Int))) then
    (bif (decide (x0<(List.length (Dt.L x2 4):Int))) then
 (((idx (Dt.L x1 4) x0).bind fun v7=>((idx (Dt.L x2 4) x0).bind fun v8=>((iq m (Dt.S v7 0) (Dt.S v8 0)).bind fun r9=>(bif (r9==0) then((idx (Dt.L x1 4) x0).bind fun v10=>((idx (Dt.L x2 4) x0).bind fun v11=>((self18 (Dt.fld v10 1) (Dt.fld v11 1)).bind fun r12=>nD m self18 (fJ m self18 M9) x0 r12 x1 x2))) else nD m self18 (fJ m self18 M9) x0 r9 x1 x2)))))
    else
 jC m self18 x1 x2)
  else
    jC m self18 x1 x2)
def rF (m:Nat) (self18:Q6) (x0:Int) (x1 x2:Dt):Option Int:=
 fJ m self18 (Nat.succ m) x0 x1 x2
def wo (m:Nat) (self18:Q6):Option Int:=
 some 0
def ku (m:Nat) (self18:Q6) (x0:Int) (x1:Bool) (x2 x3:Dt):Option Int:=
  (bif x1 then
    ((iq m (Dt.S x2 2) (Dt.S x3 2)).bind fun r2=>
 some r2)
  else
    (bif (x0==6) then
 rA m self18 0 x2 x3
    else
 (bif (x0==5) then
 rF m self18 0 x2 x3
 else
 wo m self18)))
def kC (m:Nat) (self18:Q6) (x0:Int) (x1:Bool) (x2 x3:Dt):Option Int:=
  (bif x1 then
    ((bI m (Dt.I x2 1) (Dt.I x3 1)).bind fun r1=>
 some r1)
  else
    (bif (x0==4) then
 ku m self18 x0 (x0==4) x2 x3
    else
 (bif (x0==7) then
 ku m self18 x0 (x0==7) x2 x3
 else
 ku m self18 x0 (x0==8) x2 x3)))
def ow (m:Nat) (self18:Q6) (x0 x1:Dt):Option Int:=
  (bif ((Dt.I x0 0)==3) then
    kC m self18 (Dt.I x0 0) ((Dt.I x0 0)==3) x0 x1
  else
    (bif ((Dt.I x0 0)==9) then
 kC m self18 (Dt.I x0 0) ((Dt.I x0 0)==9) x0 x1
    else
 kC m self18 (Dt.I x0 0) ((Dt.I x0 0)==10) x0 x1))
def aA:Nat→Dt→Dt→Option Int
  |0,_,_=>none
  | m+1,a0,a1=>
    (bif ((Dt.I a0 0) !=(Dt.I a1 0)) then
    ((bI m (Dt.I a0 0) (Dt.I a1 0)).bind fun r0=>
 some r0)
  else
    ow m (aA m) a0 a1)
def oP:Nat→Int→Option Dt
 |0,_=>none
 |  m+1,a0=>
    some (Dt.agg [(Dt.int 3),(Dt.int a0),(Dt.str (ByteArray.mk (List.toArray []))),(Dt.lst []),(Dt.lst [])])
def iw:Nat→Dt→Int→Option Dt
 |0,_,_=>none
 |  m+1,a0,a1=>
    ((oP m a1).bind fun r0=>
    some (Dt.agg [(Dt.int 5),(Dt.int 0),(Dt.str (ByteArray.mk (List.toArray []))),(Dt.lst []),(Dt.lst [(Dt.agg [(Dt.str (ByteArray.mk (List.toArray [95,105,100]))),a0]),(Dt.agg [(Dt.str (ByteArray.mk (List.toArray [99,111,117,110,116]))),r0])])]))
def qg:Nat→Int→Option Bool
 |0,_=>none
 |  m+1,a0=>
    some (a0 !=a0)
def cZ:Nat→Int→Int→Option Int
  |0,_,_=>none
  | m+1,a0,a1=>
    ((qg m a0).bind fun r0=>
    ((qg m a1).bind fun r1=>
 (bif r0 then
 (bif r1 then
 some 0
 else
 (some (-1)))
 else
 ((bif r1 then some 1 else((bif (decide (a0<a1)) then some (-1) else((bif (decide (a1<a0)) then some 1 else(some 0))))))))))
def kD (m:Nat) (self13:Q6):Nat→Int→Int→Dt→Dt→Option Int
 |0,_,_,_,_=>none
 |  M4+1,x0,x1,x2,x3=>
    (bif (decide (x1<x0)) then
    (((idx (Dt.L x2 3) x1).bind fun v3=>((idx (Dt.L x3 3) x1).bind fun v4=>((self13 v3 v4).bind fun r5=>(bif (r5 !=0) then some r5 else((kD m self13 M4) x0 (IntKind.wrap .i64 (x1+1)) x2 x3))))))
 else
    (((cZ m (List.length (Dt.L x2 3):Int) (List.length (Dt.L x3 3):Int)).bind fun r6=>some r6)))
def rG (m:Nat) (self13:Q6) (x0 x1:Int) (x2 x3:Dt):Option Int:=
 kD m self13 (Nat.succ m) x0 x1 x2 x3
def kE (m:Nat) (self13:Q6):Nat→Int→Int→Dt→Dt→Option Int
 |0,_,_,_,_=>none
 |  M9+1,x0,x1,x2,x3=>
    (bif (decide (x1<x0)) then
    (((idx (Dt.L x2 4) x1).bind fun v7=>((idx (Dt.L x3 4) x1).bind fun v8=>((strings_Compare (Dt.S v7 0) (Dt.S v8 0)).bind fun r9=>(bif (r9 !=0) then some r9 else(((idx (Dt.L x2 4) x1).bind fun v10=>((idx (Dt.L x3 4) x1).bind fun v11=>((self13 (Dt.fld v10 1) (Dt.fld v11 1)).bind fun r12=>(bif (r12 !=0) then some r12 else((kE m self13 M9) x0 (IntKind.wrap .i64 (x1+1)) x2 x3)))))))))))
 else
    (((cZ m (List.length (Dt.L x2 4):Int) (List.length (Dt.L x3 4):Int)).bind fun r13=>some r13)))
def rH (m:Nat) (self13:Q6) (x0 x1:Int) (x2 x3:Dt):Option Int:=
 kE m self13 (Nat.succ m) x0 x1 x2 x3
def wu (m:Nat) (self13:Q6):Option Int:=
 some 0
def kF (m:Nat) (self13:Q6) (x0:Int) (x1:Bool) (x2 x3:Dt):Option Int:=
  (bif x1 then
    ((strings_Compare (Dt.S x2 2) (Dt.S x3 2)).bind fun r2=>
 some r2)
  else
    (bif (x0==6) then
 rG m self13 (bif (decide ((List.length (Dt.L x3 3):Int)<(List.length (Dt.L x2 3):Int))) then(List.length (Dt.L x3 3):Int) else(List.length (Dt.L x2 3):Int)) 0 x2 x3
    else
 (bif (x0==5) then
 rH m self13 (bif (decide ((List.length (Dt.L x3 4):Int)<(List.length (Dt.L x2 4):Int))) then(List.length (Dt.L x3 4):Int) else(List.length (Dt.L x2 4):Int)) 0 x2 x3
 else
 wu m self13)))
def kG (m:Nat) (self13:Q6) (x0:Int) (x1:Bool) (x2 x3:Dt):Option Int:=
  (bif x1 then
    ((cZ m (Dt.I x2 1) (Dt.I x3 1)).bind fun r1=>
 some r1)
  else
    (bif (x0==4) then
 kF m self13 x0 (x0==4) x2 x3
    else
 (bif (x0==7) then
 kF m self13 x0 (x0==7) x2 x3
 else
 kF m self13 x0 (x0==8) x2 x3)))
def oz (m:Nat) (self13:Q6) (x0 x1:Dt):Option Int:=
  (bif ((Dt.I x0 0)==3) then
    kG m self13 (Dt.I x0 0) ((Dt.I x0 0)==3) x0 x1
  else
    (bif ((Dt.I x0 0)==9) then
 kG m self13 (Dt.I x0 0) ((Dt.I x0 0)==9) x0 x1
    else
 kG m self13 (Dt.I x0 0) ((Dt.I x0 0)==10) x0 x1))
def ay:Nat→Dt→Dt→Option Int
  |0,_,_=>none
  | m+1,a0,a1=>
    (bif ((Dt.I a0 0) !=(Dt.I a1 0)) then
    ((cZ m (Dt.I a0 0) (Dt.I a1 0)).bind fun r0=>
 some r0)
  else
    oz m (ay m) a0 a1)
def aep (m:Nat) (rec1:Q77) (x0:List Dt) (x1 x2 x3:Int) (x4:Dt):Option (Int×Bool):=
  ((idx x0 (IntKind.wrap .i64 (shrI IntKind.u64 (IntKind.wrap IntKind.u64 (IntKind.wrap .i64 (x2+x3))) 1))).bind fun v0=>
    ((ay m v0 x4).bind fun r1=>
 (bif (decide (r1<0)) then
 rec1 x0 x1 (IntKind.wrap .i64 ((IntKind.wrap .i64 (shrI IntKind.u64 (IntKind.wrap IntKind.u64 (IntKind.wrap .i64 (x2+x3))) 1))+1)) x3 x4
 else
 rec1 x0 x1 x2 (IntKind.wrap .i64 (shrI IntKind.u64 (IntKind.wrap IntKind.u64 (IntKind.wrap .i64 (x2+x3))) 1)) x4)))
def aer (m:Nat) (x0:List Dt) (x1 x2:Int) (x3:Dt):Option (Int×Bool):=
  (bif (decide (x2<x1)) then
    ((idx x0 x2).bind fun v2=>
 ((ay m v2 x3).bind fun r3=>
 some (x2,(r3==0))))
  else
    some (x2,false))
def KZ (m:Nat):Nat→List Dt→Int→Int→Int→Dt→Option (Int×Bool)
 |0,_,_,_,_,_=>none
 |  M1+1,x0,x1,x2,x3,x4=>
    (bif (decide (x2<x3)) then
    aep m (KZ m M1) x0 x1 x2 x3 x4
 else
    aer m x0 x1 x2 x4)
def i15:Nat→List Dt→Dt→Option (Int×Bool)
 |0,_,_=>none
 |  m+1,a0,a1=>
    (KZ m (Nat.succ m) a0 (List.length a0:Int) 0 (List.length a0:Int) a1)
def aT:Nat→Option Dt
 |0=>none
 |  m+1=>
    some nC
def aS:Nat→Option Dt
 |0=>none
 |  m+1=>
    some nC
def fU (m:Nat) (rec3:Q12) (x0:ByteArray) (x1:Int) (x2:Bool):Option Bool:=
 (bif x2 then
    some false
 else
    (rec3 x0 (IntKind.wrap .i64 (x1+1))))
def fV (m:Nat):Nat→ByteArray→Int→Option Bool
 |0,_,_=>none
 |  M3+1,x0,x1=>
    (bif (decide (x1<(ByteArray.size x0:Int))) then
    (((idxS x0 x1).bind fun v0=>(bif (decide (v0<33)) then fU m (fV m M3) x0 x1 true else((idxS x0 x1).bind fun v1=>(bif (decide (126<v1)) then fU m (fV m M3) x0 x1 true else((idxS x0 x1).bind fun v2=>fU m (fV m M3) x0 x1 (v2==46)))))))
 else
    (some true))
def fZ (m:Nat) (x0:ByteArray) (x1:Bool):Option Bool:=
 (bif x1 then
    some false
 else
    ((fV m (Nat.succ m) x0 0)))
def fK:Nat→ByteArray→Option Bool
  |0,_=>none
  | m+1,a0=>
    (bif (decide ((ByteArray.size a0:Int)<1)) then
    fZ m a0 true
  else
    (bif (decide (32<(ByteArray.size a0:Int))) then
 fZ m a0 true
    else
 ((idxS a0 0).bind fun v3=>
 fZ m a0 (v3==36))))
def kH (m:Nat):Nat→List Dt→Int→Option Bool
 |0,_,_=>none
 |  M3+1,x0,x1=>
    (bif (decide (x1<(List.length x0:Int))) then
    (((idx x0 x1).bind fun v0=>((fK m (Dt.toStr v0)).bind fun r1=>(bif (Bool.not r1) then some false else((kH m M3) x0 (IntKind.wrap .i64 (x1+1)))))))
 else
    (some true))
def kI (m:Nat) (x0:List Dt) (x1:Bool):Option Bool:=
 (bif x1 then
    some false
 else
    ((kH m (Nat.succ m) x0 0)))
def gF:Nat→List Dt→Option Bool
 |0,_=>none
 |  m+1,a0=>
    (bif (decide ((List.length a0:Int)<1)) then
    kI m a0 true
 else
    kI m a0 (decide (16<(List.length a0:Int))))
def kJ (m:Nat) (self51:Q8) (rec8:Q33) (x0:Int) (x1:Bool) (x2 x3:Dt):Option Bool:=
 (bif x1 then
    some false
 else
    (rec8 (IntKind.wrap .i64 (x0+1)) x2 x3))
def mX (m:Nat) (self51:Q8):Nat→Int→Dt→Dt→Option Bool
 |0,_,_,_=>none
 |  M8+1,x0,x1,x2=>
    (bif (decide (x0<(List.length (Dt.L x1 4):Int))) then
    (((idx (Dt.L x1 4) x0).bind fun v3=>((idx (Dt.L x2 4) x0).bind fun v4=>(bif (Bool.not ((ByteArray.toList (Dt.S v3 0))==(ByteArray.toList (Dt.S v4 0)))) then kJ m self51 (mX m self51 M8) x0 true x1 x2 else((idx (Dt.L x1 4) x0).bind fun v5=>((idx (Dt.L x2 4) x0).bind fun v6=>((self51 (Dt.fld v5 1) (Dt.fld v6 1)).bind fun r7=>kJ m self51 (mX m self51 M8) x0 (Bool.not r7) x1 x2)))))))
 else
    (some true))
def rX (m:Nat) (self51:Q8):Nat→Int→Dt→Dt→Option Bool
 |0,_,_,_=>none
 |  M3+1,x0,x1,x2=>
    (bif (decide (x0<(List.length (Dt.L x1 3):Int))) then
    (((idx (Dt.L x1 3) x0).bind fun v0=>((idx (Dt.L x2 3) x0).bind fun v1=>((self51 v0 v1).bind fun r2=>(bif (Bool.not r2) then some false else((rX m self51 M3) (IntKind.wrap .i64 (x0+1)) x1 x2))))))
 else
    ((mX m self51 (Nat.succ m) 0 x1 x2)))
def bP (m:Nat) (self51:Q8) (x0:Bool) (x1 x2:Dt):Option Bool:=
 (bif x0 then
    some false
 else
    ((rX m self51 (Nat.succ m) 0 x1 x2)))
def aF:Nat→Dt→Dt→Option Bool
  |0,_,_=>none
  | m+1,a0,a1=>
    (bif ((Dt.I a0 0) !=(Dt.I a1 0)) then
    bP m (aF m) true a0 a1
  else
    (bif ((Dt.I a0 1) !=(Dt.I a1 1)) then
 bP m (aF m) true a0 a1
    else
 (bif (Bool.not ((ByteArray.toList (Dt.S a0 2))==(ByteArray.toList (Dt.S a1 2)))) then
 bP m (aF m) true a0 a1
 else
 (bif ((List.length (Dt.L a0 3):Int) !=(List.length (Dt.L a1 3):Int)) then
 bP m (aF m) true a0 a1
 else
 bP m (aF m) ((List.length (Dt.L a0 4):Int) !=(List.length (Dt.L a1 4):Int)) a0 a1))))
def nN (m:Nat) (rec1:Q20):Nat→List Dt→Int→Int→Option Bool
 |0,_,_,_=>none
 |  M5+1,x0,x1,x2=>
    (bif (decide (x2<x1)) then
    (((idx x0 x2).bind fun v2=>((idx x0 x1).bind fun v3=>(bif ((ByteArray.toList (Dt.toStr v2))==(ByteArray.toList (Dt.toStr v3))) then some false else((nN m rec1 M5) x0 x1 (IntKind.wrap .i64 (x2+1)))))))
 else
    (rec1 x0 (IntKind.wrap .i64 (x1+1))))
def iR (m:Nat):Nat→List Dt→Int→Option Bool
 |0,_,_=>none
 |  M1+1,x0,x1=>
    (bif (decide (x1<(List.length x0:Int))) then
    (((idx x0 x1).bind fun v0=>((fK m (Dt.toStr v0)).bind fun r1=>(bif (Bool.not r1) then some false else((nN m (iR m M1) (Nat.succ m) x0 x1 0))))))
 else
    (some true))
def lG:Nat→List Dt→Option Bool
 |0,_=>none
 |  m+1,a0=>
    (iR m (Nat.succ m) a0 0)
def eO (m:Nat) (x0:Bool):Option Int:=
 (bif x0 then
    some (-1)
 else
    (some 2))
def xM (m:Nat) (x0:Int) (x1:Bool):Option Int:=
  (bif x1 then
    some 3
  else
    (bif (x0==4) then
 eO m (x0==4)
    else
 (bif (x0==6) then
 eO m (x0==6)
 else
 (bif (x0==16) then
 eO m (x0==16)
 else
 (bif (x0==17) then
 eO m (x0==17)
 else
 (bif (x0==21) then
 eO m (x0==21)
 else
 (bif (x0==29) then
 eO m (x0==29)
 else
 (bif (x0==37) then
 eO m (x0==37)
 else
 (bif (x0==35) then
 eO m (x0==35)
 else
 eO m (x0==34))))))))))
def gq (m:Nat) (x0:Int) (x1:Bool):Option Int:=
  (bif x1 then
    some 1
  else
    (bif (x0==19) then
 xM m x0 (x0==19)
    else
 xM m x0 (x0==25)))
def rY (m:Nat) (x0:Int) (x1:Bool):Option Int:=
  (bif x1 then
    some 0
  else
    (bif (x0==18) then
 gq m x0 (x0==18)
    else
 (bif (x0==22) then
 gq m x0 (x0==22)
 else
 (bif (x0==23) then
 gq m x0 (x0==23)
 else
 (bif (x0==24) then
 gq m x0 (x0==24)
 else
 (bif (x0==26) then
 gq m x0 (x0==26)
 else
 (bif (x0==30) then
 gq m x0 (x0==30)
 else
 (bif (x0==31) then
 gq m x0 (x0==31)
 else
 gq m x0 (x0==36)))))))))
def nO:Nat→Int→Option Int
  |0,_=>none
  | m+1,a0=>
    (bif (a0==1) then
    rY m a0 (a0==1)
  else
    (bif (a0==2) then
 rY m a0 (a0==2)
    else
 rY m a0 (a0==3)))
def nP:Nat→Dt→Option Bool
  |0,_=>none
  | m+1,a0=>
    (bif ((Dt.I a0 0)==0) then
    (bif ((Dt.I a0 1)==0) then
 (bif ((ByteArray.toList (Dt.S a0 2))==[]) then
 (bif ((List.length (Dt.L a0 3):Int)==0) then
 some ((List.length (Dt.L a0 4):Int)==0)
 else
 some false)
 else
 some false)
    else
 some false)
  else
    some false)
def iy (m:Nat) (x0:Int) (x1:Bool):Option Int:=
  (bif x1 then
    some 5
  else
    (bif (x0==35) then
 some 6
    else
 (bif (x0==34) then
 some 7
 else
 (some 2))))
def xO (m:Nat) (x0:Int) (x1:Bool):Option Int:=
  (bif x1 then
    some 4
  else
    (bif (x0==4) then
 iy m x0 (x0==4)
    else
 (bif (x0==6) then
 iy m x0 (x0==6)
 else
 (bif (x0==16) then
 iy m x0 (x0==16)
 else
 (bif (x0==17) then
 iy m x0 (x0==17)
 else
 (bif (x0==21) then
 iy m x0 (x0==21)
 else
 (bif (x0==29) then
 iy m x0 (x0==29)
 else
 iy m x0 (x0==37))))))))
def xP (m:Nat) (x0:Int) (x1:Bool):Option Int:=
  (bif x1 then
    some 3
  else
    (bif (x0==19) then
 xO m x0 (x0==19)
    else
 xO m x0 (x0==25)))
def gu (m:Nat) (x0:Int) (x1:Bool):Option Int:=
  (bif x1 then
    some 1
  else
    (bif (x0==32) then
 xP m x0 (x0==32)
    else
 xP m x0 (x0==33)))
def rZ (m:Nat) (x0:Int) (x1:Bool):Option Int:=
  (bif x1 then
    some 0
  else
    (bif (x0==18) then
 gu m x0 (x0==18)
    else
 (bif (x0==22) then
 gu m x0 (x0==22)
 else
 (bif (x0==23) then
 gu m x0 (x0==23)
 else
 (bif (x0==24) then
 gu m x0 (x0==24)
 else
 (bif (x0==26) then
 gu m x0 (x0==26)
 else
 (bif (x0==30) then
 gu m x0 (x0==30)
 else
 (bif (x0==31) then
 gu m x0 (x0==31)
 else
 gu m x0 (x0==36)))))))))
def nQ:Nat→Int→Option Int
  |0,_=>none
  | m+1,a0=>
    (bif (a0==1) then
    rZ m a0 (a0==1)
  else
    (bif (a0==2) then
 rZ m a0 (a0==2)
    else
 rZ m a0 (a0==3)))
def tN (m:Nat) (x0 x1:Int) (x2:Bool):Option Bool:=
  (bif x2 then
    some (x0==2)
  else
    (bif (x1==4) then
 some (x0==3)
    else
 (bif (x1==7) then
 some (decide (1≤x0))
 else
 (some true))))
def oC:Nat→Int→Int→Option Bool
  |0,_,_=>none
  | m+1,a0,a1=>
    (bif (a0==0) then
    some (a1==0)
  else
    (bif (a0==1) then
 some (a1==1)
    else
 (bif (a0==2) then
 tN m a1 a0 (a0==2)
 else
 tN m a1 a0 (a0==3))))
def mo (m:Nat) (self64:Q11):Nat→List Dt→List Dt→Int→Int→Dt→Option Dt
 |0,_,_,_,_,_=>none
 |  M2+1,x0,x1,x2,x3,x4=>
    (bif (decide (x3<x2)) then
    (((idx x1 x3).bind fun v0=>((idx x0 0).bind fun v1=>(bif ((ByteArray.toList (Dt.S v0 0))==(ByteArray.toList (Dt.toStr v1))) then((cutL x0 1 (List.length x0:Int)).bind fun v2=>((self64 (Dt.fld v0 1) v2).bind fun r3=>some r3)) else((mo m self64 M2) x0 x1 x2 (IntKind.wrap .i64 (x3+1)) x4)))))
 else
    (some kza2373))
def gN (m:Nat) (self64:Q11) (rec7:Q54) (x0 x1:List Dt) (x2 x3:Int) (x4:Dt) (x5 x6:Int) (x7:ByteArray) (x8 x9:List Dt):Option Dt:=
 rec7 x0 x1 x2 (IntKind.wrap .i64 (x3+1)) x4 x5 x6 x7 x8 x9
def gP (m:Nat) (self64:Q11):Nat→List Dt→List Dt→Int→Int→Dt→Int→Int→ByteArray→List Dt→List Dt→Option Dt
 |0,_,_,_,_,_,_,_,_,_,_=>none
 |  M7+1,x0,x1,x2,x3,x4,x5,x6,x7,x8,x9=>
    (bif (decide (x3<x2)) then
    (((idx x1 x3).bind fun v4=>((self64 v4 x0).bind fun r5=>(bif ((Dt.I r5 0) !=0) then((app x8 [r5]).bind fun v6=>gN m self64 (gP m self64 M7) x0 x1 x2 x3 x4 x5 x6 x7 v6 x9) else gN m self64 (gP m self64 M7) x0 x1 x2 x3 x4 x5 x6 x7 x8 x9))))
 else
    (some (Dt.agg [(Dt.int x5),(Dt.int x6),(Dt.str x7),(Dt.lst x8),(Dt.lst x9)])))
def jr (m:Nat) (self64:Q11) (x0:List Dt) (x1 x2:Dt):Option Dt:=
  (bif ((Dt.I x1 0)==5) then
    (mo m self64 (Nat.succ m) x0 (Dt.L x1 4) (List.length (Dt.L x1 4):Int) 0 x2)
  else
    (bif ((Dt.I x1 0)==6) then
 (gP m self64 (Nat.succ m) x0 (Dt.L x1 3) (List.length (Dt.L x1 3):Int) 0 x2 6 0 (ByteArray.mk (List.toArray [])) [] [])
    else
 (some kza2373)))
def aR:Nat→Dt→List Dt→Option Dt
 |0,_,_=>none
 |  m+1,a0,a1=>
    (bif ((List.length a1:Int)==0) then
    some a0
 else
    jr m (aR m) a1 a0 kza2373)
def aN:Nat→Int→Option Dt
 |0,_=>none
 |  m+1,a0=>
    some (Dt.agg [(Dt.int 3),(Dt.int a0),(Dt.str (ByteArray.mk (List.toArray []))),(Dt.lst []),(Dt.lst [])])
def lU:Nat→Dt→Option Dt
  |0,_=>none
  | m+1,a0=>
    (bif ((Dt.I a0 0)==0) then
    ((aS m).bind fun r0=>
 some r0)
  else
    (some a0))
def dY:Nat→Dt→Option Bool
  |0,_=>none
  | m+1,a0=>
    (bif (decide (2<(Dt.I a0 0))) then
    (bif ((Dt.I a0 0)==9) then
 (bif (Bool.not ((Dt.I a0 1)==0)) then
 some true
 else
 some ((Dt.I a0 0)==1))
    else
 (bif ((Dt.I a0 0)==3) then
 (bif (Bool.not ((Dt.I a0 1)==0)) then
 some true
 else
 some ((Dt.I a0 0)==1))
 else
 some true))
  else
    some ((Dt.I a0 0)==1))
def aO:Nat→Bool→Option Dt
 |0,_=>none
 |  m+1,a0=>
    (bif a0 then
    some Kz
 else
    (some Ky))
def nR (m:Nat):Nat→Int→List Dt→Int→Dt→Option Dt
 |0,_,_,_,_=>none
 |  M1+1,x0,x1,x2,x3=>
    (bif (decide (x2<(List.length x1:Int))) then
    (((idx x1 x2).bind fun v0=>((dY m v0).bind fun r1=>(bif (r1==(x0==17)) then((aO m (x0==17)).bind fun r2=>some r2) else((nR m M1) x0 x1 (IntKind.wrap .i64 (x2+1)) x3)))))
 else
    (((aO m (x0==16)).bind fun r3=>some r3)))
def lH:Nat→Int→List Dt→Option Dt
 |0,_,_=>none
 |  m+1,a0,a1=>
    (nR m (Nat.succ m) a0 a1 0 kza2373)
def bO:Nat→Int→Option Dt
 |0,_=>none
 |  m+1,a0=>
    some (Dt.agg [(Dt.int 3),(Dt.int a0),(Dt.str (ByteArray.mk (List.toArray []))),(Dt.lst []),(Dt.lst [])])
def kK (m:Nat) (rec1:Q34) (x0:ByteArray) (x1:Bool) (x2:ByteArray) (x3 x4:Int):Option ByteArray:=
 (bif (Nat.ble ((ByteArray.size x2)+(ByteArray.size (strOfNums [x4]))) 1152921504606846976) then
    (rec1 x0 x1 (x2++(strOfNums [x4])) (IntKind.wrap .i64 (x3+1)))
 else
    none)
def eB (m:Nat) (rec1:Q34) (x0:ByteArray) (x1:Bool) (x2:ByteArray) (x3 x4:Int) (x5:Bool):Option ByteArray:=
 (bif x5 then
    kK m rec1 x0 x1 x2 x3 (IntKind.wrap IntKind.u8 (x4+32))
 else
    kK m rec1 x0 x1 x2 x3 x4)
def fM (m:Nat) (rec1:Q34) (x0:ByteArray) (x1:Bool) (x2:ByteArray) (x3 x4:Int):Option ByteArray:=
  (bif (Bool.not x1) then
    (bif (decide (65≤x4)) then
 eB m rec1 x0 x1 x2 x3 x4 (decide (x4≤90))
    else
 eB m rec1 x0 x1 x2 x3 x4 false)
  else
    eB m rec1 x0 x1 x2 x3 x4 false)
def eD (m:Nat) (rec1:Q34) (x0:ByteArray) (x1:Bool) (x2:ByteArray) (x3 x4:Int) (x5:Bool):Option ByteArray:=
 (bif x5 then
    fM m rec1 x0 x1 x2 x3 (IntKind.wrap IntKind.u8 (x4-32))
 else
    fM m rec1 x0 x1 x2 x3 x4)
def rJ (m:Nat) (rec1:Q34) (x0:ByteArray) (x1:Bool) (x2:ByteArray) (x3:Int):Option ByteArray:=
  ((idxS x0 x3).bind fun v0=>
    (bif x1 then
 (bif (decide (97≤v0)) then
 eD m rec1 x0 x1 x2 x3 v0 (decide (v0≤122))
 else
 eD m rec1 x0 x1 x2 x3 v0 false)
    else
 eD m rec1 x0 x1 x2 x3 v0 false))
def iL (m:Nat):Nat→ByteArray→Bool→ByteArray→Int→Option ByteArray
 |0,_,_,_,_=>none
 |  M1+1,x0,x1,x2,x3=>
    (bif (decide (x3<(ByteArray.size x0:Int))) then
    rJ m (iL m M1) x0 x1 x2 x3
 else
    (some x2))
def iA:Nat→ByteArray→Bool→Option ByteArray
 |0,_,_=>none
 |  m+1,a0,a1=>
    (iL m (Nat.succ m) a0 a1 (ByteArray.mk (List.toArray [])) 0)
def iT:Nat→ByteArray→Option Dt
 |0,_=>none
 |  m+1,a0=>
    some (Dt.agg [(Dt.int 4),(Dt.int 0),(Dt.str a0),(Dt.lst []),(Dt.lst [])])
def nS (m:Nat) (x0 x1:Int) (x2 x3:Dt):Option Dt:=
  ((cutS (Dt.S x2 2) x0 (IntKind.wrap .i64 (x0+x1))).bind fun v1=>
    ((iT m v1).bind fun r2=>
 some r2))
def nT (m:Nat) (x0:Int) (x1 x2 x3:Dt):Option Dt:=
 (bif (decide ((IntKind.wrap .i64 ((ByteArray.size (Dt.S x1 2):Int)-x0))<(Dt.I x2 1))) then
    nS m x0 (IntKind.wrap .i64 ((ByteArray.size (Dt.S x1 2):Int)-x0)) x1 x3
 else
    nS m x0 (Dt.I x2 1) x1 x3)
def uM (m:Nat) (x0 x1 x2 x3:Dt):Option Dt:=
 (bif (decide ((ByteArray.size (Dt.S x0 2):Int)<(Dt.I x1 1))) then
    nT m (ByteArray.size (Dt.S x0 2):Int) x0 x2 x3
 else
    nT m (Dt.I x1 1) x0 x2 x3)
def iU (m:Nat) (x0:Bool) (x1 x2 x3 x4:Dt):Option Dt:=
  (bif x0 then
    ((aS m).bind fun r0=>
 some r0)
  else
    uM m x1 x2 x3 x4)
def lI:Nat→Dt→Dt→Dt→Option Dt
  |0,_,_,_=>none
  | m+1,a0,a1,a2=>
    (bif ((Dt.I a0 0) !=4) then
    iU m true a0 a1 a2 kza2373
  else
    (bif ((Dt.I a1 0) !=3) then
 iU m true a0 a1 a2 kza2373
    else
 (bif ((Dt.I a2 0) !=3) then
 iU m true a0 a1 a2 kza2373
 else
 (bif (decide ((Dt.I a1 1)<0)) then
 iU m true a0 a1 a2 kza2373
 else
 iU m (decide ((Dt.I a2 1)<0)) a0 a1 a2 kza2373))))
def mY (m:Nat):Nat→Int→Int→Int→Dt→Dt→Int→Int→ByteArray→List Dt→List Dt→Option Dt
 |0,_,_,_,_,_,_,_,_,_,_=>none
 |  M3+1,x0,x1,x2,x3,x4,x5,x6,x7,x8,x9=>
    (bif (decide (x2<(List.length (Dt.L x3 3):Int))) then
    (((idx (Dt.L x3 3) (IntKind.wrap .i64 ((IntKind.wrap .i64 ((List.length (Dt.L x3 3):Int)-1))-x2))).bind fun v2=>((app x8 [v2]).bind fun v3=>((idx (Dt.L x3 3) x2).bind fun v4=>(bif ((Dt.I v4 0)==3) then((idx (Dt.L x3 3) x2).bind fun v5=>((mY m M3) x0 (IntKind.wrap .i64 (x1+(Dt.I v5 1))) (IntKind.wrap .i64 (x2+1)) x3 x4 x5 x6 x7 v3 x9)) else((mY m M3) x0 x1 (IntKind.wrap .i64 (x2+1)) x3 x4 x5 x6 x7 v3 x9))))))
 else
    ((bif (x0==31) then((bO m x1).bind fun r6=>some r6) else(some (Dt.agg [(Dt.int x5),(Dt.int x6),(Dt.str x7),(Dt.lst x8),(Dt.lst x9)])))))
def jX:Nat→Int→Dt→Option Dt
  |0,_,_=>none
  | m+1,a0,a1=>
    (bif ((Dt.I a1 0) !=6) then
    ((aS m).bind fun r0=>
 some r0)
  else
    ((bif (a0==26) then((bO m (List.length (Dt.L a1 3):Int)).bind fun r1=>some r1) else((mY m (Nat.succ m) a0 0 0 a1 kza2373 6 0 (ByteArray.mk (List.toArray [])) [] [])))))
def oD (m:Nat) (x0:Int) (x1:Bool) (x2 x3:Dt):Option Dt:=
 (bif x1 then
    some kza2373
 else
    (((idx (Dt.L x2 3) x0).bind fun v1=>some v1)))
def kL (m:Nat) (x0:Int) (x1 x2:Dt):Option Dt:=
 (bif (decide (x0<0)) then
    oD m x0 true x1 x2
 else
    oD m x0 (decide ((List.length (Dt.L x1 3):Int)≤x0)) x1 x2)
def rM (m:Nat) (x0 x1 x2:Dt):Option Dt:=
 (bif (decide ((Dt.I x1 1)<0)) then
    kL m (IntKind.wrap .i64 ((Dt.I x1 1)+(List.length (Dt.L x0 3):Int))) x0 x2
 else
    kL m (Dt.I x1 1) x0 x2)
def oF (m:Nat) (x0:Bool) (x1 x2 x3:Dt):Option Dt:=
  (bif x0 then
    ((aS m).bind fun r0=>
 some r0)
  else
    rM m x1 x2 x3)
def iB:Nat→Dt→Dt→Option Dt
 |0,_,_=>none
 |  m+1,a0,a1=>
    (bif ((Dt.I a0 0) !=6) then
    oF m true a0 a1 kza2373
 else
    oF m ((Dt.I a1 0) !=3) a0 a1 kza2373)
def bQ:Nat→Int→Dt→Dt→Option Dt
  |0,_,_,_=>none
  | m+1,a0,a1,a2=>
    ((aA m a1 a2).bind fun r0=>
    (bif (a0==10) then
 ((aO m (r0==0)).bind fun r1=>
 some r1)
    else
 (bif (a0==11) then
 ((aO m (r0 !=0)).bind fun r2=>
 some r2)
 else
 (bif (a0==12) then
 ((aO m (decide (0<r0))).bind fun r3=>
 some r3)
 else
 (bif (a0==13) then
 ((aO m (decide (0≤r0))).bind fun r4=>
 some r4)
 else
 (bif (a0==14) then
 ((aO m (decide (r0<0))).bind fun r5=>
 some r5)
 else
 (bif (a0==15) then
 ((aO m (decide (r0≤0))).bind fun r6=>
 some r6)
 else
 (((bO m r0).bind fun r7=>some r7)))))))))
def kM (m:Nat):Nat→Int→Dt→List Dt→Option (List Dt)
 |0,_,_,_=>none
 |  M6+1,x0,x1,x2=>
    (bif (decide (x0<(List.length (Dt.L x1 4):Int))) then
    (((idx (Dt.L x1 4) x0).bind fun v2=>((app x2 [(Dt.fld v2 1)]).bind fun v3=>((kM m M6) (IntKind.wrap .i64 (x0+1)) x1 v3))))
 else
    (some x2))
def kN (m:Nat) (x0:Dt) (x1:List Dt):Option (List Dt):=
 (bif ((Dt.I x0 0)==5) then
    (kM m (Nat.succ m) 0 x0 x1)
 else
    (some x1))
def kP (m:Nat):Nat→Int→Dt→List Dt→Option (List Dt)
 |0,_,_,_=>none
 |  M1+1,x0,x1,x2=>
    (bif (decide (x0<(List.length (Dt.L x1 3):Int))) then
    (((idx (Dt.L x1 3) x0).bind fun v0=>((app x2 [v0]).bind fun v1=>((kP m M1) (IntKind.wrap .i64 (x0+1)) x1 v1))))
 else
    kN m x1 x2)
def jD:Nat→Dt→Option (List Dt)
 |0,_=>none
 |  m+1,a0=>
    (bif ((Dt.I a0 0)==6) then
    (kP m (Nat.succ m) 0 a0 [])
 else
    kN m a0 [])
def jv (m:Nat) (self54:Q16):Nat→Int→List Dt→Int→Int→Option Int
 |0,_,_,_,_=>none
 |  M3+1,x0,x1,x2,x3=>
    (bif (decide (x3<(List.length x1:Int))) then
    (((idx x1 x3).bind fun v1=>((self54 v1 (IntKind.wrap .i64 (x0-1))).bind fun r2=>((jv m self54 M3) x0 x1 (bif (decide (x2<r2)) then r2 else x2) (IntKind.wrap .i64 (x3+1))))))
 else
    (some (IntKind.wrap .i64 (x2+1))))
def fC (m:Nat) (self54:Q16) (x0:Int) (x1:List Dt) (x2:Bool):Option Int:=
 (bif x2 then
    some 1
 else
    ((jv m self54 (Nat.succ m) x0 x1 0 0)))
def cK:Nat→Dt→Int→Option Int
  |0,_,_=>none
  | m+1,a0,a1=>
    ((jD m a0).bind fun r0=>
    (bif (decide (a1<2)) then
 fC m (cK m) a1 r0 true
    else
 fC m (cK m) a1 r0 ((List.length r0:Int)==0)))
def lJ:Nat→Dt→Option Int
 |0,_=>none
 |  m+1,a0=>
    ((cK m a0 17).bind fun r0=>
    some r0)
def nU (m:Nat) (self55:Q16):Nat→Int→Int→List Dt→Int→Option Int
  |0,_,_,_,_=>none
  | M1+1,x0,x1,x2,x3=>
    (bif (decide (x3<(List.length x2:Int))) then
    (bif (decide (x1<x0)) then
 (((idx x2 x3).bind fun v1=>((self55 v1 (IntKind.wrap .i64 (x0-x1))).bind fun r2=>((nU m self55 M1) x0 (IntKind.wrap .i64 (x1+r2)) x2 (IntKind.wrap .i64 (x3+1))))))
    else
 (some x1))
  else
    (some x1))
def gG:Nat→Dt→Int→Option Int
 |0,_,_=>none
 |  m+1,a0,a1=>
    ((jD m a0).bind fun r0=>
    (nU m (gG m) (Nat.succ m) a1 1 r0 0))
def lK:Nat→Dt→Option Int
 |0,_=>none
 |  m+1,a0=>
    ((gG m a0 1025).bind fun r0=>
    some r0)
def sj (m:Nat) (rec2:Q43) (x0:ByteArray) (x1 x2 x3:Int):Option Bool:=
 rec2 x0 x1 x2 (IntKind.wrap .i64 (x3+1))
def mZ (m:Nat) (rec2:Q43) (x0:ByteArray) (x1 x2 x3:Int) (x4:Bool):Option Bool:=
 (bif x4 then
    some false
 else
    sj m rec2 x0 x1 x2 x3)
def su (m:Nat) (rec2:Q43) (x0:ByteArray) (x1 x2 x3:Int):Option Bool:=
  ((idxS x0 (IntKind.wrap .i64 (x1+x3))).bind fun v0=>
    (bif (decide (v0<128)) then
 mZ m rec2 x0 x1 x2 x3 true
    else
 ((idxS x0 (IntKind.wrap .i64 (x1+x3))).bind fun v1=>
 mZ m rec2 x0 x1 x2 x3 (decide (191<v1)))))
def sw (m:Nat):Option Bool:=
 some true
def ng (m:Nat):Nat→ByteArray→Int→Int→Int→Option Bool
 |0,_,_,_,_=>none
 |  M2+1,x0,x1,x2,x3=>
    (bif (decide (x3<x2)) then
    su m (ng m M2) x0 x1 x2 x3
 else
    sw m)
def sF (m:Nat) (x0:ByteArray) (x1 x2 x3:Int):Option Bool:=
 ng m (Nat.succ m) x0 x1 x2 x3
def sG (m:Nat) (x0:ByteArray) (x1 x2:Int):Option Bool:=
 sF m x0 x1 x2 0
def pR:Nat→ByteArray→Int→Int→Option Bool
 |0,_,_,_=>none
 |  m+1,a0,a1,a2=>
    (bif (decide ((ByteArray.size a0:Int)<(IntKind.wrap .i64 (a1+a2)))) then
    some false
 else
    sG m a0 a1 a2)
def CY (m:Nat) (rec1:Q12) (x0:ByteArray) (x1 x2:Int):Option Bool:=
 rec1 x0 (IntKind.wrap .i64 ((IntKind.wrap .i64 (x1+x2))+1))
def aK (m:Nat) (rec1:Q12) (x0:ByteArray) (x1 x2:Int) (x3:Bool):Option Bool:=
 (bif x3 then
    some false
 else
    CY m rec1 x0 x1 x2)
def xQ (m:Nat) (rec1:Q12) (x0:ByteArray) (x1 x2 x3:Int):Option Bool:=
  (bif (x2==224) then
    ((idxS x0 (IntKind.wrap .i64 (x1+1))).bind fun v2=>
 (bif (decide (v2<160)) then
 aK m rec1 x0 x1 x3 true
 else
 (bif (x2==237) then
 ((idxS x0 (IntKind.wrap .i64 (x1+1))).bind fun v3=>
 (bif (decide (159<v3)) then
 aK m rec1 x0 x1 x3 true
 else
 (bif (x2==240) then
 ((idxS x0 (IntKind.wrap .i64 (x1+1))).bind fun v4=>
 (bif (decide (v4<144)) then
 aK m rec1 x0 x1 x3 true
 else
 (bif (x2==244) then
 ((idxS x0 (IntKind.wrap .i64 (x1+1))).bind fun v5=>
 aK m rec1 x0 x1 x3 (decide (143<v5)))
 else
 aK m rec1 x0 x1 x3 false)))
 else
 (bif (x2==244) then
 ((idxS x0 (IntKind.wrap .i64 (x1+1))).bind fun v6=>
 aK m rec1 x0 x1 x3 (decide (143<v6)))
 else
 aK m rec1 x0 x1 x3 false))))
 else
 (bif (x2==240) then
 ((idxS x0 (IntKind.wrap .i64 (x1+1))).bind fun v7=>
 (bif (decide (v7<144)) then
 aK m rec1 x0 x1 x3 true
 else
 (bif (x2==244) then
 ((idxS x0 (IntKind.wrap .i64 (x1+1))).bind fun v8=>
 aK m rec1 x0 x1 x3 (decide (143<v8)))
 else
 aK m rec1 x0 x1 x3 false)))
 else
 (bif (x2==244) then
 ((idxS x0 (IntKind.wrap .i64 (x1+1))).bind fun v9=>
 aK m rec1 x0 x1 x3 (decide (143<v9)))
 else
 aK m rec1 x0 x1 x3 false)))))
  else
    (bif (x2==237) then
 ((idxS x0 (IntKind.wrap .i64 (x1+1))).bind fun v10=>
 (bif (decide (159<v10)) then
 aK m rec1 x0 x1 x3 true
 else
 (bif (x2==240) then
 ((idxS x0 (IntKind.wrap .i64 (x1+1))).bind fun v11=>
 (bif (decide (v11<144)) then
 aK m rec1 x0 x1 x3 true
 else
 (bif (x2==244) then
 ((idxS x0 (IntKind.wrap .i64 (x1+1))).bind fun v12=>
 aK m rec1 x0 x1 x3 (decide (143<v12)))
 else
 aK m rec1 x0 x1 x3 false)))
 else
 (bif (x2==244) then
 ((idxS x0 (IntKind.wrap .i64 (x1+1))).bind fun v13=>
 aK m rec1 x0 x1 x3 (decide (143<v13)))
 else
 aK m rec1 x0 x1 x3 false))))
    else
 (bif (x2==240) then
 ((idxS x0 (IntKind.wrap .i64 (x1+1))).bind fun v14=>
 (bif (decide (v14<144)) then
 aK m rec1 x0 x1 x3 true
 else
 (bif (x2==244) then
 ((idxS x0 (IntKind.wrap .i64 (x1+1))).bind fun v15=>
 aK m rec1 x0 x1 x3 (decide (143<v15)))
 else
 aK m rec1 x0 x1 x3 false)))
 else
 (bif (x2==244) then
 ((idxS x0 (IntKind.wrap .i64 (x1+1))).bind fun v16=>
 aK m rec1 x0 x1 x3 (decide (143<v16)))
 else
 aK m rec1 x0 x1 x3 false))))
def jY (m:Nat) (rec1:Q12) (x0:ByteArray) (x1 x2 x3:Int):Option Bool:=
  ((pR m x0 (IntKind.wrap .i64 (x1+1)) x3).bind fun r1=>
    (bif (Bool.not r1) then
 some false
    else
 xQ m rec1 x0 x1 x2 x3))
def sH (m:Nat) (rec1:Q12) (x0:ByteArray) (x1 x2:Int) (x3:Bool):Option Bool:=
 (bif x3 then
    jY m rec1 x0 x1 x2 3
 else
    some false)
def sI (m:Nat) (rec1:Q12) (x0:ByteArray) (x1 x2:Int) (x3:Bool):Option Bool:=
  (bif x3 then
    jY m rec1 x0 x1 x2 2
  else
    (bif (decide (240≤x2)) then
 sH m rec1 x0 x1 x2 (decide (x2≤244))
    else
 sH m rec1 x0 x1 x2 false))
def sJ (m:Nat) (rec1:Q12) (x0:ByteArray) (x1 x2:Int) (x3:Bool):Option Bool:=
  (bif x3 then
    jY m rec1 x0 x1 x2 1
  else
    (bif (decide (224≤x2)) then
 sI m rec1 x0 x1 x2 (decide (x2≤239))
    else
 sI m rec1 x0 x1 x2 false))
def xR (m:Nat) (rec1:Q12) (x0:ByteArray) (x1:Int):Option Bool:=
  ((idxS x0 x1).bind fun v0=>
    (bif (decide (v0<128)) then
 jY m rec1 x0 x1 v0 0
    else
 (bif (decide (194≤v0)) then
 sJ m rec1 x0 x1 v0 (decide (v0≤223))
 else
 sJ m rec1 x0 x1 v0 false)))
def Aj (m:Nat):Option Bool:=
 some true
def iC (m:Nat):Nat→ByteArray→Int→Option Bool
 |0,_,_=>none
 |  M1+1,x0,x1=>
    (bif (decide (x1<(ByteArray.size x0:Int))) then
    xR m (iC m M1) x0 x1
 else
    Aj m)
def pU:Nat→ByteArray→Option Bool
 |0,_=>none
 |  m+1,a0=>
    (iC m (Nat.succ m) a0 0)
def iE (m:Nat) (rec3:Q12) (x0:ByteArray) (x1:Int) (x2:Bool):Option Bool:=
 (bif x2 then
    some false
 else
    (rec3 x0 (IntKind.wrap .i64 (x1+1))))
def iF (m:Nat):Nat→ByteArray→Int→Option Bool
 |0,_,_=>none
 |  M3+1,x0,x1=>
    (bif (decide (x1<(ByteArray.size x0:Int))) then
    (((idxS x0 x1).bind fun v0=>(bif (decide (v0<32)) then iE m (iF m M3) x0 x1 true else((idxS x0 x1).bind fun v1=>iE m (iF m M3) x0 x1 (decide (126<v1))))))
 else
    (some true))
def iG (m:Nat) (x0:ByteArray) (x1:Bool):Option Bool:=
 (bif x1 then
    some false
 else
    ((iF m (Nat.succ m) x0 0)))
def lV:Nat→ByteArray→Option Bool
 |0,_=>none
 |  m+1,a0=>
    (bif (decide ((ByteArray.size a0:Int)<1)) then
    iG m a0 true
 else
    iG m a0 (decide (128<(ByteArray.size a0:Int))))
def mq (m:Nat) (self38:Q4) (self57:Q4):Nat→Bool→Int→Dt→Option Bool
 |0,_,_,_=>none
 |  M8+1,x0,x1,x2=>
    (bif (decide (x1<(List.length (Dt.L x2 3):Int))) then
    (((idx (Dt.L x2 3) x1).bind fun v1=>((self38 v1 x0).bind fun r2=>(bif (Bool.not r2) then some false else((mq m self38 self57 M8) x0 (IntKind.wrap .i64 (x1+1)) x2)))))
 else
    (((self57 x2 x0).bind fun r3=>some r3)))
def zH (m:Nat) (self38:Q4) (self57:Q4) (x0:Bool) (x1:Dt):Option Bool:=
 (mq m self38 self57 (Nat.succ m) x0 0 x1)
def pG (m:Nat) (self38:Q4) (self57:Q4) (x0:Bool) (x1:Dt):Option Bool:=
  (bif ((Dt.I x1 0)==9) then
    (bif ((Dt.I x1 1)==0) then
 some true
    else
 some ((Dt.I x1 1)==1))
  else
    (bif ((Dt.I x1 0)==10) then
 some (decide (0≤(Dt.I x1 1)))
    else
 (bif ((Dt.I x1 0)==4) then
 (bif (decide ((ByteArray.size (Dt.S x1 2):Int)≤4096)) then
 ((pU m (Dt.S x1 2)).bind fun r0=>
 some r0)
 else
 some false)
 else
 (bif ((Dt.I x1 0)==7) then
 some (decide ((ByteArray.size (Dt.S x1 2):Int)≤4096))
 else
 (bif ((Dt.I x1 0)==8) then
 some ((ByteArray.size (Dt.S x1 2):Int)==12)
 else
 zH m self38 self57 x0 x1)))))
def bE (m:Nat) (self38:Q4) (self57:Q4) (x0 x1:Bool) (x2:Dt):Option Bool:=
 (bif x1 then
    some false
 else
    pG m self38 self57 x0 x2)
def gQ (m:Nat) (self38:Q4) (self57:Q4) (x0 x1 x2:Bool) (x3:Dt):Option Bool:=
  (bif (Bool.not x1) then
    (bif (Bool.not ((ByteArray.toList (Dt.S x3 2))==[])) then
 bE m self38 self57 x0 true x3
    else
 (bif (Bool.not x2) then
 (bif ((Dt.I x3 1) !=0) then
 bE m self38 self57 x0 true x3
 else
 (bif (decide ((Dt.I x3 0)<1)) then
 bE m self38 self57 x0 true x3
 else
 bE m self38 self57 x0 (decide (11<(Dt.I x3 0))) x3))
 else
 (bif (decide ((Dt.I x3 0)<1)) then
 bE m self38 self57 x0 true x3
 else
 bE m self38 self57 x0 (decide (11<(Dt.I x3 0))) x3)))
  else
    (bif (Bool.not x2) then
 (bif ((Dt.I x3 1) !=0) then
 bE m self38 self57 x0 true x3
 else
 (bif (decide ((Dt.I x3 0)<1)) then
 bE m self38 self57 x0 true x3
 else
 bE m self38 self57 x0 (decide (11<(Dt.I x3 0))) x3))
    else
 (bif (decide ((Dt.I x3 0)<1)) then
 bE m self38 self57 x0 true x3
 else
 bE m self38 self57 x0 (decide (11<(Dt.I x3 0))) x3)))
def gT (m:Nat) (self38:Q4) (self57:Q4) (x0 x1:Bool) (x2:Dt):Option Bool:=
  (bif ((Dt.I x2 0)==3) then
    gQ m self38 self57 x0 x1 true x2
  else
    (bif ((Dt.I x2 0)==9) then
 gQ m self38 self57 x0 x1 true x2
    else
 gQ m self38 self57 x0 x1 ((Dt.I x2 0)==10) x2))
def pI (m:Nat) (self38:Q4) (self57:Q4) (x0:Bool) (x1:Dt):Option Bool:=
  (bif ((Dt.I x1 0)==4) then
    gT m self38 self57 x0 true x1
  else
    (bif ((Dt.I x1 0)==7) then
 gT m self38 self57 x0 true x1
    else
 gT m self38 self57 x0 ((Dt.I x1 0)==8) x1))
def gU (m:Nat) (self38:Q4) (self57:Q4) (x0 x1:Bool) (x2:Dt):Option Bool:=
 (bif x1 then
    some false
 else
    pI m self38 self57 x0 x2)
def jw (m:Nat) (self38:Q4) (rec1:Q17):Nat→Bool→Int→Int→Dt→Dt→Option Bool
 |0,_,_,_,_,_=>none
 |  M6+1,x0,x1,x2,x3,x4=>
    (bif (decide (x2<x1)) then
    (((idx (Dt.L x3 4) x2).bind fun v2=>(bif ((ByteArray.toList (Dt.S v2 0))==(ByteArray.toList (Dt.S x4 0))) then some false else((jw m self38 rec1 M6) x0 x1 (IntKind.wrap .i64 (x2+1)) x3 x4))))
 else
    (rec1 x0 (IntKind.wrap .i64 (x1+1)) x3))
def bL (m:Nat) (self38:Q4) (rec1:Q17) (x0:Bool) (x1:Int) (x2:Bool) (x3 x4:Dt):Option Bool:=
 (bif x2 then
    some false
 else
    ((jw m self38 rec1 (Nat.succ m) x0 x1 0 x3 x4)))
def bA (m:Nat) (self38:Q4):Nat→Bool→Int→Dt→Option Bool
 |0,_,_,_=>none
 |  M1+1,x0,x1,x2=>
    (bif (decide (x1<(List.length (Dt.L x2 4):Int))) then
    (((idx (Dt.L x2 4) x1).bind fun v0=>(bif x0 then((fK m (Dt.S v0 0)).bind fun r1=>(bif (Bool.not r1) then bL m self38 (bA m self38 M1) x0 x1 true x2 v0 else(bif (Bool.not x0) then((lV m (Dt.S v0 0)).bind fun r3=>(bif (Bool.not r3) then bL m self38 (bA m self38 M1) x0 x1 true x2 v0 else((self38 (Dt.fld v0 1) x0).bind fun r4=>bL m self38 (bA m self38 M1) x0 x1 (Bool.not r4) x2 v0))) else((self38 (Dt.fld v0 1) x0).bind fun r5=>bL m self38 (bA m self38 M1) x0 x1 (Bool.not r5) x2 v0)))) else(bif (Bool.not x0) then((lV m (Dt.S v0 0)).bind fun r6=>(bif (Bool.not r6) then bL m self38 (bA m self38 M1) x0 x1 true x2 v0 else((self38 (Dt.fld v0 1) x0).bind fun r7=>bL m self38 (bA m self38 M1) x0 x1 (Bool.not r7) x2 v0))) else((self38 (Dt.fld v0 1) x0).bind fun r8=>bL m self38 (bA m self38 M1) x0 x1 (Bool.not r8) x2 v0)))))
 else
    (some true))
mutual
def aD:Nat→Dt→Bool→Option Bool
  |0,_,_=>none
  | m+1,a0,a1=>
    (bif ((Dt.I a0 0) !=6) then
    (bif (decide (0<(List.length (Dt.L a0 3):Int))) then
 gU m (aD m) (bg m) a1 true a0
    else
 (bif ((Dt.I a0 0) !=5) then
 gU m (aD m) (bg m) a1 (decide (0<(List.length (Dt.L a0 4):Int))) a0
 else
 gU m (aD m) (bg m) a1 false a0))
  else
    (bif ((Dt.I a0 0) !=5) then
 gU m (aD m) (bg m) a1 (decide (0<(List.length (Dt.L a0 4):Int))) a0
    else
 gU m (aD m) (bg m) a1 false a0))
def bg:Nat→Dt→Bool→Option Bool
 |0,_,_=>none
 |  m+1,a0,a1=>
    (bA m (aD m) (Nat.succ m) a1 0 a0)
end
def eF:Nat→Dt→Option Bool
  |0,_=>none
  | m+1,a0=>
    ((lJ m a0).bind fun r0=>
    (bif (decide (r0≤16)) then
 ((lK m a0).bind fun r1=>
 (bif (decide (r1≤1024)) then
 ((aD m a0 true).bind fun r2=>
 some r2)
 else
 some false))
    else
 some false))
def cu:Nat→Dt→Option Bool
 |0,_=>none
 |  m+1,a0=>
    ((eF m a0).bind fun r0=>
    some (Bool.not r0))
def UZ (m:Nat):Nat→List Dt→Int→Int→Option Int
 |0,_,_,_=>none
 |  M1+1,x0,x1,x2=>
    (bif (decide (x2<x1)) then
    (((idx x0 x2).bind fun v0=>((cu m v0).bind fun r1=>(bif r1 then some x2 else((UZ m M1) x0 x1 (IntKind.wrap .i64 (x2+1)))))))
 else
    (some (-1)))
def i8:Nat→List Dt→Option Int
 |0,_=>none
 |  m+1,a0=>
    (UZ m (Nat.succ m) a0 (List.length a0:Int) 0)
def i7:Nat→List Dt→Option Bool
 |0,_=>none
 |  m+1,a0=>
    ((i8 m a0).bind fun r0=>
    some (decide (0≤r0)))
def jZ:Nat→Dt→Option Bool
  |0,_=>none
  | m+1,a0=>
    (bif ((Dt.I a0 0) !=5) then
    some true
  else
    ((eF m a0).bind fun r0=>
 some (Bool.not r0)))
def K3 (m:Nat):Nat→List Dt→Int→Int→Option Int
 |0,_,_,_=>none
 |  M1+1,x0,x1,x2=>
    (bif (decide (x2<x1)) then
    (((idx x0 x2).bind fun v0=>((jZ m v0).bind fun r1=>(bif r1 then some x2 else((K3 m M1) x0 x1 (IntKind.wrap .i64 (x2+1)))))))
 else
    (some (-1)))
def i11:Nat→List Dt→Option Int
 |0,_=>none
 |  m+1,a0=>
    (K3 m (Nat.succ m) a0 (List.length a0:Int) 0)
def i10:Nat→List Dt→Option Bool
 |0,_=>none
 |  m+1,a0=>
    ((i11 m a0).bind fun r0=>
    some (decide (0≤r0)))
def lM:Nat→List Dt→Option Bool
  |0,_=>none
  | m+1,a0=>
    (bif (decide ((List.length a0:Int)≤30)) then
    ((i10 m a0).bind fun r0=>
 some (Bool.not r0))
  else
    some false)
def au (m:Nat) (x0:Bool):Option Int:=
 (bif x0 then
    some 4
 else
    (some 0))
def xS (m:Nat) (x0:Bool) (x1:Dt):Option Int:=
  (bif ((Dt.I x1 0) !=2) then
    (bif ((Dt.I x1 0) !=3) then
 (bif (decide (0<(List.length (Dt.L x1 1):Int))) then
 au m true
 else
 (bif (Bool.not x0) then
 (bif (Bool.not ((ByteArray.toList (Dt.S x1 2))==[])) then
 au m true
 else
 (bif ((Dt.I x1 0) !=34) then
 (bif (decide (0<(List.length (Dt.L x1 3):Int))) then
 au m true
 else
 (bif ((Dt.I x1 0) !=1) then
 ((aF m (Dt.fld x1 4) kza2373).bind fun r3=>
 (bif (Bool.not r3) then
 au m true
 else
 au m ((Dt.I x1 5) !=0)))
 else
 au m ((Dt.I x1 5) !=0)))
 else
 (bif ((Dt.I x1 0) !=1) then
 ((aF m (Dt.fld x1 4) kza2373).bind fun r4=>
 (bif (Bool.not r4) then
 au m true
 else
 au m ((Dt.I x1 5) !=0)))
 else
 au m ((Dt.I x1 5) !=0))))
 else
 (bif ((Dt.I x1 0) !=34) then
 (bif (decide (0<(List.length (Dt.L x1 3):Int))) then
 au m true
 else
 (bif ((Dt.I x1 0) !=1) then
 ((aF m (Dt.fld x1 4) kza2373).bind fun r5=>
 (bif (Bool.not r5) then
 au m true
 else
 au m ((Dt.I x1 5) !=0)))
 else
 au m ((Dt.I x1 5) !=0)))
 else
 (bif ((Dt.I x1 0) !=1) then
 ((aF m (Dt.fld x1 4) kza2373).bind fun r6=>
 (bif (Bool.not r6) then
 au m true
 else
 au m ((Dt.I x1 5) !=0)))
 else
 au m ((Dt.I x1 5) !=0)))))
    else
 (bif (Bool.not x0) then
 (bif (Bool.not ((ByteArray.toList (Dt.S x1 2))==[])) then
 au m true
 else
 (bif ((Dt.I x1 0) !=34) then
 (bif (decide (0<(List.length (Dt.L x1 3):Int))) then
 au m true
 else
 (bif ((Dt.I x1 0) !=1) then
 ((aF m (Dt.fld x1 4) kza2373).bind fun r7=>
 (bif (Bool.not r7) then
 au m true
 else
 au m ((Dt.I x1 5) !=0)))
 else
 au m ((Dt.I x1 5) !=0)))
 else
 (bif ((Dt.I x1 0) !=1) then
 ((aF m (Dt.fld x1 4) kza2373).bind fun r8=>
 (bif (Bool.not r8) then
 au m true
 else
 au m ((Dt.I x1 5) !=0)))
 else
 au m ((Dt.I x1 5) !=0))))
 else
 (bif ((Dt.I x1 0) !=34) then
 (bif (decide (0<(List.length (Dt.L x1 3):Int))) then
 au m true
 else
 (bif ((Dt.I x1 0) !=1) then
 ((aF m (Dt.fld x1 4) kza2373).bind fun r9=>
 (bif (Bool.not r9) then
 au m true
 else
 au m ((Dt.I x1 5) !=0)))
 else
 au m ((Dt.I x1 5) !=0)))
 else
 (bif ((Dt.I x1 0) !=1) then
 ((aF m (Dt.fld x1 4) kza2373).bind fun r10=>
 (bif (Bool.not r10) then
 au m true
 else
 au m ((Dt.I x1 5) !=0)))
 else
 au m ((Dt.I x1 5) !=0)))))
  else
    (bif (Bool.not x0) then
 (bif (Bool.not ((ByteArray.toList (Dt.S x1 2))==[])) then
 au m true
 else
 (bif ((Dt.I x1 0) !=34) then
 (bif (decide (0<(List.length (Dt.L x1 3):Int))) then
 au m true
 else
 (bif ((Dt.I x1 0) !=1) then
 ((aF m (Dt.fld x1 4) kza2373).bind fun r11=>
 (bif (Bool.not r11) then
 au m true
 else
 au m ((Dt.I x1 5) !=0)))
 else
 au m ((Dt.I x1 5) !=0)))
 else
 (bif ((Dt.I x1 0) !=1) then
 ((aF m (Dt.fld x1 4) kza2373).bind fun r12=>
 (bif (Bool.not r12) then
 au m true
 else
 au m ((Dt.I x1 5) !=0)))
 else
 au m ((Dt.I x1 5) !=0))))
    else
 (bif ((Dt.I x1 0) !=34) then
 (bif (decide (0<(List.length (Dt.L x1 3):Int))) then
 au m true
 else
 (bif ((Dt.I x1 0) !=1) then
 ((aF m (Dt.fld x1 4) kza2373).bind fun r13=>
 (bif (Bool.not r13) then
 au m true
 else
 au m ((Dt.I x1 5) !=0)))
 else
 au m ((Dt.I x1 5) !=0)))
 else
 (bif ((Dt.I x1 0) !=1) then
 ((aF m (Dt.fld x1 4) kza2373).bind fun r14=>
 (bif (Bool.not r14) then
 au m true
 else
 au m ((Dt.I x1 5) !=0)))
 else
 au m ((Dt.I x1 5) !=0)))))
def sK (m:Nat) (x0 x1:Bool) (x2:Dt):Option Int:=
 (bif x1 then
    some 8
 else
    xS m x0 x2)
def xU (m:Nat) (x0:Bool) (x1:Dt):Option Int:=
  (bif ((Dt.I x1 0)==1) then
    ((eF m (Dt.fld x1 4)).bind fun r2=>
 sK m x0 (Bool.not r2) x1)
  else
    sK m x0 false x1)
def j3 (m:Nat) (x0 x1:Bool) (x2:Dt):Option Int:=
 (bif x1 then
    some 9
 else
    xU m x0 x2)
def ni (m:Nat) (x0:Bool) (x1:Dt):Option Int:=
  (bif x0 then
    ((fK m (Dt.S x1 2)).bind fun r1=>
 (bif (Bool.not r1) then
 j3 m x0 true x1
 else
 (bif ((Dt.I x1 0)==34) then
 ((lG m (Dt.L x1 3)).bind fun r15=>
 j3 m x0 (Bool.not r15) x1)
 else
 j3 m x0 false x1)))
  else
    (bif ((Dt.I x1 0)==34) then
 ((lG m (Dt.L x1 3)).bind fun r16=>
 j3 m x0 (Bool.not r16) x1)
    else
 j3 m x0 false x1))
def gy (m:Nat) (x0:Bool) (x1:Dt):Option Int:=
 (bif x0 then
    some 10
 else
    ((bif ((Dt.I x1 0)==3) then ni m true x1 else(bif ((Dt.I x1 0)==32) then ni m true x1 else ni m ((Dt.I x1 0)==33) x1))))
def xV (m:Nat) (x0:Dt):Option Int:=
  (bif ((Dt.I x0 0)==2) then
    ((gF m (Dt.L x0 1)).bind fun r0=>
 (bif (Bool.not r0) then
 gy m true x0
 else
 (bif ((Dt.I x0 0)==3) then
 (bif (decide (0<(List.length (Dt.L x0 1):Int))) then
 ((gF m (Dt.L x0 1)).bind fun r17=>
 gy m (Bool.not r17) x0)
 else
 gy m false x0)
 else
 gy m false x0)))
  else
    (bif ((Dt.I x0 0)==3) then
 (bif (decide (0<(List.length (Dt.L x0 1):Int))) then
 ((gF m (Dt.L x0 1)).bind fun r18=>
 gy m (Bool.not r18) x0)
 else
 gy m false x0)
    else
 gy m false x0))
def dM (m:Nat) (x0:Bool) (x1:Dt):Option Int:=
 (bif x0 then
    some 11
 else
    xV m x1)
def pV:Nat→Dt→Option Int
  |0,_=>none
  | m+1,a0=>
    (bif (decide ((Dt.I a0 0)<1)) then
    dM m true a0
  else
    (bif (decide (37<(Dt.I a0 0))) then
 dM m true a0
    else
 ((nO m (Dt.I a0 0)).bind fun r19=>
 (bif (decide (0≤r19)) then
 ((nO m (Dt.I a0 0)).bind fun r20=>
 (bif ((List.length (Dt.L a0 6):Int) !=r20) then
 dM m true a0
 else
 (bif ((Dt.I a0 0)==34) then
 (bif ((List.length (Dt.L a0 6):Int) !=(List.length (Dt.L a0 3):Int)) then
 dM m true a0
 else
 dM m ((List.length (Dt.L a0 6):Int)==0) a0)
 else
 dM m false a0)))
 else
 (bif ((Dt.I a0 0)==34) then
 (bif ((List.length (Dt.L a0 6):Int) !=(List.length (Dt.L a0 3):Int)) then
 dM m true a0
 else
 dM m ((List.length (Dt.L a0 6):Int)==0) a0)
 else
 dM m false a0)))))
def uN (m:Nat) (self23:Q10) (rec4:Q44) (x0 x1 x2:Int) (x3:Dt):Option (Int×Int):=
 (rec4 x2 x0 (IntKind.wrap .i64 (x1+1)) x3)
def kQ (m:Nat) (self23:Q10):Nat→Int→Int→Int→Dt→Option (Int×Int)
 |0,_,_,_,_=>none
 |  M4+1,x0,x1,x2,x3=>
    (bif (decide (x2<(List.length (Dt.L x3 6):Int))) then
    (((idx (Dt.L x3 6) x2).bind fun v1=>((self23 v1 (IntKind.wrap .i64 (x0+1)) (IntKind.wrap .i64 (x1+1))).bind fun r2=>(bif (r2.2 !=0) then some (r2.1,r2.2) else uN m self23 (kQ m self23 M4) x1 x2 r2.1 x3))))
 else
    (some (x0,0)))
def qy (m:Nat) (self23:Q10) (x0 x1:Int) (x2:Bool) (x3:Dt):Option (Int×Int):=
 (bif x2 then
    some (x0,2)
 else
    (((pV m x3).bind fun r0=>(bif (r0 !=0) then some (x0,r0) else((kQ m self23 (Nat.succ m) x0 x1 0 x3))))))
def dL:Nat→Dt→Int→Int→Option (Int×Int)
 |0,_,_,_=>none
 |  m+1,a0,a1,a2=>
    (bif (decide (16<a2)) then
    qy m (dL m) a1 a2 true a0
 else
    qy m (dL m) a1 a2 (decide (256<a1)) a0)
def iH:Nat→Dt→Option Int
 |0,_=>none
 |  m+1,a0=>
    ((dL m a0 1 1).bind fun r0=>
    some r0.2)
def mD (m:Nat) (rec3:Q29) (x0:ByteArray) (x1 x2:Int) (x3:Bool):Option Bool:=
 (bif x3 then
    some true
 else
    (rec3 x0 x1 (IntKind.wrap .i64 (x2+1))))
def dQ (m:Nat):Nat→ByteArray→Int→Int→Option Bool
 |0,_,_,_=>none
 |  M3+1,x0,x1,x2=>
    (bif (decide (x2<x1)) then
    (((idxS x0 x2).bind fun v0=>(bif (decide (v0<33)) then mD m (dQ m M3) x0 x1 x2 true else((idxS x0 x2).bind fun v1=>(bif (decide (126<v1)) then mD m (dQ m M3) x0 x1 x2 true else((idxS x0 x2).bind fun v2=>mD m (dQ m M3) x0 x1 x2 (v2==46)))))))
 else
    (some false))
def mE (m:Nat) (x0:ByteArray) (x1:Bool):Option Bool:=
 (bif x1 then
    some true
 else
    ((dQ m (Nat.succ m) x0 (ByteArray.size x0:Int) 0)))
def lW:Nat→ByteArray→Option Bool
  |0,_=>none
  | m+1,a0=>
    (bif (decide ((ByteArray.size a0:Int)<1)) then
    mE m a0 true
  else
    (bif (decide (32<(ByteArray.size a0:Int))) then
 mE m a0 true
    else
 ((idxS a0 0).bind fun v3=>
 mE m a0 (v3==36))))
def Gr (m:Nat):Nat→List Dt→Int→Int→Option Int
 |0,_,_,_=>none
 |  M1+1,x0,x1,x2=>
    (bif (decide (x2<x1)) then
    (((idx x0 x2).bind fun v0=>((lW m (Dt.toStr v0)).bind fun r1=>(bif r1 then some x2 else((Gr m M1) x0 x1 (IntKind.wrap .i64 (x2+1)))))))
 else
    (some (-1)))
def i98:Nat→List Dt→Option Int
 |0,_=>none
 |  m+1,a0=>
    (Gr m (Nat.succ m) a0 (List.length a0:Int) 0)
def i97:Nat→List Dt→Option Bool
 |0,_=>none
 |  m+1,a0=>
    ((i98 m a0).bind fun r0=>
    some (decide (0≤r0)))
def lX:Nat→List Dt→Option Bool
  |0,_=>none
  | m+1,a0=>
    (bif (decide (1≤(List.length a0:Int))) then
    (bif (decide ((List.length a0:Int)≤16)) then
 ((i97 m a0).bind fun r0=>
 some (Bool.not r0))
    else
 some false)
  else
    some false)
def jE:Nat→ByteArray→Option Bool
 |0,_=>none
 |  m+1,a0=>
    ((lX m [(Dt.str a0)]).bind fun r0=>
    some r0)
def jm (m:Nat) (rec1:Q23) (x0:ByteArray) (x1:List Dt) (x2 x3:Int) (x4:Bool) (x5:List Dt):Option Bool:=
 (bif x4 then
    some false
 else
    ((rec1 x1 x2 (IntKind.wrap .i64 (x3+1)) (mput x5 x0 (Dt.bool true)))))
def cB (m:Nat):Nat→List Dt→Int→Int→List Dt→Option Bool
 |0,_,_,_,_=>none
 |  M1+1,x0,x1,x2,x3=>
    (bif (decide (x2<x1)) then
    (((idx x0 x2).bind fun v0=>((jE m (Dt.toStr v0)).bind fun r1=>(bif (Bool.not r1) then jm m (cB m M1) (Dt.toStr v0) x0 x1 x2 true x3 else jm m (cB m M1) (Dt.toStr v0) x0 x1 x2 (Dt.toBool (mgetD x3 (Dt.toStr v0) (Dt.bool false))) x3))))
 else
    (some true))
def dh:Nat→List Dt→Option Bool
 |0,_=>none
 |  m+1,a0=>
    (cB m (Nat.succ m) a0 (List.length a0:Int) 0 [])
def fD:Nat→Dt→Option Dt
  |0,_=>none
  | m+1,a0=>
    (bif ((Dt.I a0 0)==0) then
    ((aT m).bind fun r0=>
 some r0)
  else
    (some a0))
def iV (m:Nat):Nat→List Dt→Int→Int→Dt→Int→Int→ByteArray→List Dt→List Dt→Option Dt
 |0,_,_,_,_,_,_,_,_,_=>none
 |  M1+1,x0,x1,x2,x3,x4,x5,x6,x7,x8=>
    (bif (decide (x2<x1)) then
    (((idx x0 x2).bind fun v0=>((fD m v0).bind fun r1=>((app x7 [r1]).bind fun v2=>((iV m M1) x0 x1 (IntKind.wrap .i64 (x2+1)) x3 x4 x5 x6 v2 x8)))))
 else
    (some (Dt.agg [(Dt.int x4),(Dt.int x5),(Dt.str x6),(Dt.lst x7),(Dt.lst x8)])))
def lY (m:Nat) (rec7:Q35) (x0:List Dt) (x1 x2:Int) (x3 x4:Dt) (x5 x6:Int) (x7:ByteArray) (x8 x9:List Dt):Option Dt:=
 rec7 x0 x1 (IntKind.wrap .i64 (x2+1)) x3 x4 x5 x6 x7 x8 x9
def dZ (m:Nat):Nat→List Dt→Int→Int→Dt→Dt→Int→Int→ByteArray→List Dt→List Dt→Option Dt
 |0,_,_,_,_,_,_,_,_,_,_=>none
 |  M7+1,x0,x1,x2,x3,x4,x5,x6,x7,x8,x9=>
    (bif (decide (x2<x1)) then
    (((idx x0 x2).bind fun v3=>(bif ((Dt.I v3 0) !=0) then((idx (Dt.L x3 3) x2).bind fun v4=>((app x9 [(Dt.agg [(Dt.str (Dt.toStr v4)),v3])]).bind fun v5=>lY m (dZ m M7) x0 x1 x2 x3 x4 x5 x6 x7 x8 v5)) else lY m (dZ m M7) x0 x1 x2 x3 x4 x5 x6 x7 x8 x9)))
 else
    (some (Dt.agg [(Dt.int x5),(Dt.int x6),(Dt.str x7),(Dt.lst x8),(Dt.lst x9)])))
def bY:Nat→Dt→List Dt→Option Dt
 |0,_,_=>none
 |  m+1,a0,a1=>
    (bif ((Dt.I a0 0)==35) then
    (iV m (Nat.succ m) a1 (List.length a1:Int) 0 kza2373 6 0 (ByteArray.mk (List.toArray [])) [] [])
 else
    ((dZ m (Nat.succ m) a1 (List.length a1:Int) 0 a0 kza2373 5 0 (ByteArray.mk (List.toArray [])) [] [])))
def qz (m:Nat) (x0:Bool) (x1:Dt):Option Bool:=
 (bif x0 then
    some ((Dt.I x1 1) !=0)
 else
    (some true))
def qA (m:Nat) (x0:Int) (x1:Bool) (x2:Dt):Option Bool:=
  (bif x1 then
    some false
  else
    (bif (x0==9) then
 qz m (x0==9) x2
    else
 qz m (x0==3) x2))
def bS:Nat→Dt→Option Bool
 |0,_=>none
 |  m+1,a0=>
    (bif ((Dt.I a0 0)==0) then
    qA m (Dt.I a0 0) ((Dt.I a0 0)==0) a0
 else
    qA m (Dt.I a0 0) ((Dt.I a0 0)==2) a0)
def kR (m:Nat) (x0:Int) (x1:Bool):Option Int:=
 (bif x1 then
    (some (IntKind.wrap .i64 (x0-1)))
 else
    (some x0))
def gB:Nat→Int→Int→Option Int
  |0,_,_=>none
  | m+1,a0,a1=>
    (bif (decide (a1=0)) then
    none
  else
    (bif (decide (a1=0)) then
 none
    else
 (bif ((Int.tmod a0 a1) !=0) then
 kR m (IntKind.wrap .i64 (Int.tdiv a0 a1)) (Bool.not ((decide (a0<0))==(decide (a1<0))))
 else
 kR m (IntKind.wrap .i64 (Int.tdiv a0 a1)) false)))
def fO (m:Nat):Nat→Int→List Dt→Int→Int→Dt→Option Dt
 |0,_,_,_,_,_=>none
 |  M9+1,x0,x1,x2,x3,x4=>
    (bif (decide (x3<x2)) then
    (((idx x1 x3).bind fun v9=>((fO m M9) (IntKind.wrap .i64 (x0+(Dt.toInt v9))) x1 x2 (IntKind.wrap .i64 (x3+1)) x4)))
 else
    (((aN m x0).bind fun r10=>some r10)))
def gZ (m:Nat):Nat→Int→List Dt→Int→Int→Dt→Option Dt
 |0,_,_,_,_,_=>none
 |  M17+1,x0,x1,x2,x3,x4=>
    (bif (decide (x3<x2)) then
    (((idx x1 x3).bind fun v11=>((gZ m M17) (IntKind.wrap .i64 (x0*(Dt.toInt v11))) x1 x2 (IntKind.wrap .i64 (x3+1)) x4)))
 else
    (((aN m x0).bind fun r10=>some r10)))
def bK (m:Nat) (x0:Int) (x1:Dt) (x2:List Dt):Option Dt:=
  ((inL x2 0).bind fun v15=>
    ((x2[0]?).bind fun v16=>
 ((inL x2 1).bind fun v17=>
 ((x2[1]?).bind fun v18=>
 ((gB m (Dt.toInt v16) (Dt.toInt v18)).bind fun r19=>
 (bif (x0==8) then
 ((inL x2 0).bind fun v20=>
 ((x2[0]?).bind fun v21=>
 ((inL x2 1).bind fun v22=>
 ((x2[1]?).bind fun v23=>
 (((aN m (IntKind.wrap .i64 ((Dt.toInt v21)-(IntKind.wrap .i64 ((Dt.toInt v23)*r19))))).bind fun r10=>some r10))))))
 else
 (((aN m r19).bind fun r10=>some r10))))))))
def dK (m:Nat) (x0:Int) (x1:Dt) (x2:List Dt):Option Dt:=
  ((inL x2 1).bind fun v12=>
    ((x2[1]?).bind fun v13=>
 (bif ((Dt.toInt v13)==0) then
 ((aT m).bind fun r14=>
 some r14)
 else
 bK m x0 x1 x2)))
def fP (m:Nat) (x0:Int) (x1:Dt) (x2:List Dt):Option Dt:=
 (bif (x0==5) then
    (((inL x2 1).bind fun v5=>((x2[1]?).bind fun v6=>((inL x2 1).bind fun v7=>((x2[1]?).bind fun v8=>((fO m (Nat.succ m) 0 (List.set x2 1 (Dt.int (IntKind.wrap .i64 (0-(Dt.toInt v6))))) (List.length (List.set x2 1 (Dt.int (IntKind.wrap .i64 (0-(Dt.toInt v6))))):Int) 0 x1)))))))
 else
    ((bif (x0==4) then((fO m (Nat.succ m) 0 x2 (List.length x2:Int) 0 x1)) else((bif (x0==6) then((gZ m (Nat.succ m) 1 x2 (List.length x2:Int) 0 x1)) else dK m x0 x1 x2)))))
def iW (m:Nat):Nat→Int→List Dt→Int→Int→Dt→List Dt→Option Dt
 |0,_,_,_,_,_,_=>none
 |  M1+1,x0,x1,x2,x3,x4,x5=>
    (bif (decide (x3<x2)) then
    (((idx x1 x3).bind fun v1=>(bif ((Dt.I v1 0) !=3) then((aT m).bind fun r2=>some r2) else(((inL x5 x3).bind fun v3=>((x5[(Int.toNat x3)]?).bind fun v4=>((iW m M1) x0 x1 x2 (IntKind.wrap .i64 (x3+1)) x4 (List.set x5 (Int.toNat x3) (Dt.int (Dt.I v1 1))))))))))
 else
    fP m x0 x4 x5)
def bM:Nat→Int→List Dt→Option Dt
 |0,_,_=>none
 |  m+1,a0,a1=>
    ((mkL (List.length a1:Int) (List.length a1:Int) (Dt.int 0)).bind fun v0=>
    (iW m (Nat.succ m) a0 a1 (List.length a1:Int) 0 kza2373 v0))
def aQ:Nat→Bool→Option Dt
 |0,_=>none
 |  m+1,a0=>
    (bif a0 then
    some Kz
 else
    (some Ky))
def gV:Nat→Int→Int→Option Dt
  |0,_,_=>none
  | m+1,a0,a1=>
    (bif (a0==10) then
    ((aQ m (a1==0)).bind fun r0=>
 some r0)
  else
    (bif (a0==11) then
 ((aQ m (a1 !=0)).bind fun r1=>
 some r1)
    else
 (bif (a0==12) then
 ((aQ m (decide (0<a1))).bind fun r2=>
 some r2)
 else
 (bif (a0==13) then
 ((aQ m (decide (0≤a1))).bind fun r3=>
 some r3)
 else
 (bif (a0==14) then
 ((aQ m (decide (a1<0))).bind fun r4=>
 some r4)
 else
 (bif (a0==15) then
 ((aQ m (decide (a1≤0))).bind fun r5=>
 some r5)
 else
 (((aN m a1).bind fun r6=>some r6))))))))
def sM (m:Nat) (rec4:Q46) (x0:Int) (x1 x2:Bool) (x3:List Dt) (x4 x5:Int) (x6 x7:Dt):Option Dt:=
  (bif x2 then
    (rec4 x0 x1 true x3 x4 (IntKind.wrap .i64 (x5+1)) x6)
  else
    ((bS m x7).bind fun r13=>
 (rec4 x0 x1 r13 x3 x4 (IntKind.wrap .i64 (x5+1)) x6)))
def j4 (m:Nat):Nat→Int→Bool→Bool→List Dt→Int→Int→Dt→Option Dt
 |0,_,_,_,_,_,_,_=>none
 |  M4+1,x0,x1,x2,x3,x4,x5,x6=>
    (bif (decide (x5<x4)) then
    (((idx x3 x5).bind fun v11=>(bif x1 then((bS m v11).bind fun r12=>sM m (j4 m M4) x0 r12 x2 x3 x4 x5 x6 v11) else sM m (j4 m M4) x0 false x2 x3 x4 x5 x6 v11)))
 else
    ((bif (x0==16) then((aQ m x1).bind fun r14=>some r14) else(((aQ m x2).bind fun r15=>some r15)))))
def eU:Nat→Int→List Dt→Option Dt
  |0,_,_=>none
  | m+1,a0,a1=>
    (bif (a0==18) then
    ((idx a1 0).bind fun v0=>
 ((bS m v0).bind fun r1=>
 ((aQ m (Bool.not r1)).bind fun r2=>
 some r2)))
  else
    (bif (a0==19) then
 ((idx a1 0).bind fun v3=>
 ((bS m v3).bind fun r4=>
 (bif r4 then
 ((idx a1 1).bind fun v5=>
 some v5)
 else
 (((idx a1 2).bind fun v6=>some v6)))))
    else
 (bif (a0==20) then
 ((idx a1 0).bind fun v7=>
 ((fD m v7).bind fun r8=>
 (bif ((Dt.I r8 0)==2) then
 ((idx a1 1).bind fun v9=>
 some v9)
 else
 (((idx a1 0).bind fun v10=>some v10)))))
 else
 ((j4 m (Nat.succ m) a0 true false a1 (List.length a1:Int) 0 kza2373)))))
def iI:Nat→Dt→Dt→Option Bool
 |0,_,_=>none
 |  m+1,a0,a1=>
    ((ay m a0 a1).bind fun r0=>
    some (r0==0))
def pJ (m:Nat) (x0:List Dt) (x1:Int) (x2:Bool) (x3:Dt):Option Dt:=
 (bif x2 then
    some kza2373
 else
    (((idx x0 x1).bind fun v1=>some v1)))
def mF (m:Nat) (x0:List Dt) (x1:Int) (x2:Dt):Option Dt:=
 (bif (decide (x1<0)) then
    pJ m x0 x1 true x2
 else
    pJ m x0 x1 (decide ((List.length x0:Int)≤x1)) x2)
def jF:Nat→List Dt→Dt→Option Dt
  |0,_,_=>none
  | m+1,a0,a1=>
    (bif ((Dt.I a1 0) !=3) then
    ((aT m).bind fun r0=>
 some r0)
  else
    ((bif (decide ((Dt.I a1 1)<0)) then mF m a0 (IntKind.wrap .i64 ((Dt.I a1 1)+(List.length a0:Int))) kza2373 else mF m a0 (Dt.I a1 1) kza2373)))
def oG (m:Nat) (x0:Dt) (x1:List Dt):Option Dt:=
 some (Dt.agg [(Dt.int 6),(Dt.int 0),(Dt.str (ByteArray.mk (List.toArray []))),(Dt.lst x1),(Dt.lst [])])
def jy (m:Nat):Nat→Int→Int→Dt→List Dt→Option Dt
 |0,_,_,_,_=>none
 |  M8+1,x0,x1,x2,x3=>
    (bif (decide (x0<x1)) then
    (((inL x3 x1).bind fun v5=>((x3[(Int.toNat x1)]?).bind fun v6=>((inL x3 x0).bind fun v7=>((x3[(Int.toNat x0)]?).bind fun v8=>((inL x3 x0).bind fun v9=>((x3[(Int.toNat x0)]?).bind fun v10=>((inL (List.set x3 (Int.toNat x0) v6) x1).bind fun v11=>(((List.set x3 (Int.toNat x0) v6)[(Int.toNat x1)]?).bind fun v12=>((jy m M8) (IntKind.wrap .i64 (x0+1)) (IntKind.wrap .i64 (x1-1)) x2 (List.set (List.set x3 (Int.toNat x0) v6) (Int.toNat x1) v8)))))))))))
 else
    oG m x2 x3)
def iM (m:Nat):Nat→Int→List Dt→Int→Int→Dt→Option Dt
 |0,_,_,_,_,_=>none
 |  M13+1,x0,x1,x2,x3,x4=>
    (bif (decide (x3<x2)) then
    (((idx x1 x3).bind fun v13=>(bif ((Dt.I v13 0)==3) then((iM m M13) (IntKind.wrap .i64 (x0+(Dt.I v13 1))) x1 x2 (IntKind.wrap .i64 (x3+1)) x4) else((iM m M13) x0 x1 x2 (IntKind.wrap .i64 (x3+1)) x4))))
 else
    (((aN m x0).bind fun r14=>some r14)))
def kS (m:Nat):Nat→List Dt→List Dt→Int→Int→Dt→Option Dt
 |0,_,_,_,_,_=>none
 |  M18+1,x0,x1,x2,x3,x4=>
    (bif (decide (x3<x2)) then
    (((idx x1 x3).bind fun v15=>((idx x0 0).bind fun v16=>((iI m v15 v16).bind fun r17=>(bif r17 then((aQ m true).bind fun r18=>some r18) else((kS m M18) x0 x1 x2 (IntKind.wrap .i64 (x3+1)) x4))))))
 else
    (((aQ m false).bind fun r19=>some r19)))
def tO (m:Nat) (x0:Int) (x1:List Dt) (x2:Dt) (x3:List Dt):Option Dt:=
  (bif (x0==26) then
    ((aN m (List.length x3:Int)).bind fun r4=>
 some r4)
  else
    (bif (x0==30) then
 (jy m (Nat.succ m) 0 (IntKind.wrap .i64 ((List.length x3:Int)-1)) x2 x3)
    else
 (bif (x0==31) then
 (iM m (Nat.succ m) 0 x3 (List.length x3:Int) 0 x2)
 else
 (bif (x0==28) then
 (kS m (Nat.succ m) x1 x3 (List.length x3:Int) 0 x2)
 else
 (bif (x0==27) then
 ((idx x1 1).bind fun v20=>
 ((jF m x3 v20).bind fun r21=>
 some r21))
 else
 oG m x2 x3)))))
def mG (m:Nat):Nat→Int→List Dt→List Dt→Int→Int→Dt→List Dt→Option Dt
 |0,_,_,_,_,_,_,_=>none
 |  M2+1,x0,x1,x2,x3,x4,x5,x6=>
    (bif (decide (x4<x3)) then
    (((idx x2 x4).bind fun v1=>(bif ((Dt.I v1 0) !=6) then((aT m).bind fun r2=>some r2) else(((app x6 (Dt.L v1 3)).bind fun v3=>((mG m M2) x0 x1 x2 x3 (IntKind.wrap .i64 (x4+1)) x5 v3))))))
 else
    tO m x0 x1 x5 x6)
def dD (m:Nat) (x0:Int) (x1 x2:List Dt) (x3:Dt):Option Dt:=
 (mG m (Nat.succ m) x0 x1 x2 (List.length x2:Int) 0 x3 [])
def bF:Nat→Int→List Dt→Option Dt
  |0,_,_=>none
  | m+1,a0,a1=>
    (bif (a0==27) then
    ((cutL a1 0 1).bind fun v0=>
 dD m a0 a1 v0 kza2373)
  else
    (bif (a0==28) then
 ((cutL a1 1 (List.length a1:Int)).bind fun v22=>
 dD m a0 a1 v22 kza2373)
    else
 dD m a0 a1 a1 kza2373))
def BN (m:Nat) (self119:Q13):Nat→List Dt→Int→Int→Int→Int→Option (Int×Int)
 |0,_,_,_,_,_=>none
 |  M1+1,x0,x1,x2,x3,x4=>
    (bif (decide (x2<x1)) then
    (((idx x0 x2).bind fun v0=>((self119 v0 x3 x4).bind fun r1=>(bif (Bool.not r1.1) then some (r1.2.1,r1.2.2) else((BN m self119 M1) x0 x1 (IntKind.wrap .i64 (x2+1)) r1.2.1 r1.2.2)))))
 else
    some (x3,x4))
def BO (m:Nat) (self119:Q13):Nat→List Dt→Int→Int→Int→Int→Option (Int×Int)
 |0,_,_,_,_,_=>none
 |  M5+1,x0,x1,x2,x3,x4=>
    (bif (decide (x2<x1)) then
    (((idx x0 x2).bind fun v2=>((self119 (Dt.fld v2 1) x3 x4).bind fun r3=>(bif (Bool.not r3.1) then some (r3.2.1,r3.2.2) else((BO m self119 M5) x0 x1 (IntKind.wrap .i64 (x2+1)) r3.2.1 r3.2.2)))))
 else
    some (x3,x4))
mutual
def jG:Nat→Dt→Int→Option Int
 |0,_,_=>none
 |  m+1,a0,a1=>
    (bif (1==a1) then
    some 1
 else
    ((((acU m) a0 1 a1).bind fun r0=>some r0.1)))
def acU:Nat→Dt→Int→Int→Option (Int×Int)
  |0,_,_,_=>none
  | m+1,a0,a1,a2=>
    (bif ((Dt.I a0 0)==6) then
    (BN m (Dr m) (Nat.succ m) (Dt.L a0 3) (List.length (Dt.L a0 3):Int) 0 a1 a2)
  else
    (bif ((Dt.I a0 0)==5) then
 (BO m (Dr m) (Nat.succ m) (Dt.L a0 4) (List.length (Dt.L a0 4):Int) 0 a1 a2)
    else
 some (a1,a2)))
def Dr:Nat→Dt→Int→Int→Option (Bool×Int×Int)
 |0,_,_,_=>none
 |  m+1,a0,a1,a2=>
    ((jG m a0 (IntKind.wrap .i64 (a2-a1))).bind fun r0=>
    some ((decide ((IntKind.wrap .i64 (a1+r0))<a2)),(IntKind.wrap .i64 (a1+r0)),a2))
end
def lN:Nat→Dt→Option Int
 |0,_=>none
 |  m+1,a0=>
    ((jG m a0 1025).bind fun r0=>
    some r0)
def BP (m:Nat) (self121:Q13):Nat→List Dt→Int→Int→Int→Int→Option (Int×Int)
 |0,_,_,_,_,_=>none
 |  M1+1,x0,x1,x2,x3,x4=>
    (bif (decide (x2<x1)) then
    (((idx x0 x2).bind fun v0=>((self121 v0 x3 x4).bind fun r1=>(bif (Bool.not r1.1) then some (r1.2.1,r1.2.2) else((BP m self121 M1) x0 x1 (IntKind.wrap .i64 (x2+1)) r1.2.1 r1.2.2)))))
 else
    some (x3,x4))
def BQ (m:Nat) (self121:Q13):Nat→List Dt→Int→Int→Int→Int→Option (Int×Int)
 |0,_,_,_,_,_=>none
 |  M5+1,x0,x1,x2,x3,x4=>
    (bif (decide (x2<x1)) then
    (((idx x0 x2).bind fun v2=>((self121 (Dt.fld v2 1) x3 x4).bind fun r3=>(bif (Bool.not r3.1) then some (r3.2.1,r3.2.2) else((BQ m self121 M5) x0 x1 (IntKind.wrap .i64 (x2+1)) r3.2.1 r3.2.2)))))
 else
    some (x3,x4))
mutual
def jH:Nat→Dt→Int→Option Int
 |0,_,_=>none
 |  m+1,a0,a1=>
    (bif (a1==1) then
    some 1
 else
    ((((acV m) a0 0 a1).bind fun r0=>some (IntKind.wrap .i64 (1+r0.1)))))
def acV:Nat→Dt→Int→Int→Option (Int×Int)
  |0,_,_,_=>none
  | m+1,a0,a1,a2=>
    (bif ((Dt.I a0 0)==6) then
    (BP m (Du m) (Nat.succ m) (Dt.L a0 3) (List.length (Dt.L a0 3):Int) 0 a1 a2)
  else
    (bif ((Dt.I a0 0)==5) then
 (BQ m (Du m) (Nat.succ m) (Dt.L a0 4) (List.length (Dt.L a0 4):Int) 0 a1 a2)
    else
 some (a1,a2)))
def Du:Nat→Dt→Int→Int→Option (Bool×Int×Int)
 |0,_,_,_=>none
 |  m+1,a0,a1,a2=>
    ((jH m a0 (IntKind.wrap .i64 (a2-1))).bind fun r0=>
    some ((decide ((bif (decide (a1<r0)) then r0 else a1)<(IntKind.wrap .i64 (a2-1)))),(bif (decide (a1<r0)) then r0 else a1),a2))
end
def lQ:Nat→Dt→Option Int
 |0,_=>none
 |  m+1,a0=>
    ((jH m a0 17).bind fun r0=>
    some r0)
def lS (m:Nat):Nat→ByteArray→Int→Dt→Option Int
 |0,_,_,_=>none
 |  M2+1,x0,x1,x2=>
    (bif (decide (x1<(List.length (Dt.L x2 4):Int))) then
    (((idx (Dt.L x2 4) x1).bind fun v0=>(bif ((ByteArray.toList (Dt.S v0 0))==(ByteArray.toList x0)) then some x1 else((lS m M2) x0 (IntKind.wrap .i64 (x1+1)) x2))))
 else
    (some (-1)))
def kU:Nat→Dt→ByteArray→Option Int
 |0,_,_=>none
 |  m+1,a0,a1=>
    (bif ((Dt.I a0 0) !=5) then
    some (-1)
 else
    ((lS m (Nat.succ m) a1 0 a0)))
def qh:Nat→Dt→ByteArray→Option (Dt×Bool)
  |0,_,_=>none
  | m+1,a0,a1=>
    ((kU m a0 a1).bind fun r0=>
    (bif (decide (r0<0)) then
 some (kza2373,false)
    else
 (((idx (Dt.L a0 4) r0).bind fun v1=>some ((Dt.fld v1 1),true)))))
def qj (m:Nat) (self46:Q11):Nat→List Dt→Int→Dt→Dt→Int→Int→ByteArray→List Dt→List Dt→Option Dt
 |0,_,_,_,_,_,_,_,_,_=>none
 |  M3+1,x0,x1,x2,x3,x4,x5,x6,x7,x8=>
    (bif (decide (x1<(List.length (Dt.L x2 3):Int))) then
    (((idx (Dt.L x2 3) x1).bind fun v4=>((self46 v4 x0).bind fun r5=>(bif ((Dt.I r5 0) !=0) then((app x7 [r5]).bind fun v6=>((qj m self46 M3) x0 (IntKind.wrap .i64 (x1+1)) x2 x3 x4 x5 x6 v6 x8)) else((qj m self46 M3) x0 (IntKind.wrap .i64 (x1+1)) x2 x3 x4 x5 x6 x7 x8)))))
 else
    (some (Dt.agg [(Dt.int x4),(Dt.int x5),(Dt.str x6),(Dt.lst x7),(Dt.lst x8)])))
def wz (m:Nat) (self46:Q11) (x0:List Dt) (x1 x2:Dt):Option Dt:=
  (bif ((Dt.I x1 0)==5) then
    ((idx x0 0).bind fun v0=>
 ((qh m x1 (Dt.toStr v0)).bind fun r1=>
 (bif r1.2 then
 ((cutL x0 1 (List.length x0:Int)).bind fun v2=>
 ((self46 r1.1 v2).bind fun r3=>
 some r3))
 else
 (some kza2373))))
  else
    (bif ((Dt.I x1 0)==6) then
 (qj m self46 (Nat.succ m) x0 0 x1 x2 6 0 (ByteArray.mk (List.toArray [])) [] [])
    else
 (some kza2373)))
def fG:Nat→Dt→List Dt→Option Dt
 |0,_,_=>none
 |  m+1,a0,a1=>
    (bif ((List.length a1:Int)==0) then
    some a0
 else
    wz m (fG m) a1 a0 kza2373)
def nV (m:Nat):Nat→List Dt→Int→Int→Option Bool
 |0,_,_,_=>none
 |  M1+1,x0,x1,x2=>
    (bif (decide (x2<(List.length x0:Int))) then
    (((idx x0 x2).bind fun v0=>(bif ((Dt.I v0 0) !=x1) then some false else((nV m M1) x0 x1 (IntKind.wrap .i64 (x2+1))))))
 else
    (some true))
def gH:Nat→List Dt→Int→Option Bool
 |0,_,_=>none
 |  m+1,a0,a1=>
    (nV m (Nat.succ m) a0 a1 0)
def mH (m:Nat):Nat→List Dt→ByteArray→Int→Dt→Option Dt
  |0,_,_,_,_=>none
  | M2+1,x0,x1,x2,x3=>
    (bif (decide (x2<(List.length x0:Int))) then
    (bif (decide ((ByteArray.size x1:Int)≤4096)) then
 (((idx x0 x2).bind fun v2=>(bif (Nat.ble ((ByteArray.size x1)+(ByteArray.size (Dt.S v2 2))) 1152921504606846976) then((mH m M2) x0 (x1++(Dt.S v2 2)) (IntKind.wrap .i64 (x2+1)) x3) else none)))
    else
 (((iT m x1).bind fun r3=>some r3)))
  else
    (((iT m x1).bind fun r3=>some r3)))
def jI:Nat→List Dt→Option Dt
  |0,_=>none
  | m+1,a0=>
    ((gH m a0 4).bind fun r0=>
    (bif (Bool.not r0) then
 ((aS m).bind fun r1=>
 some r1)
    else
 ((mH m (Nat.succ m) a0 (ByteArray.mk (List.toArray [])) 0 kza2373))))
def oQ (m:Nat):Nat→List Dt→Int→Dt→Int→Int→ByteArray→List Dt→List Dt→Option Dt
 |0,_,_,_,_,_,_,_,_=>none
 |  M2+1,x0,x1,x2,x3,x4,x5,x6,x7=>
    (bif (decide (x1<(List.length x0:Int))) then
    (((idx x0 x1).bind fun v2=>((app x6 (Dt.L v2 3)).bind fun v3=>((oQ m M2) x0 (IntKind.wrap .i64 (x1+1)) x2 x3 x4 x5 v3 x7))))
 else
    (some (Dt.agg [(Dt.int x3),(Dt.int x4),(Dt.str x5),(Dt.lst x6),(Dt.lst x7)])))
def nW:Nat→List Dt→Option Dt
  |0,_=>none
  | m+1,a0=>
    ((gH m a0 6).bind fun r0=>
    (bif (Bool.not r0) then
 ((aS m).bind fun r1=>
 some r1)
    else
 ((oQ m (Nat.succ m) a0 0 kza2373 6 0 (ByteArray.mk (List.toArray [])) [] []))))
def jJ (m:Nat) (x0:Int) (x1:Bool):Option Int:=
 (bif x1 then
    (some (IntKind.wrap .i64 (x0-1)))
 else
    (some x0))
def dw:Nat→Int→Int→Option Int
 |0,_,_=>none
 |  m+1,a0,a1=>
    (bif (a1==(-1)) then
    some (IntKind.wrap .i64 (0-a0))
 else
    ((bif (decide (a1=0)) then none else(bif (decide (a1=0)) then none else(bif ((Int.tmod a0 a1) !=0) then(bif (decide (a1=0)) then none else jJ m (IntKind.wrap .i64 (Int.tdiv a0 a1)) (Bool.not ((decide ((Int.tmod a0 a1)<0))==(decide (a1<0))))) else jJ m (IntKind.wrap .i64 (Int.tdiv a0 a1)) false)))))
def zI (m:Nat) (x0:Int) (x1:List Dt) (x2:Int) (x3:Dt):Option Dt:=
  (bif (x0==5) then
    ((idx x1 0).bind fun v4=>
 ((idx x1 1).bind fun v5=>
 (((bO m (IntKind.wrap .i64 ((Dt.I v4 1)-(Dt.I v5 1)))).bind fun r6=>some r6))))
  else
    (bif (x0==7) then
 ((idx x1 0).bind fun v7=>
 ((idx x1 1).bind fun v8=>
 ((dw m (Dt.I v7 1) (Dt.I v8 1)).bind fun r9=>
 (((bO m r9).bind fun r6=>some r6)))))
    else
 (bif (x0==8) then
 ((idx x1 0).bind fun v10=>
 ((idx x1 1).bind fun v11=>
 ((idx x1 0).bind fun v12=>
 ((idx x1 1).bind fun v13=>
 ((dw m (Dt.I v12 1) (Dt.I v13 1)).bind fun r14=>
 (((bO m (IntKind.wrap .i64 ((Dt.I v10 1)-(IntKind.wrap .i64 ((Dt.I v11 1)*r14))))).bind fun r6=>some r6)))))))
 else
 (((bO m x2).bind fun r6=>some r6)))))
def gW (m:Nat):Nat→Int→List Dt→Int→Int→Dt→Option Dt
 |0,_,_,_,_,_=>none
 |  M4+1,x0,x1,x2,x3,x4=>
    (bif (decide (x3<(List.length x1:Int))) then
    ((bif (x0==6) then((idx x1 x3).bind fun v2=>((gW m M4) x0 x1 (IntKind.wrap .i64 (x2*(Dt.I v2 1))) (IntKind.wrap .i64 (x3+1)) x4)) else((idx x1 x3).bind fun v3=>((gW m M4) x0 x1 (IntKind.wrap .i64 (x2+(Dt.I v3 1))) (IntKind.wrap .i64 (x3+1)) x4))))
 else
    zI m x0 x1 x2 x4)
def gX (m:Nat) (x0:Int) (x1:List Dt) (x2:Bool) (x3:Dt):Option Dt:=
  (bif x2 then
    ((aS m).bind fun r1=>
 some r1)
  else
    ((bif (x0==6) then((gW m (Nat.succ m) x0 x1 1 0 x3)) else((gW m (Nat.succ m) x0 x1 0 0 x3)))))
def dR:Nat→Int→List Dt→Option Dt
  |0,_,_=>none
  | m+1,a0,a1=>
    ((gH m a1 3).bind fun r0=>
    (bif (Bool.not r0) then
 gX m a0 a1 true kza2373
    else
 (bif (a0==7) then
 ((idx a1 1).bind fun v15=>
 gX m a0 a1 ((Dt.I v15 1)==0) kza2373)
 else
 (bif (a0==8) then
 ((idx a1 1).bind fun v16=>
 gX m a0 a1 ((Dt.I v16 1)==0) kza2373)
 else
 gX m a0 a1 false kza2373))))
def iJ:Nat→Dt→Dt→Option Bool
 |0,_,_=>none
 |  m+1,a0,a1=>
    ((aA m a0 a1).bind fun r0=>
    some (r0==0))
def jK (m:Nat):Nat→List Dt→Int→Dt→Option Bool
 |0,_,_,_=>none
 |  M1+1,x0,x1,x2=>
    (bif (decide (x1<(List.length x0:Int))) then
    (((idx x0 x1).bind fun v0=>((iJ m v0 x2).bind fun r1=>(bif r1 then some true else((jK m M1) x0 (IntKind.wrap .i64 (x1+1)) x2)))))
 else
    (some false))
def iX:Nat→List Dt→Dt→Option Bool
 |0,_,_=>none
 |  m+1,a0,a1=>
    (jK m (Nat.succ m) a0 0 a1)
def qB (m:Nat) (x0 x1:Dt) (x2:List Dt):Option Dt:=
 some (Dt.agg [(Dt.int (Dt.I x0 0)),(Dt.int (Dt.I x0 1)),(Dt.str (Dt.S x0 2)),(Dt.lst (Dt.L x0 3)),(Dt.lst x2)])
def jL (m:Nat):Nat→ByteArray→Int→Int→Dt→Dt→Dt→List Dt→Option Dt
 |0,_,_,_,_,_,_,_=>none
 |  M2+1,x0,x1,x2,x3,x4,x5,x6=>
    (bif (decide (x2<(List.length (Dt.L x3 4):Int))) then
    (((idx (Dt.L x3 4) x2).bind fun v1=>(bif (x2==x1) then(((app x6 [(Dt.agg [(Dt.str (Dt.S v1 0)),x4])]).bind fun v2=>((jL m M2) x0 x1 (IntKind.wrap .i64 (x2+1)) x3 x4 x5 v2))) else(((app x6 [v1]).bind fun v2=>((jL m M2) x0 x1 (IntKind.wrap .i64 (x2+1)) x3 x4 x5 v2))))))
 else
    ((bif (decide (x1<0)) then((app x6 [(Dt.agg [(Dt.str x0),x4])]).bind fun v3=>qB m x3 x5 v3) else qB m x3 x5 x6)))
def nk:Nat→Dt→ByteArray→Dt→Option Dt
 |0,_,_,_=>none
 |  m+1,a0,a1,a2=>
    (bif ((Dt.I a0 0) !=5) then
    some a0
 else
    (((kU m a0 a1).bind fun r0=>(jL m (Nat.succ m) a1 r0 0 a0 a2 kza2373 []))))
def kW (m:Nat) (rec1:Q27) (x0:List Dt) (x1:Int) (x2 x3:Dt):Option Dt:=
 rec1 x0 (IntKind.wrap .i64 (x1+1)) x2 x3
def nX (m:Nat) (rec1:Q27):Nat→List Dt→Int→Int→Dt→Dt→Option Dt
  |0,_,_,_,_,_=>none
  | M7+1,x0,x1,x2,x3,x4=>
    ((idx x0 x1).bind fun v4=>
    (bif (decide (x2<(List.length (Dt.L v4 4):Int))) then
 (((idx x0 x1).bind fun v5=>((idx (Dt.L v5 4) x2).bind fun v6=>((idx x0 x1).bind fun v7=>((idx (Dt.L v7 4) x2).bind fun v8=>((nk m x4 (Dt.S v6 0) (Dt.fld v8 1)).bind fun r9=>((nX m rec1 M7) x0 x1 (IntKind.wrap .i64 (x2+1)) x3 r9)))))))
    else
 kW m rec1 x0 x1 x3 x4))
def dx (m:Nat):Nat→List Dt→Int→Dt→Dt→Option Dt
 |0,_,_,_,_=>none
 |  M1+1,x0,x1,x2,x3=>
    (bif (decide (x1<(List.length x0:Int))) then
    (((idx x0 x1).bind fun v0=>(bif ((Dt.I v0 0)==0) then kW m (dx m M1) x0 x1 x2 x3 else((idx x0 x1).bind fun v1=>(bif ((Dt.I v1 0)==2) then kW m (dx m M1) x0 x1 x2 x3 else(((idx x0 x1).bind fun v2=>(bif ((Dt.I v2 0) !=5) then((aS m).bind fun r3=>some r3) else((nX m (dx m M1) (Nat.succ m) x0 x1 0 x2 x3))))))))))
 else
    (some x3))
def lT:Nat→List Dt→Option Dt
 |0,_=>none
 |  m+1,a0=>
    (dx m (Nat.succ m) a0 0 kza2373 KA)
def qC (m:Nat) (x0:List Dt) (x1:Bool) (x2:Dt):Option Dt:=
  (bif x1 then
    ((idx x0 1).bind fun v10=>
 some v10)
  else
    (((idx x0 0).bind fun v11=>some v11)))
def iY (m:Nat) (x0:List Dt) (x1 x2:Dt):Option Dt:=
  (bif ((Dt.I x1 0)==24) then
    ((idx x0 0).bind fun v16=>
 ((bO m (ByteArray.size (Dt.S v16 2):Int)).bind fun r17=>
 some r17))
  else
    (((idx x0 0).bind fun v18=>((iA m (Dt.S v18 2) ((Dt.I x1 0)==23)).bind fun r19=>((iT m r19).bind fun r20=>some r20)))))
def Ak (m:Nat) (x0:List Dt) (x1:Dt):Option Dt:=
  ((idx x0 1).bind fun v32=>
    ((idx x0 0).bind fun v33=>
 ((iX m (Dt.L v32 3) v33).bind fun r34=>
 ((aO m r34).bind fun r35=>
 some r35))))
def pK (m:Nat) (rec11:Q38) (x0:List Dt) (x1:Int) (x2 x3:Dt) (x4 x5:Int) (x6:ByteArray) (x7 x8:List Dt):Option Dt:=
 rec11 x0 (IntKind.wrap .i64 (x1+1)) x2 x3 x4 x5 x6 x7 x8
def gY (m:Nat):Nat→List Dt→Int→Dt→Dt→Int→Int→ByteArray→List Dt→List Dt→Option Dt
 |0,_,_,_,_,_,_,_,_,_=>none
 |  M11+1,x0,x1,x2,x3,x4,x5,x6,x7,x8=>
    (bif (decide (x1<(List.length x0:Int))) then
    (((idx x0 x1).bind fun v37=>(bif ((Dt.I v37 0) !=0) then((idx (Dt.L x2 3) x1).bind fun v38=>((idx x0 x1).bind fun v39=>((app x8 [(Dt.agg [(Dt.str (Dt.toStr v38)),v39])]).bind fun v40=>pK m (gY m M11) x0 x1 x2 x3 x4 x5 x6 x7 v40))) else pK m (gY m M11) x0 x1 x2 x3 x4 x5 x6 x7 x8)))
 else
    (some (Dt.agg [(Dt.int x4),(Dt.int x5),(Dt.str x6),(Dt.lst x7),(Dt.lst x8)])))
def mI (m:Nat):Nat→List Dt→Int→Dt→Int→Int→ByteArray→List Dt→List Dt→Option Dt
 |0,_,_,_,_,_,_,_,_=>none
 |  M16+1,x0,x1,x2,x3,x4,x5,x6,x7=>
    (bif (decide (x1<(List.length x0:Int))) then
    (((idx x0 x1).bind fun v41=>((lU m v41).bind fun r42=>((app x6 [r42]).bind fun v43=>((mI m M16) x0 (IntKind.wrap .i64 (x1+1)) x2 x3 x4 x5 v43 x7)))))
 else
    (some (Dt.agg [(Dt.int x3),(Dt.int x4),(Dt.str x5),(Dt.lst x6),(Dt.lst x7)])))
def qD (m:Nat) (x0:List Dt) (x1:Int) (x2:Bool) (x3 x4:Dt):Option Dt:=
  (bif x2 then
    ((idx x0 0).bind fun v25=>
 ((jX m (Dt.I x3 0) v25).bind fun r26=>
 some r26))
  else
    (bif (x1==27) then
 ((idx x0 0).bind fun v27=>
 ((idx x0 1).bind fun v28=>
 ((iB m v27 v28).bind fun r29=>
 some r29)))
    else
 (bif (x1==28) then
 ((idx x0 1).bind fun v30=>
 (bif ((Dt.I v30 0) !=6) then
 ((aS m).bind fun r31=>
 some r31)
 else
 Ak m x0 x4))
 else
 (bif (x1==29) then
 ((nW m x0).bind fun r36=>
 some r36)
 else
 (bif (x1==34) then
 (gY m (Nat.succ m) x0 0 x3 x4 5 0 (ByteArray.mk (List.toArray [])) [] [])
 else
 (bif (x1==35) then
 (mI m (Nat.succ m) x0 0 x4 6 0 (ByteArray.mk (List.toArray [])) [] [])
 else
 (bif (x1==36) then
 ((idx x0 0).bind fun v44=>
 ((bO m (Dt.I v44 0)).bind fun r45=>
 some r45))
 else
 (bif (x1==37) then
 ((lT m x0).bind fun r46=>
 some r46)
 else
 (((idx x0 0).bind fun v47=>((idx x0 1).bind fun v48=>((bQ m (Dt.I x3 0) v47 v48).bind fun r49=>some r49))))))))))))
def qE (m:Nat) (x0:List Dt) (x1:Int) (x2:Bool) (x3 x4:Dt):Option Dt:=
  (bif x2 then
    ((idx x0 0).bind fun v14=>
 (bif ((Dt.I v14 0) !=4) then
 ((aS m).bind fun r15=>
 some r15)
 else
 iY m x0 x3 x4))
  else
    (bif (x1==25) then
 ((idx x0 0).bind fun v21=>
 ((idx x0 1).bind fun v22=>
 ((idx x0 2).bind fun v23=>
 ((lI m v21 v22 v23).bind fun r24=>
 some r24))))
    else
 (bif (x1==26) then
 qD m x0 x1 (x1==26) x3 x4
 else
 (bif (x1==30) then
 qD m x0 x1 (x1==30) x3 x4
 else
 qD m x0 x1 (x1==31) x3 x4))))
def uO (m:Nat) (x0:List Dt) (x1:Int) (x2:Bool) (x3 x4:Dt):Option Dt:=
  (bif x2 then
    ((lH m (Dt.I x3 0) x0).bind fun r1=>
 some r1)
  else
    (bif (x1==18) then
 ((idx x0 0).bind fun v2=>
 ((dY m v2).bind fun r3=>
 ((aO m (Bool.not r3)).bind fun r4=>
 some r4)))
    else
 (bif (x1==19) then
 ((idx x0 0).bind fun v5=>
 ((dY m v5).bind fun r6=>
 (bif r6 then
 ((idx x0 1).bind fun v7=>
 some v7)
 else
 (((idx x0 2).bind fun v8=>some v8)))))
 else
 (bif (x1==20) then
 ((idx x0 0).bind fun v9=>
 (bif ((Dt.I v9 0)==0) then
 qC m x0 true x4
 else
 ((idx x0 0).bind fun v12=>
 qC m x0 ((Dt.I v12 0)==2) x4)))
 else
 (bif (x1==21) then
 ((jI m x0).bind fun r13=>
 some r13)
 else
 (bif (x1==22) then
 qE m x0 x1 (x1==22) x3 x4
 else
 (bif (x1==23) then
 qE m x0 x1 (x1==23) x3 x4
 else
 qE m x0 x1 (x1==24) x3 x4)))))))
def kX (m:Nat) (x0:List Dt) (x1:Int) (x2:Bool) (x3 x4:Dt):Option Dt:=
  (bif x2 then
    ((dR m (Dt.I x3 0) x0).bind fun r0=>
 some r0)
  else
    (bif (x1==16) then
 uO m x0 x1 (x1==16) x3 x4
    else
 uO m x0 x1 (x1==17) x3 x4))
def ak:Nat→Dt→List Dt→Option Dt
  |0,_,_=>none
  | m+1,a0,a1=>
    (bif ((Dt.I a0 0)==4) then
    kX m a1 (Dt.I a0 0) ((Dt.I a0 0)==4) a0 kza2373
  else
    (bif ((Dt.I a0 0)==5) then
 kX m a1 (Dt.I a0 0) ((Dt.I a0 0)==5) a0 kza2373
    else
 (bif ((Dt.I a0 0)==6) then
 kX m a1 (Dt.I a0 0) ((Dt.I a0 0)==6) a0 kza2373
 else
 (bif ((Dt.I a0 0)==7) then
 kX m a1 (Dt.I a0 0) ((Dt.I a0 0)==7) a0 kza2373
 else
 kX m a1 (Dt.I a0 0) ((Dt.I a0 0)==8) a0 kza2373))))
def xW (m:Nat) (self33:Q5) (self47:Q5) (x0:Bool) (x1 x2:Dt):Option Dt:=
  (bif x0 then
    ((aS m).bind fun r1=>
 some r1)
  else
    (some x2))
def dN (m:Nat) (self33:Q5) (self47:Q5) (x0 x1:Dt):Option Dt:=
  (bif ((Dt.I x1 0) !=0) then
    ((eF m x1).bind fun r0=>
 xW m self33 self47 (Bool.not r0) x0 x1)
  else
    xW m self33 self47 false x0 x1)
def nu (m:Nat) (self33:Q5) (self47:Q5):Nat→List Dt→Int→Dt→Dt→Dt→Option Dt
 |0,_,_,_,_,_=>none
 |  M4+1,x0,x1,x2,x3,x4=>
    (bif (decide (x1<(List.length x0:Int))) then
    (((idx x0 x1).bind fun v3=>(bif ((ByteArray.toList (Dt.S v3 0))==(ByteArray.toList (Dt.S x2 2))) then((idx x0 x1).bind fun v4=>((fG m (Dt.fld v4 1) (Dt.L x2 1)).bind fun r5=>((nu m self33 self47 M4) x0 (IntKind.wrap .i64 (x1+1)) x2 x3 r5))) else((nu m self33 self47 M4) x0 (IntKind.wrap .i64 (x1+1)) x2 x3 x4))))
 else
    dN m self33 self47 x3 x4)
def uP (m:Nat) (self33:Q5) (self47:Q5) (x0 x1 x2:Dt) (x3:List Dt):Option Dt:=
 (( ak m x0 x3).bind fun r10=>
    dN m self33 self47 x1 r10)
def oU (m:Nat) (self33:Q5) (self47:Q5):Nat→List Dt→Int→Dt→Dt→Dt→Dt→List Dt→Option Dt
 |0,_,_,_,_,_,_,_=>none
 |  M9+1,x0,x1,x2,x3,x4,x5,x6=>
    (bif (decide (x1<(List.length (Dt.L x2 6):Int))) then
    (((idx (Dt.L x2 6) x1).bind fun v7=>((self33 v7 x3 x0).bind fun r8=>((app x6 [r8]).bind fun v9=>((oU m self33 self47 M9) x0 (IntKind.wrap .i64 (x1+1)) x2 x3 x4 x5 v9)))))
 else
    uP m self33 self47 x2 x4 x5 x6)
def xX (m:Nat) (self33:Q5) (self47:Q5) (x0:List Dt) (x1:Bool) (x2 x3 x4 x5:Dt):Option Dt:=
  (bif x1 then
    ((self47 x2 x3 x0).bind fun r6=>
 dN m self33 self47 x4 r6)
  else
    (oU m self33 self47 (Nat.succ m) x0 0 x2 x3 x4 x5 []))
def oV (m:Nat) (self33:Q5) (rec2:Q67) (x0:List Dt) (x1:Int) (x2 x3 x4 x5:Dt) (x6 x7:Int) (x8:ByteArray) (x9 x10:List Dt):Option Dt:=
 rec2 x0 (IntKind.wrap .i64 (x1+1)) x2 x3 x4 x5 x6 x7 x8 x9 x10
def iK (m:Nat) (self33:Q5):Nat→List Dt→Int→Dt→Dt→Dt→Dt→Int→Int→ByteArray→List Dt→List Dt→Option Dt
 |0,_,_,_,_,_,_,_,_,_,_,_=>none
 |  M2+1,x0,x1,x2,x3,x4,x5,x6,x7,x8,x9,x10=>
    (bif (decide (x1<(List.length (Dt.L x5 3):Int))) then
    (((app [] x0).bind fun v3=>((idx (Dt.L x5 3) x1).bind fun v4=>((app v3 [(Dt.agg [(Dt.str (Dt.S x2 2)),v4])]).bind fun v5=>((idx (Dt.L x2 6) 1).bind fun v6=>((self33 v6 x3 v5).bind fun r7=>(bif ((Dt.I x2 0)==32) then((lU m r7).bind fun r8=>((app x9 [r8]).bind fun v9=>oV m self33 (iK m self33 M2) x0 x1 x2 x3 x4 x5 x6 x7 x8 v9 x10)) else((dY m r7).bind fun r10=>(bif r10 then((idx (Dt.L x5 3) x1).bind fun v11=>((app x9 [v11]).bind fun v12=>oV m self33 (iK m self33 M2) x0 x1 x2 x3 x4 x5 x6 x7 x8 v12 x10)) else oV m self33 (iK m self33 M2) x0 x1 x2 x3 x4 x5 x6 x7 x8 x9 x10)))))))))
 else
    (some (Dt.agg [(Dt.int x6),(Dt.int x7),(Dt.str x8),(Dt.lst x9),(Dt.lst x10)])))
mutual
def ref08_eval:Nat→Dt→Dt→List Dt→Option Dt
  |0,_,_,_=>none
  | m+1,a0,a1,a2=>
    (bif ((Dt.I a0 0)==1) then
    dN m (ref08_eval m) (bD m) kza2373 (Dt.fld a0 4)
  else
    (bif ((Dt.I a0 0)==2) then
 ((fG m a1 (Dt.L a0 1)).bind fun r2=>
 dN m (ref08_eval m) (bD m) kza2373 r2)
    else
 (bif ((Dt.I a0 0)==3) then
 (nu m (ref08_eval m) (bD m) (Nat.succ m) a2 0 a0 kza2373 kza2373)
 else
 (bif ((Dt.I a0 0)==32) then
 xX m (ref08_eval m) (bD m) a2 ((Dt.I a0 0)==32) a0 a1 kza2373 kza2373
 else
 xX m (ref08_eval m) (bD m) a2 ((Dt.I a0 0)==33) a0 a1 kza2373 kza2373))))
def bD:Nat→Dt→Dt→List Dt→Option Dt
  |0,_,_,_=>none
  | m+1,a0,a1,a2=>
    ((idx (Dt.L a0 6) 0).bind fun v0=>
    ((ref08_eval m v0 a1 a2).bind fun r1=>
 (bif ((Dt.I r1 0) !=6) then
 ((aS m).bind fun r2=>
 some r2)
 else
 ((iK m (ref08_eval m) (Nat.succ m) a2 0 a0 a1 kza2373 r1 6 0 (ByteArray.mk (List.toArray [])) [] [])))))
end
def ref08_Eval:Nat→Dt→Dt→Option Dt
  |0,_,_=>none
  | m+1,a0,a1=>
    ((iH m a0).bind fun r0=>
    (bif (r0 !=0) then
 some kza2373
    else
 (((ref08_eval m a0 a1 []).bind fun r1=>(bif ((Dt.I r1 0)==0) then some kza2373 else(some r1))))))
def mJ (m:Nat) (rec2:Q21) (rec6:Q49) (x0 x1:List Dt) (x2 x3 x4 x5:Int) (x6:Bool) (x7:Dt) (x8:List Dt):Option (List Dt):=
 (bif x6 then
    (rec6 x0 x1 x2 x3 (IntKind.wrap .i64 (x4+1)) (IntKind.wrap .i64 (x5+1)) x7 x8)
 else
    (rec6 x0 x1 x2 x3 x4 (IntKind.wrap .i64 (x5+1)) x7 x8))
def oH (m:Nat) (rec2:Q21) (x0 x1:List Dt) (x2 x3 x4:Int) (x5:Dt) (x6:List Dt):Option (List Dt):=
 (rec2 x0 x1 (IntKind.wrap .i64 (x2-x4)) (IntKind.wrap .i64 (x3+1)) x5 x6)
def oJ (m:Nat) (rec2:Q21) (x0 x1:List Dt) (x2 x3 x4:Int) (x5:Dt) (x6:List Dt):Option (List Dt):=
  (bif (decide (0<x4)) then
    ((idx x0 x3).bind fun v9=>
 ((iw m v9 x4).bind fun r10=>
 ((app x6 [r10]).bind fun v11=>
 oH m rec2 x0 x1 x2 x3 x4 x5 v11)))
  else
    oH m rec2 x0 x1 x2 x3 x4 x5 x6)
def dS (m:Nat) (rec2:Q21):Nat→List Dt→List Dt→Int→Int→Int→Int→Dt→List Dt→Option (List Dt)
 |0,_,_,_,_,_,_,_,_=>none
 |  M6+1,x0,x1,x2,x3,x4,x5,x6,x7=>
    (bif (decide (x5<(List.length x1:Int))) then
    (((idx x1 x5).bind fun v3=>((ref08_Eval m x6 v3).bind fun r4=>((idx x0 x3).bind fun v5=>((aA m r4 v5).bind fun r6=>(bif (decide (0≤r6)) then((idx x0 (IntKind.wrap .i64 (x3+1))).bind fun v7=>((aA m r4 v7).bind fun r8=>mJ m rec2 (dS m rec2 M6) x0 x1 x2 x3 x4 x5 (decide (r8<0)) x6 x7)) else mJ m rec2 (dS m rec2 M6) x0 x1 x2 x3 x4 x5 false x6 x7))))))
 else
    oJ m rec2 x0 x1 x2 x3 x4 x6 x7)
def rO (m:Nat) (x0:Int) (x1:List Dt):Option (List Dt):=
  (bif (decide (0<x0)) then
    ((rz m).bind fun r12=>
 ((iw m r12 x0).bind fun r13=>
 ((app x1 [r13]).bind fun v14=>
 (some v14))))
  else
    (some x1))
def dF (m:Nat):Nat→List Dt→List Dt→Int→Int→Dt→List Dt→Option (List Dt)
 |0,_,_,_,_,_,_=>none
 |  M2+1,x0,x1,x2,x3,x4,x5=>
    (bif (decide ((IntKind.wrap .i64 (x3+1))<(List.length x0:Int))) then
    (((idx x0 x3).bind fun v0=>((idx x0 (IntKind.wrap .i64 (x3+1))).bind fun v1=>((aA m v0 v1).bind fun r2=>(bif (decide (0≤r2)) then some [] else((dS m (dF m M2) (Nat.succ m) x0 x1 x2 x3 0 0 x4 x5)))))))
 else
    rO m x2 x5)
def jM:Nat→Dt→List Dt→List Dt→Option (List Dt)
 |0,_,_,_=>none
 |  m+1,a0,a1,a2=>
    (bif (decide ((List.length a1:Int)<2)) then
    some []
 else
    ((dF m (Nat.succ m) a1 a2 (List.length a2:Int) 0 a0 [])))
def nY (m:Nat) (self116:Q24):Nat→List Dt→Int→Int→Dt→Int→Int→ByteArray→List Dt→List Dt→Option (Int×Int×ByteArray×List Dt×List Dt)
 |0,_,_,_,_,_,_,_,_,_=>none
 |  M6+1,x0,x1,x2,x3,x4,x5,x6,x7,x8=>
    (bif (decide (x2<x1)) then
    (((idx x0 x2).bind fun v6=>((self116 (Dt.fld v6 1)).bind fun r7=>((inL x8 x2).bind fun v8=>((x8[(Int.toNat x2)]?).bind fun v9=>((nY m self116 M6) x0 x1 (IntKind.wrap .i64 (x2+1)) x3 x4 x5 x6 x7 (List.set x8 (Int.toNat x2) (Dt.agg [(Dt.str (Dt.S v6 0)),(Dt.agg [(Dt.int r7.1),(Dt.int r7.2.1),(Dt.str r7.2.2.1),(Dt.lst r7.2.2.2.1),(Dt.lst r7.2.2.2.2)])]))))))))
 else
    (some (x4,x5,x6,x7,x8)))
def iZ (m:Nat) (self116:Q24) (x0 x1:Dt) (x2 x3:Int) (x4:ByteArray) (x5 x6:List Dt):Option (Int×Int×ByteArray×List Dt×List Dt):=
  (bif (decide (0<(List.length (Dt.L x0 4):Int))) then
    ((mkL (List.length (Dt.L x0 4):Int) (List.length (Dt.L x0 4):Int) BM).bind fun v5=>
 (nY m self116 (Nat.succ m) (Dt.L x0 4) (List.length (Dt.L x0 4):Int) 0 x1 x2 x3 x4 x5 v5))
  else
    (some (x2,x3,x4,x5,x6)))
def kY (m:Nat) (self116:Q24):Nat→List Dt→Int→Int→Dt→Dt→Int→Int→ByteArray→List Dt→List Dt→Option (Int×Int×ByteArray×List Dt×List Dt)
 |0,_,_,_,_,_,_,_,_,_,_=>none
 |  M1+1,x0,x1,x2,x3,x4,x5,x6,x7,x8,x9=>
    (bif (decide (x2<x1)) then
    (((idx x0 x2).bind fun v1=>((self116 v1).bind fun r2=>((inL x8 x2).bind fun v3=>((x8[(Int.toNat x2)]?).bind fun v4=>((kY m self116 M1) x0 x1 (IntKind.wrap .i64 (x2+1)) x3 x4 x5 x6 x7 (List.set x8 (Int.toNat x2) (Dt.agg [(Dt.int r2.1),(Dt.int r2.2.1),(Dt.str r2.2.2.1),(Dt.lst r2.2.2.2.1),(Dt.lst r2.2.2.2.2)])) x9))))))
 else
    iZ m self116 x3 x4 x5 x6 x7 x8 x9)
def bf:Nat→Dt→Option (Int×Int×ByteArray×List Dt×List Dt)
  |0,_=>none
  | m+1,a0=>
    (bif (decide (0<(List.length (Dt.L a0 3):Int))) then
    ((mkL (List.length (Dt.L a0 3):Int) (List.length (Dt.L a0 3):Int) kza2373).bind fun v0=>
 (kY m (bf m) (Nat.succ m) (Dt.L a0 3) (List.length (Dt.L a0 3):Int) 0 a0 kza2373 (Dt.I a0 0) (Dt.I a0 1) (Dt.S a0 2) v0 []))
  else
    iZ m (bf m) a0 kza2373 (Dt.I a0 0) (Dt.I a0 1) (Dt.S a0 2) [] [])
def oW (m:Nat):Nat→ByteArray→Int→Int→Dt→Option Int
 |0,_,_,_,_=>none
 |  M2+1,x0,x1,x2,x3=>
    (bif (decide (x2<x1)) then
    (((idx (Dt.L x3 4) x2).bind fun v0=>(bif ((ByteArray.toList (Dt.S v0 0))==(ByteArray.toList x0)) then some x2 else((oW m M2) x0 x1 (IntKind.wrap .i64 (x2+1)) x3))))
 else
    (some (-1)))
def pW:Nat→Dt→ByteArray→Option Int
 |0,_,_=>none
 |  m+1,a0,a1=>
    (bif ((Dt.I a0 0) !=5) then
    some (-1)
 else
    ((oW m (Nat.succ m) a1 (List.length (Dt.L a0 4):Int) 0 a0)))
def EO (m:Nat) (x0:ByteArray) (x1 x2:Dt) (x3 x4:Int) (x5:ByteArray) (x6 x7:List Dt):Option Dt:=
  ((pW m (Dt.agg [(Dt.int x3),(Dt.int x4),(Dt.str x5),(Dt.lst x6),(Dt.lst x7)]) x0).bind fun r1=>
    (bif (decide (0≤r1)) then
 ((bf m x1).bind fun r2=>
 ((inL x7 r1).bind fun v3=>
 ((x7[(Int.toNat r1)]?).bind fun v4=>
 some (Dt.agg [(Dt.int x3),(Dt.int x4),(Dt.str x5),(Dt.lst x6),(Dt.lst (List.set x7 (Int.toNat r1) (Dt.agg [(Dt.str (Dt.S v4 0)),(Dt.agg [(Dt.int r2.1),(Dt.int r2.2.1),(Dt.str r2.2.2.1),(Dt.lst r2.2.2.2.1),(Dt.lst r2.2.2.2.2)])])))]))))
    else
 (((bf m x1).bind fun r5=>((app x7 [(Dt.agg [(Dt.str x0),(Dt.agg [(Dt.int r5.1),(Dt.int r5.2.1),(Dt.str r5.2.2.1),(Dt.lst r5.2.2.2.1),(Dt.lst r5.2.2.2.2)])])]).bind fun v6=>some (Dt.agg [(Dt.int x3),(Dt.int x4),(Dt.str x5),(Dt.lst x6),(Dt.lst v6)]))))))
def rP:Nat→Dt→ByteArray→Dt→Option Dt
  |0,_,_,_=>none
  | m+1,a0,a1,a2=>
    ((bf m a0).bind fun r0=>
    (bif (r0.1 !=5) then
 some (Dt.agg [(Dt.int r0.1),(Dt.int r0.2.1),(Dt.str r0.2.2.1),(Dt.lst r0.2.2.2.1),(Dt.lst r0.2.2.2.2)])
    else
 EO m a1 a2 kza2373 r0.1 r0.2.1 r0.2.2.1 r0.2.2.2.1 r0.2.2.2.2))
def oZ (m:Nat) (rec1:Q22) (x0:Bool) (x1:List Dt) (x2 x3:Int) (x4 x5:Dt):Option Dt:=
 rec1 x0 x1 x2 (IntKind.wrap .i64 (x3+1)) x4 x5
def uQ (m:Nat) (rec1:Q22) (x0:Bool) (x1:List Dt) (x2 x3:Int) (x4 x5:Dt):Option Dt:=
  (bif (decide (1024<(List.length (Dt.L x5 4):Int))) then
    ((aT m).bind fun r3=>
 some r3)
  else
    oZ m rec1 x0 x1 x2 x3 x4 x5)
def o7 (m:Nat) (rec1:Q22):Nat→Bool→List Dt→Int→Int→List Dt→Int→Int→Dt→Dt→Option Dt
 |0,_,_,_,_,_,_,_,_,_=>none
 |  M8+1,x0,x1,x2,x3,x4,x5,x6,x7,x8=>
    (bif (decide (x6<x5)) then
    (((idx x4 x6).bind fun v1=>((rP m x8 (Dt.S v1 0) (Dt.fld v1 1)).bind fun r2=>((o7 m rec1 M8) x0 x1 x2 x3 x4 x5 (IntKind.wrap .i64 (x6+1)) x7 r2))))
 else
    uQ m rec1 x0 x1 x2 x3 x7 x8)
def sN (m:Nat) (rec1:Q22) (x0:Bool) (x1:List Dt) (x2 x3 x4:Int) (x5:Bool) (x6 x7 x8:Dt):Option Dt:=
  (bif x5 then
    oZ m rec1 x0 x1 x2 x3 x6 x7
  else
    (bif (x4==5) then
 ((bif x0 then oZ m rec1 false x1 x2 x3 x6 x8 else((o7 m rec1 (Nat.succ m) x0 x1 x2 x3 (Dt.L x8 4) (List.length (Dt.L x8 4):Int) 0 x6 x7))))
    else
 ((aT m).bind fun r4=>
 some r4)))
def eP (m:Nat):Nat→Bool→List Dt→Int→Int→Dt→Dt→Option Dt
 |0,_,_,_,_,_,_=>none
 |  M1+1,x0,x1,x2,x3,x4,x5=>
    (bif (decide (x3<x2)) then
    (((idx x1 x3).bind fun v0=>(bif ((Dt.I v0 0)==0) then sN m (eP m M1) x0 x1 x2 x3 (Dt.I v0 0) ((Dt.I v0 0)==0) x4 x5 v0 else sN m (eP m M1) x0 x1 x2 x3 (Dt.I v0 0) ((Dt.I v0 0)==2) x4 x5 v0)))
 else
    (some x5))
def nZ:Nat→List Dt→Option Dt
 |0,_=>none
 |  m+1,a0=>
    (eP m (Nat.succ m) true a0 (List.length a0:Int) 0 kza2373 KA)
def dU (m:Nat) (rec3:Q29) (x0:ByteArray) (x1 x2:Int) (x3:Bool):Option Bool:=
 (bif x3 then
    some false
 else
    (rec3 x0 x1 (IntKind.wrap .i64 (x2+1))))
def dV (m:Nat):Nat→ByteArray→Int→Int→Option Bool
 |0,_,_,_=>none
 |  M3+1,x0,x1,x2=>
    (bif (decide (x2<x1)) then
    (((idxS x0 x2).bind fun v0=>(bif (decide (v0<33)) then dU m (dV m M3) x0 x1 x2 true else((idxS x0 x2).bind fun v1=>(bif (decide (126<v1)) then dU m (dV m M3) x0 x1 x2 true else((idxS x0 x2).bind fun v2=>dU m (dV m M3) x0 x1 x2 (v2==46)))))))
 else
    (some true))
def dW (m:Nat) (x0:ByteArray) (x1:Bool):Option Bool:=
 (bif x1 then
    some false
 else
    ((dV m (Nat.succ m) x0 (ByteArray.size x0:Int) 0)))
def lZ:Nat→ByteArray→Option Bool
  |0,_=>none
  | m+1,a0=>
    (bif (decide ((ByteArray.size a0:Int)<1)) then
    dW m a0 true
  else
    (bif (decide (32<(ByteArray.size a0:Int))) then
 dW m a0 true
    else
 ((idxS a0 0).bind fun v3=>
 dW m a0 (v3==36))))
def kZ (m:Nat) (self76:Q9) (self110:Q14):Nat→List Dt→Int→Int→Option Bool
 |0,_,_,_=>none
 |  M8+1,x0,x1,x2=>
    (bif (decide (x2<x1)) then
    (((idx x0 x2).bind fun v1=>((self76 v1).bind fun r2=>(bif (Bool.not r2) then some false else((kZ m self76 self110 M8) x0 x1 (IntKind.wrap .i64 (x2+1)))))))
 else
    (some true))
def qF (m:Nat) (self76:Q9) (self110:Q14) (x0:List Dt) (x1 x2:Int):Option Bool:=
 kZ m self76 self110 (Nat.succ m) x0 x1 x2
def dO (m:Nat) (self76:Q9) (self110:Q14) (x0:Int) (x1:Bool) (x2:Dt):Option Bool:=
  (bif x1 then
    some true
  else
    (bif (x0==9) then
 (bif ((Dt.I x2 1)==0) then
 some true
 else
 some ((Dt.I x2 1)==1))
    else
 (bif (x0==10) then
 some (decide (0≤(Dt.I x2 1)))
 else
 (bif (x0==4) then
 (bif (decide ((ByteArray.size (Dt.S x2 2):Int)≤4096)) then
 ((utf8_ValidString (Dt.S x2 2)).bind fun r0=>
 some r0)
 else
 some false)
 else
 (bif (x0==7) then
 some (decide ((ByteArray.size (Dt.S x2 2):Int)≤4096))
 else
 (bif (x0==8) then
 some ((ByteArray.size (Dt.S x2 2):Int)==12)
 else
 (bif (x0==6) then
 qF m self76 self110 (Dt.L x2 3) (List.length (Dt.L x2 3):Int) 0
 else
 (bif (x0==5) then
 ((self110 (Dt.L x2 4)).bind fun r3=>
 some r3)
 else
 (some false)))))))))
def lg (m:Nat) (self76:Q9) (self110:Q14) (x0:Dt):Option Bool:=
  (bif ((Dt.I x0 0)==1) then
    dO m self76 self110 (Dt.I x0 0) ((Dt.I x0 0)==1) x0
  else
    (bif ((Dt.I x0 0)==2) then
 dO m self76 self110 (Dt.I x0 0) ((Dt.I x0 0)==2) x0
    else
 (bif ((Dt.I x0 0)==11) then
 dO m self76 self110 (Dt.I x0 0) ((Dt.I x0 0)==11) x0
 else
 dO m self76 self110 (Dt.I x0 0) ((Dt.I x0 0)==3) x0)))
def eX (m:Nat) (self76:Q9) (self110:Q14) (x0:Bool) (x1:Dt):Option Bool:=
 (bif x0 then
    some false
 else
    lg m self76 self110 x1)
def lq (m:Nat) (self76:Q9) (self110:Q14) (x0:Dt):Option Bool:=
  (bif ((Dt.I x0 0) !=6) then
    (bif (decide (0<(List.length (Dt.L x0 3):Int))) then
 eX m self76 self110 true x0
    else
 (bif ((Dt.I x0 0) !=5) then
 eX m self76 self110 (decide (0<(List.length (Dt.L x0 4):Int))) x0
 else
 eX m self76 self110 false x0))
  else
    (bif ((Dt.I x0 0) !=5) then
 eX m self76 self110 (decide (0<(List.length (Dt.L x0 4):Int))) x0
    else
 eX m self76 self110 false x0))
def eY (m:Nat) (self76:Q9) (self110:Q14) (x0:Bool) (x1:Dt):Option Bool:=
 (bif x0 then
    some false
 else
    lq m self76 self110 x1)
def eZ (m:Nat) (self76:Q9) (self110:Q14) (x0 x1:Bool) (x2:Dt):Option Bool:=
  (bif (Bool.not x0) then
    (bif ((Dt.I x2 1) !=0) then
 eY m self76 self110 true x2
    else
 (bif (Bool.not x1) then
 eY m self76 self110 (Bool.not ((ByteArray.toList (Dt.S x2 2))==[])) x2
 else
 eY m self76 self110 false x2))
  else
    (bif (Bool.not x1) then
 eY m self76 self110 (Bool.not ((ByteArray.toList (Dt.S x2 2))==[])) x2
    else
 eY m self76 self110 false x2))
def fq (m:Nat) (self76:Q9) (self110:Q14) (x0:Bool) (x1:Dt):Option Bool:=
  (bif ((Dt.I x1 0)==4) then
    eZ m self76 self110 x0 true x1
  else
    (bif ((Dt.I x1 0)==7) then
 eZ m self76 self110 x0 true x1
    else
 eZ m self76 self110 x0 ((Dt.I x1 0)==8) x1))
def dz (m:Nat) (self76:Q9) (rec1:Q23) (x0:List Dt) (x1 x2:Int) (x3:Bool) (x4:List Dt) (x5:Dt):Option Bool:=
 (bif x3 then
    some false
 else
    ((rec1 x0 x1 (IntKind.wrap .i64 (x2+1)) (mput x4 (Dt.S x5 0) (Dt.bool true)))))
def bU (m:Nat) (self76:Q9):Nat→List Dt→Int→Int→List Dt→Option Bool
 |0,_,_,_,_=>none
 |  M1+1,x0,x1,x2,x3=>
    (bif (decide (x2<x1)) then
    (((idx x0 x2).bind fun v0=>((lZ m (Dt.S v0 0)).bind fun r1=>(bif (Bool.not r1) then dz m self76 (bU m self76 M1) x0 x1 x2 true x3 v0 else(bif (Dt.toBool (mgetD x3 (Dt.S v0 0) (Dt.bool false))) then dz m self76 (bU m self76 M1) x0 x1 x2 true x3 v0 else((self76 (Dt.fld v0 1)).bind fun r2=>dz m self76 (bU m self76 M1) x0 x1 x2 (Bool.not r2) x3 v0))))))
 else
    (some true))
mutual
def aI:Nat→Dt→Option Bool
  |0,_=>none
  | m+1,a0=>
    (bif ((Dt.I a0 0)==3) then
    fq m (aI m) (aH m) true a0
  else
    (bif ((Dt.I a0 0)==9) then
 fq m (aI m) (aH m) true a0
    else
 fq m (aI m) (aH m) ((Dt.I a0 0)==10) a0))
def aH:Nat→List Dt→Option Bool
 |0,_=>none
 |  m+1,a0=>
    (bU m (aI m) (Nat.succ m) a0 (List.length a0:Int) 0 [])
end
def jN:Nat→Dt→Option Bool
  |0,_=>none
  | m+1,a0=>
    ((lN m a0).bind fun r0=>
    (bif (decide (r0≤1024)) then
 ((lQ m a0).bind fun r1=>
 (bif (decide (r1≤16)) then
 ((aI m a0).bind fun r2=>
 some r2)
 else
 some false))
    else
 some false))
def mK (m:Nat) (self28:Q3) (self65:Q3):Nat→Dt→Dt→Dt→Option Dt
 |0,_,_,_=>none
 |  M1+1,x0,x1,x2=>
    (bif (Bool.not (List.isEmpty (Dt.toLst x0))) then
    (((idx (Dt.toLst x0) 0).bind fun v1=>(bif ((ByteArray.toList (Dt.S v1 0))==(ByteArray.toList (Dt.S x1 2))) then((idx (Dt.toLst x0) 0).bind fun v2=>((aR m (Dt.fld v2 1) (Dt.L x1 1)).bind fun r3=>some r3)) else(((idx (Dt.toLst x0) 0).bind fun v4=>(mK m self28 self65 M1) (Dt.fld v4 2) x1 x2)))))
 else
    (some kza2373))
def fQ (m:Nat) (self28:Q3) (self65:Q3) (x0:Int) (x1:Bool) (x2 x3:Dt) (x4:List Dt):Option Dt:=
  (bif x1 then
    ((bF m (Dt.I x2 0) x4).bind fun r20=>
 some r20)
  else
    (bif (x0==36) then
 ((inL x4 0).bind fun v21=>
 ((x4[0]?).bind fun v22=>
 ((aN m (Dt.I v22 0)).bind fun r23=>
 some r23)))
    else
 (bif (x0==37) then
 ((nZ m x4).bind fun r24=>
 some r24)
 else
 (((bY m x2 x4).bind fun r25=>some r25)))))
def iN (m:Nat) (self28:Q3) (self65:Q3) (x0:Int) (x1:Bool) (x2 x3:Dt) (x4:List Dt):Option Dt:=
  (bif x1 then
    ((bR (Dt.I x2 0) x4).bind fun r19=>
 some r19)
  else
    (bif (x0==26) then
 fQ m self28 self65 x0 (x0==26) x2 x3 x4
    else
 (bif (x0==30) then
 fQ m self28 self65 x0 (x0==30) x2 x3 x4
 else
 (bif (x0==31) then
 fQ m self28 self65 x0 (x0==31) x2 x3 x4
 else
 (bif (x0==29) then
 fQ m self28 self65 x0 (x0==29) x2 x3 x4
 else
 (bif (x0==27) then
 fQ m self28 self65 x0 (x0==27) x2 x3 x4
 else
 fQ m self28 self65 x0 (x0==28) x2 x3 x4))))))
def iO (m:Nat) (self28:Q3) (self65:Q3) (x0:Int) (x1:Bool) (x2 x3:Dt) (x4:List Dt):Option Dt:=
  (bif x1 then
    ((eU m (Dt.I x2 0) x4).bind fun r18=>
 some r18)
  else
    (bif (x0==21) then
 iN m self28 self65 x0 (x0==21) x2 x3 x4
    else
 (bif (x0==22) then
 iN m self28 self65 x0 (x0==22) x2 x3 x4
 else
 (bif (x0==23) then
 iN m self28 self65 x0 (x0==23) x2 x3 x4
 else
 (bif (x0==24) then
 iN m self28 self65 x0 (x0==24) x2 x3 x4
 else
 iN m self28 self65 x0 (x0==25) x2 x3 x4)))))
def eG (m:Nat) (self28:Q3) (self65:Q3) (x0:Int) (x1:Bool) (x2 x3:Dt) (x4:List Dt):Option Dt:=
  (bif x1 then
    ((inL x4 0).bind fun v12=>
 ((x4[0]?).bind fun v13=>
 ((inL x4 1).bind fun v14=>
 ((x4[1]?).bind fun v15=>
 ((ay m v13 v15).bind fun r16=>
 ((gV m (Dt.I x2 0) r16).bind fun r17=>
 some r17))))))
  else
    (bif (x0==16) then
 iO m self28 self65 x0 (x0==16) x2 x3 x4
    else
 (bif (x0==17) then
 iO m self28 self65 x0 (x0==17) x2 x3 x4
 else
 (bif (x0==18) then
 iO m self28 self65 x0 (x0==18) x2 x3 x4
 else
 (bif (x0==19) then
 iO m self28 self65 x0 (x0==19) x2 x3 x4
 else
 iO m self28 self65 x0 (x0==20) x2 x3 x4)))))
def iP (m:Nat) (self28:Q3) (self65:Q3) (x0:Int) (x1:Bool) (x2 x3:Dt) (x4:List Dt):Option Dt:=
  (bif x1 then
    ((bM m (Dt.I x2 0) x4).bind fun r11=>
 some r11)
  else
    (bif (x0==9) then
 eG m self28 self65 x0 (x0==9) x2 x3 x4
    else
 (bif (x0==10) then
 eG m self28 self65 x0 (x0==10) x2 x3 x4
 else
 (bif (x0==11) then
 eG m self28 self65 x0 (x0==11) x2 x3 x4
 else
 (bif (x0==12) then
 eG m self28 self65 x0 (x0==12) x2 x3 x4
 else
 (bif (x0==13) then
 eG m self28 self65 x0 (x0==13) x2 x3 x4
 else
 (bif (x0==14) then
 eG m self28 self65 x0 (x0==14) x2 x3 x4
 else
 eG m self28 self65 x0 (x0==15) x2 x3 x4)))))))
def ah (m:Nat) (self28:Q3) (self65:Q3) (x0 x1:Dt) (x2:List Dt):Option Dt:=
  (bif ((Dt.I x0 0)==4) then
    iP m self28 self65 (Dt.I x0 0) ((Dt.I x0 0)==4) x0 x1 x2
  else
    (bif ((Dt.I x0 0)==5) then
 iP m self28 self65 (Dt.I x0 0) ((Dt.I x0 0)==5) x0 x1 x2
    else
 (bif ((Dt.I x0 0)==6) then
 iP m self28 self65 (Dt.I x0 0) ((Dt.I x0 0)==6) x0 x1 x2
 else
 (bif ((Dt.I x0 0)==7) then
 iP m self28 self65 (Dt.I x0 0) ((Dt.I x0 0)==7) x0 x1 x2
 else
 iP m self28 self65 (Dt.I x0 0) ((Dt.I x0 0)==8) x0 x1 x2))))
def mM (m:Nat) (self28:Q3) (self65:Q3):Nat→Dt→List Dt→Int→Int→Dt→Dt→Dt→List Dt→Option Dt
 |0,_,_,_,_,_,_,_,_=>none
 |  M8+1,x0,x1,x2,x3,x4,x5,x6,x7=>
    (bif (decide (x3<x2)) then
    (((idx x1 x3).bind fun v7=>((self28 v7 x5 x0).bind fun r8=>((inL x7 x3).bind fun v9=>((x7[(Int.toNat x3)]?).bind fun v10=>((mM m self28 self65 M8) x0 x1 x2 (IntKind.wrap .i64 (x3+1)) x4 x5 x6 (List.set x7 (Int.toNat x3) r8)))))))
 else
    ah m self28 self65 x4 x6 x7)
def tQ (m:Nat) (self28:Q3) (self65:Q3) (x0:Dt) (x1:Bool) (x2 x3 x4:Dt):Option Dt:=
  (bif x1 then
    ((self65 x2 x3 x0).bind fun r5=>
 some r5)
  else
    (((mkL (List.length (Dt.L x2 6):Int) (List.length (Dt.L x2 6):Int) kza2373).bind fun v6=>(mM m self28 self65 (Nat.succ m) x0 (Dt.L x2 6) (List.length (Dt.L x2 6):Int) 0 x2 x3 x4 v6))))
def qG (m:Nat) (self28:Q3) (rec2:Q73) (x0:Dt) (x1:List Dt) (x2 x3:Int) (x4 x5 x6:Dt) (x7 x8:Int) (x9:ByteArray) (x10 x11:List Dt):Option Dt:=
 rec2 x0 x1 x2 (IntKind.wrap .i64 (x3+1)) x4 x5 x6 x7 x8 x9 x10 x11
def jO (m:Nat) (self28:Q3):Nat→Dt→List Dt→Int→Int→Dt→Dt→Dt→Int→Int→ByteArray→List Dt→List Dt→Option Dt
 |0,_,_,_,_,_,_,_,_,_,_,_,_=>none
 |  M2+1,x0,x1,x2,x3,x4,x5,x6,x7,x8,x9,x10,x11=>
    (bif (decide (x3<x2)) then
    (((idx x1 x3).bind fun v3=>((idx (Dt.L x4 6) 1).bind fun v4=>((self28 v4 x5 (Dt.lst [(Dt.agg [(Dt.str (Dt.S x4 2)),v3,x0])])).bind fun r5=>(bif ((Dt.I x4 0)==32) then((fD m r5).bind fun r6=>((app x10 [r6]).bind fun v7=>qG m self28 (jO m self28 M2) x0 x1 x2 x3 x4 x5 x6 x7 x8 x9 v7 x11)) else((bS m r5).bind fun r8=>(bif r8 then((app x10 [v3]).bind fun v9=>qG m self28 (jO m self28 M2) x0 x1 x2 x3 x4 x5 x6 x7 x8 x9 v9 x11) else qG m self28 (jO m self28 M2) x0 x1 x2 x3 x4 x5 x6 x7 x8 x9 x10 x11)))))))
 else
    (some (Dt.agg [(Dt.int x7),(Dt.int x8),(Dt.str x9),(Dt.lst x10),(Dt.lst x11)])))
mutual
def expr_eval:Nat→Dt→Dt→Dt→Option Dt
  |0,_,_,_=>none
  | m+1,a0,a1,a2=>
    ((dG m a0 a1 a2).bind fun r0=>
    (bif ((Dt.I r0 0)==0) then
 some kza2373
    else
 (((jN m r0).bind fun r1=>(bif (Bool.not r1) then((aT m).bind fun r2=>some r2) else(some r0))))))
def dG:Nat→Dt→Dt→Dt→Option Dt
  |0,_,_,_=>none
  | m+1,a0,a1,a2=>
    (bif ((Dt.I a0 0)==1) then
    some (Dt.fld a0 4)
  else
    (bif ((Dt.I a0 0)==2) then
 ((aR m a1 (Dt.L a0 1)).bind fun r0=>
 some r0)
    else
 (bif ((Dt.I a0 0)==3) then
 (mK m (expr_eval m) (bZ m) (Nat.succ m) a2 a0 kza2373)
 else
 (bif ((Dt.I a0 0)==32) then
 tQ m (expr_eval m) (bZ m) a2 ((Dt.I a0 0)==32) a0 a1 kza2373
 else
 tQ m (expr_eval m) (bZ m) a2 ((Dt.I a0 0)==33) a0 a1 kza2373))))
def bZ:Nat→Dt→Dt→Dt→Option Dt
  |0,_,_,_=>none
  | m+1,a0,a1,a2=>
    ((idx (Dt.L a0 6) 0).bind fun v0=>
    ((expr_eval m v0 a1 a2).bind fun r1=>
 (bif ((Dt.I r1 0) !=6) then
 ((aT m).bind fun r2=>
 some r2)
 else
 ((jO m (expr_eval m) (Nat.succ m) a2 (Dt.L r1 3) (List.length (Dt.L r1 3):Int) 0 a0 a1 kza2373 6 0 (ByteArray.mk (List.toArray [])) [] [])))))
end
def jc (m:Nat) (x0:Bool):Option Int:=
 (bif x0 then
    some 4
 else
    (some 0))
def pX (m:Nat) (x0:Dt):Option Int:=
  (bif ((Dt.I x0 0) !=1) then
    ((nP m (Dt.fld x0 4)).bind fun r3=>
 (bif (Bool.not r3) then
 jc m true
 else
 jc m ((Dt.I x0 5) !=0)))
  else
    jc m ((Dt.I x0 5) !=0))
def aX (m:Nat) (x0:Bool) (x1:Dt):Option Int:=
 (bif x0 then
    some 4
 else
    pX m x1)
def pY (m:Nat) (x0 x1:Bool) (x2:Dt):Option Int:=
  (bif (Bool.not x0) then
    (bif (decide (0<(List.length (Dt.L x2 1):Int))) then
 aX m true x2
    else
 (bif (Bool.not x1) then
 (bif (Bool.not ((ByteArray.toList (Dt.S x2 2))==[])) then
 aX m true x2
 else
 (bif ((Dt.I x2 0) !=34) then
 aX m (decide (0<(List.length (Dt.L x2 3):Int))) x2
 else
 aX m false x2))
 else
 (bif ((Dt.I x2 0) !=34) then
 aX m (decide (0<(List.length (Dt.L x2 3):Int))) x2
 else
 aX m false x2)))
  else
    (bif (Bool.not x1) then
 (bif (Bool.not ((ByteArray.toList (Dt.S x2 2))==[])) then
 aX m true x2
 else
 (bif ((Dt.I x2 0) !=34) then
 aX m (decide (0<(List.length (Dt.L x2 3):Int))) x2
 else
 aX m false x2))
    else
 (bif ((Dt.I x2 0) !=34) then
 aX m (decide (0<(List.length (Dt.L x2 3):Int))) x2
 else
 aX m false x2)))
def l6 (m:Nat) (x0 x1 x2:Bool) (x3:Dt):Option Int:=
 (bif x2 then
    some 8
 else
    pY m x0 x1 x3)
def qH (m:Nat) (x0 x1:Bool) (x2:Dt):Option Int:=
  (bif ((Dt.I x2 0)==1) then
    ((jN m (Dt.fld x2 4)).bind fun r2=>
 l6 m x0 x1 (Bool.not r2) x2)
  else
    l6 m x0 x1 false x2)
def fu (m:Nat) (x0 x1 x2:Bool) (x3:Dt):Option Int:=
 (bif x2 then
    some 9
 else
    qH m x0 x1 x3)
def qI (m:Nat) (x0 x1:Bool) (x2:Dt):Option Int:=
  (bif x1 then
    ((jE m (Dt.S x2 2)).bind fun r1=>
 (bif (Bool.not r1) then
 fu m x0 x1 true x2
 else
 (bif ((Dt.I x2 0)==34) then
 ((dh m (Dt.L x2 3)).bind fun r4=>
 fu m x0 x1 (Bool.not r4) x2)
 else
 fu m x0 x1 false x2)))
  else
    (bif ((Dt.I x2 0)==34) then
 ((dh m (Dt.L x2 3)).bind fun r5=>
 fu m x0 x1 (Bool.not r5) x2)
    else
 fu m x0 x1 false x2))
def gK (m:Nat) (x0 x1 x2:Bool) (x3:Dt):Option Int:=
 (bif x2 then
    some 10
 else
    qI m x0 x1 x3)
def jP (m:Nat) (x0 x1:Bool) (x2:Dt):Option Int:=
  (bif x0 then
    ((lX m (Dt.L x2 1)).bind fun r0=>
 (bif (Bool.not r0) then
 (bif ((Dt.I x2 0)==2) then
 gK m x0 x1 true x2
 else
 gK m x0 x1 (decide (0<(List.length (Dt.L x2 1):Int))) x2)
 else
 gK m x0 x1 false x2))
  else
    gK m x0 x1 false x2)
def nE (m:Nat) (x0:Bool) (x1:Dt):Option Int:=
  (bif ((Dt.I x1 0)==3) then
    jP m x0 true x1
  else
    ((nQ m (Dt.I x1 0)).bind fun r6=>
 jP m x0 (r6==3) x1))
def nG (m:Nat) (x0:Bool) (x1:Dt):Option Int:=
 (bif x0 then
    some 11
 else
    ((bif ((Dt.I x1 0)==2) then nE m true x1 else nE m ((Dt.I x1 0)==3) x1)))
def jQ (m:Nat) (x0:Bool) (x1:Dt):Option Int:=
 (bif x0 then
    some 11
 else
    ((bif ((Dt.I x1 0)==34) then nG m ((List.length (Dt.L x1 6):Int) !=(List.length (Dt.L x1 3):Int)) x1 else nG m false x1)))
def jd:Nat→Dt→Option Int
  |0,_=>none
  | m+1,a0=>
    (bif (decide ((Dt.I a0 0)<1)) then
    jQ m true a0
  else
    (bif (decide (37<(Dt.I a0 0))) then
 jQ m true a0
    else
 ((nQ m (Dt.I a0 0)).bind fun r7=>
 ((oC m r7 (List.length (Dt.L a0 6):Int)).bind fun r8=>
 jQ m (Bool.not r8) a0))))
def Yc (m:Nat) (self40:Q10) (rec4:Q74) (x0:Int) (x1:List Dt) (x2 x3 x4:Int):Option (Int×Int):=
 rec4 x0 x1 x2 (IntKind.wrap .i64 (x3+1)) x4
def Gs (m:Nat) (self40:Q10):Nat→Int→List Dt→Int→Int→Int→Option (Int×Int)
 |0,_,_,_,_,_=>none
 |  M4+1,x0,x1,x2,x3,x4=>
    (bif (decide (x3<x2)) then
    (((idx x1 x3).bind fun v1=>((self40 v1 (IntKind.wrap .i64 (x0+1)) x4).bind fun r2=>(bif (r2.1 !=0) then some (r2.1,r2.2) else Yc m self40 (Gs m self40 M4) x0 x1 x2 x3 r2.2))))
 else
    (some (0,x4)))
def R3 (m:Nat) (self40:Q10) (x0:Int) (x1:Bool) (x2:Int) (x3:Dt):Option (Int×Int):=
 (bif x1 then
    some (2,x2)
 else
    (((jd m x3).bind fun r0=>(bif (r0 !=0) then some (r0,(IntKind.wrap .i64 (x2+1))) else((Gs m self40 (Nat.succ m) x0 (Dt.L x3 6) (List.length (Dt.L x3 6):Int) 0 (IntKind.wrap .i64 (x2+1))))))))
def i40:Nat→Dt→Int→Int→Option (Int×Int)
 |0,_,_,_=>none
 |  m+1,a0,a1,a2=>
    (bif (decide (16<a1)) then
    R3 m (i40 m) a1 true a2 a0
 else
    R3 m (i40 m) a1 (a2==256) a2 a0)
def p8:Nat→Dt→Option Int
 |0,_=>none
 |  m+1,a0=>
    ((i40 m a0 1 0).bind fun r0=>
    some r0.1)
def expr_Eval:Nat→Dt→Dt→Option Dt
  |0,_,_=>none
  | m+1,a0,a1=>
    ((p8 m a0).bind fun r0=>
    (bif (r0 !=0) then
 some kza2373
    else
 (((expr_eval m a0 a1 (Dt.lst [])).bind fun r1=>((aJ m r1).bind fun r2=>some r2)))))
def wB (m:Nat) (rec2:Q75) (x0 x1:List Dt) (x2:Int) (x3:Dt):Option (List Dt):=
 rec2 x0 x1 (IntKind.wrap .i64 (x2+1)) x3
def wC (m:Nat) (rec2:Q75) (x0 x1:List Dt) (x2:Int) (x3:Dt):Option (List Dt):=
  ((idx x0 (IntKind.wrap .i64 (x2-1))).bind fun v0=>
    ((idx x0 x2).bind fun v1=>
 ((ay m v0 v1).bind fun r2=>
 (bif (decide (0≤r2)) then
 some []
 else
 wB m rec2 x0 x1 x2 x3))))
def l7 (m:Nat) (rec7:Q40) (x0:List Dt) (x1:Int) (x2:List Dt) (x3 x4:Int) (x5:Dt) (x6:List Dt):Option (List Dt):=
 rec7 x0 x1 x2 x3 (IntKind.wrap .i64 (x4+1)) x5 x6
def p9 (m:Nat) (rec7:Q40) (x0:List Dt) (x1 x2:Int) (x3:List Dt) (x4 x5:Int) (x6:Dt) (x7:List Dt):Option (List Dt):=
  ((inL x7 x2).bind fun v7=>
    ((x7[(Int.toNat x2)]?).bind fun v8=>
 ((inL x7 x2).bind fun v9=>
 ((x7[(Int.toNat x2)]?).bind fun v10=>
 l7 m rec7 x0 x1 x3 x4 x5 x6 (List.set x7 (Int.toNat x2) (Dt.int (IntKind.wrap .i64 ((Dt.toInt v8)+1))))))))
def je (m:Nat) (rec7:Q40) (x0:List Dt) (x1 x2:Int) (x3:List Dt) (x4 x5:Int) (x6:Bool) (x7:Dt) (x8:List Dt):Option (List Dt):=
 (bif x6 then
    l7 m rec7 x0 (IntKind.wrap .i64 (x1+1)) x3 x4 x5 x7 x8
 else
    p9 m rec7 x0 x1 x2 x3 x4 x5 x7 x8)
def fA (m:Nat) (rec7:Q40) (x0:List Dt) (x1 x2:Int) (x3:List Dt) (x4 x5:Int) (x6:Dt) (x7:List Dt):Option (List Dt):=
 (bif (decide (x2<0)) then
    je m rec7 x0 x1 x2 x3 x4 x5 true x6 x7
 else
    je m rec7 x0 x1 x2 x3 x4 x5 (decide ((IntKind.wrap .i64 ((List.length x0:Int)-1))≤x2)) x6 x7)
def wD (m:Nat) (rec7:Q40) (x0:List Dt) (x1:Int) (x2:List Dt) (x3 x4:Int) (x5:Dt) (x6:List Dt):Option (List Dt):=
  ((idx x2 x4).bind fun v4=>
    ((expr_Eval m x5 v4).bind fun r5=>
 ((i15 m x0 r5).bind fun r6=>
 (bif (Bool.not r6.2) then
 fA m rec7 x0 x1 (IntKind.wrap .i64 (r6.1-1)) x2 x3 x4 x5 x6
 else
 fA m rec7 x0 x1 r6.1 x2 x3 x4 x5 x6))))
def qb (m:Nat) (rec15:Q76) (x0:List Dt) (x1:Int) (x2:List Dt) (x3 x4:Int) (x5:List Dt):Option (List Dt):=
 rec15 x0 x1 x2 x3 (IntKind.wrap .i64 (x4+1)) x5
def uR (m:Nat) (rec15:Q76) (x0:List Dt) (x1:Int) (x2:List Dt) (x3 x4:Int) (x5:List Dt):Option (List Dt):=
  ((idx x2 x4).bind fun v11=>
    (bif (decide (0<(Dt.toInt v11))) then
 ((idx x0 x4).bind fun v12=>
 ((aL m v12).bind fun r13=>
 ((fB m r13 (Dt.toInt v11)).bind fun r14=>
 ((app x5 [r14]).bind fun v15=>
 qb m rec15 x0 x1 x2 x3 x4 v15))))
    else
 qb m rec15 x0 x1 x2 x3 x4 x5))
def qc (m:Nat) (x0:List Dt):Option (List Dt):=
 some x0
def uS (m:Nat) (x0:Int) (x1:List Dt):Option (List Dt):=
  (bif (decide (0<x0)) then
    ((fB m nC x0).bind fun r16=>
 ((app x1 [r16]).bind fun v17=>
 qc m v17))
  else
    qc m x1)
def jf (m:Nat):Nat→List Dt→Int→List Dt→Int→Int→List Dt→Option (List Dt)
 |0,_,_,_,_,_,_=>none
 |  M15+1,x0,x1,x2,x3,x4,x5=>
    (bif (decide (x4<x3)) then
    uR m (jf m M15) x0 x1 x2 x3 x4 x5
 else
    uS m x1 x5)
def qd (m:Nat) (x0:List Dt) (x1:Int) (x2:List Dt):Option (List Dt):=
 (jf m (Nat.succ m) x0 x1 x2 (List.length x2:Int) 0 [])
def bB (m:Nat):Nat→List Dt→Int→List Dt→Int→Int→Dt→List Dt→Option (List Dt)
 |0,_,_,_,_,_,_,_=>none
 |  M7+1,x0,x1,x2,x3,x4,x5,x6=>
    (bif (decide (x4<x3)) then
    wD m (bB m M7) x0 x1 x2 x3 x4 x5 x6
 else
    qd m x0 x1 x6)
def nH (m:Nat) (x0 x1:List Dt) (x2:Dt):Option (List Dt):=
 (( mkL (List.length x0:Int) (List.length x0:Int) (Dt.int 0)).bind fun v3=>
    (bB m (Nat.succ m) x0 0 x1 (List.length x1:Int) 0 x2 v3))
def jR (m:Nat):Nat→List Dt→List Dt→Int→Dt→Option (List Dt)
 |0,_,_,_,_=>none
 |  M2+1,x0,x1,x2,x3=>
    (bif (decide (x2<(List.length x0:Int))) then
    wC m (jR m M2) x0 x1 x2 x3
 else
    nH m x0 x1 x3)
def gI:Nat→Dt→List Dt→List Dt→Option (List Dt)
 |0,_,_,_=>none
 |  m+1,a0,a1,a2=>
    (bif (decide ((List.length a1:Int)<2)) then
    some []
 else
    ((jR m (Nat.succ m) a1 a2 1 a0)))
def bq (m:Nat) (x0 x1:List Dt) (x2:Bool) (x3:Dt):Option Bool:=
  (bif x2 then
    ((EC).bind fun r1=>
 some r1)
  else
    (((gI m x3 x0 x1).bind fun r2=>((jM m x3 x0 x1).bind fun r3=>((aZ m r2 r3).bind fun r4=>(bif r4 then((EC).bind fun r5=>some r5) else some false))))))
def ig:Nat→Dt→List Dt→List Dt→Option Bool
  |0,_,_,_=>none
  | m+1,a0,a1,a2=>
    ((lM m a2).bind fun r0=>
    (bif (Bool.not r0) then
 bq m a1 a2 true a0
    else
 (bif (decide (30<(List.length a1:Int))) then
 bq m a1 a2 true a0
 else
 ((iH m a0).bind fun r6=>
 (bif (r6 !=0) then
 bq m a1 a2 true a0
 else
 ((i7 m a1).bind fun r7=>
 bq m a1 a2 r7 a0))))))
end Go.Proofs.YtmecfjhdnbgfeaaGreatDoor
