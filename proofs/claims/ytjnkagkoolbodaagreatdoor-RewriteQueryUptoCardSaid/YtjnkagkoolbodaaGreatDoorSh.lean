/- Generated: what the Go functions compute, over plain data. -/
import Derived.Test.YtjnkagkoolbodaaGreatDoorAm20
import Derived.Test.YtjnkagkoolbodaaGreatDoorOAwake
import Derived.Test.YtjnkagkoolbodaaGreatDoorOLibW
set_option linter.unusedVariables false
set_option linter.unusedSimpArgs false
noncomputable section
namespace Go.Proofs.YtjnkagkoolbodaaGreatDoor
open Go.Am
abbrev Q0:=Nat→Nat→Nat→St→Option Bool→Option Bool
abbrev Q1:=Nat→Nat→Nat→St→Option Int→Option Int
abbrev Q2:=Dt→Dt→Option Bool
abbrev Q3:=Int→Dt→Dt→Option Bool
abbrev Q4:=List Dt→Int→Option Int
abbrev Q5:=List Dt→Int→Int→List Dt→Option (List Dt)
abbrev Q6:=Dt→Option Dt
abbrev Q7:=Dt→Bool→Option Bool
abbrev Q8:=Nat→Nat→Nat→St→Option (List Dt)→Option (List Dt)
abbrev Q9:=Int→Dt→Option Int
abbrev Q10:=Nat→Nat→Nat→St→Option Dt→Option Dt
abbrev Q11:=List Dt→List Dt→Int→Option Bool
abbrev Q12:=Dt→Bool→Option Int
abbrev Q13:=List Dt→Bool→Option Int
abbrev Q14:=Dt→Option Bool
abbrev Q15:=List Dt→List Dt→Option Bool
abbrev Q16:=Dt→Int→Int→Option (Int×Int)
abbrev Q17:=ByteArray→Int→Option Bool
abbrev Q18:=Dt→Int→Int→Option (Bool×Int×Int)
abbrev Q19:=Int→Dt→List Dt→Option (List Dt)
abbrev Q20:=Dt→Dt→Option Int
abbrev Q21:=List Dt→Option Bool
abbrev Q22:=List Dt→Int→Int→Option Int
abbrev Q23:=List Dt→Int→Int→Int→Int→Option (Int×Int)
abbrev Q24:=Dt→Int→Option Int
abbrev Q25:=Bool→Int→Dt→Option Bool
abbrev Q26:=List Dt→Int→Dt→Option Int
abbrev Q27:=List Dt→Int→Option Bool
abbrev Q28:=List Dt→Int→Int→List Dt→Option Bool
abbrev Q29:=Dt→Option Int
abbrev Q30:=ByteArray→Int→Int→Option Bool
abbrev Q31:=Nat→Nat→Nat→St→Option (Int×Int)→Option (Int×Int)
abbrev Q32:=List Dt→Int→Int→Int→Option Int
abbrev Q33:=Dt→Int→Int→Option (Bool×Int)
abbrev Q34:=Dt→Int→Int→Option Int
abbrev Q35:=Int→Dt→Dt→Option Int
abbrev Q36:=Bool→Int→Dt→Option Int
abbrev Q37:=List Dt→Int→Int→Dt→Int→Int→Int→ByteArray→Int→Int→Int→Int→Int→ByteArray→Int→Int→ByteArray→Int→List Dt→List Dt→List Dt→List Dt→List Dt→List Dt→List Dt→List Dt→List Dt→List Dt→List Dt→Option Dt
abbrev Q38:=Int→Int→Dt→Option Int
abbrev Q39:=List Dt→Int→Int→Option Bool
abbrev Q40:=List Dt→Int→Int→Dt→Option Int
abbrev Q41:=Int→Bool→Int→Dt→Option Int
abbrev Q42:=List Dt→Bool→Int→Option Int
abbrev Q43:=ByteArray→Int→Int→Int→Option Bool
abbrev Q44:=Int→Int→Int→Dt→Option (Int×Int)
abbrev Q45:=Bool→List Dt→Int→Int→Dt→Option Int
abbrev Q46:=Nat→Nat→Nat→St→Option (Bool×Int×Int)→Option (Bool×Int×Int)
abbrev Q47:=Nat→Nat→Nat→St→Option (Dt×List Dt)→Option (Dt×List Dt)
abbrev Q48:=List Dt→Int→Int→Int→List Dt→Int→Option Int
abbrev Q49:=Int→List Dt→Int→Int→Int→Option (Bool×Int)
abbrev Q50:=Int→Int→Int→Dt→Option Int
abbrev Q51:=Int→List Dt→Int→Option Bool
abbrev Q52:=ByteArray→ByteArray→Int→Option Int
abbrev Q53:=Int→List Dt→Int→Int→Option Int
abbrev Q54:=Int→Int→List Dt→Int→Option Int
abbrev Q55:=Bool→Int→Int→Dt→Dt→Option Bool
abbrev Q56:=List Dt→Int→Bool→Int→Option Int
abbrev Q57:=Int→List Dt→Int→Int→Int→Option (Int×Int)
abbrev Q58:=List Dt→Int→Dt→Dt→Option (Dt×List Dt)
abbrev Q59:=List Dt→Int→Dt→Option (Dt×List Dt)
abbrev Q60:=Nat→Nat→Nat→St→Option (Bool×Int)→Option (Bool×Int)
abbrev Q61:=Dt→List Dt→Option (List Dt)
abbrev Q63:=List Dt→Int→Bool→Option Int
abbrev Q65:=Int→Bool→Dt→Dt→Option Bool
abbrev Q66:=Bool→Dt→Dt→Option Bool
abbrev Q67:=Bool→Dt→Option Bool
abbrev Q68:=Int→Bool→Dt→Option Bool
abbrev Q69:=List Dt→List Dt→Int→Bool→Option Bool
abbrev Q70:=ByteArray→Int→Bool→Option Bool
abbrev Q71:=ByteArray→Bool→Option Bool
abbrev Q72:=List Dt→Bool→Option Bool
abbrev Q73:=Bool→Option Int
abbrev Q74:=Bool→Dt→Option Int
abbrev Q75:=Int→Bool→Option Bool
abbrev Q76:=Int→Int→Bool→Option Bool
abbrev Q77:=Int→Int→Dt→Dt→Option Int
abbrev Q78:=Int→Bool→Dt→Dt→Option Int
abbrev Q79:=ByteArray→Int→Int→Bool→Option Bool
abbrev Q80:=Bool→Option Bool
abbrev Q81:=ByteArray→List Dt→Int→Int→Bool→List Dt→Option Bool
abbrev Q82:=Int→Bool→Option Int
abbrev Q83:=Int→List Dt→Bool→Option Int
abbrev Q84:=ByteArray→Int→Int→Int→Bool→Option Bool
abbrev Q85:=Bool→Bool→Dt→Option Bool
abbrev Q86:=Bool→Bool→Bool→Dt→Option Bool
abbrev Q87:=Bool→Int→Bool→Dt→Dt→Option Bool
abbrev Q88:=Bool→Bool→Dt→Option Int
abbrev Q89:=Bool→Int→Int→Dt→Option Int
abbrev Q90:=List Dt→Int→Int→Bool→Dt→Option Int
abbrev Q91:=List Dt→Int→Bool→Dt→Option Int
abbrev Q92:=Int→Bool→Dt→Option Int
abbrev Q93:=List Dt→Bool→Int→Bool→Dt→Option Int
abbrev Q94:=List Dt→Int→Int→Bool→List Dt→Dt→Option Bool
abbrev Q95:=Bool→Bool→Bool→Dt→Option Int
abbrev Q96:=Int→Int→Dt→Option (Int×Int)
abbrev Q97:=Bool→Int→List Dt→Int→Int→Dt→Option Int
abbrev Q98:=List Dt→Dt→Dt→Option (Dt×List Dt)
abbrev Q99:=List Dt→Bool→Dt→Dt→Option (Dt×List Dt)
def KZ:=Dt.agg [(Dt.int 0),(Dt.lst []),(Dt.agg [(Dt.int 0),(Dt.int 0),(Dt.str (ByteArray.mk (List.toArray []))),(Dt.lst []),(Dt.lst [])]),(Dt.lst []),(Dt.int 0),(Dt.int 0),(Dt.agg [(Dt.int 0),(Dt.lst []),(Dt.int 0)]),(Dt.agg [(Dt.int 0),(Dt.lst []),(Dt.str (ByteArray.mk (List.toArray []))),(Dt.lst []),(Dt.agg [(Dt.int 0),(Dt.int 0),(Dt.str (ByteArray.mk (List.toArray []))),(Dt.lst []),(Dt.lst [])]),(Dt.int 0),(Dt.lst [])]),(Dt.lst [])]
def akS:=Dt.agg [(Dt.int 1),(Dt.lst []),(Dt.agg [(Dt.int 0),(Dt.int 0),(Dt.str (ByteArray.mk (List.toArray []))),(Dt.lst []),(Dt.lst [])]),(Dt.lst []),(Dt.int 0),(Dt.int 0),(Dt.agg [(Dt.int 0),(Dt.lst []),(Dt.int 0)]),(Dt.agg [(Dt.int 0),(Dt.lst []),(Dt.str (ByteArray.mk (List.toArray []))),(Dt.lst []),(Dt.agg [(Dt.int 0),(Dt.int 0),(Dt.str (ByteArray.mk (List.toArray []))),(Dt.lst []),(Dt.lst [])]),(Dt.int 0),(Dt.lst [])]),(Dt.lst [])]
def aNF:=Dt.agg [(Dt.lst []),(Dt.bool Bool.false)]
def uQ:=Dt.agg [(Dt.int 0),(Dt.int 0),(Dt.str (ByteArray.mk (List.toArray []))),(Dt.lst []),(Dt.lst [])]
def aNG:=Dt.agg [(Dt.str (ByteArray.mk (List.toArray []))),(Dt.agg [(Dt.int 0),(Dt.int 0),(Dt.str (ByteArray.mk (List.toArray []))),(Dt.lst []),(Dt.lst [])])]
def aAT:=Dt.agg [(Dt.int 0),(Dt.lst []),(Dt.str (ByteArray.mk (List.toArray []))),(Dt.lst []),(Dt.agg [(Dt.int 0),(Dt.int 0),(Dt.str (ByteArray.mk (List.toArray []))),(Dt.lst []),(Dt.lst [])]),(Dt.int 0),(Dt.lst [])]
def aNH:=Dt.agg [(Dt.lst []),(Dt.int 0),(Dt.int 0)]
def aNI:=Dt.agg [(Dt.lst []),(Dt.agg [(Dt.int 0),(Dt.lst []),(Dt.str (ByteArray.mk (List.toArray []))),(Dt.lst []),(Dt.agg [(Dt.int 0),(Dt.int 0),(Dt.str (ByteArray.mk (List.toArray []))),(Dt.lst []),(Dt.lst [])]),(Dt.int 0),(Dt.lst [])])]
def aNJ:=Dt.agg [(Dt.str (ByteArray.mk (List.toArray []))),(Dt.int 0),(Dt.agg [(Dt.int 0),(Dt.lst []),(Dt.str (ByteArray.mk (List.toArray []))),(Dt.lst []),(Dt.agg [(Dt.int 0),(Dt.int 0),(Dt.str (ByteArray.mk (List.toArray []))),(Dt.lst []),(Dt.lst [])]),(Dt.int 0),(Dt.lst [])]),(Dt.lst []),(Dt.int 0)]
def aNK:=Dt.agg [(Dt.str (ByteArray.mk (List.toArray []))),(Dt.int 0),(Dt.agg [(Dt.int 0),(Dt.lst []),(Dt.str (ByteArray.mk (List.toArray []))),(Dt.lst []),(Dt.agg [(Dt.int 0),(Dt.int 0),(Dt.str (ByteArray.mk (List.toArray []))),(Dt.lst []),(Dt.lst [])]),(Dt.int 0),(Dt.lst [])]),(Dt.int 0),(Dt.int 0),(Dt.bool Bool.false)]
def aNL:=Dt.agg [(Dt.int 0),(Dt.agg [(Dt.int 0),(Dt.lst []),(Dt.agg [(Dt.int 0),(Dt.int 0),(Dt.str (ByteArray.mk (List.toArray []))),(Dt.lst []),(Dt.lst [])]),(Dt.lst []),(Dt.int 0),(Dt.int 0),(Dt.agg [(Dt.int 0),(Dt.lst []),(Dt.int 0)]),(Dt.agg [(Dt.int 0),(Dt.lst []),(Dt.str (ByteArray.mk (List.toArray []))),(Dt.lst []),(Dt.agg [(Dt.int 0),(Dt.int 0),(Dt.str (ByteArray.mk (List.toArray []))),(Dt.lst []),(Dt.lst [])]),(Dt.int 0),(Dt.lst [])]),(Dt.lst [])]),(Dt.agg [(Dt.bool Bool.false),(Dt.lst []),(Dt.bool Bool.false),(Dt.lst []),(Dt.lst [])]),(Dt.lst []),(Dt.lst []),(Dt.int 0),(Dt.lst []),(Dt.str (ByteArray.mk (List.toArray []))),(Dt.bool Bool.false),(Dt.agg [(Dt.int 0),(Dt.lst []),(Dt.str (ByteArray.mk (List.toArray []))),(Dt.lst []),(Dt.agg [(Dt.int 0),(Dt.int 0),(Dt.str (ByteArray.mk (List.toArray []))),(Dt.lst []),(Dt.lst [])]),(Dt.int 0),(Dt.lst [])]),(Dt.agg [(Dt.agg [(Dt.int 0),(Dt.lst []),(Dt.str (ByteArray.mk (List.toArray []))),(Dt.lst []),(Dt.agg [(Dt.int 0),(Dt.int 0),(Dt.str (ByteArray.mk (List.toArray []))),(Dt.lst []),(Dt.lst [])]),(Dt.int 0),(Dt.lst [])]),(Dt.lst [])]),(Dt.agg [(Dt.agg [(Dt.int 0),(Dt.lst []),(Dt.str (ByteArray.mk (List.toArray []))),(Dt.lst []),(Dt.agg [(Dt.int 0),(Dt.int 0),(Dt.str (ByteArray.mk (List.toArray []))),(Dt.lst []),(Dt.lst [])]),(Dt.int 0),(Dt.lst [])]),(Dt.lst []),(Dt.lst [])]),(Dt.agg [(Dt.str (ByteArray.mk (List.toArray []))),(Dt.lst []),(Dt.lst []),(Dt.str (ByteArray.mk (List.toArray []))),(Dt.lst [])]),(Dt.lst []),(Dt.lst []),(Dt.agg [(Dt.str (ByteArray.mk (List.toArray []))),(Dt.lst []),(Dt.int 0),(Dt.int 0)]),(Dt.agg [(Dt.int 0),(Dt.lst []),(Dt.int 0)])]
def aNM:=Dt.agg [(Dt.str (ByteArray.mk (List.toArray []))),(Dt.lst [])]
def K3:=Dt.agg [(Dt.int 0),(Dt.lst []),(Dt.int 0)]
def Wi:=Dt.agg [(Dt.bool Bool.false),(Dt.lst []),(Dt.bool Bool.false),(Dt.lst []),(Dt.lst [])]
def Wj:=Dt.agg [(Dt.agg [(Dt.int 0),(Dt.lst []),(Dt.agg [(Dt.int 0),(Dt.int 0),(Dt.str (ByteArray.mk (List.toArray []))),(Dt.lst []),(Dt.lst [])]),(Dt.lst []),(Dt.int 0),(Dt.int 0),(Dt.agg [(Dt.int 0),(Dt.lst []),(Dt.int 0)]),(Dt.agg [(Dt.int 0),(Dt.lst []),(Dt.str (ByteArray.mk (List.toArray []))),(Dt.lst []),(Dt.agg [(Dt.int 0),(Dt.int 0),(Dt.str (ByteArray.mk (List.toArray []))),(Dt.lst []),(Dt.lst [])]),(Dt.int 0),(Dt.lst [])]),(Dt.lst [])]),(Dt.lst []),(Dt.int 0),(Dt.int 0),(Dt.agg [(Dt.bool Bool.false),(Dt.lst []),(Dt.bool Bool.false),(Dt.lst []),(Dt.lst [])]),(Dt.str (ByteArray.mk (List.toArray [])))]
def EF (m:Nat) (rec2:Q37) (x0:List Dt) (x1 x2:Int) (x3:Dt) (x4 x5 x6:Int) (x7:ByteArray) (x8 x9 x10 x11 x12:Int) (x13:ByteArray) (x14 x15:Int) (x16:ByteArray) (x17:Int) (x18 x19 x20 x21 x22 x23 x24 x25 x26 x27 x28:List Dt):=
 rec2 x0 x1 (IntKind.wrap .i64 (x2+1)) x3 x4 x5 x6 x7 x8 x9 x10 x11 x12 x13 x14 x15 x16 x17 x18 x19 x20 x21 x22 x23 x24 x25 x26 x27 x28
def EG m rec2 x0 x1 x2 x3 x4 x5 x6 x7 x8 x9 x10 x11 x12 x13 x14 x15 x16 x17 x18 x19 x20 x21 x22 x23 x24 x25 x26 x27 x28:=
  ((idx x0 x2).bind fun v1=>
    ((app x28 [(Dt.fld v1 1)]).bind fun v2=>
 EF m rec2 x0 x1 x2 x3 x4 x5 x6 x7 x8 x9 x10 x11 x12 x13 x14 x15 x16 x17 x18 x19 x20 x21 x22 x23 x24 x25 x26 x27 v2))
def EH (m:Nat) (x0:Dt) (x1 x2 x3:Int) (x4:ByteArray) (x5 x6 x7 x8 x9:Int) (x10:ByteArray) (x11 x12:Int) (x13:ByteArray) (x14:Int) (x15 x16 x17 x18 x19 x20 x21 x22 x23 x24 x25:List Dt):=
 some (Dt.agg [(Dt.int x1),(Dt.lst x15),(Dt.agg [(Dt.int x2),(Dt.int x3),(Dt.str x4),(Dt.lst x16),(Dt.lst x17)]),(Dt.lst x18),(Dt.int x5),(Dt.int x6),(Dt.agg [(Dt.int x7),(Dt.lst x19),(Dt.int x8)]),(Dt.agg [(Dt.int x9),(Dt.lst x20),(Dt.str x10),(Dt.lst x21),(Dt.agg [(Dt.int x11),(Dt.int x12),(Dt.str x13),(Dt.lst x22),(Dt.lst x23)]),(Dt.int x14),(Dt.lst x24)]),(Dt.lst x25)])
def nW (m:Nat):Nat→List Dt→Int→Int→Dt→Int→Int→Int→ByteArray→Int→Int→Int→Int→Int→ByteArray→Int→Int→ByteArray→Int→List Dt→List Dt→List Dt→List Dt→List Dt→List Dt→List Dt→List Dt→List Dt→List Dt→List Dt→Option Dt
 |0,_,_,_,_,_,_,_,_,_,_,_,_,_,_,_,_,_,_,_,_,_,_,_,_,_,_,_,_,_=>none
 |  M2+1,x0,x1,x2,x3,x4,x5,x6,x7,x8,x9,x10,x11,x12,x13,x14,x15,x16,x17,x18,x19,x20,x21,x22,x23,x24,x25,x26,x27,x28=>
    (bif (decide (x2<x1)) then
    EG m (nW m M2) x0 x1 x2 x3 x4 x5 x6 x7 x8 x9 x10 x11 x12 x13 x14 x15 x16 x17 x18 x19 x20 x21 x22 x23 x24 x25 x26 x27 x28
 else
    EH m x3 x4 x5 x6 x7 x8 x9 x10 x11 x12 x13 x14 x15 x16 x17 x18 x19 x20 x21 x22 x23 x24 x25 x26 x27 x28)
def EI m x0 x1 x2 x3 x4 x5 x6 x7 x8 x9 x10 x11 x12 x13 x14 x15 x16 x17 x18 x19 x20 x21 x22 x23 x24 x25 x26 x27 x28:=
 nW m (Nat.succ m) x0 x1 x2 x3 x4 x5 x6 x7 x8 x9 x10 x11 x12 x13 x14 x15 x16 x17 x18 x19 x20 x21 x22 x23 x24 x25 x26 x27 x28
def EJ m x0 x1:=
 EI m x0 (List.length x0:Int) 0 x1 20 0 0 (ByteArray.mk (List.toArray [])) 0 0 0 0 0 (ByteArray.mk (List.toArray [])) 0 0 (ByteArray.mk (List.toArray [])) 0 [] [] [] [] [] [] [] [] [] [] []
def rO:Nat→List Dt→Option Dt
  |0,_=>none
  | m+1,a0=>
    (bif ((List.length a0:Int)==1) then
    ((idx a0 0).bind fun v0=>
 some (Dt.fld v0 1))
  else
    EJ m a0 KZ)
def oH:Nat→List Dt→Int→Int→Option Bool
  |0,_,_,_=>none
  | m+1,a0,a1,a2=>
    (bif (decide (a1<(List.length a0:Int))) then
    ((idx a0 a1).bind fun v0=>
 some ((Dt.I v0 0)==a2))
  else
    some false)
def Ih (m:Nat) (rec3:Q37) (x0:List Dt) (x1 x2:Int) (x3:Dt) (x4 x5 x6:Int) (x7:ByteArray) (x8 x9 x10 x11 x12:Int) (x13:ByteArray) (x14 x15:Int) (x16:ByteArray) (x17:Int) (x18 x19 x20 x21 x22 x23 x24 x25 x26 x27 x28:List Dt):=
 rec3 x0 x1 (IntKind.wrap .i64 (x2+1)) x3 x4 x5 x6 x7 x8 x9 x10 x11 x12 x13 x14 x15 x16 x17 x18 x19 x20 x21 x22 x23 x24 x25 x26 x27 x28
def Ii m rec3 x0 x1 x2 x3 x4 x5 x6 x7 x8 x9 x10 x11 x12 x13 x14 x15 x16 x17 x18 x19 x20 x21 x22 x23 x24 x25 x26 x27 x28:=
  ((idx x0 x2).bind fun v1=>
    ((app x28 [(Dt.fld v1 1)]).bind fun v2=>
 Ih m rec3 x0 x1 x2 x3 x4 x5 x6 x7 x8 x9 x10 x11 x12 x13 x14 x15 x16 x17 x18 x19 x20 x21 x22 x23 x24 x25 x26 x27 v2))
def Ij (m:Nat) (x0:Dt) (x1 x2 x3:Int) (x4:ByteArray) (x5 x6 x7 x8 x9:Int) (x10:ByteArray) (x11 x12:Int) (x13:ByteArray) (x14:Int) (x15 x16 x17 x18 x19 x20 x21 x22 x23 x24 x25:List Dt):=
 some (Dt.agg [(Dt.int x1),(Dt.lst x15),(Dt.agg [(Dt.int x2),(Dt.int x3),(Dt.str x4),(Dt.lst x16),(Dt.lst x17)]),(Dt.lst x18),(Dt.int x5),(Dt.int x6),(Dt.agg [(Dt.int x7),(Dt.lst x19),(Dt.int x8)]),(Dt.agg [(Dt.int x9),(Dt.lst x20),(Dt.str x10),(Dt.lst x21),(Dt.agg [(Dt.int x11),(Dt.int x12),(Dt.str x13),(Dt.lst x22),(Dt.lst x23)]),(Dt.int x14),(Dt.lst x24)]),(Dt.lst x25)])
def qg (m:Nat):Nat→List Dt→Int→Int→Dt→Int→Int→Int→ByteArray→Int→Int→Int→Int→Int→ByteArray→Int→Int→ByteArray→Int→List Dt→List Dt→List Dt→List Dt→List Dt→List Dt→List Dt→List Dt→List Dt→List Dt→List Dt→Option Dt
 |0,_,_,_,_,_,_,_,_,_,_,_,_,_,_,_,_,_,_,_,_,_,_,_,_,_,_,_,_,_=>none
 |  M3+1,x0,x1,x2,x3,x4,x5,x6,x7,x8,x9,x10,x11,x12,x13,x14,x15,x16,x17,x18,x19,x20,x21,x22,x23,x24,x25,x26,x27,x28=>
    (bif (decide (x2<x1)) then
    Ii m (qg m M3) x0 x1 x2 x3 x4 x5 x6 x7 x8 x9 x10 x11 x12 x13 x14 x15 x16 x17 x18 x19 x20 x21 x22 x23 x24 x25 x26 x27 x28
 else
    Ij m x3 x4 x5 x6 x7 x8 x9 x10 x11 x12 x13 x14 x15 x16 x17 x18 x19 x20 x21 x22 x23 x24 x25 x26 x27 x28)
def Ik m x0 x1 x2 x3 x4 x5 x6 x7 x8 x9 x10 x11 x12 x13 x14 x15 x16 x17 x18 x19 x20 x21 x22 x23 x24 x25 x26 x27 x28:=
 qg m (Nat.succ m) x0 x1 x2 x3 x4 x5 x6 x7 x8 x9 x10 x11 x12 x13 x14 x15 x16 x17 x18 x19 x20 x21 x22 x23 x24 x25 x26 x27 x28
def Il m x0 x1 x2:=
 Ik m x0 x1 0 x2 20 0 0 (ByteArray.mk (List.toArray [])) 0 0 0 0 0 (ByteArray.mk (List.toArray [])) 0 0 (ByteArray.mk (List.toArray [])) 0 [] [] [] [] [] [] [] [] [] [] []
def Im m x0 x1 x2:=
  (bif (x1==1) then
    ((idx x0 0).bind fun v0=>
 some (Dt.fld v0 1))
  else
    Il m x0 x1 x2)
def u7:Nat→List Dt→Int→Option Dt
 |0,_,_=>none
 |  m+1,a0,a1=>
    (bif (a1==0) then
    some akS
 else
    Im m a0 a1 KZ)
def EK (m:Nat) (rec3:Q19) (x0:Int) (x1:Dt) (x2:List Dt):=
 rec3 (IntKind.wrap .i64 (x0+1)) x1 x2
def EL m rec3 x0 x1 x2:=
  ((idx (Dt.L x1 13) x0).bind fun v1=>
    ((app x2 [(Dt.lst (Dt.L v1 1))]).bind fun v2=>
 EK m rec3 x0 x1 v2))
def EM (m:Nat) (x0:List Dt):=
 some x0
def nX (m:Nat):Nat→Int→Dt→List Dt→Option (List Dt)
 |0,_,_,_=>none
 |  M3+1,x0,x1,x2=>
    (bif (decide (x0<(List.length (Dt.L x1 13):Int))) then
    EL m (nX m M3) x0 x1 x2
 else
    EM m x2)
def QK m x0 x1 x2:=
 nX m (Nat.succ m) x0 x1 x2
def yA m x0 x1:=
 (bif ((Dt.I x0 0)==11) then
    QK m 0 x0 x1
 else
    EM m x1)
def Cy (k0:Q61) x0 x1 x2:=
  (bif x0 then
    ((app x2 [(Dt.lst (Dt.L (Dt.fld x1 12) 4))]).bind fun v0=>
 k0 x1 v0)
  else
    k0 x1 x2)
def sS m:=Cy (yA m)
def oI:Nat→Dt→Option (List Dt)
 |0,_=>none
 |  m+1,a0=>
    (bif ((Dt.I a0 0)==10) then
    sS m true a0 []
 else
    sS m ((Dt.I a0 0)==15) a0 [])
def Io (m:Nat) (self7:Q4) (rec3:Q32) (rec6:Q48) (x0:List Dt) (x1 x2 x3:Int) (x4:List Dt) (x5:Int):=
 rec6 x0 x1 x2 x3 x4 (IntKind.wrap .i64 (x5+1))
def Ip m (self7:Q4) (rec3:Q32) (rec6:Q48) x0 x1 x2 x3 x4 x5:=
  ((idx x4 x5).bind fun v2=>
    ((self7 (Dt.toLst v2) (IntKind.wrap .i64 (x1+1))).bind fun r3=>
 Io m self7 rec3 rec6 x0 x1 (IntKind.wrap .i64 (x2+r3)) x3 x4 x5))
def vg (m:Nat) (self7:Q4) (rec3:Q32) (x0:List Dt) (x1 x2 x3:Int):=
 rec3 x0 x1 x2 (IntKind.wrap .i64 (x3+1))
def qh (m:Nat) (self7:Q4) (rec3:Q32):Nat→List Dt→Int→Int→Int→List Dt→Int→Option Int
  |0,_,_,_,_,_,_=>none
  | M6+1,x0,x1,x2,x3,x4,x5=>
    (bif (decide (x5<(List.length x4:Int))) then
    (bif (decide (x2≤32)) then
 Ip m self7 rec3 (qh m self7 rec3 M6) x0 x1 x2 x3 x4 x5
    else
 vg m self7 rec3 x0 x1 x2 x3)
  else
    vg m self7 rec3 x0 x1 x2 x3)
def UG m self7 rec3 x0 x1 x2 x3 x4 x5:=
 qh m self7 rec3 (Nat.succ m) x0 x1 x2 x3 x4 x5
def Iq m self7 rec3 x0 x1 x2 x3:=
  ((idx x0 x3).bind fun v0=>
    ((oI m v0).bind fun r1=>
 UG m self7 rec3 x0 x1 x2 x3 r1 0))
def EN (m:Nat) (self7:Q4) (x0:Int):=
 some x0
def qj (m:Nat) (self7:Q4):Nat→List Dt→Int→Int→Int→Option Int
  |0,_,_,_,_=>none
  | M3+1,x0,x1,x2,x3=>
    (bif (decide (x3<(List.length x0:Int))) then
    (bif (decide (x2≤32)) then
 Iq m self7 (qj m self7 M3) x0 x1 x2 x3
    else
 EN m self7 x2)
  else
    EN m self7 x2)
def UH m self7 x0 x1 x2 x3:=
 qj m self7 (Nat.succ m) x0 x1 x2 x3
def UJ m self7 x0 x1:=
 UH m self7 x0 x1 (List.length x0:Int) 0
def Ai m self7 x0 x1 x2:=
 (bif x2 then
    some 33
 else
    UJ m self7 x0 x1)
def P5 (k0:Q63) a0 a1:=
    (bif (decide (16<a1)) then
    (bif (decide (0<(List.length a0:Int))) then
 k0 a0 a1 true
    else
 k0 a0 a1 (decide (32<(List.length a0:Int))))
  else
    k0 a0 a1 (decide (32<(List.length a0:Int))))
def bB:Nat→List Dt→Int→Option Int
 |0,_,_=>none
 |  m+1,a0,a1=>
    P5 (Ai m (bB m)) a0 a1
def asa (m:Nat) (self27:Q33) (rec3:Q49) (x0:Int) (x1:List Dt) (x2 x3 x4:Int):=
 rec3 x0 x1 x2 (IntKind.wrap .i64 (x3+1)) x4
def asb (k0:Q49) (self27:Q33) x0 x1 x2 x3 x4:=
  ((idx x1 x3).bind fun v0=>
    ((self27 v0 (IntKind.wrap .i64 (x0+1)) x4).bind fun r1=>
 (bif (Bool.not r1.1) then
 some (false,r1.2)
 else
 k0 x0 x1 x2 x3 r1.2)))
def axB m self27 rec3:=asb (asa m self27 rec3) self27
def aJm (m:Nat) (self27:Q33) (x0:Int):=
 some (true,x0)
def aaV (m:Nat) (self27:Q33):Nat→Int→List Dt→Int→Int→Int→Option (Bool×Int)
 |0,_,_,_,_,_=>none
 |  M3+1,x0,x1,x2,x3,x4=>
    (bif (decide (x3<x2)) then
    axB m self27 (aaV m self27 M3) x0 x1 x2 x3 x4
 else
    aJm m self27 x4)
def axC m self27 x0 x1 x2 x3 x4:=
 aaV m self27 (Nat.succ m) x0 x1 x2 x3 x4
def axD m self27 x0 x1 x2:=
 axC m self27 x0 (Dt.L x2 8) (List.length (Dt.L x2 8):Int) 0 (IntKind.wrap .i64 (x1+1))
def asc m self27 x0 x1 x2 x3:=
 (bif x1 then
    some (false,x2)
 else
    axD m self27 x0 x2 x3)
def i27:Nat→Dt→Int→Int→Option (Bool×Int)
 |0,_,_,_=>none
 |  m+1,a0,a1,a2=>
    (bif (decide (16<a1)) then
    asc m (i27 m) a1 true a2 a0
 else
    asc m (i27 m) a1 (a2==256) a2 a0)
def aM:Nat→List Dt→Option (List Dt)
 |0,_=>none
 |  m+1,a0=>
    ((app [] a0).bind fun v0=>
    some v0)
def fG:Nat→Dt→Option Dt
 |0,_=>none
 |  m+1,a0=>
    ((aM m (Dt.L a0 0)).bind fun r0=>
    some (Dt.agg [(Dt.lst r0),(Dt.bool (Dt.B a0 1))]))
def amr (m:Nat) (rec2:Q5) (x0:List Dt) (x1 x2:Int) (x3:List Dt):=
 rec2 x0 x1 (IntKind.wrap .i64 (x2+1)) x3
def aeK (k0:Q5) m x0 x1 x2 x3:=
  ((idx x0 x2).bind fun v1=>
    ((fG m v1).bind fun r2=>
 ((inL x3 x2).bind fun v3=>
 ((x3[(Int.toNat x2)]?).bind fun v4=>
 k0 x0 x1 x2 (List.set x3 (Int.toNat x2) r2)))))
def ams m rec2:=aeK (amr m rec2) m
def amt (m:Nat) (x0:List Dt):=
 some x0
def aaW (m:Nat):Nat→List Dt→Int→Int→List Dt→Option (List Dt)
 |0,_,_,_,_=>none
 |  M2+1,x0,x1,x2,x3=>
    (bif (decide (x2<x1)) then
    ams m (aaW m M2) x0 x1 x2 x3
 else
    amt m x3)
def amu m x0 x1 x2 x3:=
 aaW m (Nat.succ m) x0 x1 x2 x3
def aeL (k0:Q5) x0:=
 (( mkL (List.length x0:Int) (List.length x0:Int) aNF).bind fun v0=>
    k0 x0 (List.length x0:Int) 0 v0)
def amv m:=aeL (amu m)
def i12:Nat→List Dt→Option (List Dt)
 |0,_=>none
 |  m+1,a0=>
    (bif ((List.length a0:Int)==0) then
    some []
 else
    amv m a0)
def amw (m:Nat) (self30:Q6) (rec2:Q5) (x0:List Dt) (x1 x2:Int) (x3:List Dt):=
 rec2 x0 x1 (IntKind.wrap .i64 (x2+1)) x3
def aeM (k0:Q5) (self30:Q6) x0 x1 x2 x3:=
  ((idx x0 x2).bind fun v1=>
    ((self30 v1).bind fun r2=>
 ((inL x3 x2).bind fun v3=>
 ((x3[(Int.toNat x2)]?).bind fun v4=>
 k0 x0 x1 x2 (List.set x3 (Int.toNat x2) r2)))))
def amx m self30 rec2:=aeM (amw m self30 rec2) self30
def amy (m:Nat) (self30:Q6) (x0:List Dt):=
 some x0
def aaX (m:Nat) (self30:Q6):Nat→List Dt→Int→Int→List Dt→Option (List Dt)
 |0,_,_,_,_=>none
 |  M2+1,x0,x1,x2,x3=>
    (bif (decide (x2<x1)) then
    amx m self30 (aaX m self30 M2) x0 x1 x2 x3
 else
    amy m self30 x3)
def amz m self30 x0 x1 x2 x3:=
 aaX m self30 (Nat.succ m) x0 x1 x2 x3
def aeN (k0:Q5) x0:=
 (( mkL (List.length x0:Int) (List.length x0:Int) uQ).bind fun v0=>
    k0 x0 (List.length x0:Int) 0 v0)
def amA m self30:=aeN (amz m self30)
def amB (m:Nat) (self80:Q6) (rec2:Q5) (x0:List Dt) (x1 x2:Int) (x3:List Dt):=
 rec2 x0 x1 (IntKind.wrap .i64 (x2+1)) x3
def aeO (k0:Q5) (self80:Q6) x0 x1 x2 x3:=
  ((idx x0 x2).bind fun v1=>
    ((self80 v1).bind fun r2=>
 ((inL x3 x2).bind fun v3=>
 ((x3[(Int.toNat x2)]?).bind fun v4=>
 k0 x0 x1 x2 (List.set x3 (Int.toNat x2) r2)))))
def amC m self80 rec2:=aeO (amB m self80 rec2) self80
def amD (m:Nat) (self80:Q6) (x0:List Dt):=
 some x0
def aaY (m:Nat) (self80:Q6):Nat→List Dt→Int→Int→List Dt→Option (List Dt)
 |0,_,_,_,_=>none
 |  M2+1,x0,x1,x2,x3=>
    (bif (decide (x2<x1)) then
    amC m self80 (aaY m self80 M2) x0 x1 x2 x3
 else
    amD m self80 x3)
def amE m self80 x0 x1 x2 x3:=
 aaY m self80 (Nat.succ m) x0 x1 x2 x3
def aeP (k0:Q5) x0:=
 (( mkL (List.length x0:Int) (List.length x0:Int) aNG).bind fun v0=>
    k0 x0 (List.length x0:Int) 0 v0)
def amF m self80:=aeP (amE m self80)
mutual
def aS:Nat→Dt→Option Dt
  |0,_=>none
  | m+1,a0=>
    ((i31 m (Dt.L a0 3)).bind fun r0=>
    ((i79 m (Dt.L a0 4)).bind fun r1=>
 some (Dt.agg [(Dt.int (Dt.I a0 0)),(Dt.int (Dt.I a0 1)),(Dt.str (Dt.S a0 2)),(Dt.lst r0),(Dt.lst r1)])))
def i31:Nat→List Dt→Option (List Dt)
 |0,_=>none
 |  m+1,a0=>
    (bif ((List.length a0:Int)==0) then
    some []
 else
    amA m (aS m) a0)
def i79:Nat→List Dt→Option (List Dt)
 |0,_=>none
 |  m+1,a0=>
    (bif ((List.length a0:Int)==0) then
    some []
 else
    amF m (bn m) a0)
def bn:Nat→Dt→Option Dt
 |0,_=>none
 |  m+1,a0=>
    ((aS m (Dt.fld a0 1)).bind fun r0=>
    some (Dt.agg [(Dt.str (Dt.S a0 0)),r0]))
end
def dD:Nat→Dt→Option Dt
 |0,_=>none
 |  m+1,a0=>
    ((app [] (Dt.L a0 1)).bind fun v0=>
    some (Dt.agg [(Dt.int (Dt.I a0 0)),(Dt.lst v0),(Dt.int (Dt.I a0 2))]))
def amG (m:Nat) (self33:Q6) (rec2:Q5) (x0:List Dt) (x1 x2:Int) (x3:List Dt):=
 rec2 x0 x1 (IntKind.wrap .i64 (x2+1)) x3
def aeQ (k0:Q5) (self33:Q6) x0 x1 x2 x3:=
  ((idx x0 x2).bind fun v1=>
    ((self33 v1).bind fun r2=>
 ((inL x3 x2).bind fun v3=>
 ((x3[(Int.toNat x2)]?).bind fun v4=>
 k0 x0 x1 x2 (List.set x3 (Int.toNat x2) r2)))))
def amH m self33 rec2:=aeQ (amG m self33 rec2) self33
def amI (m:Nat) (self33:Q6) (x0:List Dt):=
 some x0
def aaZ (m:Nat) (self33:Q6):Nat→List Dt→Int→Int→List Dt→Option (List Dt)
 |0,_,_,_,_=>none
 |  M2+1,x0,x1,x2,x3=>
    (bif (decide (x2<x1)) then
    amH m self33 (aaZ m self33 M2) x0 x1 x2 x3
 else
    amI m self33 x3)
def amJ m self33 x0 x1 x2 x3:=
 aaZ m self33 (Nat.succ m) x0 x1 x2 x3
def aeR (k0:Q5) x0:=
 (( mkL (List.length x0:Int) (List.length x0:Int) aAT).bind fun v0=>
    k0 x0 (List.length x0:Int) 0 v0)
def amK m self33:=aeR (amJ m self33)
mutual
def aK:Nat→Dt→Option Dt
  |0,_=>none
  | m+1,a0=>
    ((aM m (Dt.L a0 1)).bind fun r0=>
    ((aM m (Dt.L a0 3)).bind fun r1=>
 ((aS m (Dt.fld a0 4)).bind fun r2=>
 ((i81 m (Dt.L a0 6)).bind fun r3=>
 some (Dt.agg [(Dt.int (Dt.I a0 0)),(Dt.lst r0),(Dt.str (Dt.S a0 2)),(Dt.lst r1),r2,(Dt.int (Dt.I a0 5)),(Dt.lst r3)])))))
def i81:Nat→List Dt→Option (List Dt)
 |0,_=>none
 |  m+1,a0=>
    (bif ((List.length a0:Int)==0) then
    some []
 else
    amK m (aK m) a0)
end
def amL (m:Nat) (self11:Q6) (rec2:Q5) (x0:List Dt) (x1 x2:Int) (x3:List Dt):=
 rec2 x0 x1 (IntKind.wrap .i64 (x2+1)) x3
def aeS (k0:Q5) (self11:Q6) x0 x1 x2 x3:=
  ((idx x0 x2).bind fun v1=>
    ((self11 v1).bind fun r2=>
 ((inL x3 x2).bind fun v3=>
 ((x3[(Int.toNat x2)]?).bind fun v4=>
 k0 x0 x1 x2 (List.set x3 (Int.toNat x2) r2)))))
def amM m self11 rec2:=aeS (amL m self11 rec2) self11
def amN (m:Nat) (self11:Q6) (x0:List Dt):=
 some x0
def aa0 (m:Nat) (self11:Q6):Nat→List Dt→Int→Int→List Dt→Option (List Dt)
 |0,_,_,_,_=>none
 |  M2+1,x0,x1,x2,x3=>
    (bif (decide (x2<x1)) then
    amM m self11 (aa0 m self11 M2) x0 x1 x2 x3
 else
    amN m self11 x3)
def amO m self11 x0 x1 x2 x3:=
 aa0 m self11 (Nat.succ m) x0 x1 x2 x3
def aeT (k0:Q5) x0:=
 (( mkL (List.length x0:Int) (List.length x0:Int) KZ).bind fun v0=>
    k0 x0 (List.length x0:Int) 0 v0)
def amP m self11:=aeT (amO m self11)
mutual
def aQ:Nat→Dt→Option Dt
  |0,_=>none
  | m+1,a0=>
    ((aM m (Dt.L a0 1)).bind fun r0=>
    ((aS m (Dt.fld a0 2)).bind fun r1=>
 ((i31 m (Dt.L a0 3)).bind fun r2=>
 ((dD m (Dt.fld a0 6)).bind fun r3=>
 ((aK m (Dt.fld a0 7)).bind fun r4=>
 ((i34 m (Dt.L a0 8)).bind fun r5=>
 some (Dt.agg [(Dt.int (Dt.I a0 0)),(Dt.lst r0),r1,(Dt.lst r2),(Dt.int (Dt.I a0 4)),(Dt.int (Dt.I a0 5)),r3,r4,(Dt.lst r5)])))))))
def i34:Nat→List Dt→Option (List Dt)
 |0,_=>none
 |  m+1,a0=>
    (bif ((List.length a0:Int)==0) then
    some []
 else
    amP m (aQ m) a0)
end
def amQ (m:Nat) (rec2:Q5) (x0:List Dt) (x1 x2:Int) (x3:List Dt):=
 rec2 x0 x1 (IntKind.wrap .i64 (x2+1)) x3
def aeU (k0:Q5) m x0 x1 x2 x3:=
  ((idx x0 x2).bind fun v1=>
    ((aM m (Dt.toLst v1)).bind fun r2=>
 ((inL x3 x2).bind fun v3=>
 ((x3[(Int.toNat x2)]?).bind fun v4=>
 k0 x0 x1 x2 (List.set x3 (Int.toNat x2) (Dt.lst r2))))))
def amR m rec2:=aeU (amQ m rec2) m
def amS (m:Nat) (x0:List Dt):=
 some x0
def aa1 (m:Nat):Nat→List Dt→Int→Int→List Dt→Option (List Dt)
 |0,_,_,_,_=>none
 |  M2+1,x0,x1,x2,x3=>
    (bif (decide (x2<x1)) then
    amR m (aa1 m M2) x0 x1 x2 x3
 else
    amS m x3)
def amT m x0 x1 x2 x3:=
 aa1 m (Nat.succ m) x0 x1 x2 x3
def aeV (k0:Q5) x0:=
 (( mkL (List.length x0:Int) (List.length x0:Int) (Dt.lst [])).bind fun v0=>
    k0 x0 (List.length x0:Int) 0 v0)
def amU m:=aeV (amT m)
def i35:Nat→List Dt→Option (List Dt)
 |0,_=>none
 |  m+1,a0=>
    (bif ((List.length a0:Int)==0) then
    some []
 else
    amU m a0)
def fH:Nat→Dt→Option Dt
 |0,_=>none
 |  m+1,a0=>
    ((aM m (Dt.L a0 0)).bind fun r0=>
    some (Dt.agg [(Dt.lst r0),(Dt.int (Dt.I a0 1)),(Dt.int (Dt.I a0 2))]))
def amV (m:Nat) (rec2:Q5) (x0:List Dt) (x1 x2:Int) (x3:List Dt):=
 rec2 x0 x1 (IntKind.wrap .i64 (x2+1)) x3
def aeW (k0:Q5) m x0 x1 x2 x3:=
  ((idx x0 x2).bind fun v1=>
    ((fH m v1).bind fun r2=>
 ((inL x3 x2).bind fun v3=>
 ((x3[(Int.toNat x2)]?).bind fun v4=>
 k0 x0 x1 x2 (List.set x3 (Int.toNat x2) r2)))))
def amW m rec2:=aeW (amV m rec2) m
def amX (m:Nat) (x0:List Dt):=
 some x0
def aa2 (m:Nat):Nat→List Dt→Int→Int→List Dt→Option (List Dt)
 |0,_,_,_,_=>none
 |  M2+1,x0,x1,x2,x3=>
    (bif (decide (x2<x1)) then
    amW m (aa2 m M2) x0 x1 x2 x3
 else
    amX m x3)
def amY m x0 x1 x2 x3:=
 aa2 m (Nat.succ m) x0 x1 x2 x3
def aeX (k0:Q5) x0:=
 (( mkL (List.length x0:Int) (List.length x0:Int) aNH).bind fun v0=>
    k0 x0 (List.length x0:Int) 0 v0)
def amZ m:=aeX (amY m)
def i36:Nat→List Dt→Option (List Dt)
 |0,_=>none
 |  m+1,a0=>
    (bif ((List.length a0:Int)==0) then
    some []
 else
    amZ m a0)
def dH:Nat→Dt→Option Dt
  |0,_=>none
  | m+1,a0=>
    ((aM m (Dt.L a0 0)).bind fun r0=>
    ((aK m (Dt.fld a0 1)).bind fun r1=>
 some (Dt.agg [(Dt.lst r0),r1])))
def am0 (m:Nat) (rec2:Q5) (x0:List Dt) (x1 x2:Int) (x3:List Dt):=
 rec2 x0 x1 (IntKind.wrap .i64 (x2+1)) x3
def aeY (k0:Q5) m x0 x1 x2 x3:=
  ((idx x0 x2).bind fun v1=>
    ((dH m v1).bind fun r2=>
 ((inL x3 x2).bind fun v3=>
 ((x3[(Int.toNat x2)]?).bind fun v4=>
 k0 x0 x1 x2 (List.set x3 (Int.toNat x2) r2)))))
def am1 m rec2:=aeY (am0 m rec2) m
def am2 (m:Nat) (x0:List Dt):=
 some x0
def aa3 (m:Nat):Nat→List Dt→Int→Int→List Dt→Option (List Dt)
 |0,_,_,_,_=>none
 |  M2+1,x0,x1,x2,x3=>
    (bif (decide (x2<x1)) then
    am1 m (aa3 m M2) x0 x1 x2 x3
 else
    am2 m x3)
def am3 m x0 x1 x2 x3:=
 aa3 m (Nat.succ m) x0 x1 x2 x3
def aeZ (k0:Q5) x0:=
 (( mkL (List.length x0:Int) (List.length x0:Int) aNI).bind fun v0=>
    k0 x0 (List.length x0:Int) 0 v0)
def am4 m:=aeZ (am3 m)
def i38:Nat→List Dt→Option (List Dt)
 |0,_=>none
 |  m+1,a0=>
    (bif ((List.length a0:Int)==0) then
    some []
 else
    am4 m a0)
def bW:Nat→Dt→Option Dt
  |0,_=>none
  | m+1,a0=>
    ((i35 m (Dt.L a0 1)).bind fun r0=>
    ((i36 m (Dt.L a0 3)).bind fun r1=>
 ((i38 m (Dt.L a0 4)).bind fun r2=>
 some (Dt.agg [(Dt.bool (Dt.B a0 0)),(Dt.lst r0),(Dt.bool (Dt.B a0 2)),(Dt.lst r1),(Dt.lst r2)]))))
def iC:Nat→Dt→Option Dt
  |0,_=>none
  | m+1,a0=>
    ((aK m (Dt.fld a0 2)).bind fun r0=>
    ((i12 m (Dt.L a0 3)).bind fun r1=>
 some (Dt.agg [(Dt.str (Dt.S a0 0)),(Dt.int (Dt.I a0 1)),r0,(Dt.lst r1),(Dt.int (Dt.I a0 4))])))
def am5 (m:Nat) (rec2:Q5) (x0:List Dt) (x1 x2:Int) (x3:List Dt):=
 rec2 x0 x1 (IntKind.wrap .i64 (x2+1)) x3
def ae0 (k0:Q5) m x0 x1 x2 x3:=
  ((idx x0 x2).bind fun v1=>
    ((iC m v1).bind fun r2=>
 ((inL x3 x2).bind fun v3=>
 ((x3[(Int.toNat x2)]?).bind fun v4=>
 k0 x0 x1 x2 (List.set x3 (Int.toNat x2) r2)))))
def am6 m rec2:=ae0 (am5 m rec2) m
def am7 (m:Nat) (x0:List Dt):=
 some x0
def aa4 (m:Nat):Nat→List Dt→Int→Int→List Dt→Option (List Dt)
 |0,_,_,_,_=>none
 |  M2+1,x0,x1,x2,x3=>
    (bif (decide (x2<x1)) then
    am6 m (aa4 m M2) x0 x1 x2 x3
 else
    am7 m x3)
def am8 m x0 x1 x2 x3:=
 aa4 m (Nat.succ m) x0 x1 x2 x3
def ae1 (k0:Q5) x0:=
 (( mkL (List.length x0:Int) (List.length x0:Int) aNJ).bind fun v0=>
    k0 x0 (List.length x0:Int) 0 v0)
def am9 m:=ae1 (am8 m)
def i40:Nat→List Dt→Option (List Dt)
 |0,_=>none
 |  m+1,a0=>
    (bif ((List.length a0:Int)==0) then
    some []
 else
    am9 m a0)
def iD:Nat→Dt→Option Dt
 |0,_=>none
 |  m+1,a0=>
    ((aK m (Dt.fld a0 2)).bind fun r0=>
    some (Dt.agg [(Dt.str (Dt.S a0 0)),(Dt.int (Dt.I a0 1)),r0,(Dt.int (Dt.I a0 3)),(Dt.int (Dt.I a0 4)),(Dt.bool (Dt.B a0 5))]))
def ana (m:Nat) (rec2:Q5) (x0:List Dt) (x1 x2:Int) (x3:List Dt):=
 rec2 x0 x1 (IntKind.wrap .i64 (x2+1)) x3
def ae2 (k0:Q5) m x0 x1 x2 x3:=
  ((idx x0 x2).bind fun v1=>
    ((iD m v1).bind fun r2=>
 ((inL x3 x2).bind fun v3=>
 ((x3[(Int.toNat x2)]?).bind fun v4=>
 k0 x0 x1 x2 (List.set x3 (Int.toNat x2) r2)))))
def anb m rec2:=ae2 (ana m rec2) m
def anc (m:Nat) (x0:List Dt):=
 some x0
def aa5 (m:Nat):Nat→List Dt→Int→Int→List Dt→Option (List Dt)
 |0,_,_,_,_=>none
 |  M2+1,x0,x1,x2,x3=>
    (bif (decide (x2<x1)) then
    anb m (aa5 m M2) x0 x1 x2 x3
 else
    anc m x3)
def ane m x0 x1 x2 x3:=
 aa5 m (Nat.succ m) x0 x1 x2 x3
def ae3 (k0:Q5) x0:=
 (( mkL (List.length x0:Int) (List.length x0:Int) aNK).bind fun v0=>
    k0 x0 (List.length x0:Int) 0 v0)
def anf m:=ae3 (ane m)
def i42:Nat→List Dt→Option (List Dt)
 |0,_=>none
 |  m+1,a0=>
    (bif ((List.length a0:Int)==0) then
    some []
 else
    anf m a0)
def ang (m:Nat) (self16:Q6) (rec2:Q5) (x0:List Dt) (x1 x2:Int) (x3:List Dt):=
 rec2 x0 x1 (IntKind.wrap .i64 (x2+1)) x3
def ae4 (k0:Q5) (self16:Q6) x0 x1 x2 x3:=
  ((idx x0 x2).bind fun v1=>
    ((self16 v1).bind fun r2=>
 ((inL x3 x2).bind fun v3=>
 ((x3[(Int.toNat x2)]?).bind fun v4=>
 k0 x0 x1 x2 (List.set x3 (Int.toNat x2) r2)))))
def anh m self16 rec2:=ae4 (ang m self16 rec2) self16
def ani (m:Nat) (self16:Q6) (x0:List Dt):=
 some x0
def aa6 (m:Nat) (self16:Q6):Nat→List Dt→Int→Int→List Dt→Option (List Dt)
 |0,_,_,_,_=>none
 |  M2+1,x0,x1,x2,x3=>
    (bif (decide (x2<x1)) then
    anh m self16 (aa6 m self16 M2) x0 x1 x2 x3
 else
    ani m self16 x3)
def anj m self16 x0 x1 x2 x3:=
 aa6 m self16 (Nat.succ m) x0 x1 x2 x3
def ae5 (k0:Q5) x0:=
 (( mkB (List.length x0:Int) (List.length x0:Int) aNL).bind fun v0=>
    k0 x0 (List.length x0:Int) 0 v0)
def ank m self16:=ae5 (anj m self16)
def anl (m:Nat) (self45:Q6) (rec2:Q5) (x0:List Dt) (x1 x2:Int) (x3:List Dt):=
 rec2 x0 x1 (IntKind.wrap .i64 (x2+1)) x3
def ae6 (k0:Q5) (self45:Q6) x0 x1 x2 x3:=
  ((idx x0 x2).bind fun v1=>
    ((self45 v1).bind fun r2=>
 ((inL x3 x2).bind fun v3=>
 ((x3[(Int.toNat x2)]?).bind fun v4=>
 k0 x0 x1 x2 (List.set x3 (Int.toNat x2) r2)))))
def anm m self45 rec2:=ae6 (anl m self45 rec2) self45
def ano (m:Nat) (self45:Q6) (x0:List Dt):=
 some x0
def aa7 (m:Nat) (self45:Q6):Nat→List Dt→Int→Int→List Dt→Option (List Dt)
 |0,_,_,_,_=>none
 |  M2+1,x0,x1,x2,x3=>
    (bif (decide (x2<x1)) then
    anm m self45 (aa7 m self45 M2) x0 x1 x2 x3
 else
    ano m self45 x3)
def anp m self45 x0 x1 x2 x3:=
 aa7 m self45 (Nat.succ m) x0 x1 x2 x3
def ae7 (k0:Q5) x0:=
 (( mkL (List.length x0:Int) (List.length x0:Int) aNM).bind fun v0=>
    k0 x0 (List.length x0:Int) 0 v0)
def anq m self45:=ae7 (anp m self45)
mutual
def i15:Nat→List Dt→Option (List Dt)
 |0,_=>none
 |  m+1,a0=>
    (bif ((List.length a0:Int)==0) then
    some []
 else
    ank m (aX m) a0)
def aX:Nat→Dt→Option Dt
  |0,_=>none
  | m+1,a0=>
    ((aQ m (Dt.fld a0 1)).bind fun r0=>
    ((bW m (Dt.fld a0 2)).bind fun r1=>
 ((i38 m (Dt.L a0 3)).bind fun r2=>
 ((i12 m (Dt.L a0 4)).bind fun r3=>
 ((aM m (Dt.L a0 6)).bind fun r4=>
 ((aK m (Dt.fld a0 9)).bind fun r5=>
 ((aK m (Dt.fld (Dt.fld a0 10) 0)).bind fun r6=>
 ((i40 m (Dt.L (Dt.fld a0 10) 1)).bind fun r7=>
 ((aK m (Dt.fld (Dt.fld a0 11) 0)).bind fun r8=>
 ((i12 m (Dt.L (Dt.fld a0 11) 1)).bind fun r9=>
 ((i42 m (Dt.L (Dt.fld a0 11) 2)).bind fun r10=>
 ((aM m (Dt.L (Dt.fld a0 12) 1)).bind fun r11=>
 ((aM m (Dt.L (Dt.fld a0 12) 2)).bind fun r12=>
 ((i15 m (Dt.L (Dt.fld a0 12) 4)).bind fun r13=>
 ((i44 m (Dt.L a0 13)).bind fun r14=>
 ((i31 m (Dt.L a0 14)).bind fun r15=>
 ((i35 m (Dt.L (Dt.fld a0 15) 1)).bind fun r16=>
 ((dD m (Dt.fld a0 16)).bind fun r17=>
 some (Dt.agg [(Dt.int (Dt.I a0 0)),r0,r1,(Dt.lst r2),(Dt.lst r3),(Dt.int (Dt.I a0 5)),(Dt.lst r4),(Dt.str (Dt.S a0 7)),(Dt.bool (Dt.B a0 8)),r5,(Dt.agg [r6,(Dt.lst r7)]),(Dt.agg [r8,(Dt.lst r9),(Dt.lst r10)]),(Dt.agg [(Dt.str (Dt.S (Dt.fld a0 12) 0)),(Dt.lst r11),(Dt.lst r12),(Dt.str (Dt.S (Dt.fld a0 12) 3)),(Dt.lst r13)]),(Dt.lst r14),(Dt.lst r15),(Dt.agg [(Dt.str (Dt.S (Dt.fld a0 15) 0)),(Dt.lst r16),(Dt.int (Dt.I (Dt.fld a0 15) 2)),(Dt.int (Dt.I (Dt.fld a0 15) 3))]),r17])))))))))))))))))))
def i44:Nat→List Dt→Option (List Dt)
 |0,_=>none
 |  m+1,a0=>
    (bif ((List.length a0:Int)==0) then
    some []
 else
    anq m (aZ m) a0)
def aZ:Nat→Dt→Option Dt
 |0,_=>none
 |  m+1,a0=>
    ((i15 m (Dt.L a0 1)).bind fun r0=>
    some (Dt.agg [(Dt.str (Dt.S a0 0)),(Dt.lst r0)]))
end
def vk (m:Nat) (self46:Q34) (rec3:Q50) (x0 x1 x2:Int) (x3:Dt):=
 rec3 x0 x1 (IntKind.wrap .i64 (x2+1)) x3
def Aj m (self46:Q34) (rec3:Q50) x0 x1 x2 x3:=
  ((idx (Dt.L x3 8) x2).bind fun v0=>
    ((self46 v0 (IntKind.wrap .i64 (x0-1)) x1).bind fun r1=>
 vk m self46 rec3 x0 r1 x2 x3))
def Ir (m:Nat) (self46:Q34) (x0:Int):=
 some x0
def gN (m:Nat) (self46:Q34):Nat→Int→Int→Int→Dt→Option Int
  |0,_,_,_,_=>none
  | M3+1,x0,x1,x2,x3=>
    (bif (decide (x2<(List.length (Dt.L x3 8):Int))) then
    (bif (decide (0≤x1)) then
 Aj m self46 (gN m self46 M3) x0 x1 x2 x3
    else
 Ir m self46 x1)
  else
    Ir m self46 x1)
def Iu m self46 x0 x1 x2 x3:=
 gN m self46 (Nat.succ m) x0 x1 x2 x3
def Iw m self46 x0 x1 x2:=
 Iu m self46 x0 (IntKind.wrap .i64 (x1-1)) 0 x2
def ql m self46 x0 x1 x2 x3:=
 (bif x2 then
    some (-1)
 else
    Iw m self46 x0 x1 x3)
def bF:Nat→Dt→Int→Int→Option Int
 |0,_,_,_=>none
 |  m+1,a0,a1,a2=>
    (bif (a1==0) then
    ql m (bF m) a1 a2 true a0
 else
    ql m (bF m) a1 a2 (decide (a2≤0)) a0)
def eP (m:Nat) (self49:Q2) (rec3:Q3) (x0:Int) (x1 x2:Dt):=
 rec3 (IntKind.wrap .i64 (x0+1)) x1 x2
def dL (k0:Q3) (self49:Q2) x0 x1 x2:=
  ((idx (Dt.L x1 3) x0).bind fun v0=>
    ((idx (Dt.L x2 3) x0).bind fun v1=>
 ((self49 v0 v1).bind fun r2=>
 (bif (Bool.not r2) then
 some false
 else
 k0 x0 x1 x2))))
def eU m self49 rec3:=dL (eP m self49 rec3) self49
def dM (m:Nat) (self49:Q2) (rec8:Q3) (x0:Int) (x1 x2:Dt):=
 rec8 (IntKind.wrap .i64 (x0+1)) x1 x2
def dN m self49 rec8 x0 x1 x2 x3:=
 (bif x1 then
    some false
 else
    dM m self49 rec8 x0 x2 x3)
def dO (k0:Q65) (self49:Q2) x0 x1 x2:=
  ((idx (Dt.L x1 4) x0).bind fun v3=>
    ((idx (Dt.L x2 4) x0).bind fun v4=>
 (bif (Bool.not ((ByteArray.toList (Dt.S v3 0))==(ByteArray.toList (Dt.S v4 0)))) then
 k0 x0 true x1 x2
 else
 ((idx (Dt.L x1 4) x0).bind fun v5=>
 ((idx (Dt.L x2 4) x0).bind fun v6=>
 ((self49 (Dt.fld v5 1) (Dt.fld v6 1)).bind fun r7=>
 k0 x0 (Bool.not r7) x1 x2))))))
def eX m self49 rec8:=dO (dN m self49 rec8) self49
def dP (m:Nat) (self49:Q2):=
 some true
def iX (m:Nat) (self49:Q2):Nat→Int→Dt→Dt→Option Bool
 |0,_,_,_=>none
 |  M8+1,x0,x1,x2=>
    (bif (decide (x0<(List.length (Dt.L x1 4):Int))) then
    eX m self49 (iX m self49 M8) x0 x1 x2
 else
    dP m self49)
def eY m self49 x0 x1 x2:=
 iX m self49 (Nat.succ m) x0 x1 x2
def eZ m self49 x0 x1:=
 eY m self49 0 x0 x1
def mD (m:Nat) (self49:Q2):Nat→Int→Dt→Dt→Option Bool
 |0,_,_,_=>none
 |  M3+1,x0,x1,x2=>
    (bif (decide (x0<(List.length (Dt.L x1 3):Int))) then
    eU m self49 (mD m self49 M3) x0 x1 x2
 else
    eZ m self49 x1 x2)
def fq m self49 x0 x1 x2:=
 mD m self49 (Nat.succ m) x0 x1 x2
def fu m self49 x0 x1:=
 fq m self49 0 x0 x1
def bI m self49 x0 x1 x2:=
 (bif x0 then
    some false
 else
    fu m self49 x1 x2)
def Er (k0:Q66) a0 a1:=
    (bif ((Dt.I a0 0) !=(Dt.I a1 0)) then
    k0 true a0 a1
  else
    (bif ((Dt.I a0 1) !=(Dt.I a1 1)) then
 k0 true a0 a1
    else
 (bif (Bool.not ((ByteArray.toList (Dt.S a0 2))==(ByteArray.toList (Dt.S a1 2)))) then
 k0 true a0 a1
 else
 (bif ((List.length (Dt.L a0 3):Int) !=(List.length (Dt.L a1 3):Int)) then
 k0 true a0 a1
 else
 k0 ((List.length (Dt.L a0 4):Int) !=(List.length (Dt.L a1 4):Int)) a0 a1))))
def aC:Nat→Dt→Dt→Option Bool
 |0,_,_=>none
 |  m+1,a0,a1=>
    Er (bI m (aC m)) a0 a1
def cu:Nat→List Dt→List Dt→Option Bool
 |0,_,_=>none
 |  m+1,a0,a1=>
    ((aC m (Dt.agg [(Dt.int 6),(Dt.int 0),(Dt.str (ByteArray.mk (List.toArray []))),(Dt.lst a0),(Dt.lst [])]) (Dt.agg [(Dt.int 6),(Dt.int 0),(Dt.str (ByteArray.mk (List.toArray []))),(Dt.lst a1),(Dt.lst [])])).bind fun r0=>
    some r0)
def iJ (m:Nat) (rec3:Q3) (x0:Int) (x1 x2:Dt):=
 rec3 (IntKind.wrap .i64 (x0+1)) x1 x2
def ig (k0:Q3) x0 x1 x2:=
  ((idx (Dt.L x1 1) x0).bind fun v0=>
    ((idx (Dt.L x2 1) x0).bind fun v1=>
 (bif (Bool.not (Bool.and ((Dt.I v0 0)==(Dt.I v1 0)) ((Dt.I v0 1)==(Dt.I v1 1)))) then
 some false
 else
 k0 x0 x1 x2)))
def iK m rec3:=ig (iJ m rec3)
def iL (m:Nat):=
 some true
def gB (m:Nat):Nat→Int→Dt→Dt→Option Bool
 |0,_,_,_=>none
 |  M3+1,x0,x1,x2=>
    (bif (decide (x0<(List.length (Dt.L x1 1):Int))) then
    iK m (gB m M3) x0 x1 x2
 else
    iL m)
def iM m x0 x1 x2:=
 gB m (Nat.succ m) x0 x1 x2
def iN m x0 x1:=
 iM m 0 x0 x1
def dW m x0 x1 x2:=
 (bif x0 then
    some false
 else
    iN m x1 x2)
def wF (k0:Q66) a0 a1:=
    (bif ((Dt.I a0 0) !=(Dt.I a1 0)) then
    k0 true a0 a1
  else
    (bif ((Dt.I a0 2) !=(Dt.I a1 2)) then
 k0 true a0 a1
    else
 k0 ((List.length (Dt.L a0 1):Int) !=(List.length (Dt.L a1 1):Int)) a0 a1))
def aW:Nat→Dt→Dt→Option Bool
 |0,_,_=>none
 |  m+1,a0,a1=>
    wF (dW m) a0 a1
def Ma (m:Nat) (rec1:Q51) (x0:Int) (x1:List Dt) (x2:Int):=
 rec1 x0 x1 (IntKind.wrap .i64 (x2+1))
def Mc m rec1 x0 x1 x2:=
  ((idx x1 x2).bind fun v0=>
    (bif ((Dt.toInt v0)==x0) then
 some true
    else
 Ma m rec1 x0 x1 x2))
def Yy (m:Nat):=
 some false
def uj (m:Nat):Nat→Int→List Dt→Int→Option Bool
 |0,_,_,_=>none
 |  M1+1,x0,x1,x2=>
    (bif (decide (x2<(List.length x1:Int))) then
    Mc m (uj m M1) x0 x1 x2
 else
    Yy m)
def Yz m x0 x1 x2:=
 uj m (Nat.succ m) x0 x1 x2
def bY:Nat→Int→List Dt→Option Bool
 |0,_,_=>none
 |  m+1,a0,a1=>
    Yz m a0 a1 0
def fA:Nat→Dt→Option Bool
  |0,_=>none
  | m+1,a0=>
    (bif ((ByteArray.toList (Dt.S a0 0))==[]) then
    (bif ((List.length (Dt.L a0 1):Int)==0) then
 (bif ((Dt.I a0 2)==0) then
 some ((Dt.I a0 3)==0)
 else
 some false)
    else
 some false)
  else
    some false)
def bL:Nat→Dt→Option Bool
  |0,_=>none
  | m+1,a0=>
    (bif ((ByteArray.toList (Dt.S a0 0))==[]) then
    (bif ((List.length (Dt.L a0 1):Int)==0) then
 (bif ((List.length (Dt.L a0 2):Int)==0) then
 (bif ((ByteArray.toList (Dt.S a0 3))==[]) then
 some ((List.length (Dt.L a0 4):Int)==0)
 else
 some false)
 else
 some false)
    else
 some false)
  else
    some false)
def iY:Nat→Int→Option Bool
 |0,_=>none
 |  m+1,a0=>
    (bif (decide (2≤a0)) then
    some (decide (a0≤19))
 else
    some false)
def bX:Nat→Int→Option Bool
  |0,_=>none
  | m+1,a0=>
    (bif (a0==8) then
    some true
  else
    (bif (a0==9) then
 some true
    else
 some (a0==14)))
def fZ:Nat→Int→Option Bool
  |0,_=>none
  | m+1,a0=>
    (bif (a0==16) then
    some true
  else
    (bif (a0==17) then
 some true
    else
 some (a0==19)))
def gP:Nat→Int→Option Bool
  |0,_=>none
  | m+1,a0=>
    (bif (decide (2≤a0)) then
    (bif (decide (a0≤7)) then
 some true
    else
 ((fZ m a0).bind fun r0=>
 some r0))
  else
    ((fZ m a0).bind fun r1=>
 some r1))
def xI (m:Nat) (x0:Dt):=
 some ((List.length (Dt.L x0 8):Int)==0)
def DK m x0 x1:=
 (bif x0 then
    some (decide (0<(List.length (Dt.L x1 8):Int)))
 else
    xI m x1)
def Ak (k0:Q67) (x0:Int) (x1:Bool) (x2:Dt):=
  (bif x1 then
    some ((List.length (Dt.L x2 8):Int)==1)
  else
    (bif (x0==20) then
 k0 (x0==20) x2
    else
 (bif (x0==21) then
 k0 (x0==21) x2
 else
 k0 (x0==22) x2)))
def DL m:=Ak (DK m)
def K4 (k0:Q68) a0:=
    (bif ((Dt.I a0 0)==15) then
    k0 (Dt.I a0 0) ((Dt.I a0 0)==15) a0
 else
    k0 (Dt.I a0 0) ((Dt.I a0 0)==23) a0)
def vo:Nat→Dt→Option Bool
 |0,_=>none
 |  m+1,a0=>
    K4 (DL m) a0
def Cz (m:Nat):=
 some true
def Al k0 a0:=
    (bif ((Dt.I a0 0)==10) then
    (bif ((Dt.I a0 4)==0) then
 some true
    else
 some ((Dt.I a0 4)==1))
  else
    (bif ((Dt.I a0 0)==11) then
 (bif (decide (1≤(Dt.I a0 4))) then
 some (decide ((Dt.I a0 4)≤11))
 else
 some false)
    else
 (bif ((Dt.I a0 0)==12) then
 (bif (decide (1≤(Dt.I a0 4))) then
 (bif (decide (0≤(Dt.I a0 5))) then
 some (decide ((Dt.I a0 5)<(Dt.I a0 4)))
 else
 some false)
 else
 some false)
 else
 (bif ((Dt.I a0 0)==13) then
 some (decide (0≤(Dt.I a0 4)))
 else
 k0))))
def iZ:Nat→Dt→Option Bool
 |0,_=>none
 |  m+1,a0=>
    Al (Cz m) a0
def nY (m:Nat) (rec2:Q11) (x0 x1:List Dt) (x2:Int):=
 rec2 x0 x1 (IntKind.wrap .i64 (x2+1))
def mI (k0:Q11) x0 x1 x2:=
  ((idx x0 x2).bind fun v0=>
    ((idx x1 x2).bind fun v1=>
 (bif (Bool.not ((ByteArray.toList (Dt.toStr v0))==(ByteArray.toList (Dt.toStr v1)))) then
 some false
 else
 k0 x0 x1 x2)))
def nZ m rec2:=mI (nY m rec2)
def sU (m:Nat):=
 some true
def iE (m:Nat):Nat→List Dt→List Dt→Int→Option Bool
 |0,_,_,_=>none
 |  M2+1,x0,x1,x2=>
    (bif (decide (x2<(List.length x0:Int))) then
    nZ m (iE m M2) x0 x1 x2
 else
    sU m)
def sV m x0 x1 x2:=
 iE m (Nat.succ m) x0 x1 x2
def sW m x0 x1:=
 sV m x0 x1 0
def jc:Nat→List Dt→List Dt→Option Bool
 |0,_,_=>none
 |  m+1,a0,a1=>
    (bif (decide ((List.length a1:Int)<(List.length a0:Int))) then
    some false
 else
    sW m a0 a1)
def aL:Nat→List Dt→List Dt→Option Bool
  |0,_,_=>none
  | m+1,a0,a1=>
    (bif ((List.length a0:Int)==(List.length a1:Int)) then
    ((jc m a0 a1).bind fun r0=>
 some r0)
  else
    some false)
def kW (m:Nat) (rec2:Q11) (x0 x1:List Dt) (x2:Int):=
 rec2 x0 x1 (IntKind.wrap .i64 (x2+1))
def kX m rec2 x0 x1 x2 x3:=
 (bif x3 then
    some false
 else
    kW m rec2 x0 x1 x2)
def jg (k0:Q69) m x0 x1 x2:=
  ((idx x0 x2).bind fun v0=>
    ((idx x1 x2).bind fun v1=>
 (bif (Bool.not ((Dt.B v0 1)==(Dt.B v1 1))) then
 k0 x0 x1 x2 true
 else
 ((idx x0 x2).bind fun v2=>
 ((idx x1 x2).bind fun v3=>
 ((aL m (Dt.L v2 0) (Dt.L v3 0)).bind fun r4=>
 k0 x0 x1 x2 (Bool.not r4)))))))
def kY m rec2:=jg (kX m rec2) m
def kZ (m:Nat):=
 some true
def iq (m:Nat):Nat→List Dt→List Dt→Int→Option Bool
 |0,_,_,_=>none
 |  M2+1,x0,x1,x2=>
    (bif (decide (x2<(List.length x0:Int))) then
    kY m (iq m M2) x0 x1 x2
 else
    kZ m)
def lg m x0 x1 x2:=
 iq m (Nat.succ m) x0 x1 x2
def lq m x0 x1:=
 lg m x0 x1 0
def gF:Nat→List Dt→List Dt→Option Bool
 |0,_,_=>none
 |  m+1,a0,a1=>
    (bif ((List.length a0:Int) !=(List.length a1:Int)) then
    some false
 else
    lq m a0 a1)
def xJ (m:Nat) (self51:Q2) (rec3:Q3) (x0:Int) (x1 x2:Dt):=
 rec3 (IntKind.wrap .i64 (x0+1)) x1 x2
def vv (k0:Q3) (self51:Q2) x0 x1 x2:=
  ((idx (Dt.L x1 6) x0).bind fun v0=>
    ((idx (Dt.L x2 6) x0).bind fun v1=>
 ((self51 v0 v1).bind fun r2=>
 (bif (Bool.not r2) then
 some false
 else
 k0 x0 x1 x2))))
def xK m self51 rec3:=vv (xJ m self51 rec3) self51
def xL (m:Nat) (self51:Q2):=
 some true
def um (m:Nat) (self51:Q2):Nat→Int→Dt→Dt→Option Bool
 |0,_,_,_=>none
 |  M3+1,x0,x1,x2=>
    (bif (decide (x0<(List.length (Dt.L x1 6):Int))) then
    xK m self51 (um m self51 M3) x0 x1 x2
 else
    xL m self51)
def xM m self51 x0 x1 x2:=
 um m self51 (Nat.succ m) x0 x1 x2
def xO m self51 x0 x1:=
 xM m self51 0 x0 x1
def xP m self51 x0 x1 x2:=
 (bif x0 then
    some false
 else
    xO m self51 x1 x2)
def UK (k0:Q66) m a0 a1:=
    (bif ((Dt.I a0 0) !=(Dt.I a1 0)) then
    k0 true a0 a1
  else
    ((aL m (Dt.L a0 1) (Dt.L a1 1)).bind fun r3=>
 (bif (Bool.not r3) then
 k0 true a0 a1
 else
 (bif (Bool.not ((ByteArray.toList (Dt.S a0 2))==(ByteArray.toList (Dt.S a1 2)))) then
 k0 true a0 a1
 else
 ((aL m (Dt.L a0 3) (Dt.L a1 3)).bind fun r4=>
 (bif (Bool.not r4) then
 k0 true a0 a1
 else
 ((aC m (Dt.fld a0 4) (Dt.fld a1 4)).bind fun r5=>
 (bif (Bool.not r5) then
 k0 true a0 a1
 else
 (bif ((Dt.I a0 5) !=(Dt.I a1 5)) then
 k0 true a0 a1
 else
 k0 ((List.length (Dt.L a0 6):Int) !=(List.length (Dt.L a1 6):Int)) a0 a1)))))))))
def dz:Nat→Dt→Dt→Option Bool
 |0,_,_=>none
 |  m+1,a0,a1=>
    UK (xP m (dz m)) m a0 a1
def Ao (m:Nat) (self20:Q2) (rec5:Q3) (x0:Int) (x1 x2:Dt):=
 rec5 (IntKind.wrap .i64 (x0+1)) x1 x2
def zf (k0:Q3) x0 x1 x2:=
  ((idx (Dt.L (Dt.fld x1 6) 1) x0).bind fun v0=>
    ((idx (Dt.L (Dt.fld x2 6) 1) x0).bind fun v1=>
 (bif (Bool.not (Bool.and ((Dt.I v0 0)==(Dt.I v1 0)) ((Dt.I v0 1)==(Dt.I v1 1)))) then
 some false
 else
 k0 x0 x1 x2)))
def Ap m self20 rec5:=zf (Ao m self20 rec5)
def zh (m:Nat) (self20:Q2) (rec10:Q3) (x0:Int) (x1 x2:Dt):=
 rec10 (IntKind.wrap .i64 (x0+1)) x1 x2
def wX (k0:Q3) (self20:Q2) x0 x1 x2:=
  ((idx (Dt.L x1 8) x0).bind fun v2=>
    ((idx (Dt.L x2 8) x0).bind fun v3=>
 ((self20 v2 v3).bind fun r4=>
 (bif (Bool.not r4) then
 some false
 else
 k0 x0 x1 x2))))
def zk m self20 rec10:=wX (zh m self20 rec10) self20
def zl (m:Nat) (self20:Q2):=
 some true
def iO (m:Nat) (self20:Q2):Nat→Int→Dt→Dt→Option Bool
 |0,_,_,_=>none
 |  M10+1,x0,x1,x2=>
    (bif (decide (x0<(List.length (Dt.L x1 8):Int))) then
    zk m self20 (iO m self20 M10) x0 x1 x2
 else
    zl m self20)
def K6 m self20 x0 x1 x2:=
 iO m self20 (Nat.succ m) x0 x1 x2
def Aq m self20 x0 x1:=
 K6 m self20 0 x0 x1
def jD (m:Nat) (self20:Q2):Nat→Int→Dt→Dt→Option Bool
 |0,_,_,_=>none
 |  M5+1,x0,x1,x2=>
    (bif (decide (x0<((List.length (Dt.L (Dt.fld x1 6) 1)):Int))) then
    Ap m self20 (jD m self20 M5) x0 x1 x2
 else
    Aq m self20 x1 x2)
def Ar m self20 x0 x1 x2:=
 jD m self20 (Nat.succ m) x0 x1 x2
def Au m self20 x0 x1:=
 Ar m self20 0 x0 x1
def Av m self20 x0 x1 x2:=
 (bif x0 then
    some false
 else
    Au m self20 x1 x2)
def zm (k0:Q66) x0 x1:=
  (bif ((Dt.I (Dt.fld x0 6) 0) !=(Dt.I (Dt.fld x1 6) 0)) then
    k0 true x0 x1
  else
    (bif ((Dt.I (Dt.fld x0 6) 2) !=(Dt.I (Dt.fld x1 6) 2)) then
 k0 true x0 x1
    else
 (bif (((List.length (Dt.L (Dt.fld x0 6) 1)):Int) !=((List.length (Dt.L (Dt.fld x1 6) 1)):Int)) then
 k0 true x0 x1
 else
 k0 ((List.length (Dt.L x0 8):Int) !=(List.length (Dt.L x1 8):Int)) x0 x1)))
def Ay m self20:=zm (Av m self20)
def Az m self20 x0 x1 x2:=
 (bif x0 then
    some false
 else
    Ay m self20 x1 x2)
def EO (k0:Q66) m a0 a1:=
    (bif ((Dt.I a0 0) !=(Dt.I a1 0)) then
    k0 true a0 a1
  else
    ((aL m (Dt.L a0 1) (Dt.L a1 1)).bind fun r5=>
 (bif (Bool.not r5) then
 k0 true a0 a1
 else
 ((aC m (Dt.fld a0 2) (Dt.fld a1 2)).bind fun r6=>
 (bif (Bool.not r6) then
 k0 true a0 a1
 else
 ((cu m (Dt.L a0 3) (Dt.L a1 3)).bind fun r7=>
 (bif (Bool.not r7) then
 k0 true a0 a1
 else
 (bif ((Dt.I a0 4) !=(Dt.I a1 4)) then
 k0 true a0 a1
 else
 (bif ((Dt.I a0 5) !=(Dt.I a1 5)) then
 k0 true a0 a1
 else
 ((dz m (Dt.fld a0 7) (Dt.fld a1 7)).bind fun r8=>
 k0 (Bool.not r8) a0 a1))))))))))
def aR:Nat→Dt→Dt→Option Bool
 |0,_,_=>none
 |  m+1,a0,a1=>
    EO (Az m (aR m)) m a0 a1
def jE (m:Nat) (rec2:Q11) (x0 x1:List Dt) (x2:Int):=
 rec2 x0 x1 (IntKind.wrap .i64 (x2+1))
def iP (k0:Q11) m x0 x1 x2:=
  ((idx x0 x2).bind fun v0=>
    ((idx x1 x2).bind fun v1=>
 ((aL m (Dt.toLst v0) (Dt.toLst v1)).bind fun r2=>
 (bif (Bool.not r2) then
 some false
 else
 k0 x0 x1 x2))))
def jF m rec2:=iP (jE m rec2) m
def jG (m:Nat):=
 some true
def gQ (m:Nat):Nat→List Dt→List Dt→Int→Option Bool
 |0,_,_,_=>none
 |  M2+1,x0,x1,x2=>
    (bif (decide (x2<(List.length x0:Int))) then
    jF m (gQ m M2) x0 x1 x2
 else
    jG m)
def jH m x0 x1 x2:=
 gQ m (Nat.succ m) x0 x1 x2
def jI m x0 x1:=
 jH m x0 x1 0
def cB:Nat→List Dt→List Dt→Option Bool
 |0,_,_=>none
 |  m+1,a0,a1=>
    (bif ((List.length a0:Int) !=(List.length a1:Int)) then
    some false
 else
    jI m a0 a1)
def Md (m:Nat) (rec3:Q3) (x0:Int) (x1 x2:Dt):=
 rec3 (IntKind.wrap .i64 (x0+1)) x1 x2
def Me m rec3 x0 x1 x2 x3:=
 (bif x1 then
    some false
 else
    Md m rec3 x0 x2 x3)
def Iy (k0:Q65) m x0 x1 x2:=
  ((idx (Dt.L x1 3) x0).bind fun v0=>
    ((idx (Dt.L x2 3) x0).bind fun v1=>
 ((aL m (Dt.L v0 0) (Dt.L v1 0)).bind fun r2=>
 (bif (Bool.not r2) then
 k0 x0 true x1 x2
 else
 (bif ((Dt.I v0 1) !=(Dt.I v1 1)) then
 k0 x0 true x1 x2
 else
 k0 x0 ((Dt.I v0 2) !=(Dt.I v1 2)) x1 x2)))))
def Mg m rec3:=Iy (Me m rec3) m
def Iz (m:Nat) (rec9:Q3) (x0:Int) (x1 x2:Dt):=
 rec9 (IntKind.wrap .i64 (x0+1)) x1 x2
def IB m rec9 x0 x1 x2 x3:=
 (bif x1 then
    some false
 else
    Iz m rec9 x0 x2 x3)
def EP (k0:Q65) m x0 x1 x2:=
  ((idx (Dt.L x1 4) x0).bind fun v3=>
    ((idx (Dt.L x2 4) x0).bind fun v4=>
 ((aL m (Dt.L v3 0) (Dt.L v4 0)).bind fun r5=>
 (bif (Bool.not r5) then
 k0 x0 true x1 x2
 else
 ((idx (Dt.L x1 4) x0).bind fun v6=>
 ((idx (Dt.L x2 4) x0).bind fun v7=>
 ((dz m (Dt.fld v6 1) (Dt.fld v7 1)).bind fun r8=>
 k0 x0 (Bool.not r8) x1 x2)))))))
def IC m rec9:=EP (IB m rec9) m
def IE (m:Nat):=
 some true
def uo (m:Nat):Nat→Int→Dt→Dt→Option Bool
 |0,_,_,_=>none
 |  M9+1,x0,x1,x2=>
    (bif (decide (x0<(List.length (Dt.L x1 4):Int))) then
    IC m (uo m M9) x0 x1 x2
 else
    IE m)
def YA m x0 x1 x2:=
 uo m (Nat.succ m) x0 x1 x2
def Mh m x0 x1:=
 YA m 0 x0 x1
def uq (m:Nat):Nat→Int→Dt→Dt→Option Bool
 |0,_,_,_=>none
 |  M3+1,x0,x1,x2=>
    (bif (decide (x0<(List.length (Dt.L x1 3):Int))) then
    Mg m (uq m M3) x0 x1 x2
 else
    Mh m x1 x2)
def Mi m x0 x1 x2:=
 uq m (Nat.succ m) x0 x1 x2
def Mj m x0 x1:=
 Mi m 0 x0 x1
def Mk m x0 x1 x2:=
 (bif x0 then
    some false
 else
    Mj m x1 x2)
def UL (k0:Q66) m a0 a1:=
    (bif (Bool.not ((Dt.B a0 0)==(Dt.B a1 0))) then
    k0 true a0 a1
  else
    (bif (Bool.not ((Dt.B a0 2)==(Dt.B a1 2))) then
 k0 true a0 a1
    else
 ((cB m (Dt.L a0 1) (Dt.L a1 1)).bind fun r9=>
 (bif (Bool.not r9) then
 k0 true a0 a1
 else
 (bif ((List.length (Dt.L a0 3):Int) !=(List.length (Dt.L a1 3):Int)) then
 k0 true a0 a1
 else
 k0 ((List.length (Dt.L a0 4):Int) !=(List.length (Dt.L a1 4):Int)) a0 a1)))))
def vw:Nat→Dt→Dt→Option Bool
 |0,_,_=>none
 |  m+1,a0,a1=>
    UL (Mk m) m a0 a1
def jV:Nat→Dt→Dt→Option Bool
  |0,_,_=>none
  | m+1,a0,a1=>
    ((aR m (Dt.fld a0 0) (Dt.fld a1 0)).bind fun r0=>
    (bif r0 then
 ((gF m (Dt.L a0 1) (Dt.L a1 1)).bind fun r1=>
 (bif r1 then
 (bif ((Dt.I a0 2)==(Dt.I a1 2)) then
 (bif ((Dt.I a0 3)==(Dt.I a1 3)) then
 ((vw m (Dt.fld a0 4) (Dt.fld a1 4)).bind fun r2=>
 (bif r2 then
 some ((ByteArray.toList (Dt.S a0 5))==(ByteArray.toList (Dt.S a1 5)))
 else
 some false))
 else
 some false)
 else
 some false)
 else
 some false))
    else
 some false))
def jJ (m:Nat) (self55:Q2) (rec3:Q3) (x0:Int) (x1 x2:Dt):=
 rec3 (IntKind.wrap .i64 (x0+1)) x1 x2
def iQ (k0:Q3) (self55:Q2) x0 x1 x2:=
  ((idx (Dt.L x1 6) x0).bind fun v0=>
    ((idx (Dt.L x2 6) x0).bind fun v1=>
 ((self55 v0 v1).bind fun r2=>
 (bif (Bool.not r2) then
 some false
 else
 k0 x0 x1 x2))))
def jK m self55 rec3:=iQ (jJ m self55 rec3) self55
def jL (m:Nat) (self55:Q2):=
 some true
def fI (m:Nat) (self55:Q2):Nat→Int→Dt→Dt→Option Bool
 |0,_,_,_=>none
 |  M3+1,x0,x1,x2=>
    (bif (decide (x0<(List.length (Dt.L x1 6):Int))) then
    jK m self55 (fI m self55 M3) x0 x1 x2
 else
    jL m self55)
def gT m self55 x0 x1 x2:=
 fI m self55 (Nat.succ m) x0 x1 x2
def gU m self55 x0 x1:=
 gT m self55 0 x0 x1
def bq m self55 x0 x1 x2:=
 (bif x0 then
    some false
 else
    gU m self55 x1 x2)
def sZ (k0:Q66) m a0 a1:=
    (bif ((Dt.I a0 0) !=(Dt.I a1 0)) then
    k0 true a0 a1
  else
    ((aL m (Dt.L a0 1) (Dt.L a1 1)).bind fun r3=>
 (bif (Bool.not r3) then
 k0 true a0 a1
 else
 (bif (Bool.not ((ByteArray.toList (Dt.S a0 2))==(ByteArray.toList (Dt.S a1 2)))) then
 k0 true a0 a1
 else
 ((aL m (Dt.L a0 3) (Dt.L a1 3)).bind fun r4=>
 (bif (Bool.not r4) then
 k0 true a0 a1
 else
 ((aC m (Dt.fld a0 4) (Dt.fld a1 4)).bind fun r5=>
 (bif (Bool.not r5) then
 k0 true a0 a1
 else
 (bif ((Dt.I a0 5) !=(Dt.I a1 5)) then
 k0 true a0 a1
 else
 k0 ((List.length (Dt.L a0 6):Int) !=(List.length (Dt.L a1 6):Int)) a0 a1)))))))))
def aD:Nat→Dt→Dt→Option Bool
 |0,_,_=>none
 |  m+1,a0,a1=>
    sZ (bq m (aD m)) m a0 a1
def jM (m:Nat) (self58:Q2) (rec2:Q3) (x0:Int) (x1 x2:Dt):=
 rec2 (IntKind.wrap .i64 (x0+1)) x1 x2
def iR (k0:Q3) (self58:Q2) x0 x1 x2:=
  ((idx (Dt.L x1 8) x0).bind fun v5=>
    ((idx (Dt.L x2 8) x0).bind fun v6=>
 ((self58 v5 v6).bind fun r7=>
 (bif (Bool.not r7) then
 some false
 else
 k0 x0 x1 x2))))
def jN m self58 rec2:=iR (jM m self58 rec2) self58
def jO (m:Nat) (self58:Q2):=
 some true
def gV (m:Nat) (self58:Q2):Nat→Int→Dt→Dt→Option Bool
 |0,_,_,_=>none
 |  M2+1,x0,x1,x2=>
    (bif (decide (x0<(List.length (Dt.L x1 8):Int))) then
    jN m self58 (gV m self58 M2) x0 x1 x2
 else
    jO m self58)
def jP m self58 x0 x1 x2:=
 gV m self58 (Nat.succ m) x0 x1 x2
def jQ m self58 x0 x1:=
 jP m self58 0 x0 x1
def yB (k0:Q2) m a0 a1:=
    (bif ((Dt.I a0 0) !=(Dt.I a1 0)) then
    some false
  else
    ((aL m (Dt.L a0 1) (Dt.L a1 1)).bind fun r0=>
 (bif (Bool.not r0) then
 some false
 else
 ((aC m (Dt.fld a0 2) (Dt.fld a1 2)).bind fun r1=>
 (bif (Bool.not r1) then
 some false
 else
 ((cu m (Dt.L a0 3) (Dt.L a1 3)).bind fun r2=>
 (bif (Bool.not r2) then
 some false
 else
 (bif ((Dt.I a0 4) !=(Dt.I a1 4)) then
 some false
 else
 (bif ((Dt.I a0 5) !=(Dt.I a1 5)) then
 some false
 else
 ((aW m (Dt.fld a0 6) (Dt.fld a1 6)).bind fun r3=>
 (bif (Bool.not r3) then
 some false
 else
 ((aD m (Dt.fld a0 7) (Dt.fld a1 7)).bind fun r4=>
 (bif (Bool.not r4) then
 some false
 else
 (bif ((List.length (Dt.L a0 8):Int) !=(List.length (Dt.L a1 8):Int)) then
 some false
 else
 k0 a0 a1))))))))))))))
def aY:Nat→Dt→Dt→Option Bool
 |0,_,_=>none
 |  m+1,a0,a1=>
    yB (jQ m (aY m)) m a0 a1
def lu (m:Nat) (rec2:Q11) (x0 x1:List Dt) (x2:Int):=
 rec2 x0 x1 (IntKind.wrap .i64 (x2+1))
def lC m rec2 x0 x1 x2 x3:=
 (bif x3 then
    some false
 else
    lu m rec2 x0 x1 x2)
def jh (k0:Q69) m x0 x1 x2:=
  ((idx x0 x2).bind fun v0=>
    ((idx x1 x2).bind fun v1=>
 (bif (Bool.not ((Dt.B v0 1)==(Dt.B v1 1))) then
 k0 x0 x1 x2 true
 else
 ((idx x0 x2).bind fun v2=>
 ((idx x1 x2).bind fun v3=>
 ((aL m (Dt.L v2 0) (Dt.L v3 0)).bind fun r4=>
 k0 x0 x1 x2 (Bool.not r4)))))))
def lD m rec2:=jh (lC m rec2) m
def lF (m:Nat):=
 some true
def iw (m:Nat):Nat→List Dt→List Dt→Int→Option Bool
 |0,_,_,_=>none
 |  M2+1,x0,x1,x2=>
    (bif (decide (x2<(List.length x0:Int))) then
    lD m (iw m M2) x0 x1 x2
 else
    lF m)
def lG m x0 x1 x2:=
 iw m (Nat.succ m) x0 x1 x2
def lH m x0 x1:=
 lG m x0 x1 0
def dA:Nat→List Dt→List Dt→Option Bool
 |0,_,_=>none
 |  m+1,a0,a1=>
    (bif ((List.length a0:Int) !=(List.length a1:Int)) then
    some false
 else
    lH m a0 a1)
def mU (m:Nat) (rec3:Q3) (x0:Int) (x1 x2:Dt):=
 rec3 (IntKind.wrap .i64 (x0+1)) x1 x2
def mV m rec3 x0 x1 x2 x3:=
 (bif x1 then
    some false
 else
    mU m rec3 x0 x2 x3)
def lI (k0:Q65) m x0 x1 x2:=
  ((idx (Dt.L x1 1) x0).bind fun v1=>
    ((idx (Dt.L x2 1) x0).bind fun v2=>
 (bif (Bool.not ((ByteArray.toList (Dt.S v1 0))==(ByteArray.toList (Dt.S v2 0)))) then
 k0 x0 true x1 x2
 else
 (bif ((Dt.I v1 1) !=(Dt.I v2 1)) then
 k0 x0 true x1 x2
 else
 (bif ((Dt.I v1 4) !=(Dt.I v2 4)) then
 k0 x0 true x1 x2
 else
 ((aD m (Dt.fld v1 2) (Dt.fld v2 2)).bind fun r3=>
 (bif (Bool.not r3) then
 k0 x0 true x1 x2
 else
 ((dA m (Dt.L v1 3) (Dt.L v2 3)).bind fun r4=>
 k0 x0 (Bool.not r4) x1 x2))))))))
def mW m rec3:=lI (mV m rec3) m
def mX (m:Nat):=
 some true
def iT (m:Nat):Nat→Int→Dt→Dt→Option Bool
 |0,_,_,_=>none
 |  M3+1,x0,x1,x2=>
    (bif (decide (x0<(List.length (Dt.L x1 1):Int))) then
    mW m (iT m M3) x0 x1 x2
 else
    mX m)
def mY m x0 x1 x2:=
 iT m (Nat.succ m) x0 x1 x2
def mZ m x0 x1:=
 mY m 0 x0 x1
def ng m x0 x1 x2:=
 (bif x0 then
    some false
 else
    mZ m x1 x2)
def CB (k0:Q66) m a0 a1:=
    ((aD m (Dt.fld a0 0) (Dt.fld a1 0)).bind fun r0=>
    (bif (Bool.not r0) then
 k0 true a0 a1
    else
 k0 ((List.length (Dt.L a0 1):Int) !=(List.length (Dt.L a1 1):Int)) a0 a1))
def jW:Nat→Dt→Dt→Option Bool
 |0,_,_=>none
 |  m+1,a0,a1=>
    CB (ng m) m a0 a1
def lJ (m:Nat) (rec3:Q3) (x0:Int) (x1 x2:Dt):=
 rec3 (IntKind.wrap .i64 (x0+1)) x1 x2
def lK m rec3 x0 x1 x2 x3:=
 (bif x1 then
    some false
 else
    lJ m rec3 x0 x2 x3)
def jk (k0:Q65) m x0 x1 x2:=
  ((idx (Dt.L x1 2) x0).bind fun v1=>
    ((idx (Dt.L x2 2) x0).bind fun v2=>
 (bif (Bool.not ((ByteArray.toList (Dt.S v1 0))==(ByteArray.toList (Dt.S v2 0)))) then
 k0 x0 true x1 x2
 else
 (bif ((Dt.I v1 1) !=(Dt.I v2 1)) then
 k0 x0 true x1 x2
 else
 (bif ((Dt.I v1 3) !=(Dt.I v2 3)) then
 k0 x0 true x1 x2
 else
 (bif ((Dt.I v1 4) !=(Dt.I v2 4)) then
 k0 x0 true x1 x2
 else
 (bif (Bool.not ((Dt.B v1 5)==(Dt.B v2 5))) then
 k0 x0 true x1 x2
 else
 ((aD m (Dt.fld v1 2) (Dt.fld v2 2)).bind fun r3=>
 k0 x0 (Bool.not r3) x1 x2))))))))
def lM m rec3:=jk (lK m rec3) m
def lN (m:Nat):=
 some true
def iy (m:Nat):Nat→Int→Dt→Dt→Option Bool
 |0,_,_,_=>none
 |  M3+1,x0,x1,x2=>
    (bif (decide (x0<(List.length (Dt.L x1 2):Int))) then
    lM m (iy m M3) x0 x1 x2
 else
    lN m)
def lQ m x0 x1 x2:=
 iy m (Nat.succ m) x0 x1 x2
def lS m x0 x1:=
 lQ m 0 x0 x1
def lT m x0 x1 x2:=
 (bif x0 then
    some false
 else
    lS m x1 x2)
def AA (k0:Q66) m a0 a1:=
    ((aD m (Dt.fld a0 0) (Dt.fld a1 0)).bind fun r0=>
    (bif (Bool.not r0) then
 k0 true a0 a1
    else
 ((dA m (Dt.L a0 1) (Dt.L a1 1)).bind fun r4=>
 (bif (Bool.not r4) then
 k0 true a0 a1
 else
 k0 ((List.length (Dt.L a0 2):Int) !=(List.length (Dt.L a1 2):Int)) a0 a1))))
def iU:Nat→Dt→Dt→Option Bool
 |0,_,_=>none
 |  m+1,a0,a1=>
    AA (lT m) m a0 a1
def dB:Nat→Dt→Option Bool
 |0,_=>none
 |  m+1,a0=>
    ((aD m a0 aAT).bind fun r0=>
    some r0)
def iF:Nat→Dt→Option Bool
  |0,_=>none
  | m+1,a0=>
    ((dB m (Dt.fld a0 0)).bind fun r0=>
    (bif r0 then
 some ((List.length (Dt.L a0 1):Int)==0)
    else
 some false))
def dQ:Nat→Dt→Option Bool
  |0,_=>none
  | m+1,a0=>
    ((dB m (Dt.fld a0 0)).bind fun r0=>
    (bif r0 then
 (bif ((List.length (Dt.L a0 1):Int)==0) then
 some ((List.length (Dt.L a0 2):Int)==0)
 else
 some false)
    else
 some false))
def fK (m:Nat) (rec2:Q11) (x0 x1:List Dt) (x2:Int):=
 rec2 x0 x1 (IntKind.wrap .i64 (x2+1))
def fM m rec2 x0 x1 x2 x3:=
 (bif x3 then
    some false
 else
    fK m rec2 x0 x1 x2)
def fB (k0:Q69) m x0 x1 x2:=
  ((idx x0 x2).bind fun v0=>
    ((idx x1 x2).bind fun v1=>
 ((aL m (Dt.L v0 0) (Dt.L v1 0)).bind fun r2=>
 (bif (Bool.not r2) then
 k0 x0 x1 x2 true
 else
 ((idx x0 x2).bind fun v3=>
 ((idx x1 x2).bind fun v4=>
 ((aD m (Dt.fld v3 1) (Dt.fld v4 1)).bind fun r5=>
 k0 x0 x1 x2 (Bool.not r5))))))))
def fO m rec2:=fB (fM m rec2) m
def fP (m:Nat):=
 some true
def dS (m:Nat):Nat→List Dt→List Dt→Int→Option Bool
 |0,_,_,_=>none
 |  M2+1,x0,x1,x2=>
    (bif (decide (x2<(List.length x0:Int))) then
    fO m (dS m M2) x0 x1 x2
 else
    fP m)
def fQ m x0 x1 x2:=
 dS m (Nat.succ m) x0 x1 x2
def fT m x0 x1:=
 fQ m x0 x1 0
def cO:Nat→List Dt→List Dt→Option Bool
 |0,_,_=>none
 |  m+1,a0,a1=>
    (bif ((List.length a0:Int) !=(List.length a1:Int)) then
    some false
 else
    fT m a0 a1)
def dX (m:Nat) (rec3:Q3) (x0:Int) (x1 x2:Dt):=
 rec3 (IntKind.wrap .i64 (x0+1)) x1 x2
def dY m rec3 x0 x1 x2 x3:=
 (bif x1 then
    some false
 else
    dX m rec3 x0 x2 x3)
def dU (k0:Q65) m x0 x1 x2:=
  ((idx (Dt.L x1 3) x0).bind fun v0=>
    ((idx (Dt.L x2 3) x0).bind fun v1=>
 (bif ((Dt.I v0 1) !=(Dt.I v1 1)) then
 k0 x0 true x1 x2
 else
 (bif ((Dt.I v0 2) !=(Dt.I v1 2)) then
 k0 x0 true x1 x2
 else
 ((aL m (Dt.L v0 0) (Dt.L v1 0)).bind fun r2=>
 k0 x0 (Bool.not r2) x1 x2)))))
def dZ m rec3:=dU (dY m rec3) m
def dI m x0 x1:=
 (( cO m (Dt.L x0 4) (Dt.L x1 4)).bind fun r3=>
    some r3)
def eu (m:Nat):Nat→Int→Dt→Dt→Option Bool
 |0,_,_,_=>none
 |  M3+1,x0,x1,x2=>
    (bif (decide (x0<(List.length (Dt.L x1 3):Int))) then
    dZ m (eu m M3) x0 x1 x2
 else
    dI m x1 x2)
def eB m x0 x1 x2:=
 eu m (Nat.succ m) x0 x1 x2
def eD m x0 x1:=
 eB m 0 x0 x1
def cK m x0 x1 x2:=
 (bif x0 then
    some false
 else
    eD m x1 x2)
def rP (k0:Q66) m a0 a1:=
    (bif (Bool.not ((Dt.B a0 0)==(Dt.B a1 0))) then
    k0 true a0 a1
  else
    (bif (Bool.not ((Dt.B a0 2)==(Dt.B a1 2))) then
 k0 true a0 a1
    else
 ((cB m (Dt.L a0 1) (Dt.L a1 1)).bind fun r4=>
 (bif (Bool.not r4) then
 k0 true a0 a1
 else
 k0 ((List.length (Dt.L a0 3):Int) !=(List.length (Dt.L a1 3):Int)) a0 a1))))
def bM:Nat→Dt→Dt→Option Bool
 |0,_,_=>none
 |  m+1,a0,a1=>
    rP (cK m) m a0 a1
def vB m x0:=
  (bif ((Dt.I x0 0) !=11) then
    (bif (decide (0<(List.length (Dt.L x0 13):Int))) then
 some true
    else
 (bif ((Dt.I x0 0) !=12) then
 (bif (decide (0<(List.length (Dt.L x0 14):Int))) then
 some true
 else
 (bif ((Dt.I x0 0) !=18) then
 ((fA m (Dt.fld x0 15)).bind fun r4=>
 (bif (Bool.not r4) then
 some true
 else
 (bif ((Dt.I x0 0) !=17) then
 ((aW m (Dt.fld x0 16) K3).bind fun r5=>
 some (Bool.not r5))
 else
 some false)))
 else
 (bif ((Dt.I x0 0) !=17) then
 ((aW m (Dt.fld x0 16) K3).bind fun r6=>
 some (Bool.not r6))
 else
 some false)))
 else
 (bif ((Dt.I x0 0) !=18) then
 ((fA m (Dt.fld x0 15)).bind fun r7=>
 (bif (Bool.not r7) then
 some true
 else
 (bif ((Dt.I x0 0) !=17) then
 ((aW m (Dt.fld x0 16) K3).bind fun r8=>
 some (Bool.not r8))
 else
 some false)))
 else
 (bif ((Dt.I x0 0) !=17) then
 ((aW m (Dt.fld x0 16) K3).bind fun r9=>
 some (Bool.not r9))
 else
 some false))))
  else
    (bif ((Dt.I x0 0) !=12) then
 (bif (decide (0<(List.length (Dt.L x0 14):Int))) then
 some true
 else
 (bif ((Dt.I x0 0) !=18) then
 ((fA m (Dt.fld x0 15)).bind fun r10=>
 (bif (Bool.not r10) then
 some true
 else
 (bif ((Dt.I x0 0) !=17) then
 ((aW m (Dt.fld x0 16) K3).bind fun r11=>
 some (Bool.not r11))
 else
 some false)))
 else
 (bif ((Dt.I x0 0) !=17) then
 ((aW m (Dt.fld x0 16) K3).bind fun r12=>
 some (Bool.not r12))
 else
 some false)))
    else
 (bif ((Dt.I x0 0) !=18) then
 ((fA m (Dt.fld x0 15)).bind fun r13=>
 (bif (Bool.not r13) then
 some true
 else
 (bif ((Dt.I x0 0) !=17) then
 ((aW m (Dt.fld x0 16) K3).bind fun r14=>
 some (Bool.not r14))
 else
 some false)))
 else
 (bif ((Dt.I x0 0) !=17) then
 ((aW m (Dt.fld x0 16) K3).bind fun r15=>
 some (Bool.not r15))
 else
 some false))))
def AB m x0 x1:=
 (bif x0 then
    some true
 else
    vB m x1)
def ER (k0:Q67) m x0:=
  ((bY m (Dt.I x0 0) [(Dt.int 12),(Dt.int 14),(Dt.int 16)]).bind fun r2=>
    (bif (Bool.not r2) then
 ((dB m (Dt.fld x0 9)).bind fun r3=>
 (bif (Bool.not r3) then
 k0 true x0
 else
 (bif ((Dt.I x0 0) !=8) then
 ((iF m (Dt.fld x0 10)).bind fun r16=>
 (bif (Bool.not r16) then
 k0 true x0
 else
 (bif ((Dt.I x0 0) !=9) then
 ((dQ m (Dt.fld x0 11)).bind fun r17=>
 (bif (Bool.not r17) then
 k0 true x0
 else
 ((bY m (Dt.I x0 0) [(Dt.int 10),(Dt.int 15)]).bind fun r18=>
 (bif (Bool.not r18) then
 ((bL m (Dt.fld x0 12)).bind fun r19=>
 k0 (Bool.not r19) x0)
 else
 k0 false x0))))
 else
 ((bY m (Dt.I x0 0) [(Dt.int 10),(Dt.int 15)]).bind fun r20=>
 (bif (Bool.not r20) then
 ((bL m (Dt.fld x0 12)).bind fun r21=>
 k0 (Bool.not r21) x0)
 else
 k0 false x0)))))
 else
 (bif ((Dt.I x0 0) !=9) then
 ((dQ m (Dt.fld x0 11)).bind fun r22=>
 (bif (Bool.not r22) then
 k0 true x0
 else
 ((bY m (Dt.I x0 0) [(Dt.int 10),(Dt.int 15)]).bind fun r23=>
 (bif (Bool.not r23) then
 ((bL m (Dt.fld x0 12)).bind fun r24=>
 k0 (Bool.not r24) x0)
 else
 k0 false x0))))
 else
 ((bY m (Dt.I x0 0) [(Dt.int 10),(Dt.int 15)]).bind fun r25=>
 (bif (Bool.not r25) then
 ((bL m (Dt.fld x0 12)).bind fun r26=>
 k0 (Bool.not r26) x0)
 else
 k0 false x0))))))
    else
 (bif ((Dt.I x0 0) !=8) then
 ((iF m (Dt.fld x0 10)).bind fun r27=>
 (bif (Bool.not r27) then
 k0 true x0
 else
 (bif ((Dt.I x0 0) !=9) then
 ((dQ m (Dt.fld x0 11)).bind fun r28=>
 (bif (Bool.not r28) then
 k0 true x0
 else
 ((bY m (Dt.I x0 0) [(Dt.int 10),(Dt.int 15)]).bind fun r29=>
 (bif (Bool.not r29) then
 ((bL m (Dt.fld x0 12)).bind fun r30=>
 k0 (Bool.not r30) x0)
 else
 k0 false x0))))
 else
 ((bY m (Dt.I x0 0) [(Dt.int 10),(Dt.int 15)]).bind fun r31=>
 (bif (Bool.not r31) then
 ((bL m (Dt.fld x0 12)).bind fun r32=>
 k0 (Bool.not r32) x0)
 else
 k0 false x0)))))
 else
 (bif ((Dt.I x0 0) !=9) then
 ((dQ m (Dt.fld x0 11)).bind fun r33=>
 (bif (Bool.not r33) then
 k0 true x0
 else
 ((bY m (Dt.I x0 0) [(Dt.int 10),(Dt.int 15)]).bind fun r34=>
 (bif (Bool.not r34) then
 ((bL m (Dt.fld x0 12)).bind fun r35=>
 k0 (Bool.not r35) x0)
 else
 k0 false x0))))
 else
 ((bY m (Dt.I x0 0) [(Dt.int 10),(Dt.int 15)]).bind fun r36=>
 (bif (Bool.not r36) then
 ((bL m (Dt.fld x0 12)).bind fun r37=>
 k0 (Bool.not r37) x0)
 else
 k0 false x0))))))
def AJ m:=ER (AB m) m
def AL m x0 x1:=
 (bif x0 then
    some true
 else
    AJ m x1)
def ES (k0:Q67) m x0:=
  ((bY m (Dt.I x0 0) [(Dt.int 5),(Dt.int 6)]).bind fun r1=>
    (bif (Bool.not r1) then
 (bif ((Dt.I x0 5) !=0) then
 k0 true x0
 else
 ((bY m (Dt.I x0 0) [(Dt.int 7),(Dt.int 17)]).bind fun r38=>
 (bif (Bool.not r38) then
 (bif (decide (0<(List.length (Dt.L x0 6):Int))) then
 k0 true x0
 else
 ((bY m (Dt.I x0 0) [(Dt.int 7),(Dt.int 13),(Dt.int 17)]).bind fun r39=>
 (bif (Bool.not r39) then
 (bif (Bool.not ((ByteArray.toList (Dt.S x0 7))==[])) then
 k0 true x0
 else
 (bif ((Dt.I x0 0) !=7) then
 k0 (Dt.B x0 8) x0
 else
 k0 false x0))
 else
 (bif ((Dt.I x0 0) !=7) then
 k0 (Dt.B x0 8) x0
 else
 k0 false x0))))
 else
 ((bY m (Dt.I x0 0) [(Dt.int 7),(Dt.int 13),(Dt.int 17)]).bind fun r40=>
 (bif (Bool.not r40) then
 (bif (Bool.not ((ByteArray.toList (Dt.S x0 7))==[])) then
 k0 true x0
 else
 (bif ((Dt.I x0 0) !=7) then
 k0 (Dt.B x0 8) x0
 else
 k0 false x0))
 else
 (bif ((Dt.I x0 0) !=7) then
 k0 (Dt.B x0 8) x0
 else
 k0 false x0))))))
    else
 ((bY m (Dt.I x0 0) [(Dt.int 7),(Dt.int 17)]).bind fun r41=>
 (bif (Bool.not r41) then
 (bif (decide (0<(List.length (Dt.L x0 6):Int))) then
 k0 true x0
 else
 ((bY m (Dt.I x0 0) [(Dt.int 7),(Dt.int 13),(Dt.int 17)]).bind fun r42=>
 (bif (Bool.not r42) then
 (bif (Bool.not ((ByteArray.toList (Dt.S x0 7))==[])) then
 k0 true x0
 else
 (bif ((Dt.I x0 0) !=7) then
 k0 (Dt.B x0 8) x0
 else
 k0 false x0))
 else
 (bif ((Dt.I x0 0) !=7) then
 k0 (Dt.B x0 8) x0
 else
 k0 false x0))))
 else
 ((bY m (Dt.I x0 0) [(Dt.int 7),(Dt.int 13),(Dt.int 17)]).bind fun r43=>
 (bif (Bool.not r43) then
 (bif (Bool.not ((ByteArray.toList (Dt.S x0 7))==[])) then
 k0 true x0
 else
 (bif ((Dt.I x0 0) !=7) then
 k0 (Dt.B x0 8) x0
 else
 k0 false x0))
 else
 (bif ((Dt.I x0 0) !=7) then
 k0 (Dt.B x0 8) x0
 else
 k0 false x0)))))))
def AO m:=ES (AL m) m
def AP m x0 x1:=
 (bif x0 then
    some true
 else
    AO m x1)
def P6 (k0:Q67) m a0:=
    (bif ((Dt.I a0 0) !=1) then
    ((aY m (Dt.fld a0 1) KZ).bind fun r0=>
 (bif (Bool.not r0) then
 k0 true a0
 else
 (bif ((Dt.I a0 0) !=2) then
 ((bM m (Dt.fld a0 2) Wi).bind fun r44=>
 (bif (Bool.not r44) then
 k0 true a0
 else
 (bif ((Dt.I a0 0) !=3) then
 (bif (decide (0<(List.length (Dt.L a0 3):Int))) then
 k0 true a0
 else
 (bif ((Dt.I a0 0) !=4) then
 k0 (decide (0<(List.length (Dt.L a0 4):Int))) a0
 else
 k0 false a0))
 else
 (bif ((Dt.I a0 0) !=4) then
 k0 (decide (0<(List.length (Dt.L a0 4):Int))) a0
 else
 k0 false a0))))
 else
 (bif ((Dt.I a0 0) !=3) then
 (bif (decide (0<(List.length (Dt.L a0 3):Int))) then
 k0 true a0
 else
 (bif ((Dt.I a0 0) !=4) then
 k0 (decide (0<(List.length (Dt.L a0 4):Int))) a0
 else
 k0 false a0))
 else
 (bif ((Dt.I a0 0) !=4) then
 k0 (decide (0<(List.length (Dt.L a0 4):Int))) a0
 else
 k0 false a0)))))
  else
    (bif ((Dt.I a0 0) !=2) then
 ((bM m (Dt.fld a0 2) Wi).bind fun r45=>
 (bif (Bool.not r45) then
 k0 true a0
 else
 (bif ((Dt.I a0 0) !=3) then
 (bif (decide (0<(List.length (Dt.L a0 3):Int))) then
 k0 true a0
 else
 (bif ((Dt.I a0 0) !=4) then
 k0 (decide (0<(List.length (Dt.L a0 4):Int))) a0
 else
 k0 false a0))
 else
 (bif ((Dt.I a0 0) !=4) then
 k0 (decide (0<(List.length (Dt.L a0 4):Int))) a0
 else
 k0 false a0))))
    else
 (bif ((Dt.I a0 0) !=3) then
 (bif (decide (0<(List.length (Dt.L a0 3):Int))) then
 k0 true a0
 else
 (bif ((Dt.I a0 0) !=4) then
 k0 (decide (0<(List.length (Dt.L a0 4):Int))) a0
 else
 k0 false a0))
 else
 (bif ((Dt.I a0 0) !=4) then
 k0 (decide (0<(List.length (Dt.L a0 4):Int))) a0
 else
 k0 false a0))))
def qX:Nat→Dt→Option Bool
 |0,_=>none
 |  m+1,a0=>
    P6 (AP m) m a0
def ni:Nat→List Dt→List Dt→Option Bool
 |0,_,_=>none
 |  m+1,a0,a1=>
    ((bM m (Dt.agg [(Dt.bool false),(Dt.lst []),(Dt.bool false),(Dt.lst []),(Dt.lst a0)]) (Dt.agg [(Dt.bool false),(Dt.lst []),(Dt.bool false),(Dt.lst []),(Dt.lst a1)])).bind fun r0=>
    some r0)
def xQ (m:Nat) (self23:Q2) (rec2:Q11) (x0 x1:List Dt) (x2:Int):=
 rec2 x0 x1 (IntKind.wrap .i64 (x2+1))
def xR m (self23:Q2) (rec2:Q11) x0 x1 x2:=
  ((idx x0 x2).bind fun v0=>
    ((idx x1 x2).bind fun v1=>
 ((self23 v0 v1).bind fun r2=>
 (bif (Bool.not r2) then
 some false
 else
 xQ m self23 rec2 x0 x1 x2))))
def xS (m:Nat) (self23:Q2):=
 some true
def uw (m:Nat) (self23:Q2):Nat→List Dt→List Dt→Int→Option Bool
 |0,_,_,_=>none
 |  M2+1,x0,x1,x2=>
    (bif (decide (x2<(List.length x0:Int))) then
    xR m self23 (uw m self23 M2) x0 x1 x2
 else
    xS m self23)
def xU m self23 x0 x1 x2:=
 uw m self23 (Nat.succ m) x0 x1 x2
def xV m self23 x0 x1:=
 xU m self23 x0 x1 0
def rQ m (self6 self54:Q15) x0 x1:=
  ((cu m (Dt.L x0 14) (Dt.L x1 14)).bind fun r0=>
    (bif r0 then
 (bif ((ByteArray.toList (Dt.S (Dt.fld x0 15) 0))==(ByteArray.toList (Dt.S (Dt.fld x1 15) 0))) then
 ((cB m (Dt.L (Dt.fld x0 15) 1) (Dt.L (Dt.fld x1 15) 1)).bind fun r1=>
 (bif r1 then
 (bif ((Dt.I (Dt.fld x0 15) 2)==(Dt.I (Dt.fld x1 15) 2)) then
 (bif ((Dt.I (Dt.fld x0 15) 3)==(Dt.I (Dt.fld x1 15) 3)) then
 ((aW m (Dt.fld x0 16) (Dt.fld x1 16)).bind fun r2=>
 some r2)
 else
 some false)
 else
 some false)
 else
 some false))
 else
 some false)
    else
 some false))
def zn m self6 self54 x0 x1 x2:=
 (bif x0 then
    some false
 else
    rQ m self6 self54 x1 x2)
def wY (k0:Q66) m (self6 self54:Q15) x0 x1:=
  (bif (Bool.not ((ByteArray.toList (Dt.S (Dt.fld x0 12) 0))==(ByteArray.toList (Dt.S (Dt.fld x1 12) 0)))) then
    k0 true x0 x1
  else
    ((aL m (Dt.L (Dt.fld x0 12) 1) (Dt.L (Dt.fld x1 12) 1)).bind fun r3=>
 (bif (Bool.not r3) then
 k0 true x0 x1
 else
 ((aL m (Dt.L (Dt.fld x0 12) 2) (Dt.L (Dt.fld x1 12) 2)).bind fun r4=>
 (bif (Bool.not r4) then
 k0 true x0 x1
 else
 (bif (Bool.not ((ByteArray.toList (Dt.S (Dt.fld x0 12) 3))==(ByteArray.toList (Dt.S (Dt.fld x1 12) 3)))) then
 k0 true x0 x1
 else
 ((self6 (Dt.L (Dt.fld x0 12) 4) (Dt.L (Dt.fld x1 12) 4)).bind fun r5=>
 (bif (Bool.not r5) then
 k0 true x0 x1
 else
 ((self54 (Dt.L x0 13) (Dt.L x1 13)).bind fun r6=>
 k0 (Bool.not r6) x0 x1)))))))))
def zo m self6 self54:=wY (zn m self6 self54) m self6 self54
def zq m self6 self54 x0 x1 x2:=
 (bif x0 then
    some false
 else
    zo m self6 self54 x1 x2)
def wZ (k0:Q66) m x0 x1:=
  (bif ((Dt.I x0 5) !=(Dt.I x1 5)) then
    k0 true x0 x1
  else
    ((aL m (Dt.L x0 6) (Dt.L x1 6)).bind fun r7=>
 (bif (Bool.not r7) then
 k0 true x0 x1
 else
 (bif (Bool.not ((ByteArray.toList (Dt.S x0 7))==(ByteArray.toList (Dt.S x1 7)))) then
 k0 true x0 x1
 else
 (bif (Bool.not ((Dt.B x0 8)==(Dt.B x1 8))) then
 k0 true x0 x1
 else
 ((aD m (Dt.fld x0 9) (Dt.fld x1 9)).bind fun r8=>
 (bif (Bool.not r8) then
 k0 true x0 x1
 else
 ((jW m (Dt.fld x0 10) (Dt.fld x1 10)).bind fun r9=>
 (bif (Bool.not r9) then
 k0 true x0 x1
 else
 ((iU m (Dt.fld x0 11) (Dt.fld x1 11)).bind fun r10=>
 k0 (Bool.not r10) x0 x1))))))))))
def zu m self6 self54:=wZ (zq m self6 self54) m
def zw m self6 self54 x0 x1 x2:=
 (bif x0 then
    some false
 else
    zu m self6 self54 x1 x2)
def lU (m:Nat) (self6:Q15) (rec2:Q11) (x0 x1:List Dt) (x2:Int):=
 rec2 x0 x1 (IntKind.wrap .i64 (x2+1))
def lV m self6 rec2 x0 x1 x2 x3:=
 (bif x3 then
    some false
 else
    lU m self6 rec2 x0 x1 x2)
def jl (k0:Q69) (self6:Q15) x0 x1 x2:=
  ((idx x0 x2).bind fun v0=>
    ((idx x1 x2).bind fun v1=>
 (bif (Bool.not ((ByteArray.toList (Dt.S v0 0))==(ByteArray.toList (Dt.S v1 0)))) then
 k0 x0 x1 x2 true
 else
 ((idx x0 x2).bind fun v2=>
 ((idx x1 x2).bind fun v3=>
 ((self6 (Dt.L v2 1) (Dt.L v3 1)).bind fun r4=>
 k0 x0 x1 x2 (Bool.not r4)))))))
def lW m self6 rec2:=jl (lV m self6 rec2) self6
def lX (m:Nat) (self6:Q15):=
 some true
def iA (m:Nat) (self6:Q15):Nat→List Dt→List Dt→Int→Option Bool
 |0,_,_,_=>none
 |  M2+1,x0,x1,x2=>
    (bif (decide (x2<(List.length x0:Int))) then
    lW m self6 (iA m self6 M2) x0 x1 x2
 else
    lX m self6)
def lY m self6 x0 x1 x2:=
 iA m self6 (Nat.succ m) x0 x1 x2
def lZ m self6 x0 x1:=
 lY m self6 x0 x1 0
def CG (k0:Q66) m a0 a1:=
    (bif ((Dt.I a0 0) !=(Dt.I a1 0)) then
    k0 true a0 a1
  else
    ((aY m (Dt.fld a0 1) (Dt.fld a1 1)).bind fun r11=>
 (bif (Bool.not r11) then
 k0 true a0 a1
 else
 ((bM m (Dt.fld a0 2) (Dt.fld a1 2)).bind fun r12=>
 (bif (Bool.not r12) then
 k0 true a0 a1
 else
 ((ni m (Dt.L a0 3) (Dt.L a1 3)).bind fun r13=>
 (bif (Bool.not r13) then
 k0 true a0 a1
 else
 ((dA m (Dt.L a0 4) (Dt.L a1 4)).bind fun r14=>
 k0 (Bool.not r14) a0 a1))))))))
mutual
def bg:Nat→List Dt→List Dt→Option Bool
 |0,_,_=>none
 |  m+1,a0,a1=>
    (bif ((List.length a0:Int) !=(List.length a1:Int)) then
    some false
 else
    xV m (bH m) a0 a1)
def bH:Nat→Dt→Dt→Option Bool
 |0,_,_=>none
 |  m+1,a0,a1=>
    CG (zw m (bg m) (bO m)) m a0 a1
def bO:Nat→List Dt→List Dt→Option Bool
 |0,_,_=>none
 |  m+1,a0,a1=>
    (bif ((List.length a0:Int) !=(List.length a1:Int)) then
    some false
 else
    lZ m (bg m) a0 a1)
end
def IG (m:Nat) (rec1:Q19) (x0:Int) (x1:Dt) (x2:List Dt):=
 rec1 (IntKind.wrap .i64 (x0+1)) x1 x2
def II m rec1 x0 x1 x2:=
  ((idx (Dt.L x1 3) x0).bind fun v1=>
    ((app x2 [(Dt.lst (Dt.L v1 0))]).bind fun v2=>
 IG m rec1 x0 x1 v2))
def IJ (m:Nat) (rec6:Q19) (x0:Int) (x1:Dt) (x2:List Dt):=
 rec6 (IntKind.wrap .i64 (x0+1)) x1 x2
def IK m rec6 x0 x1 x2:=
  ((idx (Dt.L x1 4) x0).bind fun v3=>
    ((app x2 [(Dt.lst (Dt.L v3 0))]).bind fun v4=>
 IJ m rec6 x0 x1 v4))
def UM (m:Nat) (x0:List Dt):=
 some x0
def qm (m:Nat):Nat→Int→Dt→List Dt→Option (List Dt)
 |0,_,_,_=>none
 |  M6+1,x0,x1,x2=>
    (bif (decide (x0<(List.length (Dt.L x1 4):Int))) then
    IK m (qm m M6) x0 x1 x2
 else
    UM m x2)
def UN m x0 x1 x2:=
 qm m (Nat.succ m) x0 x1 x2
def UO m x0 x1:=
 UN m 0 x0 x1
def qo (m:Nat):Nat→Int→Dt→List Dt→Option (List Dt)
 |0,_,_,_=>none
 |  M1+1,x0,x1,x2=>
    (bif (decide (x0<(List.length (Dt.L x1 3):Int))) then
    II m (qo m M1) x0 x1 x2
 else
    UO m x1 x2)
def UQ m x0 x1 x2:=
 qo m (Nat.succ m) x0 x1 x2
def qY:Nat→Dt→Option (List Dt)
 |0,_=>none
 |  m+1,a0=>
    ((app [] (Dt.L a0 1)).bind fun v0=>
    UQ m 0 a0 v0)
def gM:Nat→List Dt→List Dt→Option Bool
  |0,_,_=>none
  | m+1,a0,a1=>
    ((jc m a0 a1).bind fun r0=>
    (bif r0 then
 some true
    else
 ((jc m a1 a0).bind fun r1=>
 some r1)))
def oQ (m:Nat) (rec3:Q17) (x0:ByteArray) (x1:Int):=
 rec3 x0 (IntKind.wrap .i64 (x1+1))
def oU m rec3 x0 x1 x2:=
 (bif x2 then
    some false
 else
    oQ m rec3 x0 x1)
def nk (k0:Q70) x0 x1:=
  ((idxS x0 x1).bind fun v0=>
    (bif (decide (v0<33)) then
 k0 x0 x1 true
    else
 ((idxS x0 x1).bind fun v1=>
 (bif (decide (126<v1)) then
 k0 x0 x1 true
 else
 ((idxS x0 x1).bind fun v2=>
 k0 x0 x1 (v2==46))))))
def oV m rec3:=nk (oU m rec3)
def oW (m:Nat):=
 some true
def oZ (m:Nat):Nat→ByteArray→Int→Option Bool
 |0,_,_=>none
 |  M3+1,x0,x1=>
    (bif (decide (x1<(ByteArray.size x0:Int))) then
    oV m (oZ m M3) x0 x1
 else
    oW m)
def o7 m x0 x1:=
 oZ m (Nat.succ m) x0 x1
def o8 m x0:=
 o7 m x0 0
def o9 m x0 x1:=
 (bif x1 then
    some false
 else
    o8 m x0)
def UR (k0:Q71) a0:=
    (bif (decide ((ByteArray.size a0:Int)<1)) then
    k0 a0 true
  else
    (bif (decide (32<(ByteArray.size a0:Int))) then
 k0 a0 true
    else
 ((idxS a0 0).bind fun v3=>
 k0 a0 (v3==36))))
def eF:Nat→ByteArray→Option Bool
 |0,_=>none
 |  m+1,a0=>
    UR (o9 m) a0
def vC (m:Nat) (rec3:Q27) (x0:List Dt) (x1:Int):=
 rec3 x0 (IntKind.wrap .i64 (x1+1))
def vD m rec3 x0 x1:=
  ((idx x0 x1).bind fun v0=>
    ((eF m (Dt.toStr v0)).bind fun r1=>
 (bif (Bool.not r1) then
 some false
 else
 vC m rec3 x0 x1)))
def vE (m:Nat):=
 some true
def nu (m:Nat):Nat→List Dt→Int→Option Bool
 |0,_,_=>none
 |  M3+1,x0,x1=>
    (bif (decide (x1<(List.length x0:Int))) then
    vD m (nu m M3) x0 x1
 else
    vE m)
def vF m x0 x1:=
 nu m (Nat.succ m) x0 x1
def vG m x0:=
 vF m x0 0
def vH m x0 x1:=
 (bif x1 then
    some false
 else
    vG m x0)
def P7 (k0:Q72) a0:=
    (bif (decide ((List.length a0:Int)<1)) then
    k0 a0 true
 else
    k0 a0 (decide (16<(List.length a0:Int))))
def bG:Nat→List Dt→Option Bool
 |0,_=>none
 |  m+1,a0=>
    P7 (vH m) a0
def yC (m:Nat) (rec4:Q9) (rec8:Q38) (x0 x1:Int) (x2:Dt):=
 rec8 x0 (IntKind.wrap .i64 (x1+1)) x2
def yD (k0:Q38) m x0 x1 x2:=
  ((idx (Dt.L x2 1) x0).bind fun v3=>
    ((idx (Dt.L x2 1) x1).bind fun v4=>
 ((gM m (Dt.toLst v3) (Dt.toLst v4)).bind fun r5=>
 (bif r5 then
 some 12
 else
 k0 x0 x1 x2))))
def AQ m rec4 rec8:=yD (yC m rec4 rec8) m
def yE (m:Nat) (rec4:Q9) (x0:Int) (x1:Dt):=
 rec4 (IntKind.wrap .i64 (x0+1)) x1
def qp (m:Nat) (rec4:Q9):Nat→Int→Int→Dt→Option Int
 |0,_,_,_=>none
 |  M8+1,x0,x1,x2=>
    (bif (decide (x1<x0)) then
    AQ m rec4 (qp m rec4 M8) x0 x1 x2
 else
    yE m rec4 x0 x2)
def IL m rec4 x0 x1 x2:=
 qp m rec4 (Nat.succ m) x0 x1 x2
def IQ m rec4 x0 x1:=
 IL m rec4 x0 0 x1
def yF (k0:Q9) m x0 x1:=
  ((idx (Dt.L x1 1) x0).bind fun v1=>
    ((bG m (Dt.toLst v1)).bind fun r2=>
 (bif (Bool.not r2) then
 some 10
 else
 k0 x0 x1)))
def AR m rec4:=yF (IQ m rec4) m
def ET (m:Nat):Option Int:=
 some 0
def EU m x0:=
 (bif x0 then
    some 1
 else
    ET m)
def CJ (k0:Q73) x0:=
  (bif (decide ((Dt.I x0 2)<1)) then
    k0 true
  else
    (bif (decide (4<(Dt.I x0 2))) then
 k0 true
    else
 (bif (decide ((Dt.I x0 3)<4)) then
 k0 true
 else
 k0 (decide (6<(Dt.I x0 3))))))
def EW m:=CJ (EU m)
def qw (m:Nat):Nat→Int→Dt→Option Int
 |0,_,_=>none
 |  M4+1,x0,x1=>
    (bif (decide (x0<(List.length (Dt.L x1 1):Int))) then
    AR m (qw m M4) x0 x1
 else
    EW m x1)
def IU m x0 x1:=
 qw m (Nat.succ m) x0 x1
def IV m x0:=
 IU m 0 x0
def vI m x0 x1:=
 (bif x0 then
    some 21
 else
    IV m x1)
def yG (k0:Q74) x0:=
 (bif (decide ((List.length (Dt.L x0 1):Int)<1)) then
    k0 true x0
 else
    k0 (decide (8<(List.length (Dt.L x0 1):Int))) x0)
def AU m:=yG (vI m)
def vJ:Nat→Dt→Option Int
  |0,_=>none
  | m+1,a0=>
    ((eF m (Dt.S a0 0)).bind fun r0=>
    (bif (Bool.not r0) then
 some 9
    else
 AU m a0))
def bR:Nat→ByteArray→Option Bool
  |0,_=>none
  | m+1,a0=>
    ((eF m a0).bind fun r0=>
    (bif r0 then
 some (Bool.not ((ByteArray.toList a0)==[95,105,100]))
    else
 some false))
def cZ:Nat→Int→Option Bool
  |0,_=>none
  | m+1,a0=>
    (bif (a0==8) then
    some true
  else
    (bif (a0==9) then
 some true
    else
 some (a0==14)))
def gG:Nat→Int→Option Bool
 |0,_=>none
 |  m+1,a0=>
    (bif (decide (2≤a0)) then
    some (decide (a0≤19))
 else
    some false)
def dF:Nat→Int→Option Bool
  |0,_=>none
  | m+1,a0=>
    (bif (a0==16) then
    some true
  else
    (bif (a0==17) then
 some true
    else
 some (a0==19)))
def fJ:Nat→Int→Option Bool
  |0,_=>none
  | m+1,a0=>
    (bif (decide (2≤a0)) then
    (bif (decide (a0≤7)) then
 some true
    else
 ((dF m a0).bind fun r0=>
 some r0))
  else
    ((dF m a0).bind fun r1=>
 some r1))
def Es (m:Nat):=
 some true
def zx k0 a0:=
    (bif ((Dt.I a0 0)==10) then
    (bif ((Dt.I a0 4)==0) then
 some true
    else
 some ((Dt.I a0 4)==1))
  else
    (bif ((Dt.I a0 0)==11) then
 (bif (decide (1≤(Dt.I a0 4))) then
 some (decide ((Dt.I a0 4)≤11))
 else
 some false)
    else
 (bif ((Dt.I a0 0)==12) then
 (bif (decide (1≤(Dt.I a0 4))) then
 (bif (decide (0≤(Dt.I a0 5))) then
 some (decide ((Dt.I a0 5)<(Dt.I a0 4)))
 else
 some false)
 else
 some false)
 else
 (bif ((Dt.I a0 0)==13) then
 some (decide (0≤(Dt.I a0 4)))
 else
 k0))))
def gW:Nat→Dt→Option Bool
 |0,_=>none
 |  m+1,a0=>
    zx (Es m) a0
def vK (m:Nat) (x0:Int):=
 some (x0==0)
def vL m x0 x1:=
 (bif x1 then
    some (decide (1≤x0))
 else
    vK m x0)
def uI (k0:Q75) (x0 x1:Int) (x2:Bool):=
  (bif x2 then
    some (x0==1)
  else
    (bif (x1==20) then
 k0 x0 (x1==20)
    else
 (bif (x1==21) then
 k0 x0 (x1==21)
 else
 k0 x0 (x1==22))))
def oJ m:=uI (vL m)
def jR:Nat→Int→Int→Option Bool
 |0,_,_=>none
 |  m+1,a0,a1=>
    (bif (a0==15) then
    oJ m a1 a0 (a0==15)
 else
    oJ m a1 a0 (a0==23))
def qx:Nat→Int→Option Bool
 |0,_=>none
 |  m+1,a0=>
    (bif (decide (0≤a0)) then
    some (decide (a0<65536))
 else
    some false)
def xW:Nat→Dt→Option Bool
  |0,_=>none
  | m+1,a0=>
    ((qx m (Dt.I a0 0)).bind fun r0=>
    (bif r0 then
 ((qx m (Dt.I a0 1)).bind fun r1=>
 some r1)
    else
 some false))
def vM (m:Nat) (rec2:Q38) (x0 x1:Int) (x2:Dt):=
 rec2 x0 (IntKind.wrap .i64 (x1+1)) x2
def vN m rec2 x0 x1 x2:=
  ((idx (Dt.L x2 1) x1).bind fun v0=>
    ((xW m v0).bind fun r1=>
 (bif (Bool.not r1) then
 some 18
 else
 vM m rec2 x0 x1 x2)))
def AX (m:Nat):Option Int:=
 some 18
def vO m x0:=
 (bif x0 then
    some 0
 else
    AX m)
def yH (k0:Q73) (m:Nat) (x0:Int) (x1:Dt):=
  (bif ((Dt.I x1 0)==1) then
    (bif (x0==2) then
 (bif ((Dt.I x1 2)==0) then
 k0 true
 else
 (bif ((Dt.I x1 0)==2) then
 (bif (x0==1) then
 ((qx m (Dt.I x1 2)).bind fun r2=>
 (bif r2 then
 k0 true
 else
 (bif ((Dt.I x1 0)==3) then
 (bif (decide (3≤x0)) then
 k0 ((Dt.I x1 2)==0)
 else
 k0 false)
 else
 k0 false)))
 else
 (bif ((Dt.I x1 0)==3) then
 (bif (decide (3≤x0)) then
 k0 ((Dt.I x1 2)==0)
 else
 k0 false)
 else
 k0 false))
 else
 (bif ((Dt.I x1 0)==3) then
 (bif (decide (3≤x0)) then
 k0 ((Dt.I x1 2)==0)
 else
 k0 false)
 else
 k0 false)))
    else
 (bif ((Dt.I x1 0)==2) then
 (bif (x0==1) then
 ((qx m (Dt.I x1 2)).bind fun r3=>
 (bif r3 then
 k0 true
 else
 (bif ((Dt.I x1 0)==3) then
 (bif (decide (3≤x0)) then
 k0 ((Dt.I x1 2)==0)
 else
 k0 false)
 else
 k0 false)))
 else
 (bif ((Dt.I x1 0)==3) then
 (bif (decide (3≤x0)) then
 k0 ((Dt.I x1 2)==0)
 else
 k0 false)
 else
 k0 false))
 else
 (bif ((Dt.I x1 0)==3) then
 (bif (decide (3≤x0)) then
 k0 ((Dt.I x1 2)==0)
 else
 k0 false)
 else
 k0 false)))
  else
    (bif ((Dt.I x1 0)==2) then
 (bif (x0==1) then
 ((qx m (Dt.I x1 2)).bind fun r4=>
 (bif r4 then
 k0 true
 else
 (bif ((Dt.I x1 0)==3) then
 (bif (decide (3≤x0)) then
 k0 ((Dt.I x1 2)==0)
 else
 k0 false)
 else
 k0 false)))
 else
 (bif ((Dt.I x1 0)==3) then
 (bif (decide (3≤x0)) then
 k0 ((Dt.I x1 2)==0)
 else
 k0 false)
 else
 k0 false))
    else
 (bif ((Dt.I x1 0)==3) then
 (bif (decide (3≤x0)) then
 k0 ((Dt.I x1 2)==0)
 else
 k0 false)
 else
 k0 false)))
def qy (m:Nat):=yH (vO m) m
def jm (m:Nat):Nat→Int→Int→Dt→Option Int
 |0,_,_,_=>none
 |  M2+1,x0,x1,x2=>
    (bif (decide (x1<x0)) then
    vN m (jm m M2) x0 x1 x2
 else
    qy m x0 x2)
def IW m x0 x1 x2:=
 jm m (Nat.succ m) x0 x1 x2
def AY m x0 x1:=
 IW m x0 0 x1
def iG:Nat→Dt→Option Int
 |0,_=>none
 |  m+1,a0=>
    (bif (decide (64<(List.length (Dt.L a0 1):Int))) then
    some 18
 else
    AY m (List.length (Dt.L a0 1):Int) a0)
def YB (m:Nat):Option Int:=
 some 0
def Ml (m:Nat) (x0:Dt):Option Int:=
  ((bR m (Dt.S x0 7)).bind fun r2=>
    (bif (Bool.not r2) then
 some 9
    else
 YB m))
def Mq (m:Nat) (x0:Dt):Option Int:=
  ((bG m (Dt.L x0 6)).bind fun r1=>
    (bif (Bool.not r1) then
 some 10
    else
 Ml m x0))
def DN (m:Nat) (x0:Bool) (x1:Dt):Option Int:=
 (bif x0 then
    some 18
 else
    Mq m x1)
def UU (k0:Q74) m a0:=
    ((iG m (Dt.fld a0 16)).bind fun r0=>
    (bif (r0 !=0) then
 k0 true a0
    else
 k0 ((Dt.I (Dt.fld a0 16) 0) !=2) a0))
def zy:Nat→Dt→Option Int
 |0,_=>none
 |  m+1,a0=>
    UU (DN m) m a0
def jd:Nat→Dt→Option Bool
  |0,_=>none
  | m+1,a0=>
    (bif ((Dt.I a0 0)==0) then
    (bif ((List.length (Dt.L a0 1):Int)==0) then
 some ((Dt.I a0 2)==0)
    else
 some false)
  else
    some false)
def gq:Nat→Dt→Option Bool
  |0,_=>none
  | m+1,a0=>
    (bif ((Dt.I a0 0)==0) then
    (bif ((Dt.I a0 1)==0) then
 (bif ((ByteArray.toList (Dt.S a0 2))==[]) then
 (bif ((List.length (Dt.L a0 3):Int)==0) then
 some ((List.length (Dt.L a0 4):Int)==0)
 else
 some false)
 else
 some false)
    else
 some false)
  else
    some false)
def je:Nat→Dt→Option Bool
  |0,_=>none
  | m+1,a0=>
    (bif ((Dt.I a0 0)==0) then
    (bif ((List.length (Dt.L a0 1):Int)==0) then
 (bif ((ByteArray.toList (Dt.S a0 2))==[]) then
 (bif ((List.length (Dt.L a0 3):Int)==0) then
 ((gq m (Dt.fld a0 4)).bind fun r0=>
 (bif r0 then
 (bif ((Dt.I a0 5)==0) then
 some ((List.length (Dt.L a0 6):Int)==0)
 else
 some false)
 else
 some false))
 else
 some false)
 else
 some false)
    else
 some false)
  else
    some false)
def jX m x0:=
  (bif ((Dt.I x0 0)==18) then
    (bif ((Dt.I x0 0)==24) then
 some true
    else
 ((je m (Dt.fld x0 7)).bind fun r1=>
 some r1))
  else
    ((jd m (Dt.fld x0 6)).bind fun r2=>
 (bif r2 then
 (bif ((Dt.I x0 0)==24) then
 some true
 else
 ((je m (Dt.fld x0 7)).bind fun r3=>
 some r3))
 else
 some false)))
def tu m x0 x1:=
 (bif x0 then
    some false
 else
    jX m x1)
def wG (k0:Q67) x0:=
  (bif ((Dt.I x0 0) !=10) then
    (bif ((Dt.I x0 0) !=11) then
 (bif ((Dt.I x0 0) !=12) then
 (bif ((Dt.I x0 0) !=13) then
 (bif ((Dt.I x0 4) !=0) then
 k0 true x0
 else
 (bif ((Dt.I x0 0) !=12) then
 k0 ((Dt.I x0 5) !=0) x0
 else
 k0 false x0))
 else
 (bif ((Dt.I x0 0) !=12) then
 k0 ((Dt.I x0 5) !=0) x0
 else
 k0 false x0))
 else
 (bif ((Dt.I x0 0) !=12) then
 k0 ((Dt.I x0 5) !=0) x0
 else
 k0 false x0))
    else
 (bif ((Dt.I x0 0) !=12) then
 k0 ((Dt.I x0 5) !=0) x0
 else
 k0 false x0))
  else
    (bif ((Dt.I x0 0) !=12) then
 k0 ((Dt.I x0 5) !=0) x0
    else
 k0 false x0))
def tC m:=wG (tu m)
def tF m x0 x1:=
 (bif x0 then
    some false
 else
    tC m x1)
def DR (k0:Q67) m a0:=
    ((iY m (Dt.I a0 0)).bind fun r0=>
    (bif (Bool.not r0) then
 (bif (decide (0<(List.length (Dt.L a0 1):Int))) then
 k0 true a0
 else
 ((gP m (Dt.I a0 0)).bind fun r4=>
 (bif (Bool.not r4) then
 ((gq m (Dt.fld a0 2)).bind fun r5=>
 (bif (Bool.not r5) then
 k0 true a0
 else
 ((bX m (Dt.I a0 0)).bind fun r6=>
 (bif (Bool.not r6) then
 k0 (decide (0<(List.length (Dt.L a0 3):Int))) a0
 else
 k0 false a0))))
 else
 ((bX m (Dt.I a0 0)).bind fun r7=>
 (bif (Bool.not r7) then
 k0 (decide (0<(List.length (Dt.L a0 3):Int))) a0
 else
 k0 false a0)))))
    else
 ((gP m (Dt.I a0 0)).bind fun r8=>
 (bif (Bool.not r8) then
 ((gq m (Dt.fld a0 2)).bind fun r9=>
 (bif (Bool.not r9) then
 k0 true a0
 else
 ((bX m (Dt.I a0 0)).bind fun r10=>
 (bif (Bool.not r10) then
 k0 (decide (0<(List.length (Dt.L a0 3):Int))) a0
 else
 k0 false a0))))
 else
 ((bX m (Dt.I a0 0)).bind fun r11=>
 (bif (Bool.not r11) then
 k0 (decide (0<(List.length (Dt.L a0 3):Int))) a0
 else
 k0 false a0))))))
def l5:Nat→Dt→Option Bool
 |0,_=>none
 |  m+1,a0=>
    DR (tF m) m a0
def Mr (m:Nat) (rec2:Q11) (x0 x1:List Dt) (x2:Int):=
 rec2 x0 x1 (IntKind.wrap .i64 (x2+1))
def IX (k0:Q11) x0 x1 x2:=
  ((idx x0 x2).bind fun v0=>
    ((idx x1 x2).bind fun v1=>
 (bif (Bool.not ((ByteArray.toList (Dt.toStr v0))==(ByteArray.toList (Dt.toStr v1)))) then
 some false
 else
 k0 x0 x1 x2)))
def Mt m rec2:=IX (Mr m rec2)
def Mw (m:Nat):=
 some true
def uy (m:Nat):Nat→List Dt→List Dt→Int→Option Bool
 |0,_,_,_=>none
 |  M2+1,x0,x1,x2=>
    (bif (decide (x2<(List.length x0:Int))) then
    Mt m (uy m M2) x0 x1 x2
 else
    Mw m)
def Mx m x0 x1 x2:=
 uy m (Nat.succ m) x0 x1 x2
def MB m x0 x1:=
 Mx m x0 x1 0
def zA:Nat→List Dt→List Dt→Option Bool
 |0,_,_=>none
 |  m+1,a0,a1=>
    (bif ((List.length a0:Int) !=(List.length a1:Int)) then
    some false
 else
    MB m a0 a1)
def IY (m:Nat) (rec2:Q4) (rec6:Q22) (x0:List Dt) (x1 x2:Int):=
 rec6 x0 x1 (IntKind.wrap .i64 (x2+1))
def EX (k0:Q22) m x0 x1 x2:=
  ((idx x0 x1).bind fun v2=>
    ((idx x0 x2).bind fun v3=>
 ((zA m (Dt.L v2 0) (Dt.L v3 0)).bind fun r4=>
 (bif r4 then
 some 12
 else
 k0 x0 x1 x2))))
def IZ m rec2 rec6:=EX (IY m rec2 rec6) m
def I4 (m:Nat) (rec2:Q4) (x0:List Dt) (x1:Int):=
 rec2 x0 (IntKind.wrap .i64 (x1+1))
def qz (m:Nat) (rec2:Q4):Nat→List Dt→Int→Int→Option Int
 |0,_,_,_=>none
 |  M6+1,x0,x1,x2=>
    (bif (decide (x2<x1)) then
    IZ m rec2 (qz m rec2 M6) x0 x1 x2
 else
    I4 m rec2 x0 x1)
def I5 m rec2 x0 x1 x2:=
 qz m rec2 (Nat.succ m) x0 x1 x2
def I6 m rec2 x0 x1:=
 I5 m rec2 x0 x1 0
def I7 m rec2 x0 x1:=
  ((idx x0 x1).bind fun v0=>
    ((bG m (Dt.L v0 0)).bind fun r1=>
 (bif (Bool.not r1) then
 some 10
 else
 I6 m rec2 x0 x1)))
def EY (m:Nat):Option Int:=
 some 0
def ny (m:Nat):Nat→List Dt→Int→Option Int
 |0,_,_=>none
 |  M2+1,x0,x1=>
    (bif (decide (x1<(List.length x0:Int))) then
    I7 m (ny m M2) x0 x1
 else
    EY m)
def I8 m x0 x1:=
 ny m (Nat.succ m) x0 x1
def I9 m x0:=
 I8 m x0 0
def mE:Nat→List Dt→Option Int
 |0,_=>none
 |  m+1,a0=>
    (bif (decide (8<(List.length a0:Int))) then
    some 2
 else
    I9 m a0)
def MC (m:Nat):Option Int:=
 some 0
def ME (m:Nat) (x0 x1:Int):=
 (bif (decide (x1<x0)) then
    some 1
 else
    MC m)
def gX:Nat→Int→Int→Option Int
 |0,_,_=>none
 |  m+1,a0,a1=>
    (bif (decide (a0<a1)) then
    some (-1)
 else
    ME m a0 a1)
def Ja (m:Nat) (rec1:Q52) (x0 x1:ByteArray) (x2:Int):=
 rec1 x0 x1 (IntKind.wrap .i64 (x2+1))
def EZ (k0:Q52) m x0 x1 x2:=
  ((idxS x0 x2).bind fun v0=>
    ((idxS x1 x2).bind fun v1=>
 (bif (v0 !=v1) then
 ((idxS x0 x2).bind fun v2=>
 ((idxS x1 x2).bind fun v3=>
 ((gX m (IntKind.wrap .i64 v2) (IntKind.wrap .i64 v3)).bind fun r4=>
 some r4)))
 else
 k0 x0 x1 x2)))
def Jb m rec1:=EZ (Ja m rec1) m
def qA m x0 x1:=
 (( gX m (ByteArray.size x0:Int) (ByteArray.size x1:Int)).bind fun r5=>
    some r5)
def qB (m:Nat):Nat→ByteArray→ByteArray→Int→Option Int
  |0,_,_,_=>none
  | M1+1,x0,x1,x2=>
    (bif (decide (x2<(ByteArray.size x0:Int))) then
    (bif (decide (x2<(ByteArray.size x1:Int))) then
 Jb m (qB m M1) x0 x1 x2
    else
 qA m x0 x1)
  else
    qA m x0 x1)
def UW m x0 x1 x2:=
 qB m (Nat.succ m) x0 x1 x2
def oK:Nat→ByteArray→ByteArray→Option Int
 |0,_,_=>none
 |  m+1,a0,a1=>
    UW m a0 a1 0
def CK (m:Nat) (self102:Q20) (rec4:Q35) (x0:Int) (x1 x2:Dt):=
 rec4 (IntKind.wrap .i64 (x0+1)) x1 x2
def CO m (self102:Q20) (rec4:Q35) x0 x1 x2:=
  ((idx (Dt.L x1 3) x0).bind fun v3=>
    ((idx (Dt.L x2 3) x0).bind fun v4=>
 ((self102 v3 v4).bind fun r5=>
 (bif (r5 !=0) then
 some r5
 else
 CK m self102 rec4 x0 x1 x2))))
def qC m (self102:Q20) x0 x1:=
 (( gX m (List.length (Dt.L x0 3):Int) (List.length (Dt.L x1 3):Int)).bind fun r6=>
    some r6)
def AZ (k0:Q35) (k1:Q20) x0 x1 x2:=
    (bif (decide (x0<(List.length (Dt.L x1 3):Int))) then
    (bif (decide (x0<(List.length (Dt.L x2 3):Int))) then
 k0 x0 x1 x2
    else
 k1 x1 x2)
  else
    k1 x1 x2)
def mJ (m:Nat) (self102:Q20):Nat→Int→Dt→Dt→Option Int
 |0,_,_,_=>none
 |  M4+1,x0,x1,x2=>
    AZ (CO m self102 (mJ m self102 M4)) (qC m self102) x0 x1 x2
def wH m self102 x0 x1 x2:=
 mJ m self102 (Nat.succ m) x0 x1 x2
def A8 (m:Nat) (self102:Q20) (rec9:Q35) (x0:Int) (x1 x2:Dt):=
 rec9 (IntKind.wrap .i64 (x0+1)) x1 x2
def A9 m self102 rec9 x0 x1 x2 x3:=
 (bif (x1 !=0) then
    some x1
 else
    A8 m self102 rec9 x0 x2 x3)
def zB (k0:Q77) m (self102:Q20) x0 x1 x2:=
  ((idx (Dt.L x1 4) x0).bind fun v7=>
    ((idx (Dt.L x2 4) x0).bind fun v8=>
 ((oK m (Dt.S v7 0) (Dt.S v8 0)).bind fun r9=>
 (bif (r9==0) then
 ((idx (Dt.L x1 4) x0).bind fun v10=>
 ((idx (Dt.L x2 4) x0).bind fun v11=>
 ((self102 (Dt.fld v10 1) (Dt.fld v11 1)).bind fun r12=>
 k0 x0 r12 x1 x2)))
 else
 k0 x0 r9 x1 x2))))
def Ba m self102 rec9:=zB (A9 m self102 rec9) m self102
def oL m (self102:Q20) x0 x1:=
 (( gX m (List.length (Dt.L x0 4):Int) (List.length (Dt.L x1 4):Int)).bind fun r13=>
    some r13)
def Bb (k0:Q35) (k1:Q20) x0 x1 x2:=
    (bif (decide (x0<(List.length (Dt.L x1 4):Int))) then
    (bif (decide (x0<(List.length (Dt.L x2 4):Int))) then
 k0 x0 x1 x2
    else
 k1 x1 x2)
  else
    k1 x1 x2)
def mK (m:Nat) (self102:Q20):Nat→Int→Dt→Dt→Option Int
 |0,_,_,_=>none
 |  M9+1,x0,x1,x2=>
    Bb (Ba m self102 (mK m self102 M9)) (oL m self102) x0 x1 x2
def wI m self102 x0 x1 x2:=
 mK m self102 (Nat.succ m) x0 x1 x2
def Bc (m:Nat) (self102:Q20):Option Int:=
 some 0
def CP (m:Nat) (self102:Q20) (x0:Int) (x1:Bool) (x2 x3:Dt):=
  (bif x1 then
    ((oK m (Dt.S x2 2) (Dt.S x3 2)).bind fun r2=>
 some r2)
  else
    (bif (x0==6) then
 wH m self102 0 x2 x3
    else
 (bif (x0==5) then
 wI m self102 0 x2 x3
 else
 Bc m self102)))
def Bd (k0:Q78) m x0 x1 x2 x3:=
  (bif x1 then
    ((gX m (Dt.I x2 1) (Dt.I x3 1)).bind fun r1=>
 some r1)
  else
    (bif (x0==4) then
 k0 x0 (x0==4) x2 x3
    else
 (bif (x0==7) then
 k0 x0 (x0==7) x2 x3
 else
 k0 x0 (x0==8) x2 x3)))
def CQ m (self102:Q20):=Bd (CP m self102) m
def Bf (k0:Q78) x0 x1:=
  (bif ((Dt.I x0 0)==3) then
    k0 (Dt.I x0 0) ((Dt.I x0 0)==3) x0 x1
  else
    (bif ((Dt.I x0 0)==9) then
 k0 (Dt.I x0 0) ((Dt.I x0 0)==9) x0 x1
    else
 k0 (Dt.I x0 0) ((Dt.I x0 0)==10) x0 x1))
def qE m self102:=Bf (CQ m self102)
def aJ:Nat→Dt→Dt→Option Int
  |0,_,_=>none
  | m+1,a0,a1=>
    (bif ((Dt.I a0 0) !=(Dt.I a1 0)) then
    ((gX m (Dt.I a0 0) (Dt.I a1 0)).bind fun r0=>
 some r0)
  else
    qE m (aJ m) a0 a1)
def E8 (m:Nat) (rec3:Q30) (x0:ByteArray) (x1 x2:Int):=
 rec3 x0 x1 (IntKind.wrap .i64 (x2+1))
def E9 m rec3 x0 x1 x2 x3:=
 (bif x3 then
    some true
 else
    E8 m rec3 x0 x1 x2)
def CS (k0:Q79) x0 x1 x2:=
  ((idxS x0 x2).bind fun v0=>
    (bif (decide (v0<33)) then
 k0 x0 x1 x2 true
    else
 ((idxS x0 x2).bind fun v1=>
 (bif (decide (126<v1)) then
 k0 x0 x1 x2 true
 else
 ((idxS x0 x2).bind fun v2=>
 k0 x0 x1 x2 (v2==46))))))
def Fa m rec3:=CS (E9 m rec3)
def Fb (m:Nat):=
 some false
def jY (m:Nat):Nat→ByteArray→Int→Int→Option Bool
 |0,_,_,_=>none
 |  M3+1,x0,x1,x2=>
    (bif (decide (x2<x1)) then
    Fa m (jY m M3) x0 x1 x2
 else
    Fb m)
def Fe m x0 x1 x2:=
 jY m (Nat.succ m) x0 x1 x2
def Fg m x0:=
 Fe m x0 (ByteArray.size x0:Int) 0
def Fh m x0 x1:=
 (bif x1 then
    some true
 else
    Fg m x0)
def MF (k0:Q71) a0:=
    (bif (decide ((ByteArray.size a0:Int)<1)) then
    k0 a0 true
  else
    (bif (decide (32<(ByteArray.size a0:Int))) then
 k0 a0 true
    else
 ((idxS a0 0).bind fun v3=>
 k0 a0 (v3==36))))
def wJ:Nat→ByteArray→Option Bool
 |0,_=>none
 |  m+1,a0=>
    MF (Fh m) a0
def ae8 (m:Nat) (rec1:Q22) (x0:List Dt) (x1 x2:Int):=
 rec1 x0 x1 (IntKind.wrap .i64 (x2+1))
def UY (k0:Q22) m x0 x1 x2:=
  ((idx x0 x2).bind fun v0=>
    ((wJ m (Dt.toStr v0)).bind fun r1=>
 (bif r1 then
 some x2
 else
 k0 x0 x1 x2)))
def ae9 m rec1:=UY (ae8 m rec1) m
def afa (m:Nat):=
 some (-1)
def P8 (m:Nat):Nat→List Dt→Int→Int→Option Int
 |0,_,_,_=>none
 |  M1+1,x0,x1,x2=>
    (bif (decide (x2<x1)) then
    ae9 m (P8 m M1) x0 x1 x2
 else
    afa m)
def afb m x0 x1 x2:=
 P8 m (Nat.succ m) x0 x1 x2
def i127:Nat→List Dt→Option Int
 |0,_=>none
 |  m+1,a0=>
    afb m a0 (List.length a0:Int) 0
def aDf:Nat→List Dt→Option Bool
 |0,_=>none
 |  m+1,a0=>
    ((i127 m a0).bind fun r0=>
    some (decide (0≤r0)))
def pq:Nat→List Dt→Option Bool
  |0,_=>none
  | m+1,a0=>
    (bif (decide (1≤(List.length a0:Int))) then
    (bif (decide ((List.length a0:Int)≤16)) then
 ((aDf m a0).bind fun r0=>
 some (Bool.not r0))
    else
 some false)
  else
    some false)
def fC:Nat→Int→Option Bool
 |0,_=>none
 |  m+1,a0=>
    (bif (decide (0≤a0)) then
    some (decide (a0<65536))
 else
    some false)
def qZ:Nat→Dt→Option Bool
  |0,_=>none
  | m+1,a0=>
    ((fC m (Dt.I a0 0)).bind fun r0=>
    (bif r0 then
 ((fC m (Dt.I a0 1)).bind fun r1=>
 some r1)
    else
 some false))
def GA (m:Nat) (rec3:Q22) (x0:List Dt) (x1 x2:Int):=
 rec3 x0 x1 (IntKind.wrap .i64 (x2+1))
def GD m rec3 x0 x1 x2:=
  ((idx x0 x2).bind fun v0=>
    ((qZ m v0).bind fun r1=>
 (bif (Bool.not r1) then
 some 18
 else
 GA m rec3 x0 x1 x2)))
def GH (m:Nat):Option Int:=
 some 0
def wK (m:Nat):Nat→List Dt→Int→Int→Option Int
 |0,_,_,_=>none
 |  M3+1,x0,x1,x2=>
    (bif (decide (x2<x1)) then
    GD m (wK m M3) x0 x1 x2
 else
    GH m)
def GI m x0 x1 x2:=
 wK m (Nat.succ m) x0 x1 x2
def GJ m x0:=
 GI m (Dt.L x0 1) (List.length (Dt.L x0 1):Int) 0
def Bg m x0 x1:=
 (bif (Bool.not x0) then
    some 18
 else
    GJ m x1)
def aa8 (k0:Q74) m a0:=
    (bif ((Dt.I a0 0)==1) then
    (bif ((List.length (Dt.L a0 1):Int)==2) then
 k0 ((Dt.I a0 2)==0) a0
    else
 k0 false a0)
  else
    (bif ((Dt.I a0 0)==2) then
 (bif ((List.length (Dt.L a0 1):Int)==1) then
 ((fC m (Dt.I a0 2)).bind fun r2=>
 k0 r2 a0)
 else
 k0 false a0)
    else
 (bif ((Dt.I a0 0)==3) then
 (bif (decide (3≤(List.length (Dt.L a0 1):Int))) then
 (bif (decide ((List.length (Dt.L a0 1):Int)≤64)) then
 k0 ((Dt.I a0 2)==0) a0
 else
 k0 false a0)
 else
 k0 false a0)
 else
 k0 false a0)))
def CU:Nat→Dt→Option Int
 |0,_=>none
 |  m+1,a0=>
    aa8 (Bg m) m a0
def gH:Nat→Dt→Option Bool
  |0,_=>none
  | m+1,a0=>
    (bif ((Dt.I a0 0)==0) then
    (bif ((Dt.I a0 1)==0) then
 (bif ((ByteArray.toList (Dt.S a0 2))==[]) then
 (bif ((List.length (Dt.L a0 3):Int)==0) then
 some ((List.length (Dt.L a0 4):Int)==0)
 else
 some false)
 else
 some false)
    else
 some false)
  else
    some false)
def jZ:Nat→Int→Option Bool
  |0,_=>none
  | m+1,a0=>
    (bif (a0==10) then
    some true
  else
    (bif (a0==11) then
 some true
    else
 (bif (a0==12) then
 some true
 else
 some (a0==13))))
def eG:Nat→Dt→Option Bool
  |0,_=>none
  | m+1,a0=>
    (bif ((Dt.I a0 0)==0) then
    (bif ((List.length (Dt.L a0 1):Int)==0) then
 (bif ((ByteArray.toList (Dt.S a0 2))==[]) then
 (bif ((List.length (Dt.L a0 3):Int)==0) then
 ((gH m (Dt.fld a0 4)).bind fun r0=>
 (bif r0 then
 (bif ((Dt.I a0 5)==0) then
 some ((List.length (Dt.L a0 6):Int)==0)
 else
 some false)
 else
 some false))
 else
 some false)
 else
 some false)
    else
 some false)
  else
    some false)
def eH (m:Nat):=
 some false
def Jc m x0:=
 (bif x0 then
    eH m
 else
    some true)
def w9 (k0:(Option Bool)) (k1:Q80) m x0 x1:=
  (bif x0 then
    k0
  else
    (bif ((Dt.I x1 0) !=24) then
 ((eG m (Dt.fld x1 7)).bind fun r5=>
 k1 (Bool.not r5))
    else
 k1 false))
def rR m:=w9 (eH m) (Jc m) m
def xg (k0:(Option Bool)) (k1:Q67) x0 x1:=
  (bif x0 then
    k0
  else
    (bif ((Dt.I x1 0) !=18) then
 (bif ((Dt.I (Dt.fld x1 6) 0) !=0) then
 k1 true x1
 else
 (bif (decide (0<((List.length (Dt.L (Dt.fld x1 6) 1)):Int))) then
 k1 true x1
 else
 k1 ((Dt.I (Dt.fld x1 6) 2) !=0) x1))
    else
 k1 false x1))
def rT m:=xg (eH m) (rR m)
def xk (k0:(Option Bool)) (k1:Q67) x0 x1:=
  (bif x0 then
    k0
  else
    (bif ((Dt.I x1 0) !=12) then
 k1 ((Dt.I x1 5) !=0) x1
    else
 k1 false x1))
def rU m:=xk (eH m) (rT m)
def xq (k0:(Option Bool)) (k1:Q67) m x0 x1:=
  (bif x0 then
    k0
  else
    ((jZ m (Dt.I x1 0)).bind fun r4=>
 (bif (Bool.not r4) then
 k1 ((Dt.I x1 4) !=0) x1
 else
 k1 false x1)))
def rV m:=xq (eH m) (rU m) m
def xu (k0:(Option Bool)) (k1:Q67) m x0 x1:=
  (bif x0 then
    k0
  else
    ((cZ m (Dt.I x1 0)).bind fun r3=>
 (bif (Bool.not r3) then
 k1 (decide (0<(List.length (Dt.L x1 3):Int))) x1
 else
 k1 false x1)))
def rW m:=xu (eH m) (rV m) m
def xw (k0:(Option Bool)) (k1:Q67) m x0 x1:=
  (bif x0 then
    k0
  else
    ((fJ m (Dt.I x1 0)).bind fun r1=>
 (bif (Bool.not r1) then
 ((gH m (Dt.fld x1 2)).bind fun r2=>
 k1 (Bool.not r2) x1)
 else
 k1 false x1)))
def rX m:=xw (eH m) (rW m) m
def CV (k0:Q67) m a0:=
    ((gG m (Dt.I a0 0)).bind fun r0=>
    (bif (Bool.not r0) then
 k0 (decide (0<(List.length (Dt.L a0 1):Int))) a0
    else
 k0 false a0))
def j5:Nat→Dt→Option Bool
 |0,_=>none
 |  m+1,a0=>
    CV (rX m) m a0
def Bh (m:Nat) (self158:Q16) (x0:Dt) (x1 x2:Int):=
 (( self158 x0 x2 x1).bind fun r0=>
    some r0.1)
def Wl (m:Nat) (self159:Q18) (rec1:Q23) (x0:List Dt) (x1 x2 x3 x4:Int):=
 rec1 x0 x1 (IntKind.wrap .i64 (x2+1)) x3 x4
def Wm m (self159:Q18) (rec1:Q23) x0 x1 x2 x3 x4:=
  ((idx x0 x2).bind fun v0=>
    ((self159 v0 x3 x4).bind fun r1=>
 (bif (Bool.not r1.1) then
 some (r1.2.1,r1.2.2)
 else
 Wl m self159 rec1 x0 x1 x2 r1.2.1 r1.2.2)))
def P9 (m:Nat) (self159:Q18):Nat→List Dt→Int→Int→Int→Int→Option (Int×Int)
 |0,_,_,_,_,_=>none
 |  M1+1,x0,x1,x2,x3,x4=>
    (bif (decide (x2<x1)) then
    Wm m self159 (P9 m self159 M1) x0 x1 x2 x3 x4
 else
    some (x3,x4))
def Wn m self159 x0 x1 x2 x3 x4:=
 P9 m self159 (Nat.succ m) x0 x1 x2 x3 x4
def Wo (m:Nat) (self159:Q18) (rec5:Q23) (x0:List Dt) (x1 x2 x3 x4:Int):=
 rec5 x0 x1 (IntKind.wrap .i64 (x2+1)) x3 x4
def OQ (k0:Q23) (self159:Q18) x0 x1 x2 x3 x4:=
  ((idx x0 x2).bind fun v2=>
    ((self159 (Dt.fld v2 1) x3 x4).bind fun r3=>
 (bif (Bool.not r3.1) then
 some (r3.2.1,r3.2.2)
 else
 k0 x0 x1 x2 r3.2.1 r3.2.2)))
def Wp m self159 rec5:=OQ (Wo m self159 rec5) self159
def Qa (m:Nat) (self159:Q18):Nat→List Dt→Int→Int→Int→Int→Option (Int×Int)
 |0,_,_,_,_,_=>none
 |  M5+1,x0,x1,x2,x3,x4=>
    (bif (decide (x2<x1)) then
    Wp m self159 (Qa m self159 M5) x0 x1 x2 x3 x4
 else
    some (x3,x4))
def Wq m self159 x0 x1 x2 x3 x4:=
 Qa m self159 (Nat.succ m) x0 x1 x2 x3 x4
mutual
def vP:Nat→Dt→Int→Option Int
 |0,_,_=>none
 |  m+1,a0,a1=>
    (bif (1==a1) then
    some 1
 else
    Bh m (axE m) a0 a1 1)
def axE:Nat→Dt→Int→Int→Option (Int×Int)
  |0,_,_,_=>none
  | m+1,a0,a1,a2=>
    (bif ((Dt.I a0 0)==6) then
    Wn m (i159 m) (Dt.L a0 3) (List.length (Dt.L a0 3):Int) 0 a1 a2
  else
    (bif ((Dt.I a0 0)==5) then
 Wq m (i159 m) (Dt.L a0 4) (List.length (Dt.L a0 4):Int) 0 a1 a2
    else
 some (a1,a2)))
def i159:Nat→Dt→Int→Int→Option (Bool×Int×Int)
 |0,_,_,_=>none
 |  m+1,a0,a1,a2=>
    ((vP m a0 (IntKind.wrap .i64 (a2-a1))).bind fun r0=>
    some ((decide ((IntKind.wrap .i64 (a1+r0))<a2)),(IntKind.wrap .i64 (a1+r0)),a2))
end
def ru:Nat→Dt→Option Int
 |0,_=>none
 |  m+1,a0=>
    ((vP m a0 1025).bind fun r0=>
    some r0)
def Bj (m:Nat) (self160:Q16) (x0:Dt) (x1:Int):=
 (( self160 x0 0 x1).bind fun r0=>
    some (IntKind.wrap .i64 (1+r0.1)))
def Ws (m:Nat) (self161:Q18) (rec1:Q23) (x0:List Dt) (x1 x2 x3 x4:Int):=
 rec1 x0 x1 (IntKind.wrap .i64 (x2+1)) x3 x4
def Wt m (self161:Q18) (rec1:Q23) x0 x1 x2 x3 x4:=
  ((idx x0 x2).bind fun v0=>
    ((self161 v0 x3 x4).bind fun r1=>
 (bif (Bool.not r1.1) then
 some (r1.2.1,r1.2.2)
 else
 Ws m self161 rec1 x0 x1 x2 r1.2.1 r1.2.2)))
def Qb (m:Nat) (self161:Q18):Nat→List Dt→Int→Int→Int→Int→Option (Int×Int)
 |0,_,_,_,_,_=>none
 |  M1+1,x0,x1,x2,x3,x4=>
    (bif (decide (x2<x1)) then
    Wt m self161 (Qb m self161 M1) x0 x1 x2 x3 x4
 else
    some (x3,x4))
def Wu m self161 x0 x1 x2 x3 x4:=
 Qb m self161 (Nat.succ m) x0 x1 x2 x3 x4
def Wv (m:Nat) (self161:Q18) (rec5:Q23) (x0:List Dt) (x1 x2 x3 x4:Int):=
 rec5 x0 x1 (IntKind.wrap .i64 (x2+1)) x3 x4
def OT (k0:Q23) (self161:Q18) x0 x1 x2 x3 x4:=
  ((idx x0 x2).bind fun v2=>
    ((self161 (Dt.fld v2 1) x3 x4).bind fun r3=>
 (bif (Bool.not r3.1) then
 some (r3.2.1,r3.2.2)
 else
 k0 x0 x1 x2 r3.2.1 r3.2.2)))
def Ww m self161 rec5:=OT (Wv m self161 rec5) self161
def Qc (m:Nat) (self161:Q18):Nat→List Dt→Int→Int→Int→Int→Option (Int×Int)
 |0,_,_,_,_,_=>none
 |  M5+1,x0,x1,x2,x3,x4=>
    (bif (decide (x2<x1)) then
    Ww m self161 (Qc m self161 M5) x0 x1 x2 x3 x4
 else
    some (x3,x4))
def Wx m self161 x0 x1 x2 x3 x4:=
 Qc m self161 (Nat.succ m) x0 x1 x2 x3 x4
mutual
def vQ:Nat→Dt→Int→Option Int
 |0,_,_=>none
 |  m+1,a0,a1=>
    (bif (a1==1) then
    some 1
 else
    Bj m (i160 m) a0 a1)
def i160:Nat→Dt→Int→Int→Option (Int×Int)
  |0,_,_,_=>none
  | m+1,a0,a1,a2=>
    (bif ((Dt.I a0 0)==6) then
    Wu m (GK m) (Dt.L a0 3) (List.length (Dt.L a0 3):Int) 0 a1 a2
  else
    (bif ((Dt.I a0 0)==5) then
 Wx m (GK m) (Dt.L a0 4) (List.length (Dt.L a0 4):Int) 0 a1 a2
    else
 some (a1,a2)))
def GK:Nat→Dt→Int→Int→Option (Bool×Int×Int)
 |0,_,_,_=>none
 |  m+1,a0,a1,a2=>
    ((vQ m a0 (IntKind.wrap .i64 (a2-1))).bind fun r0=>
    some ((decide ((bif (decide (a1<r0)) then r0 else a1)<(IntKind.wrap .i64 (a2-1)))),(bif (decide (a1<r0)) then r0 else a1),a2))
end
def rz:Nat→Dt→Option Int
 |0,_=>none
 |  m+1,a0=>
    ((vQ m a0 17).bind fun r0=>
    some r0)
def rA:Nat→ByteArray→Option Bool
 |0,_=>none
 |  m+1,a0=>
    ((pq m [(Dt.str a0)]).bind fun r0=>
    some r0)
def vR:Nat→Dt→Option Bool
  |0,_=>none
  | m+1,a0=>
    (bif ((Dt.I a0 0)==0) then
    (bif ((Dt.I a0 1)==0) then
 (bif ((ByteArray.toList (Dt.S a0 2))==[]) then
 (bif ((List.length (Dt.L a0 3):Int)==0) then
 some ((List.length (Dt.L a0 4):Int)==0)
 else
 some false)
 else
 some false)
    else
 some false)
  else
    some false)
def uJ (m:Nat) (rec1:Q28) (x0:List Dt) (x1 x2:Int) (x3:List Dt):=
 rec1 x0 x1 (IntKind.wrap .i64 (x2+1)) x3
def uK m rec1 x0 x1 x2 x3 x4:=
 uJ m rec1 x1 x2 x3 (mput x4 x0 (Dt.bool true))
def uL m rec1 x0 x1 x2 x3 x4 x5:=
 (bif x4 then
    some false
 else
    uK m rec1 x0 x1 x2 x3 x5)
def rY (k0:Q81) m x0 x1 x2 x3:=
  ((idx x0 x2).bind fun v0=>
    ((rA m (Dt.toStr v0)).bind fun r1=>
 (bif (Bool.not r1) then
 k0 (Dt.toStr v0) x0 x1 x2 true x3
 else
 k0 (Dt.toStr v0) x0 x1 x2 (Dt.toBool (mgetD x3 (Dt.toStr v0) (Dt.bool false))) x3)))
def uM m rec1:=rY (uL m rec1) m
def uO (m:Nat):=
 some true
def fU (m:Nat):Nat→List Dt→Int→Int→List Dt→Option Bool
 |0,_,_,_,_=>none
 |  M1+1,x0,x1,x2,x3=>
    (bif (decide (x2<x1)) then
    uM m (fU m M1) x0 x1 x2 x3
 else
    uO m)
def Cu m x0 x1 x2 x3:=
 fU m (Nat.succ m) x0 x1 x2 x3
def iV:Nat→List Dt→Option Bool
 |0,_=>none
 |  m+1,a0=>
    Cu m a0 (List.length a0:Int) 0 []
def YC (m:Nat):Option Int:=
 some 2
def UZ (k0:(Option Int)) (x0:Int) (x1:Bool):=
  (bif x1 then
    some 5
  else
    (bif (x0==35) then
 some 6
    else
 (bif (x0==34) then
 some 7
 else
 k0)))
def YD m:=UZ (YC m)
def U0 (k0:Q82) x0 x1:=
  (bif x1 then
    some 4
  else
    (bif (x0==4) then
 k0 x0 (x0==4)
    else
 (bif (x0==6) then
 k0 x0 (x0==6)
 else
 (bif (x0==16) then
 k0 x0 (x0==16)
 else
 (bif (x0==17) then
 k0 x0 (x0==17)
 else
 (bif (x0==21) then
 k0 x0 (x0==21)
 else
 (bif (x0==29) then
 k0 x0 (x0==29)
 else
 k0 x0 (x0==37))))))))
def YE m:=U0 (YD m)
def U1 (k0:Q82) x0 x1:=
  (bif x1 then
    some 3
  else
    (bif (x0==19) then
 k0 x0 (x0==19)
    else
 k0 x0 (x0==25)))
def YF m:=U1 (YE m)
def U2 (k0:Q82) x0 x1:=
  (bif x1 then
    some 1
  else
    (bif (x0==32) then
 k0 x0 (x0==32)
    else
 k0 x0 (x0==33)))
def YG m:=U2 (YF m)
def U3 (k0:Q82) x0 x1:=
  (bif x1 then
    some 0
  else
    (bif (x0==18) then
 k0 x0 (x0==18)
    else
 (bif (x0==22) then
 k0 x0 (x0==22)
 else
 (bif (x0==23) then
 k0 x0 (x0==23)
 else
 (bif (x0==24) then
 k0 x0 (x0==24)
 else
 (bif (x0==26) then
 k0 x0 (x0==26)
 else
 (bif (x0==30) then
 k0 x0 (x0==30)
 else
 (bif (x0==31) then
 k0 x0 (x0==31)
 else
 k0 x0 (x0==36)))))))))
def YH m:=U3 (YG m)
def ajv (k0:Q82) a0:=
    (bif (a0==1) then
    k0 a0 (a0==1)
  else
    (bif (a0==2) then
 k0 a0 (a0==2)
    else
 k0 a0 (a0==3)))
def CX:Nat→Int→Option Int
 |0,_=>none
 |  m+1,a0=>
    ajv (YH m) a0
def QL (m:Nat):=
 some true
def OU (k0:(Option Bool)) (x0 x1:Int) (x2:Bool):=
  (bif x2 then
    some (x0==2)
  else
    (bif (x1==4) then
 some (x0==3)
    else
 (bif (x1==7) then
 some (decide (1≤x0))
 else
 k0)))
def QM m:=OU (QL m)
def YI (k0:Q76) a0 a1:=
    (bif (a0==0) then
    some (a1==0)
  else
    (bif (a0==1) then
 some (a1==1)
    else
 (bif (a0==2) then
 k0 a1 a0 (a0==2)
 else
 k0 a1 a0 (a0==3))))
def Bl:Nat→Int→Int→Option Bool
 |0,_,_=>none
 |  m+1,a0,a1=>
    YI (QM m) a0 a1
def Jd (m:Nat) (rec1:Q19) (x0:Int) (x1:Dt) (x2:List Dt):=
 rec1 (IntKind.wrap .i64 (x0+1)) x1 x2
def Je m rec1 x0 x1 x2:=
  ((idx (Dt.L x1 3) x0).bind fun v0=>
    ((app x2 [v0]).bind fun v1=>
 Jd m rec1 x0 x1 v1))
def Jf (m:Nat) (rec6:Q19) (x0:Int) (x1:Dt) (x2:List Dt):=
 rec6 (IntKind.wrap .i64 (x0+1)) x1 x2
def Jg m rec6 x0 x1 x2:=
  ((idx (Dt.L x1 4) x0).bind fun v2=>
    ((app x2 [(Dt.fld v2 1)]).bind fun v3=>
 Jf m rec6 x0 x1 v3))
def vS (m:Nat) (x0:List Dt):=
 some x0
def nA (m:Nat):Nat→Int→Dt→List Dt→Option (List Dt)
 |0,_,_,_=>none
 |  M6+1,x0,x1,x2=>
    (bif (decide (x0<(List.length (Dt.L x1 4):Int))) then
    Jg m (nA m M6) x0 x1 x2
 else
    vS m x2)
def Jh m x0 x1 x2:=
 nA m (Nat.succ m) x0 x1 x2
def qF m x0 x1:=
 (bif ((Dt.I x0 0)==5) then
    Jh m 0 x0 x1
 else
    vS m x1)
def nC (m:Nat):Nat→Int→Dt→List Dt→Option (List Dt)
 |0,_,_,_=>none
 |  M1+1,x0,x1,x2=>
    (bif (decide (x0<(List.length (Dt.L x1 3):Int))) then
    Je m (nC m M1) x0 x1 x2
 else
    qF m x1 x2)
def Ji m x0 x1 x2:=
 nC m (Nat.succ m) x0 x1 x2
def rF:Nat→Dt→Option (List Dt)
 |0,_=>none
 |  m+1,a0=>
    (bif ((Dt.I a0 0)==6) then
    Ji m 0 a0 []
 else
    qF m a0 [])
def kg (m:Nat) (self139:Q24) (rec3:Q53) (x0:Int) (x1:List Dt) (x2 x3:Int):=
 rec3 x0 x1 x2 (IntKind.wrap .i64 (x3+1))
def ko m (self139:Q24) (rec3:Q53) x0 x1 x2 x3:=
  ((idx x1 x3).bind fun v1=>
    ((self139 v1 (IntKind.wrap .i64 (x0-1))).bind fun r2=>
 kg m self139 rec3 x0 x1 (bif (decide (x2<r2)) then r2 else x2) x3))
def kr (m:Nat) (self139:Q24) (x0:Int):=
 some (IntKind.wrap .i64 (x0+1))
def ku (m:Nat) (self139:Q24):Nat→Int→List Dt→Int→Int→Option Int
 |0,_,_,_,_=>none
 |  M3+1,x0,x1,x2,x3=>
    (bif (decide (x3<(List.length x1:Int))) then
    ko m self139 (ku m self139 M3) x0 x1 x2 x3
 else
    kr m self139 x2)
def kC m self139 x0 x1 x2 x3:=
 ku m self139 (Nat.succ m) x0 x1 x2 x3
def kD m self139 x0 x1:=
 kC m self139 x0 x1 0 0
def kE m self139 x0 x1 x2:=
 (bif x2 then
    some 1
 else
    kD m self139 x0 x1)
def MG (k0:Q83) m a0 a1:=
    ((rF m a0).bind fun r0=>
    (bif (decide (a1<2)) then
 k0 a1 r0 true
    else
 k0 a1 r0 ((List.length r0:Int)==0)))
def bV:Nat→Dt→Int→Option Int
 |0,_,_=>none
 |  m+1,a0,a1=>
    MG (kE m (bV m)) m a0 a1
def rG:Nat→Dt→Option Int
 |0,_=>none
 |  m+1,a0=>
    ((bV m a0 17).bind fun r0=>
    some r0)
def Jj (m:Nat) (self140:Q24) (rec1:Q54) (x0 x1:Int) (x2:List Dt) (x3:Int):=
 rec1 x0 x1 x2 (IntKind.wrap .i64 (x3+1))
def Jk m (self140:Q24) (rec1:Q54) x0 x1 x2 x3:=
  ((idx x2 x3).bind fun v1=>
    ((self140 v1 (IntKind.wrap .i64 (x0-x1))).bind fun r2=>
 Jj m self140 rec1 x0 (IntKind.wrap .i64 (x1+r2)) x2 x3))
def qG (m:Nat) (self140:Q24) (x0:Int):=
 some x0
def qH (m:Nat) (self140:Q24):Nat→Int→Int→List Dt→Int→Option Int
  |0,_,_,_,_=>none
  | M1+1,x0,x1,x2,x3=>
    (bif (decide (x3<(List.length x2:Int))) then
    (bif (decide (x1<x0)) then
 Jk m self140 (qH m self140 M1) x0 x1 x2 x3
    else
 qG m self140 x1)
  else
    qG m self140 x1)
def Bn m self140 x0 x1 x2 x3:=
 qH m self140 (Nat.succ m) x0 x1 x2 x3
def eO:Nat→Dt→Int→Option Int
 |0,_,_=>none
 |  m+1,a0,a1=>
    ((rF m a0).bind fun r0=>
    Bn m (eO m) a1 1 r0 0)
def rH:Nat→Dt→Option Int
 |0,_=>none
 |  m+1,a0=>
    ((eO m a0 1025).bind fun r0=>
    some r0)
def xX (m:Nat) (rec2:Q43) (x0:ByteArray) (x1 x2 x3:Int):=
 rec2 x0 x1 x2 (IntKind.wrap .i64 (x3+1))
def xY m rec2 x0 x1 x2 x3 x4:=
 (bif x4 then
    some false
 else
    xX m rec2 x0 x1 x2 x3)
def vT (k0:Q84) x0 x1 x2 x3:=
  ((idxS x0 (IntKind.wrap .i64 (x1+x3))).bind fun v0=>
    (bif (decide (v0<128)) then
 k0 x0 x1 x2 x3 true
    else
 ((idxS x0 (IntKind.wrap .i64 (x1+x3))).bind fun v1=>
 k0 x0 x1 x2 x3 (decide (191<v1)))))
def xZ m rec2:=vT (xY m rec2)
def yc (m:Nat):=
 some true
def uz (m:Nat):Nat→ByteArray→Int→Int→Int→Option Bool
 |0,_,_,_,_=>none
 |  M2+1,x0,x1,x2,x3=>
    (bif (decide (x3<x2)) then
    xZ m (uz m M2) x0 x1 x2 x3
 else
    yc m)
def yg m x0 x1 x2 x3:=
 uz m (Nat.succ m) x0 x1 x2 x3
def yh m x0 x1 x2:=
 yg m x0 x1 x2 0
def zC:Nat→ByteArray→Int→Int→Option Bool
 |0,_,_,_=>none
 |  m+1,a0,a1,a2=>
    (bif (decide ((ByteArray.size a0:Int)<(IntKind.wrap .i64 (a1+a2)))) then
    some false
 else
    yh m a0 a1 a2)
def MH (m:Nat) (rec1:Q17) (x0:ByteArray) (x1 x2:Int):=
 rec1 x0 (IntKind.wrap .i64 ((IntKind.wrap .i64 (x1+x2))+1))
def MI m rec1 x0 x1 x2 x3:=
 (bif x3 then
    some false
 else
    MH m rec1 x0 x1 x2)
def Jl (k0:Q79) (x0:ByteArray) (x1 x2 x3:Int):=
  (bif (x2==224) then
    ((idxS x0 (IntKind.wrap .i64 (x1+1))).bind fun v2=>
 (bif (decide (v2<160)) then
 k0 x0 x1 x3 true
 else
 (bif (x2==237) then
 ((idxS x0 (IntKind.wrap .i64 (x1+1))).bind fun v3=>
 (bif (decide (159<v3)) then
 k0 x0 x1 x3 true
 else
 (bif (x2==240) then
 ((idxS x0 (IntKind.wrap .i64 (x1+1))).bind fun v4=>
 (bif (decide (v4<144)) then
 k0 x0 x1 x3 true
 else
 (bif (x2==244) then
 ((idxS x0 (IntKind.wrap .i64 (x1+1))).bind fun v5=>
 k0 x0 x1 x3 (decide (143<v5)))
 else
 k0 x0 x1 x3 false)))
 else
 (bif (x2==244) then
 ((idxS x0 (IntKind.wrap .i64 (x1+1))).bind fun v6=>
 k0 x0 x1 x3 (decide (143<v6)))
 else
 k0 x0 x1 x3 false))))
 else
 (bif (x2==240) then
 ((idxS x0 (IntKind.wrap .i64 (x1+1))).bind fun v7=>
 (bif (decide (v7<144)) then
 k0 x0 x1 x3 true
 else
 (bif (x2==244) then
 ((idxS x0 (IntKind.wrap .i64 (x1+1))).bind fun v8=>
 k0 x0 x1 x3 (decide (143<v8)))
 else
 k0 x0 x1 x3 false)))
 else
 (bif (x2==244) then
 ((idxS x0 (IntKind.wrap .i64 (x1+1))).bind fun v9=>
 k0 x0 x1 x3 (decide (143<v9)))
 else
 k0 x0 x1 x3 false)))))
  else
    (bif (x2==237) then
 ((idxS x0 (IntKind.wrap .i64 (x1+1))).bind fun v10=>
 (bif (decide (159<v10)) then
 k0 x0 x1 x3 true
 else
 (bif (x2==240) then
 ((idxS x0 (IntKind.wrap .i64 (x1+1))).bind fun v11=>
 (bif (decide (v11<144)) then
 k0 x0 x1 x3 true
 else
 (bif (x2==244) then
 ((idxS x0 (IntKind.wrap .i64 (x1+1))).bind fun v12=>
 k0 x0 x1 x3 (decide (143<v12)))
 else
 k0 x0 x1 x3 false)))
 else
 (bif (x2==244) then
 ((idxS x0 (IntKind.wrap .i64 (x1+1))).bind fun v13=>
 k0 x0 x1 x3 (decide (143<v13)))
 else
 k0 x0 x1 x3 false))))
    else
 (bif (x2==240) then
 ((idxS x0 (IntKind.wrap .i64 (x1+1))).bind fun v14=>
 (bif (decide (v14<144)) then
 k0 x0 x1 x3 true
 else
 (bif (x2==244) then
 ((idxS x0 (IntKind.wrap .i64 (x1+1))).bind fun v15=>
 k0 x0 x1 x3 (decide (143<v15)))
 else
 k0 x0 x1 x3 false)))
 else
 (bif (x2==244) then
 ((idxS x0 (IntKind.wrap .i64 (x1+1))).bind fun v16=>
 k0 x0 x1 x3 (decide (143<v16)))
 else
 k0 x0 x1 x3 false))))
def DT m rec1:=Jl (MI m rec1)
def pz m rec1 x0 x1 x2 x3:=
  ((zC m x0 (IntKind.wrap .i64 (x1+1)) x3).bind fun r1=>
    (bif (Bool.not r1) then
 some false
    else
 DT m rec1 x0 x1 x2 x3))
def MJ m rec1 x0 x1 x2 x3:=
 (bif x3 then
    pz m rec1 x0 x1 x2 3
 else
    some false)
def Jm (k0:Q43) (k1:Q79) x0 x1 x2 x3:=
  (bif x3 then
    k0 x0 x1 x2 2
  else
    (bif (decide (240≤x2)) then
 k1 x0 x1 x2 (decide (x2≤244))
    else
 k1 x0 x1 x2 false))
def MK m rec1:=Jm (pz m rec1) (MJ m rec1)
def Jo (k0:Q43) (k1:Q79) x0 x1 x2 x3:=
  (bif x3 then
    k0 x0 x1 x2 1
  else
    (bif (decide (224≤x2)) then
 k1 x0 x1 x2 (decide (x2≤239))
    else
 k1 x0 x1 x2 false))
def ML m rec1:=Jo (pz m rec1) (MK m rec1)
def Jp (k0:Q43) (k1:Q79) x0 x1:=
  ((idxS x0 x1).bind fun v0=>
    (bif (decide (v0<128)) then
 k0 x0 x1 v0 0
    else
 (bif (decide (194≤v0)) then
 k1 x0 x1 v0 (decide (v0≤223))
 else
 k1 x0 x1 v0 false)))
def DU m rec1:=Jp (pz m rec1) (ML m rec1)
def Jq (m:Nat):=
 some true
def pF (m:Nat):Nat→ByteArray→Int→Option Bool
 |0,_,_=>none
 |  M1+1,x0,x1=>
    (bif (decide (x1<(ByteArray.size x0:Int))) then
    DU m (pF m M1) x0 x1
 else
    Jq m)
def YJ m x0 x1:=
 pF m (Nat.succ m) x0 x1
def CY:Nat→ByteArray→Option Bool
 |0,_=>none
 |  m+1,a0=>
    YJ m a0 0
def pG (m:Nat) (rec3:Q17) (x0:ByteArray) (x1:Int):=
 rec3 x0 (IntKind.wrap .i64 (x1+1))
def pI m rec3 x0 x1 x2:=
 (bif x2 then
    some false
 else
    pG m rec3 x0 x1)
def nD (k0:Q70) x0 x1:=
  ((idxS x0 x1).bind fun v0=>
    (bif (decide (v0<32)) then
 k0 x0 x1 true
    else
 ((idxS x0 x1).bind fun v1=>
 k0 x0 x1 (decide (126<v1)))))
def pJ m rec3:=nD (pI m rec3)
def pK (m:Nat):=
 some true
def pO (m:Nat):Nat→ByteArray→Int→Option Bool
 |0,_,_=>none
 |  M3+1,x0,x1=>
    (bif (decide (x1<(ByteArray.size x0:Int))) then
    pJ m (pO m M3) x0 x1
 else
    pK m)
def pQ m x0 x1:=
 pO m (Nat.succ m) x0 x1
def pR m x0:=
 pQ m x0 0
def pU m x0 x1:=
 (bif x1 then
    some false
 else
    pR m x0)
def U4 (k0:Q71) a0:=
    (bif (decide ((ByteArray.size a0:Int)<1)) then
    k0 a0 true
 else
    k0 a0 (decide (128<(ByteArray.size a0:Int))))
def zD:Nat→ByteArray→Option Bool
 |0,_=>none
 |  m+1,a0=>
    U4 (pU m) a0
def CZ (m:Nat) (self116 self142:Q7) (rec8:Q25) (x0:Bool) (x1:Int) (x2:Dt):=
 rec8 x0 (IntKind.wrap .i64 (x1+1)) x2
def Fj m (self116 self142:Q7) (rec8:Q25) x0 x1 x2:=
  ((idx (Dt.L x2 3) x1).bind fun v1=>
    ((self116 v1 x0).bind fun r2=>
 (bif (Bool.not r2) then
 some false
 else
 CZ m self116 self142 rec8 x0 x1 x2)))
def C8 (m:Nat) (self116 self142:Q7) (x0:Bool) (x1:Dt):=
 (( self142 x1 x0).bind fun r3=>
    some r3)
def og (m:Nat) (self116:Q7) (self142:Q7):Nat→Bool→Int→Dt→Option Bool
 |0,_,_,_=>none
 |  M8+1,x0,x1,x2=>
    (bif (decide (x1<(List.length (Dt.L x2 3):Int))) then
    Fj m self116 self142 (og m self116 self142 M8) x0 x1 x2
 else
    C8 m self116 self142 x0 x2)
def QN m self116 self142 x0 x1 x2:=
 og m self116 self142 (Nat.succ m) x0 x1 x2
def Fp m self116 self142 x0 x1:=
 QN m self116 self142 x0 0 x1
def C9 (k0:Q67) m x0 x1:=
  (bif ((Dt.I x1 0)==9) then
    (bif ((Dt.I x1 1)==0) then
 some true
    else
 some ((Dt.I x1 1)==1))
  else
    (bif ((Dt.I x1 0)==10) then
 some (decide (0≤(Dt.I x1 1)))
    else
 (bif ((Dt.I x1 0)==4) then
 (bif (decide ((ByteArray.size (Dt.S x1 2):Int)≤4096)) then
 ((CY m (Dt.S x1 2)).bind fun r0=>
 some r0)
 else
 some false)
 else
 (bif ((Dt.I x1 0)==7) then
 some (decide ((ByteArray.size (Dt.S x1 2):Int)≤4096))
 else
 (bif ((Dt.I x1 0)==8) then
 some ((ByteArray.size (Dt.S x1 2):Int)==12)
 else
 k0 x0 x1)))))
def tH m self116 self142:=C9 (Fp m self116 self142) m
def Fq m self116 self142 x0 x1 x2:=
 (bif x1 then
    some false
 else
    tH m self116 self142 x0 x2)
def Da (k0:Q85) x0 x1 x2 x3:=
  (bif (Bool.not x1) then
    (bif (Bool.not ((ByteArray.toList (Dt.S x3 2))==[])) then
 k0 x0 true x3
    else
 (bif (Bool.not x2) then
 (bif ((Dt.I x3 1) !=0) then
 k0 x0 true x3
 else
 (bif (decide ((Dt.I x3 0)<1)) then
 k0 x0 true x3
 else
 k0 x0 (decide (11<(Dt.I x3 0))) x3))
 else
 (bif (decide ((Dt.I x3 0)<1)) then
 k0 x0 true x3
 else
 k0 x0 (decide (11<(Dt.I x3 0))) x3)))
  else
    (bif (Bool.not x2) then
 (bif ((Dt.I x3 1) !=0) then
 k0 x0 true x3
 else
 (bif (decide ((Dt.I x3 0)<1)) then
 k0 x0 true x3
 else
 k0 x0 (decide (11<(Dt.I x3 0))) x3))
    else
 (bif (decide ((Dt.I x3 0)<1)) then
 k0 x0 true x3
 else
 k0 x0 (decide (11<(Dt.I x3 0))) x3)))
def tJ m self116 self142:=Da (Fq m self116 self142)
def Db (k0:Q86) x0 x1 x2:=
  (bif ((Dt.I x2 0)==3) then
    k0 x0 x1 true x2
  else
    (bif ((Dt.I x2 0)==9) then
 k0 x0 x1 true x2
    else
 k0 x0 x1 ((Dt.I x2 0)==10) x2))
def tK m self116 self142:=Db (tJ m self116 self142)
def Dc (k0:Q85) x0 x1:=
  (bif ((Dt.I x1 0)==4) then
    k0 x0 true x1
  else
    (bif ((Dt.I x1 0)==7) then
 k0 x0 true x1
    else
 k0 x0 ((Dt.I x1 0)==8) x1))
def tL m self116 self142:=Dc (tK m self116 self142)
def Fu m self116 self142 x0 x1 x2:=
 (bif x1 then
    some false
 else
    tL m self116 self142 x0 x2)
def oh (m:Nat) (self116:Q7) (rec1:Q25) (rec6:Q55) (x0:Bool) (x1 x2:Int) (x3 x4:Dt):=
 rec6 x0 x1 (IntKind.wrap .i64 (x2+1)) x3 x4
def mM (k0:Q55) x0 x1 x2 x3 x4:=
  ((idx (Dt.L x3 4) x2).bind fun v2=>
    (bif ((ByteArray.toList (Dt.S v2 0))==(ByteArray.toList (Dt.S x4 0))) then
 some false
    else
 k0 x0 x1 x2 x3 x4))
def om m self116 rec1 rec6:=mM (oh m self116 rec1 rec6)
def oo (m:Nat) (self116:Q7) (rec1:Q25) (x0:Bool) (x1:Int) (x2:Dt):=
 rec1 x0 (IntKind.wrap .i64 (x1+1)) x2
def kF (m:Nat) (self116:Q7) (rec1:Q25):Nat→Bool→Int→Int→Dt→Dt→Option Bool
 |0,_,_,_,_,_=>none
 |  M6+1,x0,x1,x2,x3,x4=>
    (bif (decide (x2<x1)) then
    om m self116 rec1 (kF m self116 rec1 M6) x0 x1 x2 x3 x4
 else
    oo m self116 rec1 x0 x1 x3)
def oq m self116 rec1 x0 x1 x2 x3 x4:=
 kF m self116 rec1 (Nat.succ m) x0 x1 x2 x3 x4
def ou m self116 rec1 x0 x1 x2 x3:=
 oq m self116 rec1 x0 x1 0 x2 x3
def ow m self116 rec1 x0 x1 x2 x3 x4:=
 (bif x2 then
    some false
 else
    ou m self116 rec1 x0 x1 x3 x4)
def mO (k0:Q87) m (self116:Q7) x0 x1 x2:=
  ((idx (Dt.L x2 4) x1).bind fun v0=>
    (bif x0 then
 ((eF m (Dt.S v0 0)).bind fun r1=>
 (bif (Bool.not r1) then
 k0 x0 x1 true x2 v0
 else
 (bif (Bool.not x0) then
 ((zD m (Dt.S v0 0)).bind fun r3=>
 (bif (Bool.not r3) then
 k0 x0 x1 true x2 v0
 else
 ((self116 (Dt.fld v0 1) x0).bind fun r4=>
 k0 x0 x1 (Bool.not r4) x2 v0)))
 else
 ((self116 (Dt.fld v0 1) x0).bind fun r5=>
 k0 x0 x1 (Bool.not r5) x2 v0))))
    else
 (bif (Bool.not x0) then
 ((zD m (Dt.S v0 0)).bind fun r6=>
 (bif (Bool.not r6) then
 k0 x0 x1 true x2 v0
 else
 ((self116 (Dt.fld v0 1) x0).bind fun r7=>
 k0 x0 x1 (Bool.not r7) x2 v0)))
 else
 ((self116 (Dt.fld v0 1) x0).bind fun r8=>
 k0 x0 x1 (Bool.not r8) x2 v0))))
def oz m self116 rec1:=mO (ow m self116 rec1) m self116
def mP (m:Nat) (self116:Q7):=
 some true
def iH (m:Nat) (self116:Q7):Nat→Bool→Int→Dt→Option Bool
 |0,_,_,_=>none
 |  M1+1,x0,x1,x2=>
    (bif (decide (x1<(List.length (Dt.L x2 4):Int))) then
    oz m self116 (iH m self116 M1) x0 x1 x2
 else
    mP m self116)
def kG m self116 x0 x1 x2:=
 iH m self116 (Nat.succ m) x0 x1 x2
def MN (k0:Q85) a0 a1:=
    (bif ((Dt.I a0 0) !=6) then
    (bif (decide (0<(List.length (Dt.L a0 3):Int))) then
 k0 a1 true a0
    else
 (bif ((Dt.I a0 0) !=5) then
 k0 a1 (decide (0<(List.length (Dt.L a0 4):Int))) a0
 else
 k0 a1 false a0))
  else
    (bif ((Dt.I a0 0) !=5) then
 k0 a1 (decide (0<(List.length (Dt.L a0 4):Int))) a0
    else
 k0 a1 false a0))
mutual
def aB:Nat→Dt→Bool→Option Bool
 |0,_,_=>none
 |  m+1,a0,a1=>
    MN (Fu m (aB m) (bf m)) a0 a1
def bf:Nat→Dt→Bool→Option Bool
 |0,_,_=>none
 |  m+1,a0,a1=>
    kG m (aB m) a1 0 a0
end
def dJ:Nat→Dt→Option Bool
  |0,_=>none
  | m+1,a0=>
    ((rG m a0).bind fun r0=>
    (bif (decide (r0≤16)) then
 ((rH m a0).bind fun r1=>
 (bif (decide (r1≤1024)) then
 ((aB m a0 true).bind fun r2=>
 some r2)
 else
 some false))
    else
 some false))
def Jr (m:Nat) (rec1:Q27) (rec5:Q39) (x0:List Dt) (x1 x2:Int):=
 rec5 x0 x1 (IntKind.wrap .i64 (x2+1))
def Fv (k0:Q39) x0 x1 x2:=
  ((idx x0 x2).bind fun v2=>
    ((idx x0 x1).bind fun v3=>
 (bif ((ByteArray.toList (Dt.toStr v2))==(ByteArray.toList (Dt.toStr v3))) then
 some false
 else
 k0 x0 x1 x2)))
def Js m rec1 rec5:=Fv (Jr m rec1 rec5)
def Jt (m:Nat) (rec1:Q27) (x0:List Dt) (x1:Int):=
 rec1 x0 (IntKind.wrap .i64 (x1+1))
def qI (m:Nat) (rec1:Q27):Nat→List Dt→Int→Int→Option Bool
 |0,_,_,_=>none
 |  M5+1,x0,x1,x2=>
    (bif (decide (x2<x1)) then
    Js m rec1 (qI m rec1 M5) x0 x1 x2
 else
    Jt m rec1 x0 x1)
def Ju m rec1 x0 x1 x2:=
 qI m rec1 (Nat.succ m) x0 x1 x2
def Jv m rec1 x0 x1:=
 Ju m rec1 x0 x1 0
def Jw m rec1 x0 x1:=
  ((idx x0 x1).bind fun v0=>
    ((eF m (Dt.toStr v0)).bind fun r1=>
 (bif (Bool.not r1) then
 some false
 else
 Jv m rec1 x0 x1)))
def Jy (m:Nat):=
 some true
def nE (m:Nat):Nat→List Dt→Int→Option Bool
 |0,_,_=>none
 |  M1+1,x0,x1=>
    (bif (decide (x1<(List.length x0:Int))) then
    Jw m (nE m M1) x0 x1
 else
    Jy m)
def U5 m x0 x1:=
 nE m (Nat.succ m) x0 x1
def zX:Nat→List Dt→Option Bool
 |0,_=>none
 |  m+1,a0=>
    U5 m a0 0
def YK (m:Nat):Option Int:=
 some 2
def YL m x0:=
 (bif x0 then
    some (-1)
 else
    YK m)
def U6 (k0:Q73) (x0:Int) (x1:Bool):=
  (bif x1 then
    some 3
  else
    (bif (x0==4) then
 k0 (x0==4)
    else
 (bif (x0==6) then
 k0 (x0==6)
 else
 (bif (x0==16) then
 k0 (x0==16)
 else
 (bif (x0==17) then
 k0 (x0==17)
 else
 (bif (x0==21) then
 k0 (x0==21)
 else
 (bif (x0==29) then
 k0 (x0==29)
 else
 (bif (x0==37) then
 k0 (x0==37)
 else
 (bif (x0==35) then
 k0 (x0==35)
 else
 k0 (x0==34))))))))))
def YM m:=U6 (YL m)
def U7 (k0:Q82) x0 x1:=
  (bif x1 then
    some 1
  else
    (bif (x0==19) then
 k0 x0 (x0==19)
    else
 k0 x0 (x0==25)))
def YN m:=U7 (YM m)
def U8 (k0:Q82) x0 x1:=
  (bif x1 then
    some 0
  else
    (bif (x0==18) then
 k0 x0 (x0==18)
    else
 (bif (x0==22) then
 k0 x0 (x0==22)
 else
 (bif (x0==23) then
 k0 x0 (x0==23)
 else
 (bif (x0==24) then
 k0 x0 (x0==24)
 else
 (bif (x0==26) then
 k0 x0 (x0==26)
 else
 (bif (x0==30) then
 k0 x0 (x0==30)
 else
 (bif (x0==31) then
 k0 x0 (x0==31)
 else
 k0 x0 (x0==36)))))))))
def YO m:=U8 (YN m)
def ajw (k0:Q82) a0:=
    (bif (a0==1) then
    k0 a0 (a0==1)
  else
    (bif (a0==2) then
 k0 a0 (a0==2)
    else
 k0 a0 (a0==3)))
def Df:Nat→Int→Option Int
 |0,_=>none
 |  m+1,a0=>
    ajw (YO m) a0
def Jz (m:Nat):Option Int:=
 some 0
def MO m x0:=
 (bif x0 then
    some 4
 else
    Jz m)
def JA (k0:Q73) m x0 x1:=
  (bif ((Dt.I x1 0) !=2) then
    (bif ((Dt.I x1 0) !=3) then
 (bif (decide (0<(List.length (Dt.L x1 1):Int))) then
 k0 true
 else
 (bif (Bool.not x0) then
 (bif (Bool.not ((ByteArray.toList (Dt.S x1 2))==[])) then
 k0 true
 else
 (bif ((Dt.I x1 0) !=34) then
 (bif (decide (0<(List.length (Dt.L x1 3):Int))) then
 k0 true
 else
 (bif ((Dt.I x1 0) !=1) then
 ((aC m (Dt.fld x1 4) uQ).bind fun r3=>
 (bif (Bool.not r3) then
 k0 true
 else
 k0 ((Dt.I x1 5) !=0)))
 else
 k0 ((Dt.I x1 5) !=0)))
 else
 (bif ((Dt.I x1 0) !=1) then
 ((aC m (Dt.fld x1 4) uQ).bind fun r4=>
 (bif (Bool.not r4) then
 k0 true
 else
 k0 ((Dt.I x1 5) !=0)))
 else
 k0 ((Dt.I x1 5) !=0))))
 else
 (bif ((Dt.I x1 0) !=34) then
 (bif (decide (0<(List.length (Dt.L x1 3):Int))) then
 k0 true
 else
 (bif ((Dt.I x1 0) !=1) then
 ((aC m (Dt.fld x1 4) uQ).bind fun r5=>
 (bif (Bool.not r5) then
 k0 true
 else
 k0 ((Dt.I x1 5) !=0)))
 else
 k0 ((Dt.I x1 5) !=0)))
 else
 (bif ((Dt.I x1 0) !=1) then
 ((aC m (Dt.fld x1 4) uQ).bind fun r6=>
 (bif (Bool.not r6) then
 k0 true
 else
 k0 ((Dt.I x1 5) !=0)))
 else
 k0 ((Dt.I x1 5) !=0)))))
    else
 (bif (Bool.not x0) then
 (bif (Bool.not ((ByteArray.toList (Dt.S x1 2))==[])) then
 k0 true
 else
 (bif ((Dt.I x1 0) !=34) then
 (bif (decide (0<(List.length (Dt.L x1 3):Int))) then
 k0 true
 else
 (bif ((Dt.I x1 0) !=1) then
 ((aC m (Dt.fld x1 4) uQ).bind fun r7=>
 (bif (Bool.not r7) then
 k0 true
 else
 k0 ((Dt.I x1 5) !=0)))
 else
 k0 ((Dt.I x1 5) !=0)))
 else
 (bif ((Dt.I x1 0) !=1) then
 ((aC m (Dt.fld x1 4) uQ).bind fun r8=>
 (bif (Bool.not r8) then
 k0 true
 else
 k0 ((Dt.I x1 5) !=0)))
 else
 k0 ((Dt.I x1 5) !=0))))
 else
 (bif ((Dt.I x1 0) !=34) then
 (bif (decide (0<(List.length (Dt.L x1 3):Int))) then
 k0 true
 else
 (bif ((Dt.I x1 0) !=1) then
 ((aC m (Dt.fld x1 4) uQ).bind fun r9=>
 (bif (Bool.not r9) then
 k0 true
 else
 k0 ((Dt.I x1 5) !=0)))
 else
 k0 ((Dt.I x1 5) !=0)))
 else
 (bif ((Dt.I x1 0) !=1) then
 ((aC m (Dt.fld x1 4) uQ).bind fun r10=>
 (bif (Bool.not r10) then
 k0 true
 else
 k0 ((Dt.I x1 5) !=0)))
 else
 k0 ((Dt.I x1 5) !=0)))))
  else
    (bif (Bool.not x0) then
 (bif (Bool.not ((ByteArray.toList (Dt.S x1 2))==[])) then
 k0 true
 else
 (bif ((Dt.I x1 0) !=34) then
 (bif (decide (0<(List.length (Dt.L x1 3):Int))) then
 k0 true
 else
 (bif ((Dt.I x1 0) !=1) then
 ((aC m (Dt.fld x1 4) uQ).bind fun r11=>
 (bif (Bool.not r11) then
 k0 true
 else
 k0 ((Dt.I x1 5) !=0)))
 else
 k0 ((Dt.I x1 5) !=0)))
 else
 (bif ((Dt.I x1 0) !=1) then
 ((aC m (Dt.fld x1 4) uQ).bind fun r12=>
 (bif (Bool.not r12) then
 k0 true
 else
 k0 ((Dt.I x1 5) !=0)))
 else
 k0 ((Dt.I x1 5) !=0))))
    else
 (bif ((Dt.I x1 0) !=34) then
 (bif (decide (0<(List.length (Dt.L x1 3):Int))) then
 k0 true
 else
 (bif ((Dt.I x1 0) !=1) then
 ((aC m (Dt.fld x1 4) uQ).bind fun r13=>
 (bif (Bool.not r13) then
 k0 true
 else
 k0 ((Dt.I x1 5) !=0)))
 else
 k0 ((Dt.I x1 5) !=0)))
 else
 (bif ((Dt.I x1 0) !=1) then
 ((aC m (Dt.fld x1 4) uQ).bind fun r14=>
 (bif (Bool.not r14) then
 k0 true
 else
 k0 ((Dt.I x1 5) !=0)))
 else
 k0 ((Dt.I x1 5) !=0)))))
def DV m:=JA (MO m) m
def MP m x0 x1 x2:=
 (bif x1 then
    some 8
 else
    DV m x0 x2)
def JB (k0:Q88) m x0 x1:=
  (bif ((Dt.I x1 0)==1) then
    ((dJ m (Dt.fld x1 4)).bind fun r2=>
 k0 x0 (Bool.not r2) x1)
  else
    k0 x0 false x1)
def DW m:=JB (MP m) m
def MQ m x0 x1 x2:=
 (bif x1 then
    some 9
 else
    DW m x0 x2)
def JC (k0:Q88) m x0 x1:=
  (bif x0 then
    ((eF m (Dt.S x1 2)).bind fun r1=>
 (bif (Bool.not r1) then
 k0 x0 true x1
 else
 (bif ((Dt.I x1 0)==34) then
 ((zX m (Dt.L x1 3)).bind fun r15=>
 k0 x0 (Bool.not r15) x1)
 else
 k0 x0 false x1)))
  else
    (bif ((Dt.I x1 0)==34) then
 ((zX m (Dt.L x1 3)).bind fun r16=>
 k0 x0 (Bool.not r16) x1)
    else
 k0 x0 false x1))
def DX m:=JC (MQ m) m
def JD (k0:Q74) x0:=
  (bif ((Dt.I x0 0)==3) then
    k0 true x0
  else
    (bif ((Dt.I x0 0)==32) then
 k0 true x0
    else
 k0 ((Dt.I x0 0)==33) x0))
def MR m:=JD (DX m)
def MS m x0 x1:=
 (bif x0 then
    some 10
 else
    MR m x1)
def JE (k0:Q74) m x0:=
  (bif ((Dt.I x0 0)==2) then
    ((bG m (Dt.L x0 1)).bind fun r0=>
 (bif (Bool.not r0) then
 k0 true x0
 else
 (bif ((Dt.I x0 0)==3) then
 (bif (decide (0<(List.length (Dt.L x0 1):Int))) then
 ((bG m (Dt.L x0 1)).bind fun r17=>
 k0 (Bool.not r17) x0)
 else
 k0 false x0)
 else
 k0 false x0)))
  else
    (bif ((Dt.I x0 0)==3) then
 (bif (decide (0<(List.length (Dt.L x0 1):Int))) then
 ((bG m (Dt.L x0 1)).bind fun r18=>
 k0 (Bool.not r18) x0)
 else
 k0 false x0)
    else
 k0 false x0))
def DY m:=JE (MS m) m
def MU m x0 x1:=
 (bif x0 then
    some 11
 else
    DY m x1)
def U9 (k0:Q74) m a0:=
    (bif (decide ((Dt.I a0 0)<1)) then
    k0 true a0
  else
    (bif (decide (37<(Dt.I a0 0))) then
 k0 true a0
    else
 ((Df m (Dt.I a0 0)).bind fun r19=>
 (bif (decide (0≤r19)) then
 ((Df m (Dt.I a0 0)).bind fun r20=>
 (bif ((List.length (Dt.L a0 6):Int) !=r20) then
 k0 true a0
 else
 (bif ((Dt.I a0 0)==34) then
 (bif ((List.length (Dt.L a0 6):Int) !=(List.length (Dt.L a0 3):Int)) then
 k0 true a0
 else
 k0 ((List.length (Dt.L a0 6):Int)==0) a0)
 else
 k0 false a0)))
 else
 (bif ((Dt.I a0 0)==34) then
 (bif ((List.length (Dt.L a0 6):Int) !=(List.length (Dt.L a0 3):Int)) then
 k0 true a0
 else
 k0 ((List.length (Dt.L a0 6):Int)==0) a0)
 else
 k0 false a0)))))
def zF:Nat→Dt→Option Int
 |0,_=>none
 |  m+1,a0=>
    U9 (MU m) m a0
def JF (m:Nat) (self122:Q16) (rec4:Q44) (x0 x1 x2:Int) (x3:Dt):=
 rec4 x0 x1 (IntKind.wrap .i64 (x2+1)) x3
def Bo m self122 rec4 x0 x1 x2 x3:=
 JF m self122 rec4 x2 x0 x1 x3
def Fw (k0:Q44) (self122:Q16) x0 x1 x2 x3:=
  ((idx (Dt.L x3 6) x2).bind fun v1=>
    ((self122 v1 (IntKind.wrap .i64 (x0+1)) (IntKind.wrap .i64 (x1+1))).bind fun r2=>
 (bif (r2.2 !=0) then
 some (r2.1,r2.2)
 else
 k0 x1 x2 r2.1 x3)))
def JG m self122 rec4:=Fw (Bo m self122 rec4) self122
def Va (m:Nat) (self122:Q16) (x0:Int):Option (Int×Int):=
 some (x0,0)
def nG (m:Nat) (self122:Q16):Nat→Int→Int→Int→Dt→Option (Int×Int)
 |0,_,_,_,_=>none
 |  M4+1,x0,x1,x2,x3=>
    (bif (decide (x2<(List.length (Dt.L x3 6):Int))) then
    JG m self122 (nG m self122 M4) x0 x1 x2 x3
 else
    Va m self122 x0)
def JH m self122 x0 x1 x2 x3:=
 nG m self122 (Nat.succ m) x0 x1 x2 x3
def JJ m self122 x0 x1 x2:=
 JH m self122 x0 x1 0 x2
def JK m self122 x0 x1 x2:=
  ((zF m x2).bind fun r0=>
    (bif (r0 !=0) then
 some (x0,r0)
    else
 JJ m self122 x0 x1 x2))
def Bp m self122 x0 x1 x2 x3:=
 (bif x2 then
    some (x0,2)
 else
    JK m self122 x0 x1 x3)
def bS:Nat→Dt→Int→Int→Option (Int×Int)
 |0,_,_,_=>none
 |  m+1,a0,a1,a2=>
    (bif (decide (16<a2)) then
    Bp m (bS m) a1 a2 true a0
 else
    Bp m (bS m) a1 a2 (decide (256<a1)) a0)
def aV:Nat→Dt→Option Int
 |0,_=>none
 |  m+1,a0=>
    ((bS m a0 1 1).bind fun r0=>
    some r0.2)
def DZ (m:Nat) (self47:Q12) (rec7:Q36) (x0:Bool) (x1:Int) (x2:Dt):=
 rec7 x0 (IntKind.wrap .i64 (x1+1)) x2
def D5 m self47 rec7 x0 x1 x2:=
  ((idx (Dt.L x2 3) x1).bind fun v5=>
    ((dJ m v5).bind fun r6=>
 (bif (Bool.not r6) then
 some 8
 else
 DZ m self47 rec7 x0 x1 x2)))
def Bq (m:Nat) (self47:Q12) (rec15:Q36) (x0:Bool) (x1:Int) (x2:Dt):=
 rec15 x0 (IntKind.wrap .i64 (x1+1)) x2
def qJ m self47 rec15 x0 x1 x2 x3:=
 (bif (x2 !=0) then
    some x2
 else
    Bq m self47 rec15 x0 x1 x3)
def yI (k0:Q89) (self47:Q12) x0 x1 x2:=
  ((idx (Dt.L x2 8) x1).bind fun v10=>
    (bif x0 then
 ((self47 v10 true).bind fun r11=>
 k0 x0 x1 r11 x2)
    else
 ((self47 v10 ((Dt.I x2 0)==15)).bind fun r12=>
 k0 x0 x1 r12 x2)))
def Br m self47 rec15:=yI (qJ m self47 rec15) self47
def Vb (m:Nat) (self47:Q12):Option Int:=
 some 0
def gu (m:Nat) (self47:Q12):Nat→Bool→Int→Dt→Option Int
 |0,_,_,_=>none
 |  M15+1,x0,x1,x2=>
    (bif (decide (x1<(List.length (Dt.L x2 8):Int))) then
    Br m self47 (gu m self47 M15) x0 x1 x2
 else
    Vb m self47)
def Vd m self47 x0 x1 x2:=
 gu m self47 (Nat.succ m) x0 x1 x2
def ref13_node_j13 m self47 x0 x1:=
 Vd m self47 x0 0 x1
def vU m self47 x0 x1:=
  (bif ((Dt.I x1 0)==24) then
    ((aV m (Dt.fld x1 7)).bind fun r9=>
 some r9)
  else
    ref13_node_j13 m self47 x0 x1)
def qK m self47 x0 x1:=
  ((l5 m x1).bind fun r8=>
    (bif (Bool.not r8) then
 some 4
    else
 vU m self47 x0 x1))
def yJ (k0:Q74) m x0 x1:=
  (bif ((Dt.I x1 0)==18) then
    ((iG m (Dt.fld x1 6)).bind fun r7=>
 (bif (r7 !=0) then
 some r7
 else
 k0 x0 x1))
  else
    k0 x0 x1)
def nH m self47:=yJ (qK m self47) m
def Bt (k0:Q36) (k1:Q74) m x0 x1 x2:=
    (bif (decide (x1<(List.length (Dt.L x2 3):Int))) then
    ((bX m (Dt.I x2 0)).bind fun r4=>
 (bif r4 then
 k0 x0 x1 x2
 else
 k1 x0 x2))
  else
    k1 x0 x2)
def mF (m:Nat) (self47:Q12):Nat→Bool→Int→Dt→Option Int
 |0,_,_,_=>none
 |  M7+1,x0,x1,x2=>
    Bt (D5 m self47 (mF m self47 M7)) (nH m self47) m x0 x1 x2
def YP m self47 x0 x1 x2:=
 mF m self47 (Nat.succ m) x0 x1 x2
def MV m self47 x0 x1:=
 YP m self47 x0 0 x1
def yj m self47 x0 x1 x2:=
 (bif x1 then
    some 8
 else
    MV m self47 x0 x2)
def Bu (k0:Q88) m x0 x1:=
  ((gP m (Dt.I x1 0)).bind fun r2=>
    (bif r2 then
 ((dJ m (Dt.fld x1 2)).bind fun r3=>
 (bif (Bool.not r3) then
 k0 x0 true x1
 else
 ((fZ m (Dt.I x1 0)).bind fun r13=>
 (bif r13 then
 k0 x0 ((Dt.I (Dt.fld x1 2) 0) !=4) x1
 else
 k0 x0 false x1))))
    else
 k0 x0 false x1))
def uD m self47:=Bu (yj m self47) m
def yt m self47 x0 x1 x2:=
 (bif x1 then
    some 10
 else
    uD m self47 x0 x2)
def Bv (k0:Q88) m x0 x1:=
  ((iY m (Dt.I x1 0)).bind fun r0=>
    (bif r0 then
 ((bG m (Dt.L x1 1)).bind fun r1=>
 (bif (Bool.not r1) then
 (bif x0 then
 k0 x0 (Bool.not ((List.length (Dt.L x1 1):Int)==0)) x1
 else
 k0 x0 true x1)
 else
 k0 x0 false x1))
    else
 k0 x0 false x1))
def yu m self47:=Bv (yt m self47) m
def uE m self47 x0 x1 x2:=
 (bif x1 then
    some 11
 else
    yu m self47 x0 x2)
def K7 (k0:Q88) m a0 a1:=
    (bif (decide ((Dt.I a0 0)<1)) then
    k0 a1 true a0
  else
    (bif (decide (24<(Dt.I a0 0))) then
 k0 a1 true a0
    else
 ((vo m a0).bind fun r14=>
 (bif (Bool.not r14) then
 k0 a1 true a0
 else
 ((bX m (Dt.I a0 0)).bind fun r15=>
 (bif r15 then
 (bif ((List.length (Dt.L a0 3):Int)==0) then
 k0 a1 true a0
 else
 ((iZ m a0).bind fun r16=>
 k0 a1 (Bool.not r16) a0))
 else
 ((iZ m a0).bind fun r17=>
 k0 a1 (Bool.not r17) a0)))))))
def aN:Nat→Dt→Bool→Option Int
 |0,_,_=>none
 |  m+1,a0,a1=>
    K7 (uE m (aN m)) m a0 a1
def vV m x0:=
 (( aN m x0 false).bind fun r1=>
    some r1)
def mG:Nat→Dt→Option Int
  |0,_=>none
  | m+1,a0=>
    ((bF m a0 16 256).bind fun r0=>
    (bif (decide (r0<0)) then
 some 2
    else
 vV m a0))
def JL (m:Nat) (rec1:Q59) (x0:List Dt) (x1:Int) (x2:Dt):=
 rec1 x0 (IntKind.wrap .i64 (x1+1)) x2
def vW (m:Nat) (x0:List Dt) (x1:Int) (x2 x3:Dt):=
 (( cutL x0 x1 (List.length x0:Int)).bind fun v12=>
    some (x3,v12))
def Fx (k0:Q58) m x0 x1 x2 x3:=
  ((oH m x0 x1 2).bind fun r10=>
    (bif r10 then
 ((idx x0 x1).bind fun v11=>
 k0 x0 (IntKind.wrap .i64 (x1+1)) x2 (Dt.agg [(Dt.fld x3 0),(Dt.lst (Dt.L x3 1)),(Dt.int (Dt.I x3 2)),(Dt.int (Dt.I x3 3)),(Dt.fld v11 2),(Dt.str (Dt.S x3 5))]))
    else
 k0 x0 x1 x2 x3))
def Bw m:=Fx (vW m) m
def Fy (k0:Q58) m x0 x1 x2 x3:=
  ((oH m x0 x1 6).bind fun r8=>
    (bif r8 then
 ((idx x0 x1).bind fun v9=>
 k0 x0 (IntKind.wrap .i64 (x1+1)) x2 (Dt.agg [(Dt.fld x3 0),(Dt.lst (Dt.L x3 1)),(Dt.int (Dt.I x3 2)),(Dt.int (Dt.I v9 5)),(Dt.fld x3 4),(Dt.str (Dt.S x3 5))]))
    else
 k0 x0 x1 x2 x3))
def Bz m:=Fy (Bw m) m
def Fz (k0:Q58) m x0 x1 x2 x3:=
  ((oH m x0 x1 5).bind fun r6=>
    (bif r6 then
 ((idx x0 x1).bind fun v7=>
 k0 x0 (IntKind.wrap .i64 (x1+1)) x2 (Dt.agg [(Dt.fld x3 0),(Dt.lst (Dt.L x3 1)),(Dt.int (Dt.I v7 5)),(Dt.int (Dt.I x3 3)),(Dt.fld x3 4),(Dt.str (Dt.S x3 5))]))
    else
 k0 x0 x1 x2 x3))
def BD m:=Fz (Bz m) m
def FB (k0:Q58) m x0 x1 x2:=
  ((u7 m x0 x1).bind fun r3=>
    ((oH m x0 x1 4).bind fun r4=>
 (bif r4 then
 ((idx x0 x1).bind fun v5=>
 k0 x0 (IntKind.wrap .i64 (x1+1)) x2 (Dt.agg [r3,(Dt.lst (Dt.L v5 4)),(Dt.int 0),(Dt.int 0),Wi,(Dt.str (ByteArray.mk (List.toArray [])))]))
 else
 k0 x0 x1 x2 (Dt.agg [r3,(Dt.lst []),(Dt.int 0),(Dt.int 0),Wi,(Dt.str (ByteArray.mk (List.toArray [])))]))))
def BF m:=FB (BD m) m
def FC (k0 k1:Q59) m x0 x1 x2:=
    ((oH m x0 x1 1).bind fun r0=>
    (bif r0 then
 ((u7 m x0 (IntKind.wrap .i64 (x1+1))).bind fun r1=>
 ((mG m r1).bind fun r2=>
 (bif (r2==0) then
 k0 x0 x1 x2
 else
 k1 x0 x1 x2)))
    else
 k1 x0 x1 x2))
def qL (m:Nat):Nat→List Dt→Int→Dt→Option (Dt×List Dt)
 |0,_,_,_=>none
 |  M1+1,x0,x1,x2=>
    FC (JL m (qL m M1)) (BF m) m x0 x1 x2
def JM m x0 x1 x2:=
 qL m (Nat.succ m) x0 x1 x2
def vX:Nat→List Dt→Option (Dt×List Dt)
 |0,_=>none
 |  m+1,a0=>
    JM m a0 0 Wj
def JN (m:Nat) (rec2:Q26) (rec7:Q40) (x0:List Dt) (x1 x2:Int) (x3:Dt):=
 rec7 x0 x1 (IntKind.wrap .i64 (x2+1)) x3
def FD (k0:Q40) m x0 x1 x2 x3:=
  ((idx x0 x2).bind fun v3=>
    ((idx x0 x1).bind fun v4=>
 ((gM m (Dt.toLst v3) (Dt.toLst v4)).bind fun r5=>
 (bif r5 then
 some 12
 else
 k0 x0 x1 x2 x3))))
def JO m rec2 rec7:=FD (JN m rec2 rec7) m
def yK (m:Nat) (rec2:Q26) (x0:List Dt) (x1:Int) (x2:Dt):=
 rec2 x0 (IntKind.wrap .i64 (x1+1)) x2
def Dg (k0:Q26) m x0 x1 x2 x3:=
  (bif (decide (0≤x2)) then
    ((idx (Dt.L x3 4) x2).bind fun v7=>
 ((aV m (Dt.fld v7 1)).bind fun r8=>
 (bif (r8 !=0) then
 some r8
 else
 k0 x0 x1 x3)))
  else
    k0 x0 x1 x3)
def FH m rec2:=Dg (yK m rec2) m
def yL m rec2 x0 x1 x2 x3 x4:=
 (bif x3 then
    some 1
 else
    FH m rec2 x0 x1 x2 x4)
def Dh (k0:Q90) x0 x1 x2:=
  (bif (decide (0≤(IntKind.wrap .i64 (x1-(List.length (Dt.L x2 1):Int))))) then
    (bif (decide ((IntKind.wrap .i64 ((IntKind.wrap .i64 (x1-(List.length (Dt.L x2 1):Int)))-(List.length (Dt.L x2 3):Int)))<0)) then
 ((idx (Dt.L x2 3) (IntKind.wrap .i64 (x1-(List.length (Dt.L x2 1):Int)))).bind fun v6=>
 k0 x0 x1 (IntKind.wrap .i64 ((IntKind.wrap .i64 (x1-(List.length (Dt.L x2 1):Int)))-(List.length (Dt.L x2 3):Int))) (decide ((Dt.I v6 2)<0)) x2)
    else
 k0 x0 x1 (IntKind.wrap .i64 ((IntKind.wrap .i64 (x1-(List.length (Dt.L x2 1):Int)))-(List.length (Dt.L x2 3):Int))) false x2)
  else
    k0 x0 x1 (IntKind.wrap .i64 ((IntKind.wrap .i64 (x1-(List.length (Dt.L x2 1):Int)))-(List.length (Dt.L x2 3):Int))) false x2)
def tN m rec2:=Dh (yL m rec2)
def qM (m:Nat) (rec2:Q26):Nat→List Dt→Int→Int→Dt→Option Int
 |0,_,_,_,_=>none
 |  M7+1,x0,x1,x2,x3=>
    (bif (decide (x2<x1)) then
    JO m rec2 (qM m rec2 M7) x0 x1 x2 x3
 else
    tN m rec2 x0 x1 x3)
def Ve m rec2 x0 x1 x2 x3:=
 qM m rec2 (Nat.succ m) x0 x1 x2 x3
def Vf m rec2 x0 x1 x2:=
 Ve m rec2 x0 x1 0 x2
def BG m rec2 x0 x1 x2 x3:=
 (bif x2 then
    some 10
 else
    Vf m rec2 x0 x1 x3)
def FI (k0:Q91) m x0 x1 x2:=
  ((idx x0 x1).bind fun v1=>
    ((bG m (Dt.toLst v1)).bind fun r2=>
 (bif (Bool.not r2) then
 k0 x0 x1 true x2
 else
 ((idx x0 x1).bind fun v9=>
 ((idx (Dt.toLst v9) 0).bind fun v10=>
 k0 x0 x1 ((ByteArray.toList (Dt.toStr v10))==[95,105,100]) x2)))))
def JQ m rec2:=FI (BG m rec2) m
def QO (m:Nat):Option Int:=
 some 0
def nI (m:Nat):Nat→List Dt→Int→Dt→Option Int
 |0,_,_,_=>none
 |  M2+1,x0,x1,x2=>
    (bif (decide (x1<(List.length x0:Int))) then
    JQ m (nI m M2) x0 x1 x2
 else
    QO m)
def Vg m x0 x1 x2:=
 nI m (Nat.succ m) x0 x1 x2
def Vh m x0 x1:=
 Vg m x0 0 x1
def vY:Nat→Dt→Option Int
  |0,_=>none
  | m+1,a0=>
    ((qY m a0).bind fun r0=>
    (bif (decide (32<(List.length r0:Int))) then
 some 2
    else
 Vh m r0 a0))
def JR (m:Nat) (rec3:Q4) (rec8:Q22) (x0:List Dt) (x1 x2:Int):=
 rec8 x0 x1 (IntKind.wrap .i64 (x2+1))
def JU (k0:Q22) m x0 x1 x2:=
  ((idx x0 x1).bind fun v4=>
    ((idx x0 x2).bind fun v5=>
 ((gM m (Dt.L v4 0) (Dt.L v5 0)).bind fun r6=>
 (bif r6 then
 some 12
 else
 k0 x0 x1 x2))))
def MW m rec3 rec8:=JU (JR m rec3 rec8) m
def JV (m:Nat) (rec3:Q4) (x0:List Dt) (x1:Int):=
 rec3 x0 (IntKind.wrap .i64 (x1+1))
def JW m rec3 x0 x1:=
  ((idx x0 x1).bind fun v7=>
    ((aV m (Dt.fld v7 1)).bind fun r8=>
 (bif (r8 !=0) then
 some r8
 else
 JV m rec3 x0 x1)))
def uF (m:Nat) (rec3:Q4):Nat→List Dt→Int→Int→Option Int
 |0,_,_,_=>none
 |  M8+1,x0,x1,x2=>
    (bif (decide (x2<x1)) then
    MW m rec3 (uF m rec3 M8) x0 x1 x2
 else
    JW m rec3 x0 x1)
def YQ m rec3 x0 x1 x2:=
 uF m rec3 (Nat.succ m) x0 x1 x2
def YR m rec3 x0 x1:=
 YQ m rec3 x0 x1 0
def JX (k0:Q4) x0 x1:=
  ((idx x0 x1).bind fun v2=>
    ((idx (Dt.L v2 0) 0).bind fun v3=>
 (bif ((ByteArray.toList (Dt.toStr v3))==[95,105,100]) then
 some 13
 else
 k0 x0 x1)))
def MX m rec3:=JX (YR m rec3)
def JY (k0:Q4) m x0 x1:=
  ((idx x0 x1).bind fun v0=>
    ((bG m (Dt.L v0 0)).bind fun r1=>
 (bif (Bool.not r1) then
 some 10
 else
 k0 x0 x1)))
def MZ m rec3:=JY (MX m rec3) m
def Vi (m:Nat):Option Int:=
 some 0
def uG (m:Nat):Nat→List Dt→Int→Option Int
 |0,_,_=>none
 |  M3+1,x0,x1=>
    (bif (decide (x1<(List.length x0:Int))) then
    MZ m (uG m M3) x0 x1
 else
    Vi m)
def YS m x0 x1:=
 uG m (Nat.succ m) x0 x1
def YT m x0:=
 YS m x0 0
def D6 m x0 x1:=
 (bif x1 then
    some 21
 else
    YT m x0)
def K8 (k0:Q13) a0:=
    (bif (decide ((List.length a0:Int)<1)) then
    k0 a0 true
 else
    k0 a0 (decide (32<(List.length a0:Int))))
def vZ:Nat→List Dt→Option Int
 |0,_=>none
 |  m+1,a0=>
    K8 (D6 m) a0
def FJ (m:Nat) (rec3:Q9) (x0:Int) (x1:Dt):=
 rec3 (IntKind.wrap .i64 (x0+1)) x1
def yM m rec3 x0 x1 x2:=
 (bif x1 then
    some 1
 else
    FJ m rec3 x0 x2)
def Di (k0:Q92) m x0 x1:=
  (bif (decide (0<x0)) then
    ((idx (Dt.L x1 14) (IntKind.wrap .i64 (x0-1))).bind fun v3=>
 ((idx (Dt.L x1 14) x0).bind fun v4=>
 ((aJ m v3 v4).bind fun r5=>
 k0 x0 (decide (0≤r5)) x1)))
  else
    k0 x0 false x1)
def FK m rec3:=Di (yM m rec3) m
def FL m rec3 x0 x1:=
  ((idx (Dt.L x1 14) x0).bind fun v1=>
    ((dJ m v1).bind fun r2=>
 (bif (Bool.not r2) then
 some 8
 else
 FK m rec3 x0 x1)))
def QS (m:Nat):Option Int:=
 some 0
def kH (m:Nat):Nat→Int→Dt→Option Int
 |0,_,_=>none
 |  M3+1,x0,x1=>
    (bif (decide (x0<(List.length (Dt.L x1 14):Int))) then
    FL m (kH m M3) x0 x1
 else
    QS m)
def QT m x0 x1:=
 kH m (Nat.succ m) x0 x1
def QU m x0:=
 QT m 0 x0
def FM m x0:=
 (bif (decide ((List.length (Dt.L x0 14):Int)<2)) then
    some 21
 else
    QU m x0)
def rZ:Nat→Dt→Option Int
  |0,_=>none
  | m+1,a0=>
    ((aV m (Dt.fld a0 9)).bind fun r0=>
    (bif (r0 !=0) then
 some r0
    else
 FM m a0))
def yN m x0:=
 (( mE m (Dt.L x0 4)).bind fun r0=>
    some r0)
def tO (m:Nat):Option Int:=
 some 0
def FN m x0:=
 (bif x0 then
    some 9
 else
    tO m)
def Dj (k0:Q73) m x0:=
  (bif (Bool.not ((ByteArray.toList (Dt.S x0 7))==[])) then
    ((bR m (Dt.S x0 7)).bind fun r2=>
 k0 (Bool.not r2))
  else
    k0 false)
def FP m:=Dj (FN m) m
def FR m x0 x1:=
  (bif x0 then
    ((aV m (Dt.fld x1 9)).bind fun r4=>
 some r4)
  else
    tO m)
def M0 (k0:Q29) (k1:(Option Int)) (k2:Q29) (k3:Q74) m a0:=
    (bif ((Dt.I a0 0)==4) then
    (bif ((List.length (Dt.L a0 4):Int)==0) then
 some 21
    else
 k0 a0)
  else
    (bif ((Dt.I a0 0)==5) then
 (bif (decide ((Dt.I a0 5)<0)) then
 some 1
 else
 k1)
    else
 (bif ((Dt.I a0 0)==6) then
 (bif (decide ((Dt.I a0 5)<1)) then
 some 1
 else
 k1)
 else
 (bif ((Dt.I a0 0)==7) then
 ((bG m (Dt.L a0 6)).bind fun r1=>
 (bif (Bool.not r1) then
 some 10
 else
 k2 a0))
 else
 (bif ((Dt.I a0 0)==13) then
 ((bR m (Dt.S a0 7)).bind fun r3=>
 (bif (Bool.not r3) then
 some 9
 else
 k1))
 else
 (bif ((Dt.I a0 0)==14) then
 k3 ((Dt.I a0 0)==14) a0
 else
 k3 ((Dt.I a0 0)==16) a0))))))
def oM:Nat→Dt→Option Int
 |0,_=>none
 |  m+1,a0=>
    M0 (yN m) (tO m) (FP m) (FR m) m a0
def Qd (m:Nat) (x0:Int):=
 some x0
def Qe m x0 x1:=
 (bif x1 then
    some 1
 else
    Qd m x0)
def Na (k0:Q82) m x0:=
  ((mE m (Dt.L x0 3)).bind fun r2=>
    (bif (r2==0) then
 (bif (decide ((Dt.I x0 4)<1)) then
 k0 r2 true
 else
 k0 r2 (decide (64<(Dt.I x0 4))))
    else
 k0 r2 false))
def Qf m:=Na (Qe m) m
def GL m x0:=
 (bif ((Dt.I x0 1) !=10) then
    some 0
 else
    Qf m x0)
def Nb (k0:Q29) m x0:=
  (bif ((Dt.I x0 1) !=2) then
    ((aV m (Dt.fld x0 2)).bind fun r1=>
 (bif (r1 !=0) then
 some r1
 else
 k0 x0))
  else
    k0 x0)
def Qg m:=Nb (GL m) m
def GN m x0 x1:=
 (bif x0 then
    some 21
 else
    Qg m x1)
def Nc (k0:Q74) m x0:=
  (bif ((Dt.I x0 1)==2) then
    ((dB m (Dt.fld x0 2)).bind fun r0=>
 (bif (Bool.not r0) then
 k0 true x0
 else
 (bif ((Dt.I x0 1) !=10) then
 (bif (decide (0<(List.length (Dt.L x0 3):Int))) then
 k0 true x0
 else
 k0 ((Dt.I x0 4) !=0) x0)
 else
 k0 false x0)))
  else
    (bif ((Dt.I x0 1) !=10) then
 (bif (decide (0<(List.length (Dt.L x0 3):Int))) then
 k0 true x0
 else
 k0 ((Dt.I x0 4) !=0) x0)
    else
 k0 false x0))
def Qh m:=Nc (GN m) m
def GQ m x0 x1:=
 (bif x0 then
    some 11
 else
    Qh m x1)
def aa9 (k0:Q74) a0:=
    (bif (decide ((Dt.I a0 1)<1)) then
    k0 true a0
 else
    k0 (decide (10<(Dt.I a0 1))) a0)
def zY:Nat→Dt→Option Int
 |0,_=>none
 |  m+1,a0=>
    aa9 (GQ m) a0
def BH (m:Nat) (rec3:Q9) (rec6:Q41) (x0:Int) (x1:Bool) (x2:Int) (x3:Dt):=
 rec6 x0 x1 (IntKind.wrap .i64 (x2+1)) x3
def FT (k0:Q41) x0 x1 x2 x3:=
  (bif x1 then
    ((idx (Dt.L x3 1) x2).bind fun v3=>
 ((idx (Dt.L x3 1) x0).bind fun v4=>
 k0 x0 (Bool.not ((ByteArray.toList (Dt.S v3 0))==(ByteArray.toList (Dt.S v4 0)))) x2 x3))
  else
    k0 x0 false x2 x3)
def JZ m rec3 rec6:=FT (BH m rec3 rec6)
def FU (m:Nat) (rec3:Q9) (x0:Int) (x1:Dt):=
 rec3 (IntKind.wrap .i64 (x0+1)) x1
def FV m rec3 x0 x1:=
  ((idx (Dt.L x1 1) x0).bind fun v5=>
    ((zY m v5).bind fun r6=>
 (bif (r6 !=0) then
 some r6
 else
 FU m rec3 x0 x1)))
def J2 m rec3 x0 x1 x2:=
 (bif (Bool.not x1) then
    some 9
 else
    FV m rec3 x0 x2)
def nJ (m:Nat) (rec3:Q9):Nat→Int→Bool→Int→Dt→Option Int
 |0,_,_,_,_=>none
 |  M6+1,x0,x1,x2,x3=>
    (bif (decide (x2<x0)) then
    JZ m rec3 (nJ m rec3 M6) x0 x1 x2 x3
 else
    J2 m rec3 x0 x1 x3)
def Vj m rec3 x0 x1 x2 x3:=
 nJ m rec3 (Nat.succ m) x0 x1 x2 x3
def J3 m rec3 x0 x1:=
  ((idx (Dt.L x1 1) x0).bind fun v1=>
    ((bR m (Dt.S v1 0)).bind fun r2=>
 Vj m rec3 x0 r2 0 x1))
def QV (m:Nat):Option Int:=
 some 0
def qN (m:Nat):Nat→Int→Dt→Option Int
 |0,_,_=>none
 |  M3+1,x0,x1=>
    (bif (decide (x0<(List.length (Dt.L x1 1):Int))) then
    J3 m (qN m M3) x0 x1
 else
    QV m)
def Vk m x0 x1:=
 qN m (Nat.succ m) x0 x1
def Vl m x0:=
 Vk m 0 x0
def J4 m x0:=
 (bif (decide (32<(List.length (Dt.L x0 1):Int))) then
    some 21
 else
    Vl m x0)
def wh:Nat→Dt→Option Int
  |0,_=>none
  | m+1,a0=>
    ((aV m (Dt.fld a0 0)).bind fun r0=>
    (bif (r0 !=0) then
 some r0
    else
 J4 m a0))
def Qi (m:Nat):Option Int:=
 some 0
def Qj m x0:=
 (bif x0 then
    some 1
 else
    Qi m)
def Nf (k0:Q73) x0:=
  (bif (decide ((Dt.I x0 3)<(-4096))) then
    k0 true
  else
    (bif (decide (4096<(Dt.I x0 3))) then
 k0 true
    else
 (bif (decide ((Dt.I x0 4)<(-4096))) then
 k0 true
 else
 (bif (decide (4096<(Dt.I x0 4))) then
 k0 true
 else
 (bif ((Dt.I x0 1) !=24) then
 k0 (decide ((Dt.I x0 4)<(Dt.I x0 3)))
 else
 k0 false)))))
def GR m:=Nf (Qj m)
def Ng (k0:Q29) m x0 x1:=
  (bif (Bool.not x0) then
    ((aV m (Dt.fld x1 2)).bind fun r1=>
 (bif (r1 !=0) then
 some r1
 else
 k0 x1))
  else
    k0 x1)
def GU m:=Ng (GR m) m
def Qk m x0 x1 x2:=
 (bif x1 then
    some 21
 else
    GU m x0 x2)
def Nh (k0:Q88) m x0 x1 x2:=
  (bif x1 then
    ((dB m (Dt.fld x2 2)).bind fun r0=>
 (bif (Bool.not r0) then
 k0 x1 true x2
 else
 (bif x0 then
 (bif ((Dt.I x2 3) !=0) then
 k0 x1 true x2
 else
 (bif ((Dt.I x2 4) !=0) then
 k0 x1 true x2
 else
 (bif (Dt.B x2 5) then
 k0 x1 true x2
 else
 (bif ((Dt.I x2 1)==24) then
 (bif ((Dt.I x2 4) !=0) then
 k0 x1 true x2
 else
 (bif (Dt.B x2 5) then
 k0 x1 true x2
 else
 (bif (Dt.B x2 5) then
 (bif ((Dt.I x2 3) !=0) then
 k0 x1 true x2
 else
 k0 x1 ((Dt.I x2 4) !=0) x2)
 else
 k0 x1 false x2)))
 else
 (bif (Dt.B x2 5) then
 (bif ((Dt.I x2 3) !=0) then
 k0 x1 true x2
 else
 k0 x1 ((Dt.I x2 4) !=0) x2)
 else
 k0 x1 false x2)))))
 else
 (bif ((Dt.I x2 1)==24) then
 (bif ((Dt.I x2 4) !=0) then
 k0 x1 true x2
 else
 (bif (Dt.B x2 5) then
 k0 x1 true x2
 else
 (bif (Dt.B x2 5) then
 (bif ((Dt.I x2 3) !=0) then
 k0 x1 true x2
 else
 k0 x1 ((Dt.I x2 4) !=0) x2)
 else
 k0 x1 false x2)))
 else
 (bif (Dt.B x2 5) then
 (bif ((Dt.I x2 3) !=0) then
 k0 x1 true x2
 else
 k0 x1 ((Dt.I x2 4) !=0) x2)
 else
 k0 x1 false x2)))))
  else
    (bif x0 then
 (bif ((Dt.I x2 3) !=0) then
 k0 x1 true x2
 else
 (bif ((Dt.I x2 4) !=0) then
 k0 x1 true x2
 else
 (bif (Dt.B x2 5) then
 k0 x1 true x2
 else
 (bif ((Dt.I x2 1)==24) then
 (bif ((Dt.I x2 4) !=0) then
 k0 x1 true x2
 else
 (bif (Dt.B x2 5) then
 k0 x1 true x2
 else
 (bif (Dt.B x2 5) then
 (bif ((Dt.I x2 3) !=0) then
 k0 x1 true x2
 else
 k0 x1 ((Dt.I x2 4) !=0) x2)
 else
 k0 x1 false x2)))
 else
 (bif (Dt.B x2 5) then
 (bif ((Dt.I x2 3) !=0) then
 k0 x1 true x2
 else
 k0 x1 ((Dt.I x2 4) !=0) x2)
 else
 k0 x1 false x2)))))
    else
 (bif ((Dt.I x2 1)==24) then
 (bif ((Dt.I x2 4) !=0) then
 k0 x1 true x2
 else
 (bif (Dt.B x2 5) then
 k0 x1 true x2
 else
 (bif (Dt.B x2 5) then
 (bif ((Dt.I x2 3) !=0) then
 k0 x1 true x2
 else
 k0 x1 ((Dt.I x2 4) !=0) x2)
 else
 k0 x1 false x2)))
 else
 (bif (Dt.B x2 5) then
 (bif ((Dt.I x2 3) !=0) then
 k0 x1 true x2
 else
 k0 x1 ((Dt.I x2 4) !=0) x2)
 else
 k0 x1 false x2))))
def GV m:=Nh (Qk m) m
def Ni (k0:Q88) x0 x1:=
 (bif x0 then
    k0 x0 true x1
 else
    k0 x0 ((Dt.I x1 1)==2) x1)
def Ql m:=Ni (GV m)
def Qm m x0 x1 x2:=
 (bif x1 then
    some 11
 else
    Ql m x0 x2)
def Nj (k0:Q88) x0 x1:=
  (bif (decide ((Dt.I x1 1)<1)) then
    (bif (Bool.not x0) then
 k0 x0 ((Dt.I x1 1) !=24) x1
    else
 k0 x0 false x1)
  else
    (bif (decide (8<(Dt.I x1 1))) then
 (bif (Bool.not x0) then
 k0 x0 ((Dt.I x1 1) !=24) x1
 else
 k0 x0 false x1)
    else
 k0 x0 false x1))
def Qn m:=Nj (Qm m)
def abb (k0:Q74) a0:=
    (bif ((Dt.I a0 1)==21) then
    k0 true a0
  else
    (bif ((Dt.I a0 1)==22) then
 k0 true a0
    else
 k0 ((Dt.I a0 1)==23) a0))
def zZ:Nat→Dt→Option Int
 |0,_=>none
 |  m+1,a0=>
    abb (Qn m) a0
def wL (m:Nat) (rec5:Q9) (rec8:Q41) (x0:Int) (x1:Bool) (x2:Int) (x3:Dt):=
 rec8 x0 x1 (IntKind.wrap .i64 (x2+1)) x3
def Dk (k0:Q41) x0 x1 x2 x3:=
  (bif x1 then
    ((idx (Dt.L x3 2) x2).bind fun v4=>
 ((idx (Dt.L x3 2) x0).bind fun v5=>
 k0 x0 (Bool.not ((ByteArray.toList (Dt.S v4 0))==(ByteArray.toList (Dt.S v5 0)))) x2 x3))
  else
    k0 x0 false x2 x3)
def FW m rec5 rec8:=Dk (wL m rec5 rec8)
def Dm (m:Nat) (rec5:Q9) (x0:Int) (x1:Dt):=
 rec5 (IntKind.wrap .i64 (x0+1)) x1
def Dn m rec5 x0 x1:=
  ((idx (Dt.L x1 2) x0).bind fun v6=>
    ((zZ m v6).bind fun r7=>
 (bif (r7 !=0) then
 some r7
 else
 Dm m rec5 x0 x1)))
def wM m rec5 x0 x1 x2:=
 (bif (Bool.not x1) then
    some 9
 else
    Dn m rec5 x0 x2)
def oD (m:Nat) (rec5:Q9):Nat→Int→Bool→Int→Dt→Option Int
 |0,_,_,_,_=>none
 |  M8+1,x0,x1,x2,x3=>
    (bif (decide (x2<x0)) then
    FW m rec5 (oD m rec5 M8) x0 x1 x2 x3
 else
    wM m rec5 x0 x1 x3)
def FY m rec5 x0 x1 x2 x3:=
 oD m rec5 (Nat.succ m) x0 x1 x2 x3
def F3 m rec5 x0 x1:=
  ((idx (Dt.L x1 2) x0).bind fun v2=>
    ((bR m (Dt.S v2 0)).bind fun r3=>
 FY m rec5 x0 r3 0 x1))
def OV (m:Nat):Option Int:=
 some 0
def kI (m:Nat):Nat→Int→Dt→Option Int
 |0,_,_=>none
 |  M5+1,x0,x1=>
    (bif (decide (x0<(List.length (Dt.L x1 2):Int))) then
    F3 m (kI m M5) x0 x1
 else
    OV m)
def F4 m x0 x1:=
 kI m (Nat.succ m) x0 x1
def F5 m x0:=
 F4 m 0 x0
def F6 m x0 x1:=
 (bif x0 then
    some 21
 else
    F5 m x1)
def Dp (k0:Q74) x0:=
 (bif (decide ((List.length (Dt.L x0 2):Int)<1)) then
    k0 true x0
 else
    k0 (decide (32<(List.length (Dt.L x0 2):Int))) x0)
def F7 m:=Dp (F6 m)
def yO m x0 x1:=
 (bif (x0 !=0) then
    some x0
 else
    F7 m x1)
def Nk (k0:Q9) m a0:=
    ((aV m (Dt.fld a0 0)).bind fun r0=>
    (bif (r0==0) then
 ((mE m (Dt.L a0 1)).bind fun r1=>
 k0 r1 a0)
    else
 k0 r0 a0))
def oN:Nat→Dt→Option Int
 |0,_=>none
 |  m+1,a0=>
    Nk (yO m) m a0
def F8 (m:Nat) (self25:Q29) (rec1:Q42) (x0:List Dt) (x1:Bool) (x2:Int):=
 rec1 x0 x1 (IntKind.wrap .i64 (x2+1))
def F9 m (self25:Q29) (rec1:Q42) x0 x1 x2 x3:=
  ((self25 x3).bind fun r1=>
    (bif (r1 !=0) then
 some r1
    else
 F8 m self25 rec1 x0 x1 x2))
def yP m self25 rec1 x0 x1 x2 x3 x4:=
 (bif x3 then
    some 21
 else
    F9 m self25 rec1 x0 x1 x2 x4)
def Dq (k0:Q93) m x0 x1 x2:=
  ((idx x0 x2).bind fun v0=>
    (bif (decide ((Dt.I v0 0)<1)) then
 k0 x0 x1 x2 true v0
    else
 (bif (decide (18<(Dt.I v0 0))) then
 k0 x0 x1 x2 true v0
 else
 (bif ((Dt.I v0 0)==18) then
 (bif (Bool.not x1) then
 k0 x0 x1 x2 true v0
 else
 (bif (decide (x2<(IntKind.wrap .i64 ((List.length x0:Int)-1)))) then
 k0 x0 x1 x2 true v0
 else
 ((qX m v0).bind fun r2=>
 k0 x0 x1 x2 r2 v0)))
 else
 ((qX m v0).bind fun r3=>
 k0 x0 x1 x2 r3 v0)))))
def Ga m self25 rec1:=Dq (yP m self25 rec1) m
def QW (m:Nat) (self25:Q29):Option Int:=
 some 0
def kJ (m:Nat) (self25:Q29):Nat→List Dt→Bool→Int→Option Int
 |0,_,_,_=>none
 |  M1+1,x0,x1,x2=>
    (bif (decide (x2<(List.length x0:Int))) then
    Ga m self25 (kJ m self25 M1) x0 x1 x2
 else
    QW m self25)
def QX m self25 x0 x1 x2:=
 kJ m self25 (Nat.succ m) x0 x1 x2
def J5 m (self66:Q29) (self67:List Dt→Option Int) x0:=
 (( oM m x0).bind fun r10=>
    some r10)
def Gb (k0:Q29) (m:Nat) (self66:Q29) (self67:List Dt→Option Int) (x0:Int) (x1:Bool) (x2:Dt):=
  (bif x1 then
    ((self66 x2).bind fun r5=>
 some r5)
  else
    (bif (x0==11) then
 ((self67 (Dt.L x2 13)).bind fun r6=>
 some r6)
    else
 (bif (x0==12) then
 ((rZ m x2).bind fun r7=>
 some r7)
 else
 (bif (x0==17) then
 ((zy m x2).bind fun r8=>
 some r8)
 else
 (bif (x0==18) then
 ((vJ m (Dt.fld x2 15)).bind fun r9=>
 some r9)
 else
 k0 x2)))))
def BI m (self66:Q29) (self67:List Dt→Option Int):=Gb (J5 m self66 self67) m self66 self67
def tQ (m:Nat) (self8:Q13) (x0:Dt):=
 (( self8 (Dt.L x0 4) false).bind fun r1=>
    some r1)
def yQ m self8 x0 x1:=
 (bif x0 then
    some 21
 else
    tQ m self8 x1)
def yR (m:Nat) (self8:Q13) (x0:Dt):=
 (( self8 (Dt.L x0 4) false).bind fun r4=>
    some r4)
def Gc m self8 x0:=
  ((bR m (Dt.S x0 3)).bind fun r3=>
    (bif (Bool.not r3) then
 some 9
    else
 yR m self8 x0))
def yS m self8 x0 x1:=
 (bif x0 then
    some 10
 else
    Gc m self8 x1)
def Dr (k0:Q74) m x0:=
  ((bG m (Dt.L x0 1)).bind fun r2=>
    (bif (Bool.not r2) then
 k0 true x0
    else
 ((bG m (Dt.L x0 2)).bind fun r5=>
 k0 (Bool.not r5) x0)))
def Gd m self8:=Dr (yS m self8) m
def Du (k0:Q74) (k1:Q29) x0 x1:=
  (bif ((Dt.I x0 0)==15) then
    (bif (decide (0<(List.length (Dt.L x1 1):Int))) then
 k0 true x1
    else
 (bif (decide (0<(List.length (Dt.L x1 2):Int))) then
 k0 true x1
 else
 k0 (Bool.not ((ByteArray.toList (Dt.S x1 3))==[])) x1))
  else
    k1 x1)
def Gf m self8:=Du (yQ m self8) (Gd m self8)
def yT (m:Nat) (self8:Q13) (rec3:Q4) (rec6:Q56) (x0:List Dt) (x1:Int) (x2:Bool) (x3:Int):=
 rec6 x0 x1 x2 (IntKind.wrap .i64 (x3+1))
def Dv (k0:Q56) x0 x1 x2 x3:=
  (bif x2 then
    ((idx x0 x3).bind fun v2=>
 ((idx x0 x1).bind fun v3=>
 k0 x0 x1 (Bool.not ((ByteArray.toList (Dt.S v2 0))==(ByteArray.toList (Dt.S v3 0)))) x3))
  else
    k0 x0 x1 false x3)
def Gg m self8 rec3 rec6:=Dv (yT m self8 rec3 rec6)
def Dw (m:Nat) (self8:Q13) (rec3:Q4) (x0:List Dt) (x1:Int):=
 rec3 x0 (IntKind.wrap .i64 (x1+1))
def Dx m (self8:Q13) (rec3:Q4) x0 x1:=
  ((idx x0 x1).bind fun v4=>
    ((self8 (Dt.L v4 1) false).bind fun r5=>
 (bif (r5 !=0) then
 some r5
 else
 Dw m self8 rec3 x0 x1)))
def Gh m self8 rec3 x0 x1 x2:=
 (bif (Bool.not x2) then
    some 9
 else
    Dx m self8 rec3 x0 x1)
def kK (m:Nat) (self8:Q13) (rec3:Q4):Nat→List Dt→Int→Bool→Int→Option Int
 |0,_,_,_,_=>none
 |  M6+1,x0,x1,x2,x3=>
    (bif (decide (x3<x1)) then
    Gg m self8 rec3 (kK m self8 rec3 M6) x0 x1 x2 x3
 else
    Gh m self8 rec3 x0 x1 x2)
def QY m self8 rec3 x0 x1 x2 x3:=
 kK m self8 rec3 (Nat.succ m) x0 x1 x2 x3
def Gi m self8 rec3 x0 x1:=
  ((idx x0 x1).bind fun v0=>
    ((bR m (Dt.S v0 0)).bind fun r1=>
 QY m self8 rec3 x0 x1 r1 0))
def OW (m:Nat) (self8:Q13):Option Int:=
 some 0
def oF (m:Nat) (self8:Q13):Nat→List Dt→Int→Option Int
 |0,_,_=>none
 |  M3+1,x0,x1=>
    (bif (decide (x1<(List.length x0:Int))) then
    Gi m self8 (oF m self8 M3) x0 x1
 else
    OW m self8)
def QZ m self8 x0 x1:=
 oF m self8 (Nat.succ m) x0 x1
def Ra m self8 x0:=
 QZ m self8 x0 0
def yU m self8 x0 x1:=
 (bif x1 then
    some 21
 else
    Ra m self8 x0)
def Qo (k0:Q92) m a0:=
    (bif ((Dt.I a0 0)==1) then
    ((mG m (Dt.fld a0 1)).bind fun r0=>
 some r0)
  else
    (bif ((Dt.I a0 0)==2) then
 ((vY m (Dt.fld a0 2)).bind fun r1=>
 some r1)
    else
 (bif ((Dt.I a0 0)==3) then
 ((vZ m (Dt.L a0 3)).bind fun r2=>
 some r2)
 else
 (bif ((Dt.I a0 0)==8) then
 ((wh m (Dt.fld a0 10)).bind fun r3=>
 some r3)
 else
 (bif ((Dt.I a0 0)==9) then
 ((oN m (Dt.fld a0 11)).bind fun r4=>
 some r4)
 else
 (bif ((Dt.I a0 0)==10) then
 k0 (Dt.I a0 0) ((Dt.I a0 0)==10) a0
 else
 k0 (Dt.I a0 0) ((Dt.I a0 0)==15) a0))))))
mutual
def aF:Nat→List Dt→Bool→Option Int
 |0,_,_=>none
 |  m+1,a0,a1=>
    QX m (dR m) a0 a1 0
def dR:Nat→Dt→Option Int
 |0,_=>none
 |  m+1,a0=>
    Qo (BI m (gY m) (gZ m)) m a0
def gY:Nat→Dt→Option Int
  |0,_=>none
  | m+1,a0=>
    ((eF m (Dt.S (Dt.fld a0 12) 0)).bind fun r0=>
    (bif (Bool.not r0) then
 some 9
    else
 Gf m (aF m) a0 (Dt.fld a0 12)))
def Nl (k0:Q13) (a0:List Dt):Option Int:=
    (bif (decide ((List.length a0:Int)<1)) then
    k0 a0 true
 else
    k0 a0 (decide (32<(List.length a0:Int))))
def gZ:Nat→List Dt→Option Int
 |0,_=>none
 |  m+1,a0=>
    Nl (yU m (aF m)) a0
end
def BJ m x0:=
 (( aF m x0 true).bind fun r1=>
    some r1)
def rJ:Nat→List Dt→Option Int
  |0,_=>none
  | m+1,a0=>
    ((bB m a0 1).bind fun r0=>
    (bif (decide (32<r0)) then
 some 2
    else
 BJ m a0))
def kL (m:Nat) (rec3:Q30) (x0:ByteArray) (x1 x2:Int):=
 rec3 x0 x1 (IntKind.wrap .i64 (x2+1))
def kM m rec3 x0 x1 x2 x3:=
 (bif x3 then
    some false
 else
    kL m rec3 x0 x1 x2)
def iW (k0:Q79) x0 x1 x2:=
  ((idxS x0 x2).bind fun v0=>
    (bif (decide (v0<33)) then
 k0 x0 x1 x2 true
    else
 ((idxS x0 x2).bind fun v1=>
 (bif (decide (126<v1)) then
 k0 x0 x1 x2 true
 else
 ((idxS x0 x2).bind fun v2=>
 k0 x0 x1 x2 (v2==46))))))
def kN m rec3:=iW (kM m rec3)
def kP (m:Nat):=
 some true
def kQ (m:Nat):Nat→ByteArray→Int→Int→Option Bool
 |0,_,_,_=>none
 |  M3+1,x0,x1,x2=>
    (bif (decide (x2<x1)) then
    kN m (kQ m M3) x0 x1 x2
 else
    kP m)
def kR m x0 x1 x2:=
 kQ m (Nat.succ m) x0 x1 x2
def kS m x0:=
 kR m x0 (ByteArray.size x0:Int) 0
def kU m x0 x1:=
 (bif x1 then
    some false
 else
    kS m x0)
def Nn (k0:Q71) a0:=
    (bif (decide ((ByteArray.size a0:Int)<1)) then
    k0 a0 true
  else
    (bif (decide (32<(ByteArray.size a0:Int))) then
 k0 a0 true
    else
 ((idxS a0 0).bind fun v3=>
 k0 a0 (v3==36))))
def wN:Nat→ByteArray→Option Bool
 |0,_=>none
 |  m+1,a0=>
    Nn (kU m) a0
def yV (m:Nat) (self131:Q14) (self147:Q21) (rec8:Q39) (x0:List Dt) (x1 x2:Int):=
 rec8 x0 x1 (IntKind.wrap .i64 (x2+1))
def BK m (self131:Q14) (self147:Q21) (rec8:Q39) x0 x1 x2:=
  ((idx x0 x2).bind fun v1=>
    ((self131 v1).bind fun r2=>
 (bif (Bool.not r2) then
 some false
 else
 yV m self131 self147 rec8 x0 x1 x2)))
def yX (m:Nat) (self131:Q14) (self147:Q21):=
 some true
def nK (m:Nat) (self131:Q14) (self147:Q21):Nat→List Dt→Int→Int→Option Bool
 |0,_,_,_=>none
 |  M8+1,x0,x1,x2=>
    (bif (decide (x2<x1)) then
    BK m self131 self147 (nK m self131 self147 M8) x0 x1 x2
 else
    yX m self131 self147)
def wm m self131 self147 x0 x1 x2:=
 nK m self131 self147 (Nat.succ m) x0 x1 x2
def tT (m:Nat) (self131:Q14) (self147:Q21):=
 some false
def tV (k0:Q39) (k1:(Option Bool)) (self147:Q21) (x0:Int) (x1:Bool) (x2:Dt):=
  (bif x1 then
    some true
  else
    (bif (x0==9) then
 (bif ((Dt.I x2 1)==0) then
 some true
 else
 some ((Dt.I x2 1)==1))
    else
 (bif (x0==10) then
 some (decide (0≤(Dt.I x2 1)))
 else
 (bif (x0==4) then
 (bif (decide ((ByteArray.size (Dt.S x2 2):Int)≤4096)) then
 ((utf8_ValidString (Dt.S x2 2)).bind fun r0=>
 some r0)
 else
 some false)
 else
 (bif (x0==7) then
 some (decide ((ByteArray.size (Dt.S x2 2):Int)≤4096))
 else
 (bif (x0==8) then
 some ((ByteArray.size (Dt.S x2 2):Int)==12)
 else
 (bif (x0==6) then
 k0 (Dt.L x2 3) (List.length (Dt.L x2 3):Int) 0
 else
 (bif (x0==5) then
 ((self147 (Dt.L x2 4)).bind fun r3=>
 some r3)
 else
 k1))))))))
def nL m (self131:Q14) (self147:Q21):=tV (wm m self131 self147) (tT m self131 self147) self147
def tX (k0:Q68) x0:=
  (bif ((Dt.I x0 0)==1) then
    k0 (Dt.I x0 0) ((Dt.I x0 0)==1) x0
  else
    (bif ((Dt.I x0 0)==2) then
 k0 (Dt.I x0 0) ((Dt.I x0 0)==2) x0
    else
 (bif ((Dt.I x0 0)==11) then
 k0 (Dt.I x0 0) ((Dt.I x0 0)==11) x0
 else
 k0 (Dt.I x0 0) ((Dt.I x0 0)==3) x0)))
def nM m (self131:Q14) (self147:Q21):=tX (nL m self131 self147)
def wo m self131 self147 x0 x1:=
 (bif x0 then
    some false
 else
    nM m self131 self147 x1)
def tY (k0:Q67) x0:=
  (bif ((Dt.I x0 0) !=6) then
    (bif (decide (0<(List.length (Dt.L x0 3):Int))) then
 k0 true x0
    else
 (bif ((Dt.I x0 0) !=5) then
 k0 (decide (0<(List.length (Dt.L x0 4):Int))) x0
 else
 k0 false x0))
  else
    (bif ((Dt.I x0 0) !=5) then
 k0 (decide (0<(List.length (Dt.L x0 4):Int))) x0
    else
 k0 false x0))
def nN m self131 self147:=tY (wo m self131 self147)
def wu m self131 self147 x0 x1:=
 (bif x0 then
    some false
 else
    nN m self131 self147 x1)
def tZ (k0:Q67) x0 x1 x2:=
  (bif (Bool.not x0) then
    (bif ((Dt.I x2 1) !=0) then
 k0 true x2
    else
 (bif (Bool.not x1) then
 k0 (Bool.not ((ByteArray.toList (Dt.S x2 2))==[])) x2
 else
 k0 false x2))
  else
    (bif (Bool.not x1) then
 k0 (Bool.not ((ByteArray.toList (Dt.S x2 2))==[])) x2
    else
 k0 false x2))
def nO m self131 self147:=tZ (wu m self131 self147)
def uf (k0:Q85) x0 x1:=
  (bif ((Dt.I x1 0)==4) then
    k0 x0 true x1
  else
    (bif ((Dt.I x1 0)==7) then
 k0 x0 true x1
    else
 k0 x0 ((Dt.I x1 0)==8) x1))
def nP m self131 self147:=uf (nO m self131 self147)
def jo (m:Nat) (self131:Q14) (rec1:Q28) (x0:List Dt) (x1 x2:Int) (x3:List Dt):=
 rec1 x0 x1 (IntKind.wrap .i64 (x2+1)) x3
def jq m self131 rec1 x0 x1 x2 x3 x4:=
 jo m self131 rec1 x0 x1 x2 (mput x3 (Dt.S x4 0) (Dt.bool true))
def jr m self131 rec1 x0 x1 x2 x3 x4 x5:=
 (bif x3 then
    some false
 else
    jq m self131 rec1 x0 x1 x2 x4 x5)
def iI (k0:Q94) m (self131:Q14) x0 x1 x2 x3:=
  ((idx x0 x2).bind fun v0=>
    ((wN m (Dt.S v0 0)).bind fun r1=>
 (bif (Bool.not r1) then
 k0 x0 x1 x2 true x3 v0
 else
 (bif (Dt.toBool (mgetD x3 (Dt.S v0 0) (Dt.bool false))) then
 k0 x0 x1 x2 true x3 v0
 else
 ((self131 (Dt.fld v0 1)).bind fun r2=>
 k0 x0 x1 x2 (Bool.not r2) x3 v0)))))
def jv m self131 rec1:=iI (jr m self131 rec1) m self131
def jw (m:Nat) (self131:Q14):=
 some true
def gI (m:Nat) (self131:Q14):Nat→List Dt→Int→Int→List Dt→Option Bool
 |0,_,_,_,_=>none
 |  M1+1,x0,x1,x2,x3=>
    (bif (decide (x2<x1)) then
    jv m self131 (gI m self131 M1) x0 x1 x2 x3
 else
    jw m self131)
def jy m self131 x0 x1 x2 x3:=
 gI m self131 (Nat.succ m) x0 x1 x2 x3
def Qp (k0:Q67) a0:=
    (bif ((Dt.I a0 0)==3) then
    k0 true a0
  else
    (bif ((Dt.I a0 0)==9) then
 k0 true a0
    else
 k0 ((Dt.I a0 0)==10) a0))
mutual
def aI:Nat→Dt→Option Bool
 |0,_=>none
 |  m+1,a0=>
    Qp (nP m (aI m) (aG m)) a0
def aG:Nat→List Dt→Option Bool
 |0,_=>none
 |  m+1,a0=>
    jy m (aI m) a0 (List.length a0:Int) 0 []
end
def jA:Nat→Dt→Option Bool
  |0,_=>none
  | m+1,a0=>
    ((ru m a0).bind fun r0=>
    (bif (decide (r0≤1024)) then
 ((rz m a0).bind fun r1=>
 (bif (decide (r1≤16)) then
 ((aI m a0).bind fun r2=>
 some r2)
 else
 some false))
    else
 some false))
def zG (m:Nat):Option Int:=
 some 0
def zH m x0:=
 (bif x0 then
    some 4
 else
    zG m)
def xA (k0:Q73) m x0:=
  (bif ((Dt.I x0 0) !=1) then
    ((vR m (Dt.fld x0 4)).bind fun r3=>
 (bif (Bool.not r3) then
 k0 true
 else
 k0 ((Dt.I x0 5) !=0)))
  else
    k0 ((Dt.I x0 5) !=0))
def sj m:=xA (zH m) m
def zI m x0 x1:=
 (bif x0 then
    some 4
 else
    sj m x1)
def xB (k0:Q74) x0 x1 x2:=
  (bif (Bool.not x0) then
    (bif (decide (0<(List.length (Dt.L x2 1):Int))) then
 k0 true x2
    else
 (bif (Bool.not x1) then
 (bif (Bool.not ((ByteArray.toList (Dt.S x2 2))==[])) then
 k0 true x2
 else
 (bif ((Dt.I x2 0) !=34) then
 k0 (decide (0<(List.length (Dt.L x2 3):Int))) x2
 else
 k0 false x2))
 else
 (bif ((Dt.I x2 0) !=34) then
 k0 (decide (0<(List.length (Dt.L x2 3):Int))) x2
 else
 k0 false x2)))
  else
    (bif (Bool.not x1) then
 (bif (Bool.not ((ByteArray.toList (Dt.S x2 2))==[])) then
 k0 true x2
 else
 (bif ((Dt.I x2 0) !=34) then
 k0 (decide (0<(List.length (Dt.L x2 3):Int))) x2
 else
 k0 false x2))
    else
 (bif ((Dt.I x2 0) !=34) then
 k0 (decide (0<(List.length (Dt.L x2 3):Int))) x2
 else
 k0 false x2)))
def su m:=xB (zI m)
def zJ m x0 x1 x2 x3:=
 (bif x2 then
    some 8
 else
    su m x0 x1 x3)
def zK (k0:Q95) m x0 x1 x2:=
  (bif ((Dt.I x2 0)==1) then
    ((jA m (Dt.fld x2 4)).bind fun r2=>
 k0 x0 x1 (Bool.not r2) x2)
  else
    k0 x0 x1 false x2)
def uR m:=zK (zJ m) m
def BL m x0 x1 x2 x3:=
 (bif x2 then
    some 9
 else
    uR m x0 x1 x3)
def zL (k0:Q95) m x0 x1 x2:=
  (bif x1 then
    ((rA m (Dt.S x2 2)).bind fun r1=>
 (bif (Bool.not r1) then
 k0 x0 x1 true x2
 else
 (bif ((Dt.I x2 0)==34) then
 ((iV m (Dt.L x2 3)).bind fun r4=>
 k0 x0 x1 (Bool.not r4) x2)
 else
 k0 x0 x1 false x2)))
  else
    (bif ((Dt.I x2 0)==34) then
 ((iV m (Dt.L x2 3)).bind fun r5=>
 k0 x0 x1 (Bool.not r5) x2)
    else
 k0 x0 x1 false x2))
def uS m:=zL (BL m) m
def BM m x0 x1 x2 x3:=
 (bif x2 then
    some 10
 else
    uS m x0 x1 x3)
def zM (k0:Q95) m x0 x1 x2:=
  (bif x0 then
    ((pq m (Dt.L x2 1)).bind fun r0=>
 (bif (Bool.not r0) then
 (bif ((Dt.I x2 0)==2) then
 k0 x0 x1 true x2
 else
 k0 x0 x1 (decide (0<(List.length (Dt.L x2 1):Int))) x2)
 else
 k0 x0 x1 false x2))
  else
    k0 x0 x1 false x2)
def uU m:=zM (BM m) m
def zN (k0:Q88) m x0 x1:=
  (bif ((Dt.I x1 0)==3) then
    k0 x0 true x1
  else
    ((CX m (Dt.I x1 0)).bind fun r6=>
 k0 x0 (r6==3) x1))
def BN m:=zN (uU m) m
def zO (k0:Q74) x0:=
 (bif ((Dt.I x0 0)==2) then
    k0 true x0
 else
    k0 ((Dt.I x0 0)==3) x0)
def BO m:=zO (BN m)
def BP m x0 x1:=
 (bif x0 then
    some 11
 else
    BO m x1)
def zP (k0:Q74) x0:=
 (bif ((Dt.I x0 0)==34) then
    k0 ((List.length (Dt.L x0 6):Int) !=(List.length (Dt.L x0 3):Int)) x0
 else
    k0 false x0)
def BQ m:=zP (BP m)
def BR m x0 x1:=
 (bif x0 then
    some 11
 else
    BQ m x1)
def Gj (k0:Q74) m a0:=
    (bif (decide ((Dt.I a0 0)<1)) then
    k0 true a0
  else
    (bif (decide (37<(Dt.I a0 0))) then
 k0 true a0
    else
 ((CX m (Dt.I a0 0)).bind fun r7=>
 ((Bl m r7 (List.length (Dt.L a0 6):Int)).bind fun r8=>
 k0 (Bool.not r8) a0))))
def qO:Nat→Dt→Option Int
 |0,_=>none
 |  m+1,a0=>
    Gj (BR m) m a0
def akT (m:Nat) (self137:Q16) (rec4:Q57) (x0:Int) (x1:List Dt) (x2 x3 x4:Int):=
 rec4 x0 x1 x2 (IntKind.wrap .i64 (x3+1)) x4
def anr (k0:Q57) (self137:Q16) x0 x1 x2 x3 x4:=
  ((idx x1 x3).bind fun v1=>
    ((self137 v1 (IntKind.wrap .i64 (x0+1)) x4).bind fun r2=>
 (bif (r2.1 !=0) then
 some (r2.1,r2.2)
 else
 k0 x0 x1 x2 x3 r2.2)))
def ase m self137 rec4:=anr (akT m self137 rec4) self137
def aAU (m:Nat) (self137:Q16) (x0:Int):Option (Int×Int):=
 some (0,x0)
def Qq (m:Nat) (self137:Q16):Nat→Int→List Dt→Int→Int→Int→Option (Int×Int)
 |0,_,_,_,_,_=>none
 |  M4+1,x0,x1,x2,x3,x4=>
    (bif (decide (x3<x2)) then
    ase m self137 (Qq m self137 M4) x0 x1 x2 x3 x4
 else
    aAU m self137 x4)
def asf m self137 x0 x1 x2 x3 x4:=
 Qq m self137 (Nat.succ m) x0 x1 x2 x3 x4
def asg m self137 x0 x1 x2:=
 asf m self137 x0 (Dt.L x2 6) (List.length (Dt.L x2 6):Int) 0 x1
def ant (k0:Q96) m x0 x1 x2:=
  ((qO m x2).bind fun r0=>
    (bif (r0 !=0) then
 some (r0,(IntKind.wrap .i64 (x1+1)))
    else
 k0 x0 (IntKind.wrap .i64 (x1+1)) x2))
def ash m self137:=ant (asg m self137) m
def akU m self137 x0 x1 x2 x3:=
 (bif x1 then
    some (2,x2)
 else
    ash m self137 x0 x2 x3)
def OX:Nat→Dt→Int→Int→Option (Int×Int)
 |0,_,_,_=>none
 |  m+1,a0,a1,a2=>
    (bif (decide (16<a1)) then
    akU m (OX m) a1 true a2 a0
 else
    akU m (OX m) a1 (a2==256) a2 a0)
def sw:Nat→Dt→Option Int
 |0,_=>none
 |  m+1,a0=>
    ((OX m a0 1 0).bind fun r0=>
    some r0.1)
def qP (m:Nat) (rec9:Q40) (x0:List Dt) (x1 x2:Int) (x3:Dt):=
 rec9 x0 x1 (IntKind.wrap .i64 (x2+1)) x3
def qQ m rec9 x0 x1 x2 x3:=
  ((idx x0 x2).bind fun v6=>
    ((jA m v6).bind fun r7=>
 (bif (Bool.not r7) then
 some 8
 else
 qP m rec9 x0 x1 x2 x3)))
def z8 (m:Nat):Option Int:=
 some 0
def jS m x0:=
  (bif ((Dt.I x0 0)==24) then
    ((sw m (Dt.fld x0 7)).bind fun r10=>
 some r10)
  else
    z8 m)
def jU m x0:=
  ((j5 m x0).bind fun r9=>
    (bif (Bool.not r9) then
 some 4
    else
 jS m x0))
def pV (k0:Q29) m x0:=
  (bif ((Dt.I x0 0)==18) then
    ((CU m (Dt.fld x0 6)).bind fun r8=>
 (bif (r8 !=0) then
 some r8
 else
 k0 x0))
  else
    k0 x0)
def gJ m:=pV (jU m) m
def fD (m:Nat):Nat→List Dt→Int→Int→Dt→Option Int
 |0,_,_,_,_=>none
 |  M9+1,x0,x1,x2,x3=>
    (bif (decide (x2<x1)) then
    qQ m (fD m M9) x0 x1 x2 x3
 else
    gJ m x3)
def sF m x0 x1 x2 x3:=
 fD m (Nat.succ m) x0 x1 x2 x3
def mg m x0:=
  ((cZ m (Dt.I x0 0)).bind fun r5=>
    (bif r5 then
 sF m (Dt.L x0 3) (List.length (Dt.L x0 3):Int) 0 x0
    else
 gJ m x0))
def sG m x0 x1:=
 (bif x0 then
    some 8
 else
    mg m x1)
def qR (k0:Q74) m x0:=
  ((fJ m (Dt.I x0 0)).bind fun r3=>
    (bif r3 then
 ((jA m (Dt.fld x0 2)).bind fun r4=>
 (bif (Bool.not r4) then
 k0 true x0
 else
 ((dF m (Dt.I x0 0)).bind fun r11=>
 (bif r11 then
 k0 ((Dt.I (Dt.fld x0 2) 0) !=4) x0
 else
 k0 false x0))))
    else
 ((dF m (Dt.I x0 0)).bind fun r12=>
 (bif r12 then
 k0 ((Dt.I (Dt.fld x0 2) 0) !=4) x0
 else
 k0 false x0))))
def mh m:=qR (sG m) m
def sH m x0 x1:=
 (bif x0 then
    some 10
 else
    mh m x1)
def qU (k0:Q74) m x0 x1:=
  ((gG m (Dt.I x1 0)).bind fun r1=>
    (bif r1 then
 ((pq m (Dt.L x1 1)).bind fun r2=>
 (bif (Bool.not r2) then
 (bif (Bool.not x0) then
 k0 true x1
 else
 k0 (decide (0<(List.length (Dt.L x1 1):Int))) x1)
 else
 k0 false x1))
    else
 k0 false x1))
def mo m:=qU (sH m) m
def sI m x0 x1 x2:=
 (bif x1 then
    some 11
 else
    mo m x0 x2)
def qV (k0:Q88) m x0 x1:=
  ((cZ m (Dt.I x1 0)).bind fun r0=>
    (bif r0 then
 (bif ((List.length (Dt.L x1 3):Int)==0) then
 k0 x0 true x1
 else
 ((gW m x1).bind fun r13=>
 k0 x0 (Bool.not r13) x1))
    else
 ((gW m x1).bind fun r14=>
 k0 x0 (Bool.not r14) x1)))
def mq m:=qV (sI m) m
def sJ m x0 x1 x2:=
 (bif x1 then
    some 11
 else
    mq m x0 x2)
def wz (k0:Q88) m a0 a1:=
    (bif (decide ((Dt.I a0 0)<1)) then
    k0 a1 true a0
  else
    (bif (decide (24<(Dt.I a0 0))) then
 k0 a1 true a0
    else
 ((jR m (Dt.I a0 0) (List.length (Dt.L a0 8):Int)).bind fun r15=>
 k0 a1 (Bool.not r15) a0)))
def fF:Nat→Dt→Bool→Option Int
 |0,_,_=>none
 |  m+1,a0,a1=>
    wz (sJ m) m a0 a1
def zQ (m:Nat) (self28:Q12) (rec2:Q45) (x0:Bool) (x1:List Dt) (x2 x3:Int) (x4:Dt):=
 rec2 x0 x1 x2 (IntKind.wrap .i64 (x3+1)) x4
def sK m self28 rec2 x0 x1 x2 x3 x4 x5:=
 (bif (x1 !=0) then
    some x1
 else
    zQ m self28 rec2 x0 x2 x3 x4 x5)
def xC (k0:Q97) (self28:Q12) x0 x1 x2 x3 x4:=
  ((idx x1 x3).bind fun v1=>
    (bif x0 then
 ((self28 v1 true).bind fun r2=>
 k0 x0 r2 x1 x2 x3 x4)
    else
 ((self28 v1 ((Dt.I x4 0)==15)).bind fun r3=>
 k0 x0 r3 x1 x2 x3 x4)))
def zR m self28 rec2:=xC (sK m self28 rec2) self28
def J6 (m:Nat) (self28:Q12):Option Int:=
 some 0
def gD (m:Nat) (self28:Q12):Nat→Bool→List Dt→Int→Int→Dt→Option Int
 |0,_,_,_,_,_=>none
 |  M2+1,x0,x1,x2,x3,x4=>
    (bif (decide (x3<x2)) then
    zR m self28 (gD m self28 M2) x0 x1 x2 x3 x4
 else
    J6 m self28)
def zS m self28 x0 x1 x2 x3 x4:=
 gD m self28 (Nat.succ m) x0 x1 x2 x3 x4
def zT m self28 x0 x1:=
 zS m self28 x0 (Dt.L x1 8) (List.length (Dt.L x1 8):Int) 0 x1
def bC:Nat→Dt→Bool→Option Int
  |0,_,_=>none
  | m+1,a0,a1=>
    ((fF m a0 a1).bind fun r0=>
    (bif (r0 !=0) then
 some r0
    else
 zT m (bC m) a1 a0))
def nQ m x0:=
 (( bC m x0 false).bind fun r1=>
    some r1)
def kV:Nat→Dt→Option Int
  |0,_=>none
  | m+1,a0=>
    ((i27 m a0 1 0).bind fun r0=>
    (bif (Bool.not r0.1) then
 some 2
    else
 nQ m a0))
def oO (m:Nat) (x0:List Dt) (x1 x2:Dt):=
 (( i15 m x0).bind fun r20=>
    some (x2,r20))
def zU (k0:Q98) m x0 x1 x2 x3:=
  (bif x1 then
    ((idx x0 0).bind fun v17=>
 ((bW m (Dt.fld v17 2)).bind fun r18=>
 ((cutL x0 1 (List.length x0:Int)).bind fun v19=>
 k0 v19 x2 (Dt.agg [(Dt.fld x3 0),(Dt.lst (Dt.L x3 1)),(Dt.int (Dt.I x3 2)),(Dt.int (Dt.I x3 3)),r18,(Dt.str (Dt.S x3 5))]))))
  else
    k0 x0 x2 x3)
def uV m:=zU (oO m) m
def BS (k0:Q99) x0 x1 x2:=
  (bif (decide (0<(List.length x0:Int))) then
    ((idx x0 0).bind fun v16=>
 k0 x0 ((Dt.I v16 0)==2) x1 x2)
  else
    k0 x0 false x1 x2)
def wO m:=BS (uV m)
def BU (k0:Q98) x0 x1 x2 x3:=
  (bif x1 then
    ((idx x0 0).bind fun v14=>
 ((cutL x0 1 (List.length x0:Int)).bind fun v15=>
 k0 v15 x2 (Dt.agg [(Dt.fld x3 0),(Dt.lst (Dt.L x3 1)),(Dt.int (Dt.I x3 2)),(Dt.int (Dt.I v14 5)),(Dt.fld x3 4),(Dt.str (Dt.S x3 5))])))
  else
    k0 x0 x2 x3)
def wP m:=BU (wO m)
def BX (k0:Q99) x0 x1 x2:=
  (bif (decide (0<(List.length x0:Int))) then
    ((idx x0 0).bind fun v13=>
 k0 x0 ((Dt.I v13 0)==6) x1 x2)
  else
    k0 x0 false x1 x2)
def wQ m:=BX (wP m)
def BZ (k0:Q98) x0 x1 x2 x3:=
  (bif x1 then
    ((idx x0 0).bind fun v11=>
 ((cutL x0 1 (List.length x0:Int)).bind fun v12=>
 k0 v12 x2 (Dt.agg [(Dt.fld x3 0),(Dt.lst (Dt.L x3 1)),(Dt.int (Dt.I v11 5)),(Dt.int (Dt.I x3 3)),(Dt.fld x3 4),(Dt.str (Dt.S x3 5))])))
  else
    k0 x0 x2 x3)
def wR m:=BZ (wQ m)
def Ca (k0:Q99) x0 x1 x2:=
  (bif (decide (0<(List.length x0:Int))) then
    ((idx x0 0).bind fun v10=>
 k0 x0 ((Dt.I v10 0)==5) x1 x2)
  else
    k0 x0 false x1 x2)
def wS m:=Ca (wR m)
def Cb (k0:Q98) m x0 x1 x2 x3:=
  (bif x1 then
    ((idx x0 0).bind fun v7=>
 ((i12 m (Dt.L v7 4)).bind fun r8=>
 ((cutL x0 1 (List.length x0:Int)).bind fun v9=>
 k0 v9 x2 (Dt.agg [(Dt.fld x3 0),(Dt.lst r8),(Dt.int (Dt.I x3 2)),(Dt.int (Dt.I x3 3)),(Dt.fld x3 4),(Dt.str (Dt.S x3 5))]))))
  else
    k0 x0 x2 x3)
def wT m:=Cb (wS m) m
def Cc (k0:Q99) m x0 x1 x2 x3:=
  ((aQ m x3).bind fun r4=>
    ((cutL x0 x1 (List.length x0:Int)).bind fun v5=>
 (bif (decide (0<(List.length v5:Int))) then
 ((idx v5 0).bind fun v6=>
 k0 v5 ((Dt.I v6 0)==4) x2 (Dt.agg [r4,(Dt.lst []),(Dt.int 0),(Dt.int 0),Wi,(Dt.str (ByteArray.mk (List.toArray [])))]))
 else
 k0 v5 false x2 (Dt.agg [r4,(Dt.lst []),(Dt.int 0),(Dt.int 0),Wi,(Dt.str (ByteArray.mk (List.toArray [])))]))))
def mQ m:=Cc (wT m) m
def Ce (m:Nat) (rec1:Q58) (x0:List Dt) (x1:Int) (x2 x3 x4:Dt):=
 rec1 x0 (IntKind.wrap .i64 (x1+1)) x2 x4
def Dy m rec1 x0 x1 x2 x3:=
  ((cutL x0 0 (IntKind.wrap .i64 (x1+1))).bind fun v1=>
    ((rO m v1).bind fun r2=>
 ((kV m r2).bind fun r3=>
 (bif (r3 !=0) then
 mQ m x0 x1 x2 x3
 else
 Ce m rec1 x0 x1 x2 x3 r2))))
def mR (m:Nat):Nat→List Dt→Int→Dt→Dt→Option (Dt×List Dt)
  |0,_,_,_,_=>none
  | M1+1,x0,x1,x2,x3=>
    (bif (decide (x1<(List.length x0:Int))) then
    ((idx x0 x1).bind fun v0=>
 (bif ((Dt.I v0 0)==1) then
 Dy m (mR m M1) x0 x1 x2 x3
 else
 mQ m x0 x1 x2 x3))
  else
    mQ m x0 x1 x2 x3)
def Dz m x0 x1 x2 x3:=
 mR m (Nat.succ m) x0 x1 x2 x3
def pW:Nat→List Dt→Option (Dt×List Dt)
 |0,_=>none
 |  m+1,a0=>
    Dz m a0 0 Wj akS
def nT m x0:=
  ((pW m x0).bind fun r2=>
    ((vX m x0).bind fun r3=>
 ((jV m r3.1 r2.1).bind fun r4=>
 (bif r4 then
 ((bg m r2.2 r3.2).bind fun r5=>
 (bif r5 then
 ((amq).bind fun r6=>
 some r6)
 else
 some false))
 else
 some false))))
def nR:Nat→List Dt→Option Bool
  |0,_=>none
  | m+1,a0=>
    ((rJ m a0).bind fun r0=>
    (bif (r0 !=0) then
 ((amq).bind fun r1=>
 some r1)
    else
 nT m a0))
end Go.Proofs.YtjnkagkoolbodaaGreatDoor
