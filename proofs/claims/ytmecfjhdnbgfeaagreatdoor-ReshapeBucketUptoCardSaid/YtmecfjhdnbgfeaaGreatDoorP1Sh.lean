/- Generated: what the Go functions compute, over plain data. -/
import Derived.Test.YtmecfjhdnbgfeaaGreatDoorAm20
import Derived.Test.YtmecfjhdnbgfeaaGreatDoorOLibS
import Derived.Test.YtmecfjhdnbgfeaaGreatDoorOA
set_option linter.unusedVariables false
set_option linter.unusedSimpArgs false
noncomputable section
namespace Go.Proofs.YtmecfjhdnbgfeaaGreatDoor.P1
open Go.Am
def nC:Dt:=Dt.agg [(Dt.int 2),(Dt.int 0),(Dt.str (ByteArray.mk (List.toArray []))),(Dt.lst []),(Dt.lst [])]
def kza2373:Dt:=Dt.agg [(Dt.int 0),(Dt.int 0),(Dt.str (ByteArray.mk (List.toArray []))),(Dt.lst []),(Dt.lst [])]
def aT:Nat→Option Dt
 |0=>none
 |  m+1=>
    some nC
def oL:Nat→ByteArray→Option Dt
 |0,_=>none
 |  m+1,a0=>
    some (Dt.agg [(Dt.int 4),(Dt.int 0),(Dt.str a0),(Dt.lst []),(Dt.lst [])])
def aN:Nat→Int→Option Dt
 |0,_=>none
 |  m+1,a0=>
    some (Dt.agg [(Dt.int 3),(Dt.int a0),(Dt.str (ByteArray.mk (List.toArray []))),(Dt.lst []),(Dt.lst [])])
def zO (m:Nat):Nat→List Dt→Int→Int→Dt→Dt→Option Dt
 |0,_,_,_,_,_=>none
 |  M1+1,x0,x1,x2,x3,x4=>
    (bif (decide (x2<x1)) then
    (((idx x0 x2).bind fun v0=>(bif ((Dt.I v0 0) !=4) then((aT m).bind fun r1=>some r1) else(none))))
 else
    (none))
def expr_ofTexts_j9 (m:Nat) (x0:ByteArray) (x1 x2 x3:Dt):Option Dt:=
  ((cutS x0 (bif (decide ((ByteArray.size x0:Int)<(Dt.I x2 1))) then(ByteArray.size x0:Int) else(Dt.I x2 1)) (ByteArray.size x0:Int)).bind fun v13=>
    ((cutS v13 0 (bif (decide ((ByteArray.size v13:Int)<(Dt.I x3 1))) then(ByteArray.size v13:Int) else(Dt.I x3 1))).bind fun v14=>
 ((oL m v14).bind fun r15=>
 some r15)))
def mP (m:Nat) (x0:ByteArray) (x1:Bool) (x2 x3 x4:Dt):Option Dt:=
  (bif x1 then
    ((aT m).bind fun r12=>
 some r12)
  else
    expr_ofTexts_j9 m x0 x2 x3 x4)
def expr_ofTexts_j7 (m:Nat) (x0:List Dt) (x1:ByteArray) (x2:Dt):Option Dt:=
  ((idx x0 1).bind fun v10=>
    ((idx x0 2).bind fun v11=>
 (bif ((Dt.I v10 0) !=3) then
 mP m x1 true x2 v10 v11
 else
 (bif ((Dt.I v11 0) !=3) then
 mP m x1 true x2 v10 v11
 else
 (bif (decide ((Dt.I v10 1)<0)) then
 mP m x1 true x2 v10 v11
 else
 mP m x1 (decide ((Dt.I v11 1)<0)) x2 v10 v11)))))
def expr_ofTexts_j5 (m:Nat) (x0:Int) (x1:List Dt) (x2:Dt):Option Dt:=
  ((idx x1 0).bind fun v2=>
    (bif ((Dt.I v2 0) !=4) then
 ((aT m).bind fun r3=>
 some r3)
    else
 (((idx x1 0).bind fun v4=>(bif (x0==22) then((qp (Dt.S v4 2) 65 97).bind fun r5=>((oL m r5).bind fun r6=>some r6)) else(bif (x0==23) then((qp (Dt.S v4 2) 97 65).bind fun r7=>((oL m r7).bind fun r8=>some r8)) else(bif (x0==24) then((aN m (ByteArray.size (Dt.S v4 2):Int)).bind fun r9=>some r9) else expr_ofTexts_j7 m x1 (Dt.S v4 2) x2)))))))
def expr_ofTexts:Nat→Int→List Dt→Option Dt
 |0,_,_=>none
 |  m+1,a0,a1=>
    (bif (a0==21) then
    (zO m (Nat.succ m) a1 (List.length a1:Int) 0 kza2373 (Dt.agg [(Dt.lst []),(Dt.lst [])]))
 else
    expr_ofTexts_j5 m a0 a1 kza2373)
end Go.Proofs.YtmecfjhdnbgfeaaGreatDoor.P1
