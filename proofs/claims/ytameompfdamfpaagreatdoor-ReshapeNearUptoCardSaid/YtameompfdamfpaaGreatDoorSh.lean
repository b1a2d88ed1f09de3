/- Generated: what the Go functions compute, over plain data. -/
import Derived.Test.YtameompfdamfpaaGreatDoorAm20
import Derived.Test.YtameompfdamfpaaGreatDoorOAwake
set_option linter.unusedVariables false
set_option linter.unusedSimpArgs false
namespace Go.Proofs.YtameompfdamfpaaGreatDoor
open Go.Am
def kza2373:Dt:=Dt.agg [(Dt.int 0),(Dt.int 0),(Dt.str (ByteArray.mk (List.toArray []))),(Dt.lst []),(Dt.lst [])]
def kzcda49:Dt:=Dt.agg [(Dt.str (ByteArray.mk (List.toArray []))),(Dt.agg [(Dt.int 0),(Dt.int 0),(Dt.str (ByteArray.mk (List.toArray []))),(Dt.lst []),(Dt.lst [])])]
noncomputable def law03_SameList_j4 (m:Nat) (self27:Dt→Dt→Option Bool) (rec2:List Dt→List Dt→Int→Int→Option Bool) (x0 x1:List Dt) (x2 x3:Int):Option Bool:=
 rec2 x0 x1 x2 (IntKind.wrap .i64 (x3+1))
noncomputable def law03_SameList_j3 (m:Nat) (self27:Dt→Dt→Option Bool) (rec2:List Dt→List Dt→Int→Int→Option Bool) (x0 x1:List Dt) (x2 x3:Int):Option Bool:=
  ((idx x0 x3).bind fun v0=>
    ((idx x1 x3).bind fun v1=>
 ((self27 v0 v1).bind fun r2=>
 (bif (Bool.not r2) then
 some false
 else
 law03_SameList_j4 m self27 rec2 x0 x1 x2 x3))))
noncomputable def law03_SameList_j5 (m:Nat) (self27:Dt→Dt→Option Bool):Option Bool:=
 some true
noncomputable def law03_SameList_l2 (m:Nat) (self27:Dt→Dt→Option Bool):Nat→List Dt→List Dt→Int→Int→Option Bool
 |0,_,_,_,_=>none
 |M2+1,x0,x1,x2,x3=>
  (bif (decide (x3<x2)) then
  law03_SameList_j3 m self27 (law03_SameList_l2 m self27 M2) x0 x1 x2 x3
 else
  law03_SameList_j5 m self27)
noncomputable def law03_SameList_j1 (m:Nat) (self27:Dt→Dt→Option Bool) (x0 x1:List Dt) (x2 x3:Int):Option Bool:=
 law03_SameList_l2 m self27 (Nat.succ m) x0 x1 x2 x3
noncomputable def law03_SameList_j0 (m:Nat) (self27:Dt→Dt→Option Bool) (x0 x1:List Dt):Option Bool:=
 law03_SameList_j1 m self27 x0 x1 (List.length x0:Int) 0
noncomputable def law03_Same_j6 (m:Nat) (self5:List Dt→List Dt→Option Bool) (self27:Dt→Dt→Option Bool) (rec3:Int→Int→Dt→Dt→Option Bool) (x0 x1:Int) (x2 x3:Dt):Option Bool:=
 rec3 x0 (IntKind.wrap .i64 (x1+1)) x2 x3
noncomputable def law03_Same_j5 (m:Nat) (self5:List Dt→List Dt→Option Bool) (self27:Dt→Dt→Option Bool) (rec3:Int→Int→Dt→Dt→Option Bool) (x0 x1:Int) (x2:Bool) (x3 x4:Dt):Option Bool:=
 (bif x2 then
  some false
 else
  law03_Same_j6 m self5 self27 rec3 x0 x1 x3 x4)
noncomputable def law03_Same_j4 (m:Nat) (self5:List Dt→List Dt→Option Bool) (self27:Dt→Dt→Option Bool) (rec3:Int→Int→Dt→Dt→Option Bool) (x0 x1:Int) (x2 x3:Dt):Option Bool:=
  ((idx (Dt.L x2 4) x1).bind fun v0=>
    ((idx (Dt.L x3 4) x1).bind fun v1=>
 (bif (Bool.not ((ByteArray.toList (Dt.S v0 0))==(ByteArray.toList (Dt.S v1 0)))) then
 law03_Same_j5 m self5 self27 rec3 x0 x1 true x2 x3
 else
 ((idx (Dt.L x2 4) x1).bind fun v2=>
 ((idx (Dt.L x3 4) x1).bind fun v3=>
 ((self27 (Dt.fld v2 1) (Dt.fld v3 1)).bind fun r4=>
 law03_Same_j5 m self5 self27 rec3 x0 x1 (Bool.not r4) x2 x3))))))
noncomputable def law03_Same_j7 (m:Nat) (self5:List Dt→List Dt→Option Bool) (self27:Dt→Dt→Option Bool) (x0 x1:Dt):Option Bool:=
 ((self5 (Dt.L x0 3) (Dt.L x1 3)).bind fun r5=>
   some r5)
noncomputable def law03_Same_l3 (m:Nat) (self5:List Dt→List Dt→Option Bool) (self27:Dt→Dt→Option Bool):Nat→Int→Int→Dt→Dt→Option Bool
 |0,_,_,_,_=>none
 |M3+1,x0,x1,x2,x3=>
  (bif (decide (x1<x0)) then
  law03_Same_j4 m self5 self27 (law03_Same_l3 m self5 self27 M3) x0 x1 x2 x3
 else
  law03_Same_j7 m self5 self27 x2 x3)
noncomputable def law03_Same_j2 (m:Nat) (self5:List Dt→List Dt→Option Bool) (self27:Dt→Dt→Option Bool) (x0 x1:Int) (x2 x3:Dt):Option Bool:=
 law03_Same_l3 m self5 self27 (Nat.succ m) x0 x1 x2 x3
noncomputable def law03_Same_j1 (m:Nat) (self5:List Dt→List Dt→Option Bool) (self27:Dt→Dt→Option Bool) (x0 x1:Dt):Option Bool:=
 law03_Same_j2 m self5 self27 (List.length (Dt.L x0 4):Int) 0 x0 x1
noncomputable def law03_Same_j0 (m:Nat) (self5:List Dt→List Dt→Option Bool) (self27:Dt→Dt→Option Bool) (x0:Bool) (x1 x2:Dt):Option Bool:=
 (bif x0 then
  some false
 else
  law03_Same_j1 m self5 self27 x1 x2)
mutual
noncomputable def law03_SameList:Nat→List Dt→List Dt→Option Bool
 |0,_,_=>none
 |m+1,a0,a1=>
  (bif ((List.length a0:Int) !=(List.length a1:Int)) then
  some false
 else
  law03_SameList_j0 m (law03_Same m) a0 a1)
noncomputable def law03_Same:Nat→Dt→Dt→Option Bool
  |0,_,_=>none
  |m+1,a0,a1=>
   (bif ((Dt.I a0 0) !=(Dt.I a1 0)) then
   law03_Same_j0 m (law03_SameList m) (law03_Same m) true a0 a1
  else
   (bif ((Dt.I a0 1) !=(Dt.I a1 1)) then
 law03_Same_j0 m (law03_SameList m) (law03_Same m) true a0 a1
   else
 (bif (Bool.not ((ByteArray.toList (Dt.S a0 2))==(ByteArray.toList (Dt.S a1 2)))) then
 law03_Same_j0 m (law03_SameList m) (law03_Same m) true a0 a1
 else
 law03_Same_j0 m (law03_SameList m) (law03_Same m) ((List.length (Dt.L a0 4):Int) !=(List.length (Dt.L a1 4):Int)) a0 a1)))
end
noncomputable def reshape_Near_1:Nat→Dt→Dt→Option Int
 |0,_,_=>none
 |m+1,a0,a1=>
  some (IntKind.wrap .i64 ((Dt.I a0 1)-(Dt.I a1 1)))
noncomputable def i14_j6 (m:Nat) (rec1:Int→Int→Int→List Dt→Option (List Dt)) (rec4:Int→Int→Int→Int→List Dt→Option (List Dt)) (x0 x1 x2 x3:Int) (x4:List Dt):Option (List Dt):=
 rec4 x0 x1 x2 (IntKind.wrap .i64 (x3-1)) x4
noncomputable def i14_j5 (m:Nat) (rec1:Int→Int→Int→List Dt→Option (List Dt)) (rec4:Int→Int→Int→Int→List Dt→Option (List Dt)) (x0 x1 x2 x3:Int) (x4:List Dt):Option (List Dt):=
  ((inL x4 (IntKind.wrap .i64 (x3-1))).bind fun v5=>
    ((x4[(Int.toNat (IntKind.wrap .i64 (x3-1)))]?).bind fun v6=>
 ((inL x4 x3).bind fun v7=>
 ((x4[(Int.toNat x3)]?).bind fun v8=>
 ((inL x4 x3).bind fun v9=>
 ((x4[(Int.toNat x3)]?).bind fun v10=>
 ((inL (List.set x4 (Int.toNat x3) v6) (IntKind.wrap .i64 (x3-1))).bind fun v11=>
 (((List.set x4 (Int.toNat x3) v6)[(Int.toNat (IntKind.wrap .i64 (x3-1)))]?).bind fun v12=>
 i14_j6 m rec1 rec4 x0 x1 x2 x3 (List.set (List.set x4 (Int.toNat x3) v6) (Int.toNat (IntKind.wrap .i64 (x3-1))) v8)))))))))
noncomputable def i14_j7 (m:Nat) (rec1:Int→Int→Int→List Dt→Option (List Dt)) (x0 x1 x2:Int) (x3:List Dt):Option (List Dt):=
 rec1 x0 x1 (IntKind.wrap .i64 (x2+1)) x3
noncomputable def i14_l4 (m:Nat) (rec1:Int→Int→Int→List Dt→Option (List Dt)):Nat→Int→Int→Int→Int→List Dt→Option (List Dt)
  |0,_,_,_,_,_=>none
  |M4+1,x0,x1,x2,x3,x4=>
   (bif (decide (x0<x3)) then
   ((inL x4 x3).bind fun v0=>
 ((x4[(Int.toNat x3)]?).bind fun v1=>
 ((inL x4 (IntKind.wrap .i64 (x3-1))).bind fun v2=>
 ((x4[(Int.toNat (IntKind.wrap .i64 (x3-1)))]?).bind fun v3=>
 ((reshape_Near_1 m v1 v3).bind fun r4=>
 (bif (decide (r4<0)) then
 i14_j5 m rec1 (i14_l4 m rec1 M4) x0 x1 x2 x3 x4
 else
 i14_j7 m rec1 x0 x1 x2 x4))))))
  else
   i14_j7 m rec1 x0 x1 x2 x4)
noncomputable def i14_j3 (m:Nat) (rec1:Int→Int→Int→List Dt→Option (List Dt)) (x0 x1 x2 x3:Int) (x4:List Dt):Option (List Dt):=
 i14_l4 m rec1 (Nat.succ m) x0 x1 x2 x3 x4
noncomputable def i14_j2 (m:Nat) (rec1:Int→Int→Int→List Dt→Option (List Dt)) (x0 x1 x2:Int) (x3:List Dt):Option (List Dt):=
 i14_j3 m rec1 x0 x1 x2 x2 x3
noncomputable def i14_l1 (m:Nat):Nat→Int→Int→Int→List Dt→Option (List Dt)
 |0,_,_,_,_=>none
 |M1+1,x0,x1,x2,x3=>
  (bif (decide (x2<x1)) then
  i14_j2 m (i14_l1 m M1) x0 x1 x2 x3
 else
  some x3)
noncomputable def i14_j0 (m:Nat) (x0 x1 x2:Int) (x3:List Dt):Option (List Dt):=
 i14_l1 m (Nat.succ m) x0 x1 x2 x3
noncomputable def i14:Nat→Int→Int→List Dt→Option (List Dt)
 |0,_,_,_=>none
 |m+1,a0,a1,a2=>
  i14_j0 m a0 a1 (IntKind.wrap .i64 (a0+1)) a2
noncomputable def i18_j3 (m:Nat) (rec1:Int→Int→Int→Int→List Dt→Option (List Dt)) (x0 x1 x2 x3:Int) (x4:List Dt):Option (List Dt):=
 rec1 x0 x1 x2 (IntKind.wrap .i64 (x3+1)) x4
noncomputable def i18_j2 (m:Nat) (rec1:Int→Int→Int→Int→List Dt→Option (List Dt)) (x0 x1 x2 x3:Int) (x4:List Dt):Option (List Dt):=
  ((inL x4 (IntKind.wrap .i64 (x1+x3))).bind fun v0=>
    ((x4[(Int.toNat (IntKind.wrap .i64 (x1+x3)))]?).bind fun v1=>
 ((inL x4 (IntKind.wrap .i64 (x0+x3))).bind fun v2=>
 ((x4[(Int.toNat (IntKind.wrap .i64 (x0+x3)))]?).bind fun v3=>
 ((inL x4 (IntKind.wrap .i64 (x0+x3))).bind fun v4=>
 ((x4[(Int.toNat (IntKind.wrap .i64 (x0+x3)))]?).bind fun v5=>
 ((inL (List.set x4 (Int.toNat (IntKind.wrap .i64 (x0+x3))) v1) (IntKind.wrap .i64 (x1+x3))).bind fun v6=>
 (((List.set x4 (Int.toNat (IntKind.wrap .i64 (x0+x3))) v1)[(Int.toNat (IntKind.wrap .i64 (x1+x3)))]?).bind fun v7=>
 i18_j3 m rec1 x0 x1 x2 x3 (List.set (List.set x4 (Int.toNat (IntKind.wrap .i64 (x0+x3))) v1) (Int.toNat (IntKind.wrap .i64 (x1+x3))) v3)))))))))
noncomputable def i18_l1 (m:Nat):Nat→Int→Int→Int→Int→List Dt→Option (List Dt)
 |0,_,_,_,_,_=>none
 |M1+1,x0,x1,x2,x3,x4=>
  (bif (decide (x3<x2)) then
  i18_j2 m (i18_l1 m M1) x0 x1 x2 x3 x4
 else
  some x4)
noncomputable def i18_j0 (m:Nat) (x0 x1 x2 x3:Int) (x4:List Dt):Option (List Dt):=
 i18_l1 m (Nat.succ m) x0 x1 x2 x3 x4
noncomputable def i18:Nat→Int→Int→Int→List Dt→Option (List Dt)
 |0,_,_,_,_=>none
 |m+1,a0,a1,a2,a3=>
  i18_j0 m a0 a1 a2 0 a3
noncomputable def i17_j2 (m:Nat) (rec1:Int→Int→Int→List Dt→Option (List Dt)) (x0 x1 x2:Int) (x3:List Dt):Option (List Dt):=
  (bif (decide (x2<x1)) then
   ((i18 m (IntKind.wrap .i64 (x0-x1)) x0 x2 x3).bind fun r0=>
 rec1 x0 (IntKind.wrap .i64 (x1-x2)) x2 r0)
  else
   ((i18 m (IntKind.wrap .i64 (x0-x1)) (IntKind.wrap .i64 ((IntKind.wrap .i64 (x0+x2))-x1)) x1 x3).bind fun r1=>
 rec1 x0 x1 (IntKind.wrap .i64 (x2-x1)) r1))
noncomputable def i17_j3 (m:Nat) (x0 x1:Int) (x2:List Dt):Option (List Dt):=
 ((i18 m (IntKind.wrap .i64 (x0-x1)) x0 x1 x2).bind fun r2=>
   some r2)
noncomputable def i17_l1 (m:Nat):Nat→Int→Int→Int→List Dt→Option (List Dt)
 |0,_,_,_,_=>none
 |M1+1,x0,x1,x2,x3=>
  (bif (x1 !=x2) then
  i17_j2 m (i17_l1 m M1) x0 x1 x2 x3
 else
  i17_j3 m x0 x1 x3)
noncomputable def i17_j0 (m:Nat) (x0 x1 x2:Int) (x3:List Dt):Option (List Dt):=
 i17_l1 m (Nat.succ m) x0 x1 x2 x3
noncomputable def i17:Nat→Int→Int→Int→List Dt→Option (List Dt)
 |0,_,_,_,_=>none
 |m+1,a0,a1,a2,a3=>
  i17_j0 m a1 (IntKind.wrap .i64 (a1-a0)) (IntKind.wrap .i64 (a2-a1)) a3
noncomputable def i16_j2 (m:Nat) (self16:Int→Int→Int→List Dt→Option (List Dt)) (rec1:Int→Int→Int→List Dt→Option (List Dt)) (x0 x1 x2:Int) (x3:List Dt):Option (List Dt):=
  ((inL x3 (IntKind.wrap .i64 (shrI IntKind.u64 (IntKind.wrap IntKind.u64 (IntKind.wrap .i64 (x1+x2))) 1))).bind fun v0=>
    ((x3[(Int.toNat (IntKind.wrap .i64 (shrI IntKind.u64 (IntKind.wrap IntKind.u64 (IntKind.wrap .i64 (x1+x2))) 1)))]?).bind fun v1=>
 ((inL x3 x0).bind fun v2=>
 ((x3[(Int.toNat x0)]?).bind fun v3=>
 ((reshape_Near_1 m v1 v3).bind fun r4=>
 (bif (decide (r4<0)) then
 rec1 x0 (IntKind.wrap .i64 ((IntKind.wrap .i64 (shrI IntKind.u64 (IntKind.wrap IntKind.u64 (IntKind.wrap .i64 (x1+x2))) 1))+1)) x2 x3
 else
 rec1 x0 x1 (IntKind.wrap .i64 (shrI IntKind.u64 (IntKind.wrap IntKind.u64 (IntKind.wrap .i64 (x1+x2))) 1)) x3))))))
noncomputable def i16_j7 (m:Nat) (self16:Int→Int→Int→List Dt→Option (List Dt)) (rec5:Int→Int→List Dt→Option (List Dt)) (x0 x1:Int) (x2:List Dt):Option (List Dt):=
 rec5 x0 (IntKind.wrap .i64 (x1+1)) x2
noncomputable def i16_j6 (m:Nat) (self16:Int→Int→Int→List Dt→Option (List Dt)) (rec5:Int→Int→List Dt→Option (List Dt)) (x0 x1:Int) (x2:List Dt):Option (List Dt):=
  ((inL x2 (IntKind.wrap .i64 (x1+1))).bind fun v5=>
    ((x2[(Int.toNat (IntKind.wrap .i64 (x1+1)))]?).bind fun v6=>
 ((inL x2 x1).bind fun v7=>
 ((x2[(Int.toNat x1)]?).bind fun v8=>
 ((inL x2 x1).bind fun v9=>
 ((x2[(Int.toNat x1)]?).bind fun v10=>
 ((inL (List.set x2 (Int.toNat x1) v6) (IntKind.wrap .i64 (x1+1))).bind fun v11=>
 (((List.set x2 (Int.toNat x1) v6)[(Int.toNat (IntKind.wrap .i64 (x1+1)))]?).bind fun v12=>
 i16_j7 m self16 rec5 x0 x1 (List.set (List.set x2 (Int.toNat x1) v6) (Int.toNat (IntKind.wrap .i64 (x1+1))) v8)))))))))
noncomputable def i16_l5 (m:Nat) (self16:Int→Int→Int→List Dt→Option (List Dt)):Nat→Int→Int→List Dt→Option (List Dt)
 |0,_,_,_=>none
 |M5+1,x0,x1,x2=>
  (bif (decide (x1<(IntKind.wrap .i64 (x0-1)))) then
  i16_j6 m self16 (i16_l5 m self16 M5) x0 x1 x2
 else
  some x2)
noncomputable def i16_j4 (m:Nat) (self16:Int→Int→Int→List Dt→Option (List Dt)) (x0 x1:Int) (x2:List Dt):Option (List Dt):=
 i16_l5 m self16 (Nat.succ m) x0 x1 x2
noncomputable def i16_j3 (m:Nat) (self16:Int→Int→Int→List Dt→Option (List Dt)) (x0 x1:Int) (x2:List Dt):Option (List Dt):=
 i16_j4 m self16 x1 x0 x2
noncomputable def i16_l1 (m:Nat) (self16:Int→Int→Int→List Dt→Option (List Dt)):Nat→Int→Int→Int→List Dt→Option (List Dt)
 |0,_,_,_,_=>none
 |M1+1,x0,x1,x2,x3=>
  (bif (decide (x1<x2)) then
  i16_j2 m self16 (i16_l1 m self16 M1) x0 x1 x2 x3
 else
  i16_j3 m self16 x0 x1 x3)
noncomputable def i16_j0 (m:Nat) (self16:Int→Int→Int→List Dt→Option (List Dt)) (x0 x1 x2:Int) (x3:List Dt):Option (List Dt):=
 i16_l1 m self16 (Nat.succ m) x0 x1 x2 x3
noncomputable def i16_j11 (m:Nat) (self16:Int→Int→Int→List Dt→Option (List Dt)) (rec10:Int→Int→Int→List Dt→Option (List Dt)) (x0 x1 x2:Int) (x3:List Dt):Option (List Dt):=
  ((inL x3 x0).bind fun v13=>
    ((x3[(Int.toNat x0)]?).bind fun v14=>
 ((inL x3 (IntKind.wrap .i64 (shrI IntKind.u64 (IntKind.wrap IntKind.u64 (IntKind.wrap .i64 (x1+x2))) 1))).bind fun v15=>
 ((x3[(Int.toNat (IntKind.wrap .i64 (shrI IntKind.u64 (IntKind.wrap IntKind.u64 (IntKind.wrap .i64 (x1+x2))) 1)))]?).bind fun v16=>
 ((reshape_Near_1 m v14 v16).bind fun r17=>
 (bif (Bool.not (decide (r17<0))) then
 rec10 x0 (IntKind.wrap .i64 ((IntKind.wrap .i64 (shrI IntKind.u64 (IntKind.wrap IntKind.u64 (IntKind.wrap .i64 (x1+x2))) 1))+1)) x2 x3
 else
 rec10 x0 x1 (IntKind.wrap .i64 (shrI IntKind.u64 (IntKind.wrap IntKind.u64 (IntKind.wrap .i64 (x1+x2))) 1)) x3))))))
noncomputable def i16_j16 (m:Nat) (self16:Int→Int→Int→List Dt→Option (List Dt)) (rec14:Int→Int→List Dt→Option (List Dt)) (x0 x1:Int) (x2:List Dt):Option (List Dt):=
 rec14 x0 (IntKind.wrap .i64 (x1-1)) x2
noncomputable def i16_j15 (m:Nat) (self16:Int→Int→Int→List Dt→Option (List Dt)) (rec14:Int→Int→List Dt→Option (List Dt)) (x0 x1:Int) (x2:List Dt):Option (List Dt):=
  ((inL x2 (IntKind.wrap .i64 (x1-1))).bind fun v18=>
    ((x2[(Int.toNat (IntKind.wrap .i64 (x1-1)))]?).bind fun v19=>
 ((inL x2 x1).bind fun v20=>
 ((x2[(Int.toNat x1)]?).bind fun v21=>
 ((inL x2 x1).bind fun v22=>
 ((x2[(Int.toNat x1)]?).bind fun v23=>
 ((inL (List.set x2 (Int.toNat x1) v19) (IntKind.wrap .i64 (x1-1))).bind fun v24=>
 (((List.set x2 (Int.toNat x1) v19)[(Int.toNat (IntKind.wrap .i64 (x1-1)))]?).bind fun v25=>
 i16_j16 m self16 rec14 x0 x1 (List.set (List.set x2 (Int.toNat x1) v19) (Int.toNat (IntKind.wrap .i64 (x1-1))) v21)))))))))
noncomputable def i16_l14 (m:Nat) (self16:Int→Int→Int→List Dt→Option (List Dt)):Nat→Int→Int→List Dt→Option (List Dt)
 |0,_,_,_=>none
 |M14+1,x0,x1,x2=>
  (bif (decide (x0<x1)) then
  i16_j15 m self16 (i16_l14 m self16 M14) x0 x1 x2
 else
  some x2)
noncomputable def i16_j13 (m:Nat) (self16:Int→Int→Int→List Dt→Option (List Dt)) (x0 x1:Int) (x2:List Dt):Option (List Dt):=
 i16_l14 m self16 (Nat.succ m) x0 x1 x2
noncomputable def i16_j12 (m:Nat) (self16:Int→Int→Int→List Dt→Option (List Dt)) (x0 x1:Int) (x2:List Dt):Option (List Dt):=
 i16_j13 m self16 x1 x0 x2
noncomputable def i16_l10 (m:Nat) (self16:Int→Int→Int→List Dt→Option (List Dt)):Nat→Int→Int→Int→List Dt→Option (List Dt)
 |0,_,_,_,_=>none
 |M10+1,x0,x1,x2,x3=>
  (bif (decide (x1<x2)) then
  i16_j11 m self16 (i16_l10 m self16 M10) x0 x1 x2 x3
 else
  i16_j12 m self16 x0 x1 x3)
noncomputable def i16_j9 (m:Nat) (self16:Int→Int→Int→List Dt→Option (List Dt)) (x0 x1 x2:Int) (x3:List Dt):Option (List Dt):=
 i16_l10 m self16 (Nat.succ m) x0 x1 x2 x3
noncomputable def i16_j21 (m:Nat) (self16:Int→Int→Int→List Dt→Option (List Dt)) (rec20:Int→Int→Int→Int→Int→Int→Int→Int→List Dt→Option (List Dt)) (x0 x1 x2 x3 x4 x5 x6 x7:Int) (x8:List Dt):Option (List Dt):=
  ((inL x8 (IntKind.wrap .i64 (x7-(IntKind.wrap .i64 (shrI IntKind.u64 (IntKind.wrap IntKind.u64 (IntKind.wrap .i64 (x5+x6))) 1))))).bind fun v26=>
    ((x8[(Int.toNat (IntKind.wrap .i64 (x7-(IntKind.wrap .i64 (shrI IntKind.u64 (IntKind.wrap IntKind.u64 (IntKind.wrap .i64 (x5+x6))) 1)))))]?).bind fun v27=>
 ((inL x8 (IntKind.wrap .i64 (shrI IntKind.u64 (IntKind.wrap IntKind.u64 (IntKind.wrap .i64 (x5+x6))) 1))).bind fun v28=>
 ((x8[(Int.toNat (IntKind.wrap .i64 (shrI IntKind.u64 (IntKind.wrap IntKind.u64 (IntKind.wrap .i64 (x5+x6))) 1)))]?).bind fun v29=>
 ((reshape_Near_1 m v27 v29).bind fun r30=>
 (bif (Bool.not (decide (r30<0))) then
 rec20 x0 x1 x2 x3 x4 (IntKind.wrap .i64 ((IntKind.wrap .i64 (shrI IntKind.u64 (IntKind.wrap IntKind.u64 (IntKind.wrap .i64 (x5+x6))) 1))+1)) x6 x7 x8
 else
 rec20 x0 x1 x2 x3 x4 x5 (IntKind.wrap .i64 (shrI IntKind.u64 (IntKind.wrap IntKind.u64 (IntKind.wrap .i64 (x5+x6))) 1)) x7 x8))))))
noncomputable def i16_j27 (m:Nat) (self16:Int→Int→Int→List Dt→Option (List Dt)) (x0 x1 x2:Int) (x3:Bool) (x4:List Dt):Option (List Dt):=
  (bif x3 then
   ((self16 x1 x2 x0 x4).bind fun r33=>
 some r33)
  else
   some x4)
noncomputable def i16_j26 (m:Nat) (self16:Int→Int→Int→List Dt→Option (List Dt)) (x0 x1 x2:Int) (x3:List Dt):Option (List Dt):=
 (bif (decide (x1<x2)) then
  i16_j27 m self16 x0 x1 x2 (decide (x2<x0)) x3
 else
  i16_j27 m self16 x0 x1 x2 false x3)
noncomputable def i16_j25 (m:Nat) (self16:Int→Int→Int→List Dt→Option (List Dt)) (x0 x1 x2 x3 x4:Int) (x5:Bool) (x6:List Dt):Option (List Dt):=
  (bif x5 then
   ((self16 x0 x3 x2 x6).bind fun r32=>
 i16_j26 m self16 x1 x2 x4 r32)
  else
   i16_j26 m self16 x1 x2 x4 x6)
noncomputable def i16_j24 (m:Nat) (self16:Int→Int→Int→List Dt→Option (List Dt)) (x0 x1 x2 x3 x4:Int) (x5:List Dt):Option (List Dt):=
 (bif (decide (x0<x3)) then
  i16_j25 m self16 x0 x1 x2 x3 x4 (decide (x3<x2)) x5
 else
  i16_j25 m self16 x0 x1 x2 x3 x4 false x5)
noncomputable def i16_j23 (m:Nat) (self16:Int→Int→Int→List Dt→Option (List Dt)) (x0 x1 x2 x3 x4 x5:Int) (x6:Bool) (x7:List Dt):Option (List Dt):=
  (bif x6 then
   ((i17 m x4 x1 x5 x7).bind fun r31=>
 i16_j24 m self16 x0 x2 x3 x4 x5 r31)
  else
   i16_j24 m self16 x0 x2 x3 x4 x5 x7)
noncomputable def i16_j22 (m:Nat) (self16:Int→Int→Int→List Dt→Option (List Dt)) (x0 x1 x2 x3 x4 x5:Int) (x6:List Dt):Option (List Dt):=
 (bif (decide (x5<x1)) then
  i16_j23 m self16 x0 x1 x2 x3 x5 (IntKind.wrap .i64 (x4-x5)) (decide (x1<(IntKind.wrap .i64 (x4-x5)))) x6
 else
  i16_j23 m self16 x0 x1 x2 x3 x5 (IntKind.wrap .i64 (x4-x5)) false x6)
noncomputable def i16_l20 (m:Nat) (self16:Int→Int→Int→List Dt→Option (List Dt)):Nat→Int→Int→Int→Int→Int→Int→Int→Int→List Dt→Option (List Dt)
 |0,_,_,_,_,_,_,_,_,_=>none
 |M20+1,x0,x1,x2,x3,x4,x5,x6,x7,x8=>
  (bif (decide (x5<x6)) then
  i16_j21 m self16 (i16_l20 m self16 M20) x0 x1 x2 x3 x4 x5 x6 x7 x8
 else
  i16_j22 m self16 x0 x1 x2 x3 x4 x5 x8)
noncomputable def i16_j19 (m:Nat) (self16:Int→Int→Int→List Dt→Option (List Dt)) (x0 x1 x2 x3 x4 x5 x6 x7:Int) (x8:List Dt):Option (List Dt):=
 i16_l20 m self16 (Nat.succ m) x0 x1 x2 x3 x4 x5 x6 x7 x8
noncomputable def i16_j18 (m:Nat) (self16:Int→Int→Int→List Dt→Option (List Dt)) (x0 x1 x2 x3 x4 x5 x6:Int) (x7:List Dt):Option (List Dt):=
 i16_j19 m self16 x0 x1 x2 x3 x4 x5 x6 (IntKind.wrap .i64 (x4-1)) x7
noncomputable def i16_j17 (m:Nat) (self16:Int→Int→Int→List Dt→Option (List Dt)) (x0 x1 x2:Int) (x3:List Dt):Option (List Dt):=
 (bif (decide ((IntKind.wrap .i64 (shrI IntKind.u64 (IntKind.wrap IntKind.u64 (IntKind.wrap .i64 (x0+x2))) 1))<x1)) then
  i16_j18 m self16 x0 x1 x2 (IntKind.wrap .i64 (shrI IntKind.u64 (IntKind.wrap IntKind.u64 (IntKind.wrap .i64 (x0+x2))) 1)) (IntKind.wrap .i64 ((IntKind.wrap .i64 (shrI IntKind.u64 (IntKind.wrap IntKind.u64 (IntKind.wrap .i64 (x0+x2))) 1))+x1)) (IntKind.wrap .i64 ((IntKind.wrap .i64 ((IntKind.wrap .i64 (shrI IntKind.u64 (IntKind.wrap IntKind.u64 (IntKind.wrap .i64 (x0+x2))) 1))+x1))-x2)) (IntKind.wrap .i64 (shrI IntKind.u64 (IntKind.wrap IntKind.u64 (IntKind.wrap .i64 (x0+x2))) 1)) x3
 else
  i16_j18 m self16 x0 x1 x2 (IntKind.wrap .i64 (shrI IntKind.u64 (IntKind.wrap IntKind.u64 (IntKind.wrap .i64 (x0+x2))) 1)) (IntKind.wrap .i64 ((IntKind.wrap .i64 (shrI IntKind.u64 (IntKind.wrap IntKind.u64 (IntKind.wrap .i64 (x0+x2))) 1))+x1)) x0 x1 x3)
noncomputable def i16_j8 (m:Nat) (self16:Int→Int→Int→List Dt→Option (List Dt)) (x0 x1 x2:Int) (x3:List Dt):Option (List Dt):=
 (bif ((IntKind.wrap .i64 (x2-x1))==1) then
  i16_j9 m self16 x1 x0 x1 x3
 else
  i16_j17 m self16 x0 x1 x2 x3)
noncomputable def i16:Nat→Int→Int→Int→List Dt→Option (List Dt)
 |0,_,_,_,_=>none
 |m+1,a0,a1,a2,a3=>
  (bif ((IntKind.wrap .i64 (a1-a0))==1) then
  i16_j0 m (i16 m) a0 a1 a2 a3
 else
  i16_j8 m (i16 m) a0 a1 a2 a3)
noncomputable def i13_j2 (m:Nat) (rec1:Int→Int→Int→Int→List Dt→Option (List Dt)) (x0 x1 x2 x3:Int) (x4:List Dt):Option (List Dt):=
 ((i14 m x2 x3 x4).bind fun r0=>
   rec1 x0 x1 x3 (IntKind.wrap .i64 (x3+x1)) r0)
noncomputable def i13_j9 (m:Nat) (rec5:Int→Int→List Dt→Option (List Dt)) (rec8:Int→Int→Int→Int→List Dt→Option (List Dt)) (x0 x1 x2 x3:Int) (x4:List Dt):Option (List Dt):=
 ((i16 m x2 (IntKind.wrap .i64 (x2+x1)) x3 x4).bind fun r2=>
   rec8 x0 x1 x3 (IntKind.wrap .i64 (x3+(IntKind.wrap .i64 (2*x1)))) r2)
noncomputable def i13_j11 (m:Nat) (rec5:Int→Int→List Dt→Option (List Dt)) (x0 x1:Int) (x2:List Dt):Option (List Dt):=
 rec5 x0 (IntKind.wrap .i64 (x1*2)) x2
noncomputable def i13_j10 (m:Nat) (rec5:Int→Int→List Dt→Option (List Dt)) (x0 x1 x2:Int) (x3:List Dt):Option (List Dt):=
  (bif (decide ((IntKind.wrap .i64 (x2+x1))<x0)) then
   ((i16 m x2 (IntKind.wrap .i64 (x2+x1)) x0 x3).bind fun r3=>
 i13_j11 m rec5 x0 x1 r3)
  else
   i13_j11 m rec5 x0 x1 x3)
noncomputable def i13_l8 (m:Nat) (rec5:Int→Int→List Dt→Option (List Dt)):Nat→Int→Int→Int→Int→List Dt→Option (List Dt)
 |0,_,_,_,_,_=>none
 |M8+1,x0,x1,x2,x3,x4=>
  (bif (decide (x3≤x0)) then
  i13_j9 m rec5 (i13_l8 m rec5 M8) x0 x1 x2 x3 x4
 else
  i13_j10 m rec5 x0 x1 x2 x4)
noncomputable def i13_j7 (m:Nat) (rec5:Int→Int→List Dt→Option (List Dt)) (x0 x1 x2 x3:Int) (x4:List Dt):Option (List Dt):=
 i13_l8 m rec5 (Nat.succ m) x0 x1 x2 x3 x4
noncomputable def i13_j6 (m:Nat) (rec5:Int→Int→List Dt→Option (List Dt)) (x0 x1:Int) (x2:List Dt):Option (List Dt):=
 i13_j7 m rec5 x0 x1 0 (IntKind.wrap .i64 (2*x1)) x2
noncomputable def i13_l5 (m:Nat):Nat→Int→Int→List Dt→Option (List Dt)
 |0,_,_,_=>none
 |M5+1,x0,x1,x2=>
  (bif (decide (x1<x0)) then
  i13_j6 m (i13_l5 m M5) x0 x1 x2
 else
  some x2)
noncomputable def i13_j4 (m:Nat) (x0 x1:Int) (x2:List Dt):Option (List Dt):=
 i13_l5 m (Nat.succ m) x0 x1 x2
noncomputable def i13_j3 (m:Nat) (x0 x1 x2:Int) (x3:List Dt):Option (List Dt):=
 ((i14 m x2 x0 x3).bind fun r1=>
   i13_j4 m x0 x1 r1)
noncomputable def i13_l1 (m:Nat):Nat→Int→Int→Int→Int→List Dt→Option (List Dt)
 |0,_,_,_,_,_=>none
 |M1+1,x0,x1,x2,x3,x4=>
  (bif (decide (x3≤x0)) then
  i13_j2 m (i13_l1 m M1) x0 x1 x2 x3 x4
 else
  i13_j3 m x0 x1 x2 x4)
noncomputable def i13_j0 (m:Nat) (x0 x1 x2 x3:Int) (x4:List Dt):Option (List Dt):=
 i13_l1 m (Nat.succ m) x0 x1 x2 x3 x4
noncomputable def i13:Nat→Int→List Dt→Option (List Dt)
 |0,_,_=>none
 |m+1,a0,a1=>
  i13_j0 m a0 20 0 20 a1
noncomputable def i12:Nat→List Dt→Option (List Dt)
 |0,_=>none
 |m+1,a0=>
  ((i13 m (List.length a0:Int) a0).bind fun r0=>
  some r0)
noncomputable def reshape_copyValue_j3 (m:Nat) (self19:Dt→Option Dt) (rec1:List Dt→Int→Int→Dt→Dt→Int→Int→ByteArray→List Dt→List Dt→Option Dt) (x0:List Dt) (x1 x2:Int) (x3 x4:Dt) (x5 x6:Int) (x7:ByteArray) (x8 x9:List Dt):Option Dt:=
 rec1 x0 x1 (IntKind.wrap .i64 (x2+1)) x3 x4 x5 x6 x7 x8 x9
noncomputable def reshape_copyValue_j2 (m:Nat) (self19:Dt→Option Dt) (rec1:List Dt→Int→Int→Dt→Dt→Int→Int→ByteArray→List Dt→List Dt→Option Dt) (x0:List Dt) (x1 x2:Int) (x3 x4:Dt) (x5 x6:Int) (x7:ByteArray) (x8 x9:List Dt):Option Dt:=
  ((idx x0 x2).bind fun v0=>
    ((self19 v0).bind fun r1=>
 ((app x8 [r1]).bind fun v2=>
 reshape_copyValue_j3 m self19 rec1 x0 x1 x2 x3 x4 x5 x6 x7 v2 x9)))
noncomputable def reshape_copyValue_j8 (m:Nat) (self19:Dt→Option Dt) (rec6:List Dt→Int→Int→Dt→Int→Int→ByteArray→List Dt→List Dt→Option Dt) (x0:List Dt) (x1 x2:Int) (x3:Dt) (x4 x5:Int) (x6:ByteArray) (x7 x8:List Dt):Option Dt:=
 rec6 x0 x1 (IntKind.wrap .i64 (x2+1)) x3 x4 x5 x6 x7 x8
noncomputable def reshape_copyValue_j7 (m:Nat) (self19:Dt→Option Dt) (rec6:List Dt→Int→Int→Dt→Int→Int→ByteArray→List Dt→List Dt→Option Dt) (x0:List Dt) (x1 x2:Int) (x3:Dt) (x4 x5:Int) (x6:ByteArray) (x7 x8:List Dt):Option Dt:=
  ((idx x0 x2).bind fun v3=>
    ((self19 (Dt.fld v3 1)).bind fun r4=>
 ((app x8 [(Dt.agg [(Dt.str (Dt.S v3 0)),r4])]).bind fun v5=>
 reshape_copyValue_j8 m self19 rec6 x0 x1 x2 x3 x4 x5 x6 x7 v5)))
noncomputable def reshape_copyValue_j9 (m:Nat) (self19:Dt→Option Dt) (x0:Dt) (x1 x2:Int) (x3:ByteArray) (x4 x5:List Dt):Option Dt:=
 some (Dt.agg [(Dt.int x1),(Dt.int x2),(Dt.str x3),(Dt.lst x4),(Dt.lst x5)])
noncomputable def reshape_copyValue_l6 (m:Nat) (self19:Dt→Option Dt):Nat→List Dt→Int→Int→Dt→Int→Int→ByteArray→List Dt→List Dt→Option Dt
 |0,_,_,_,_,_,_,_,_,_=>none
 |M6+1,x0,x1,x2,x3,x4,x5,x6,x7,x8=>
  (bif (decide (x2<x1)) then
  reshape_copyValue_j7 m self19 (reshape_copyValue_l6 m self19 M6) x0 x1 x2 x3 x4 x5 x6 x7 x8
 else
  reshape_copyValue_j9 m self19 x3 x4 x5 x6 x7 x8)
noncomputable def reshape_copyValue_j5 (m:Nat) (self19:Dt→Option Dt) (x0:List Dt) (x1 x2:Int) (x3:Dt) (x4 x5:Int) (x6:ByteArray) (x7 x8:List Dt):Option Dt:=
 reshape_copyValue_l6 m self19 (Nat.succ m) x0 x1 x2 x3 x4 x5 x6 x7 x8
noncomputable def reshape_copyValue_j4 (m:Nat) (self19:Dt→Option Dt) (x0 x1:Dt) (x2 x3:Int) (x4:ByteArray) (x5 x6:List Dt):Option Dt:=
 reshape_copyValue_j5 m self19 (Dt.L x0 4) (List.length (Dt.L x0 4):Int) 0 x1 x2 x3 x4 x5 x6
noncomputable def reshape_copyValue_l1 (m:Nat) (self19:Dt→Option Dt):Nat→List Dt→Int→Int→Dt→Dt→Int→Int→ByteArray→List Dt→List Dt→Option Dt
 |0,_,_,_,_,_,_,_,_,_,_=>none
 |M1+1,x0,x1,x2,x3,x4,x5,x6,x7,x8,x9=>
  (bif (decide (x2<x1)) then
  reshape_copyValue_j2 m self19 (reshape_copyValue_l1 m self19 M1) x0 x1 x2 x3 x4 x5 x6 x7 x8 x9
 else
  reshape_copyValue_j4 m self19 x3 x4 x5 x6 x7 x8 x9)
noncomputable def reshape_copyValue_j0 (m:Nat) (self19:Dt→Option Dt) (x0:List Dt) (x1 x2:Int) (x3 x4:Dt) (x5 x6:Int) (x7:ByteArray) (x8 x9:List Dt):Option Dt:=
 reshape_copyValue_l1 m self19 (Nat.succ m) x0 x1 x2 x3 x4 x5 x6 x7 x8 x9
noncomputable def reshape_copyValue:Nat→Dt→Option Dt
 |0,_=>none
 |m+1,a0=>
  reshape_copyValue_j0 m (reshape_copyValue m) (Dt.L a0 3) (List.length (Dt.L a0 3):Int) 0 a0 kza2373 (Dt.I a0 0) (Dt.I a0 1) (Dt.S a0 2) [] []
noncomputable def reshape_integer:Nat→Int→Option Dt
 |0,_=>none
 |m+1,a0=>
  some (Dt.agg [(Dt.int 3),(Dt.int a0),(Dt.str (ByteArray.mk (List.toArray []))),(Dt.lst []),(Dt.lst [])])
noncomputable def ref36_integer:Nat→Int→Option Dt
 |0,_=>none
 |m+1,a0=>
  some (Dt.agg [(Dt.int 3),(Dt.int a0),(Dt.str (ByteArray.mk (List.toArray []))),(Dt.lst []),(Dt.lst [])])
noncomputable def ref01_Name_j6 (m:Nat) (rec3:ByteArray→Int→Option Bool) (x0:ByteArray) (x1:Int):Option Bool:=
 rec3 x0 (IntKind.wrap .i64 (x1+1))
noncomputable def ref01_Name_j5 (m:Nat) (rec3:ByteArray→Int→Option Bool) (x0:ByteArray) (x1:Int) (x2:Bool):Option Bool:=
 (bif x2 then
  some false
 else
  ref01_Name_j6 m rec3 x0 x1)
noncomputable def ref01_Name_j4 (m:Nat) (rec3:ByteArray→Int→Option Bool) (x0:ByteArray) (x1:Int):Option Bool:=
  ((idxS x0 x1).bind fun v0=>
    (bif (decide (v0<33)) then
 ref01_Name_j5 m rec3 x0 x1 true
    else
 ((idxS x0 x1).bind fun v1=>
 (bif (decide (126<v1)) then
 ref01_Name_j5 m rec3 x0 x1 true
 else
 ((idxS x0 x1).bind fun v2=>
 ref01_Name_j5 m rec3 x0 x1 (v2==46))))))
noncomputable def ref01_Name_j7 (m:Nat):Option Bool:=
 some true
noncomputable def ref01_Name_l3 (m:Nat):Nat→ByteArray→Int→Option Bool
 |0,_,_=>none
 |M3+1,x0,x1=>
  (bif (decide (x1<(ByteArray.size x0:Int))) then
  ref01_Name_j4 m (ref01_Name_l3 m M3) x0 x1
 else
  ref01_Name_j7 m)
noncomputable def ref01_Name_j2 (m:Nat) (x0:ByteArray) (x1:Int):Option Bool:=
 ref01_Name_l3 m (Nat.succ m) x0 x1
noncomputable def ref01_Name_j1 (m:Nat) (x0:ByteArray):Option Bool:=
 ref01_Name_j2 m x0 0
noncomputable def ref01_Name_j0 (m:Nat) (x0:ByteArray) (x1:Bool):Option Bool:=
 (bif x1 then
  some false
 else
  ref01_Name_j1 m x0)
noncomputable def ref01_Name:Nat→ByteArray→Option Bool
  |0,_=>none
  |m+1,a0=>
   (bif (decide ((ByteArray.size a0:Int)<1)) then
   ref01_Name_j0 m a0 true
  else
   (bif (decide (32<(ByteArray.size a0:Int))) then
 ref01_Name_j0 m a0 true
   else
 ((idxS a0 0).bind fun v3=>
 ref01_Name_j0 m a0 (v3==36))))
noncomputable def ref04_Valid_j5 (m:Nat) (rec3:List Dt→Int→Option Bool) (x0:List Dt) (x1:Int):Option Bool:=
 rec3 x0 (IntKind.wrap .i64 (x1+1))
noncomputable def ref04_Valid_j4 (m:Nat) (rec3:List Dt→Int→Option Bool) (x0:List Dt) (x1:Int):Option Bool:=
  ((idx x0 x1).bind fun v0=>
    ((ref01_Name m (Dt.toStr v0)).bind fun r1=>
 (bif (Bool.not r1) then
 some false
 else
 ref04_Valid_j5 m rec3 x0 x1)))
noncomputable def ref04_Valid_j6 (m:Nat):Option Bool:=
 some true
noncomputable def ref04_Valid_l3 (m:Nat):Nat→List Dt→Int→Option Bool
 |0,_,_=>none
 |M3+1,x0,x1=>
  (bif (decide (x1<(List.length x0:Int))) then
  ref04_Valid_j4 m (ref04_Valid_l3 m M3) x0 x1
 else
  ref04_Valid_j6 m)
noncomputable def ref04_Valid_j2 (m:Nat) (x0:List Dt) (x1:Int):Option Bool:=
 ref04_Valid_l3 m (Nat.succ m) x0 x1
noncomputable def ref04_Valid_j1 (m:Nat) (x0:List Dt):Option Bool:=
 ref04_Valid_j2 m x0 0
noncomputable def ref04_Valid_j0 (m:Nat) (x0:List Dt) (x1:Bool):Option Bool:=
 (bif x1 then
  some false
 else
  ref04_Valid_j1 m x0)
noncomputable def ref04_Valid:Nat→List Dt→Option Bool
 |0,_=>none
 |m+1,a0=>
  (bif (decide ((List.length a0:Int)<1)) then
  ref04_Valid_j0 m a0 true
 else
  ref04_Valid_j0 m a0 (decide (16<(List.length a0:Int))))
noncomputable def law36_named:Nat→ByteArray→Option Bool
  |0,_=>none
  |m+1,a0=>
   (bif ((ByteArray.toList a0)==[]) then
   some true
  else
   ((ref04_Valid m [(Dt.str a0)]).bind fun r0=>
 some r0))
noncomputable def geo_isCoordinate:Nat→Int→Option Bool
 |0,_=>none
 |m+1,a0=>
  (bif (decide (0≤a0)) then
  some (decide (a0<65536))
 else
  some false)
noncomputable def geo_isPoint:Nat→Dt→Option Bool
  |0,_=>none
  |m+1,a0=>
   ((geo_isCoordinate m (Dt.I a0 0)).bind fun r0=>
   (bif r0 then
 ((geo_isCoordinate m (Dt.I a0 1)).bind fun r1=>
 some r1)
   else
 some false))
noncomputable def geo_Valid_j5 (m:Nat) (rec3:List Dt→Int→Int→Option Int) (x0:List Dt) (x1 x2:Int):Option Int:=
 rec3 x0 x1 (IntKind.wrap .i64 (x2+1))
noncomputable def geo_Valid_j4 (m:Nat) (rec3:List Dt→Int→Int→Option Int) (x0:List Dt) (x1 x2:Int):Option Int:=
  ((idx x0 x2).bind fun v0=>
    ((geo_isPoint m v0).bind fun r1=>
 (bif (Bool.not r1) then
 some 18
 else
 geo_Valid_j5 m rec3 x0 x1 x2)))
noncomputable def geo_Valid_j6 (m:Nat):Option Int:=
 some 0
noncomputable def geo_Valid_l3 (m:Nat):Nat→List Dt→Int→Int→Option Int
 |0,_,_,_=>none
 |M3+1,x0,x1,x2=>
  (bif (decide (x2<x1)) then
  geo_Valid_j4 m (geo_Valid_l3 m M3) x0 x1 x2
 else
  geo_Valid_j6 m)
noncomputable def geo_Valid_j2 (m:Nat) (x0:List Dt) (x1 x2:Int):Option Int:=
 geo_Valid_l3 m (Nat.succ m) x0 x1 x2
noncomputable def geo_Valid_j1 (m:Nat) (x0:Dt):Option Int:=
 geo_Valid_j2 m (Dt.L x0 1) (List.length (Dt.L x0 1):Int) 0
noncomputable def geo_Valid_j0 (m:Nat) (x0:Bool) (x1:Dt):Option Int:=
 (bif (Bool.not x0) then
  some 18
 else
  geo_Valid_j1 m x1)
noncomputable def geo_Valid:Nat→Dt→Option Int
  |0,_=>none
  |m+1,a0=>
   (bif ((Dt.I a0 0)==1) then
   (bif ((List.length (Dt.L a0 1):Int)==2) then
 geo_Valid_j0 m ((Dt.I a0 2)==0) a0
   else
 geo_Valid_j0 m false a0)
  else
   (bif ((Dt.I a0 0)==2) then
 (bif ((List.length (Dt.L a0 1):Int)==1) then
 ((geo_isCoordinate m (Dt.I a0 2)).bind fun r2=>
 geo_Valid_j0 m r2 a0)
 else
 geo_Valid_j0 m false a0)
   else
 (bif ((Dt.I a0 0)==3) then
 (bif (decide (3≤(List.length (Dt.L a0 1):Int))) then
 (bif (decide ((List.length (Dt.L a0 1):Int)≤64)) then
 geo_Valid_j0 m ((Dt.I a0 2)==0) a0
 else
 geo_Valid_j0 m false a0)
 else
 geo_Valid_j0 m false a0)
 else
 geo_Valid_j0 m false a0)))
noncomputable def geo_Distance_j1 (m:Nat) (x0 x1:Dt):Option Int:=
 some (IntKind.wrap .i64 ((IntKind.wrap .i64 ((IntKind.wrap .i64 ((Dt.I x0 0)-(Dt.I x1 0)))*(IntKind.wrap .i64 ((Dt.I x0 0)-(Dt.I x1 0)))))+(IntKind.wrap .i64 ((IntKind.wrap .i64 ((Dt.I x0 1)-(Dt.I x1 1)))*(IntKind.wrap .i64 ((Dt.I x0 1)-(Dt.I x1 1)))))))
noncomputable def geo_Distance_j0 (m:Nat) (x0:Bool) (x1 x2:Dt):Option Int:=
 (bif x0 then
  some (-1)
 else
  geo_Distance_j1 m x1 x2)
noncomputable def geo_Distance:Nat→Dt→Dt→Option Int
  |0,_,_=>none
  |m+1,a0,a1=>
   ((geo_isPoint m a0).bind fun r0=>
   (bif (Bool.not r0) then
 geo_Distance_j0 m true a0 a1
   else
 ((geo_isPoint m a1).bind fun r1=>
 geo_Distance_j0 m (Bool.not r1) a0 a1)))
noncomputable def ref10_in:Nat→Int→Option Bool
 |0,_=>none
 |m+1,a0=>
  (bif (decide (0≤a0)) then
  some (decide (a0<65536))
 else
  some false)
noncomputable def ref10_Is:Nat→Dt→Option Bool
  |0,_=>none
  |m+1,a0=>
   ((ref10_in m (Dt.I a0 0)).bind fun r0=>
   (bif r0 then
 ((ref10_in m (Dt.I a0 1)).bind fun r1=>
 some r1)
   else
 some false))
noncomputable def ref10_Valid_j4 (m:Nat) (rec2:Int→Int→Dt→Option Int) (x0 x1:Int) (x2:Dt):Option Int:=
 rec2 x0 (IntKind.wrap .i64 (x1+1)) x2
noncomputable def ref10_Valid_j3 (m:Nat) (rec2:Int→Int→Dt→Option Int) (x0 x1:Int) (x2:Dt):Option Int:=
  ((idx (Dt.L x2 1) x1).bind fun v0=>
    ((ref10_Is m v0).bind fun r1=>
 (bif (Bool.not r1) then
 some 18
 else
 ref10_Valid_j4 m rec2 x0 x1 x2)))
noncomputable def ref10_Valid_j7 (m:Nat):Option Int:=
 some 18
noncomputable def ref10_Valid_j6 (m:Nat) (x0:Bool):Option Int:=
 (bif x0 then
  some 0
 else
  ref10_Valid_j7 m)
noncomputable def ref10_Valid_j5 (m:Nat) (x0:Int) (x1:Dt):Option Int:=
  (bif ((Dt.I x1 0)==1) then
   (bif (x0==2) then
 (bif ((Dt.I x1 2)==0) then
 ref10_Valid_j6 m true
 else
 (bif ((Dt.I x1 0)==2) then
 (bif (x0==1) then
 ((ref10_in m (Dt.I x1 2)).bind fun r2=>
 (bif r2 then
 ref10_Valid_j6 m true
 else
 (bif ((Dt.I x1 0)==3) then
 (bif (decide (3≤x0)) then
 ref10_Valid_j6 m ((Dt.I x1 2)==0)
 else
 ref10_Valid_j6 m false)
 else
 ref10_Valid_j6 m false)))
 else
 (bif ((Dt.I x1 0)==3) then
 (bif (decide (3≤x0)) then
 ref10_Valid_j6 m ((Dt.I x1 2)==0)
 else
 ref10_Valid_j6 m false)
 else
 ref10_Valid_j6 m false))
 else
 (bif ((Dt.I x1 0)==3) then
 (bif (decide (3≤x0)) then
 ref10_Valid_j6 m ((Dt.I x1 2)==0)
 else
 ref10_Valid_j6 m false)
 else
 ref10_Valid_j6 m false)))
   else
 (bif ((Dt.I x1 0)==2) then
 (bif (x0==1) then
 ((ref10_in m (Dt.I x1 2)).bind fun r3=>
 (bif r3 then
 ref10_Valid_j6 m true
 else
 (bif ((Dt.I x1 0)==3) then
 (bif (decide (3≤x0)) then
 ref10_Valid_j6 m ((Dt.I x1 2)==0)
 else
 ref10_Valid_j6 m false)
 else
 ref10_Valid_j6 m false)))
 else
 (bif ((Dt.I x1 0)==3) then
 (bif (decide (3≤x0)) then
 ref10_Valid_j6 m ((Dt.I x1 2)==0)
 else
 ref10_Valid_j6 m false)
 else
 ref10_Valid_j6 m false))
 else
 (bif ((Dt.I x1 0)==3) then
 (bif (decide (3≤x0)) then
 ref10_Valid_j6 m ((Dt.I x1 2)==0)
 else
 ref10_Valid_j6 m false)
 else
 ref10_Valid_j6 m false)))
  else
   (bif ((Dt.I x1 0)==2) then
 (bif (x0==1) then
 ((ref10_in m (Dt.I x1 2)).bind fun r4=>
 (bif r4 then
 ref10_Valid_j6 m true
 else
 (bif ((Dt.I x1 0)==3) then
 (bif (decide (3≤x0)) then
 ref10_Valid_j6 m ((Dt.I x1 2)==0)
 else
 ref10_Valid_j6 m false)
 else
 ref10_Valid_j6 m false)))
 else
 (bif ((Dt.I x1 0)==3) then
 (bif (decide (3≤x0)) then
 ref10_Valid_j6 m ((Dt.I x1 2)==0)
 else
 ref10_Valid_j6 m false)
 else
 ref10_Valid_j6 m false))
   else
 (bif ((Dt.I x1 0)==3) then
 (bif (decide (3≤x0)) then
 ref10_Valid_j6 m ((Dt.I x1 2)==0)
 else
 ref10_Valid_j6 m false)
 else
 ref10_Valid_j6 m false)))
noncomputable def ref10_Valid_l2 (m:Nat):Nat→Int→Int→Dt→Option Int
 |0,_,_,_=>none
 |M2+1,x0,x1,x2=>
  (bif (decide (x1<x0)) then
  ref10_Valid_j3 m (ref10_Valid_l2 m M2) x0 x1 x2
 else
  ref10_Valid_j5 m x0 x2)
noncomputable def ref10_Valid_j1 (m:Nat) (x0 x1:Int) (x2:Dt):Option Int:=
 ref10_Valid_l2 m (Nat.succ m) x0 x1 x2
noncomputable def ref10_Valid_j0 (m:Nat) (x0:Int) (x1:Dt):Option Int:=
 ref10_Valid_j1 m x0 0 x1
noncomputable def ref10_Valid:Nat→Dt→Option Int
 |0,_=>none
 |m+1,a0=>
  (bif (decide (64<(List.length (Dt.L a0 1):Int))) then
  some 18
 else
  ref10_Valid_j0 m (List.length (Dt.L a0 1):Int) a0)
noncomputable def ref10_Distance_j1 (m:Nat) (x0 x1:Dt):Option Int:=
 some (IntKind.wrap .i64 ((IntKind.wrap .i64 ((IntKind.wrap .i64 ((Dt.I x0 0)-(Dt.I x1 0)))*(IntKind.wrap .i64 ((Dt.I x0 0)-(Dt.I x1 0)))))+(IntKind.wrap .i64 ((IntKind.wrap .i64 ((Dt.I x0 1)-(Dt.I x1 1)))*(IntKind.wrap .i64 ((Dt.I x0 1)-(Dt.I x1 1)))))))
noncomputable def ref10_Distance_j0 (m:Nat) (x0:Bool) (x1 x2:Dt):Option Int:=
 (bif x0 then
  some (-1)
 else
  ref10_Distance_j1 m x1 x2)
noncomputable def ref10_Distance:Nat→Dt→Dt→Option Int
  |0,_,_=>none
  |m+1,a0,a1=>
   ((ref10_Is m a0).bind fun r0=>
   (bif (Bool.not r0) then
 ref10_Distance_j0 m true a0 a1
   else
 ((ref10_Is m a1).bind fun r1=>
 ref10_Distance_j0 m (Bool.not r1) a0 a1)))
noncomputable def path_clone_j3 (m:Nat) (self48:Dt→Option (Int×Int×ByteArray×List Dt×List Dt)) (rec1:List Dt→Int→Int→Dt→Dt→Int→Int→ByteArray→List Dt→List Dt→Option (Int×Int×ByteArray×List Dt×List Dt)) (x0:List Dt) (x1 x2:Int) (x3 x4:Dt) (x5 x6:Int) (x7:ByteArray) (x8 x9:List Dt):Option (Int×Int×ByteArray×List Dt×List Dt):=
 rec1 x0 x1 (IntKind.wrap .i64 (x2+1)) x3 x4 x5 x6 x7 x8 x9
noncomputable def path_clone_j2 (m:Nat) (self48:Dt→Option (Int×Int×ByteArray×List Dt×List Dt)) (rec1:List Dt→Int→Int→Dt→Dt→Int→Int→ByteArray→List Dt→List Dt→Option (Int×Int×ByteArray×List Dt×List Dt)) (x0:List Dt) (x1 x2:Int) (x3 x4:Dt) (x5 x6:Int) (x7:ByteArray) (x8 x9:List Dt):Option (Int×Int×ByteArray×List Dt×List Dt):=
  ((idx x0 x2).bind fun v1=>
    ((self48 v1).bind fun r2=>
 ((inL x8 x2).bind fun v3=>
 ((x8[(Int.toNat x2)]?).bind fun v4=>
 path_clone_j3 m self48 rec1 x0 x1 x2 x3 x4 x5 x6 x7 (List.set x8 (Int.toNat x2) (Dt.agg [(Dt.int r2.1),(Dt.int r2.2.1),(Dt.str r2.2.2.1),(Dt.lst r2.2.2.2.1),(Dt.lst r2.2.2.2.2)])) x9))))
noncomputable def path_clone_j8 (m:Nat) (self48:Dt→Option (Int×Int×ByteArray×List Dt×List Dt)) (rec6:List Dt→Int→Int→Dt→Int→Int→ByteArray→List Dt→List Dt→Option (Int×Int×ByteArray×List Dt×List Dt)) (x0:List Dt) (x1 x2:Int) (x3:Dt) (x4 x5:Int) (x6:ByteArray) (x7 x8:List Dt):Option (Int×Int×ByteArray×List Dt×List Dt):=
 rec6 x0 x1 (IntKind.wrap .i64 (x2+1)) x3 x4 x5 x6 x7 x8
noncomputable def path_clone_j7 (m:Nat) (self48:Dt→Option (Int×Int×ByteArray×List Dt×List Dt)) (rec6:List Dt→Int→Int→Dt→Int→Int→ByteArray→List Dt→List Dt→Option (Int×Int×ByteArray×List Dt×List Dt)) (x0:List Dt) (x1 x2:Int) (x3:Dt) (x4 x5:Int) (x6:ByteArray) (x7 x8:List Dt):Option (Int×Int×ByteArray×List Dt×List Dt):=
  ((idx x0 x2).bind fun v6=>
    ((self48 (Dt.fld v6 1)).bind fun r7=>
 ((inL x8 x2).bind fun v8=>
 ((x8[(Int.toNat x2)]?).bind fun v9=>
 path_clone_j8 m self48 rec6 x0 x1 x2 x3 x4 x5 x6 x7 (List.set x8 (Int.toNat x2) (Dt.agg [(Dt.str (Dt.S v6 0)),(Dt.agg [(Dt.int r7.1),(Dt.int r7.2.1),(Dt.str r7.2.2.1),(Dt.lst r7.2.2.2.1),(Dt.lst r7.2.2.2.2)])]))))))
noncomputable def path_clone_j9 (m:Nat) (self48:Dt→Option (Int×Int×ByteArray×List Dt×List Dt)) (x0:Dt) (x1 x2:Int) (x3:ByteArray) (x4 x5:List Dt):Option (Int×Int×ByteArray×List Dt×List Dt):=
 some (x1,x2,x3,x4,x5)
noncomputable def path_clone_l6 (m:Nat) (self48:Dt→Option (Int×Int×ByteArray×List Dt×List Dt)):Nat→List Dt→Int→Int→Dt→Int→Int→ByteArray→List Dt→List Dt→Option (Int×Int×ByteArray×List Dt×List Dt)
 |0,_,_,_,_,_,_,_,_,_=>none
 |M6+1,x0,x1,x2,x3,x4,x5,x6,x7,x8=>
  (bif (decide (x2<x1)) then
  path_clone_j7 m self48 (path_clone_l6 m self48 M6) x0 x1 x2 x3 x4 x5 x6 x7 x8
 else
  path_clone_j9 m self48 x3 x4 x5 x6 x7 x8)
noncomputable def path_clone_j5 (m:Nat) (self48:Dt→Option (Int×Int×ByteArray×List Dt×List Dt)) (x0:List Dt) (x1 x2:Int) (x3:Dt) (x4 x5:Int) (x6:ByteArray) (x7 x8:List Dt):Option (Int×Int×ByteArray×List Dt×List Dt):=
 path_clone_l6 m self48 (Nat.succ m) x0 x1 x2 x3 x4 x5 x6 x7 x8
noncomputable def path_clone_j4 (m:Nat) (self48:Dt→Option (Int×Int×ByteArray×List Dt×List Dt)) (x0 x1:Dt) (x2 x3:Int) (x4:ByteArray) (x5 x6:List Dt):Option (Int×Int×ByteArray×List Dt×List Dt):=
  (bif (decide (0<(List.length (Dt.L x0 4):Int))) then
   ((mkL (List.length (Dt.L x0 4):Int) (List.length (Dt.L x0 4):Int) kzcda49).bind fun v5=>
 path_clone_j5 m self48 (Dt.L x0 4) (List.length (Dt.L x0 4):Int) 0 x1 x2 x3 x4 x5 v5)
  else
   path_clone_j9 m self48 x1 x2 x3 x4 x5 x6)
noncomputable def path_clone_l1 (m:Nat) (self48:Dt→Option (Int×Int×ByteArray×List Dt×List Dt)):Nat→List Dt→Int→Int→Dt→Dt→Int→Int→ByteArray→List Dt→List Dt→Option (Int×Int×ByteArray×List Dt×List Dt)
 |0,_,_,_,_,_,_,_,_,_,_=>none
 |M1+1,x0,x1,x2,x3,x4,x5,x6,x7,x8,x9=>
  (bif (decide (x2<x1)) then
  path_clone_j2 m self48 (path_clone_l1 m self48 M1) x0 x1 x2 x3 x4 x5 x6 x7 x8 x9
 else
  path_clone_j4 m self48 x3 x4 x5 x6 x7 x8 x9)
noncomputable def path_clone_j0 (m:Nat) (self48:Dt→Option (Int×Int×ByteArray×List Dt×List Dt)) (x0:List Dt) (x1 x2:Int) (x3 x4:Dt) (x5 x6:Int) (x7:ByteArray) (x8 x9:List Dt):Option (Int×Int×ByteArray×List Dt×List Dt):=
 path_clone_l1 m self48 (Nat.succ m) x0 x1 x2 x3 x4 x5 x6 x7 x8 x9
noncomputable def path_clone:Nat→Dt→Option (Int×Int×ByteArray×List Dt×List Dt)
  |0,_=>none
  |m+1,a0=>
   (bif (decide (0<(List.length (Dt.L a0 3):Int))) then
   ((mkL (List.length (Dt.L a0 3):Int) (List.length (Dt.L a0 3):Int) kza2373).bind fun v0=>
 path_clone_j0 m (path_clone m) (Dt.L a0 3) (List.length (Dt.L a0 3):Int) 0 a0 kza2373 (Dt.I a0 0) (Dt.I a0 1) (Dt.S a0 2) v0 [])
  else
   path_clone_j4 m (path_clone m) a0 kza2373 (Dt.I a0 0) (Dt.I a0 1) (Dt.S a0 2) [] [])
noncomputable def geo_bounds_j3 (m:Nat) (rec1:List Dt→Int→Int→Dt→Dt→Dt→Dt→Dt→Option (Dt×Dt)) (x0:List Dt) (x1 x2:Int) (x3 x4 x5 x6 x7:Dt):Option (Dt×Dt):=
 rec1 x0 x1 (IntKind.wrap .i64 (x2+1)) x3 x4 x5 x6 x7
noncomputable def geo_bounds_j2 (m:Nat) (rec1:List Dt→Int→Int→Dt→Dt→Dt→Dt→Dt→Option (Dt×Dt)) (x0:List Dt) (x1 x2:Int) (x3 x4 x5 x6 x7:Dt):Option (Dt×Dt):=
 ((idx x0 x2).bind fun v2=>
   geo_bounds_j3 m rec1 x0 x1 x2 x3 x4 x5 (Dt.agg [(Dt.int (bif (decide ((Dt.I v2 0)<(Dt.I x6 0))) then(Dt.I v2 0) else(Dt.I x6 0))),(Dt.int (bif (decide ((Dt.I v2 1)<(Dt.I x6 1))) then(Dt.I v2 1) else(Dt.I x6 1)))]) (Dt.agg [(Dt.int (bif (decide ((Dt.I x7 0)<(Dt.I v2 0))) then(Dt.I v2 0) else(Dt.I x7 0))),(Dt.int (bif (decide ((Dt.I x7 1)<(Dt.I v2 1))) then(Dt.I v2 1) else(Dt.I x7 1)))]))
noncomputable def geo_bounds_j4 (m:Nat) (x0 x1 x2 x3 x4:Dt):Option (Dt×Dt):=
 some ((Dt.agg [(Dt.int (bif (decide (0<(IntKind.wrap .i64 ((Dt.I x3 0)-(Dt.I x0 2))))) then(IntKind.wrap .i64 ((Dt.I x3 0)-(Dt.I x0 2))) else 0)),(Dt.int (bif (decide (0<(IntKind.wrap .i64 ((Dt.I x3 1)-(Dt.I x0 2))))) then(IntKind.wrap .i64 ((Dt.I x3 1)-(Dt.I x0 2))) else 0))]),(Dt.agg [(Dt.int (bif (decide ((IntKind.wrap .i64 ((Dt.I x4 0)+(Dt.I x0 2)))<65535)) then(IntKind.wrap .i64 ((Dt.I x4 0)+(Dt.I x0 2))) else 65535)),(Dt.int (bif (decide ((IntKind.wrap .i64 ((Dt.I x4 1)+(Dt.I x0 2)))<65535)) then(IntKind.wrap .i64 ((Dt.I x4 1)+(Dt.I x0 2))) else 65535))]))
noncomputable def geo_bounds_l1 (m:Nat):Nat→List Dt→Int→Int→Dt→Dt→Dt→Dt→Dt→Option (Dt×Dt)
 |0,_,_,_,_,_,_,_,_=>none
 |M1+1,x0,x1,x2,x3,x4,x5,x6,x7=>
  (bif (decide (x2<x1)) then
  geo_bounds_j2 m (geo_bounds_l1 m M1) x0 x1 x2 x3 x4 x5 x6 x7
 else
  geo_bounds_j4 m x3 x4 x5 x6 x7)
noncomputable def geo_bounds_j0 (m:Nat) (x0:List Dt) (x1 x2:Int) (x3 x4 x5 x6 x7:Dt):Option (Dt×Dt):=
 geo_bounds_l1 m (Nat.succ m) x0 x1 x2 x3 x4 x5 x6 x7
noncomputable def geo_bounds:Nat→Dt→Option (Dt×Dt)
  |0,_=>none
  |m+1,a0=>
   ((idx (Dt.L a0 1) 0).bind fun v0=>
   ((idx (Dt.L a0 1) 0).bind fun v1=>
 geo_bounds_j0 m (Dt.L a0 1) (List.length (Dt.L a0 1):Int) 0 a0 (Dt.agg [(Dt.int 0),(Dt.int 0)]) (Dt.agg [(Dt.int 0),(Dt.int 0)]) v0 v1))
noncomputable def value_clone_j3 (m:Nat) (self53:Dt→Option (Int×Int×ByteArray×List Dt×List Dt)) (rec1:List Dt→Int→Int→Dt→Dt→Int→Int→ByteArray→List Dt→List Dt→Option (Int×Int×ByteArray×List Dt×List Dt)) (x0:List Dt) (x1 x2:Int) (x3 x4:Dt) (x5 x6:Int) (x7:ByteArray) (x8 x9:List Dt):Option (Int×Int×ByteArray×List Dt×List Dt):=
 rec1 x0 x1 (IntKind.wrap .i64 (x2+1)) x3 x4 x5 x6 x7 x8 x9
noncomputable def value_clone_j2 (m:Nat) (self53:Dt→Option (Int×Int×ByteArray×List Dt×List Dt)) (rec1:List Dt→Int→Int→Dt→Dt→Int→Int→ByteArray→List Dt→List Dt→Option (Int×Int×ByteArray×List Dt×List Dt)) (x0:List Dt) (x1 x2:Int) (x3 x4:Dt) (x5 x6:Int) (x7:ByteArray) (x8 x9:List Dt):Option (Int×Int×ByteArray×List Dt×List Dt):=
  ((idx x0 x2).bind fun v1=>
    ((self53 v1).bind fun r2=>
 ((inL x8 x2).bind fun v3=>
 ((x8[(Int.toNat x2)]?).bind fun v4=>
 value_clone_j3 m self53 rec1 x0 x1 x2 x3 x4 x5 x6 x7 (List.set x8 (Int.toNat x2) (Dt.agg [(Dt.int r2.1),(Dt.int r2.2.1),(Dt.str r2.2.2.1),(Dt.lst r2.2.2.2.1),(Dt.lst r2.2.2.2.2)])) x9))))
noncomputable def value_clone_j8 (m:Nat) (self53:Dt→Option (Int×Int×ByteArray×List Dt×List Dt)) (rec6:List Dt→Int→Int→Dt→Int→Int→ByteArray→List Dt→List Dt→Option (Int×Int×ByteArray×List Dt×List Dt)) (x0:List Dt) (x1 x2:Int) (x3:Dt) (x4 x5:Int) (x6:ByteArray) (x7 x8:List Dt):Option (Int×Int×ByteArray×List Dt×List Dt):=
 rec6 x0 x1 (IntKind.wrap .i64 (x2+1)) x3 x4 x5 x6 x7 x8
noncomputable def value_clone_j7 (m:Nat) (self53:Dt→Option (Int×Int×ByteArray×List Dt×List Dt)) (rec6:List Dt→Int→Int→Dt→Int→Int→ByteArray→List Dt→List Dt→Option (Int×Int×ByteArray×List Dt×List Dt)) (x0:List Dt) (x1 x2:Int) (x3:Dt) (x4 x5:Int) (x6:ByteArray) (x7 x8:List Dt):Option (Int×Int×ByteArray×List Dt×List Dt):=
  ((idx x0 x2).bind fun v6=>
    ((self53 (Dt.fld v6 1)).bind fun r7=>
 ((inL x8 x2).bind fun v8=>
 ((x8[(Int.toNat x2)]?).bind fun v9=>
 value_clone_j8 m self53 rec6 x0 x1 x2 x3 x4 x5 x6 x7 (List.set x8 (Int.toNat x2) (Dt.agg [(Dt.str (Dt.S v6 0)),(Dt.agg [(Dt.int r7.1),(Dt.int r7.2.1),(Dt.str r7.2.2.1),(Dt.lst r7.2.2.2.1),(Dt.lst r7.2.2.2.2)])]))))))
noncomputable def value_clone_j9 (m:Nat) (self53:Dt→Option (Int×Int×ByteArray×List Dt×List Dt)) (x0:Dt) (x1 x2:Int) (x3:ByteArray) (x4 x5:List Dt):Option (Int×Int×ByteArray×List Dt×List Dt):=
 some (x1,x2,x3,x4,x5)
noncomputable def value_clone_l6 (m:Nat) (self53:Dt→Option (Int×Int×ByteArray×List Dt×List Dt)):Nat→List Dt→Int→Int→Dt→Int→Int→ByteArray→List Dt→List Dt→Option (Int×Int×ByteArray×List Dt×List Dt)
 |0,_,_,_,_,_,_,_,_,_=>none
 |M6+1,x0,x1,x2,x3,x4,x5,x6,x7,x8=>
  (bif (decide (x2<x1)) then
  value_clone_j7 m self53 (value_clone_l6 m self53 M6) x0 x1 x2 x3 x4 x5 x6 x7 x8
 else
  value_clone_j9 m self53 x3 x4 x5 x6 x7 x8)
noncomputable def value_clone_j5 (m:Nat) (self53:Dt→Option (Int×Int×ByteArray×List Dt×List Dt)) (x0:List Dt) (x1 x2:Int) (x3:Dt) (x4 x5:Int) (x6:ByteArray) (x7 x8:List Dt):Option (Int×Int×ByteArray×List Dt×List Dt):=
 value_clone_l6 m self53 (Nat.succ m) x0 x1 x2 x3 x4 x5 x6 x7 x8
noncomputable def value_clone_j4 (m:Nat) (self53:Dt→Option (Int×Int×ByteArray×List Dt×List Dt)) (x0 x1:Dt) (x2 x3:Int) (x4:ByteArray) (x5 x6:List Dt):Option (Int×Int×ByteArray×List Dt×List Dt):=
  (bif (decide (0<(List.length (Dt.L x0 4):Int))) then
   ((mkL (List.length (Dt.L x0 4):Int) (List.length (Dt.L x0 4):Int) kzcda49).bind fun v5=>
 value_clone_j5 m self53 (Dt.L x0 4) (List.length (Dt.L x0 4):Int) 0 x1 x2 x3 x4 x5 v5)
  else
   value_clone_j9 m self53 x1 x2 x3 x4 x5 x6)
noncomputable def value_clone_l1 (m:Nat) (self53:Dt→Option (Int×Int×ByteArray×List Dt×List Dt)):Nat→List Dt→Int→Int→Dt→Dt→Int→Int→ByteArray→List Dt→List Dt→Option (Int×Int×ByteArray×List Dt×List Dt)
 |0,_,_,_,_,_,_,_,_,_,_=>none
 |M1+1,x0,x1,x2,x3,x4,x5,x6,x7,x8,x9=>
  (bif (decide (x2<x1)) then
  value_clone_j2 m self53 (value_clone_l1 m self53 M1) x0 x1 x2 x3 x4 x5 x6 x7 x8 x9
 else
  value_clone_j4 m self53 x3 x4 x5 x6 x7 x8 x9)
noncomputable def value_clone_j0 (m:Nat) (self53:Dt→Option (Int×Int×ByteArray×List Dt×List Dt)) (x0:List Dt) (x1 x2:Int) (x3 x4:Dt) (x5 x6:Int) (x7:ByteArray) (x8 x9:List Dt):Option (Int×Int×ByteArray×List Dt×List Dt):=
 value_clone_l1 m self53 (Nat.succ m) x0 x1 x2 x3 x4 x5 x6 x7 x8 x9
noncomputable def value_clone:Nat→Dt→Option (Int×Int×ByteArray×List Dt×List Dt)
  |0,_=>none
  |m+1,a0=>
   (bif (decide (0<(List.length (Dt.L a0 3):Int))) then
   ((mkL (List.length (Dt.L a0 3):Int) (List.length (Dt.L a0 3):Int) kza2373).bind fun v0=>
 value_clone_j0 m (value_clone m) (Dt.L a0 3) (List.length (Dt.L a0 3):Int) 0 a0 kza2373 (Dt.I a0 0) (Dt.I a0 1) (Dt.S a0 2) v0 [])
  else
   value_clone_j4 m (value_clone m) a0 kza2373 (Dt.I a0 0) (Dt.I a0 1) (Dt.S a0 2) [] [])
noncomputable def value_find_j4 (m:Nat) (rec2:ByteArray→Int→Int→Dt→Option Int) (x0:ByteArray) (x1 x2:Int) (x3:Dt):Option Int:=
 rec2 x0 x1 (IntKind.wrap .i64 (x2+1)) x3
noncomputable def value_find_j3 (m:Nat) (rec2:ByteArray→Int→Int→Dt→Option Int) (x0:ByteArray) (x1 x2:Int) (x3:Dt):Option Int:=
  ((idx (Dt.L x3 4) x2).bind fun v0=>
    (bif ((ByteArray.toList (Dt.S v0 0))==(ByteArray.toList x0)) then
 some x2
    else
 value_find_j4 m rec2 x0 x1 x2 x3))
noncomputable def value_find_j5 (m:Nat):Option Int:=
 some (-1)
noncomputable def value_find_l2 (m:Nat):Nat→ByteArray→Int→Int→Dt→Option Int
 |0,_,_,_,_=>none
 |M2+1,x0,x1,x2,x3=>
  (bif (decide (x2<x1)) then
  value_find_j3 m (value_find_l2 m M2) x0 x1 x2 x3
 else
  value_find_j5 m)
noncomputable def value_find_j1 (m:Nat) (x0:ByteArray) (x1 x2:Int) (x3:Dt):Option Int:=
 value_find_l2 m (Nat.succ m) x0 x1 x2 x3
noncomputable def value_find_j0 (m:Nat) (x0:ByteArray) (x1:Dt):Option Int:=
 value_find_j1 m x0 (List.length (Dt.L x1 4):Int) 0 x1
noncomputable def value_find:Nat→Dt→ByteArray→Option Int
 |0,_,_=>none
 |m+1,a0,a1=>
  (bif ((Dt.I a0 0) !=5) then
  some (-1)
 else
  value_find_j0 m a1 a0)
noncomputable def value_Set_j1 (m:Nat) (x0:ByteArray) (x1 x2:Dt) (x3 x4:Int) (x5:ByteArray) (x6 x7:List Dt):Option Dt:=
  ((value_clone m x1).bind fun r5=>
    ((app x7 [(Dt.agg [(Dt.str x0),(Dt.agg [(Dt.int r5.1),(Dt.int r5.2.1),(Dt.str r5.2.2.1),(Dt.lst r5.2.2.2.1),(Dt.lst r5.2.2.2.2)])])]).bind fun v6=>
 some (Dt.agg [(Dt.int x3),(Dt.int x4),(Dt.str x5),(Dt.lst x6),(Dt.lst v6)])))
noncomputable def value_Set_j0 (m:Nat) (x0:ByteArray) (x1 x2:Dt) (x3 x4:Int) (x5:ByteArray) (x6 x7:List Dt):Option Dt:=
  ((value_find m (Dt.agg [(Dt.int x3),(Dt.int x4),(Dt.str x5),(Dt.lst x6),(Dt.lst x7)]) x0).bind fun r1=>
    (bif (decide (0≤r1)) then
 ((value_clone m x1).bind fun r2=>
 ((inL x7 r1).bind fun v3=>
 ((x7[(Int.toNat r1)]?).bind fun v4=>
 some (Dt.agg [(Dt.int x3),(Dt.int x4),(Dt.str x5),(Dt.lst x6),(Dt.lst (List.set x7 (Int.toNat r1) (Dt.agg [(Dt.str (Dt.S v4 0)),(Dt.agg [(Dt.int r2.1),(Dt.int r2.2.1),(Dt.str r2.2.2.1),(Dt.lst r2.2.2.2.1),(Dt.lst r2.2.2.2.2)])])))]))))
    else
 value_Set_j1 m x0 x1 x2 x3 x4 x5 x6 x7))
noncomputable def value_Set:Nat→Dt→ByteArray→Dt→Option Dt
  |0,_,_,_=>none
  |m+1,a0,a1,a2=>
   ((value_clone m a0).bind fun r0=>
   (bif (r0.1 !=5) then
 some (Dt.agg [(Dt.int r0.1),(Dt.int r0.2.1),(Dt.str r0.2.2.1),(Dt.lst r0.2.2.2.1),(Dt.lst r0.2.2.2.2)])
   else
 value_Set_j0 m a1 a2 kza2373 r0.1 r0.2.1 r0.2.2.1 r0.2.2.2.1 r0.2.2.2.2))
noncomputable def reshape_named_j0 (m:Nat) (x0:ByteArray) (x1 x2 x3:Dt):Option Dt:=
 ((value_Set m x1 x0 x2).bind fun r0=>
   some r0)
noncomputable def reshape_named:Nat→Dt→ByteArray→Dt→Option Dt
 |0,_,_,_=>none
 |m+1,a0,a1,a2=>
  (bif ((ByteArray.toList a1)==[]) then
  some a0
 else
  reshape_named_j0 m a1 a0 a2 kza2373)
noncomputable def value_Get_j0 (m:Nat) (x0:Int) (x1 x2:Dt):Option (Dt×Bool):=
  ((idx (Dt.L x1 4) x0).bind fun v1=>
    ((value_clone m (Dt.fld v1 1)).bind fun r2=>
 some ((Dt.agg [(Dt.int r2.1),(Dt.int r2.2.1),(Dt.str r2.2.2.1),(Dt.lst r2.2.2.2.1),(Dt.lst r2.2.2.2.2)]),true)))
noncomputable def value_Get:Nat→Dt→ByteArray→Option (Dt×Bool)
  |0,_,_=>none
  |m+1,a0,a1=>
   ((value_find m a0 a1).bind fun r0=>
   (bif (decide (r0<0)) then
 some (kza2373,false)
   else
 value_Get_j0 m r0 a0 kza2373))
noncomputable def geo_Point_j3 (m:Nat) (x0 x1:Dt):Option (Dt×Int):=
 some (x1,0)
noncomputable def geo_Point_j2 (m:Nat) (x0:Bool) (x1 x2:Dt):Option (Dt×Int):=
 (bif x0 then
  some ((Dt.agg [(Dt.int 0),(Dt.int 0)]),18)
 else
  geo_Point_j3 m x1 x2)
noncomputable def geo_Point_j1 (m:Nat) (x0 x1 x2:Dt):Option (Dt×Int):=
  (bif ((Dt.I x1 0) !=3) then
   geo_Point_j2 m true x0 (Dt.agg [(Dt.int (Dt.I x1 1)),(Dt.int (Dt.I x2 1))])
  else
   (bif ((Dt.I x2 0) !=3) then
 geo_Point_j2 m true x0 (Dt.agg [(Dt.int (Dt.I x1 1)),(Dt.int (Dt.I x2 1))])
   else
 ((geo_isPoint m (Dt.agg [(Dt.int (Dt.I x1 1)),(Dt.int (Dt.I x2 1))])).bind fun r2=>
 geo_Point_j2 m (Bool.not r2) x0 (Dt.agg [(Dt.int (Dt.I x1 1)),(Dt.int (Dt.I x2 1))]))))
noncomputable def geo_Point_j4 (m:Nat) (x0:Bool) (x1 x2 x3 x4:Dt):Option (Dt×Int):=
  (bif x0 then
   ((value_Get m x1 (ByteArray.mk (List.toArray [120]))).bind fun r3=>
 ((value_Get m x1 (ByteArray.mk (List.toArray [121]))).bind fun r4=>
 geo_Point_j1 m x2 r3.1 r4.1))
  else
   geo_Point_j1 m x2 x3 x4)
noncomputable def geo_Point_j0 (m:Nat) (x0:Bool) (x1 x2 x3 x4:Dt):Option (Dt×Int):=
  (bif x0 then
   ((idx (Dt.L x1 3) 0).bind fun v0=>
 ((idx (Dt.L x1 3) 1).bind fun v1=>
 geo_Point_j1 m x2 v0 v1))
  else
   (bif ((Dt.I x1 0)==5) then
 geo_Point_j4 m ((List.length (Dt.L x1 4):Int)==2) x1 x2 x3 x4
   else
 geo_Point_j4 m false x1 x2 x3 x4))
noncomputable def geo_Point:Nat→Dt→Option (Dt×Int)
 |0,_=>none
 |m+1,a0=>
  (bif ((Dt.I a0 0)==6) then
  geo_Point_j0 m ((List.length (Dt.L a0 3):Int)==2) a0 (Dt.agg [(Dt.int 0),(Dt.int 0)]) kza2373 kza2373
 else
  geo_Point_j0 m false a0 (Dt.agg [(Dt.int 0),(Dt.int 0)]) kza2373 kza2373)
noncomputable def ref10_between:Nat→Int→Int→Int→Option Bool
 |0,_,_,_=>none
 |m+1,a0,a1,a2=>
  (bif (decide ((bif (decide (a2<a1)) then a2 else a1)≤a0)) then
  some (decide (a0≤(bif (decide (a1<a2)) then a2 else a1)))
 else
  some false)
noncomputable def ref01_at_j4 (m:Nat) (rec2:ByteArray→Int→Dt→Option Int) (x0:ByteArray) (x1:Int) (x2:Dt):Option Int:=
 rec2 x0 (IntKind.wrap .i64 (x1+1)) x2
noncomputable def ref01_at_j3 (m:Nat) (rec2:ByteArray→Int→Dt→Option Int) (x0:ByteArray) (x1:Int) (x2:Dt):Option Int:=
  ((idx (Dt.L x2 4) x1).bind fun v0=>
    (bif ((ByteArray.toList (Dt.S v0 0))==(ByteArray.toList x0)) then
 some x1
    else
 ref01_at_j4 m rec2 x0 x1 x2))
noncomputable def ref01_at_j5 (m:Nat):Option Int:=
 some (-1)
noncomputable def ref01_at_l2 (m:Nat):Nat→ByteArray→Int→Dt→Option Int
 |0,_,_,_=>none
 |M2+1,x0,x1,x2=>
  (bif (decide (x1<(List.length (Dt.L x2 4):Int))) then
  ref01_at_j3 m (ref01_at_l2 m M2) x0 x1 x2
 else
  ref01_at_j5 m)
noncomputable def ref01_at_j1 (m:Nat) (x0:ByteArray) (x1:Int) (x2:Dt):Option Int:=
 ref01_at_l2 m (Nat.succ m) x0 x1 x2
noncomputable def ref01_at_j0 (m:Nat) (x0:ByteArray) (x1:Dt):Option Int:=
 ref01_at_j1 m x0 0 x1
noncomputable def ref01_at:Nat→Dt→ByteArray→Option Int
 |0,_,_=>none
 |m+1,a0,a1=>
  (bif ((Dt.I a0 0) !=5) then
  some (-1)
 else
  ref01_at_j0 m a1 a0)
noncomputable def ref01_Set_j5 (m:Nat) (rec2:ByteArray→Int→Int→Dt→Dt→Dt→List Dt→Option Dt) (x0:ByteArray) (x1 x2:Int) (x3 x4 x5:Dt) (x6:List Dt):Option Dt:=
 rec2 x0 x1 (IntKind.wrap .i64 (x2+1)) x3 x4 x5 x6
noncomputable def ref01_Set_j4 (m:Nat) (rec2:ByteArray→Int→Int→Dt→Dt→Dt→List Dt→Option Dt) (x0:ByteArray) (x1 x2:Int) (x3 x4 x5:Dt) (x6:List Dt) (x7:Dt):Option Dt:=
 ((app x6 [x7]).bind fun v2=>
   ref01_Set_j5 m rec2 x0 x1 x2 x3 x4 x5 v2)
noncomputable def ref01_Set_j3 (m:Nat) (rec2:ByteArray→Int→Int→Dt→Dt→Dt→List Dt→Option Dt) (x0:ByteArray) (x1 x2:Int) (x3 x4 x5:Dt) (x6:List Dt):Option Dt:=
  ((idx (Dt.L x3 4) x2).bind fun v1=>
    (bif (x2==x1) then
 ref01_Set_j4 m rec2 x0 x1 x2 x3 x4 x5 x6 (Dt.agg [(Dt.str (Dt.S v1 0)),x4])
    else
 ref01_Set_j4 m rec2 x0 x1 x2 x3 x4 x5 x6 v1))
noncomputable def ref01_Set_j7 (m:Nat) (x0 x1:Dt) (x2:List Dt):Option Dt:=
 some (Dt.agg [(Dt.int (Dt.I x0 0)),(Dt.int (Dt.I x0 1)),(Dt.str (Dt.S x0 2)),(Dt.lst (Dt.L x0 3)),(Dt.lst x2)])
noncomputable def ref01_Set_j6 (m:Nat) (x0:ByteArray) (x1:Int) (x2 x3 x4:Dt) (x5:List Dt):Option Dt:=
  (bif (decide (x1<0)) then
   ((app x5 [(Dt.agg [(Dt.str x0),x3])]).bind fun v3=>
 ref01_Set_j7 m x2 x4 v3)
  else
   ref01_Set_j7 m x2 x4 x5)
noncomputable def ref01_Set_l2 (m:Nat):Nat→ByteArray→Int→Int→Dt→Dt→Dt→List Dt→Option Dt
 |0,_,_,_,_,_,_,_=>none
 |M2+1,x0,x1,x2,x3,x4,x5,x6=>
  (bif (decide (x2<(List.length (Dt.L x3 4):Int))) then
  ref01_Set_j3 m (ref01_Set_l2 m M2) x0 x1 x2 x3 x4 x5 x6
 else
  ref01_Set_j6 m x0 x1 x3 x4 x5 x6)
noncomputable def ref01_Set_j1 (m:Nat) (x0:ByteArray) (x1 x2:Int) (x3 x4 x5:Dt) (x6:List Dt):Option Dt:=
 ref01_Set_l2 m (Nat.succ m) x0 x1 x2 x3 x4 x5 x6
noncomputable def ref01_Set_j0 (m:Nat) (x0:ByteArray) (x1 x2 x3:Dt):Option Dt:=
 ((ref01_at m x1 x0).bind fun r0=>
   ref01_Set_j1 m x0 r0 0 x1 x2 x3 [])
noncomputable def ref01_Set:Nat→Dt→ByteArray→Dt→Option Dt
 |0,_,_,_=>none
 |m+1,a0,a1,a2=>
  (bif ((Dt.I a0 0) !=5) then
  some a0
 else
  ref01_Set_j0 m a1 a0 a2 kza2373)
noncomputable def ref36_with_j0 (m:Nat) (x0:ByteArray) (x1 x2 x3:Dt):Option Dt:=
 ((ref01_Set m x1 x0 x2).bind fun r0=>
   some r0)
noncomputable def ref36_with:Nat→Dt→ByteArray→Dt→Option Dt
 |0,_,_,_=>none
 |m+1,a0,a1,a2=>
  (bif ((ByteArray.toList a1)==[]) then
  some a0
 else
  ref36_with_j0 m a1 a0 a2 kza2373)
noncomputable def ref01_Get_j0 (m:Nat) (x0:Int) (x1 x2:Dt):Option (Dt×Bool):=
 ((idx (Dt.L x1 4) x0).bind fun v1=>
   some ((Dt.fld v1 1),true))
noncomputable def ref01_Get:Nat→Dt→ByteArray→Option (Dt×Bool)
  |0,_,_=>none
  |m+1,a0,a1=>
   ((ref01_at m a0 a1).bind fun r0=>
   (bif (decide (r0<0)) then
 some (kza2373,false)
   else
 ref01_Get_j0 m r0 a0 kza2373))
noncomputable def ref10_Point_j5 (m:Nat) (x0 x1:Dt):Option (Dt×Int):=
 some (x1,0)
noncomputable def ref10_Point_j4 (m:Nat) (x0:Bool) (x1 x2:Dt):Option (Dt×Int):=
 (bif x0 then
  some ((Dt.agg [(Dt.int 0),(Dt.int 0)]),18)
 else
  ref10_Point_j5 m x1 x2)
noncomputable def ref10_Point_j3 (m:Nat) (x0 x1 x2:Dt):Option (Dt×Int):=
  (bif ((Dt.I x1 0) !=3) then
   ref10_Point_j4 m true x0 (Dt.agg [(Dt.int (Dt.I x1 1)),(Dt.int (Dt.I x2 1))])
  else
   (bif ((Dt.I x2 0) !=3) then
 ref10_Point_j4 m true x0 (Dt.agg [(Dt.int (Dt.I x1 1)),(Dt.int (Dt.I x2 1))])
   else
 ((ref10_Is m (Dt.agg [(Dt.int (Dt.I x1 1)),(Dt.int (Dt.I x2 1))])).bind fun r4=>
 ref10_Point_j4 m (Bool.not r4) x0 (Dt.agg [(Dt.int (Dt.I x1 1)),(Dt.int (Dt.I x2 1))]))))
noncomputable def ref10_Point_j2 (m:Nat) (x0:Bool) (x1 x2 x3 x4:Dt):Option (Dt×Int):=
  (bif x0 then
   ((ref01_Get m x1 (ByteArray.mk (List.toArray [120]))).bind fun r2=>
 ((ref01_Get m x1 (ByteArray.mk (List.toArray [121]))).bind fun r3=>
 ref10_Point_j3 m x2 r2.1 r3.1))
  else
   ref10_Point_j3 m x2 x3 x4)
noncomputable def ref10_Point_j1 (m:Nat) (x0 x1 x2 x3:Dt):Option (Dt×Int):=
 (bif ((Dt.I x0 0)==5) then
  ref10_Point_j2 m ((List.length (Dt.L x0 4):Int)==2) x0 x1 x2 x3
 else
  ref10_Point_j2 m false x0 x1 x2 x3)
noncomputable def ref10_Point_j0 (m:Nat) (x0:Bool) (x1 x2 x3 x4:Dt):Option (Dt×Int):=
  (bif x0 then
   ((idx (Dt.L x1 3) 0).bind fun v0=>
 ((idx (Dt.L x1 3) 1).bind fun v1=>
 ref10_Point_j1 m x1 x2 v0 v1))
  else
   ref10_Point_j1 m x1 x2 x3 x4)
noncomputable def ref10_Point:Nat→Dt→Option (Dt×Int)
 |0,_=>none
 |m+1,a0=>
  (bif ((Dt.I a0 0)==6) then
  ref10_Point_j0 m ((List.length (Dt.L a0 3):Int)==2) a0 (Dt.agg [(Dt.int 0),(Dt.int 0)]) kza2373 kza2373
 else
  ref10_Point_j0 m false a0 (Dt.agg [(Dt.int 0),(Dt.int 0)]) kza2373 kza2373)
noncomputable def path_field_j3 (m:Nat) (rec1:List Dt→ByteArray→Int→Int→Option Int) (x0:List Dt) (x1:ByteArray) (x2 x3:Int):Option Int:=
 rec1 x0 x1 x2 (IntKind.wrap .i64 (x3+1))
noncomputable def path_field_j2 (m:Nat) (rec1:List Dt→ByteArray→Int→Int→Option Int) (x0:List Dt) (x1:ByteArray) (x2 x3:Int):Option Int:=
  ((idx x0 x3).bind fun v0=>
    (bif ((ByteArray.toList (Dt.S v0 0))==(ByteArray.toList x1)) then
 some x3
    else
 path_field_j3 m rec1 x0 x1 x2 x3))
noncomputable def path_field_j4 (m:Nat):Option Int:=
 some (-1)
noncomputable def path_field_l1 (m:Nat):Nat→List Dt→ByteArray→Int→Int→Option Int
 |0,_,_,_,_=>none
 |M1+1,x0,x1,x2,x3=>
  (bif (decide (x3<x2)) then
  path_field_j2 m (path_field_l1 m M1) x0 x1 x2 x3
 else
  path_field_j4 m)
noncomputable def path_field_j0 (m:Nat) (x0:List Dt) (x1:ByteArray) (x2 x3:Int):Option Int:=
 path_field_l1 m (Nat.succ m) x0 x1 x2 x3
noncomputable def path_field:Nat→List Dt→ByteArray→Option Int
 |0,_,_=>none
 |m+1,a0,a1=>
  path_field_j0 m a0 a1 (List.length a0:Int) 0
noncomputable def path_Number_j7 (m:Nat) (rec3:ByteArray→Int→Int→Int→Option (Int×Bool)) (x0:ByteArray) (x1 x2 x3:Int):Option (Int×Bool):=
 rec3 x0 x1 x2 (IntKind.wrap .i64 (x3+1))
noncomputable def path_Number_j6 (m:Nat) (rec3:ByteArray→Int→Int→Int→Option (Int×Bool)) (x0:ByteArray) (x1 x2 x3 x4:Int):Option (Int×Bool):=
 ((idxS x0 x2).bind fun v1=>
   path_Number_j7 m rec3 x0 (IntKind.wrap .i64 ((IntKind.wrap .i64 (10*x1))+(IntKind.wrap .i64 (IntKind.wrap IntKind.u8 (v1-48))))) x3 x4)
noncomputable def path_Number_j5 (m:Nat) (rec3:ByteArray→Int→Int→Int→Option (Int×Bool)) (x0:ByteArray) (x1 x2 x3 x4:Int) (x5:Bool):Option (Int×Bool):=
 (bif x5 then
  some (0,false)
 else
  path_Number_j6 m rec3 x0 x1 x2 x3 x4)
noncomputable def path_Number_j4 (m:Nat) (rec3:ByteArray→Int→Int→Int→Option (Int×Bool)) (x0:ByteArray) (x1 x2 x3:Int):Option (Int×Bool):=
  ((idxS x0 x3).bind fun v0=>
    (bif (decide (v0<48)) then
 path_Number_j5 m rec3 x0 x1 x3 x2 x3 true
    else
 ((idxS x0 x3).bind fun v2=>
 path_Number_j5 m rec3 x0 x1 x3 x2 x3 (decide (57<v2)))))
noncomputable def path_Number_j8 (m:Nat) (x0:Int):Option (Int×Bool):=
 some (x0,true)
noncomputable def path_Number_l3 (m:Nat):Nat→ByteArray→Int→Int→Int→Option (Int×Bool)
 |0,_,_,_,_=>none
 |M3+1,x0,x1,x2,x3=>
  (bif (decide (x3<x2)) then
  path_Number_j4 m (path_Number_l3 m M3) x0 x1 x2 x3
 else
  path_Number_j8 m x1)
noncomputable def path_Number_j2 (m:Nat) (x0:ByteArray) (x1 x2 x3:Int):Option (Int×Bool):=
 path_Number_l3 m (Nat.succ m) x0 x1 x2 x3
noncomputable def path_Number_j1 (m:Nat) (x0:ByteArray):Option (Int×Bool):=
 path_Number_j2 m x0 0 (ByteArray.size x0:Int) 0
noncomputable def path_Number_j0 (m:Nat) (x0:ByteArray) (x1:Bool):Option (Int×Bool):=
 (bif x1 then
  some (0,false)
 else
  path_Number_j1 m x0)
noncomputable def path_Number:Nat→ByteArray→Option (Int×Bool)
  |0,_=>none
  |m+1,a0=>
   (bif (decide ((ByteArray.size a0:Int)<1)) then
   path_Number_j0 m a0 true
  else
   (bif (decide (4<(ByteArray.size a0:Int))) then
 path_Number_j0 m a0 true
   else
 ((idxS a0 0).bind fun v3=>
 (bif (v3==48) then
 path_Number_j0 m a0 (decide (1<(ByteArray.size a0:Int)))
 else
 path_Number_j0 m a0 false))))
noncomputable def i64_j1 (m:Nat) (self64:Dt→List Dt→List Dt→Option (List Dt)) (x0:List Dt):Option (List Dt):=
 some x0
noncomputable def i64_j5 (m:Nat) (self64:Dt→List Dt→List Dt→Option (List Dt)) (rec3:List Dt→List Dt→Int→Int→List Dt→Dt→Option (List Dt)) (x0 x1:List Dt) (x2 x3:Int) (x4:List Dt) (x5:Dt):Option (List Dt):=
 rec3 x0 x1 x2 (IntKind.wrap .i64 (x3+1)) x4 x5
noncomputable def i64_j4 (m:Nat) (self64:Dt→List Dt→List Dt→Option (List Dt)) (rec3:List Dt→List Dt→Int→Int→List Dt→Dt→Option (List Dt)) (x0 x1:List Dt) (x2 x3:Int) (x4:List Dt) (x5:Dt):Option (List Dt):=
  ((idx x1 x3).bind fun v6=>
    (bif ((Dt.I v6 0)==5) then
 ((self64 v6 x0 x4).bind fun r7=>
 i64_j5 m self64 rec3 x0 x1 x2 x3 r7 x5)
    else
 i64_j5 m self64 rec3 x0 x1 x2 x3 x4 x5))
noncomputable def i64_j7 (m:Nat) (self64:Dt→List Dt→List Dt→Option (List Dt)) (x0:List Dt) (x1:Int) (x2:Bool) (x3:List Dt) (x4:Dt):Option (List Dt):=
  (bif x2 then
   ((idx (Dt.L x4 3) x1).bind fun v10=>
 ((cutL x0 1 (List.length x0:Int)).bind fun v11=>
 ((self64 v10 v11 x3).bind fun r12=>
 i64_j1 m self64 r12)))
  else
   i64_j1 m self64 x3)
noncomputable def i64_j6 (m:Nat) (self64:Dt→List Dt→List Dt→Option (List Dt)) (x0 x1:List Dt) (x2:Dt):Option (List Dt):=
  ((idx x0 0).bind fun v8=>
    ((path_Number m (Dt.toStr v8)).bind fun r9=>
 (bif r9.2 then
 i64_j7 m self64 x0 r9.1 (decide (r9.1<(List.length (Dt.L x2 3):Int))) x1 x2
 else
 i64_j7 m self64 x0 r9.1 false x1 x2)))
noncomputable def i64_l3 (m:Nat) (self64:Dt→List Dt→List Dt→Option (List Dt)):Nat→List Dt→List Dt→Int→Int→List Dt→Dt→Option (List Dt)
 |0,_,_,_,_,_,_=>none
 |M3+1,x0,x1,x2,x3,x4,x5=>
  (bif (decide (x3<x2)) then
  i64_j4 m self64 (i64_l3 m self64 M3) x0 x1 x2 x3 x4 x5
 else
  i64_j6 m self64 x0 x4 x5)
noncomputable def i64_j2 (m:Nat) (self64:Dt→List Dt→List Dt→Option (List Dt)) (x0 x1:List Dt) (x2 x3:Int) (x4:List Dt) (x5:Dt):Option (List Dt):=
 i64_l3 m self64 (Nat.succ m) x0 x1 x2 x3 x4 x5
noncomputable def i64_j0 (m:Nat) (self64:Dt→List Dt→List Dt→Option (List Dt)) (x0 x1:List Dt) (x2:Dt):Option (List Dt):=
  (bif ((Dt.I x2 0)==5) then
   ((idx x0 0).bind fun v1=>
 ((path_field m (Dt.L x2 4) (Dt.toStr v1)).bind fun r2=>
 (bif (decide (0≤r2)) then
 ((idx (Dt.L x2 4) r2).bind fun v3=>
 ((cutL x0 1 (List.length x0:Int)).bind fun v4=>
 ((self64 (Dt.fld v3 1) v4 x1).bind fun r5=>
 i64_j1 m self64 r5)))
 else
 i64_j1 m self64 x1)))
  else
   (bif ((Dt.I x2 0)==6) then
 i64_j2 m self64 x0 (Dt.L x2 3) (List.length (Dt.L x2 3):Int) 0 x1 x2
   else
 i64_j1 m self64 x1))
noncomputable def i64:Nat→Dt→List Dt→List Dt→Option (List Dt)
  |0,_,_,_=>none
  |m+1,a0,a1,a2=>
   (bif ((List.length a1:Int)==0) then
   ((app a2 [a0]).bind fun v0=>
 some v0)
  else
   i64_j0 m (i64 m) a1 a2 a0)
noncomputable def path_Reach_j4 (m:Nat) (rec2:Int→Int→List Dt→Option (List Dt)) (x0 x1:Int) (x2:List Dt):Option (List Dt):=
 rec2 x0 (IntKind.wrap .i64 (x1+1)) x2
noncomputable def path_Reach_j3 (m:Nat) (rec2:Int→Int→List Dt→Option (List Dt)) (x0 x1:Int) (x2:List Dt):Option (List Dt):=
  ((inL x2 x1).bind fun v1=>
    ((x2[(Int.toNat x1)]?).bind fun v2=>
 ((path_clone m v2).bind fun r3=>
 ((inL x2 x1).bind fun v4=>
 ((x2[(Int.toNat x1)]?).bind fun v5=>
 path_Reach_j4 m rec2 x0 x1 (List.set x2 (Int.toNat x1) (Dt.agg [(Dt.int r3.1),(Dt.int r3.2.1),(Dt.str r3.2.2.1),(Dt.lst r3.2.2.2.1),(Dt.lst r3.2.2.2.2)])))))))
noncomputable def path_Reach_j5 (m:Nat) (x0:List Dt):Option (List Dt):=
 some x0
noncomputable def path_Reach_l2 (m:Nat):Nat→Int→Int→List Dt→Option (List Dt)
 |0,_,_,_=>none
 |M2+1,x0,x1,x2=>
  (bif (decide (x1<x0)) then
  path_Reach_j3 m (path_Reach_l2 m M2) x0 x1 x2
 else
  path_Reach_j5 m x2)
noncomputable def path_Reach_j1 (m:Nat) (x0 x1:Int) (x2:List Dt):Option (List Dt):=
 path_Reach_l2 m (Nat.succ m) x0 x1 x2
noncomputable def path_Reach_j0 (m:Nat) (x0:List Dt):Option (List Dt):=
 path_Reach_j1 m (List.length x0:Int) 0 x0
noncomputable def path_Reach:Nat→Dt→List Dt→Option (List Dt)
  |0,_,_=>none
  |m+1,a0,a1=>
   ((i64 m a0 a1 []).bind fun r0=>
   (bif ((List.length r0:Int)==0) then
 some [kza2373]
   else
 path_Reach_j0 m r0))
noncomputable def path_Leaves_j6 (m:Nat) (rec1:List Dt→Int→Int→List Dt→Option (List Dt)) (rec4:List Dt→Int→Int→List Dt→Int→Int→List Dt→Option (List Dt)) (x0:List Dt) (x1 x2:Int) (x3:List Dt) (x4 x5:Int) (x6:List Dt):Option (List Dt):=
 rec4 x0 x1 x2 x3 x4 (IntKind.wrap .i64 (x5+1)) x6
noncomputable def path_Leaves_j5 (m:Nat) (rec1:List Dt→Int→Int→List Dt→Option (List Dt)) (rec4:List Dt→Int→Int→List Dt→Int→Int→List Dt→Option (List Dt)) (x0:List Dt) (x1 x2:Int) (x3:List Dt) (x4 x5:Int) (x6:List Dt):Option (List Dt):=
  ((idx x3 x5).bind fun v3=>
    ((path_clone m v3).bind fun r4=>
 ((app x6 [(Dt.agg [(Dt.int r4.1),(Dt.int r4.2.1),(Dt.str r4.2.2.1),(Dt.lst r4.2.2.2.1),(Dt.lst r4.2.2.2.2)])]).bind fun v5=>
 path_Leaves_j6 m rec1 rec4 x0 x1 x2 x3 x4 x5 v5)))
noncomputable def path_Leaves_j7 (m:Nat) (rec1:List Dt→Int→Int→List Dt→Option (List Dt)) (x0:List Dt) (x1 x2:Int) (x3:List Dt):Option (List Dt):=
 rec1 x0 x1 (IntKind.wrap .i64 (x2+1)) x3
noncomputable def path_Leaves_l4 (m:Nat) (rec1:List Dt→Int→Int→List Dt→Option (List Dt)):Nat→List Dt→Int→Int→List Dt→Int→Int→List Dt→Option (List Dt)
 |0,_,_,_,_,_,_,_=>none
 |M4+1,x0,x1,x2,x3,x4,x5,x6=>
  (bif (decide (x5<x4)) then
  path_Leaves_j5 m rec1 (path_Leaves_l4 m rec1 M4) x0 x1 x2 x3 x4 x5 x6
 else
  path_Leaves_j7 m rec1 x0 x1 x2 x6)
noncomputable def path_Leaves_j3 (m:Nat) (rec1:List Dt→Int→Int→List Dt→Option (List Dt)) (x0:List Dt) (x1 x2:Int) (x3:List Dt) (x4 x5:Int) (x6:List Dt):Option (List Dt):=
 path_Leaves_l4 m rec1 (Nat.succ m) x0 x1 x2 x3 x4 x5 x6
noncomputable def path_Leaves_j2 (m:Nat) (rec1:List Dt→Int→Int→List Dt→Option (List Dt)) (x0:List Dt) (x1 x2:Int) (x3:List Dt):Option (List Dt):=
  ((idx x0 x2).bind fun v1=>
    ((app x3 [v1]).bind fun v2=>
 (bif ((Dt.I v1 0)==6) then
 path_Leaves_j3 m rec1 x0 x1 x2 (Dt.L v1 3) (List.length (Dt.L v1 3):Int) 0 v2
 else
 path_Leaves_j7 m rec1 x0 x1 x2 v2)))
noncomputable def path_Leaves_j8 (m:Nat) (x0:List Dt):Option (List Dt):=
 some x0
noncomputable def path_Leaves_l1 (m:Nat):Nat→List Dt→Int→Int→List Dt→Option (List Dt)
 |0,_,_,_,_=>none
 |M1+1,x0,x1,x2,x3=>
  (bif (decide (x2<x1)) then
  path_Leaves_j2 m (path_Leaves_l1 m M1) x0 x1 x2 x3
 else
  path_Leaves_j8 m x3)
noncomputable def path_Leaves_j0 (m:Nat) (x0:List Dt) (x1 x2:Int) (x3:List Dt):Option (List Dt):=
 path_Leaves_l1 m (Nat.succ m) x0 x1 x2 x3
noncomputable def path_Leaves:Nat→Dt→List Dt→Option (List Dt)
 |0,_,_=>none
 |m+1,a0,a1=>
  ((path_Reach m a0 a1).bind fun r0=>
  path_Leaves_j0 m r0 (List.length r0:Int) 0 [])
noncomputable def geo_turn:Nat→Dt→Dt→Dt→Option Int
 |0,_,_,_=>none
 |m+1,a0,a1,a2=>
  some (IntKind.wrap .i64 ((IntKind.wrap .i64 ((IntKind.wrap .i64 ((Dt.I a1 0)-(Dt.I a0 0)))*(IntKind.wrap .i64 ((Dt.I a2 1)-(Dt.I a0 1)))))-(IntKind.wrap .i64 ((IntKind.wrap .i64 ((Dt.I a1 1)-(Dt.I a0 1)))*(IntKind.wrap .i64 ((Dt.I a2 0)-(Dt.I a0 0)))))))
noncomputable def geo_onEdge:Nat→Dt→Dt→Dt→Option Bool
  |0,_,_,_=>none
  |m+1,a0,a1,a2=>
   ((geo_turn m a0 a1 a2).bind fun r0=>
   (bif (r0==0) then
 (bif (decide ((bif (decide ((Dt.I a1 0)<(Dt.I a0 0))) then(Dt.I a1 0) else(Dt.I a0 0))≤(Dt.I a2 0))) then
 (bif (decide ((Dt.I a2 0)≤(bif (decide ((Dt.I a0 0)<(Dt.I a1 0))) then(Dt.I a1 0) else(Dt.I a0 0)))) then
 (bif (decide ((bif (decide ((Dt.I a1 1)<(Dt.I a0 1))) then(Dt.I a1 1) else(Dt.I a0 1))≤(Dt.I a2 1))) then
 some (decide ((Dt.I a2 1)≤(bif (decide ((Dt.I a0 1)<(Dt.I a1 1))) then(Dt.I a1 1) else(Dt.I a0 1))))
 else
 some false)
 else
 some false)
 else
 some false)
   else
 some false))
noncomputable def geo_crosses_j1 (m:Nat) (x0 x1 x2:Dt):Option Bool:=
 ((geo_turn m x0 x1 x2).bind fun r0=>
   some (decide (0<r0)))
noncomputable def geo_crosses_j0 (m:Nat) (x0 x1 x2:Dt):Option Bool:=
 (bif (decide ((Dt.I x1 1)<(Dt.I x0 1))) then
  geo_crosses_j1 m x1 x0 x2
 else
  geo_crosses_j1 m x0 x1 x2)
noncomputable def geo_crosses:Nat→Dt→Dt→Dt→Option Bool
 |0,_,_,_=>none
 |m+1,a0,a1,a2=>
  (bif ((decide ((Dt.I a2 1)<(Dt.I a0 1)))==(decide ((Dt.I a2 1)<(Dt.I a1 1)))) then
  some false
 else
  geo_crosses_j0 m a0 a1 a2)
noncomputable def geo_Inside_j8 (m:Nat) (rec4:Bool→List Dt→Int→Int→Dt→Dt→Option Bool) (x0:Bool) (x1:List Dt) (x2 x3:Int) (x4 x5:Dt):Option Bool:=
 rec4 x0 x1 x2 (IntKind.wrap .i64 (x3+1)) x4 x5
noncomputable def geo_Inside_j7 (m:Nat) (rec4:Bool→List Dt→Int→Int→Dt→Dt→Option Bool) (x0:Bool) (x1:List Dt) (x2 x3:Int) (x4 x5 x6:Dt):Option Bool:=
 geo_Inside_j8 m rec4 x0 x1 x2 x3 x4 x6
noncomputable def geo_Inside_j6 (m:Nat) (rec4:Bool→List Dt→Int→Int→Dt→Dt→Option Bool) (x0:Bool) (x1:List Dt) (x2 x3:Int) (x4 x5 x6:Dt):Option Bool:=
  ((geo_crosses m x5 x6 x4).bind fun r7=>
    (bif r7 then
 geo_Inside_j7 m rec4 (Bool.not x0) x1 x2 x3 x4 x5 x6
    else
 geo_Inside_j7 m rec4 x0 x1 x2 x3 x4 x5 x6))
noncomputable def geo_Inside_j5 (m:Nat) (rec4:Bool→List Dt→Int→Int→Dt→Dt→Option Bool) (x0:Bool) (x1:List Dt) (x2 x3:Int) (x4 x5:Dt):Option Bool:=
  ((idx x1 x3).bind fun v5=>
    ((geo_onEdge m x5 v5 x4).bind fun r6=>
 (bif r6 then
 some true
 else
 geo_Inside_j6 m rec4 x0 x1 x2 x3 x4 x5 v5)))
noncomputable def geo_Inside_j9 (m:Nat) (x0:Bool):Option Bool:=
 some x0
noncomputable def geo_Inside_l4 (m:Nat):Nat→Bool→List Dt→Int→Int→Dt→Dt→Option Bool
 |0,_,_,_,_,_,_=>none
 |M4+1,x0,x1,x2,x3,x4,x5=>
  (bif (decide (x3<x2)) then
  geo_Inside_j5 m (geo_Inside_l4 m M4) x0 x1 x2 x3 x4 x5
 else
  geo_Inside_j9 m x0)
noncomputable def geo_Inside_j3 (m:Nat) (x0:Bool) (x1:List Dt) (x2 x3:Int) (x4 x5:Dt):Option Bool:=
 geo_Inside_l4 m (Nat.succ m) x0 x1 x2 x3 x4 x5
noncomputable def geo_Inside_j2 (m:Nat) (x0 x1:Dt):Option Bool:=
 ((idx (Dt.L x0 1) (IntKind.wrap .i64 ((List.length (Dt.L x0 1):Int)-1))).bind fun v4=>
   geo_Inside_j3 m false (Dt.L x0 1) (List.length (Dt.L x0 1):Int) 0 x1 v4)
noncomputable def geo_Inside_j1 (m:Nat) (x0 x1:Dt):Option Bool:=
  (bif ((Dt.I x0 0)==1) then
   ((geo_bounds m x0).bind fun r1=>
 (bif (decide ((Dt.I r1.1 0)≤(Dt.I x1 0))) then
 (bif (decide ((Dt.I x1 0)≤(Dt.I r1.2 0))) then
 (bif (decide ((Dt.I r1.1 1)≤(Dt.I x1 1))) then
 some (decide ((Dt.I x1 1)≤(Dt.I r1.2 1)))
 else
 some false)
 else
 some false)
 else
 some false))
  else
   (bif ((Dt.I x0 0)==2) then
 ((idx (Dt.L x0 1) 0).bind fun v2=>
 ((geo_Distance m v2 x1).bind fun r3=>
 some (decide (r3≤(IntKind.wrap .i64 ((Dt.I x0 2)*(Dt.I x0 2)))))))
   else
 geo_Inside_j2 m x0 x1))
noncomputable def geo_Inside_j0 (m:Nat) (x0:Bool) (x1 x2:Dt):Option Bool:=
 (bif x0 then
  some false
 else
  geo_Inside_j1 m x1 x2)
noncomputable def geo_Inside:Nat→Dt→Dt→Option Bool
  |0,_,_=>none
  |m+1,a0,a1=>
   ((geo_Valid m a0).bind fun r0=>
   (bif (r0 !=0) then
 geo_Inside_j0 m true a0 a1
   else
 ((geo_isPoint m a1).bind fun r8=>
 geo_Inside_j0 m (Bool.not r8) a0 a1)))
noncomputable def reshape_nearest_j3 (m:Nat) (rec1:Int→Bool→List Dt→Int→Int→Dt→Option (Int×Bool)) (x0:Int) (x1:Bool) (x2:List Dt) (x3 x4:Int) (x5:Dt):Option (Int×Bool):=
 rec1 x0 x1 x2 x3 (IntKind.wrap .i64 (x4+1)) x5
noncomputable def reshape_nearest_j5 (m:Nat) (rec1:Int→Bool→List Dt→Int→Int→Dt→Option (Int×Bool)) (x0:Int) (x1:Bool) (x2:Int) (x3:List Dt) (x4 x5:Int) (x6:Bool) (x7:Dt):Option (Int×Bool):=
 (bif x6 then
  reshape_nearest_j3 m rec1 x2 true x3 x4 x5 x7
 else
  reshape_nearest_j3 m rec1 x0 x1 x3 x4 x5 x7)
noncomputable def reshape_nearest_j4 (m:Nat) (rec1:Int→Bool→List Dt→Int→Int→Dt→Option (Int×Bool)) (x0:Int) (x1:Bool) (x2:List Dt) (x3 x4:Int) (x5 x6:Dt):Option (Int×Bool):=
  ((idx (Dt.L x5 1) 0).bind fun v4=>
    ((geo_Distance m x6 v4).bind fun r5=>
 (bif (Bool.not x1) then
 reshape_nearest_j5 m rec1 x0 x1 r5 x2 x3 x4 true x5
 else
 reshape_nearest_j5 m rec1 x0 x1 r5 x2 x3 x4 (decide (r5<x0)) x5)))
noncomputable def reshape_nearest_j2 (m:Nat) (rec1:Int→Bool→List Dt→Int→Int→Dt→Option (Int×Bool)) (x0:Int) (x1:Bool) (x2:List Dt) (x3 x4:Int) (x5:Dt):Option (Int×Bool):=
  ((idx x2 x4).bind fun v1=>
    ((geo_Point m v1).bind fun r2=>
 (bif (r2.2 !=0) then
 reshape_nearest_j3 m rec1 x0 x1 x2 x3 x4 x5
 else
 ((geo_Inside m x5 r2.1).bind fun r3=>
 (bif (Bool.not r3) then
 reshape_nearest_j3 m rec1 x0 x1 x2 x3 x4 x5
 else
 reshape_nearest_j4 m rec1 x0 x1 x2 x3 x4 x5 r2.1)))))
noncomputable def reshape_nearest_j6 (m:Nat) (x0:Int) (x1:Bool):Option (Int×Bool):=
 some (x0,x1)
noncomputable def reshape_nearest_l1 (m:Nat):Nat→Int→Bool→List Dt→Int→Int→Dt→Option (Int×Bool)
 |0,_,_,_,_,_,_=>none
 |M1+1,x0,x1,x2,x3,x4,x5=>
  (bif (decide (x4<x3)) then
  reshape_nearest_j2 m (reshape_nearest_l1 m M1) x0 x1 x2 x3 x4 x5
 else
  reshape_nearest_j6 m x0 x1)
noncomputable def reshape_nearest_j0 (m:Nat) (x0:Int) (x1:Bool) (x2:List Dt) (x3 x4:Int) (x5:Dt):Option (Int×Bool):=
 reshape_nearest_l1 m (Nat.succ m) x0 x1 x2 x3 x4 x5
noncomputable def reshape_nearest:Nat→Dt→List Dt→Dt→Option (Int×Bool)
 |0,_,_,_=>none
 |m+1,a0,a1,a2=>
  ((path_Leaves m a2 a1).bind fun r0=>
  reshape_nearest_j0 m 0 false r0 (List.length r0:Int) 0 a0)
noncomputable def reshape_Near_j5 (m:Nat) (rec3:List Dt→ByteArray→List Dt→Int→Int→Dt→List Dt→Option (List Dt)) (x0:List Dt) (x1:ByteArray) (x2:List Dt) (x3 x4:Int) (x5:Dt) (x6:List Dt):Option (List Dt):=
 rec3 x0 x1 x2 x3 (IntKind.wrap .i64 (x4+1)) x5 x6
noncomputable def reshape_Near_j4 (m:Nat) (rec3:List Dt→ByteArray→List Dt→Int→Int→Dt→List Dt→Option (List Dt)) (x0:List Dt) (x1:ByteArray) (x2:List Dt) (x3 x4:Int) (x5:Dt) (x6:List Dt):Option (List Dt):=
  ((idx x2 x4).bind fun v0=>
    ((reshape_nearest m x5 x0 v0).bind fun r1=>
 (bif r1.2 then
 ((app x6 [(Dt.agg [v0,(Dt.int r1.1)])]).bind fun v2=>
 reshape_Near_j5 m rec3 x0 x1 x2 x3 x4 x5 v2)
 else
 reshape_Near_j5 m rec3 x0 x1 x2 x3 x4 x5 x6)))
noncomputable def reshape_Near_j10 (m:Nat) (rec8:ByteArray→List Dt→Int→Int→List Dt→Option (List Dt)) (x0:ByteArray) (x1:List Dt) (x2 x3:Int) (x4:List Dt):Option (List Dt):=
 rec8 x0 x1 x2 (IntKind.wrap .i64 (x3+1)) x4
noncomputable def reshape_Near_j9 (m:Nat) (rec8:ByteArray→List Dt→Int→Int→List Dt→Option (List Dt)) (x0:ByteArray) (x1:List Dt) (x2 x3:Int) (x4:List Dt):Option (List Dt):=
  ((idx x1 x3).bind fun v5=>
    ((reshape_copyValue m (Dt.fld v5 0)).bind fun r6=>
 ((reshape_integer m (Dt.I v5 1)).bind fun r7=>
 ((reshape_named m r6 x0 r7).bind fun r8=>
 ((inL x4 x3).bind fun v9=>
 ((x4[(Int.toNat x3)]?).bind fun v10=>
 reshape_Near_j10 m rec8 x0 x1 x2 x3 (List.set x4 (Int.toNat x3) r8)))))))
noncomputable def reshape_Near_j11 (m:Nat) (x0:List Dt):Option (List Dt):=
 some x0
noncomputable def reshape_Near_l8 (m:Nat):Nat→ByteArray→List Dt→Int→Int→List Dt→Option (List Dt)
 |0,_,_,_,_,_=>none
 |M8+1,x0,x1,x2,x3,x4=>
  (bif (decide (x3<x2)) then
  reshape_Near_j9 m (reshape_Near_l8 m M8) x0 x1 x2 x3 x4
 else
  reshape_Near_j11 m x4)
noncomputable def reshape_Near_j7 (m:Nat) (x0:ByteArray) (x1:List Dt) (x2 x3:Int) (x4:List Dt):Option (List Dt):=
 reshape_Near_l8 m (Nat.succ m) x0 x1 x2 x3 x4
noncomputable def reshape_Near_j6 (m:Nat) (x0:ByteArray) (x1:List Dt):Option (List Dt):=
  ((i12 m x1).bind fun r3=>
    ((mkL (List.length r3:Int) (List.length r3:Int) kza2373).bind fun v4=>
 reshape_Near_j7 m x0 r3 (List.length r3:Int) 0 v4))
noncomputable def reshape_Near_l3 (m:Nat):Nat→List Dt→ByteArray→List Dt→Int→Int→Dt→List Dt→Option (List Dt)
 |0,_,_,_,_,_,_,_=>none
 |M3+1,x0,x1,x2,x3,x4,x5,x6=>
  (bif (decide (x4<x3)) then
  reshape_Near_j4 m (reshape_Near_l3 m M3) x0 x1 x2 x3 x4 x5 x6
 else
  reshape_Near_j6 m x1 x6)
noncomputable def reshape_Near_j2 (m:Nat) (x0:List Dt) (x1:ByteArray) (x2:List Dt) (x3 x4:Int) (x5:Dt) (x6:List Dt):Option (List Dt):=
 reshape_Near_l3 m (Nat.succ m) x0 x1 x2 x3 x4 x5 x6
noncomputable def reshape_Near_j1 (m:Nat) (x0:List Dt) (x1:ByteArray) (x2:List Dt) (x3:Dt):Option (List Dt):=
 reshape_Near_j2 m x0 x1 x2 (List.length x2:Int) 0 x3 []
noncomputable def reshape_Near_j0 (m:Nat) (x0:List Dt) (x1:ByteArray) (x2:List Dt) (x3:Bool) (x4:Dt):Option (List Dt):=
 (bif x3 then
  some []
 else
  reshape_Near_j1 m x0 x1 x2 x4)
noncomputable def reshape_Near:Nat→Dt→List Dt→ByteArray→List Dt→Option (List Dt)
  |0,_,_,_,_=>none
  |m+1,a0,a1,a2,a3=>
   (bif ((Dt.I a0 0) !=2) then
   reshape_Near_j0 m a1 a2 a3 true a0
  else
   ((geo_Valid m a0).bind fun r11=>
 reshape_Near_j0 m a1 a2 a3 (r11 !=0) a0))
noncomputable def ref10_cross:Nat→Dt→Dt→Dt→Option Int
 |0,_,_,_=>none
 |m+1,a0,a1,a2=>
  some (IntKind.wrap .i64 ((IntKind.wrap .i64 ((IntKind.wrap .i64 ((Dt.I a1 0)-(Dt.I a0 0)))*(IntKind.wrap .i64 ((Dt.I a2 1)-(Dt.I a0 1)))))-(IntKind.wrap .i64 ((IntKind.wrap .i64 ((Dt.I a1 1)-(Dt.I a0 1)))*(IntKind.wrap .i64 ((Dt.I a2 0)-(Dt.I a0 0)))))))
noncomputable def ref10_polygon_j6 (m:Nat) (rec1:List Dt→Bool→Int→Dt→Option Bool) (x0:List Dt) (x1:Bool) (x2:Int) (x3:Dt):Option Bool:=
 rec1 x0 x1 (IntKind.wrap .i64 (x2+1)) x3
noncomputable def ref10_polygon_j5 (m:Nat) (rec1:List Dt→Bool→Int→Dt→Option Bool) (x0:List Dt) (x1:Bool) (x2:Int) (x3:Bool) (x4:Dt):Option Bool:=
 (bif x3 then
  ref10_polygon_j6 m rec1 x0 (Bool.not x1) x2 x4
 else
  ref10_polygon_j6 m rec1 x0 x1 x2 x4)
noncomputable def ref10_polygon_j4 (m:Nat) (rec1:List Dt→Bool→Int→Dt→Option Bool) (x0:List Dt) (x1:Bool) (x2 x3:Int) (x4 x5 x6:Dt):Option Bool:=
  (bif (decide ((Dt.I x5 1)≤(Dt.I x4 1))) then
   (bif (decide ((Dt.I x4 1)<(Dt.I x6 1))) then
 (bif (decide (0<x3)) then
 ref10_polygon_j5 m rec1 x0 x1 x2 true x4
 else
 (bif (decide ((Dt.I x6 1)≤(Dt.I x4 1))) then
 (bif (decide ((Dt.I x4 1)<(Dt.I x5 1))) then
 ref10_polygon_j5 m rec1 x0 x1 x2 (decide (x3<0)) x4
 else
 ref10_polygon_j5 m rec1 x0 x1 x2 false x4)
 else
 ref10_polygon_j5 m rec1 x0 x1 x2 false x4))
   else
 (bif (decide ((Dt.I x6 1)≤(Dt.I x4 1))) then
 (bif (decide ((Dt.I x4 1)<(Dt.I x5 1))) then
 ref10_polygon_j5 m rec1 x0 x1 x2 (decide (x3<0)) x4
 else
 ref10_polygon_j5 m rec1 x0 x1 x2 false x4)
 else
 ref10_polygon_j5 m rec1 x0 x1 x2 false x4))
  else
   (bif (decide ((Dt.I x6 1)≤(Dt.I x4 1))) then
 (bif (decide ((Dt.I x4 1)<(Dt.I x5 1))) then
 ref10_polygon_j5 m rec1 x0 x1 x2 (decide (x3<0)) x4
 else
 ref10_polygon_j5 m rec1 x0 x1 x2 false x4)
   else
 ref10_polygon_j5 m rec1 x0 x1 x2 false x4))
noncomputable def ref10_polygon_j3 (m:Nat) (rec1:List Dt→Bool→Int→Dt→Option Bool) (x0:List Dt) (x1:Bool) (x2 x3:Int) (x4:Bool) (x5 x6 x7:Dt):Option Bool:=
 (bif x4 then
  some true
 else
  ref10_polygon_j4 m rec1 x0 x1 x2 x3 x5 x6 x7)
noncomputable def ref10_polygon_j2 (m:Nat) (rec1:List Dt→Bool→Int→Dt→Option Bool) (x0:List Dt) (x1:Bool) (x2:Int) (x3:Dt):Option Bool:=
  ((idx x0 x2).bind fun v0=>
    (bif (decide ((List.length x0:Int)=0)) then
 none
    else
 ((idx x0 (Int.tmod (IntKind.wrap .i64 (x2+1)) (List.length x0:Int))).bind fun v1=>
 ((ref10_cross m v0 v1 x3).bind fun r2=>
 (bif (r2==0) then
 ((ref10_between m (Dt.I x3 0) (Dt.I v0 0) (Dt.I v1 0)).bind fun r3=>
 (bif r3 then
 ((ref10_between m (Dt.I x3 1) (Dt.I v0 1) (Dt.I v1 1)).bind fun r4=>
 ref10_polygon_j3 m rec1 x0 x1 x2 r2 r4 x3 v0 v1)
 else
 ref10_polygon_j3 m rec1 x0 x1 x2 r2 false x3 v0 v1))
 else
 ref10_polygon_j3 m rec1 x0 x1 x2 r2 false x3 v0 v1)))))
noncomputable def ref10_polygon_j7 (m:Nat) (x0:Bool):Option Bool:=
 some x0
noncomputable def ref10_polygon_l1 (m:Nat):Nat→List Dt→Bool→Int→Dt→Option Bool
 |0,_,_,_,_=>none
 |M1+1,x0,x1,x2,x3=>
  (bif (decide (x2<(List.length x0:Int))) then
  ref10_polygon_j2 m (ref10_polygon_l1 m M1) x0 x1 x2 x3
 else
  ref10_polygon_j7 m x1)
noncomputable def ref10_polygon_j0 (m:Nat) (x0:List Dt) (x1:Bool) (x2:Int) (x3:Dt):Option Bool:=
 ref10_polygon_l1 m (Nat.succ m) x0 x1 x2 x3
noncomputable def ref10_polygon:Nat→List Dt→Dt→Option Bool
 |0,_,_=>none
 |m+1,a0,a1=>
  ref10_polygon_j0 m a0 false 0 a1
noncomputable def ref10_Inside_j2 (m:Nat) (x0 x1:Dt):Option Bool:=
 ((ref10_polygon m (Dt.L x0 1) x1).bind fun r9=>
   some r9)
noncomputable def ref10_Inside_j1 (m:Nat) (x0 x1:Dt):Option Bool:=
  (bif ((Dt.I x0 0)==1) then
   ((idx (Dt.L x0 1) 0).bind fun v1=>
 ((idx (Dt.L x0 1) 1).bind fun v2=>
 ((ref10_between m (Dt.I x1 0) (Dt.I v1 0) (Dt.I v2 0)).bind fun r3=>
 (bif r3 then
 ((idx (Dt.L x0 1) 0).bind fun v4=>
 ((idx (Dt.L x0 1) 1).bind fun v5=>
 ((ref10_between m (Dt.I x1 1) (Dt.I v4 1) (Dt.I v5 1)).bind fun r6=>
 some r6)))
 else
 some false))))
  else
   (bif ((Dt.I x0 0)==2) then
 ((idx (Dt.L x0 1) 0).bind fun v7=>
 ((ref10_Distance m v7 x1).bind fun r8=>
 some (decide (r8≤(IntKind.wrap .i64 ((Dt.I x0 2)*(Dt.I x0 2)))))))
   else
 ref10_Inside_j2 m x0 x1))
noncomputable def ref10_Inside_j0 (m:Nat) (x0:Bool) (x1 x2:Dt):Option Bool:=
 (bif x0 then
  some false
 else
  ref10_Inside_j1 m x1 x2)
noncomputable def ref10_Inside:Nat→Dt→Dt→Option Bool
  |0,_,_=>none
  |m+1,a0,a1=>
   ((ref10_Valid m a0).bind fun r0=>
   (bif (r0 !=0) then
 ref10_Inside_j0 m true a0 a1
   else
 ((ref10_Is m a1).bind fun r10=>
 ref10_Inside_j0 m (Bool.not r10) a0 a1)))
noncomputable def ref01_Parts_j3 (m:Nat) (rec1:Int→Dt→List Dt→Option (List Dt)) (x0:Int) (x1:Dt) (x2:List Dt):Option (List Dt):=
 rec1 (IntKind.wrap .i64 (x0+1)) x1 x2
noncomputable def ref01_Parts_j2 (m:Nat) (rec1:Int→Dt→List Dt→Option (List Dt)) (x0:Int) (x1:Dt) (x2:List Dt):Option (List Dt):=
  ((idx (Dt.L x1 3) x0).bind fun v0=>
    ((app x2 [v0]).bind fun v1=>
 ref01_Parts_j3 m rec1 x0 x1 v1))
noncomputable def ref01_Parts_j8 (m:Nat) (rec6:Int→Dt→List Dt→Option (List Dt)) (x0:Int) (x1:Dt) (x2:List Dt):Option (List Dt):=
 rec6 (IntKind.wrap .i64 (x0+1)) x1 x2
noncomputable def ref01_Parts_j7 (m:Nat) (rec6:Int→Dt→List Dt→Option (List Dt)) (x0:Int) (x1:Dt) (x2:List Dt):Option (List Dt):=
  ((idx (Dt.L x1 4) x0).bind fun v2=>
    ((app x2 [(Dt.fld v2 1)]).bind fun v3=>
 ref01_Parts_j8 m rec6 x0 x1 v3))
noncomputable def ref01_Parts_j9 (m:Nat) (x0:List Dt):Option (List Dt):=
 some x0
noncomputable def ref01_Parts_l6 (m:Nat):Nat→Int→Dt→List Dt→Option (List Dt)
 |0,_,_,_=>none
 |M6+1,x0,x1,x2=>
  (bif (decide (x0<(List.length (Dt.L x1 4):Int))) then
  ref01_Parts_j7 m (ref01_Parts_l6 m M6) x0 x1 x2
 else
  ref01_Parts_j9 m x2)
noncomputable def ref01_Parts_j5 (m:Nat) (x0:Int) (x1:Dt) (x2:List Dt):Option (List Dt):=
 ref01_Parts_l6 m (Nat.succ m) x0 x1 x2
noncomputable def ref01_Parts_j4 (m:Nat) (x0:Dt) (x1:List Dt):Option (List Dt):=
 (bif ((Dt.I x0 0)==5) then
  ref01_Parts_j5 m 0 x0 x1
 else
  ref01_Parts_j9 m x1)
noncomputable def ref01_Parts_l1 (m:Nat):Nat→Int→Dt→List Dt→Option (List Dt)
 |0,_,_,_=>none
 |M1+1,x0,x1,x2=>
  (bif (decide (x0<(List.length (Dt.L x1 3):Int))) then
  ref01_Parts_j2 m (ref01_Parts_l1 m M1) x0 x1 x2
 else
  ref01_Parts_j4 m x1 x2)
noncomputable def ref01_Parts_j0 (m:Nat) (x0:Int) (x1:Dt) (x2:List Dt):Option (List Dt):=
 ref01_Parts_l1 m (Nat.succ m) x0 x1 x2
noncomputable def ref01_Parts:Nat→Dt→Option (List Dt)
 |0,_=>none
 |m+1,a0=>
  (bif ((Dt.I a0 0)==6) then
  ref01_Parts_j0 m 0 a0 []
 else
  ref01_Parts_j4 m a0 [])
noncomputable def ref01_levels_j5 (m:Nat) (self60:Dt→Int→Option Int) (rec3:Int→List Dt→Int→Int→Option Int) (x0:Int) (x1:List Dt) (x2 x3:Int):Option Int:=
 rec3 x0 x1 x2 (IntKind.wrap .i64 (x3+1))
noncomputable def ref01_levels_j4 (m:Nat) (self60:Dt→Int→Option Int) (rec3:Int→List Dt→Int→Int→Option Int) (x0:Int) (x1:List Dt) (x2 x3:Int):Option Int:=
  ((idx x1 x3).bind fun v1=>
    ((self60 v1 (IntKind.wrap .i64 (x0-1))).bind fun r2=>
 ref01_levels_j5 m self60 rec3 x0 x1 (bif (decide (x2<r2)) then r2 else x2) x3))
noncomputable def ref01_levels_j6 (m:Nat) (self60:Dt→Int→Option Int) (x0:Int):Option Int:=
 some (IntKind.wrap .i64 (x0+1))
noncomputable def ref01_levels_l3 (m:Nat) (self60:Dt→Int→Option Int):Nat→Int→List Dt→Int→Int→Option Int
 |0,_,_,_,_=>none
 |M3+1,x0,x1,x2,x3=>
  (bif (decide (x3<(List.length x1:Int))) then
  ref01_levels_j4 m self60 (ref01_levels_l3 m self60 M3) x0 x1 x2 x3
 else
  ref01_levels_j6 m self60 x2)
noncomputable def ref01_levels_j2 (m:Nat) (self60:Dt→Int→Option Int) (x0:Int) (x1:List Dt) (x2 x3:Int):Option Int:=
 ref01_levels_l3 m self60 (Nat.succ m) x0 x1 x2 x3
noncomputable def ref01_levels_j1 (m:Nat) (self60:Dt→Int→Option Int) (x0:Int) (x1:List Dt):Option Int:=
 ref01_levels_j2 m self60 x0 x1 0 0
noncomputable def ref01_levels_j0 (m:Nat) (self60:Dt→Int→Option Int) (x0:Int) (x1:List Dt) (x2:Bool):Option Int:=
 (bif x2 then
  some 1
 else
  ref01_levels_j1 m self60 x0 x1)
noncomputable def ref01_levels:Nat→Dt→Int→Option Int
  |0,_,_=>none
  |m+1,a0,a1=>
   ((ref01_Parts m a0).bind fun r0=>
   (bif (decide (a1<2)) then
 ref01_levels_j0 m (ref01_levels m) a1 r0 true
   else
 ref01_levels_j0 m (ref01_levels m) a1 r0 ((List.length r0:Int)==0)))
noncomputable def ref01_Depth:Nat→Dt→Option Int
 |0,_=>none
 |m+1,a0=>
  ((ref01_levels m a0 17).bind fun r0=>
  some r0)
noncomputable def ref01_count_j3 (m:Nat) (self61:Dt→Int→Option Int) (rec1:Int→Int→List Dt→Int→Option Int) (x0 x1:Int) (x2:List Dt) (x3:Int):Option Int:=
 rec1 x0 x1 x2 (IntKind.wrap .i64 (x3+1))
noncomputable def ref01_count_j2 (m:Nat) (self61:Dt→Int→Option Int) (rec1:Int→Int→List Dt→Int→Option Int) (x0 x1:Int) (x2:List Dt) (x3:Int):Option Int:=
  ((idx x2 x3).bind fun v1=>
    ((self61 v1 (IntKind.wrap .i64 (x0-x1))).bind fun r2=>
 ref01_count_j3 m self61 rec1 x0 (IntKind.wrap .i64 (x1+r2)) x2 x3))
noncomputable def ref01_count_j4 (m:Nat) (self61:Dt→Int→Option Int) (x0:Int):Option Int:=
 some x0
noncomputable def ref01_count_l1 (m:Nat) (self61:Dt→Int→Option Int):Nat→Int→Int→List Dt→Int→Option Int
  |0,_,_,_,_=>none
  |M1+1,x0,x1,x2,x3=>
   (bif (decide (x3<(List.length x2:Int))) then
   (bif (decide (x1<x0)) then
 ref01_count_j2 m self61 (ref01_count_l1 m self61 M1) x0 x1 x2 x3
   else
 ref01_count_j4 m self61 x1)
  else
   ref01_count_j4 m self61 x1)
noncomputable def ref01_count_j0 (m:Nat) (self61:Dt→Int→Option Int) (x0 x1:Int) (x2:List Dt) (x3:Int):Option Int:=
 ref01_count_l1 m self61 (Nat.succ m) x0 x1 x2 x3
noncomputable def ref01_count:Nat→Dt→Int→Option Int
 |0,_,_=>none
 |m+1,a0,a1=>
  ((ref01_Parts m a0).bind fun r0=>
  ref01_count_j0 m (ref01_count m) a1 1 r0 0)
noncomputable def ref01_Nodes:Nat→Dt→Option Int
 |0,_=>none
 |m+1,a0=>
  ((ref01_count m a0 1025).bind fun r0=>
  some r0)
noncomputable def ref01_tail_j5 (m:Nat) (rec2:ByteArray→Int→Int→Int→Option Bool) (x0:ByteArray) (x1 x2 x3:Int):Option Bool:=
 rec2 x0 x1 x2 (IntKind.wrap .i64 (x3+1))
noncomputable def ref01_tail_j4 (m:Nat) (rec2:ByteArray→Int→Int→Int→Option Bool) (x0:ByteArray) (x1 x2 x3:Int) (x4:Bool):Option Bool:=
 (bif x4 then
  some false
 else
  ref01_tail_j5 m rec2 x0 x1 x2 x3)
noncomputable def ref01_tail_j3 (m:Nat) (rec2:ByteArray→Int→Int→Int→Option Bool) (x0:ByteArray) (x1 x2 x3:Int):Option Bool:=
  ((idxS x0 (IntKind.wrap .i64 (x1+x3))).bind fun v0=>
    (bif (decide (v0<128)) then
 ref01_tail_j4 m rec2 x0 x1 x2 x3 true
    else
 ((idxS x0 (IntKind.wrap .i64 (x1+x3))).bind fun v1=>
 ref01_tail_j4 m rec2 x0 x1 x2 x3 (decide (191<v1)))))
noncomputable def ref01_tail_j6 (m:Nat):Option Bool:=
 some true
noncomputable def ref01_tail_l2 (m:Nat):Nat→ByteArray→Int→Int→Int→Option Bool
 |0,_,_,_,_=>none
 |M2+1,x0,x1,x2,x3=>
  (bif (decide (x3<x2)) then
  ref01_tail_j3 m (ref01_tail_l2 m M2) x0 x1 x2 x3
 else
  ref01_tail_j6 m)
noncomputable def ref01_tail_j1 (m:Nat) (x0:ByteArray) (x1 x2 x3:Int):Option Bool:=
 ref01_tail_l2 m (Nat.succ m) x0 x1 x2 x3
noncomputable def ref01_tail_j0 (m:Nat) (x0:ByteArray) (x1 x2:Int):Option Bool:=
 ref01_tail_j1 m x0 x1 x2 0
noncomputable def ref01_tail:Nat→ByteArray→Int→Int→Option Bool
 |0,_,_,_=>none
 |m+1,a0,a1,a2=>
  (bif (decide ((ByteArray.size a0:Int)<(IntKind.wrap .i64 (a1+a2)))) then
  some false
 else
  ref01_tail_j0 m a0 a1 a2)
noncomputable def ref01_UTF8_j6 (m:Nat) (rec1:ByteArray→Int→Option Bool) (x0:ByteArray) (x1 x2:Int):Option Bool:=
 rec1 x0 (IntKind.wrap .i64 ((IntKind.wrap .i64 (x1+x2))+1))
noncomputable def ref01_UTF8_j5 (m:Nat) (rec1:ByteArray→Int→Option Bool) (x0:ByteArray) (x1 x2:Int) (x3:Bool):Option Bool:=
 (bif x3 then
  some false
 else
  ref01_UTF8_j6 m rec1 x0 x1 x2)
noncomputable def ref01_UTF8_j4 (m:Nat) (rec1:ByteArray→Int→Option Bool) (x0:ByteArray) (x1 x2 x3:Int):Option Bool:=
  (bif (x2==224) then
   ((idxS x0 (IntKind.wrap .i64 (x1+1))).bind fun v2=>
 (bif (decide (v2<160)) then
 ref01_UTF8_j5 m rec1 x0 x1 x3 true
 else
 (bif (x2==237) then
 ((idxS x0 (IntKind.wrap .i64 (x1+1))).bind fun v3=>
 (bif (decide (159<v3)) then
 ref01_UTF8_j5 m rec1 x0 x1 x3 true
 else
 (bif (x2==240) then
 ((idxS x0 (IntKind.wrap .i64 (x1+1))).bind fun v4=>
 (bif (decide (v4<144)) then
 ref01_UTF8_j5 m rec1 x0 x1 x3 true
 else
 (bif (x2==244) then
 ((idxS x0 (IntKind.wrap .i64 (x1+1))).bind fun v5=>
 ref01_UTF8_j5 m rec1 x0 x1 x3 (decide (143<v5)))
 else
 ref01_UTF8_j5 m rec1 x0 x1 x3 false)))
 else
 (bif (x2==244) then
 ((idxS x0 (IntKind.wrap .i64 (x1+1))).bind fun v6=>
 ref01_UTF8_j5 m rec1 x0 x1 x3 (decide (143<v6)))
 else
 ref01_UTF8_j5 m rec1 x0 x1 x3 false))))
 else
 (bif (x2==240) then
 ((idxS x0 (IntKind.wrap .i64 (x1+1))).bind fun v7=>
 (bif (decide (v7<144)) then
 ref01_UTF8_j5 m rec1 x0 x1 x3 true
 else
 (bif (x2==244) then
 ((idxS x0 (IntKind.wrap .i64 (x1+1))).bind fun v8=>
 ref01_UTF8_j5 m rec1 x0 x1 x3 (decide (143<v8)))
 else
 ref01_UTF8_j5 m rec1 x0 x1 x3 false)))
 else
 (bif (x2==244) then
 ((idxS x0 (IntKind.wrap .i64 (x1+1))).bind fun v9=>
 ref01_UTF8_j5 m rec1 x0 x1 x3 (decide (143<v9)))
 else
 ref01_UTF8_j5 m rec1 x0 x1 x3 false)))))
  else
   (bif (x2==237) then
 ((idxS x0 (IntKind.wrap .i64 (x1+1))).bind fun v10=>
 (bif (decide (159<v10)) then
 ref01_UTF8_j5 m rec1 x0 x1 x3 true
 else
 (bif (x2==240) then
 ((idxS x0 (IntKind.wrap .i64 (x1+1))).bind fun v11=>
 (bif (decide (v11<144)) then
 ref01_UTF8_j5 m rec1 x0 x1 x3 true
 else
 (bif (x2==244) then
 ((idxS x0 (IntKind.wrap .i64 (x1+1))).bind fun v12=>
 ref01_UTF8_j5 m rec1 x0 x1 x3 (decide (143<v12)))
 else
 ref01_UTF8_j5 m rec1 x0 x1 x3 false)))
 else
 (bif (x2==244) then
 ((idxS x0 (IntKind.wrap .i64 (x1+1))).bind fun v13=>
 ref01_UTF8_j5 m rec1 x0 x1 x3 (decide (143<v13)))
 else
 ref01_UTF8_j5 m rec1 x0 x1 x3 false))))
   else
 (bif (x2==240) then
 ((idxS x0 (IntKind.wrap .i64 (x1+1))).bind fun v14=>
 (bif (decide (v14<144)) then
 ref01_UTF8_j5 m rec1 x0 x1 x3 true
 else
 (bif (x2==244) then
 ((idxS x0 (IntKind.wrap .i64 (x1+1))).bind fun v15=>
 ref01_UTF8_j5 m rec1 x0 x1 x3 (decide (143<v15)))
 else
 ref01_UTF8_j5 m rec1 x0 x1 x3 false)))
 else
 (bif (x2==244) then
 ((idxS x0 (IntKind.wrap .i64 (x1+1))).bind fun v16=>
 ref01_UTF8_j5 m rec1 x0 x1 x3 (decide (143<v16)))
 else
 ref01_UTF8_j5 m rec1 x0 x1 x3 false))))
noncomputable def ref01_UTF8_j3 (m:Nat) (rec1:ByteArray→Int→Option Bool) (x0:ByteArray) (x1 x2 x3:Int):Option Bool:=
  ((ref01_tail m x0 (IntKind.wrap .i64 (x1+1)) x3).bind fun r1=>
    (bif (Bool.not r1) then
 some false
    else
 ref01_UTF8_j4 m rec1 x0 x1 x2 x3))
noncomputable def ref01_UTF8_j9 (m:Nat) (rec1:ByteArray→Int→Option Bool) (x0:ByteArray) (x1 x2:Int) (x3:Bool):Option Bool:=
 (bif x3 then
  ref01_UTF8_j3 m rec1 x0 x1 x2 3
 else
  some false)
noncomputable def ref01_UTF8_j8 (m:Nat) (rec1:ByteArray→Int→Option Bool) (x0:ByteArray) (x1 x2:Int) (x3:Bool):Option Bool:=
  (bif x3 then
   ref01_UTF8_j3 m rec1 x0 x1 x2 2
  else
   (bif (decide (240≤x2)) then
 ref01_UTF8_j9 m rec1 x0 x1 x2 (decide (x2≤244))
   else
 ref01_UTF8_j9 m rec1 x0 x1 x2 false))
noncomputable def ref01_UTF8_j7 (m:Nat) (rec1:ByteArray→Int→Option Bool) (x0:ByteArray) (x1 x2:Int) (x3:Bool):Option Bool:=
  (bif x3 then
   ref01_UTF8_j3 m rec1 x0 x1 x2 1
  else
   (bif (decide (224≤x2)) then
 ref01_UTF8_j8 m rec1 x0 x1 x2 (decide (x2≤239))
   else
 ref01_UTF8_j8 m rec1 x0 x1 x2 false))
noncomputable def ref01_UTF8_j2 (m:Nat) (rec1:ByteArray→Int→Option Bool) (x0:ByteArray) (x1:Int):Option Bool:=
  ((idxS x0 x1).bind fun v0=>
    (bif (decide (v0<128)) then
 ref01_UTF8_j3 m rec1 x0 x1 v0 0
    else
 (bif (decide (194≤v0)) then
 ref01_UTF8_j7 m rec1 x0 x1 v0 (decide (v0≤223))
 else
 ref01_UTF8_j7 m rec1 x0 x1 v0 false)))
noncomputable def ref01_UTF8_j10 (m:Nat):Option Bool:=
 some true
noncomputable def ref01_UTF8_l1 (m:Nat):Nat→ByteArray→Int→Option Bool
 |0,_,_=>none
 |M1+1,x0,x1=>
  (bif (decide (x1<(ByteArray.size x0:Int))) then
  ref01_UTF8_j2 m (ref01_UTF8_l1 m M1) x0 x1
 else
  ref01_UTF8_j10 m)
noncomputable def ref01_UTF8_j0 (m:Nat) (x0:ByteArray) (x1:Int):Option Bool:=
 ref01_UTF8_l1 m (Nat.succ m) x0 x1
noncomputable def ref01_UTF8:Nat→ByteArray→Option Bool
 |0,_=>none
 |m+1,a0=>
  ref01_UTF8_j0 m a0 0
noncomputable def ref01_wide_j6 (m:Nat) (rec3:ByteArray→Int→Option Bool) (x0:ByteArray) (x1:Int):Option Bool:=
 rec3 x0 (IntKind.wrap .i64 (x1+1))
noncomputable def ref01_wide_j5 (m:Nat) (rec3:ByteArray→Int→Option Bool) (x0:ByteArray) (x1:Int) (x2:Bool):Option Bool:=
 (bif x2 then
  some false
 else
  ref01_wide_j6 m rec3 x0 x1)
noncomputable def ref01_wide_j4 (m:Nat) (rec3:ByteArray→Int→Option Bool) (x0:ByteArray) (x1:Int):Option Bool:=
  ((idxS x0 x1).bind fun v0=>
    (bif (decide (v0<32)) then
 ref01_wide_j5 m rec3 x0 x1 true
    else
 ((idxS x0 x1).bind fun v1=>
 ref01_wide_j5 m rec3 x0 x1 (decide (126<v1)))))
noncomputable def ref01_wide_j7 (m:Nat):Option Bool:=
 some true
noncomputable def ref01_wide_l3 (m:Nat):Nat→ByteArray→Int→Option Bool
 |0,_,_=>none
 |M3+1,x0,x1=>
  (bif (decide (x1<(ByteArray.size x0:Int))) then
  ref01_wide_j4 m (ref01_wide_l3 m M3) x0 x1
 else
  ref01_wide_j7 m)
noncomputable def ref01_wide_j2 (m:Nat) (x0:ByteArray) (x1:Int):Option Bool:=
 ref01_wide_l3 m (Nat.succ m) x0 x1
noncomputable def ref01_wide_j1 (m:Nat) (x0:ByteArray):Option Bool:=
 ref01_wide_j2 m x0 0
noncomputable def ref01_wide_j0 (m:Nat) (x0:ByteArray) (x1:Bool):Option Bool:=
 (bif x1 then
  some false
 else
  ref01_wide_j1 m x0)
noncomputable def ref01_wide:Nat→ByteArray→Option Bool
 |0,_=>none
 |m+1,a0=>
  (bif (decide ((ByteArray.size a0:Int)<1)) then
  ref01_wide_j0 m a0 true
 else
  ref01_wide_j0 m a0 (decide (128<(ByteArray.size a0:Int))))
noncomputable def ref01_formed_j10 (m:Nat) (self46:Dt→Bool→Option Bool) (self63:Dt→Bool→Option Bool) (rec8:Bool→Int→Dt→Option Bool) (x0:Bool) (x1:Int) (x2:Dt):Option Bool:=
 rec8 x0 (IntKind.wrap .i64 (x1+1)) x2
noncomputable def ref01_formed_j9 (m:Nat) (self46:Dt→Bool→Option Bool) (self63:Dt→Bool→Option Bool) (rec8:Bool→Int→Dt→Option Bool) (x0:Bool) (x1:Int) (x2:Dt):Option Bool:=
  ((idx (Dt.L x2 3) x1).bind fun v1=>
    ((self46 v1 x0).bind fun r2=>
 (bif (Bool.not r2) then
 some false
 else
 ref01_formed_j10 m self46 self63 rec8 x0 x1 x2)))
noncomputable def ref01_formed_j11 (m:Nat) (self46:Dt→Bool→Option Bool) (self63:Dt→Bool→Option Bool) (x0:Bool) (x1:Dt):Option Bool:=
 ((self63 x1 x0).bind fun r3=>
   some r3)
noncomputable def ref01_formed_l8 (m:Nat) (self46:Dt→Bool→Option Bool) (self63:Dt→Bool→Option Bool):Nat→Bool→Int→Dt→Option Bool
 |0,_,_,_=>none
 |M8+1,x0,x1,x2=>
  (bif (decide (x1<(List.length (Dt.L x2 3):Int))) then
  ref01_formed_j9 m self46 self63 (ref01_formed_l8 m self46 self63 M8) x0 x1 x2
 else
  ref01_formed_j11 m self46 self63 x0 x2)
noncomputable def ref01_formed_j7 (m:Nat) (self46:Dt→Bool→Option Bool) (self63:Dt→Bool→Option Bool) (x0:Bool) (x1:Int) (x2:Dt):Option Bool:=
 ref01_formed_l8 m self46 self63 (Nat.succ m) x0 x1 x2
noncomputable def ref01_formed_j6 (m:Nat) (self46:Dt→Bool→Option Bool) (self63:Dt→Bool→Option Bool) (x0:Bool) (x1:Dt):Option Bool:=
 ref01_formed_j7 m self46 self63 x0 0 x1
noncomputable def ref01_formed_j5 (m:Nat) (self46:Dt→Bool→Option Bool) (self63:Dt→Bool→Option Bool) (x0:Bool) (x1:Dt):Option Bool:=
  (bif ((Dt.I x1 0)==9) then
   (bif ((Dt.I x1 1)==0) then
 some true
   else
 some ((Dt.I x1 1)==1))
  else
   (bif ((Dt.I x1 0)==10) then
 some (decide (0≤(Dt.I x1 1)))
   else
 (bif ((Dt.I x1 0)==4) then
 (bif (decide ((ByteArray.size (Dt.S x1 2):Int)≤4096)) then
 ((ref01_UTF8 m (Dt.S x1 2)).bind fun r0=>
 some r0)
 else
 some false)
 else
 (bif ((Dt.I x1 0)==7) then
 some (decide ((ByteArray.size (Dt.S x1 2):Int)≤4096))
 else
 (bif ((Dt.I x1 0)==8) then
 some ((ByteArray.size (Dt.S x1 2):Int)==12)
 else
 ref01_formed_j6 m self46 self63 x0 x1)))))
noncomputable def ref01_formed_j4 (m:Nat) (self46:Dt→Bool→Option Bool) (self63:Dt→Bool→Option Bool) (x0 x1:Bool) (x2:Dt):Option Bool:=
 (bif x1 then
  some false
 else
  ref01_formed_j5 m self46 self63 x0 x2)
noncomputable def ref01_formed_j3 (m:Nat) (self46:Dt→Bool→Option Bool) (self63:Dt→Bool→Option Bool) (x0 x1 x2:Bool) (x3:Dt):Option Bool:=
  (bif (Bool.not x1) then
   (bif (Bool.not ((ByteArray.toList (Dt.S x3 2))==[])) then
 ref01_formed_j4 m self46 self63 x0 true x3
   else
 (bif (Bool.not x2) then
 (bif ((Dt.I x3 1) !=0) then
 ref01_formed_j4 m self46 self63 x0 true x3
 else
 (bif (decide ((Dt.I x3 0)<1)) then
 ref01_formed_j4 m self46 self63 x0 true x3
 else
 ref01_formed_j4 m self46 self63 x0 (decide (11<(Dt.I x3 0))) x3))
 else
 (bif (decide ((Dt.I x3 0)<1)) then
 ref01_formed_j4 m self46 self63 x0 true x3
 else
 ref01_formed_j4 m self46 self63 x0 (decide (11<(Dt.I x3 0))) x3)))
  else
   (bif (Bool.not x2) then
 (bif ((Dt.I x3 1) !=0) then
 ref01_formed_j4 m self46 self63 x0 true x3
 else
 (bif (decide ((Dt.I x3 0)<1)) then
 ref01_formed_j4 m self46 self63 x0 true x3
 else
 ref01_formed_j4 m self46 self63 x0 (decide (11<(Dt.I x3 0))) x3))
   else
 (bif (decide ((Dt.I x3 0)<1)) then
 ref01_formed_j4 m self46 self63 x0 true x3
 else
 ref01_formed_j4 m self46 self63 x0 (decide (11<(Dt.I x3 0))) x3)))
noncomputable def ref01_formed_j2 (m:Nat) (self46:Dt→Bool→Option Bool) (self63:Dt→Bool→Option Bool) (x0 x1:Bool) (x2:Dt):Option Bool:=
  (bif ((Dt.I x2 0)==3) then
   ref01_formed_j3 m self46 self63 x0 x1 true x2
  else
   (bif ((Dt.I x2 0)==9) then
 ref01_formed_j3 m self46 self63 x0 x1 true x2
   else
 ref01_formed_j3 m self46 self63 x0 x1 ((Dt.I x2 0)==10) x2))
noncomputable def ref01_formed_j1 (m:Nat) (self46:Dt→Bool→Option Bool) (self63:Dt→Bool→Option Bool) (x0:Bool) (x1:Dt):Option Bool:=
  (bif ((Dt.I x1 0)==4) then
   ref01_formed_j2 m self46 self63 x0 true x1
  else
   (bif ((Dt.I x1 0)==7) then
 ref01_formed_j2 m self46 self63 x0 true x1
   else
 ref01_formed_j2 m self46 self63 x0 ((Dt.I x1 0)==8) x1))
noncomputable def ref01_formed_j0 (m:Nat) (self46:Dt→Bool→Option Bool) (self63:Dt→Bool→Option Bool) (x0 x1:Bool) (x2:Dt):Option Bool:=
 (bif x1 then
  some false
 else
  ref01_formed_j1 m self46 self63 x0 x2)
noncomputable def ref01_fields_j8 (m:Nat) (self46:Dt→Bool→Option Bool) (rec1:Bool→Int→Dt→Option Bool) (rec6:Bool→Int→Int→Dt→Dt→Option Bool) (x0:Bool) (x1 x2:Int) (x3 x4:Dt):Option Bool:=
 rec6 x0 x1 (IntKind.wrap .i64 (x2+1)) x3 x4
noncomputable def ref01_fields_j7 (m:Nat) (self46:Dt→Bool→Option Bool) (rec1:Bool→Int→Dt→Option Bool) (rec6:Bool→Int→Int→Dt→Dt→Option Bool) (x0:Bool) (x1 x2:Int) (x3 x4:Dt):Option Bool:=
  ((idx (Dt.L x3 4) x2).bind fun v2=>
    (bif ((ByteArray.toList (Dt.S v2 0))==(ByteArray.toList (Dt.S x4 0))) then
 some false
    else
 ref01_fields_j8 m self46 rec1 rec6 x0 x1 x2 x3 x4))
noncomputable def ref01_fields_j9 (m:Nat) (self46:Dt→Bool→Option Bool) (rec1:Bool→Int→Dt→Option Bool) (x0:Bool) (x1:Int) (x2:Dt):Option Bool:=
 rec1 x0 (IntKind.wrap .i64 (x1+1)) x2
noncomputable def ref01_fields_l6 (m:Nat) (self46:Dt→Bool→Option Bool) (rec1:Bool→Int→Dt→Option Bool):Nat→Bool→Int→Int→Dt→Dt→Option Bool
 |0,_,_,_,_,_=>none
 |M6+1,x0,x1,x2,x3,x4=>
  (bif (decide (x2<x1)) then
  ref01_fields_j7 m self46 rec1 (ref01_fields_l6 m self46 rec1 M6) x0 x1 x2 x3 x4
 else
  ref01_fields_j9 m self46 rec1 x0 x1 x3)
noncomputable def ref01_fields_j5 (m:Nat) (self46:Dt→Bool→Option Bool) (rec1:Bool→Int→Dt→Option Bool) (x0:Bool) (x1 x2:Int) (x3 x4:Dt):Option Bool:=
 ref01_fields_l6 m self46 rec1 (Nat.succ m) x0 x1 x2 x3 x4
noncomputable def ref01_fields_j4 (m:Nat) (self46:Dt→Bool→Option Bool) (rec1:Bool→Int→Dt→Option Bool) (x0:Bool) (x1:Int) (x2 x3:Dt):Option Bool:=
 ref01_fields_j5 m self46 rec1 x0 x1 0 x2 x3
noncomputable def ref01_fields_j3 (m:Nat) (self46:Dt→Bool→Option Bool) (rec1:Bool→Int→Dt→Option Bool) (x0:Bool) (x1:Int) (x2:Bool) (x3 x4:Dt):Option Bool:=
 (bif x2 then
  some false
 else
  ref01_fields_j4 m self46 rec1 x0 x1 x3 x4)
noncomputable def ref01_fields_j2 (m:Nat) (self46:Dt→Bool→Option Bool) (rec1:Bool→Int→Dt→Option Bool) (x0:Bool) (x1:Int) (x2:Dt):Option Bool:=
  ((idx (Dt.L x2 4) x1).bind fun v0=>
    (bif x0 then
 ((ref01_Name m (Dt.S v0 0)).bind fun r1=>
 (bif (Bool.not r1) then
 ref01_fields_j3 m self46 rec1 x0 x1 true x2 v0
 else
 (bif (Bool.not x0) then
 ((ref01_wide m (Dt.S v0 0)).bind fun r3=>
 (bif (Bool.not r3) then
 ref01_fields_j3 m self46 rec1 x0 x1 true x2 v0
 else
 ((self46 (Dt.fld v0 1) x0).bind fun r4=>
 ref01_fields_j3 m self46 rec1 x0 x1 (Bool.not r4) x2 v0)))
 else
 ((self46 (Dt.fld v0 1) x0).bind fun r5=>
 ref01_fields_j3 m self46 rec1 x0 x1 (Bool.not r5) x2 v0))))
    else
 (bif (Bool.not x0) then
 ((ref01_wide m (Dt.S v0 0)).bind fun r6=>
 (bif (Bool.not r6) then
 ref01_fields_j3 m self46 rec1 x0 x1 true x2 v0
 else
 ((self46 (Dt.fld v0 1) x0).bind fun r7=>
 ref01_fields_j3 m self46 rec1 x0 x1 (Bool.not r7) x2 v0)))
 else
 ((self46 (Dt.fld v0 1) x0).bind fun r8=>
 ref01_fields_j3 m self46 rec1 x0 x1 (Bool.not r8) x2 v0))))
noncomputable def ref01_fields_j10 (m:Nat) (self46:Dt→Bool→Option Bool):Option Bool:=
 some true
noncomputable def ref01_fields_l1 (m:Nat) (self46:Dt→Bool→Option Bool):Nat→Bool→Int→Dt→Option Bool
 |0,_,_,_=>none
 |M1+1,x0,x1,x2=>
  (bif (decide (x1<(List.length (Dt.L x2 4):Int))) then
  ref01_fields_j2 m self46 (ref01_fields_l1 m self46 M1) x0 x1 x2
 else
  ref01_fields_j10 m self46)
noncomputable def ref01_fields_j0 (m:Nat) (self46:Dt→Bool→Option Bool) (x0:Bool) (x1:Int) (x2:Dt):Option Bool:=
 ref01_fields_l1 m self46 (Nat.succ m) x0 x1 x2
mutual
noncomputable def ref01_formed:Nat→Dt→Bool→Option Bool
  |0,_,_=>none
  |m+1,a0,a1=>
   (bif ((Dt.I a0 0) !=6) then
   (bif (decide (0<(List.length (Dt.L a0 3):Int))) then
 ref01_formed_j0 m (ref01_formed m) (ref01_fields m) a1 true a0
   else
 (bif ((Dt.I a0 0) !=5) then
 ref01_formed_j0 m (ref01_formed m) (ref01_fields m) a1 (decide (0<(List.length (Dt.L a0 4):Int))) a0
 else
 ref01_formed_j0 m (ref01_formed m) (ref01_fields m) a1 false a0))
  else
   (bif ((Dt.I a0 0) !=5) then
 ref01_formed_j0 m (ref01_formed m) (ref01_fields m) a1 (decide (0<(List.length (Dt.L a0 4):Int))) a0
   else
 ref01_formed_j0 m (ref01_formed m) (ref01_fields m) a1 false a0))
noncomputable def ref01_fields:Nat→Dt→Bool→Option Bool
 |0,_,_=>none
 |m+1,a0,a1=>
  ref01_fields_j0 m (ref01_formed m) a1 0 a0
end
noncomputable def ref01_Valid:Nat→Dt→Option Bool
  |0,_=>none
  |m+1,a0=>
   ((ref01_Depth m a0).bind fun r0=>
   (bif (decide (r0≤16)) then
 ((ref01_Nodes m a0).bind fun r1=>
 (bif (decide (r1≤1024)) then
 ((ref01_formed m a0 true).bind fun r2=>
 some r2)
 else
 some false))
   else
 some false))
noncomputable def law36_valid_1:Nat→Dt→Option Bool
  |0,_=>none
  |m+1,a0=>
   (bif ((Dt.I a0 0) !=5) then
   some true
  else
   ((ref01_Valid m a0).bind fun r0=>
 some (Bool.not r0)))
noncomputable def i9_j3 (m:Nat) (rec1:List Dt→Int→Int→Option Int) (x0:List Dt) (x1 x2:Int):Option Int:=
 rec1 x0 x1 (IntKind.wrap .i64 (x2+1))
noncomputable def i9_j2 (m:Nat) (rec1:List Dt→Int→Int→Option Int) (x0:List Dt) (x1 x2:Int):Option Int:=
  ((idx x0 x2).bind fun v0=>
    ((law36_valid_1 m v0).bind fun r1=>
 (bif r1 then
 some x2
 else
 i9_j3 m rec1 x0 x1 x2)))
noncomputable def i9_j4 (m:Nat):Option Int:=
 some (-1)
noncomputable def i9_l1 (m:Nat):Nat→List Dt→Int→Int→Option Int
 |0,_,_,_=>none
 |M1+1,x0,x1,x2=>
  (bif (decide (x2<x1)) then
  i9_j2 m (i9_l1 m M1) x0 x1 x2
 else
  i9_j4 m)
noncomputable def i9_j0 (m:Nat) (x0:List Dt) (x1 x2:Int):Option Int:=
 i9_l1 m (Nat.succ m) x0 x1 x2
noncomputable def i9:Nat→List Dt→Option Int
 |0,_=>none
 |m+1,a0=>
  i9_j0 m a0 (List.length a0:Int) 0
noncomputable def i8:Nat→List Dt→Option Bool
 |0,_=>none
 |m+1,a0=>
  ((i9 m a0).bind fun r0=>
  some (decide (0≤r0)))
noncomputable def law36_valid:Nat→List Dt→Option Bool
  |0,_=>none
  |m+1,a0=>
   (bif (decide ((List.length a0:Int)≤30)) then
   ((i8 m a0).bind fun r0=>
 some (Bool.not r0))
  else
   some false)
noncomputable def ref04_Number_j7 (m:Nat) (rec3:ByteArray→Int→Int→Option (Int×Bool)) (x0:ByteArray) (x1 x2:Int):Option (Int×Bool):=
 rec3 x0 x1 (IntKind.wrap .i64 (x2+1))
noncomputable def ref04_Number_j6 (m:Nat) (rec3:ByteArray→Int→Int→Option (Int×Bool)) (x0:ByteArray) (x1 x2:Int):Option (Int×Bool):=
 ((idxS x0 x2).bind fun v1=>
   ref04_Number_j7 m rec3 x0 (IntKind.wrap .i64 ((IntKind.wrap .i64 (x1*10))+(IntKind.wrap .i64 (IntKind.wrap IntKind.u8 (v1-48))))) x2)
noncomputable def ref04_Number_j5 (m:Nat) (rec3:ByteArray→Int→Int→Option (Int×Bool)) (x0:ByteArray) (x1 x2:Int) (x3:Bool):Option (Int×Bool):=
 (bif x3 then
  some (0,false)
 else
  ref04_Number_j6 m rec3 x0 x1 x2)
noncomputable def ref04_Number_j4 (m:Nat) (rec3:ByteArray→Int→Int→Option (Int×Bool)) (x0:ByteArray) (x1 x2:Int):Option (Int×Bool):=
  ((idxS x0 x2).bind fun v0=>
    (bif (decide (v0<48)) then
 ref04_Number_j5 m rec3 x0 x1 x2 true
    else
 ((idxS x0 x2).bind fun v2=>
 ref04_Number_j5 m rec3 x0 x1 x2 (decide (57<v2)))))
noncomputable def ref04_Number_j8 (m:Nat) (x0:Int):Option (Int×Bool):=
 some (x0,true)
noncomputable def ref04_Number_l3 (m:Nat):Nat→ByteArray→Int→Int→Option (Int×Bool)
 |0,_,_,_=>none
 |M3+1,x0,x1,x2=>
  (bif (decide (x2<(ByteArray.size x0:Int))) then
  ref04_Number_j4 m (ref04_Number_l3 m M3) x0 x1 x2
 else
  ref04_Number_j8 m x1)
noncomputable def ref04_Number_j2 (m:Nat) (x0:ByteArray) (x1 x2:Int):Option (Int×Bool):=
 ref04_Number_l3 m (Nat.succ m) x0 x1 x2
noncomputable def ref04_Number_j1 (m:Nat) (x0:ByteArray):Option (Int×Bool):=
 ref04_Number_j2 m x0 0 0
noncomputable def ref04_Number_j0 (m:Nat) (x0:ByteArray) (x1:Bool):Option (Int×Bool):=
 (bif x1 then
  some (0,false)
 else
  ref04_Number_j1 m x0)
noncomputable def ref04_Number:Nat→ByteArray→Option (Int×Bool)
  |0,_=>none
  |m+1,a0=>
   (bif (decide ((ByteArray.size a0:Int)<1)) then
   ref04_Number_j0 m a0 true
  else
   (bif (decide (4<(ByteArray.size a0:Int))) then
 ref04_Number_j0 m a0 true
   else
 ((idxS a0 0).bind fun v3=>
 (bif (v3==48) then
 ref04_Number_j0 m a0 (decide (1<(ByteArray.size a0:Int)))
 else
 ref04_Number_j0 m a0 false))))
noncomputable def ref04_Pass_j1 (m:Nat) (self68:Dt→List Dt→Option (List Dt)):Option (List Dt):=
 some []
noncomputable def ref04_Pass_j7 (m:Nat) (self68:Dt→List Dt→Option (List Dt)) (rec5:List Dt→Int→Dt→List Dt→Option (List Dt)) (x0:List Dt) (x1:Int) (x2:Dt) (x3:List Dt):Option (List Dt):=
 rec5 x0 (IntKind.wrap .i64 (x1+1)) x2 x3
noncomputable def ref04_Pass_j6 (m:Nat) (self68:Dt→List Dt→Option (List Dt)) (rec5:List Dt→Int→Dt→List Dt→Option (List Dt)) (x0:List Dt) (x1:Int) (x2:Dt) (x3:List Dt):Option (List Dt):=
  ((idx (Dt.L x2 3) x1).bind fun v4=>
    (bif ((Dt.I v4 0)==5) then
 ((idx (Dt.L x2 3) x1).bind fun v5=>
 ((self68 v5 x0).bind fun r6=>
 ((app x3 r6).bind fun v7=>
 ref04_Pass_j7 m self68 rec5 x0 x1 x2 v7)))
    else
 ref04_Pass_j7 m self68 rec5 x0 x1 x2 x3))
noncomputable def ref04_Pass_j10 (m:Nat) (self68:Dt→List Dt→Option (List Dt)) (x0:List Dt):Option (List Dt):=
 some x0
noncomputable def ref04_Pass_j9 (m:Nat) (self68:Dt→List Dt→Option (List Dt)) (x0:List Dt) (x1:Int) (x2:Bool) (x3:Dt) (x4:List Dt):Option (List Dt):=
  (bif x2 then
   ((idx (Dt.L x3 3) x1).bind fun v10=>
 ((cutL x0 1 (List.length x0:Int)).bind fun v11=>
 ((self68 v10 v11).bind fun r12=>
 ((app x4 r12).bind fun v13=>
 ref04_Pass_j10 m self68 v13))))
  else
   ref04_Pass_j10 m self68 x4)
noncomputable def ref04_Pass_j8 (m:Nat) (self68:Dt→List Dt→Option (List Dt)) (x0:List Dt) (x1:Dt) (x2:List Dt):Option (List Dt):=
  ((idx x0 0).bind fun v8=>
    ((ref04_Number m (Dt.toStr v8)).bind fun r9=>
 (bif r9.2 then
 ref04_Pass_j9 m self68 x0 r9.1 (decide (r9.1<(List.length (Dt.L x1 3):Int))) x1 x2
 else
 ref04_Pass_j9 m self68 x0 r9.1 false x1 x2)))
noncomputable def ref04_Pass_l5 (m:Nat) (self68:Dt→List Dt→Option (List Dt)):Nat→List Dt→Int→Dt→List Dt→Option (List Dt)
 |0,_,_,_,_=>none
 |M5+1,x0,x1,x2,x3=>
  (bif (decide (x1<(List.length (Dt.L x2 3):Int))) then
  ref04_Pass_j6 m self68 (ref04_Pass_l5 m self68 M5) x0 x1 x2 x3
 else
  ref04_Pass_j8 m self68 x0 x2 x3)
noncomputable def ref04_Pass_j4 (m:Nat) (self68:Dt→List Dt→Option (List Dt)) (x0:List Dt) (x1:Int) (x2:Dt) (x3:List Dt):Option (List Dt):=
 ref04_Pass_l5 m self68 (Nat.succ m) x0 x1 x2 x3
noncomputable def ref04_Pass_j3 (m:Nat) (self68:Dt→List Dt→Option (List Dt)) (x0:List Dt) (x1:Dt):Option (List Dt):=
 ref04_Pass_j4 m self68 x0 0 x1 []
noncomputable def ref04_Pass_j2 (m:Nat) (self68:Dt→List Dt→Option (List Dt)) (x0:List Dt) (x1:Dt):Option (List Dt):=
 (bif ((Dt.I x1 0) !=6) then
  some []
 else
  ref04_Pass_j3 m self68 x0 x1)
noncomputable def ref04_Pass_j0 (m:Nat) (self68:Dt→List Dt→Option (List Dt)) (x0:List Dt) (x1:Dt):Option (List Dt):=
  (bif ((Dt.I x1 0)==5) then
   ((idx x0 0).bind fun v0=>
 ((ref01_Get m x1 (Dt.toStr v0)).bind fun r1=>
 (bif r1.2 then
 ((cutL x0 1 (List.length x0:Int)).bind fun v2=>
 ((self68 r1.1 v2).bind fun r3=>
 some r3))
 else
 ref04_Pass_j1 m self68)))
  else
   ref04_Pass_j2 m self68 x0 x1)
noncomputable def ref04_Pass:Nat→Dt→List Dt→Option (List Dt)
 |0,_,_=>none
 |m+1,a0,a1=>
  (bif ((List.length a1:Int)==0) then
  some [a0]
 else
  ref04_Pass_j0 m (ref04_Pass m) a1 a0)
noncomputable def ref04_Reach_j0 (m:Nat) (x0:List Dt):Option (List Dt):=
 some x0
noncomputable def ref04_Reach:Nat→Dt→List Dt→Option (List Dt)
  |0,_,_=>none
  |m+1,a0,a1=>
   ((ref04_Pass m a0 a1).bind fun r0=>
   (bif ((List.length r0:Int)==0) then
 some [kza2373]
   else
 ref04_Reach_j0 m r0))
noncomputable def ref04_Leaves_j3 (m:Nat) (rec1:List Dt→Int→List Dt→Option (List Dt)) (x0:List Dt) (x1:Int) (x2:List Dt):Option (List Dt):=
 rec1 x0 (IntKind.wrap .i64 (x1+1)) x2
noncomputable def ref04_Leaves_j2 (m:Nat) (rec1:List Dt→Int→List Dt→Option (List Dt)) (x0:List Dt) (x1:Int) (x2:List Dt):Option (List Dt):=
  ((idx x0 x1).bind fun v1=>
    ((app x2 [v1]).bind fun v2=>
 ((idx x0 x1).bind fun v3=>
 (bif ((Dt.I v3 0)==6) then
 ((idx x0 x1).bind fun v4=>
 ((app v2 (Dt.L v4 3)).bind fun v5=>
 ref04_Leaves_j3 m rec1 x0 x1 v5))
 else
 ref04_Leaves_j3 m rec1 x0 x1 v2))))
noncomputable def ref04_Leaves_j4 (m:Nat) (x0:List Dt):Option (List Dt):=
 some x0
noncomputable def ref04_Leaves_l1 (m:Nat):Nat→List Dt→Int→List Dt→Option (List Dt)
 |0,_,_,_=>none
 |M1+1,x0,x1,x2=>
  (bif (decide (x1<(List.length x0:Int))) then
  ref04_Leaves_j2 m (ref04_Leaves_l1 m M1) x0 x1 x2
 else
  ref04_Leaves_j4 m x2)
noncomputable def ref04_Leaves_j0 (m:Nat) (x0:List Dt) (x1:Int) (x2:List Dt):Option (List Dt):=
 ref04_Leaves_l1 m (Nat.succ m) x0 x1 x2
noncomputable def ref04_Leaves:Nat→Dt→List Dt→Option (List Dt)
 |0,_,_=>none
 |m+1,a0,a1=>
  ((ref04_Reach m a0 a1).bind fun r0=>
  ref04_Leaves_j0 m r0 0 [])
noncomputable def ref36_Distance_j3 (m:Nat) (rec1:Int→Bool→List Dt→Int→Dt→Option (Int×Bool)) (x0:Int) (x1:Bool) (x2:List Dt) (x3:Int) (x4:Dt):Option (Int×Bool):=
 rec1 x0 x1 x2 (IntKind.wrap .i64 (x3+1)) x4
noncomputable def ref36_Distance_j5 (m:Nat) (rec1:Int→Bool→List Dt→Int→Dt→Option (Int×Bool)) (x0:Int) (x1:Bool) (x2:List Dt) (x3 x4:Int) (x5:Bool) (x6:Dt):Option (Int×Bool):=
 (bif x5 then
  ref36_Distance_j3 m rec1 x4 true x2 x3 x6
 else
  ref36_Distance_j3 m rec1 x0 x1 x2 x3 x6)
noncomputable def ref36_Distance_j4 (m:Nat) (rec1:Int→Bool→List Dt→Int→Dt→Option (Int×Bool)) (x0:Int) (x1:Bool) (x2:List Dt) (x3:Int) (x4 x5:Dt):Option (Int×Bool):=
  ((idx (Dt.L x4 1) 0).bind fun v4=>
    ((ref10_Distance m v4 x5).bind fun r5=>
 (bif (Bool.not x1) then
 ref36_Distance_j5 m rec1 x0 x1 x2 x3 r5 true x4
 else
 ref36_Distance_j5 m rec1 x0 x1 x2 x3 r5 (decide (r5<x0)) x4)))
noncomputable def ref36_Distance_j2 (m:Nat) (rec1:Int→Bool→List Dt→Int→Dt→Option (Int×Bool)) (x0:Int) (x1:Bool) (x2:List Dt) (x3:Int) (x4:Dt):Option (Int×Bool):=
  ((idx x2 x3).bind fun v1=>
    ((ref10_Point m v1).bind fun r2=>
 (bif (r2.2 !=0) then
 ref36_Distance_j3 m rec1 x0 x1 x2 x3 x4
 else
 ((ref10_Inside m x4 r2.1).bind fun r3=>
 (bif (Bool.not r3) then
 ref36_Distance_j3 m rec1 x0 x1 x2 x3 x4
 else
 ref36_Distance_j4 m rec1 x0 x1 x2 x3 x4 r2.1)))))
noncomputable def ref36_Distance_j6 (m:Nat) (x0:Int) (x1:Bool):Option (Int×Bool):=
 some (x0,x1)
noncomputable def ref36_Distance_l1 (m:Nat):Nat→Int→Bool→List Dt→Int→Dt→Option (Int×Bool)
 |0,_,_,_,_,_=>none
 |M1+1,x0,x1,x2,x3,x4=>
  (bif (decide (x3<(List.length x2:Int))) then
  ref36_Distance_j2 m (ref36_Distance_l1 m M1) x0 x1 x2 x3 x4
 else
  ref36_Distance_j6 m x0 x1)
noncomputable def ref36_Distance_j0 (m:Nat) (x0:Int) (x1:Bool) (x2:List Dt) (x3:Int) (x4:Dt):Option (Int×Bool):=
 ref36_Distance_l1 m (Nat.succ m) x0 x1 x2 x3 x4
noncomputable def ref36_Distance:Nat→Dt→List Dt→Dt→Option (Int×Bool)
 |0,_,_,_=>none
 |m+1,a0,a1,a2=>
  ((ref04_Leaves m a2 a1).bind fun r0=>
  ref36_Distance_j0 m 0 false r0 0 a0)
noncomputable def ref36_Near_j5 (m:Nat) (rec3:List Dt→ByteArray→List Dt→List Dt→List Dt→Int→Dt→Option (List Dt)) (x0:List Dt) (x1:ByteArray) (x2 x3 x4:List Dt) (x5:Int) (x6:Dt):Option (List Dt):=
 rec3 x0 x1 x2 x3 x4 (IntKind.wrap .i64 (x5+1)) x6
noncomputable def ref36_Near_j9 (m:Nat) (rec3:List Dt→ByteArray→List Dt→List Dt→List Dt→Int→Dt→Option (List Dt)) (rec8:List Dt→ByteArray→List Dt→List Dt→List Dt→Int→Int→Int→Dt→Option (List Dt)) (x0:List Dt) (x1:ByteArray) (x2 x3 x4:List Dt) (x5 x6 x7:Int) (x8:Dt):Option (List Dt):=
 rec8 x0 x1 x2 x3 x4 x5 x6 (IntKind.wrap .i64 (x7-1)) x8
noncomputable def ref36_Near_j10 (m:Nat) (rec3:List Dt→ByteArray→List Dt→List Dt→List Dt→Int→Dt→Option (List Dt)) (x0:List Dt) (x1:ByteArray) (x2 x3 x4:List Dt) (x5 x6 x7:Int) (x8:Dt):Option (List Dt):=
  ((cutL x3 0 x7).bind fun v3=>
    ((app [] v3).bind fun v4=>
 ((idx x2 x5).bind fun v5=>
 ((ref36_integer m x6).bind fun r6=>
 ((ref36_with m v5 x1 r6).bind fun r7=>
 ((app v4 [r7]).bind fun v8=>
 ((cutL x3 x7 (List.length x3:Int)).bind fun v9=>
 ((app v8 v9).bind fun v10=>
 ((cutL x4 0 x7).bind fun v11=>
 ((app [] v11).bind fun v12=>
 ((app v12 [(Dt.int x6)]).bind fun v13=>
 ((cutL x4 x7 (List.length x4:Int)).bind fun v14=>
 ((app v13 v14).bind fun v15=>
 ref36_Near_j5 m rec3 x0 x1 x2 v10 v15 x5 x8)))))))))))))
noncomputable def ref36_Near_l8 (m:Nat) (rec3:List Dt→ByteArray→List Dt→List Dt→List Dt→Int→Dt→Option (List Dt)):Nat→List Dt→ByteArray→List Dt→List Dt→List Dt→Int→Int→Int→Dt→Option (List Dt)
  |0,_,_,_,_,_,_,_,_,_=>none
  |M8+1,x0,x1,x2,x3,x4,x5,x6,x7,x8=>
   (bif (decide (0<x7)) then
   ((idx x4 (IntKind.wrap .i64 (x7-1))).bind fun v2=>
 (bif (decide (x6<(Dt.toInt v2))) then
 ref36_Near_j9 m rec3 (ref36_Near_l8 m rec3 M8) x0 x1 x2 x3 x4 x5 x6 x7 x8
 else
 ref36_Near_j10 m rec3 x0 x1 x2 x3 x4 x5 x6 x7 x8))
  else
   ref36_Near_j10 m rec3 x0 x1 x2 x3 x4 x5 x6 x7 x8)
noncomputable def ref36_Near_j7 (m:Nat) (rec3:List Dt→ByteArray→List Dt→List Dt→List Dt→Int→Dt→Option (List Dt)) (x0:List Dt) (x1:ByteArray) (x2 x3 x4:List Dt) (x5 x6 x7:Int) (x8:Dt):Option (List Dt):=
 ref36_Near_l8 m rec3 (Nat.succ m) x0 x1 x2 x3 x4 x5 x6 x7 x8
noncomputable def ref36_Near_j6 (m:Nat) (rec3:List Dt→ByteArray→List Dt→List Dt→List Dt→Int→Dt→Option (List Dt)) (x0:List Dt) (x1:ByteArray) (x2 x3 x4:List Dt) (x5 x6:Int) (x7:Dt):Option (List Dt):=
 ref36_Near_j7 m rec3 x0 x1 x2 x3 x4 x5 x6 (List.length x3:Int) x7
noncomputable def ref36_Near_j4 (m:Nat) (rec3:List Dt→ByteArray→List Dt→List Dt→List Dt→Int→Dt→Option (List Dt)) (x0:List Dt) (x1:ByteArray) (x2 x3 x4:List Dt) (x5:Int) (x6:Dt):Option (List Dt):=
  ((idx x2 x5).bind fun v0=>
    ((ref36_Distance m x6 x0 v0).bind fun r1=>
 (bif (Bool.not r1.2) then
 ref36_Near_j5 m rec3 x0 x1 x2 x3 x4 x5 x6
 else
 ref36_Near_j6 m rec3 x0 x1 x2 x3 x4 x5 r1.1 x6)))
noncomputable def ref36_Near_j11 (m:Nat) (x0:List Dt):Option (List Dt):=
 some x0
noncomputable def ref36_Near_l3 (m:Nat):Nat→List Dt→ByteArray→List Dt→List Dt→List Dt→Int→Dt→Option (List Dt)
 |0,_,_,_,_,_,_,_=>none
 |M3+1,x0,x1,x2,x3,x4,x5,x6=>
  (bif (decide (x5<(List.length x2:Int))) then
  ref36_Near_j4 m (ref36_Near_l3 m M3) x0 x1 x2 x3 x4 x5 x6
 else
  ref36_Near_j11 m x3)
noncomputable def ref36_Near_j2 (m:Nat) (x0:List Dt) (x1:ByteArray) (x2 x3 x4:List Dt) (x5:Int) (x6:Dt):Option (List Dt):=
 ref36_Near_l3 m (Nat.succ m) x0 x1 x2 x3 x4 x5 x6
noncomputable def ref36_Near_j1 (m:Nat) (x0:List Dt) (x1:ByteArray) (x2:List Dt) (x3:Dt):Option (List Dt):=
 ref36_Near_j2 m x0 x1 x2 [] [] 0 x3
noncomputable def ref36_Near_j0 (m:Nat) (x0:List Dt) (x1:ByteArray) (x2:List Dt) (x3:Bool) (x4:Dt):Option (List Dt):=
 (bif x3 then
  some []
 else
  ref36_Near_j1 m x0 x1 x2 x4)
noncomputable def ref36_Near:Nat→Dt→List Dt→ByteArray→List Dt→Option (List Dt)
  |0,_,_,_,_=>none
  |m+1,a0,a1,a2,a3=>
   (bif ((Dt.I a0 0) !=2) then
   ref36_Near_j0 m a1 a2 a3 true a0
  else
   ((ref10_Valid m a0).bind fun r16=>
 ref36_Near_j0 m a1 a2 a3 (r16 !=0) a0))
noncomputable def law36_ReshapeNear_j1 (m:Nat) (x0:List Dt) (x1:ByteArray) (x2:List Dt) (x3:Dt):Option Bool:=
  ((reshape_Near m x3 x0 x1 x2).bind fun r2=>
    ((ref36_Near m x3 x0 x1 x2).bind fun r3=>
 ((law03_SameList m r2 r3).bind fun r4=>
 (bif r4 then
 ((awakeC).bind fun r5=>
 some r5)
 else
 some false))))
noncomputable def law36_ReshapeNear_j0 (m:Nat) (x0:List Dt) (x1:ByteArray) (x2:List Dt) (x3:Bool) (x4:Dt):Option Bool:=
  (bif x3 then
   ((awakeC).bind fun r1=>
 some r1)
  else
   law36_ReshapeNear_j1 m x0 x1 x2 x4)
noncomputable def law36_ReshapeNear:Nat→Dt→List Dt→ByteArray→List Dt→Option Bool
  |0,_,_,_,_=>none
  |m+1,a0,a1,a2,a3=>
   ((law36_valid m a3).bind fun r0=>
   (bif (Bool.not r0) then
 law36_ReshapeNear_j0 m a1 a2 a3 true a0
   else
 ((ref04_Valid m a1).bind fun r6=>
 (bif (Bool.not r6) then
 law36_ReshapeNear_j0 m a1 a2 a3 true a0
 else
 ((law36_named m a2).bind fun r7=>
 law36_ReshapeNear_j0 m a1 a2 a3 (Bool.not r7) a0)))))
end Go.Proofs.YtameompfdamfpaaGreatDoor
