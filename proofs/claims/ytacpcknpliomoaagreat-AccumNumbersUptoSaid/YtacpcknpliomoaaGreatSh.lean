/- Generated: what the Go functions compute, over plain data. -/
import Derived.Test.YtacpcknpliomoaaGreatAm20
import Derived.Test.YtacpcknpliomoaaGreatOAwake
import Derived.Test.YtacpcknpliomoaaGreatOAcc
set_option linter.unusedVariables false
set_option linter.unusedSimpArgs false
namespace Go.Proofs.YtacpcknpliomoaaGreat
open Go.Am
def kza2373 : Dt := Dt.agg [(Dt.int 0), (Dt.int 0), (Dt.str (ByteArray.mk (List.toArray []))), (Dt.lst []), (Dt.lst [])]
def kzc575d : Dt := Dt.agg [(Dt.int 0), (Dt.int 0), (Dt.int 0), (Dt.agg [(Dt.int 0), (Dt.int 0), (Dt.str (ByteArray.mk (List.toArray []))), (Dt.lst []), (Dt.lst [])]), (Dt.lst []), (Dt.lst [])]
def kz3c25e : Dt := Dt.agg [(Dt.int 2), (Dt.int 0), (Dt.str (ByteArray.mk (List.toArray []))), (Dt.lst []), (Dt.lst [])]
def kz54e8a : Dt := Dt.agg [(Dt.int 2), (Dt.lst [(Dt.str (ByteArray.mk (List.toArray [97])))]), (Dt.str (ByteArray.mk (List.toArray []))), (Dt.lst []), (Dt.agg [(Dt.int 0), (Dt.int 0), (Dt.str (ByteArray.mk (List.toArray []))), (Dt.lst []), (Dt.lst [])]), (Dt.int 0), (Dt.lst [])]
noncomputable def ref01_Int : Nat → Int → Option Dt
  | 0, _ => none
  | m + 1, a0 =>
    some (Dt.agg [(Dt.int 3), (Dt.int a0), (Dt.str (ByteArray.mk (List.toArray []))), (Dt.lst []), (Dt.lst [])])
noncomputable def law32_doc : Nat → Int → Option Dt
  | 0, _ => none
  | m + 1, a0 =>
    ((ref01_Int m a0).bind fun r0 =>
    some (Dt.agg [(Dt.int 5), (Dt.int 0), (Dt.str (ByteArray.mk (List.toArray []))), (Dt.lst []), (Dt.lst [(Dt.agg [(Dt.str (ByteArray.mk (List.toArray [97]))), r0])])]))
noncomputable def accum_Start : Nat → Dt → Option Dt
  | 0, _ => none
  | m + 1, a0 =>
    some (Dt.agg [(Dt.int (Dt.I a0 1)), (Dt.int 0), (Dt.int 0), kza2373, (Dt.lst []), (Dt.lst [])])
noncomputable def accum_copyValue_j3 (m : Nat) (self9 : Dt → Option Dt) (self29 : List Dt → Option (List Dt)) (rec1 : List Dt → Int → Int → Dt → Int → Int → ByteArray → List Dt → List Dt → Option Dt) (x0 : List Dt) (x1 x2 : Int) (x3 : Dt) (x4 x5 : Int) (x6 : ByteArray) (x7 x8 : List Dt) : Option Dt :=
  rec1 x0 x1 (IntKind.wrap .i64 (x2 + 1)) x3 x4 x5 x6 x7 x8
noncomputable def accum_copyValue_j2 (m : Nat) (self9 : Dt → Option Dt) (self29 : List Dt → Option (List Dt)) (rec1 : List Dt → Int → Int → Dt → Int → Int → ByteArray → List Dt → List Dt → Option Dt) (x0 : List Dt) (x1 x2 : Int) (x3 : Dt) (x4 x5 : Int) (x6 : ByteArray) (x7 x8 : List Dt) : Option Dt :=
  ((idx x0 x2).bind fun v1 =>
    ((self9 (Dt.fld v1 1)).bind fun r2 =>
 ((app x8 [(Dt.agg [(Dt.str (Dt.S v1 0)), r2])]).bind fun v3 =>
 accum_copyValue_j3 m self9 self29 rec1 x0 x1 x2 x3 x4 x5 x6 x7 v3)))
noncomputable def accum_copyValue_j4 (m : Nat) (self9 : Dt → Option Dt) (self29 : List Dt → Option (List Dt)) (x0 : Dt) (x1 x2 : Int) (x3 : ByteArray) (x4 x5 : List Dt) : Option Dt :=
  some (Dt.agg [(Dt.int x1), (Dt.int x2), (Dt.str x3), (Dt.lst x4), (Dt.lst x5)])
noncomputable def accum_copyValue_l1 (m : Nat) (self9 : Dt → Option Dt) (self29 : List Dt → Option (List Dt)) : Nat → List Dt → Int → Int → Dt → Int → Int → ByteArray → List Dt → List Dt → Option Dt
  | 0, _, _, _, _, _, _, _, _, _ => none
  | M1 + 1, x0, x1, x2, x3, x4, x5, x6, x7, x8 =>
    (bif (decide (x2 < x1)) then
    accum_copyValue_j2 m self9 self29 (accum_copyValue_l1 m self9 self29 M1) x0 x1 x2 x3 x4 x5 x6 x7 x8
  else
    accum_copyValue_j4 m self9 self29 x3 x4 x5 x6 x7 x8)
noncomputable def accum_copyValue_j0 (m : Nat) (self9 : Dt → Option Dt) (self29 : List Dt → Option (List Dt)) (x0 : List Dt) (x1 x2 : Int) (x3 : Dt) (x4 x5 : Int) (x6 : ByteArray) (x7 x8 : List Dt) : Option Dt :=
  accum_copyValue_l1 m self9 self29 (Nat.succ m) x0 x1 x2 x3 x4 x5 x6 x7 x8
noncomputable def accum_copyList_j4 (m : Nat) (self9 : Dt → Option Dt) (rec2 : List Dt → Int → Int → List Dt → Option (List Dt)) (x0 : List Dt) (x1 x2 : Int) (x3 : List Dt) : Option (List Dt) :=
  rec2 x0 x1 (IntKind.wrap .i64 (x2 + 1)) x3
noncomputable def accum_copyList_j3 (m : Nat) (self9 : Dt → Option Dt) (rec2 : List Dt → Int → Int → List Dt → Option (List Dt)) (x0 : List Dt) (x1 x2 : Int) (x3 : List Dt) : Option (List Dt) :=
  ((idx x0 x2).bind fun v1 =>
    ((self9 v1).bind fun r2 =>
 ((inL x3 x2).bind fun v3 =>
 ((x3[(Int.toNat x2)]?).bind fun v4 =>
 accum_copyList_j4 m self9 rec2 x0 x1 x2 (List.set x3 (Int.toNat x2) r2)))))
noncomputable def accum_copyList_j5 (m : Nat) (self9 : Dt → Option Dt) (x0 : List Dt) : Option (List Dt) :=
  some x0
noncomputable def accum_copyList_l2 (m : Nat) (self9 : Dt → Option Dt) : Nat → List Dt → Int → Int → List Dt → Option (List Dt)
  | 0, _, _, _, _ => none
  | M2 + 1, x0, x1, x2, x3 =>
    (bif (decide (x2 < x1)) then
    accum_copyList_j3 m self9 (accum_copyList_l2 m self9 M2) x0 x1 x2 x3
  else
    accum_copyList_j5 m self9 x3)
noncomputable def accum_copyList_j1 (m : Nat) (self9 : Dt → Option Dt) (x0 : List Dt) (x1 x2 : Int) (x3 : List Dt) : Option (List Dt) :=
  accum_copyList_l2 m self9 (Nat.succ m) x0 x1 x2 x3
noncomputable def accum_copyList_j0 (m : Nat) (self9 : Dt → Option Dt) (x0 : List Dt) : Option (List Dt) :=
  ((mkL (List.length x0 : Int) (List.length x0 : Int) kza2373).bind fun v0 =>
    accum_copyList_j1 m self9 x0 (List.length x0 : Int) 0 v0)
mutual
noncomputable def accum_copyValue : Nat → Dt → Option Dt
  | 0, _ => none
  | m + 1, a0 =>
    ((accum_copyList m (Dt.L a0 3)).bind fun r0 =>
    accum_copyValue_j0 m (accum_copyValue m) (accum_copyList m) (Dt.L a0 4) (List.length (Dt.L a0 4) : Int) 0 kza2373 (Dt.I a0 0) (Dt.I a0 1) (Dt.S a0 2) r0 [])
noncomputable def accum_copyList : Nat → List Dt → Option (List Dt)
  | 0, _ => none
  | m + 1, a0 =>
    (bif ((List.length a0 : Int) == 0) then
    some []
  else
    accum_copyList_j0 m (accum_copyValue m) a0)
end
noncomputable def accum_copyPart : Nat → Dt → Option Dt
  | 0, _ => none
  | m + 1, a0 =>
    ((accum_copyValue m (Dt.fld a0 3)).bind fun r0 =>
    ((accum_copyList m (Dt.L a0 4)).bind fun r1 =>
 ((accum_copyList m (Dt.L a0 5)).bind fun r2 =>
 some (Dt.agg [(Dt.int (Dt.I a0 0)), (Dt.int (Dt.I a0 1)), (Dt.int (Dt.I a0 2)), r0, (Dt.lst r1), (Dt.lst r2)]))))
noncomputable def accum_sumRule_add_j0 (m : Nat) (x0 x1 : Dt) : Option Dt :=
  some x0
noncomputable def accum_sumRule_add : Nat → Dt → Dt → Dt → Dt → Option Dt
  | 0, _, _, _, _ => none
  | m + 1, a0, a1, a2, a3 =>
    ((expr_EvalC (Dt.fld a1 2) a3).bind fun r0 =>
    (bif ((Dt.I r0 0) == 3) then
 accum_sumRule_add_j0 m (Dt.agg [(Dt.int (Dt.I a2 0)), (Dt.int (IntKind.wrap .i64 ((Dt.I a2 1) + (Dt.I r0 1)))), (Dt.int (Dt.I a2 2)), (Dt.fld a2 3), (Dt.lst (Dt.L a2 4)), (Dt.lst (Dt.L a2 5))]) kzc575d
    else
 accum_sumRule_add_j0 m a2 kzc575d))
noncomputable def accum_countRule_add : Nat → Dt → Dt → Dt → Dt → Option Dt
  | 0, _, _, _, _ => none
  | m + 1, a0, a1, a2, a3 =>
    some (Dt.agg [(Dt.int (Dt.I a2 0)), (Dt.int (Dt.I a2 1)), (Dt.int (IntKind.wrap .i64 ((Dt.I a2 2) + 1))), (Dt.fld a2 3), (Dt.lst (Dt.L a2 4)), (Dt.lst (Dt.L a2 5))])
noncomputable def accum_avgRule_add_j0 (m : Nat) (x0 x1 : Dt) : Option Dt :=
  some x0
noncomputable def accum_avgRule_add : Nat → Dt → Dt → Dt → Dt → Option Dt
  | 0, _, _, _, _ => none
  | m + 1, a0, a1, a2, a3 =>
    ((expr_EvalC (Dt.fld a1 2) a3).bind fun r0 =>
    (bif ((Dt.I r0 0) == 3) then
 accum_avgRule_add_j0 m (Dt.agg [(Dt.int (Dt.I a2 0)), (Dt.int (IntKind.wrap .i64 ((Dt.I a2 1) + (Dt.I r0 1)))), (Dt.int (IntKind.wrap .i64 ((Dt.I a2 2) + 1))), (Dt.fld a2 3), (Dt.lst (Dt.L a2 4)), (Dt.lst (Dt.L a2 5))]) kzc575d
    else
 accum_avgRule_add_j0 m a2 kzc575d))
noncomputable def accum_firstRule_add_j0 (m : Nat) (x0 x1 : Dt) : Option Dt :=
  some (Dt.agg [(Dt.int (Dt.I x0 0)), (Dt.int (Dt.I x0 1)), (Dt.int (IntKind.wrap .i64 ((Dt.I x0 2) + 1))), (Dt.fld x0 3), (Dt.lst (Dt.L x0 4)), (Dt.lst (Dt.L x0 5))])
noncomputable def accum_firstRule_add : Nat → Dt → Dt → Dt → Dt → Option Dt
  | 0, _, _, _, _ => none
  | m + 1, a0, a1, a2, a3 =>
    (bif ((Dt.I a2 2) == 0) then
    ((expr_EvalC (Dt.fld a1 2) a3).bind fun r0 =>
 accum_firstRule_add_j0 m (Dt.agg [(Dt.int (Dt.I a2 0)), (Dt.int (Dt.I a2 1)), (Dt.int (Dt.I a2 2)), r0, (Dt.lst (Dt.L a2 4)), (Dt.lst (Dt.L a2 5))]) kzc575d)
  else
    accum_firstRule_add_j0 m a2 kzc575d)
noncomputable def accum_lastRule_add : Nat → Dt → Dt → Dt → Dt → Option Dt
  | 0, _, _, _, _ => none
  | m + 1, a0, a1, a2, a3 =>
    ((expr_EvalC (Dt.fld a1 2) a3).bind fun r0 =>
    some (Dt.agg [(Dt.int (Dt.I a2 0)), (Dt.int (Dt.I a2 1)), (Dt.int (IntKind.wrap .i64 ((Dt.I a2 2) + 1))), r0, (Dt.lst (Dt.L a2 4)), (Dt.lst (Dt.L a2 5))]))
noncomputable def accum_integer : Nat → Int → Option Dt
  | 0, _ => none
  | m + 1, a0 =>
    some (Dt.agg [(Dt.int 3), (Dt.int a0), (Dt.str (ByteArray.mk (List.toArray []))), (Dt.lst []), (Dt.lst [])])
noncomputable def accum_sumRule_result : Nat → Dt → Dt → Option Dt
  | 0, _, _ => none
  | m + 1, a0, a1 =>
    ((accum_integer m (Dt.I a1 1)).bind fun r0 =>
    some r0)
noncomputable def accum_countRule_result : Nat → Dt → Dt → Option Dt
  | 0, _, _ => none
  | m + 1, a0, a1 =>
    ((accum_integer m (Dt.I a1 2)).bind fun r0 =>
    some r0)
noncomputable def accum_orNull_j0 (m : Nat) (x0 x1 : Dt) : Option Dt :=
  some x0
noncomputable def accum_orNull : Nat → Dt → Option Dt
  | 0, _ => none
  | m + 1, a0 =>
    (bif ((Dt.I a0 0) == 0) then
    some kz3c25e
  else
    accum_orNull_j0 m a0 kza2373)
noncomputable def accum_avgRule_result_j2 (m : Nat) (x0 : Int) (x1 : Dt) : Option Dt :=
  ((accum_integer m x0).bind fun r1 =>
    some r1)
noncomputable def accum_avgRule_result_j1 (m : Nat) (x0 : Int) (x1 : Bool) (x2 : Dt) : Option Dt :=
  (bif x1 then
    accum_avgRule_result_j2 m (IntKind.wrap .i64 (x0 - 1)) x2
  else
    accum_avgRule_result_j2 m x0 x2)
noncomputable def accum_avgRule_result_j0 (m : Nat) (x0 x1 : Dt) : Option Dt :=
  (bif (decide ((Dt.I x0 2) = 0)) then
    none
  else
    (bif (decide ((Dt.I x0 2) = 0)) then
 none
    else
 (bif ((Int.tmod (Dt.I x0 1) (Dt.I x0 2)) != 0) then
 accum_avgRule_result_j1 m (IntKind.wrap .i64 (Int.tdiv (Dt.I x0 1) (Dt.I x0 2))) (Bool.not ((decide ((Dt.I x0 1) < 0)) == (decide ((Dt.I x0 2) < 0)))) x1
 else
 accum_avgRule_result_j1 m (IntKind.wrap .i64 (Int.tdiv (Dt.I x0 1) (Dt.I x0 2))) false x1)))
noncomputable def accum_avgRule_result : Nat → Dt → Dt → Option Dt
  | 0, _, _ => none
  | m + 1, a0, a1 =>
    (bif ((Dt.I a1 2) == 0) then
    ((accum_orNull m kza2373).bind fun r0 =>
 some r0)
  else
    accum_avgRule_result_j0 m a1 kza2373)
noncomputable def accum_extremeRule_result : Nat → Dt → Dt → Option Dt
  | 0, _, _ => none
  | m + 1, a0, a1 =>
    ((accum_orNull m (Dt.fld a1 3)).bind fun r0 =>
    some r0)
noncomputable def accum_firstRule_result : Nat → Dt → Dt → Option Dt
  | 0, _, _ => none
  | m + 1, a0, a1 =>
    ((accum_orNull m (Dt.fld a1 3)).bind fun r0 =>
    some r0)
noncomputable def accum_lastRule_result : Nat → Dt → Dt → Option Dt
  | 0, _, _ => none
  | m + 1, a0, a1 =>
    ((accum_orNull m (Dt.fld a1 3)).bind fun r0 =>
    some r0)
noncomputable def accum_Result_j0 (m : Nat) (x0 : Dt) : Option Dt :=
  some kz3c25e
noncomputable def accum_Result : Nat → Dt → Dt → Option Dt
  | 0, _, _ => none
  | m + 1, a0, a1 =>
    (bif ((Dt.I a0 1) == 1) then
    ((accum_sumRule_result m (Dt.agg []) a1).bind fun r0 =>
 ((accum_copyValue m r0).bind fun r1 =>
 some r1))
  else
    (bif ((Dt.I a0 1) == 2) then
 ((accum_countRule_result m (Dt.agg []) a1).bind fun r2 =>
 ((accum_copyValue m r2).bind fun r3 =>
 some r3))
    else
 (bif ((Dt.I a0 1) == 3) then
 ((accum_avgRule_result m (Dt.agg []) a1).bind fun r4 =>
 ((accum_copyValue m r4).bind fun r5 =>
 some r5))
 else
 (bif ((Dt.I a0 1) == 4) then
 ((accum_extremeRule_result m (Dt.agg [(Dt.int 1)]) a1).bind fun r6 =>
 ((accum_copyValue m r6).bind fun r7 =>
 some r7))
 else
 (bif ((Dt.I a0 1) == 5) then
 ((accum_extremeRule_result m (Dt.agg [(Dt.int (-1))]) a1).bind fun r8 =>
 ((accum_copyValue m r8).bind fun r9 =>
 some r9))
 else
 (bif ((Dt.I a0 1) == 6) then
 ((accum_firstRule_result m (Dt.agg []) a1).bind fun r10 =>
 ((accum_copyValue m r10).bind fun r11 =>
 some r11))
 else
 (bif ((Dt.I a0 1) == 7) then
 ((accum_lastRule_result m (Dt.agg []) a1).bind fun r12 =>
 ((accum_copyValue m r12).bind fun r13 =>
 some r13))
 else
 (bif ((Dt.I a0 1) == 8) then
 ((resN159 (Dt.agg []) a1).bind fun r14 =>
 ((accum_copyValue m r14).bind fun r15 =>
 some r15))
 else
 (bif ((Dt.I a0 1) == 9) then
 ((resN162 (Dt.agg []) a1).bind fun r16 =>
 ((accum_copyValue m r16).bind fun r17 =>
 some r17))
 else
 (bif ((Dt.I a0 1) == 10) then
 ((resN172 (Dt.agg []) a1).bind fun r18 =>
 ((accum_copyValue m r18).bind fun r19 =>
 some r19))
 else
 accum_Result_j0 m kza2373))))))))))
noncomputable def cmp_isNaN : Nat → Int → Option Bool
  | 0, _ => none
  | m + 1, a0 =>
    some (a0 != a0)
noncomputable def cmp_Compare_j0 (m : Nat) : Option Int :=
  some (-1)
noncomputable def cmp_Compare_j4 (m : Nat) : Option Int :=
  some 0
noncomputable def cmp_Compare_j3 (m : Nat) (x0 x1 : Int) : Option Int :=
  (bif (decide (x1 < x0)) then
    some 1
  else
    cmp_Compare_j4 m)
noncomputable def cmp_Compare_j2 (m : Nat) (x0 x1 : Int) : Option Int :=
  (bif (decide (x0 < x1)) then
    some (-1)
  else
    cmp_Compare_j3 m x0 x1)
noncomputable def cmp_Compare_j1 (m : Nat) (x0 x1 : Int) (x2 : Bool) : Option Int :=
  (bif x2 then
    some 1
  else
    cmp_Compare_j2 m x0 x1)
noncomputable def cmp_Compare : Nat → Int → Int → Option Int
  | 0, _, _ => none
  | m + 1, a0, a1 =>
    ((cmp_isNaN m a0).bind fun r0 =>
    ((cmp_isNaN m a1).bind fun r1 =>
 (bif r0 then
 (bif r1 then
 some 0
 else
 cmp_Compare_j0 m)
 else
 cmp_Compare_j1 m a0 a1 r1)))
noncomputable def value_Compare_j6 (m : Nat) (self33 : Dt → Dt → Option Int) (rec4 : Int → Int → Dt → Dt → Option Int) (x0 x1 : Int) (x2 x3 : Dt) : Option Int :=
  rec4 x0 (IntKind.wrap .i64 (x1 + 1)) x2 x3
noncomputable def value_Compare_j5 (m : Nat) (self33 : Dt → Dt → Option Int) (rec4 : Int → Int → Dt → Dt → Option Int) (x0 x1 : Int) (x2 x3 : Dt) : Option Int :=
  ((idx (Dt.L x2 3) x1).bind fun v3 =>
    ((idx (Dt.L x3 3) x1).bind fun v4 =>
 ((self33 v3 v4).bind fun r5 =>
 (bif (r5 != 0) then
 some r5
 else
 value_Compare_j6 m self33 rec4 x0 x1 x2 x3))))
noncomputable def value_Compare_j7 (m : Nat) (self33 : Dt → Dt → Option Int) (x0 x1 : Dt) : Option Int :=
  ((cmp_Compare m (List.length (Dt.L x0 3) : Int) (List.length (Dt.L x1 3) : Int)).bind fun r6 =>
    some r6)
noncomputable def value_Compare_l4 (m : Nat) (self33 : Dt → Dt → Option Int) : Nat → Int → Int → Dt → Dt → Option Int
  | 0, _, _, _, _ => none
  | M4 + 1, x0, x1, x2, x3 =>
    (bif (decide (x1 < x0)) then
    value_Compare_j5 m self33 (value_Compare_l4 m self33 M4) x0 x1 x2 x3
  else
    value_Compare_j7 m self33 x2 x3)
noncomputable def value_Compare_j3 (m : Nat) (self33 : Dt → Dt → Option Int) (x0 x1 : Int) (x2 x3 : Dt) : Option Int :=
  value_Compare_l4 m self33 (Nat.succ m) x0 x1 x2 x3
noncomputable def value_Compare_j12 (m : Nat) (self33 : Dt → Dt → Option Int) (rec9 : Int → Int → Dt → Dt → Option Int) (x0 x1 : Int) (x2 x3 : Dt) : Option Int :=
  rec9 x0 (IntKind.wrap .i64 (x1 + 1)) x2 x3
noncomputable def value_Compare_j11 (m : Nat) (self33 : Dt → Dt → Option Int) (rec9 : Int → Int → Dt → Dt → Option Int) (x0 x1 x2 : Int) (x3 x4 : Dt) : Option Int :=
  ((idx (Dt.L x3 4) x0).bind fun v10 =>
    ((idx (Dt.L x4 4) x0).bind fun v11 =>
 ((self33 (Dt.fld v10 1) (Dt.fld v11 1)).bind fun r12 =>
 (bif (r12 != 0) then
 some r12
 else
 value_Compare_j12 m self33 rec9 x1 x2 x3 x4))))
noncomputable def value_Compare_j10 (m : Nat) (self33 : Dt → Dt → Option Int) (rec9 : Int → Int → Dt → Dt → Option Int) (x0 x1 : Int) (x2 x3 : Dt) : Option Int :=
  ((idx (Dt.L x2 4) x1).bind fun v7 =>
    ((idx (Dt.L x3 4) x1).bind fun v8 =>
 ((strings_CompareN (Dt.S v7 0) (Dt.S v8 0)).bind fun r9 =>
 (bif (r9 != 0) then
 some r9
 else
 value_Compare_j11 m self33 rec9 x1 x0 x1 x2 x3))))
noncomputable def value_Compare_j13 (m : Nat) (self33 : Dt → Dt → Option Int) (x0 x1 : Dt) : Option Int :=
  ((cmp_Compare m (List.length (Dt.L x0 4) : Int) (List.length (Dt.L x1 4) : Int)).bind fun r13 =>
    some r13)
noncomputable def value_Compare_l9 (m : Nat) (self33 : Dt → Dt → Option Int) : Nat → Int → Int → Dt → Dt → Option Int
  | 0, _, _, _, _ => none
  | M9 + 1, x0, x1, x2, x3 =>
    (bif (decide (x1 < x0)) then
    value_Compare_j10 m self33 (value_Compare_l9 m self33 M9) x0 x1 x2 x3
  else
    value_Compare_j13 m self33 x2 x3)
noncomputable def value_Compare_j8 (m : Nat) (self33 : Dt → Dt → Option Int) (x0 x1 : Int) (x2 x3 : Dt) : Option Int :=
  value_Compare_l9 m self33 (Nat.succ m) x0 x1 x2 x3
noncomputable def value_Compare_j14 (m : Nat) (self33 : Dt → Dt → Option Int) : Option Int :=
  some 0
noncomputable def value_Compare_j2 (m : Nat) (self33 : Dt → Dt → Option Int) (x0 : Int) (x1 : Bool) (x2 x3 : Dt) : Option Int :=
  (bif x1 then
    ((strings_CompareN (Dt.S x2 2) (Dt.S x3 2)).bind fun r2 =>
 some r2)
  else
    (bif (x0 == 6) then
 value_Compare_j3 m self33 (bif (decide ((List.length (Dt.L x3 3) : Int) < (List.length (Dt.L x2 3) : Int))) then (List.length (Dt.L x3 3) : Int) else (List.length (Dt.L x2 3) : Int)) 0 x2 x3
    else
 (bif (x0 == 5) then
 value_Compare_j8 m self33 (bif (decide ((List.length (Dt.L x3 4) : Int) < (List.length (Dt.L x2 4) : Int))) then (List.length (Dt.L x3 4) : Int) else (List.length (Dt.L x2 4) : Int)) 0 x2 x3
 else
 value_Compare_j14 m self33)))
noncomputable def value_Compare_j1 (m : Nat) (self33 : Dt → Dt → Option Int) (x0 : Int) (x1 : Bool) (x2 x3 : Dt) : Option Int :=
  (bif x1 then
    ((cmp_Compare m (Dt.I x2 1) (Dt.I x3 1)).bind fun r1 =>
 some r1)
  else
    (bif (x0 == 4) then
 value_Compare_j2 m self33 x0 (x0 == 4) x2 x3
    else
 (bif (x0 == 7) then
 value_Compare_j2 m self33 x0 (x0 == 7) x2 x3
 else
 value_Compare_j2 m self33 x0 (x0 == 8) x2 x3)))
noncomputable def value_Compare_j0 (m : Nat) (self33 : Dt → Dt → Option Int) (x0 x1 : Dt) : Option Int :=
  (bif ((Dt.I x0 0) == 3) then
    value_Compare_j1 m self33 (Dt.I x0 0) ((Dt.I x0 0) == 3) x0 x1
  else
    (bif ((Dt.I x0 0) == 9) then
 value_Compare_j1 m self33 (Dt.I x0 0) ((Dt.I x0 0) == 9) x0 x1
    else
 value_Compare_j1 m self33 (Dt.I x0 0) ((Dt.I x0 0) == 10) x0 x1))
noncomputable def value_Compare : Nat → Dt → Dt → Option Int
  | 0, _, _ => none
  | m + 1, a0, a1 =>
    (bif ((Dt.I a0 0) != (Dt.I a1 0)) then
    ((cmp_Compare m (Dt.I a0 0) (Dt.I a1 0)).bind fun r0 =>
 some r0)
  else
    value_Compare_j0 m (value_Compare m) a0 a1)
noncomputable def accum_extremeRule_better_j3 (m : Nat) (x0 x1 : Dt) : Option Dt :=
  some x0
noncomputable def accum_extremeRule_better_j2 (m : Nat) (x0 : Bool) (x1 x2 x3 : Dt) : Option Dt :=
  (bif x0 then
    some x2
  else
    accum_extremeRule_better_j3 m x1 x3)
noncomputable def accum_extremeRule_better_j1 (m : Nat) (x0 x1 x2 x3 : Dt) : Option Dt :=
  (bif ((Dt.I x1 0) == 0) then
    accum_extremeRule_better_j2 m true x1 x2 x3
  else
    ((value_Compare m x2 x1).bind fun r0 =>
 accum_extremeRule_better_j2 m (decide ((IntKind.wrap .i64 (r0 * (Dt.I x0 0))) < 0)) x1 x2 x3))
noncomputable def accum_extremeRule_better_j0 (m : Nat) (x0 : Bool) (x1 x2 x3 x4 : Dt) : Option Dt :=
  (bif x0 then
    some x2
  else
    accum_extremeRule_better_j1 m x1 x2 x3 x4)
noncomputable def accum_extremeRule_better : Nat → Dt → Dt → Dt → Option Dt
  | 0, _, _, _ => none
  | m + 1, a0, a1, a2 =>
    (bif ((Dt.I a2 0) == 0) then
    accum_extremeRule_better_j0 m true a0 a1 a2 kza2373
  else
    accum_extremeRule_better_j0 m ((Dt.I a2 0) == 2) a0 a1 a2 kza2373)
noncomputable def accum_extremeRule_add : Nat → Dt → Dt → Dt → Dt → Option Dt
  | 0, _, _, _, _ => none
  | m + 1, a0, a1, a2, a3 =>
    ((expr_EvalC (Dt.fld a1 2) a3).bind fun r0 =>
    ((accum_extremeRule_better m a0 (Dt.fld a2 3) r0).bind fun r1 =>
 some (Dt.agg [(Dt.int (Dt.I a2 0)), (Dt.int (Dt.I a2 1)), (Dt.int (Dt.I a2 2)), r1, (Dt.lst (Dt.L a2 4)), (Dt.lst (Dt.L a2 5))])))
noncomputable def accum_Add_j0 (m : Nat) (x0 x1 : Dt) : Option Dt :=
  some x1
noncomputable def accum_Add : Nat → Dt → Dt → Dt → Option Dt
  | 0, _, _, _ => none
  | m + 1, a0, a1, a2 =>
    ((accum_copyPart m a1).bind fun r0 =>
    (bif ((Dt.I a0 1) == 1) then
 ((accum_sumRule_add m (Dt.agg []) a0 r0 a2).bind fun r1 =>
 some r1)
    else
 (bif ((Dt.I a0 1) == 2) then
 ((accum_countRule_add m (Dt.agg []) a0 r0 a2).bind fun r2 =>
 some r2)
 else
 (bif ((Dt.I a0 1) == 3) then
 ((accum_avgRule_add m (Dt.agg []) a0 r0 a2).bind fun r3 =>
 some r3)
 else
 (bif ((Dt.I a0 1) == 4) then
 ((accum_extremeRule_add m (Dt.agg [(Dt.int 1)]) a0 r0 a2).bind fun r4 =>
 some r4)
 else
 (bif ((Dt.I a0 1) == 5) then
 ((accum_extremeRule_add m (Dt.agg [(Dt.int (-1))]) a0 r0 a2).bind fun r5 =>
 some r5)
 else
 (bif ((Dt.I a0 1) == 6) then
 ((accum_firstRule_add m (Dt.agg []) a0 r0 a2).bind fun r6 =>
 some r6)
 else
 (bif ((Dt.I a0 1) == 7) then
 ((accum_lastRule_add m (Dt.agg []) a0 r0 a2).bind fun r7 =>
 some r7)
 else
 (bif ((Dt.I a0 1) == 8) then
 ((addN157 (Dt.agg []) a0 r0 a2).bind fun r8 =>
 some r8)
 else
 (bif ((Dt.I a0 1) == 9) then
 ((addN160 (Dt.agg []) a0 r0 a2).bind fun r9 =>
 some r9)
 else
 (bif ((Dt.I a0 1) == 10) then
 ((addN170 (Dt.agg []) a0 r0 a2).bind fun r10 =>
 some r10)
 else
 accum_Add_j0 m kzc575d r0)))))))))))
noncomputable def law32_run_j3 (m : Nat) (rec1 : List Dt → Int → Dt → Dt → Dt → Option Dt) (x0 : List Dt) (x1 : Int) (x2 x3 x4 : Dt) : Option Dt :=
  rec1 x0 (IntKind.wrap .i64 (x1 + 1)) x2 x3 x4
noncomputable def law32_run_j2 (m : Nat) (rec1 : List Dt → Int → Dt → Dt → Dt → Option Dt) (x0 : List Dt) (x1 : Int) (x2 x3 x4 : Dt) : Option Dt :=
  ((idx x0 x1).bind fun v1 =>
    ((accum_Add m x2 x4 v1).bind fun r2 =>
 law32_run_j3 m rec1 x0 x1 x2 x3 r2))
noncomputable def law32_run_j4 (m : Nat) (x0 x1 : Dt) : Option Dt :=
  some x1
noncomputable def law32_run_l1 (m : Nat) : Nat → List Dt → Int → Dt → Dt → Dt → Option Dt
  | 0, _, _, _, _, _ => none
  | M1 + 1, x0, x1, x2, x3, x4 =>
    (bif (decide (x1 < (List.length x0 : Int))) then
    law32_run_j2 m (law32_run_l1 m M1) x0 x1 x2 x3 x4
  else
    law32_run_j4 m x3 x4)
noncomputable def law32_run_j0 (m : Nat) (x0 : List Dt) (x1 : Int) (x2 x3 x4 : Dt) : Option Dt :=
  law32_run_l1 m (Nat.succ m) x0 x1 x2 x3 x4
noncomputable def law32_run : Nat → Dt → List Dt → Option Dt
  | 0, _, _ => none
  | m + 1, a0, a1 =>
    ((accum_Start m a0).bind fun r0 =>
    law32_run_j0 m a1 0 a0 kzc575d r0)
noncomputable def law32_AccumNumbers_j4 (m : Nat) (rec2 : List Dt → Int → Int → List Dt → Option Bool) (x0 : List Dt) (x1 x2 : Int) (x3 : List Dt) : Option Bool :=
  rec2 x0 x1 (IntKind.wrap .i64 (x2 + 1)) x3
noncomputable def law32_AccumNumbers_j3 (m : Nat) (rec2 : List Dt → Int → Int → List Dt → Option Bool) (x0 : List Dt) (x1 x2 : Int) (x3 : List Dt) : Option Bool :=
  ((idx x0 x2).bind fun v1 =>
    ((law32_doc m (Dt.toInt v1)).bind fun r2 =>
 ((app x3 [r2]).bind fun v3 =>
 ((idx x0 x2).bind fun v4 =>
 law32_AccumNumbers_j4 m rec2 x0 (IntKind.wrap .i64 (x1 + (Dt.toInt v4))) x2 v3))))
noncomputable def law32_AccumNumbers_j10 (m : Nat) (rec7 : List Dt → List Dt → Int → Int → Option Bool) (x0 x1 : List Dt) (x2 x3 : Int) : Option Bool :=
  rec7 x0 x1 x2 (IntKind.wrap .i64 (x3 + 1))
noncomputable def law32_AccumNumbers_j9 (m : Nat) (rec7 : List Dt → List Dt → Int → Int → Option Bool) (x0 x1 : List Dt) (x2 x3 : Int) (x4 : Bool) : Option Bool :=
  (bif x4 then
    some false
  else
    law32_AccumNumbers_j10 m rec7 x0 x1 x2 x3)
noncomputable def law32_AccumNumbers_j17 (m : Nat) (rec7 : List Dt → List Dt → Int → Int → Option Bool) (rec14 : List Dt → List Dt → Int → Int → Int → Int → Int → Dt → Option Bool) (x0 x1 : List Dt) (x2 x3 x4 x5 x6 : Int) (x7 : Dt) : Option Bool :=
  rec14 x0 x1 x2 x3 x4 x5 (IntKind.wrap .i64 (x6 + 1)) x7
noncomputable def law32_AccumNumbers_j16 (m : Nat) (rec7 : List Dt → List Dt → Int → Int → Option Bool) (rec14 : List Dt → List Dt → Int → Int → Int → Int → Int → Dt → Option Bool) (x0 x1 : List Dt) (x2 x3 x4 x5 x6 : Int) (x7 : Dt) : Option Bool :=
  ((idx x0 x6).bind fun v11 =>
    (bif (decide (x5 < (Dt.toInt v11))) then
 ((idx x0 x6).bind fun v12 =>
 law32_AccumNumbers_j17 m rec7 rec14 x0 x1 x2 x3 x4 (Dt.toInt v12) x6 x7)
    else
 law32_AccumNumbers_j17 m rec7 rec14 x0 x1 x2 x3 x4 x5 x6 x7))
noncomputable def law32_AccumNumbers_j15 (m : Nat) (rec7 : List Dt → List Dt → Int → Int → Option Bool) (rec14 : List Dt → List Dt → Int → Int → Int → Int → Int → Dt → Option Bool) (x0 x1 : List Dt) (x2 x3 x4 x5 x6 : Int) (x7 : Dt) : Option Bool :=
  ((idx x0 x6).bind fun v9 =>
    (bif (decide ((Dt.toInt v9) < x4)) then
 ((idx x0 x6).bind fun v10 =>
 law32_AccumNumbers_j16 m rec7 rec14 x0 x1 x2 x3 (Dt.toInt v10) x5 x6 x7)
    else
 law32_AccumNumbers_j16 m rec7 rec14 x0 x1 x2 x3 x4 x5 x6 x7))
noncomputable def law32_AccumNumbers_j19 (m : Nat) (rec7 : List Dt → List Dt → Int → Int → Option Bool) (x0 x1 : List Dt) (x2 x3 : Int) (x4 : Bool) : Option Bool :=
  (bif x4 then
    some false
  else
    law32_AccumNumbers_j10 m rec7 x0 x1 x2 x3)
noncomputable def law32_AccumNumbers_j18 (m : Nat) (rec7 : List Dt → List Dt → Int → Int → Option Bool) (x0 x1 : List Dt) (x2 x3 x4 x5 : Int) (x6 : Dt) : Option Bool :=
  (bif (x3 == 1) then
    (bif ((Dt.I x6 1) != x2) then
 some false
    else
 law32_AccumNumbers_j10 m rec7 x0 x1 x2 x3)
  else
    (bif (x3 == 2) then
 (bif ((Dt.I x6 1) != (List.length x0 : Int)) then
 some false
 else
 law32_AccumNumbers_j10 m rec7 x0 x1 x2 x3)
    else
 (bif (x3 == 3) then
 (bif (decide ((IntKind.wrap .i64 (x2 - (IntKind.wrap .i64 ((Dt.I x6 1) * (List.length x0 : Int))))) < 0)) then
 law32_AccumNumbers_j19 m rec7 x0 x1 x2 x3 true
 else
 law32_AccumNumbers_j19 m rec7 x0 x1 x2 x3 (decide ((List.length x0 : Int) ≤ (IntKind.wrap .i64 (x2 - (IntKind.wrap .i64 ((Dt.I x6 1) * (List.length x0 : Int))))))))
 else
 (bif (x3 == 4) then
 (bif ((Dt.I x6 1) != x4) then
 some false
 else
 law32_AccumNumbers_j10 m rec7 x0 x1 x2 x3)
 else
 (bif (x3 == 5) then
 (bif ((Dt.I x6 1) != x5) then
 some false
 else
 law32_AccumNumbers_j10 m rec7 x0 x1 x2 x3)
 else
 (bif (x3 == 6) then
 ((idx x0 0).bind fun v13 =>
 (bif ((Dt.I x6 1) != (Dt.toInt v13)) then
 some false
 else
 law32_AccumNumbers_j10 m rec7 x0 x1 x2 x3))
 else
 (bif (x3 == 7) then
 ((idx x0 (IntKind.wrap .i64 ((List.length x0 : Int) - 1))).bind fun v14 =>
 (bif ((Dt.I x6 1) != (Dt.toInt v14)) then
 some false
 else
 law32_AccumNumbers_j10 m rec7 x0 x1 x2 x3))
 else
 law32_AccumNumbers_j10 m rec7 x0 x1 x2 x3)))))))
noncomputable def law32_AccumNumbers_l14 (m : Nat) (rec7 : List Dt → List Dt → Int → Int → Option Bool) : Nat → List Dt → List Dt → Int → Int → Int → Int → Int → Dt → Option Bool
  | 0, _, _, _, _, _, _, _, _ => none
  | M14 + 1, x0, x1, x2, x3, x4, x5, x6, x7 =>
    (bif (decide (x6 < (List.length x0 : Int))) then
    law32_AccumNumbers_j15 m rec7 (law32_AccumNumbers_l14 m rec7 M14) x0 x1 x2 x3 x4 x5 x6 x7
  else
    law32_AccumNumbers_j18 m rec7 x0 x1 x2 x3 x4 x5 x7)
noncomputable def law32_AccumNumbers_j13 (m : Nat) (rec7 : List Dt → List Dt → Int → Int → Option Bool) (x0 x1 : List Dt) (x2 x3 x4 x5 x6 : Int) (x7 : Dt) : Option Bool :=
  law32_AccumNumbers_l14 m rec7 (Nat.succ m) x0 x1 x2 x3 x4 x5 x6 x7
noncomputable def law32_AccumNumbers_j12 (m : Nat) (rec7 : List Dt → List Dt → Int → Int → Option Bool) (x0 x1 : List Dt) (x2 x3 : Int) (x4 : Dt) : Option Bool :=
  ((idx x0 0).bind fun v7 =>
    ((idx x0 0).bind fun v8 =>
 law32_AccumNumbers_j13 m rec7 x0 x1 x2 x3 (Dt.toInt v7) (Dt.toInt v8) 0 x4))
noncomputable def law32_AccumNumbers_j11 (m : Nat) (rec7 : List Dt → List Dt → Int → Int → Option Bool) (x0 x1 : List Dt) (x2 x3 : Int) (x4 : Dt) : Option Bool :=
  (bif ((Dt.I x4 0) != 3) then
    some false
  else
    law32_AccumNumbers_j12 m rec7 x0 x1 x2 x3 x4)
noncomputable def law32_AccumNumbers_j8 (m : Nat) (rec7 : List Dt → List Dt → Int → Int → Option Bool) (x0 x1 : List Dt) (x2 x3 : Int) : Option Bool :=
  ((law32_run m (Dt.agg [(Dt.str (ByteArray.mk (List.toArray []))), (Dt.int x3), kz54e8a, (Dt.lst []), (Dt.int 0)]) x1).bind fun r5 =>
    ((accum_Result m (Dt.agg [(Dt.str (ByteArray.mk (List.toArray []))), (Dt.int x3), kz54e8a, (Dt.lst []), (Dt.int 0)]) r5).bind fun r6 =>
 (bif ((List.length x0 : Int) == 0) then
 (bif (x3 == 1) then
 (bif (Bool.not (true == ((Dt.I r6 0) == 3))) then
 law32_AccumNumbers_j9 m rec7 x0 x1 x2 x3 true
 else
 law32_AccumNumbers_j9 m rec7 x0 x1 x2 x3 ((Dt.I r6 1) != 0))
 else
 (bif (Bool.not ((x3 == 2) == ((Dt.I r6 0) == 3))) then
 law32_AccumNumbers_j9 m rec7 x0 x1 x2 x3 true
 else
 law32_AccumNumbers_j9 m rec7 x0 x1 x2 x3 ((Dt.I r6 1) != 0)))
 else
 law32_AccumNumbers_j11 m rec7 x0 x1 x2 x3 r6)))
noncomputable def law32_AccumNumbers_j20 (m : Nat) : Option Bool :=
  ((awakeC).bind fun r15 =>
    some r15)
noncomputable def law32_AccumNumbers_l7 (m : Nat) : Nat → List Dt → List Dt → Int → Int → Option Bool
  | 0, _, _, _, _ => none
  | M7 + 1, x0, x1, x2, x3 =>
    (bif (decide (x3 ≤ 7)) then
    law32_AccumNumbers_j8 m (law32_AccumNumbers_l7 m M7) x0 x1 x2 x3
  else
    law32_AccumNumbers_j20 m)
noncomputable def law32_AccumNumbers_j6 (m : Nat) (x0 x1 : List Dt) (x2 x3 : Int) : Option Bool :=
  law32_AccumNumbers_l7 m (Nat.succ m) x0 x1 x2 x3
noncomputable def law32_AccumNumbers_j5 (m : Nat) (x0 x1 : List Dt) (x2 : Int) : Option Bool :=
  law32_AccumNumbers_j6 m x0 x1 x2 1
noncomputable def law32_AccumNumbers_l2 (m : Nat) : Nat → List Dt → Int → Int → List Dt → Option Bool
  | 0, _, _, _, _ => none
  | M2 + 1, x0, x1, x2, x3 =>
    (bif (decide (x2 < (List.length x0 : Int))) then
    law32_AccumNumbers_j3 m (law32_AccumNumbers_l2 m M2) x0 x1 x2 x3
  else
    law32_AccumNumbers_j5 m x0 x3 x1)
noncomputable def law32_AccumNumbers_j1 (m : Nat) (x0 : List Dt) (x1 x2 : Int) (x3 : List Dt) : Option Bool :=
  law32_AccumNumbers_l2 m (Nat.succ m) x0 x1 x2 x3
noncomputable def law32_AccumNumbers_j0 (m : Nat) (x0 : List Dt) : Option Bool :=
  law32_AccumNumbers_j1 m x0 0 0 []
noncomputable def law32_AccumNumbers : Nat → List Dt → Option Bool
  | 0, _ => none
  | m + 1, a0 =>
    (bif (decide (100 < (List.length a0 : Int))) then
    ((awakeC).bind fun r0 =>
 some r0)
  else
    law32_AccumNumbers_j0 m a0)
end Go.Proofs.YtacpcknpliomoaaGreat
