/- Generated: each function's run in the abstract machine is its shallow function. -/
import Derived.Test.YtacpcknpliomoaaGreatCt
import Derived.Test.YtacpcknpliomoaaGreatAmEnv
import Derived.KernelRfl
set_option linter.unusedVariables false
set_option linter.unusedSimpArgs false
namespace Go.Proofs.YtacpcknpliomoaaGreat
open Go.Am
set_option maxRecDepth 100000
def w6_7 : List Nat := [1, 1, 1, 1, 1]
def w6_9 : List Nat := [1, 1, 1, 0, 1]
def w6_0 : List Nat := [1, 1, 1, 0, 1, 0]
def w6_8 : List Nat := [1, 1, 1, 1, 0, 1]
def w6_3 : List Nat := w6_8 ++ [0]
def w6_2 : List Nat := w6_0 ++ [0, 1]
def w6_1 : List Nat := w6_2 ++ [1]
def w6_6 : List Nat := w6_3 ++ [0, 1]
def w6_4 : List Nat := w6_6 ++ [1]
def w6_5 : List Nat := w6_6 ++ [0, 0, 1]
noncomputable def e6 (J : Nat → Nat → Nat → St → Option Int → Option Int) (m : Nat) (p ms : List Nat) (σ : St) := evAt Tryz.prog env (ct m) J (m + 1) 21 69 Tryz.f21 d6 p ms σ
noncomputable def l6 (J : Nat → Nat → Nat → St → Option Int → Option Int) (m : Nat) (p ms : List Nat) (M : Nat) (σ : St) := loopAt Tryz.prog env (ct m) J (m + 1) 21 69 Tryz.f21 d6 p ms M σ
noncomputable def s6_5 (x0 x1 x2 : Int) (x3 : Dt) : St := ⟨tsOf [(1, (.dat 3 (.int x0))), (2, (.dat 3 (.int x1))), (3, (.ptr 0 [] 0)), (7, (.dat 3 (.int x2)))], [(.box 25 (.dat 25 x3))], 0⟩
noncomputable def s6_11 (x0 x1 x2 : Int) (x3 : Dt) : St := ⟨tsOf [(1, (.dat 3 (.int x0))), (2, (.dat 3 (.int x1))), (3, (.ptr 0 [] 0)), (8, (.dat 3 (.int x2)))], [(.box 25 (.dat 25 x3))], 0⟩
noncomputable def s6_12 (x0 : Int) : St := ⟨tsOf [(2, (.dat 3 (.int x0)))], [], 0⟩
noncomputable def s6_6 (x0 x1 : Int) (x2 : Dt) : St := ⟨tsOf [(1, (.dat 3 (.int x0))), (2, (.dat 3 (.int x1))), (3, (.ptr 0 [] 0))], [(.box 25 (.dat 25 x2))], 0⟩
noncomputable def s6_0 (x0 x1 : Int) (x2 : Bool) (x3 : Dt) : St := ⟨tsOf [(1, (.dat 3 (.int x0))), (2, (.dat 3 (.int x1))), (3, (.ptr 0 [] 0)), (18, (.dat 4 (.bool x2)))], [(.box 25 (.dat 25 x3))], 0⟩
abbrev H6_3 (m M3 : Nat) (rec3 : Int → Int → Int → Dt → Option Int) : Prop := ∀ x0 x1 x2 x3, l6 jn m w6_0 [] M3 (s6_5 x0 x1 x2 x3) = rec3 x0 x1 x2 x3
theorem ref02_count_j5_eq m M3 rec3 (h3 : H6_3 m M3 rec3) x0 x1 x2 x3 : e6 jn m w6_1 [M3] (s6_5 x0 x1 x2 x3) = ref02_count_j5 m (ref02_count m) rec3 x0 x1 x2 x3 :=
  tre (g := fun J => (jj J 1 5 M3 (s6_5 x0 x1 (IntKind.wrap .i64 (x2 + 1)) x3) (l6 J m w6_0 [] M3))) (fun J => by kernel_rfl) (by simp only [jj_eq, h3]; rfl)
theorem ref02_count_j4_eq m M3 rec3 (h3 : H6_3 m M3 rec3) x0 x1 x2 x3 : e6 jn m w6_2 [M3] (s6_5 x0 x1 x2 x3) = ref02_count_j4 m (ref02_count m) rec3 x0 x1 x2 x3 :=
  tre (g := fun J => ((idx (Dt.L x3 3) x2).bind fun v0 =>
   ((ref02_count m v0 (IntKind.wrap .i64 (x0 + 1)) x1).bind fun r1 =>
   (jj J 0 6 0 (s6_5 x0 r1 x2 x3) (e6 J m w6_1 [M3]))))) (fun J => by kernel_rfl) (by simp only [jj_eq, ref02_count_j5_eq m M3 rec3 h3]; rfl)
abbrev H6_8 (m M8 : Nat) (rec8 : Int → Int → Int → Dt → Option Int) : Prop := ∀ x0 x1 x2 x3, l6 jn m w6_3 [] M8 (s6_11 x0 x1 x2 x3) = rec8 x0 x1 x2 x3
theorem ref02_count_j11_eq m M8 rec8 (h8 : H6_8 m M8 rec8) x0 x1 x2 x3 : e6 jn m w6_4 [M8] (s6_11 x0 x1 x2 x3) = ref02_count_j11 m (ref02_count m) rec8 x0 x1 x2 x3 :=
  tre (g := fun J => (jj J 1 9 M8 (s6_11 x0 x1 (IntKind.wrap .i64 (x2 + 1)) x3) (l6 J m w6_3 [] M8))) (fun J => by kernel_rfl) (by simp only [jj_eq, h8]; rfl)
theorem ref02_count_j10_eq m M8 rec8 (h8 : H6_8 m M8 rec8) x0 x1 x2 x3 : e6 jn m w6_5 [M8] (s6_11 x0 x1 x2 x3) = ref02_count_j10 m (ref02_count m) rec8 x0 x1 x2 x3 :=
  tre (g := fun J => ((idx (Dt.L x3 4) x2).bind fun v3 =>
   ((ref02_count m (Dt.fld v3 1) (IntKind.wrap .i64 (x0 + 1)) x1).bind fun r4 =>
   (jj J 0 10 0 (s6_11 x0 r4 x2 x3) (e6 J m w6_4 [M8]))))) (fun J => by kernel_rfl) (by simp only [jj_eq, ref02_count_j11_eq m M8 rec8 h8]; rfl)
theorem ref02_count_j9_eq m M8 rec8 (h8 : H6_8 m M8 rec8) x0 x1 x2 x3 : e6 jn m w6_6 [M8] (s6_11 x0 x1 x2 x3) = ref02_count_j9 m (ref02_count m) rec8 x0 x1 x2 x3 :=
  tre (g := fun J => ((idx (Dt.L x3 4) x2).bind fun v2 =>
   (bif (decide (200 < (ByteArray.size (Dt.S v2 0) : Int))) then
   some (-1)
   else
   (jj J 0 13 0 (s6_11 x0 x1 x2 x3) (e6 J m w6_5 [M8]))))) (fun J => by kernel_rfl) (by simp only [jj_eq, ref02_count_j10_eq m M8 rec8 h8]; rfl)
theorem ref02_count_j12_eq m x0 : e6 jn m w6_7 [] (s6_12 x0) = ref02_count_j12 m (ref02_count m) x0 :=
  tre (g := fun J => some x0) (fun J => by kernel_rfl) (by rfl)
theorem ref02_count_l8_eq m : ∀ M8 x0 x1 x2 x3, l6 jn m w6_3 [] M8 (s6_11 x0 x1 x2 x3) = ref02_count_l8 m (ref02_count m) M8 x0 x1 x2 x3
  | 0, _, _, _, _ => rfl
  | M8 + 1, x0, x1, x2, x3 =>
    trl (g := fun J => (bif (decide (x2 < (List.length (Dt.L x3 4) : Int))) then
   (bif (decide (0 ≤ x1)) then
   (jj J 0 11 0 (s6_11 x0 x1 x2 x3) (e6 J m w6_6 [M8]))
   else
   (jj J 0 14 0 (s6_12 x1) (e6 J m w6_7 [])))
    else
   (jj J 0 14 0 (s6_12 x1) (e6 J m w6_7 [])))) (fun J => by kernel_rfl) (by simp only [jj_eq, ref02_count_j9_eq m M8 (ref02_count_l8 m (ref02_count m) M8) (ref02_count_l8_eq m M8), ref02_count_j12_eq m]; rfl)
theorem ref02_count_j7_eq m x0 x1 x2 x3 : e6 jn m w6_8 [] (s6_11 x0 x1 x2 x3) = ref02_count_j7 m (ref02_count m) x0 x1 x2 x3 :=
  tre (g := fun J => (jj J 1 9 (Nat.succ m) (s6_11 x0 x1 x2 x3) (l6 J m w6_3 [] (Nat.succ m)))) (fun J => by kernel_rfl) (by simp only [jj_eq, ref02_count_l8_eq m]; rfl)
theorem ref02_count_j6_eq m x0 x1 x2 : e6 jn m [1, 1, 1, 1] [] (s6_6 x0 x1 x2) = ref02_count_j6 m (ref02_count m) x0 x1 x2 :=
  tre (g := fun J => (jj J 0 9 0 (s6_11 x0 x1 0 x2) (e6 J m w6_8 []))) (fun J => by kernel_rfl) (by simp only [jj_eq, ref02_count_j7_eq m]; rfl)
theorem ref02_count_l3_eq m : ∀ M3 x0 x1 x2 x3, l6 jn m w6_0 [] M3 (s6_5 x0 x1 x2 x3) = ref02_count_l3 m (ref02_count m) M3 x0 x1 x2 x3
  | 0, _, _, _, _ => rfl
  | M3 + 1, x0, x1, x2, x3 =>
    trl (g := fun J => (bif (decide (x2 < (List.length (Dt.L x3 3) : Int))) then
   (bif (decide (0 ≤ x1)) then
   (jj J 0 7 0 (s6_5 x0 x1 x2 x3) (e6 J m w6_2 [M3]))
   else
   (jj J 0 8 0 (s6_6 x0 x1 x3) (e6 J m [1, 1, 1, 1] [])))
    else
   (jj J 0 8 0 (s6_6 x0 x1 x3) (e6 J m [1, 1, 1, 1] [])))) (fun J => by kernel_rfl) (by simp only [jj_eq, ref02_count_j4_eq m M3 (ref02_count_l3 m (ref02_count m) M3) (ref02_count_l3_eq m M3), ref02_count_j6_eq m]; rfl)
theorem ref02_count_j2_eq m x0 x1 x2 x3 : e6 jn m w6_9 [] (s6_5 x0 x1 x2 x3) = ref02_count_j2 m (ref02_count m) x0 x1 x2 x3 :=
  tre (g := fun J => (jj J 1 5 (Nat.succ m) (s6_5 x0 x1 x2 x3) (l6 J m w6_0 [] (Nat.succ m)))) (fun J => by kernel_rfl) (by simp only [jj_eq, ref02_count_l3_eq m]; rfl)
theorem ref02_count_j1_eq m x0 x1 x2 : e6 jn m [1, 1, 1] [] (s6_6 x0 x1 x2) = ref02_count_j1 m (ref02_count m) x0 x1 x2 :=
  tre (g := fun J => (jj J 0 5 0 (s6_5 x0 x1 0 x2) (e6 J m w6_9 []))) (fun J => by kernel_rfl) (by simp only [jj_eq, ref02_count_j2_eq m]; rfl)
theorem ref02_count_j0_eq m x0 x1 x2 x3 : e6 jn m [1, 1, 0, 1] [] (s6_0 x0 x1 x2 x3) = ref02_count_j0 m (ref02_count m) x0 x1 x2 x3 :=
  tre (g := fun J => (bif x2 then
   some (-1)
    else
   (jj J 0 4 0 (s6_6 x0 x1 x3) (e6 J m [1, 1, 1] [])))) (fun J => by kernel_rfl) (by simp only [jj_eq, ref02_count_j1_eq m]; rfl)
theorem ref02_count_eq m a0 a1 a2 : e6 jn m [] [] ⟨[(.dat 25 a0), (.dat 3 (.int a1)), (.dat 3 (.int a2))], [], 0⟩ = ref02_count (m + 1) a0 a1 a2 :=
  tre (g := fun J => (bif (decide (40 < a1)) then
   (jj J 0 3 0 (s6_0 a1 (IntKind.wrap .i64 (a2 - 1)) true a0) (e6 J m [1, 1, 0, 1] []))
    else
   (jj J 0 3 0 (s6_0 a1 (IntKind.wrap .i64 (a2 - 1)) (decide (5000 < (ByteArray.size (Dt.S a0 2) : Int))) a0) (e6 J m [1, 1, 0, 1] [])))) (fun J => by kernel_rfl) (by simp only [jj_eq, ref02_count_j0_eq m]; rfl)
noncomputable def e1 (J : Nat → Nat → Nat → St → Option Bool → Option Bool) (m : Nat) (p ms : List Nat) (σ : St) := evAt Tryz.prog env (ct m) J (m + 1) 8 9 Tryz.f8 d1 p ms σ
noncomputable def l1 (J : Nat → Nat → Nat → St → Option Bool → Option Bool) (m : Nat) (p ms : List Nat) (M : Nat) (σ : St) := loopAt Tryz.prog env (ct m) J (m + 1) 8 9 Tryz.f8 d1 p ms M σ
theorem ref02_Few_eq m a0 a1 : e1 jn m [] [] ⟨[(.dat 25 a0), (.dat 3 (.int a1))], [], 0⟩ = ref02_Few (m + 1) a0 a1 :=
  tre (g := fun J => ((ref02_count m a0 1 a1).bind fun r0 =>
   some (decide (0 ≤ r0)))) (fun J => by kernel_rfl) (by rfl)
noncomputable def e7 (J : Nat → Nat → Nat → St → Option Bool → Option Bool) (m : Nat) (p ms : List Nat) (σ : St) := evAt Tryz.prog env (ct m) J (m + 1) 24 23 Tryz.f24 d1 p ms σ
noncomputable def l7 (J : Nat → Nat → Nat → St → Option Bool → Option Bool) (m : Nat) (p ms : List Nat) (M : Nat) (σ : St) := loopAt Tryz.prog env (ct m) J (m + 1) 24 23 Tryz.f24 d1 p ms M σ
theorem accum_isInteger_eq m a0 : e7 jn m [] [] ⟨[(.dat 25 a0)], [], 0⟩ = accum_isInteger (m + 1) a0 :=
  tre (g := fun J => (bif ((Dt.I a0 0) == 3) then
   (bif ((ByteArray.toList (Dt.S a0 2)) == []) then
   (bif ((List.length (Dt.L a0 3) : Int) == 0) then
   some ((List.length (Dt.L a0 4) : Int) == 0)
   else
   some false)
   else
   some false)
    else
   some false)) (fun J => by kernel_rfl) (by rfl)
def w8_3 : List Nat := [1, 1, 1, 0, 1]
def w8_0 : List Nat := [1, 1, 1, 0, 1, 0]
def w8_2 : List Nat := w8_0 ++ [0, 1, 1]
def w8_1 : List Nat := w8_2 ++ [1]
noncomputable def e8 (J : Nat → Nat → Nat → St → Option Dt → Option Dt) (m : Nat) (p ms : List Nat) (σ : St) := evAt Tryz.prog env (ct m) J (m + 1) 25 32 Tryz.f25 d8 p ms σ
noncomputable def l8 (J : Nat → Nat → Nat → St → Option Dt → Option Dt) (m : Nat) (p ms : List Nat) (M : Nat) (σ : St) := loopAt Tryz.prog env (ct m) J (m + 1) 25 32 Tryz.f25 d8 p ms M σ
noncomputable def s8_3 (x0 : List Dt) (x1 x2 : Int) (x3 : Dt) (x4 x5 : Int) (x6 : ByteArray) (x7 x8 : List Dt) : St := ⟨tsOf [(2, (.ptr 0 [] 0)), (3, (.ptr 1 [] 0)), (13, (.dat 23 (.lst x0))), (14, (.dat 3 (.int x1))), (15, (.dat 3 (.int x2)))], [(.box 25 (.dat 25 x3)), (.box 25 (.agg 25 [(.dat 3 (.int x4)), (.dat 3 (.int x5)), (.dat 9 (.str x6)), (.dat 22 (.lst x7)), (.row 2)])), (.row 23 x8)], 0⟩
noncomputable def s8_4 (x0 : Dt) (x1 x2 : Int) (x3 : ByteArray) (x4 x5 : List Dt) : St := ⟨tsOf [(2, (.ptr 0 [] 0)), (3, (.ptr 1 [] 0))], [(.box 25 (.dat 25 x0)), (.box 25 (.agg 25 [(.dat 3 (.int x1)), (.dat 3 (.int x2)), (.dat 9 (.str x3)), (.dat 22 (.lst x4)), (.row 2)])), (.row 23 x5)], 0⟩
abbrev H8_1 (m M1 : Nat) (rec1 : List Dt → Int → Int → Dt → Int → Int → ByteArray → List Dt → List Dt → Option Dt) : Prop := ∀ x0 x1 x2 x3 x4 x5 x6 x7 x8, l8 jn m w8_0 [] M1 (s8_3 x0 x1 x2 x3 x4 x5 x6 x7 x8) = rec1 x0 x1 x2 x3 x4 x5 x6 x7 x8
theorem accum_copyValue_j3_eq m M1 rec1 (h1 : H8_1 m M1 rec1) x0 x1 x2 x3 x4 x5 x6 x7 x8 : e8 jn m w8_1 [M1] (s8_3 x0 x1 x2 x3 x4 x5 x6 x7 x8) = accum_copyValue_j3 m (accum_copyValue m) (accum_copyList m) rec1 x0 x1 x2 x3 x4 x5 x6 x7 x8 :=
  tre (g := fun J => (jj J 1 4 M1 (s8_3 x0 x1 (IntKind.wrap .i64 (x2 + 1)) x3 x4 x5 x6 x7 x8) (l8 J m w8_0 [] M1))) (fun J => by kernel_rfl) (by simp only [jj_eq, h1]; rfl)
theorem accum_copyValue_j2_eq m M1 rec1 (h1 : H8_1 m M1 rec1) x0 x1 x2 x3 x4 x5 x6 x7 x8 : e8 jn m w8_2 [M1] (s8_3 x0 x1 x2 x3 x4 x5 x6 x7 x8) = accum_copyValue_j2 m (accum_copyValue m) (accum_copyList m) rec1 x0 x1 x2 x3 x4 x5 x6 x7 x8 :=
  tre (g := fun J => ((idx x0 x2).bind fun v1 =>
   ((accum_copyValue m (Dt.fld v1 1)).bind fun r2 =>
   ((app x8 [(Dt.agg [(Dt.str (Dt.S v1 0)), r2])]).bind fun v3 =>
   (jj J 0 7 0 (s8_3 x0 x1 x2 x3 x4 x5 x6 x7 v3) (e8 J m w8_1 [M1])))))) (fun J => by kernel_rfl) (by simp only [jj_eq, accum_copyValue_j3_eq m M1 rec1 h1]; rfl)
theorem accum_copyValue_j4_eq m x0 x1 x2 x3 x4 x5 : e8 jn m [1, 1, 1, 1] [] (s8_4 x0 x1 x2 x3 x4 x5) = accum_copyValue_j4 m (accum_copyValue m) (accum_copyList m) x0 x1 x2 x3 x4 x5 :=
  tre (g := fun J => some (Dt.agg [(Dt.int x1), (Dt.int x2), (Dt.str x3), (Dt.lst x4), (Dt.lst x5)])) (fun J => by kernel_rfl) (by rfl)
theorem accum_copyValue_l1_eq m : ∀ M1 x0 x1 x2 x3 x4 x5 x6 x7 x8, l8 jn m w8_0 [] M1 (s8_3 x0 x1 x2 x3 x4 x5 x6 x7 x8) = accum_copyValue_l1 m (accum_copyValue m) (accum_copyList m) M1 x0 x1 x2 x3 x4 x5 x6 x7 x8
  | 0, _, _, _, _, _, _, _, _, _ => rfl
  | M1 + 1, x0, x1, x2, x3, x4, x5, x6, x7, x8 =>
    trl (g := fun J => (bif (decide (x2 < x1)) then
   (jj J 0 5 0 (s8_3 x0 x1 x2 x3 x4 x5 x6 x7 x8) (e8 J m w8_2 [M1]))
    else
   (jj J 0 8 0 (s8_4 x3 x4 x5 x6 x7 x8) (e8 J m [1, 1, 1, 1] [])))) (fun J => by kernel_rfl) (by simp only [jj_eq, accum_copyValue_j2_eq m M1 (accum_copyValue_l1 m (accum_copyValue m) (accum_copyList m) M1) (accum_copyValue_l1_eq m M1), accum_copyValue_j4_eq m]; rfl)
theorem accum_copyValue_j0_eq m x0 x1 x2 x3 x4 x5 x6 x7 x8 : e8 jn m w8_3 [] (s8_3 x0 x1 x2 x3 x4 x5 x6 x7 x8) = accum_copyValue_j0 m (accum_copyValue m) (accum_copyList m) x0 x1 x2 x3 x4 x5 x6 x7 x8 :=
  tre (g := fun J => (jj J 1 4 (Nat.succ m) (s8_3 x0 x1 x2 x3 x4 x5 x6 x7 x8) (l8 J m w8_0 [] (Nat.succ m)))) (fun J => by kernel_rfl) (by simp only [jj_eq, accum_copyValue_l1_eq m]; rfl)
theorem accum_copyValue_eq m a0 : e8 jn m [] [] ⟨[(.dat 25 a0)], [], 0⟩ = accum_copyValue (m + 1) a0 :=
  tre (g := fun J => ((accum_copyList m (Dt.L a0 3)).bind fun r0 =>
   (jj J 0 4 0 (s8_3 (Dt.L a0 4) (List.length (Dt.L a0 4) : Int) 0 kza2373 (Dt.I a0 0) (Dt.I a0 1) (Dt.S a0 2) r0 []) (e8 J m w8_3 [])))) (fun J => by kernel_rfl) (by simp only [jj_eq, accum_copyValue_j0_eq m]; rfl)
def w10_3 : List Nat := [1, 1, 1, 0, 1]
def w10_0 : List Nat := [1, 1, 1, 0, 1, 0]
def w10_2 : List Nat := w10_0 ++ [0, 1, 1]
def w10_1 : List Nat := w10_2 ++ [1]
noncomputable def e10 (J : Nat → Nat → Nat → St → Option (List Dt) → Option (List Dt)) (m : Nat) (p ms : List Nat) (σ : St) := evAt Tryz.prog env (ct m) J (m + 1) 27 26 Tryz.f27 d10 p ms σ
noncomputable def l10 (J : Nat → Nat → Nat → St → Option (List Dt) → Option (List Dt)) (m : Nat) (p ms : List Nat) (M : Nat) (σ : St) := loopAt Tryz.prog env (ct m) J (m + 1) 27 26 Tryz.f27 d10 p ms M σ
noncomputable def s10_4 (x0 : List Dt) (x1 x2 : Int) (x3 : List Dt) : St := ⟨tsOf [(3, (.row 0)), (12, (.dat 22 (.lst x0))), (13, (.dat 3 (.int x1))), (14, (.dat 3 (.int x2)))], [(.row 22 x3)], 0⟩
noncomputable def s10_5 (x0 : List Dt) : St := ⟨tsOf [(3, (.row 0))], [(.row 22 x0)], 0⟩
noncomputable def s10_0 (x0 : List Dt) : St := ⟨tsOf [(0, (.dat 22 (.lst x0)))], [], 0⟩
abbrev H10_2 (m M2 : Nat) (rec2 : List Dt → Int → Int → List Dt → Option (List Dt)) : Prop := ∀ x0 x1 x2 x3, l10 jn m w10_0 [] M2 (s10_4 x0 x1 x2 x3) = rec2 x0 x1 x2 x3
theorem accum_copyList_j4_eq m M2 rec2 (h2 : H10_2 m M2 rec2) x0 x1 x2 x3 : e10 jn m w10_1 [M2] (s10_4 x0 x1 x2 x3) = accum_copyList_j4 m (accum_copyValue m) rec2 x0 x1 x2 x3 :=
  tre (g := fun J => (jj J 1 5 M2 (s10_4 x0 x1 (IntKind.wrap .i64 (x2 + 1)) x3) (l10 J m w10_0 [] M2))) (fun J => by kernel_rfl) (by simp only [jj_eq, h2]; rfl)
theorem accum_copyList_j3_eq m M2 rec2 (h2 : H10_2 m M2 rec2) x0 x1 x2 x3 : e10 jn m w10_2 [M2] (s10_4 x0 x1 x2 x3) = accum_copyList_j3 m (accum_copyValue m) rec2 x0 x1 x2 x3 :=
  tre (g := fun J => ((idx x0 x2).bind fun v1 =>
   ((accum_copyValue m v1).bind fun r2 =>
   ((inL x3 x2).bind fun v3 =>
   ((x3[(Int.toNat x2)]?).bind fun v4 =>
   (jj J 0 8 0 (s10_4 x0 x1 x2 (List.set x3 (Int.toNat x2) r2)) (e10 J m w10_1 [M2]))))))) (fun J => by kernel_rfl) (by simp only [jj_eq, accum_copyList_j4_eq m M2 rec2 h2]; rfl)
theorem accum_copyList_j5_eq m x0 : e10 jn m [1, 1, 1, 1] [] (s10_5 x0) = accum_copyList_j5 m (accum_copyValue m) x0 :=
  tre (g := fun J => some x0) (fun J => by kernel_rfl) (by rfl)
theorem accum_copyList_l2_eq m : ∀ M2 x0 x1 x2 x3, l10 jn m w10_0 [] M2 (s10_4 x0 x1 x2 x3) = accum_copyList_l2 m (accum_copyValue m) M2 x0 x1 x2 x3
  | 0, _, _, _, _ => rfl
  | M2 + 1, x0, x1, x2, x3 =>
    trl (g := fun J => (bif (decide (x2 < x1)) then
   (jj J 0 6 0 (s10_4 x0 x1 x2 x3) (e10 J m w10_2 [M2]))
    else
   (jj J 0 9 0 (s10_5 x3) (e10 J m [1, 1, 1, 1] [])))) (fun J => by kernel_rfl) (by simp only [jj_eq, accum_copyList_j3_eq m M2 (accum_copyList_l2 m (accum_copyValue m) M2) (accum_copyList_l2_eq m M2), accum_copyList_j5_eq m]; rfl)
theorem accum_copyList_j1_eq m x0 x1 x2 x3 : e10 jn m w10_3 [] (s10_4 x0 x1 x2 x3) = accum_copyList_j1 m (accum_copyValue m) x0 x1 x2 x3 :=
  tre (g := fun J => (jj J 1 5 (Nat.succ m) (s10_4 x0 x1 x2 x3) (l10 J m w10_0 [] (Nat.succ m)))) (fun J => by kernel_rfl) (by simp only [jj_eq, accum_copyList_l2_eq m]; rfl)
theorem accum_copyList_j0_eq m x0 : e10 jn m [1, 1] [] (s10_0 x0) = accum_copyList_j0 m (accum_copyValue m) x0 :=
  tre (g := fun J => ((mkL (List.length x0 : Int) (List.length x0 : Int) kza2373).bind fun v0 =>
   (jj J 0 5 0 (s10_4 x0 (List.length x0 : Int) 0 v0) (e10 J m w10_3 [])))) (fun J => by kernel_rfl) (by simp only [jj_eq, accum_copyList_j1_eq m]; rfl)
theorem accum_copyList_eq m a0 : e10 jn m [] [] ⟨[(.dat 22 (.lst a0))], [], 0⟩ = accum_copyList (m + 1) a0 :=
  tre (g := fun J => (bif ((List.length a0 : Int) == 0) then
   some []
    else
   (jj J 0 3 0 (s10_0 a0) (e10 J m [1, 1] [])))) (fun J => by kernel_rfl) (by simp only [jj_eq, accum_copyList_j0_eq m]; rfl)
noncomputable def e9 (J : Nat → Nat → Nat → St → Option Bool → Option Bool) (m : Nat) (p ms : List Nat) (σ : St) := evAt Tryz.prog env (ct m) J (m + 1) 26 28 Tryz.f26 d1 p ms σ
noncomputable def l9 (J : Nat → Nat → Nat → St → Option Bool → Option Bool) (m : Nat) (p ms : List Nat) (M : Nat) (σ : St) := loopAt Tryz.prog env (ct m) J (m + 1) 26 28 Tryz.f26 d1 p ms M σ
theorem accum_isList_eq m a0 : e9 jn m [] [] ⟨[(.dat 25 a0)], [], 0⟩ = accum_isList (m + 1) a0 :=
  tre (g := fun J => (bif ((Dt.I a0 0) == 6) then
   (bif ((Dt.I a0 1) == 0) then
   (bif ((ByteArray.toList (Dt.S a0 2)) == []) then
   (bif (decide (0 < (List.length (Dt.L a0 3) : Int))) then
   some ((List.length (Dt.L a0 4) : Int) == 0)
   else
   some false)
   else
   some false)
   else
   some false)
    else
   some false)) (fun J => by kernel_rfl) (by rfl)
def w11_0 : List Nat := [1, 1, 0, 1, 0]
def w11_2 : List Nat := [1, 1, 0, 1, 0, 0, 1, 1]
def w11_1 : List Nat := w11_2 ++ [1]
noncomputable def e11 (J : Nat → Nat → Nat → St → Option Bool → Option Bool) (m : Nat) (p ms : List Nat) (σ : St) := evAt Tryz.prog env (ct m) J (m + 1) 28 30 Tryz.f28 d1 p ms σ
noncomputable def l11 (J : Nat → Nat → Nat → St → Option Bool → Option Bool) (m : Nat) (p ms : List Nat) (M : Nat) (σ : St) := loopAt Tryz.prog env (ct m) J (m + 1) 28 30 Tryz.f28 d1 p ms M σ
noncomputable def s11_4 (x0 : List Dt) (x1 x2 : Int) (x3 : Dt) : St := ⟨tsOf [(1, (.ptr 0 [] 0)), (13, (.dat 22 (.lst x0))), (14, (.dat 3 (.int x1))), (15, (.dat 3 (.int x2)))], [(.box 29 (.dat 29 x3))], 0⟩
noncomputable def s11_5 (x0 : Dt) : St := ⟨tsOf [(1, (.ptr 0 [] 0))], [(.box 29 (.dat 29 x0))], 0⟩
abbrev H11_2 (m M2 : Nat) (rec2 : List Dt → Int → Int → Dt → Option Bool) : Prop := ∀ x0 x1 x2 x3, l11 jn m w11_0 [] M2 (s11_4 x0 x1 x2 x3) = rec2 x0 x1 x2 x3
theorem accum_keysFit_j4_eq m M2 rec2 (h2 : H11_2 m M2 rec2) x0 x1 x2 x3 : e11 jn m w11_1 [M2] (s11_4 x0 x1 x2 x3) = accum_keysFit_j4 m rec2 x0 x1 x2 x3 :=
  tre (g := fun J => (jj J 1 4 M2 (s11_4 x0 x1 (IntKind.wrap .i64 (x2 + 1)) x3) (l11 J m w11_0 [] M2))) (fun J => by kernel_rfl) (by simp only [jj_eq, h2]; rfl)
theorem accum_keysFit_j3_eq m M2 rec2 (h2 : H11_2 m M2 rec2) x0 x1 x2 x3 : e11 jn m w11_2 [M2] (s11_4 x0 x1 x2 x3) = accum_keysFit_j3 m rec2 x0 x1 x2 x3 :=
  tre (g := fun J => ((idx x0 x2).bind fun v0 =>
   (bif ((Dt.I v0 0) != 6) then
   some false
   else
   (jj J 0 8 0 (s11_4 x0 x1 x2 x3) (e11 J m w11_1 [M2]))))) (fun J => by kernel_rfl) (by simp only [jj_eq, accum_keysFit_j4_eq m M2 rec2 h2]; rfl)
theorem accum_keysFit_j5_eq m x0 : e11 jn m [1, 1, 1] [] (s11_5 x0) = accum_keysFit_j5 m x0 :=
  tre (g := fun J => some ((List.length (Dt.L x0 5) : Int) == (List.length (Dt.L x0 4) : Int))) (fun J => by kernel_rfl) (by rfl)
theorem accum_keysFit_l2_eq m : ∀ M2 x0 x1 x2 x3, l11 jn m w11_0 [] M2 (s11_4 x0 x1 x2 x3) = accum_keysFit_l2 m M2 x0 x1 x2 x3
  | 0, _, _, _, _ => rfl
  | M2 + 1, x0, x1, x2, x3 =>
    trl (g := fun J => (bif (decide (x2 < x1)) then
   (jj J 0 5 0 (s11_4 x0 x1 x2 x3) (e11 J m w11_2 [M2]))
    else
   (jj J 0 9 0 (s11_5 x3) (e11 J m [1, 1, 1] [])))) (fun J => by kernel_rfl) (by simp only [jj_eq, accum_keysFit_j3_eq m M2 (accum_keysFit_l2 m M2) (accum_keysFit_l2_eq m M2), accum_keysFit_j5_eq m]; rfl)
theorem accum_keysFit_j1_eq m x0 x1 x2 x3 : e11 jn m [1, 1, 0, 1] [] (s11_4 x0 x1 x2 x3) = accum_keysFit_j1 m x0 x1 x2 x3 :=
  tre (g := fun J => (jj J 1 4 (Nat.succ m) (s11_4 x0 x1 x2 x3) (l11 J m w11_0 [] (Nat.succ m)))) (fun J => by kernel_rfl) (by simp only [jj_eq, accum_keysFit_l2_eq m]; rfl)
theorem accum_keysFit_j0_eq m x0 : e11 jn m [1, 1] [] (s11_5 x0) = accum_keysFit_j0 m x0 :=
  tre (g := fun J => (jj J 0 4 0 (s11_4 (Dt.L x0 5) (List.length (Dt.L x0 5) : Int) 0 x0) (e11 J m [1, 1, 0, 1] []))) (fun J => by kernel_rfl) (by simp only [jj_eq, accum_keysFit_j1_eq m]; rfl)
theorem accum_keysFit_eq m a0 : e11 jn m [] [] ⟨[(.dat 29 a0)], [], 0⟩ = accum_keysFit (m + 1) a0 :=
  tre (g := fun J => (bif ((Dt.I a0 0) != 10) then
   some ((List.length (Dt.L a0 5) : Int) == 0)
    else
   (jj J 0 3 0 (s11_5 a0) (e11 J m [1, 1] [])))) (fun J => by kernel_rfl) (by simp only [jj_eq, accum_keysFit_j0_eq m]; rfl)
def w3_0 : List Nat := [1, 1, 0, 1, 0]
def w3_10 : List Nat := [1, 1, 1, 1, 1, 1]
def w3_8 : List Nat := w3_10 ++ [1]
def w3_11 : List Nat := [1, 1, 1, 1, 1, 0, 1]
def w3_3 : List Nat := [1, 1, 0, 1, 0, 0, 1, 1]
def w3_6 : List Nat := w3_8 ++ [1]
def w3_9 : List Nat := w3_10 ++ [0, 1]
def w3_1 : List Nat := w3_3 ++ [1]
def w3_4 : List Nat := w3_6 ++ [1]
def w3_7 : List Nat := w3_8 ++ [0, 1]
def w3_5 : List Nat := w3_6 ++ [0, 1]
def w3_2 : List Nat := w3_3 ++ [0, 0, 1, 1]
noncomputable def e3 (J : Nat → Nat → Nat → St → Option (Dt × Int) → Option (Dt × Int)) (m : Nat) (p ms : List Nat) (σ : St) := evAt Tryz.prog env (ct m) J (m + 1) 10 169 Tryz.f10 d3 p ms σ
noncomputable def l3 (J : Nat → Nat → Nat → St → Option (Dt × Int) → Option (Dt × Int)) (m : Nat) (p ms : List Nat) (M : Nat) (σ : St) := loopAt Tryz.prog env (ct m) J (m + 1) 10 169 Tryz.f10 d3 p ms M σ
noncomputable def s3_6 (x0 : Dt) (x1 : Int) (x2 x3 : Dt) : St := ⟨tsOf [(1, (.ptr 0 [] 0)), (2, (.ptr 1 [] 0)), (34, (.dat 62 x0)), (35, (.dat 3 (.int x1)))], [(.box 25 (.dat 25 x2)), (.box 29 (.dat 29 x3))], 0⟩
noncomputable def s3_5 (x0 : Dt) (x1 : Int) (x2 : Bool) (x3 x4 : Dt) : St := ⟨tsOf [(1, (.ptr 0 [] 0)), (2, (.ptr 1 [] 0)), (34, (.dat 62 x0)), (35, (.dat 3 (.int x1))), (56, (.dat 4 (.bool x2)))], [(.box 25 (.dat 25 x3)), (.box 29 (.dat 29 x4))], 0⟩
noncomputable def s3_15 (x0 x1 : Dt) : St := ⟨tsOf [(2, (.ptr 0 [] 0)), (6, (.ptr 1 [] 0))], [(.box 29 (.dat 29 x0)), (.box 29 (.dat 29 x1))], 0⟩
noncomputable def s3_14 (x0 : Bool) (x1 x2 : Dt) : St := ⟨tsOf [(2, (.ptr 0 [] 0)), (6, (.ptr 1 [] 0)), (166, (.dat 4 (.bool x0)))], [(.box 29 (.dat 29 x1)), (.box 29 (.dat 29 x2))], 0⟩
noncomputable def s3_13 (x0 : List Dt) (x1 x2 : Dt) : St := ⟨tsOf [(2, (.ptr 0 [] 0)), (6, (.ptr 1 [] 0)), (7, (.dat 23 (.lst x0)))], [(.box 29 (.dat 29 x1)), (.box 29 (.dat 29 x2))], 0⟩
noncomputable def s3_12 (x0 : List Dt) (x1 : Bool) (x2 x3 : Dt) : St := ⟨tsOf [(2, (.ptr 0 [] 0)), (6, (.ptr 1 [] 0)), (7, (.dat 23 (.lst x0))), (149, (.dat 4 (.bool x1)))], [(.box 29 (.dat 29 x2)), (.box 29 (.dat 29 x3))], 0⟩
noncomputable def s3_10 (x0 : List Dt) (x1 : Bool) (x2 x3 : Dt) : St := ⟨tsOf [(2, (.ptr 0 [] 0)), (6, (.ptr 1 [] 0)), (7, (.dat 23 (.lst x0))), (123, (.dat 4 (.bool x1)))], [(.box 29 (.dat 29 x2)), (.box 29 (.dat 29 x3))], 0⟩
noncomputable def s3_8 (x0 : List Dt) (x1 : Bool) (x2 x3 : Dt) : St := ⟨tsOf [(2, (.ptr 0 [] 0)), (6, (.ptr 1 [] 0)), (7, (.dat 23 (.lst x0))), (98, (.dat 4 (.bool x1)))], [(.box 29 (.dat 29 x2)), (.box 29 (.dat 29 x3))], 0⟩
noncomputable def s3_7 (x0 x1 : Dt) : St := ⟨tsOf [(1, (.ptr 0 [] 0)), (2, (.ptr 1 [] 0))], [(.box 25 (.dat 25 x0)), (.box 29 (.dat 29 x1))], 0⟩
noncomputable def s3_0 (x0 : Bool) (x1 x2 : Dt) : St := ⟨tsOf [(1, (.ptr 0 [] 0)), (2, (.ptr 1 [] 0)), (32, (.dat 4 (.bool x0)))], [(.box 25 (.dat 25 x1)), (.box 29 (.dat 29 x2))], 0⟩
abbrev H3_3 (m M3 : Nat) (rec3 : Dt → Int → Dt → Dt → Option (Dt × Int)) : Prop := ∀ x0 x1 x2 x3, l3 jn m w3_0 [] M3 (s3_6 x0 x1 x2 x3) = rec3 x0 x1 x2 x3
theorem accum_Unpack_j6_eq m M3 rec3 (h3 : H3_3 m M3 rec3) x0 x1 x2 x3 : e3 jn m w3_1 [M3] (s3_6 x0 x1 x2 x3) = accum_Unpack_j6 m rec3 x0 x1 x2 x3 :=
  tre (g := fun J => (jj J 1 4 M3 (s3_6 x0 (IntKind.wrap .i64 (x1 + 1)) x2 x3) (l3 J m w3_0 [] M3))) (fun J => by kernel_rfl) (by simp only [jj_eq, h3]; rfl)
theorem accum_Unpack_j5_eq m M3 rec3 (h3 : H3_3 m M3 rec3) x0 x1 x2 x3 x4 : e3 jn m w3_2 [M3] (s3_5 x0 x1 x2 x3 x4) = accum_Unpack_j5 m rec3 x0 x1 x2 x3 x4 :=
  tre (g := fun J => (bif x2 then
   some (kzc575d, 4)
    else
   (jj J 0 8 0 (s3_6 x0 x1 x3 x4) (e3 J m w3_1 [M3])))) (fun J => by kernel_rfl) (by simp only [jj_eq, accum_Unpack_j6_eq m M3 rec3 h3]; rfl)
theorem accum_Unpack_j4_eq m M3 rec3 (h3 : H3_3 m M3 rec3) x0 x1 x2 x3 : e3 jn m w3_3 [M3] (s3_6 x0 x1 x2 x3) = accum_Unpack_j4 m rec3 x0 x1 x2 x3 :=
  tre (g := fun J => ((idx (Dt.toLst x0) x1).bind fun v0 =>
   ((idx (Dt.L x2 4) x1).bind fun v1 =>
   (bif (Bool.not ((ByteArray.toList (Dt.S v1 0)) == (ByteArray.toList (Dt.toStr v0)))) then
   (jj J 0 7 0 (s3_5 x0 x1 true x2 x3) (e3 J m w3_2 [M3]))
   else
   ((idx (Dt.L x2 4) x1).bind fun v2 =>
   ((accum_isInteger m (Dt.fld v2 1)).bind fun r3 =>
   (jj J 0 7 0 (s3_5 x0 x1 (Bool.not r3) x2 x3) (e3 J m w3_2 [M3])))))))) (fun J => by kernel_rfl) (by simp only [jj_eq, accum_Unpack_j5_eq m M3 rec3 h3]; rfl)
theorem accum_Unpack_j15_eq m x0 x1 : e3 jn m w3_4 [] (s3_15 x0 x1) = accum_Unpack_j15 m x0 x1 :=
  tre (g := fun J => some (x1, 0)) (fun J => by kernel_rfl) (by rfl)
theorem accum_Unpack_j14_eq m x0 x1 x2 : e3 jn m w3_5 [] (s3_14 x0 x1 x2) = accum_Unpack_j14 m x0 x1 x2 :=
  tre (g := fun J => (bif x0 then
   some (kzc575d, 4)
    else
   (jj J 0 22 0 (s3_15 x1 x2) (e3 J m w3_4 [])))) (fun J => by kernel_rfl) (by simp only [jj_eq, accum_Unpack_j15_eq m]; rfl)
theorem accum_Unpack_j13_eq m x0 x1 x2 : e3 jn m w3_6 [] (s3_13 x0 x1 x2) = accum_Unpack_j13 m x0 x1 x2 :=
  tre (g := fun J => (bif (decide (0 < (List.length x0 : Int))) then
   (jj J 0 21 0 (s3_14 true x1 x2) (e3 J m w3_5 []))
    else
   ((accum_keysFit m x2).bind fun r25 =>
   (jj J 0 21 0 (s3_14 (Bool.not r25) x1 x2) (e3 J m w3_5 []))))) (fun J => by kernel_rfl) (by simp only [jj_eq, accum_Unpack_j14_eq m]; rfl)
theorem accum_Unpack_j12_eq m x0 x1 x2 x3 : e3 jn m w3_7 [] (s3_12 x0 x1 x2 x3) = accum_Unpack_j12 m x0 x1 x2 x3 :=
  tre (g := fun J => (bif x1 then
   ((idx x0 0).bind fun v22 =>
   ((accum_copyList m (Dt.L (Dt.fld v22 1) 3)).bind fun r23 =>
   ((cutL x0 1 (List.length x0 : Int)).bind fun v24 =>
   (jj J 0 20 0 (s3_13 v24 x2 (Dt.agg [(Dt.int (Dt.I x3 0)), (Dt.int (Dt.I x3 1)), (Dt.int (Dt.I x3 2)), (Dt.fld x3 3), (Dt.lst (Dt.L x3 4)), (Dt.lst r23)])) (e3 J m w3_6 [])))))
    else
   (jj J 0 20 0 (s3_13 x0 x2 x3) (e3 J m w3_6 [])))) (fun J => by kernel_rfl) (by simp only [jj_eq, accum_Unpack_j13_eq m]; rfl)
theorem accum_Unpack_j11_eq m x0 x1 x2 : e3 jn m w3_8 [] (s3_13 x0 x1 x2) = accum_Unpack_j11 m x0 x1 x2 :=
  tre (g := fun J => (bif (decide (0 < (List.length x0 : Int))) then
   ((idx x0 0).bind fun v19 =>
   (bif ((ByteArray.toList (Dt.S v19 0)) == [107, 101, 121, 115]) then
   ((idx x0 0).bind fun v20 =>
   ((accum_isList m (Dt.fld v20 1)).bind fun r21 =>
   (jj J 0 18 0 (s3_12 x0 r21 x1 x2) (e3 J m w3_7 []))))
   else
   (jj J 0 18 0 (s3_12 x0 false x1 x2) (e3 J m w3_7 []))))
    else
   (jj J 0 18 0 (s3_12 x0 false x1 x2) (e3 J m w3_7 [])))) (fun J => by kernel_rfl) (by simp only [jj_eq, accum_Unpack_j12_eq m]; rfl)
theorem accum_Unpack_j10_eq m x0 x1 x2 x3 : e3 jn m w3_9 [] (s3_10 x0 x1 x2 x3) = accum_Unpack_j10 m x0 x1 x2 x3 :=
  tre (g := fun J => (bif x1 then
   ((idx x0 0).bind fun v16 =>
   ((accum_copyList m (Dt.L (Dt.fld v16 1) 3)).bind fun r17 =>
   ((cutL x0 1 (List.length x0 : Int)).bind fun v18 =>
   (jj J 0 17 0 (s3_13 v18 x2 (Dt.agg [(Dt.int (Dt.I x3 0)), (Dt.int (Dt.I x3 1)), (Dt.int (Dt.I x3 2)), (Dt.fld x3 3), (Dt.lst r17), (Dt.lst (Dt.L x3 5))])) (e3 J m w3_8 [])))))
    else
   (jj J 0 17 0 (s3_13 x0 x2 x3) (e3 J m w3_8 [])))) (fun J => by kernel_rfl) (by simp only [jj_eq, accum_Unpack_j11_eq m]; rfl)
theorem accum_Unpack_j9_eq m x0 x1 x2 : e3 jn m w3_10 [] (s3_13 x0 x1 x2) = accum_Unpack_j9 m x0 x1 x2 :=
  tre (g := fun J => (bif (decide (0 < (List.length x0 : Int))) then
   ((idx x0 0).bind fun v13 =>
   (bif ((ByteArray.toList (Dt.S v13 0)) == [108, 105, 115, 116]) then
   ((idx x0 0).bind fun v14 =>
   ((accum_isList m (Dt.fld v14 1)).bind fun r15 =>
   (jj J 0 15 0 (s3_10 x0 r15 x1 x2) (e3 J m w3_9 []))))
   else
   (jj J 0 15 0 (s3_10 x0 false x1 x2) (e3 J m w3_9 []))))
    else
   (jj J 0 15 0 (s3_10 x0 false x1 x2) (e3 J m w3_9 [])))) (fun J => by kernel_rfl) (by simp only [jj_eq, accum_Unpack_j10_eq m]; rfl)
theorem accum_Unpack_j8_eq m x0 x1 x2 x3 : e3 jn m w3_11 [] (s3_8 x0 x1 x2 x3) = accum_Unpack_j8 m x0 x1 x2 x3 :=
  tre (g := fun J => (bif x1 then
   ((idx x0 0).bind fun v10 =>
   ((accum_copyValue m (Dt.fld v10 1)).bind fun r11 =>
   ((cutL x0 1 (List.length x0 : Int)).bind fun v12 =>
   (jj J 0 14 0 (s3_13 v12 x2 (Dt.agg [(Dt.int (Dt.I x3 0)), (Dt.int (Dt.I x3 1)), (Dt.int (Dt.I x3 2)), r11, (Dt.lst (Dt.L x3 4)), (Dt.lst (Dt.L x3 5))])) (e3 J m w3_10 [])))))
    else
   (jj J 0 14 0 (s3_13 x0 x2 x3) (e3 J m w3_10 [])))) (fun J => by kernel_rfl) (by simp only [jj_eq, accum_Unpack_j9_eq m]; rfl)
theorem accum_Unpack_j7_eq m x0 x1 : e3 jn m [1, 1, 1] [] (s3_7 x0 x1) = accum_Unpack_j7 m x0 x1 :=
  tre (g := fun J => ((idx (Dt.L x0 4) 0).bind fun v4 =>
   ((idx (Dt.L x0 4) 1).bind fun v5 =>
   ((idx (Dt.L x0 4) 2).bind fun v6 =>
   ((cutL (Dt.L x0 4) 3 (List.length (Dt.L x0 4) : Int)).bind fun v7 =>
   (bif (decide (0 < (List.length v7 : Int))) then
   ((idx v7 0).bind fun v8 =>
   (bif ((ByteArray.toList (Dt.S v8 0)) == [118, 97, 108, 117, 101]) then
   ((idx v7 0).bind fun v9 =>
   (jj J 0 12 0 (s3_8 v7 ((Dt.I (Dt.fld v9 1) 0) != 0) x1 (Dt.agg [(Dt.int (Dt.I (Dt.fld v4 1) 1)), (Dt.int (Dt.I (Dt.fld v5 1) 1)), (Dt.int (Dt.I (Dt.fld v6 1) 1)), kza2373, (Dt.lst []), (Dt.lst [])])) (e3 J m w3_11 [])))
   else
   (jj J 0 12 0 (s3_8 v7 false x1 (Dt.agg [(Dt.int (Dt.I (Dt.fld v4 1) 1)), (Dt.int (Dt.I (Dt.fld v5 1) 1)), (Dt.int (Dt.I (Dt.fld v6 1) 1)), kza2373, (Dt.lst []), (Dt.lst [])])) (e3 J m w3_11 []))))
   else
   (jj J 0 12 0 (s3_8 v7 false x1 (Dt.agg [(Dt.int (Dt.I (Dt.fld v4 1) 1)), (Dt.int (Dt.I (Dt.fld v5 1) 1)), (Dt.int (Dt.I (Dt.fld v6 1) 1)), kza2373, (Dt.lst []), (Dt.lst [])])) (e3 J m w3_11 [])))))))) (fun J => by kernel_rfl) (by simp only [jj_eq, accum_Unpack_j8_eq m]; rfl)
theorem accum_Unpack_l3_eq m : ∀ M3 x0 x1 x2 x3, l3 jn m w3_0 [] M3 (s3_6 x0 x1 x2 x3) = accum_Unpack_l3 m M3 x0 x1 x2 x3
  | 0, _, _, _, _ => rfl
  | M3 + 1, x0, x1, x2, x3 =>
    trl (g := fun J => (bif (decide (x1 < 3)) then
   (jj J 0 5 0 (s3_6 x0 x1 x2 x3) (e3 J m w3_3 [M3]))
    else
   (jj J 0 9 0 (s3_7 x2 x3) (e3 J m [1, 1, 1] [])))) (fun J => by kernel_rfl) (by simp only [jj_eq, accum_Unpack_j4_eq m M3 (accum_Unpack_l3 m M3) (accum_Unpack_l3_eq m M3), accum_Unpack_j7_eq m]; rfl)
theorem accum_Unpack_j2_eq m x0 x1 x2 x3 : e3 jn m [1, 1, 0, 1] [] (s3_6 x0 x1 x2 x3) = accum_Unpack_j2 m x0 x1 x2 x3 :=
  tre (g := fun J => (jj J 1 4 (Nat.succ m) (s3_6 x0 x1 x2 x3) (l3 J m w3_0 [] (Nat.succ m)))) (fun J => by kernel_rfl) (by simp only [jj_eq, accum_Unpack_l3_eq m]; rfl)
theorem accum_Unpack_j1_eq m x0 x1 : e3 jn m [1, 1] [] (s3_7 x0 x1) = accum_Unpack_j1 m x0 x1 :=
  tre (g := fun J => (jj J 0 4 0 (s3_6 (Dt.lst [(Dt.str (ByteArray.mk (List.toArray [111, 112]))), (Dt.str (ByteArray.mk (List.toArray [115, 117, 109]))), (Dt.str (ByteArray.mk (List.toArray [99, 111, 117, 110, 116])))]) 0 x0 x1) (e3 J m [1, 1, 0, 1] []))) (fun J => by kernel_rfl) (by simp only [jj_eq, accum_Unpack_j2_eq m]; rfl)
theorem accum_Unpack_j0_eq m x0 x1 x2 : e3 jn m [1, 0, 1] [] (s3_0 x0 x1 x2) = accum_Unpack_j0 m x0 x1 x2 :=
  tre (g := fun J => (bif x0 then
   some (kzc575d, 4)
    else
   (jj J 0 3 0 (s3_7 x1 x2) (e3 J m [1, 1] [])))) (fun J => by kernel_rfl) (by simp only [jj_eq, accum_Unpack_j1_eq m]; rfl)
theorem accum_Unpack_eq m a0 : e3 jn m [] [] ⟨[(.dat 25 a0)], [], 0⟩ = accum_Unpack (m + 1) a0 :=
  tre (g := fun J => (bif ((Dt.I a0 0) != 5) then
   (jj J 0 2 0 (s3_0 true a0 kzc575d) (e3 J m [1, 0, 1] []))
    else
   (bif ((Dt.I a0 1) != 0) then
   (jj J 0 2 0 (s3_0 true a0 kzc575d) (e3 J m [1, 0, 1] []))
   else
   (bif (Bool.not ((ByteArray.toList (Dt.S a0 2)) == [])) then
   (jj J 0 2 0 (s3_0 true a0 kzc575d) (e3 J m [1, 0, 1] []))
   else
   (bif (decide (0 < (List.length (Dt.L a0 3) : Int))) then
   (jj J 0 2 0 (s3_0 true a0 kzc575d) (e3 J m [1, 0, 1] []))
   else
   (jj J 0 2 0 (s3_0 (decide ((List.length (Dt.L a0 4) : Int) < 3)) a0 kzc575d) (e3 J m [1, 0, 1] []))))))) (fun J => by kernel_rfl) (by simp only [jj_eq, accum_Unpack_j0_eq m]; rfl)
def w13_0 : List Nat := [1, 1, 0, 1, 0]
def w13_7 : List Nat := [1, 1, 1, 0, 1]
def w13_3 : List Nat := [1, 1, 1, 0, 1, 0]
def w13_2 : List Nat := [1, 1, 0, 1, 0, 0, 1]
def w13_1 : List Nat := w13_2 ++ [1]
def w13_6 : List Nat := w13_3 ++ [0, 1]
def w13_4 : List Nat := w13_6 ++ [1]
def w13_5 : List Nat := w13_6 ++ [0, 0, 1]
noncomputable def e13 (J : Nat → Nat → Nat → St → Option Bool → Option Bool) (m : Nat) (p ms : List Nat) (σ : St) := evAt Tryz.prog env (ct m) J (m + 1) 20 99 Tryz.f20 d1 p ms σ
noncomputable def l13 (J : Nat → Nat → Nat → St → Option Bool → Option Bool) (m : Nat) (p ms : List Nat) (M : Nat) (σ : St) := loopAt Tryz.prog env (ct m) J (m + 1) 20 99 Tryz.f20 d1 p ms M σ
noncomputable def s13_5 (x0 : Int) (x1 x2 : Dt) : St := ⟨tsOf [(2, (.ptr 0 [] 0)), (3, (.ptr 1 [] 0)), (5, (.dat 3 (.int x0)))], [(.box 25 (.dat 25 x1)), (.box 25 (.dat 25 x2))], 0⟩
noncomputable def s13_11 (x0 : Int) (x1 x2 : Dt) : St := ⟨tsOf [(2, (.ptr 0 [] 0)), (3, (.ptr 1 [] 0)), (6, (.dat 3 (.int x0)))], [(.box 25 (.dat 25 x1)), (.box 25 (.dat 25 x2))], 0⟩
noncomputable def s13_10 (x0 : Int) (x1 : Bool) (x2 x3 : Dt) : St := ⟨tsOf [(2, (.ptr 0 [] 0)), (3, (.ptr 1 [] 0)), (6, (.dat 3 (.int x0))), (98, (.dat 4 (.bool x1)))], [(.box 25 (.dat 25 x2)), (.box 25 (.dat 25 x3))], 0⟩
noncomputable def s13_12 : St := ⟨tsOf [], [], 0⟩
noncomputable def s13_6 (x0 x1 : Dt) : St := ⟨tsOf [(2, (.ptr 0 [] 0)), (3, (.ptr 1 [] 0))], [(.box 25 (.dat 25 x0)), (.box 25 (.dat 25 x1))], 0⟩
noncomputable def s13_0 (x0 : Bool) (x1 x2 : Dt) : St := ⟨tsOf [(2, (.ptr 0 [] 0)), (3, (.ptr 1 [] 0)), (43, (.dat 4 (.bool x0)))], [(.box 25 (.dat 25 x1)), (.box 25 (.dat 25 x2))], 0⟩
abbrev H13_3 (m M3 : Nat) (rec3 : Int → Dt → Dt → Option Bool) : Prop := ∀ x0 x1 x2, l13 jn m w13_0 [] M3 (s13_5 x0 x1 x2) = rec3 x0 x1 x2
theorem ref01_Same_j5_eq m M3 rec3 (h3 : H13_3 m M3 rec3) x0 x1 x2 : e13 jn m w13_1 [M3] (s13_5 x0 x1 x2) = ref01_Same_j5 m (ref01_Same m) rec3 x0 x1 x2 :=
  tre (g := fun J => (jj J 1 4 M3 (s13_5 (IntKind.wrap .i64 (x0 + 1)) x1 x2) (l13 J m w13_0 [] M3))) (fun J => by kernel_rfl) (by simp only [jj_eq, h3]; rfl)
theorem ref01_Same_j4_eq m M3 rec3 (h3 : H13_3 m M3 rec3) x0 x1 x2 : e13 jn m w13_2 [M3] (s13_5 x0 x1 x2) = ref01_Same_j4 m (ref01_Same m) rec3 x0 x1 x2 :=
  tre (g := fun J => ((idx (Dt.L x1 3) x0).bind fun v0 =>
   ((idx (Dt.L x2 3) x0).bind fun v1 =>
   ((ref01_Same m v0 v1).bind fun r2 =>
   (bif (Bool.not r2) then
   some false
   else
   (jj J 0 5 0 (s13_5 x0 x1 x2) (e13 J m w13_1 [M3]))))))) (fun J => by kernel_rfl) (by simp only [jj_eq, ref01_Same_j5_eq m M3 rec3 h3]; rfl)
abbrev H13_8 (m M8 : Nat) (rec8 : Int → Dt → Dt → Option Bool) : Prop := ∀ x0 x1 x2, l13 jn m w13_3 [] M8 (s13_11 x0 x1 x2) = rec8 x0 x1 x2
theorem ref01_Same_j11_eq m M8 rec8 (h8 : H13_8 m M8 rec8) x0 x1 x2 : e13 jn m w13_4 [M8] (s13_11 x0 x1 x2) = ref01_Same_j11 m (ref01_Same m) rec8 x0 x1 x2 :=
  tre (g := fun J => (jj J 1 9 M8 (s13_11 (IntKind.wrap .i64 (x0 + 1)) x1 x2) (l13 J m w13_3 [] M8))) (fun J => by kernel_rfl) (by simp only [jj_eq, h8]; rfl)
theorem ref01_Same_j10_eq m M8 rec8 (h8 : H13_8 m M8 rec8) x0 x1 x2 x3 : e13 jn m w13_5 [M8] (s13_10 x0 x1 x2 x3) = ref01_Same_j10 m (ref01_Same m) rec8 x0 x1 x2 x3 :=
  tre (g := fun J => (bif x1 then
   some false
    else
   (jj J 0 10 0 (s13_11 x0 x2 x3) (e13 J m w13_4 [M8])))) (fun J => by kernel_rfl) (by simp only [jj_eq, ref01_Same_j11_eq m M8 rec8 h8]; rfl)
theorem ref01_Same_j9_eq m M8 rec8 (h8 : H13_8 m M8 rec8) x0 x1 x2 : e13 jn m w13_6 [M8] (s13_11 x0 x1 x2) = ref01_Same_j9 m (ref01_Same m) rec8 x0 x1 x2 :=
  tre (g := fun J => ((idx (Dt.L x1 4) x0).bind fun v3 =>
   ((idx (Dt.L x2 4) x0).bind fun v4 =>
   (bif (Bool.not ((ByteArray.toList (Dt.S v3 0)) == (ByteArray.toList (Dt.S v4 0)))) then
   (jj J 0 12 0 (s13_10 x0 true x1 x2) (e13 J m w13_5 [M8]))
   else
   ((idx (Dt.L x1 4) x0).bind fun v5 =>
   ((idx (Dt.L x2 4) x0).bind fun v6 =>
   ((ref01_Same m (Dt.fld v5 1) (Dt.fld v6 1)).bind fun r7 =>
   (jj J 0 12 0 (s13_10 x0 (Bool.not r7) x1 x2) (e13 J m w13_5 [M8]))))))))) (fun J => by kernel_rfl) (by simp only [jj_eq, ref01_Same_j10_eq m M8 rec8 h8]; rfl)
theorem ref01_Same_j12_eq m : e13 jn m [1, 1, 1, 1] [] s13_12 = ref01_Same_j12 m (ref01_Same m) :=
  tre (g := fun J => some true) (fun J => by kernel_rfl) (by rfl)
theorem ref01_Same_l8_eq m : ∀ M8 x0 x1 x2, l13 jn m w13_3 [] M8 (s13_11 x0 x1 x2) = ref01_Same_l8 m (ref01_Same m) M8 x0 x1 x2
  | 0, _, _, _ => rfl
  | M8 + 1, x0, x1, x2 =>
    trl (g := fun J => (bif (decide (x0 < (List.length (Dt.L x1 4) : Int))) then
   (jj J 0 11 0 (s13_11 x0 x1 x2) (e13 J m w13_6 [M8]))
    else
   (jj J 0 13 0 s13_12 (e13 J m [1, 1, 1, 1] [])))) (fun J => by kernel_rfl) (by simp only [jj_eq, ref01_Same_j9_eq m M8 (ref01_Same_l8 m (ref01_Same m) M8) (ref01_Same_l8_eq m M8), ref01_Same_j12_eq m]; rfl)
theorem ref01_Same_j7_eq m x0 x1 x2 : e13 jn m w13_7 [] (s13_11 x0 x1 x2) = ref01_Same_j7 m (ref01_Same m) x0 x1 x2 :=
  tre (g := fun J => (jj J 1 9 (Nat.succ m) (s13_11 x0 x1 x2) (l13 J m w13_3 [] (Nat.succ m)))) (fun J => by kernel_rfl) (by simp only [jj_eq, ref01_Same_l8_eq m]; rfl)
theorem ref01_Same_j6_eq m x0 x1 : e13 jn m [1, 1, 1] [] (s13_6 x0 x1) = ref01_Same_j6 m (ref01_Same m) x0 x1 :=
  tre (g := fun J => (jj J 0 9 0 (s13_11 0 x0 x1) (e13 J m w13_7 []))) (fun J => by kernel_rfl) (by simp only [jj_eq, ref01_Same_j7_eq m]; rfl)
theorem ref01_Same_l3_eq m : ∀ M3 x0 x1 x2, l13 jn m w13_0 [] M3 (s13_5 x0 x1 x2) = ref01_Same_l3 m (ref01_Same m) M3 x0 x1 x2
  | 0, _, _, _ => rfl
  | M3 + 1, x0, x1, x2 =>
    trl (g := fun J => (bif (decide (x0 < (List.length (Dt.L x1 3) : Int))) then
   (jj J 0 6 0 (s13_5 x0 x1 x2) (e13 J m w13_2 [M3]))
    else
   (jj J 0 8 0 (s13_6 x1 x2) (e13 J m [1, 1, 1] [])))) (fun J => by kernel_rfl) (by simp only [jj_eq, ref01_Same_j4_eq m M3 (ref01_Same_l3 m (ref01_Same m) M3) (ref01_Same_l3_eq m M3), ref01_Same_j6_eq m]; rfl)
theorem ref01_Same_j2_eq m x0 x1 x2 : e13 jn m [1, 1, 0, 1] [] (s13_5 x0 x1 x2) = ref01_Same_j2 m (ref01_Same m) x0 x1 x2 :=
  tre (g := fun J => (jj J 1 4 (Nat.succ m) (s13_5 x0 x1 x2) (l13 J m w13_0 [] (Nat.succ m)))) (fun J => by kernel_rfl) (by simp only [jj_eq, ref01_Same_l3_eq m]; rfl)
theorem ref01_Same_j1_eq m x0 x1 : e13 jn m [1, 1] [] (s13_6 x0 x1) = ref01_Same_j1 m (ref01_Same m) x0 x1 :=
  tre (g := fun J => (jj J 0 4 0 (s13_5 0 x0 x1) (e13 J m [1, 1, 0, 1] []))) (fun J => by kernel_rfl) (by simp only [jj_eq, ref01_Same_j2_eq m]; rfl)
theorem ref01_Same_j0_eq m x0 x1 x2 : e13 jn m [1, 0, 1] [] (s13_0 x0 x1 x2) = ref01_Same_j0 m (ref01_Same m) x0 x1 x2 :=
  tre (g := fun J => (bif x0 then
   some false
    else
   (jj J 0 3 0 (s13_6 x1 x2) (e13 J m [1, 1] [])))) (fun J => by kernel_rfl) (by simp only [jj_eq, ref01_Same_j1_eq m]; rfl)
theorem ref01_Same_eq m a0 a1 : e13 jn m [] [] ⟨[(.dat 25 a0), (.dat 25 a1)], [], 0⟩ = ref01_Same (m + 1) a0 a1 :=
  tre (g := fun J => (bif ((Dt.I a0 0) != (Dt.I a1 0)) then
   (jj J 0 2 0 (s13_0 true a0 a1) (e13 J m [1, 0, 1] []))
    else
   (bif ((Dt.I a0 1) != (Dt.I a1 1)) then
   (jj J 0 2 0 (s13_0 true a0 a1) (e13 J m [1, 0, 1] []))
   else
   (bif (Bool.not ((ByteArray.toList (Dt.S a0 2)) == (ByteArray.toList (Dt.S a1 2)))) then
   (jj J 0 2 0 (s13_0 true a0 a1) (e13 J m [1, 0, 1] []))
   else
   (bif ((List.length (Dt.L a0 3) : Int) != (List.length (Dt.L a1 3) : Int)) then
   (jj J 0 2 0 (s13_0 true a0 a1) (e13 J m [1, 0, 1] []))
   else
   (jj J 0 2 0 (s13_0 ((List.length (Dt.L a0 4) : Int) != (List.length (Dt.L a1 4) : Int)) a0 a1) (e13 J m [1, 0, 1] []))))))) (fun J => by kernel_rfl) (by simp only [jj_eq, ref01_Same_j0_eq m]; rfl)
noncomputable def e14 (J : Nat → Nat → Nat → St → Option Bool → Option Bool) (m : Nat) (p ms : List Nat) (σ : St) := evAt Tryz.prog env (ct m) J (m + 1) 30 10 Tryz.f30 d1 p ms σ
noncomputable def l14 (J : Nat → Nat → Nat → St → Option Bool → Option Bool) (m : Nat) (p ms : List Nat) (M : Nat) (σ : St) := loopAt Tryz.prog env (ct m) J (m + 1) 30 10 Tryz.f30 d1 p ms M σ
theorem ref01_SameList_eq m a0 a1 : e14 jn m [] [] ⟨[(.dat 22 (.lst a0)), (.dat 22 (.lst a1))], [], 0⟩ = ref01_SameList (m + 1) a0 a1 :=
  tre (g := fun J => ((ref01_Same m (Dt.agg [(Dt.int 6), (Dt.int 0), (Dt.str (ByteArray.mk (List.toArray []))), (Dt.lst a0), (Dt.lst [])]) (Dt.agg [(Dt.int 6), (Dt.int 0), (Dt.str (ByteArray.mk (List.toArray []))), (Dt.lst a1), (Dt.lst [])])).bind fun r0 =>
   some r0)) (fun J => by kernel_rfl) (by rfl)
noncomputable def e5 (J : Nat → Nat → Nat → St → Option Bool → Option Bool) (m : Nat) (p ms : List Nat) (σ : St) := evAt Tryz.prog env (ct m) J (m + 1) 12 45 Tryz.f12 d1 p ms σ
noncomputable def l5 (J : Nat → Nat → Nat → St → Option Bool → Option Bool) (m : Nat) (p ms : List Nat) (M : Nat) (σ : St) := loopAt Tryz.prog env (ct m) J (m + 1) 12 45 Tryz.f12 d1 p ms M σ
theorem ref32_Same_eq m a0 a1 : e5 jn m [] [] ⟨[(.dat 29 a0), (.dat 29 a1)], [], 0⟩ = ref32_Same (m + 1) a0 a1 :=
  tre (g := fun J => (bif ((Dt.I a0 0) == (Dt.I a1 0)) then
   (bif ((Dt.I a0 1) == (Dt.I a1 1)) then
   (bif ((Dt.I a0 2) == (Dt.I a1 2)) then
   ((ref01_Same m (Dt.fld a0 3) (Dt.fld a1 3)).bind fun r0 =>
   (bif r0 then
   ((ref01_SameList m (Dt.L a0 4) (Dt.L a1 4)).bind fun r1 =>
   (bif r1 then
   ((ref01_SameList m (Dt.L a0 5) (Dt.L a1 5)).bind fun r2 =>
   some r2)
   else
   some false))
   else
   some false))
   else
   some false)
   else
   some false)
    else
   some false)) (fun J => by kernel_rfl) (by rfl)
noncomputable def e15 (J : Nat → Nat → Nat → St → Option Dt → Option Dt) (m : Nat) (p ms : List Nat) (σ : St) := evAt Tryz.prog env (ct m) J (m + 1) 23 5 Tryz.f23 d8 p ms σ
noncomputable def l15 (J : Nat → Nat → Nat → St → Option Dt → Option Dt) (m : Nat) (p ms : List Nat) (M : Nat) (σ : St) := loopAt Tryz.prog env (ct m) J (m + 1) 23 5 Tryz.f23 d8 p ms M σ
theorem ref01_Int_eq m a0 : e15 jn m [] [] ⟨[(.dat 3 (.int a0))], [], 0⟩ = ref01_Int (m + 1) a0 :=
  tre (g := fun J => some (Dt.agg [(Dt.int 3), (Dt.int a0), (Dt.str (ByteArray.mk (List.toArray []))), (Dt.lst []), (Dt.lst [])])) (fun J => by kernel_rfl) (by rfl)
noncomputable def e16 (J : Nat → Nat → Nat → St → Option Dt → Option Dt) (m : Nat) (p ms : List Nat) (σ : St) := evAt Tryz.prog env (ct m) J (m + 1) 39 5 Tryz.f39 d8 p ms σ
noncomputable def l16 (J : Nat → Nat → Nat → St → Option Dt → Option Dt) (m : Nat) (p ms : List Nat) (M : Nat) (σ : St) := loopAt Tryz.prog env (ct m) J (m + 1) 39 5 Tryz.f39 d8 p ms M σ
theorem ref01_List_eq m a0 : e16 jn m [] [] ⟨[(.dat 22 (.lst a0))], [], 0⟩ = ref01_List (m + 1) a0 :=
  tre (g := fun J => some (Dt.agg [(Dt.int 6), (Dt.int 0), (Dt.str (ByteArray.mk (List.toArray []))), (Dt.lst a0), (Dt.lst [])])) (fun J => by kernel_rfl) (by rfl)
def w12_0 : List Nat := [1, 1, 1, 1, 1]
noncomputable def e12 (J : Nat → Nat → Nat → St → Option Dt → Option Dt) (m : Nat) (p ms : List Nat) (σ : St) := evAt Tryz.prog env (ct m) J (m + 1) 29 57 Tryz.f29 d8 p ms σ
noncomputable def l12 (J : Nat → Nat → Nat → St → Option Dt → Option Dt) (m : Nat) (p ms : List Nat) (M : Nat) (σ : St) := loopAt Tryz.prog env (ct m) J (m + 1) 29 57 Tryz.f29 d8 p ms M σ
noncomputable def s12_2 (x0 : Dt) (x1 x2 : Int) (x3 : ByteArray) (x4 x5 : List Dt) : St := ⟨tsOf [(2, (.ptr 0 [] 0)), (3, (.ptr 1 [] 0))], [(.box 25 (.dat 25 x0)), (.box 25 (.agg 25 [(.dat 3 (.int x1)), (.dat 3 (.int x2)), (.dat 9 (.str x3)), (.row 2), (.row 3)])), (.row 22 x4), (.row 23 x5)], 0⟩
noncomputable def s12_1 (x0 x1 : Dt) (x2 x3 : Int) (x4 : ByteArray) (x5 x6 : List Dt) : St := ⟨tsOf [(1, (.ptr 0 [] 0)), (2, (.ptr 1 [] 0)), (3, (.ptr 2 [] 0))], [(.box 29 (.dat 29 x0)), (.box 25 (.dat 25 x1)), (.box 25 (.agg 25 [(.dat 3 (.int x2)), (.dat 3 (.int x3)), (.dat 9 (.str x4)), (.row 3), (.row 4)])), (.row 22 x5), (.row 23 x6)], 0⟩
theorem ref32_Pack_j2_eq m x0 x1 x2 x3 x4 x5 : e12 jn m w12_0 [] (s12_2 x0 x1 x2 x3 x4 x5) = ref32_Pack_j2 m x0 x1 x2 x3 x4 x5 :=
  tre (g := fun J => some (Dt.agg [(Dt.int x1), (Dt.int x2), (Dt.str x3), (Dt.lst x4), (Dt.lst x5)])) (fun J => by kernel_rfl) (by rfl)
theorem ref32_Pack_j1_eq m x0 x1 x2 x3 x4 x5 x6 : e12 jn m [1, 1, 1, 1] [] (s12_1 x0 x1 x2 x3 x4 x5 x6) = ref32_Pack_j1 m x0 x1 x2 x3 x4 x5 x6 :=
  tre (g := fun J => (bif (decide (0 < (List.length (Dt.L x0 5) : Int))) then
   ((ref01_List m (Dt.L x0 5)).bind fun r5 =>
   ((app x6 [(Dt.agg [(Dt.str (ByteArray.mk (List.toArray [107, 101, 121, 115]))), r5])]).bind fun v6 =>
   (jj J 0 8 0 (s12_2 x1 x2 x3 x4 x5 v6) (e12 J m w12_0 []))))
    else
   (jj J 0 8 0 (s12_2 x1 x2 x3 x4 x5 x6) (e12 J m w12_0 [])))) (fun J => by kernel_rfl) (by simp only [jj_eq, ref32_Pack_j2_eq m]; rfl)
theorem ref32_Pack_j0_eq m x0 x1 x2 x3 x4 x5 x6 : e12 jn m [1, 1, 1] [] (s12_1 x0 x1 x2 x3 x4 x5 x6) = ref32_Pack_j0 m x0 x1 x2 x3 x4 x5 x6 :=
  tre (g := fun J => (bif (decide (0 < (List.length (Dt.L x0 4) : Int))) then
   ((ref01_List m (Dt.L x0 4)).bind fun r3 =>
   ((app x6 [(Dt.agg [(Dt.str (ByteArray.mk (List.toArray [108, 105, 115, 116]))), r3])]).bind fun v4 =>
   (jj J 0 6 0 (s12_1 x0 x1 x2 x3 x4 x5 v4) (e12 J m [1, 1, 1, 1] []))))
    else
   (jj J 0 6 0 (s12_1 x0 x1 x2 x3 x4 x5 x6) (e12 J m [1, 1, 1, 1] [])))) (fun J => by kernel_rfl) (by simp only [jj_eq, ref32_Pack_j1_eq m]; rfl)
theorem ref32_Pack_eq m a0 : e12 jn m [] [] ⟨[(.dat 29 a0)], [], 0⟩ = ref32_Pack (m + 1) a0 :=
  tre (g := fun J => ((ref01_Int m (Dt.I a0 0)).bind fun r0 =>
   ((ref01_Int m (Dt.I a0 1)).bind fun r1 =>
   ((ref01_Int m (Dt.I a0 2)).bind fun r2 =>
   (bif ((Dt.I (Dt.fld a0 3) 0) != 0) then
   (jj J 0 4 0 (s12_1 a0 kza2373 5 0 (ByteArray.mk (List.toArray [])) [] [(Dt.agg [(Dt.str (ByteArray.mk (List.toArray [111, 112]))), r0]), (Dt.agg [(Dt.str (ByteArray.mk (List.toArray [115, 117, 109]))), r1]), (Dt.agg [(Dt.str (ByteArray.mk (List.toArray [99, 111, 117, 110, 116]))), r2]), (Dt.agg [(Dt.str (ByteArray.mk (List.toArray [118, 97, 108, 117, 101]))), (Dt.fld a0 3)])]) (e12 J m [1, 1, 1] []))
   else
   (jj J 0 4 0 (s12_1 a0 kza2373 5 0 (ByteArray.mk (List.toArray [])) [] [(Dt.agg [(Dt.str (ByteArray.mk (List.toArray [111, 112]))), r0]), (Dt.agg [(Dt.str (ByteArray.mk (List.toArray [115, 117, 109]))), r1]), (Dt.agg [(Dt.str (ByteArray.mk (List.toArray [99, 111, 117, 110, 116]))), r2])]) (e12 J m [1, 1, 1] []))))))) (fun J => by kernel_rfl) (by simp only [jj_eq, ref32_Pack_j0_eq m]; rfl)
def w4_0 : List Nat := [1, 1, 0, 1, 0]
def w4_7 : List Nat := [1, 1, 1, 1, 1]
def w4_9 : List Nat := [1, 1, 1, 0, 1]
def w4_6 : List Nat := [1, 1, 1, 1, 1, 1]
def w4_8 : List Nat := [1, 1, 1, 1, 0, 1]
def w4_2 : List Nat := [1, 1, 0, 1, 0, 0, 1]
def w4_3 : List Nat := w4_8 ++ [0]
def w4_1 : List Nat := w4_2 ++ [1]
def w4_5 : List Nat := w4_3 ++ [0, 1]
def w4_4 : List Nat := w4_5 ++ [1]
noncomputable def e4 (J : Nat → Nat → Nat → St → Option (Dt × Int) → Option (Dt × Int)) (m : Nat) (p ms : List Nat) (σ : St) := evAt Tryz.prog env (ct m) J (m + 1) 11 102 Tryz.f11 d3 p ms σ
noncomputable def l4 (J : Nat → Nat → Nat → St → Option (Dt × Int) → Option (Dt × Int)) (m : Nat) (p ms : List Nat) (M : Nat) (σ : St) := loopAt Tryz.prog env (ct m) J (m + 1) 11 102 Tryz.f11 d3 p ms M σ
noncomputable def s4_3 (x0 : Int) (x1 x2 x3 : Dt) : St := ⟨tsOf [(1, (.ptr 0 [] 0)), (2, (.ptr 1 [] 0)), (4, (.ptr 2 [] 0)), (5, (.dat 3 (.int x0)))], [(.box 25 (.dat 25 x1)), (.box 29 (.dat 29 x2)), (.box 29 (.dat 29 x3))], 0⟩
noncomputable def s4_10 (x0 : Int) (x1 x2 x3 : Dt) : St := ⟨tsOf [(1, (.ptr 0 [] 0)), (2, (.ptr 1 [] 0)), (4, (.ptr 2 [] 0)), (7, (.dat 3 (.int x0)))], [(.box 25 (.dat 25 x1)), (.box 29 (.dat 29 x2)), (.box 29 (.dat 29 x3))], 0⟩
noncomputable def s4_12 (x0 x1 : Dt) : St := ⟨tsOf [(2, (.ptr 0 [] 0)), (4, (.ptr 1 [] 0))], [(.box 29 (.dat 29 x0)), (.box 29 (.dat 29 x1))], 0⟩
noncomputable def s4_11 (x0 x1 x2 : Dt) : St := ⟨tsOf [(1, (.ptr 0 [] 0)), (2, (.ptr 1 [] 0)), (4, (.ptr 2 [] 0))], [(.box 25 (.dat 25 x0)), (.box 29 (.dat 29 x1)), (.box 29 (.dat 29 x2))], 0⟩
noncomputable def s4_5 (x0 : Bool) (x1 x2 x3 : Dt) : St := ⟨tsOf [(1, (.ptr 0 [] 0)), (2, (.ptr 1 [] 0)), (4, (.ptr 2 [] 0)), (78, (.dat 4 (.bool x0)))], [(.box 25 (.dat 25 x1)), (.box 29 (.dat 29 x2)), (.box 29 (.dat 29 x3))], 0⟩
abbrev H4_1 (m M1 : Nat) (rec1 : Int → Dt → Dt → Dt → Option (Dt × Int)) : Prop := ∀ x0 x1 x2 x3, l4 jn m w4_0 [] M1 (s4_3 x0 x1 x2 x3) = rec1 x0 x1 x2 x3
theorem ref32_Unpack_j3_eq m M1 rec1 (h1 : H4_1 m M1 rec1) x0 x1 x2 x3 : e4 jn m w4_1 [M1] (s4_3 x0 x1 x2 x3) = ref32_Unpack_j3 m rec1 x0 x1 x2 x3 :=
  tre (g := fun J => (jj J 1 3 M1 (s4_3 (IntKind.wrap .i64 (x0 + 1)) x1 x2 x3) (l4 J m w4_0 [] M1))) (fun J => by kernel_rfl) (by simp only [jj_eq, h1]; rfl)
theorem ref32_Unpack_j2_eq m M1 rec1 (h1 : H4_1 m M1 rec1) x0 x1 x2 x3 : e4 jn m w4_2 [M1] (s4_3 x0 x1 x2 x3) = ref32_Unpack_j2 m rec1 x0 x1 x2 x3 :=
  tre (g := fun J => ((idx (Dt.L x1 4) x0).bind fun v0 =>
   ((idx (Dt.L x1 4) x0).bind fun v1 =>
   (bif ((ByteArray.toList (Dt.S v1 0)) == [111, 112]) then
   (jj J 0 4 0 (s4_3 x0 x1 x2 (Dt.agg [(Dt.int (Dt.I (Dt.fld v0 1) 1)), (Dt.int (Dt.I x3 1)), (Dt.int (Dt.I x3 2)), (Dt.fld x3 3), (Dt.lst (Dt.L x3 4)), (Dt.lst (Dt.L x3 5))])) (e4 J m w4_1 [M1]))
   else
   (bif ((ByteArray.toList (Dt.S v1 0)) == [115, 117, 109]) then
   (jj J 0 4 0 (s4_3 x0 x1 x2 (Dt.agg [(Dt.int (Dt.I x3 0)), (Dt.int (Dt.I (Dt.fld v0 1) 1)), (Dt.int (Dt.I x3 2)), (Dt.fld x3 3), (Dt.lst (Dt.L x3 4)), (Dt.lst (Dt.L x3 5))])) (e4 J m w4_1 [M1]))
   else
   (bif ((ByteArray.toList (Dt.S v1 0)) == [99, 111, 117, 110, 116]) then
   (jj J 0 4 0 (s4_3 x0 x1 x2 (Dt.agg [(Dt.int (Dt.I x3 0)), (Dt.int (Dt.I x3 1)), (Dt.int (Dt.I (Dt.fld v0 1) 1)), (Dt.fld x3 3), (Dt.lst (Dt.L x3 4)), (Dt.lst (Dt.L x3 5))])) (e4 J m w4_1 [M1]))
   else
   (bif ((ByteArray.toList (Dt.S v1 0)) == [118, 97, 108, 117, 101]) then
   (jj J 0 4 0 (s4_3 x0 x1 x2 (Dt.agg [(Dt.int (Dt.I x3 0)), (Dt.int (Dt.I x3 1)), (Dt.int (Dt.I x3 2)), (Dt.fld v0 1), (Dt.lst (Dt.L x3 4)), (Dt.lst (Dt.L x3 5))])) (e4 J m w4_1 [M1]))
   else
   (bif ((ByteArray.toList (Dt.S v1 0)) == [108, 105, 115, 116]) then
   (jj J 0 4 0 (s4_3 x0 x1 x2 (Dt.agg [(Dt.int (Dt.I x3 0)), (Dt.int (Dt.I x3 1)), (Dt.int (Dt.I x3 2)), (Dt.fld x3 3), (Dt.lst (Dt.L (Dt.fld v0 1) 3)), (Dt.lst (Dt.L x3 5))])) (e4 J m w4_1 [M1]))
   else
   (bif ((ByteArray.toList (Dt.S v1 0)) == [107, 101, 121, 115]) then
   (jj J 0 4 0 (s4_3 x0 x1 x2 (Dt.agg [(Dt.int (Dt.I x3 0)), (Dt.int (Dt.I x3 1)), (Dt.int (Dt.I x3 2)), (Dt.fld x3 3), (Dt.lst (Dt.L x3 4)), (Dt.lst (Dt.L (Dt.fld v0 1) 3))])) (e4 J m w4_1 [M1]))
   else
   (jj J 0 4 0 (s4_3 x0 x1 x2 x3) (e4 J m w4_1 [M1]))))))))))) (fun J => by kernel_rfl) (by simp only [jj_eq, ref32_Unpack_j3_eq m M1 rec1 h1]; rfl)
abbrev H4_8 (m M8 : Nat) (rec8 : Int → Dt → Dt → Dt → Option (Dt × Int)) : Prop := ∀ x0 x1 x2 x3, l4 jn m w4_3 [] M8 (s4_10 x0 x1 x2 x3) = rec8 x0 x1 x2 x3
theorem ref32_Unpack_j10_eq m M8 rec8 (h8 : H4_8 m M8 rec8) x0 x1 x2 x3 : e4 jn m w4_4 [M8] (s4_10 x0 x1 x2 x3) = ref32_Unpack_j10 m rec8 x0 x1 x2 x3 :=
  tre (g := fun J => (jj J 1 22 M8 (s4_10 (IntKind.wrap .i64 (x0 + 1)) x1 x2 x3) (l4 J m w4_3 [] M8))) (fun J => by kernel_rfl) (by simp only [jj_eq, h8]; rfl)
theorem ref32_Unpack_j9_eq m M8 rec8 (h8 : H4_8 m M8 rec8) x0 x1 x2 x3 : e4 jn m w4_5 [M8] (s4_10 x0 x1 x2 x3) = ref32_Unpack_j9 m rec8 x0 x1 x2 x3 :=
  tre (g := fun J => ((idx (Dt.L x3 5) x0).bind fun v2 =>
   (bif ((Dt.I v2 0) != 6) then
   some (kzc575d, 4)
   else
   (jj J 0 23 0 (s4_10 x0 x1 x2 x3) (e4 J m w4_4 [M8]))))) (fun J => by kernel_rfl) (by simp only [jj_eq, ref32_Unpack_j10_eq m M8 rec8 h8]; rfl)
theorem ref32_Unpack_j12_eq m x0 x1 : e4 jn m w4_6 [] (s4_12 x0 x1) = ref32_Unpack_j12 m x0 x1 :=
  tre (g := fun J => some (x1, 0)) (fun J => by kernel_rfl) (by rfl)
theorem ref32_Unpack_j11_eq m x0 x1 x2 : e4 jn m w4_7 [] (s4_11 x0 x1 x2) = ref32_Unpack_j11 m x0 x1 x2 :=
  tre (g := fun J => ((ref32_Pack m x2).bind fun r3 =>
   ((ref01_Same m r3 x0).bind fun r4 =>
   (bif (Bool.not r4) then
   some (kzc575d, 4)
   else
   (jj J 0 28 0 (s4_12 x1 x2) (e4 J m w4_6 [])))))) (fun J => by kernel_rfl) (by simp only [jj_eq, ref32_Unpack_j12_eq m]; rfl)
theorem ref32_Unpack_l8_eq m : ∀ M8 x0 x1 x2 x3, l4 jn m w4_3 [] M8 (s4_10 x0 x1 x2 x3) = ref32_Unpack_l8 m M8 x0 x1 x2 x3
  | 0, _, _, _, _ => rfl
  | M8 + 1, x0, x1, x2, x3 =>
    trl (g := fun J => (bif (decide (x0 < (List.length (Dt.L x3 5) : Int))) then
   (jj J 0 24 0 (s4_10 x0 x1 x2 x3) (e4 J m w4_5 [M8]))
    else
   (jj J 0 26 0 (s4_11 x1 x2 x3) (e4 J m w4_7 [])))) (fun J => by kernel_rfl) (by simp only [jj_eq, ref32_Unpack_j9_eq m M8 (ref32_Unpack_l8 m M8) (ref32_Unpack_l8_eq m M8), ref32_Unpack_j11_eq m]; rfl)
theorem ref32_Unpack_j7_eq m x0 x1 x2 x3 : e4 jn m w4_8 [] (s4_10 x0 x1 x2 x3) = ref32_Unpack_j7 m x0 x1 x2 x3 :=
  tre (g := fun J => (jj J 1 22 (Nat.succ m) (s4_10 x0 x1 x2 x3) (l4 J m w4_3 [] (Nat.succ m)))) (fun J => by kernel_rfl) (by simp only [jj_eq, ref32_Unpack_l8_eq m]; rfl)
theorem ref32_Unpack_j6_eq m x0 x1 x2 : e4 jn m [1, 1, 1, 1] [] (s4_11 x0 x1 x2) = ref32_Unpack_j6 m x0 x1 x2 :=
  tre (g := fun J => (jj J 0 22 0 (s4_10 0 x0 x1 x2) (e4 J m w4_8 []))) (fun J => by kernel_rfl) (by simp only [jj_eq, ref32_Unpack_j7_eq m]; rfl)
theorem ref32_Unpack_j5_eq m x0 x1 x2 x3 : e4 jn m w4_9 [] (s4_5 x0 x1 x2 x3) = ref32_Unpack_j5 m x0 x1 x2 x3 :=
  tre (g := fun J => (bif x0 then
   some (kzc575d, 4)
    else
   (jj J 0 21 0 (s4_11 x1 x2 x3) (e4 J m [1, 1, 1, 1] [])))) (fun J => by kernel_rfl) (by simp only [jj_eq, ref32_Unpack_j6_eq m]; rfl)
theorem ref32_Unpack_j4_eq m x0 x1 x2 : e4 jn m [1, 1, 1] [] (s4_11 x0 x1 x2) = ref32_Unpack_j4 m x0 x1 x2 :=
  tre (g := fun J => (bif ((Dt.I x2 0) == 10) then
   (bif ((List.length (Dt.L x2 5) : Int) != (List.length (Dt.L x2 4) : Int)) then
   (jj J 0 20 0 (s4_5 true x0 x1 x2) (e4 J m w4_9 []))
   else
   (bif ((Dt.I x2 0) != 10) then
   (jj J 0 20 0 (s4_5 (decide (0 < (List.length (Dt.L x2 5) : Int))) x0 x1 x2) (e4 J m w4_9 []))
   else
   (jj J 0 20 0 (s4_5 false x0 x1 x2) (e4 J m w4_9 []))))
    else
   (bif ((Dt.I x2 0) != 10) then
   (jj J 0 20 0 (s4_5 (decide (0 < (List.length (Dt.L x2 5) : Int))) x0 x1 x2) (e4 J m w4_9 []))
   else
   (jj J 0 20 0 (s4_5 false x0 x1 x2) (e4 J m w4_9 []))))) (fun J => by kernel_rfl) (by simp only [jj_eq, ref32_Unpack_j5_eq m]; rfl)
theorem ref32_Unpack_l1_eq m : ∀ M1 x0 x1 x2 x3, l4 jn m w4_0 [] M1 (s4_3 x0 x1 x2 x3) = ref32_Unpack_l1 m M1 x0 x1 x2 x3
  | 0, _, _, _, _ => rfl
  | M1 + 1, x0, x1, x2, x3 =>
    trl (g := fun J => (bif (decide (x0 < (List.length (Dt.L x1 4) : Int))) then
   (jj J 0 5 0 (s4_3 x0 x1 x2 x3) (e4 J m w4_2 [M1]))
    else
   (jj J 0 19 0 (s4_11 x1 x2 x3) (e4 J m [1, 1, 1] [])))) (fun J => by kernel_rfl) (by simp only [jj_eq, ref32_Unpack_j2_eq m M1 (ref32_Unpack_l1 m M1) (ref32_Unpack_l1_eq m M1), ref32_Unpack_j4_eq m]; rfl)
theorem ref32_Unpack_j0_eq m x0 x1 x2 x3 : e4 jn m [1, 1, 0, 1] [] (s4_3 x0 x1 x2 x3) = ref32_Unpack_j0 m x0 x1 x2 x3 :=
  tre (g := fun J => (jj J 1 3 (Nat.succ m) (s4_3 x0 x1 x2 x3) (l4 J m w4_0 [] (Nat.succ m)))) (fun J => by kernel_rfl) (by simp only [jj_eq, ref32_Unpack_l1_eq m]; rfl)
theorem ref32_Unpack_eq m a0 : e4 jn m [] [] ⟨[(.dat 25 a0)], [], 0⟩ = ref32_Unpack (m + 1) a0 :=
  tre (g := fun J => (jj J 0 3 0 (s4_3 0 a0 kzc575d kzc575d) (e4 J m [1, 1, 0, 1] []))) (fun J => by kernel_rfl) (by simp only [jj_eq, ref32_Unpack_j0_eq m]; rfl)
noncomputable def e0 (J : Nat → Nat → Nat → St → Option Bool → Option Bool) (m : Nat) (p ms : List Nat) (σ : St) := evAt Tryz.prog env (ct m) J (m + 1) 3 32 Tryz.f3 d1 p ms σ
noncomputable def l0 (J : Nat → Nat → Nat → St → Option Bool → Option Bool) (m : Nat) (p ms : List Nat) (M : Nat) (σ : St) := loopAt Tryz.prog env (ct m) J (m + 1) 3 32 Tryz.f3 d1 p ms M σ
noncomputable def s0_0 (x0 : Dt) : St := ⟨tsOf [(1, (.ptr 0 [] 0))], [(.box 25 (.dat 25 x0))], 0⟩
theorem law32_AccumUnpacks_j0_eq m x0 : e0 jn m [1, 1] [] (s0_0 x0) = law32_AccumUnpacks_j0 m x0 :=
  tre (g := fun J => ((accum_Unpack m x0).bind fun r2 =>
   ((ref32_Unpack m x0).bind fun r3 =>
   ((ref32_Same m r2.1 r3.1).bind fun r4 =>
   (bif r4 then
   (bif (r2.2 == r3.2) then
   ((awakeC).bind fun r5 =>
   some r5)
   else
   some false)
   else
   some false))))) (fun J => by kernel_rfl) (by rfl)
theorem law32_AccumUnpacks_eq m a0 : e0 jn m [] [] ⟨[(.dat 25 a0)], [], 0⟩ = law32_AccumUnpacks (m + 1) a0 :=
  tre (g := fun J => ((ref02_Few m a0 2000).bind fun r0 =>
   (bif (Bool.not r0) then
   ((awakeC).bind fun r1 =>
   some r1)
   else
   (jj J 0 3 0 (s0_0 a0) (e0 J m [1, 1] []))))) (fun J => by kernel_rfl) (by simp only [jj_eq, law32_AccumUnpacks_j0_eq m]; rfl)

end Go.Proofs.YtacpcknpliomoaaGreat
