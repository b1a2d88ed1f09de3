/- Generated: each function's run in the abstract machine is its shallow function. -/
import Derived.Test.YtacpcknpliomoaaGreatCt
import Derived.Test.YtacpcknpliomoaaGreatAmEnv
import Derived.KernelRfl
set_option linter.unusedVariables false
set_option linter.unusedSimpArgs false
namespace Go.Proofs.YtacpcknpliomoaaGreat
open Go.Am
set_option maxRecDepth 100000
def w4_0 : List Nat := [1, 1, 0, 1, 0]
def w4_7 : List Nat := [1, 1, 1, 0, 1]
def w4_3 : List Nat := [1, 1, 1, 0, 1, 0]
def w4_2 : List Nat := [1, 1, 0, 1, 0, 0, 1]
def w4_1 : List Nat := w4_2 ++ [1]
def w4_6 : List Nat := w4_3 ++ [0, 1]
def w4_4 : List Nat := w4_6 ++ [1]
def w4_5 : List Nat := w4_6 ++ [0, 0, 1]
noncomputable def e4 (J : Nat → Nat → Nat → St → Option Bool → Option Bool) (m : Nat) (p ms : List Nat) (σ : St) := evAt Tryz.prog env (ct m) J (m + 1) 20 99 Tryz.f20 d4 p ms σ
noncomputable def l4 (J : Nat → Nat → Nat → St → Option Bool → Option Bool) (m : Nat) (p ms : List Nat) (M : Nat) (σ : St) := loopAt Tryz.prog env (ct m) J (m + 1) 20 99 Tryz.f20 d4 p ms M σ
noncomputable def s4_5 (x0 : Int) (x1 x2 : Dt) : St := ⟨tsOf [(2, (.ptr 0 [] 0)), (3, (.ptr 1 [] 0)), (5, (.dat 3 (.int x0)))], [(.box 25 (.dat 25 x1)), (.box 25 (.dat 25 x2))], 0⟩
noncomputable def s4_11 (x0 : Int) (x1 x2 : Dt) : St := ⟨tsOf [(2, (.ptr 0 [] 0)), (3, (.ptr 1 [] 0)), (6, (.dat 3 (.int x0)))], [(.box 25 (.dat 25 x1)), (.box 25 (.dat 25 x2))], 0⟩
noncomputable def s4_10 (x0 : Int) (x1 : Bool) (x2 x3 : Dt) : St := ⟨tsOf [(2, (.ptr 0 [] 0)), (3, (.ptr 1 [] 0)), (6, (.dat 3 (.int x0))), (98, (.dat 4 (.bool x1)))], [(.box 25 (.dat 25 x2)), (.box 25 (.dat 25 x3))], 0⟩
noncomputable def s4_12 : St := ⟨tsOf [], [], 0⟩
noncomputable def s4_6 (x0 x1 : Dt) : St := ⟨tsOf [(2, (.ptr 0 [] 0)), (3, (.ptr 1 [] 0))], [(.box 25 (.dat 25 x0)), (.box 25 (.dat 25 x1))], 0⟩
noncomputable def s4_0 (x0 : Bool) (x1 x2 : Dt) : St := ⟨tsOf [(2, (.ptr 0 [] 0)), (3, (.ptr 1 [] 0)), (43, (.dat 4 (.bool x0)))], [(.box 25 (.dat 25 x1)), (.box 25 (.dat 25 x2))], 0⟩
abbrev H4_3 (m M3 : Nat) (rec3 : Int → Dt → Dt → Option Bool) : Prop := ∀ x0 x1 x2, l4 jn m w4_0 [] M3 (s4_5 x0 x1 x2) = rec3 x0 x1 x2
theorem ref01_Same_j5_eq m M3 rec3 (h3 : H4_3 m M3 rec3) x0 x1 x2 : e4 jn m w4_1 [M3] (s4_5 x0 x1 x2) = ref01_Same_j5 m (ref01_Same m) rec3 x0 x1 x2 :=
  tre (g := fun J => (jj J 1 4 M3 (s4_5 (IntKind.wrap .i64 (x0 + 1)) x1 x2) (l4 J m w4_0 [] M3))) (fun J => by kernel_rfl) (by simp only [jj_eq, h3]; rfl)
theorem ref01_Same_j4_eq m M3 rec3 (h3 : H4_3 m M3 rec3) x0 x1 x2 : e4 jn m w4_2 [M3] (s4_5 x0 x1 x2) = ref01_Same_j4 m (ref01_Same m) rec3 x0 x1 x2 :=
  tre (g := fun J => ((idx (Dt.L x1 3) x0).bind fun v0 =>
   ((idx (Dt.L x2 3) x0).bind fun v1 =>
   ((ref01_Same m v0 v1).bind fun r2 =>
   (bif (Bool.not r2) then
   some false
   else
   (jj J 0 5 0 (s4_5 x0 x1 x2) (e4 J m w4_1 [M3]))))))) (fun J => by kernel_rfl) (by simp only [jj_eq, ref01_Same_j5_eq m M3 rec3 h3]; rfl)
abbrev H4_8 (m M8 : Nat) (rec8 : Int → Dt → Dt → Option Bool) : Prop := ∀ x0 x1 x2, l4 jn m w4_3 [] M8 (s4_11 x0 x1 x2) = rec8 x0 x1 x2
theorem ref01_Same_j11_eq m M8 rec8 (h8 : H4_8 m M8 rec8) x0 x1 x2 : e4 jn m w4_4 [M8] (s4_11 x0 x1 x2) = ref01_Same_j11 m (ref01_Same m) rec8 x0 x1 x2 :=
  tre (g := fun J => (jj J 1 9 M8 (s4_11 (IntKind.wrap .i64 (x0 + 1)) x1 x2) (l4 J m w4_3 [] M8))) (fun J => by kernel_rfl) (by simp only [jj_eq, h8]; rfl)
theorem ref01_Same_j10_eq m M8 rec8 (h8 : H4_8 m M8 rec8) x0 x1 x2 x3 : e4 jn m w4_5 [M8] (s4_10 x0 x1 x2 x3) = ref01_Same_j10 m (ref01_Same m) rec8 x0 x1 x2 x3 :=
  tre (g := fun J => (bif x1 then
   some false
    else
   (jj J 0 10 0 (s4_11 x0 x2 x3) (e4 J m w4_4 [M8])))) (fun J => by kernel_rfl) (by simp only [jj_eq, ref01_Same_j11_eq m M8 rec8 h8]; rfl)
theorem ref01_Same_j9_eq m M8 rec8 (h8 : H4_8 m M8 rec8) x0 x1 x2 : e4 jn m w4_6 [M8] (s4_11 x0 x1 x2) = ref01_Same_j9 m (ref01_Same m) rec8 x0 x1 x2 :=
  tre (g := fun J => ((idx (Dt.L x1 4) x0).bind fun v3 =>
   ((idx (Dt.L x2 4) x0).bind fun v4 =>
   (bif (Bool.not ((ByteArray.toList (Dt.S v3 0)) == (ByteArray.toList (Dt.S v4 0)))) then
   (jj J 0 12 0 (s4_10 x0 true x1 x2) (e4 J m w4_5 [M8]))
   else
   ((idx (Dt.L x1 4) x0).bind fun v5 =>
   ((idx (Dt.L x2 4) x0).bind fun v6 =>
   ((ref01_Same m (Dt.fld v5 1) (Dt.fld v6 1)).bind fun r7 =>
   (jj J 0 12 0 (s4_10 x0 (Bool.not r7) x1 x2) (e4 J m w4_5 [M8]))))))))) (fun J => by kernel_rfl) (by simp only [jj_eq, ref01_Same_j10_eq m M8 rec8 h8]; rfl)
theorem ref01_Same_j12_eq m : e4 jn m [1, 1, 1, 1] [] s4_12 = ref01_Same_j12 m (ref01_Same m) :=
  tre (g := fun J => some true) (fun J => by kernel_rfl) (by rfl)
theorem ref01_Same_l8_eq m : ∀ M8 x0 x1 x2, l4 jn m w4_3 [] M8 (s4_11 x0 x1 x2) = ref01_Same_l8 m (ref01_Same m) M8 x0 x1 x2
  | 0, _, _, _ => rfl
  | M8 + 1, x0, x1, x2 =>
    trl (g := fun J => (bif (decide (x0 < (List.length (Dt.L x1 4) : Int))) then
   (jj J 0 11 0 (s4_11 x0 x1 x2) (e4 J m w4_6 [M8]))
    else
   (jj J 0 13 0 s4_12 (e4 J m [1, 1, 1, 1] [])))) (fun J => by kernel_rfl) (by simp only [jj_eq, ref01_Same_j9_eq m M8 (ref01_Same_l8 m (ref01_Same m) M8) (ref01_Same_l8_eq m M8), ref01_Same_j12_eq m]; rfl)
theorem ref01_Same_j7_eq m x0 x1 x2 : e4 jn m w4_7 [] (s4_11 x0 x1 x2) = ref01_Same_j7 m (ref01_Same m) x0 x1 x2 :=
  tre (g := fun J => (jj J 1 9 (Nat.succ m) (s4_11 x0 x1 x2) (l4 J m w4_3 [] (Nat.succ m)))) (fun J => by kernel_rfl) (by simp only [jj_eq, ref01_Same_l8_eq m]; rfl)
theorem ref01_Same_j6_eq m x0 x1 : e4 jn m [1, 1, 1] [] (s4_6 x0 x1) = ref01_Same_j6 m (ref01_Same m) x0 x1 :=
  tre (g := fun J => (jj J 0 9 0 (s4_11 0 x0 x1) (e4 J m w4_7 []))) (fun J => by kernel_rfl) (by simp only [jj_eq, ref01_Same_j7_eq m]; rfl)
theorem ref01_Same_l3_eq m : ∀ M3 x0 x1 x2, l4 jn m w4_0 [] M3 (s4_5 x0 x1 x2) = ref01_Same_l3 m (ref01_Same m) M3 x0 x1 x2
  | 0, _, _, _ => rfl
  | M3 + 1, x0, x1, x2 =>
    trl (g := fun J => (bif (decide (x0 < (List.length (Dt.L x1 3) : Int))) then
   (jj J 0 6 0 (s4_5 x0 x1 x2) (e4 J m w4_2 [M3]))
    else
   (jj J 0 8 0 (s4_6 x1 x2) (e4 J m [1, 1, 1] [])))) (fun J => by kernel_rfl) (by simp only [jj_eq, ref01_Same_j4_eq m M3 (ref01_Same_l3 m (ref01_Same m) M3) (ref01_Same_l3_eq m M3), ref01_Same_j6_eq m]; rfl)
theorem ref01_Same_j2_eq m x0 x1 x2 : e4 jn m [1, 1, 0, 1] [] (s4_5 x0 x1 x2) = ref01_Same_j2 m (ref01_Same m) x0 x1 x2 :=
  tre (g := fun J => (jj J 1 4 (Nat.succ m) (s4_5 x0 x1 x2) (l4 J m w4_0 [] (Nat.succ m)))) (fun J => by kernel_rfl) (by simp only [jj_eq, ref01_Same_l3_eq m]; rfl)
theorem ref01_Same_j1_eq m x0 x1 : e4 jn m [1, 1] [] (s4_6 x0 x1) = ref01_Same_j1 m (ref01_Same m) x0 x1 :=
  tre (g := fun J => (jj J 0 4 0 (s4_5 0 x0 x1) (e4 J m [1, 1, 0, 1] []))) (fun J => by kernel_rfl) (by simp only [jj_eq, ref01_Same_j2_eq m]; rfl)
theorem ref01_Same_j0_eq m x0 x1 x2 : e4 jn m [1, 0, 1] [] (s4_0 x0 x1 x2) = ref01_Same_j0 m (ref01_Same m) x0 x1 x2 :=
  tre (g := fun J => (bif x0 then
   some false
    else
   (jj J 0 3 0 (s4_6 x1 x2) (e4 J m [1, 1] [])))) (fun J => by kernel_rfl) (by simp only [jj_eq, ref01_Same_j1_eq m]; rfl)
theorem ref01_Same_eq m a0 a1 : e4 jn m [] [] ⟨[(.dat 25 a0), (.dat 25 a1)], [], 0⟩ = ref01_Same (m + 1) a0 a1 :=
  tre (g := fun J => (bif ((Dt.I a0 0) != (Dt.I a1 0)) then
   (jj J 0 2 0 (s4_0 true a0 a1) (e4 J m [1, 0, 1] []))
    else
   (bif ((Dt.I a0 1) != (Dt.I a1 1)) then
   (jj J 0 2 0 (s4_0 true a0 a1) (e4 J m [1, 0, 1] []))
   else
   (bif (Bool.not ((ByteArray.toList (Dt.S a0 2)) == (ByteArray.toList (Dt.S a1 2)))) then
   (jj J 0 2 0 (s4_0 true a0 a1) (e4 J m [1, 0, 1] []))
   else
   (bif ((List.length (Dt.L a0 3) : Int) != (List.length (Dt.L a1 3) : Int)) then
   (jj J 0 2 0 (s4_0 true a0 a1) (e4 J m [1, 0, 1] []))
   else
   (jj J 0 2 0 (s4_0 ((List.length (Dt.L a0 4) : Int) != (List.length (Dt.L a1 4) : Int)) a0 a1) (e4 J m [1, 0, 1] []))))))) (fun J => by kernel_rfl) (by simp only [jj_eq, ref01_Same_j0_eq m]; rfl)
noncomputable def e6 (J : Nat → Nat → Nat → St → Option Dt → Option Dt) (m : Nat) (p ms : List Nat) (σ : St) := evAt Tryz.prog env (ct m) J (m + 1) 23 5 Tryz.f23 d6 p ms σ
noncomputable def l6 (J : Nat → Nat → Nat → St → Option Dt → Option Dt) (m : Nat) (p ms : List Nat) (M : Nat) (σ : St) := loopAt Tryz.prog env (ct m) J (m + 1) 23 5 Tryz.f23 d6 p ms M σ
theorem ref01_Int_eq m a0 : e6 jn m [] [] ⟨[(.dat 3 (.int a0))], [], 0⟩ = ref01_Int (m + 1) a0 :=
  tre (g := fun J => some (Dt.agg [(Dt.int 3), (Dt.int a0), (Dt.str (ByteArray.mk (List.toArray []))), (Dt.lst []), (Dt.lst [])])) (fun J => by kernel_rfl) (by rfl)
noncomputable def e1 (J : Nat → Nat → Nat → St → Option Dt → Option Dt) (m : Nat) (p ms : List Nat) (σ : St) := evAt Tryz.prog env (ct m) J (m + 1) 16 8 Tryz.f16 d6 p ms σ
noncomputable def l1 (J : Nat → Nat → Nat → St → Option Dt → Option Dt) (m : Nat) (p ms : List Nat) (M : Nat) (σ : St) := loopAt Tryz.prog env (ct m) J (m + 1) 16 8 Tryz.f16 d6 p ms M σ
theorem law32_doc_eq m a0 : e1 jn m [] [] ⟨[(.dat 3 (.int a0))], [], 0⟩ = law32_doc (m + 1) a0 :=
  tre (g := fun J => ((ref01_Int m a0).bind fun r0 =>
   some (Dt.agg [(Dt.int 5), (Dt.int 0), (Dt.str (ByteArray.mk (List.toArray []))), (Dt.lst []), (Dt.lst [(Dt.agg [(Dt.str (ByteArray.mk (List.toArray [97]))), r0])])]))) (fun J => by kernel_rfl) (by rfl)
noncomputable def e7 (J : Nat → Nat → Nat → St → Option Dt → Option Dt) (m : Nat) (p ms : List Nat) (σ : St) := evAt Tryz.prog env (ct m) J (m + 1) 19 6 Tryz.f19 d7 p ms σ
noncomputable def l7 (J : Nat → Nat → Nat → St → Option Dt → Option Dt) (m : Nat) (p ms : List Nat) (M : Nat) (σ : St) := loopAt Tryz.prog env (ct m) J (m + 1) 19 6 Tryz.f19 d7 p ms M σ
theorem accum_Start_eq m a0 : e7 jn m [] [] ⟨[(.dat 41 a0)], [], 0⟩ = accum_Start (m + 1) a0 :=
  tre (g := fun J => some (Dt.agg [(Dt.int (Dt.I a0 1)), (Dt.int 0), (Dt.int 0), kza2373, (Dt.lst []), (Dt.lst [])])) (fun J => by kernel_rfl) (by rfl)
def w10_3 : List Nat := [1, 1, 1, 0, 1]
def w10_0 : List Nat := [1, 1, 1, 0, 1, 0]
def w10_2 : List Nat := w10_0 ++ [0, 1, 1]
def w10_1 : List Nat := w10_2 ++ [1]
noncomputable def e10 (J : Nat → Nat → Nat → St → Option Dt → Option Dt) (m : Nat) (p ms : List Nat) (σ : St) := evAt Tryz.prog env (ct m) J (m + 1) 25 32 Tryz.f25 d6 p ms σ
noncomputable def l10 (J : Nat → Nat → Nat → St → Option Dt → Option Dt) (m : Nat) (p ms : List Nat) (M : Nat) (σ : St) := loopAt Tryz.prog env (ct m) J (m + 1) 25 32 Tryz.f25 d6 p ms M σ
noncomputable def s10_3 (x0 : List Dt) (x1 x2 : Int) (x3 : Dt) (x4 x5 : Int) (x6 : ByteArray) (x7 x8 : List Dt) : St := ⟨tsOf [(2, (.ptr 0 [] 0)), (3, (.ptr 1 [] 0)), (13, (.dat 23 (.lst x0))), (14, (.dat 3 (.int x1))), (15, (.dat 3 (.int x2)))], [(.box 25 (.dat 25 x3)), (.box 25 (.agg 25 [(.dat 3 (.int x4)), (.dat 3 (.int x5)), (.dat 9 (.str x6)), (.row 2), (.row 3)])), (.row 22 x7), (.row 23 x8)], 0⟩
noncomputable def s10_4 (x0 : Dt) (x1 x2 : Int) (x3 : ByteArray) (x4 x5 : List Dt) : St := ⟨tsOf [(2, (.ptr 0 [] 0)), (3, (.ptr 1 [] 0))], [(.box 25 (.dat 25 x0)), (.box 25 (.agg 25 [(.dat 3 (.int x1)), (.dat 3 (.int x2)), (.dat 9 (.str x3)), (.row 2), (.row 3)])), (.row 22 x4), (.row 23 x5)], 0⟩
abbrev H10_1 (m M1 : Nat) (rec1 : List Dt → Int → Int → Dt → Int → Int → ByteArray → List Dt → List Dt → Option Dt) : Prop := ∀ x0 x1 x2 x3 x4 x5 x6 x7 x8, l10 jn m w10_0 [] M1 (s10_3 x0 x1 x2 x3 x4 x5 x6 x7 x8) = rec1 x0 x1 x2 x3 x4 x5 x6 x7 x8
theorem accum_copyValue_j3_eq m M1 rec1 (h1 : H10_1 m M1 rec1) x0 x1 x2 x3 x4 x5 x6 x7 x8 : e10 jn m w10_1 [M1] (s10_3 x0 x1 x2 x3 x4 x5 x6 x7 x8) = accum_copyValue_j3 m (accum_copyValue m) (accum_copyList m) rec1 x0 x1 x2 x3 x4 x5 x6 x7 x8 :=
  tre (g := fun J => (jj J 1 4 M1 (s10_3 x0 x1 (IntKind.wrap .i64 (x2 + 1)) x3 x4 x5 x6 x7 x8) (l10 J m w10_0 [] M1))) (fun J => by kernel_rfl) (by simp only [jj_eq, h1]; rfl)
theorem accum_copyValue_j2_eq m M1 rec1 (h1 : H10_1 m M1 rec1) x0 x1 x2 x3 x4 x5 x6 x7 x8 : e10 jn m w10_2 [M1] (s10_3 x0 x1 x2 x3 x4 x5 x6 x7 x8) = accum_copyValue_j2 m (accum_copyValue m) (accum_copyList m) rec1 x0 x1 x2 x3 x4 x5 x6 x7 x8 :=
  tre (g := fun J => ((idx x0 x2).bind fun v1 =>
   ((accum_copyValue m (Dt.fld v1 1)).bind fun r2 =>
   ((app x8 [(Dt.agg [(Dt.str (Dt.S v1 0)), r2])]).bind fun v3 =>
   (jj J 0 7 0 (s10_3 x0 x1 x2 x3 x4 x5 x6 x7 v3) (e10 J m w10_1 [M1])))))) (fun J => by kernel_rfl) (by simp only [jj_eq, accum_copyValue_j3_eq m M1 rec1 h1]; rfl)
theorem accum_copyValue_j4_eq m x0 x1 x2 x3 x4 x5 : e10 jn m [1, 1, 1, 1] [] (s10_4 x0 x1 x2 x3 x4 x5) = accum_copyValue_j4 m (accum_copyValue m) (accum_copyList m) x0 x1 x2 x3 x4 x5 :=
  tre (g := fun J => some (Dt.agg [(Dt.int x1), (Dt.int x2), (Dt.str x3), (Dt.lst x4), (Dt.lst x5)])) (fun J => by kernel_rfl) (by rfl)
theorem accum_copyValue_l1_eq m : ∀ M1 x0 x1 x2 x3 x4 x5 x6 x7 x8, l10 jn m w10_0 [] M1 (s10_3 x0 x1 x2 x3 x4 x5 x6 x7 x8) = accum_copyValue_l1 m (accum_copyValue m) (accum_copyList m) M1 x0 x1 x2 x3 x4 x5 x6 x7 x8
  | 0, _, _, _, _, _, _, _, _, _ => rfl
  | M1 + 1, x0, x1, x2, x3, x4, x5, x6, x7, x8 =>
    trl (g := fun J => (bif (decide (x2 < x1)) then
   (jj J 0 5 0 (s10_3 x0 x1 x2 x3 x4 x5 x6 x7 x8) (e10 J m w10_2 [M1]))
    else
   (jj J 0 8 0 (s10_4 x3 x4 x5 x6 x7 x8) (e10 J m [1, 1, 1, 1] [])))) (fun J => by kernel_rfl) (by simp only [jj_eq, accum_copyValue_j2_eq m M1 (accum_copyValue_l1 m (accum_copyValue m) (accum_copyList m) M1) (accum_copyValue_l1_eq m M1), accum_copyValue_j4_eq m]; rfl)
theorem accum_copyValue_j0_eq m x0 x1 x2 x3 x4 x5 x6 x7 x8 : e10 jn m w10_3 [] (s10_3 x0 x1 x2 x3 x4 x5 x6 x7 x8) = accum_copyValue_j0 m (accum_copyValue m) (accum_copyList m) x0 x1 x2 x3 x4 x5 x6 x7 x8 :=
  tre (g := fun J => (jj J 1 4 (Nat.succ m) (s10_3 x0 x1 x2 x3 x4 x5 x6 x7 x8) (l10 J m w10_0 [] (Nat.succ m)))) (fun J => by kernel_rfl) (by simp only [jj_eq, accum_copyValue_l1_eq m]; rfl)
theorem accum_copyValue_eq m a0 : e10 jn m [] [] ⟨[(.dat 25 a0)], [], 0⟩ = accum_copyValue (m + 1) a0 :=
  tre (g := fun J => ((accum_copyList m (Dt.L a0 3)).bind fun r0 =>
   (jj J 0 4 0 (s10_3 (Dt.L a0 4) (List.length (Dt.L a0 4) : Int) 0 kza2373 (Dt.I a0 0) (Dt.I a0 1) (Dt.S a0 2) r0 []) (e10 J m w10_3 [])))) (fun J => by kernel_rfl) (by simp only [jj_eq, accum_copyValue_j0_eq m]; rfl)
def w11_3 : List Nat := [1, 1, 1, 0, 1]
def w11_0 : List Nat := [1, 1, 1, 0, 1, 0]
def w11_2 : List Nat := w11_0 ++ [0, 1, 1]
def w11_1 : List Nat := w11_2 ++ [1]
noncomputable def e11 (J : Nat → Nat → Nat → St → Option (List Dt) → Option (List Dt)) (m : Nat) (p ms : List Nat) (σ : St) := evAt Tryz.prog env (ct m) J (m + 1) 27 26 Tryz.f27 d11 p ms σ
noncomputable def l11 (J : Nat → Nat → Nat → St → Option (List Dt) → Option (List Dt)) (m : Nat) (p ms : List Nat) (M : Nat) (σ : St) := loopAt Tryz.prog env (ct m) J (m + 1) 27 26 Tryz.f27 d11 p ms M σ
noncomputable def s11_4 (x0 : List Dt) (x1 x2 : Int) (x3 : List Dt) : St := ⟨tsOf [(3, (.row 0)), (12, (.dat 22 (.lst x0))), (13, (.dat 3 (.int x1))), (14, (.dat 3 (.int x2)))], [(.row 22 x3)], 0⟩
noncomputable def s11_5 (x0 : List Dt) : St := ⟨tsOf [(3, (.row 0))], [(.row 22 x0)], 0⟩
noncomputable def s11_0 (x0 : List Dt) : St := ⟨tsOf [(0, (.dat 22 (.lst x0)))], [], 0⟩
abbrev H11_2 (m M2 : Nat) (rec2 : List Dt → Int → Int → List Dt → Option (List Dt)) : Prop := ∀ x0 x1 x2 x3, l11 jn m w11_0 [] M2 (s11_4 x0 x1 x2 x3) = rec2 x0 x1 x2 x3
theorem accum_copyList_j4_eq m M2 rec2 (h2 : H11_2 m M2 rec2) x0 x1 x2 x3 : e11 jn m w11_1 [M2] (s11_4 x0 x1 x2 x3) = accum_copyList_j4 m (accum_copyValue m) rec2 x0 x1 x2 x3 :=
  tre (g := fun J => (jj J 1 5 M2 (s11_4 x0 x1 (IntKind.wrap .i64 (x2 + 1)) x3) (l11 J m w11_0 [] M2))) (fun J => by kernel_rfl) (by simp only [jj_eq, h2]; rfl)
theorem accum_copyList_j3_eq m M2 rec2 (h2 : H11_2 m M2 rec2) x0 x1 x2 x3 : e11 jn m w11_2 [M2] (s11_4 x0 x1 x2 x3) = accum_copyList_j3 m (accum_copyValue m) rec2 x0 x1 x2 x3 :=
  tre (g := fun J => ((idx x0 x2).bind fun v1 =>
   ((accum_copyValue m v1).bind fun r2 =>
   ((inL x3 x2).bind fun v3 =>
   ((x3[(Int.toNat x2)]?).bind fun v4 =>
   (jj J 0 8 0 (s11_4 x0 x1 x2 (List.set x3 (Int.toNat x2) r2)) (e11 J m w11_1 [M2]))))))) (fun J => by kernel_rfl) (by simp only [jj_eq, accum_copyList_j4_eq m M2 rec2 h2]; rfl)
theorem accum_copyList_j5_eq m x0 : e11 jn m [1, 1, 1, 1] [] (s11_5 x0) = accum_copyList_j5 m (accum_copyValue m) x0 :=
  tre (g := fun J => some x0) (fun J => by kernel_rfl) (by rfl)
theorem accum_copyList_l2_eq m : ∀ M2 x0 x1 x2 x3, l11 jn m w11_0 [] M2 (s11_4 x0 x1 x2 x3) = accum_copyList_l2 m (accum_copyValue m) M2 x0 x1 x2 x3
  | 0, _, _, _, _ => rfl
  | M2 + 1, x0, x1, x2, x3 =>
    trl (g := fun J => (bif (decide (x2 < x1)) then
   (jj J 0 6 0 (s11_4 x0 x1 x2 x3) (e11 J m w11_2 [M2]))
    else
   (jj J 0 9 0 (s11_5 x3) (e11 J m [1, 1, 1, 1] [])))) (fun J => by kernel_rfl) (by simp only [jj_eq, accum_copyList_j3_eq m M2 (accum_copyList_l2 m (accum_copyValue m) M2) (accum_copyList_l2_eq m M2), accum_copyList_j5_eq m]; rfl)
theorem accum_copyList_j1_eq m x0 x1 x2 x3 : e11 jn m w11_3 [] (s11_4 x0 x1 x2 x3) = accum_copyList_j1 m (accum_copyValue m) x0 x1 x2 x3 :=
  tre (g := fun J => (jj J 1 5 (Nat.succ m) (s11_4 x0 x1 x2 x3) (l11 J m w11_0 [] (Nat.succ m)))) (fun J => by kernel_rfl) (by simp only [jj_eq, accum_copyList_l2_eq m]; rfl)
theorem accum_copyList_j0_eq m x0 : e11 jn m [1, 1] [] (s11_0 x0) = accum_copyList_j0 m (accum_copyValue m) x0 :=
  tre (g := fun J => ((mkL (List.length x0 : Int) (List.length x0 : Int) kza2373).bind fun v0 =>
   (jj J 0 5 0 (s11_4 x0 (List.length x0 : Int) 0 v0) (e11 J m w11_3 [])))) (fun J => by kernel_rfl) (by simp only [jj_eq, accum_copyList_j1_eq m]; rfl)
theorem accum_copyList_eq m a0 : e11 jn m [] [] ⟨[(.dat 22 (.lst a0))], [], 0⟩ = accum_copyList (m + 1) a0 :=
  tre (g := fun J => (bif ((List.length a0 : Int) == 0) then
   some []
    else
   (jj J 0 3 0 (s11_0 a0) (e11 J m [1, 1] [])))) (fun J => by kernel_rfl) (by simp only [jj_eq, accum_copyList_j0_eq m]; rfl)
noncomputable def e9 (J : Nat → Nat → Nat → St → Option (Int × Int × Int × Dt × List Dt × List Dt) → Option (Int × Int × Int × Dt × List Dt × List Dt)) (m : Nat) (p ms : List Nat) (σ : St) := evAt Tryz.prog env (ct m) J (m + 1) 38 16 Tryz.f38 d9 p ms σ
noncomputable def l9 (J : Nat → Nat → Nat → St → Option (Int × Int × Int × Dt × List Dt × List Dt) → Option (Int × Int × Int × Dt × List Dt × List Dt)) (m : Nat) (p ms : List Nat) (M : Nat) (σ : St) := loopAt Tryz.prog env (ct m) J (m + 1) 38 16 Tryz.f38 d9 p ms M σ
theorem accum_copyPart_eq m a0 : e9 jn m [] [] ⟨[(.dat 29 a0)], [], 0⟩ = accum_copyPart (m + 1) a0 :=
  tre (g := fun J => ((accum_copyValue m (Dt.fld a0 3)).bind fun r0 =>
   ((accum_copyList m (Dt.L a0 4)).bind fun r1 =>
   ((accum_copyList m (Dt.L a0 5)).bind fun r2 =>
   some ((Dt.I a0 0), (Dt.I a0 1), (Dt.I a0 2), r0, r1, r2))))) (fun J => by kernel_rfl) (by rfl)
def w12_1 : List Nat := [1, 0, 1, 0, 0, 1, 1]
def w12_0 : List Nat := w12_1 ++ [1]
noncomputable def e12 (J : Nat → Nat → Nat → St → Option (Dt × List Dt × List Dt) → Option (Dt × List Dt × List Dt)) (m : Nat) (p ms : List Nat) (σ : St) := evAt Tryz.prog env (ct m) J (m + 1) 158 30 Tryz.f158 d12 p ms σ
noncomputable def l12 (J : Nat → Nat → Nat → St → Option (Dt × List Dt × List Dt) → Option (Dt × List Dt × List Dt)) (m : Nat) (p ms : List Nat) (M : Nat) (σ : St) := loopAt Tryz.prog env (ct m) J (m + 1) 158 30 Tryz.f158 d12 p ms M σ
noncomputable def s12_3 (x0 : List Dt) (x1 x2 : Int) (x3 x4 : List Dt) (x5 x6 x7 : Int) (x8 : Dt) (x9 x10 : List Dt) (x11 : Dt) : St := ⟨tsOf [(6, (.ptr 4 [] 0)), (8, (.ptr 7 [] 0)), (12, (.dat 22 (.lst x0))), (13, (.dat 3 (.int x1))), (14, (.dat 3 (.int x2)))], [.gone, .gone, (.frz 22 x3), (.row 22 x4), (.box 29 (.agg 29 [(.dat 3 (.int x5)), (.dat 3 (.int x6)), (.dat 3 (.int x7)), (.dat 25 x8), (.row 5), (.row 6)])), (.row 22 x9), (.row 22 x10), (.box 29 (.dat 29 x11))], 4⟩
noncomputable def s12_4 (x0 x1 : List Dt) (x2 x3 x4 : Int) (x5 : Dt) (x6 x7 : List Dt) (x8 : Dt) : St := ⟨tsOf [(6, (.ptr 4 [] 0)), (8, (.ptr 7 [] 0))], [.gone, .gone, (.frz 22 x0), (.row 22 x1), (.box 29 (.agg 29 [(.dat 3 (.int x2)), (.dat 3 (.int x3)), (.dat 3 (.int x4)), (.dat 25 x5), (.row 5), (.row 6)])), (.row 22 x6), (.row 22 x7), (.box 29 (.dat 29 x8))], 4⟩
abbrev H12_1 (m M1 : Nat) (rec1 : List Dt → Int → Int → List Dt → List Dt → Int → Int → Int → Dt → List Dt → List Dt → Dt → Option (Dt × List Dt × List Dt)) : Prop := ∀ x0 x1 x2 x3 x4 x5 x6 x7 x8 x9 x10 x11, l12 jn m [1, 0, 1, 0] [] M1 (s12_3 x0 x1 x2 x3 x4 x5 x6 x7 x8 x9 x10 x11) = rec1 x0 x1 x2 x3 x4 x5 x6 x7 x8 x9 x10 x11
theorem i12_j3_eq m M1 rec1 (h1 : H12_1 m M1 rec1) x0 x1 x2 x3 x4 x5 x6 x7 x8 x9 x10 x11 : e12 jn m w12_0 [M1] (s12_3 x0 x1 x2 x3 x4 x5 x6 x7 x8 x9 x10 x11) = i12_j3 m rec1 x0 x1 x2 x3 x4 x5 x6 x7 x8 x9 x10 x11 :=
  tre (g := fun J => (jj J 1 2 M1 (s12_3 x0 x1 (IntKind.wrap .i64 (x2 + 1)) x3 x4 x5 x6 x7 x8 x9 x10 x11) (l12 J m [1, 0, 1, 0] [] M1))) (fun J => by kernel_rfl) (by simp only [jj_eq, h1]; rfl)
theorem i12_j2_eq m M1 rec1 (h1 : H12_1 m M1 rec1) x0 x1 x2 x3 x4 x5 x6 x7 x8 x9 x10 x11 : e12 jn m w12_1 [M1] (s12_3 x0 x1 x2 x3 x4 x5 x6 x7 x8 x9 x10 x11) = i12_j2 m rec1 x0 x1 x2 x3 x4 x5 x6 x7 x8 x9 x10 x11 :=
  tre (g := fun J => ((idx x0 x2).bind fun v0 =>
   (bif (decide ((List.length x9 : Int) < 1024)) then
   ((app x9 [v0]).bind fun v1 =>
   (jj J 0 6 0 (s12_3 x0 x1 x2 x3 x4 x5 x6 x7 x8 v1 x10 x11) (e12 J m w12_0 [M1])))
   else
   (jj J 0 6 0 (s12_3 x0 x1 x2 x3 x4 x5 x6 x7 x8 x9 x10 x11) (e12 J m w12_0 [M1]))))) (fun J => by kernel_rfl) (by simp only [jj_eq, i12_j3_eq m M1 rec1 h1]; rfl)
theorem i12_j4_eq m x0 x1 x2 x3 x4 x5 x6 x7 x8 : e12 jn m [1, 1] [] (s12_4 x0 x1 x2 x3 x4 x5 x6 x7 x8) = i12_j4 m x0 x1 x2 x3 x4 x5 x6 x7 x8 :=
  tre (g := fun J => some ((Dt.agg [(Dt.int x2), (Dt.int x3), (Dt.int x4), x5, (Dt.lst x6), (Dt.lst x7)]), x0, x1)) (fun J => by kernel_rfl) (by rfl)
theorem i12_l1_eq m : ∀ M1 x0 x1 x2 x3 x4 x5 x6 x7 x8 x9 x10 x11, l12 jn m [1, 0, 1, 0] [] M1 (s12_3 x0 x1 x2 x3 x4 x5 x6 x7 x8 x9 x10 x11) = i12_l1 m M1 x0 x1 x2 x3 x4 x5 x6 x7 x8 x9 x10 x11
  | 0, _, _, _, _, _, _, _, _, _, _, _, _ => rfl
  | M1 + 1, x0, x1, x2, x3, x4, x5, x6, x7, x8, x9, x10, x11 =>
    trl (g := fun J => (bif (decide (x2 < x1)) then
   (jj J 0 3 0 (s12_3 x0 x1 x2 x3 x4 x5 x6 x7 x8 x9 x10 x11) (e12 J m w12_1 [M1]))
    else
   (jj J 0 7 0 (s12_4 x3 x4 x5 x6 x7 x8 x9 x10 x11) (e12 J m [1, 1] [])))) (fun J => by kernel_rfl) (by simp only [jj_eq, i12_j2_eq m M1 (i12_l1 m M1) (i12_l1_eq m M1), i12_j4_eq m]; rfl)
theorem i12_j0_eq m x0 x1 x2 x3 x4 x5 x6 x7 x8 x9 x10 x11 : e12 jn m [1, 0, 1] [] (s12_3 x0 x1 x2 x3 x4 x5 x6 x7 x8 x9 x10 x11) = i12_j0 m x0 x1 x2 x3 x4 x5 x6 x7 x8 x9 x10 x11 :=
  tre (g := fun J => (jj J 1 2 (Nat.succ m) (s12_3 x0 x1 x2 x3 x4 x5 x6 x7 x8 x9 x10 x11) (l12 J m [1, 0, 1, 0] [] (Nat.succ m)))) (fun J => by kernel_rfl) (by simp only [jj_eq, i12_l1_eq m]; rfl)
theorem i12_eq m a0 a1 a2 a3 a4 a5 a6 a7 a8 a9 a10 a11 a12 : e12 jn m [] [] ⟨[(.agg 92 []), (.dat 41 a0), (.agg 29 [(.dat 3 (.int a1)), (.dat 3 (.int a2)), (.dat 3 (.int a3)), (.dat 25 a4), (.row 0), (.row 1)]), (.agg 29 [(.dat 3 (.int a5)), (.dat 3 (.int a6)), (.dat 3 (.int a7)), (.dat 25 a8), (.row 2), (.row 3)])], [(.row 22 a9), (.row 22 a10), (.row 22 a11), (.row 22 a12)], 4⟩ = i12 (m + 1) a0 a1 a2 a3 a4 a5 a6 a7 a8 a9 a10 a11 a12 :=
  tre (g := fun J => (jj J 0 2 0 (s12_3 a11 (List.length a11 : Int) 0 a11 a12 a1 a2 a3 a4 a9 a10 kzc575d) (e12 J m [1, 0, 1] []))) (fun J => by kernel_rfl) (by simp only [jj_eq, i12_j0_eq m]; rfl)
noncomputable def e20 (J : Nat → Nat → Nat → St → Option Dt → Option Dt) (m : Nat) (p ms : List Nat) (σ : St) := evAt Tryz.prog env (ct m) J (m + 1) 146 8 Tryz.f146 d6 p ms σ
noncomputable def l20 (J : Nat → Nat → Nat → St → Option Dt → Option Dt) (m : Nat) (p ms : List Nat) (M : Nat) (σ : St) := loopAt Tryz.prog env (ct m) J (m + 1) 146 8 Tryz.f146 d6 p ms M σ
noncomputable def s20_0 (x0 x1 : Dt) : St := ⟨tsOf [(1, (.ptr 0 [] 0)), (2, (.ptr 1 [] 0))], [(.box 25 (.dat 25 x0)), (.box 25 (.dat 25 x1))], 0⟩
theorem accum_orNull_j0_eq m x0 x1 : e20 jn m [1, 1] [] (s20_0 x0 x1) = accum_orNull_j0 m x0 x1 :=
  tre (g := fun J => some x0) (fun J => by kernel_rfl) (by rfl)
theorem accum_orNull_eq m a0 : e20 jn m [] [] ⟨[(.dat 25 a0)], [], 0⟩ = accum_orNull (m + 1) a0 :=
  tre (g := fun J => (bif ((Dt.I a0 0) == 0) then
   some kz3c25e
    else
   (jj J 0 3 0 (s20_0 a0 kza2373) (e20 J m [1, 1] [])))) (fun J => by kernel_rfl) (by simp only [jj_eq, accum_orNull_j0_eq m]; rfl)
noncomputable def e18 (J : Nat → Nat → Nat → St → Option Dt → Option Dt) (m : Nat) (p ms : List Nat) (σ : St) := evAt Tryz.prog env (ct m) J (m + 1) 157 24 Tryz.f157 d18 p ms σ
noncomputable def l18 (J : Nat → Nat → Nat → St → Option Dt → Option Dt) (m : Nat) (p ms : List Nat) (M : Nat) (σ : St) := loopAt Tryz.prog env (ct m) J (m + 1) 157 24 Tryz.f157 d18 p ms M σ
noncomputable def s18_0 (x0 x1 x2 : Int) (x3 : Dt) (x4 x5 : List Dt) (x6 : Dt) : St := ⟨tsOf [(6, (.ptr 2 [] 0)), (8, (.ptr 5 [] 0))], [.gone, .gone, (.box 29 (.agg 29 [(.dat 3 (.int x0)), (.dat 3 (.int x1)), (.dat 3 (.int x2)), (.dat 25 x3), (.row 3), (.row 4)])), (.row 22 x4), (.row 22 x5), (.box 29 (.dat 29 x6))], 2⟩
theorem i18_j0_eq m x0 x1 x2 x3 x4 x5 x6 : e18 jn m [1, 1] [] (s18_0 x0 x1 x2 x3 x4 x5 x6) = i18_j0 m x0 x1 x2 x3 x4 x5 x6 :=
  tre (g := fun J => some (Dt.agg [(Dt.int x0), (Dt.int x1), (Dt.int x2), x3, (Dt.lst x4), (Dt.lst x5)])) (fun J => by kernel_rfl) (by rfl)
theorem i18_eq m a0 a1 a2 a3 a4 a5 a6 a7 : e18 jn m [] [] ⟨[(.agg 92 []), (.dat 41 a0), (.agg 29 [(.dat 3 (.int a1)), (.dat 3 (.int a2)), (.dat 3 (.int a3)), (.dat 25 a4), (.row 0), (.row 1)]), (.dat 25 a5)], [(.row 22 a6), (.row 22 a7)], 2⟩ = i18 (m + 1) a0 a1 a2 a3 a4 a5 a6 a7 :=
  tre (g := fun J => (bif (decide ((List.length a6 : Int) < 1024)) then
   ((expr_EvalC (Dt.fld a0 2) a5).bind fun r0 =>
   ((accum_orNull m r0).bind fun r1 =>
   ((app a6 [r1]).bind fun v2 =>
   (jj J 0 3 0 (s18_0 a1 a2 a3 a4 v2 a7 kzc575d) (e18 J m [1, 1] [])))))
    else
   (jj J 0 3 0 (s18_0 a1 a2 a3 a4 a6 a7 kzc575d) (e18 J m [1, 1] [])))) (fun J => by kernel_rfl) (by simp only [jj_eq, i18_j0_eq m]; rfl)
noncomputable def e25 (J : Nat → Nat → Nat → St → Option Bool → Option Bool) (m : Nat) (p ms : List Nat) (σ : St) := evAt Tryz.prog env (ct m) J (m + 1) 127 6 Tryz.f127 d4 p ms σ
noncomputable def l25 (J : Nat → Nat → Nat → St → Option Bool → Option Bool) (m : Nat) (p ms : List Nat) (M : Nat) (σ : St) := loopAt Tryz.prog env (ct m) J (m + 1) 127 6 Tryz.f127 d4 p ms M σ
theorem cmp_isNaN_eq m a0 : e25 jn m [] [] ⟨[(.dat 3 (.int a0))], [], 0⟩ = cmp_isNaN (m + 1) a0 :=
  tre (g := fun J => some (a0 != a0)) (fun J => by kernel_rfl) (by rfl)
def w23_3 : List Nat := [1, 1, 1, 1, 1]
def w23_2 : List Nat := [1, 1, 1, 1, 1, 1]
def w23_0 : List Nat := [1, 1, 1, 0, 1, 0, 1]
def w23_1 : List Nat := w23_2 ++ [1]
noncomputable def e23 (J : Nat → Nat → Nat → St → Option Int → Option Int) (m : Nat) (p ms : List Nat) (σ : St) := evAt Tryz.prog env (ct m) J (m + 1) 112 20 Tryz.f112 d23 p ms σ
noncomputable def l23 (J : Nat → Nat → Nat → St → Option Int → Option Int) (m : Nat) (p ms : List Nat) (M : Nat) (σ : St) := loopAt Tryz.prog env (ct m) J (m + 1) 112 20 Tryz.f112 d23 p ms M σ
noncomputable def s23_0 : St := ⟨tsOf [], [], 0⟩
noncomputable def s23_3 (x0 x1 : Int) : St := ⟨tsOf [(0, (.dat 3 (.int x0))), (1, (.dat 3 (.int x1)))], [], 0⟩
noncomputable def s23_1 (x0 x1 : Int) (x2 : Bool) : St := ⟨tsOf [(0, (.dat 3 (.int x0))), (1, (.dat 3 (.int x1))), (6, (.dat 4 (.bool x2)))], [], 0⟩
theorem cmp_Compare_j0_eq m : e23 jn m w23_0 [] s23_0 = cmp_Compare_j0 m :=
  tre (g := fun J => some (-1)) (fun J => by kernel_rfl) (by rfl)
theorem cmp_Compare_j4_eq m : e23 jn m w23_1 [] s23_0 = cmp_Compare_j4 m :=
  tre (g := fun J => some 0) (fun J => by kernel_rfl) (by rfl)
theorem cmp_Compare_j3_eq m x0 x1 : e23 jn m w23_2 [] (s23_3 x0 x1) = cmp_Compare_j3 m x0 x1 :=
  tre (g := fun J => (bif (decide (x1 < x0)) then
   some 1
    else
   (jj J 0 13 0 s23_0 (e23 J m w23_1 [])))) (fun J => by kernel_rfl) (by simp only [jj_eq, cmp_Compare_j4_eq m]; rfl)
theorem cmp_Compare_j2_eq m x0 x1 : e23 jn m w23_3 [] (s23_3 x0 x1) = cmp_Compare_j2 m x0 x1 :=
  tre (g := fun J => (bif (decide (x0 < x1)) then
   some (-1)
    else
   (jj J 0 11 0 (s23_3 x0 x1) (e23 J m w23_2 [])))) (fun J => by kernel_rfl) (by simp only [jj_eq, cmp_Compare_j3_eq m]; rfl)
theorem cmp_Compare_j1_eq m x0 x1 x2 : e23 jn m [1, 1, 1, 1] [] (s23_1 x0 x1 x2) = cmp_Compare_j1 m x0 x1 x2 :=
  tre (g := fun J => (bif x2 then
   some 1
    else
   (jj J 0 9 0 (s23_3 x0 x1) (e23 J m w23_3 [])))) (fun J => by kernel_rfl) (by simp only [jj_eq, cmp_Compare_j2_eq m]; rfl)
theorem cmp_Compare_eq m a0 a1 : e23 jn m [] [] ⟨[(.dat 3 (.int a0)), (.dat 3 (.int a1))], [], 0⟩ = cmp_Compare (m + 1) a0 a1 :=
  tre (g := fun J => ((cmp_isNaN m a0).bind fun r0 =>
   ((cmp_isNaN m a1).bind fun r1 =>
   (bif r0 then
   (bif r1 then
   some 0
   else
   (jj J 0 6 0 s23_0 (e23 J m w23_0 [])))
   else
   (jj J 0 7 0 (s23_1 a0 a1 r1) (e23 J m [1, 1, 1, 1] [])))))) (fun J => by kernel_rfl) (by simp only [jj_eq, cmp_Compare_j0_eq m, cmp_Compare_j1_eq m]; rfl)
def w16_12 : List Nat := [1, 1, 0, 1, 0, 1]
def w16_11 : List Nat := w16_12 ++ [1, 1]
def w16_3 : List Nat := w16_11 ++ [1, 1, 0, 1]
def w16_4 : List Nat := w16_11 ++ [1, 1, 0, 0, 1]
def w16_0 : List Nat := w16_4 ++ [0]
def w16_9 : List Nat := w16_11 ++ [1, 1, 1, 1, 0, 1]
def w16_10 : List Nat := w16_11 ++ [1, 1, 1, 1, 0, 0, 1]
def w16_5 : List Nat := w16_10 ++ [0]
def w16_2 : List Nat := w16_0 ++ [0, 1, 1]
def w16_1 : List Nat := w16_2 ++ [1]
def w16_8 : List Nat := w16_5 ++ [0, 1, 1]
def w16_6 : List Nat := w16_8 ++ [1]
def w16_7 : List Nat := w16_8 ++ [0, 0, 1, 1]
noncomputable def e16 (J : Nat → Nat → Nat → St → Option Int → Option Int) (m : Nat) (p ms : List Nat) (σ : St) := evAt Tryz.prog env (ct m) J (m + 1) 92 126 Tryz.f92 d23 p ms σ
noncomputable def l16 (J : Nat → Nat → Nat → St → Option Int → Option Int) (m : Nat) (p ms : List Nat) (M : Nat) (σ : St) := loopAt Tryz.prog env (ct m) J (m + 1) 92 126 Tryz.f92 d23 p ms M σ
noncomputable def s16_6 (x0 x1 : Int) (x2 x3 : Dt) : St := ⟨tsOf [(2, (.ptr 0 [] 0)), (3, (.ptr 1 [] 0)), (48, (.dat 3 (.int x0))), (49, (.dat 3 (.int x1)))], [(.box 25 (.dat 25 x2)), (.box 25 (.dat 25 x3))], 0⟩
noncomputable def s16_7 (x0 x1 : Dt) : St := ⟨tsOf [(2, (.ptr 0 [] 0)), (3, (.ptr 1 [] 0))], [(.box 25 (.dat 25 x0)), (.box 25 (.dat 25 x1))], 0⟩
noncomputable def s16_12 (x0 x1 : Int) (x2 x3 : Dt) : St := ⟨tsOf [(2, (.ptr 0 [] 0)), (3, (.ptr 1 [] 0)), (82, (.dat 3 (.int x0))), (83, (.dat 3 (.int x1)))], [(.box 25 (.dat 25 x2)), (.box 25 (.dat 25 x3))], 0⟩
noncomputable def s16_11 (x0 x1 x2 : Int) (x3 x4 : Dt) : St := ⟨tsOf [(2, (.ptr 0 [] 0)), (3, (.ptr 1 [] 0)), (7, (.dat 3 (.int x0))), (82, (.dat 3 (.int x1))), (83, (.dat 3 (.int x2)))], [(.box 25 (.dat 25 x3)), (.box 25 (.dat 25 x4))], 0⟩
noncomputable def s16_14 : St := ⟨tsOf [], [], 0⟩
noncomputable def s16_2 (x0 : Int) (x1 : Bool) (x2 x3 : Dt) : St := ⟨tsOf [(2, (.ptr 0 [] 0)), (3, (.ptr 1 [] 0)), (21, (.dat 3 (.int x0))), (31, (.dat 4 (.bool x1)))], [(.box 25 (.dat 25 x2)), (.box 25 (.dat 25 x3))], 0⟩
noncomputable def s16_1 (x0 : Int) (x1 : Bool) (x2 x3 : Dt) : St := ⟨tsOf [(2, (.ptr 0 [] 0)), (3, (.ptr 1 [] 0)), (21, (.dat 3 (.int x0))), (22, (.dat 4 (.bool x1)))], [(.box 25 (.dat 25 x2)), (.box 25 (.dat 25 x3))], 0⟩
abbrev H16_4 (m M4 : Nat) (rec4 : Int → Int → Dt → Dt → Option Int) : Prop := ∀ x0 x1 x2 x3, l16 jn m w16_0 [] M4 (s16_6 x0 x1 x2 x3) = rec4 x0 x1 x2 x3
theorem value_Compare_j6_eq m M4 rec4 (h4 : H16_4 m M4 rec4) x0 x1 x2 x3 : e16 jn m w16_1 [M4] (s16_6 x0 x1 x2 x3) = value_Compare_j6 m (value_Compare m) rec4 x0 x1 x2 x3 :=
  tre (g := fun J => (jj J 1 14 M4 (s16_6 x0 (IntKind.wrap .i64 (x1 + 1)) x2 x3) (l16 J m w16_0 [] M4))) (fun J => by kernel_rfl) (by simp only [jj_eq, h4]; rfl)
theorem value_Compare_j5_eq m M4 rec4 (h4 : H16_4 m M4 rec4) x0 x1 x2 x3 : e16 jn m w16_2 [M4] (s16_6 x0 x1 x2 x3) = value_Compare_j5 m (value_Compare m) rec4 x0 x1 x2 x3 :=
  tre (g := fun J => ((idx (Dt.L x2 3) x1).bind fun v3 =>
   ((idx (Dt.L x3 3) x1).bind fun v4 =>
   ((value_Compare m v3 v4).bind fun r5 =>
   (bif (r5 != 0) then
   some r5
   else
   (jj J 0 19 0 (s16_6 x0 x1 x2 x3) (e16 J m w16_1 [M4]))))))) (fun J => by kernel_rfl) (by simp only [jj_eq, value_Compare_j6_eq m M4 rec4 h4]; rfl)
theorem value_Compare_j7_eq m x0 x1 : e16 jn m w16_3 [] (s16_7 x0 x1) = value_Compare_j7 m (value_Compare m) x0 x1 :=
  tre (g := fun J => ((cmp_Compare m (List.length (Dt.L x0 3) : Int) (List.length (Dt.L x1 3) : Int)).bind fun r6 =>
   some r6)) (fun J => by kernel_rfl) (by rfl)
theorem value_Compare_l4_eq m : ∀ M4 x0 x1 x2 x3, l16 jn m w16_0 [] M4 (s16_6 x0 x1 x2 x3) = value_Compare_l4 m (value_Compare m) M4 x0 x1 x2 x3
  | 0, _, _, _, _ => rfl
  | M4 + 1, x0, x1, x2, x3 =>
    trl (g := fun J => (bif (decide (x1 < x0)) then
   (jj J 0 15 0 (s16_6 x0 x1 x2 x3) (e16 J m w16_2 [M4]))
    else
   (jj J 0 20 0 (s16_7 x2 x3) (e16 J m w16_3 [])))) (fun J => by kernel_rfl) (by simp only [jj_eq, value_Compare_j5_eq m M4 (value_Compare_l4 m (value_Compare m) M4) (value_Compare_l4_eq m M4), value_Compare_j7_eq m]; rfl)
theorem value_Compare_j3_eq m x0 x1 x2 x3 : e16 jn m w16_4 [] (s16_6 x0 x1 x2 x3) = value_Compare_j3 m (value_Compare m) x0 x1 x2 x3 :=
  tre (g := fun J => (jj J 1 14 (Nat.succ m) (s16_6 x0 x1 x2 x3) (l16 J m w16_0 [] (Nat.succ m)))) (fun J => by kernel_rfl) (by simp only [jj_eq, value_Compare_l4_eq m]; rfl)
abbrev H16_9 (m M9 : Nat) (rec9 : Int → Int → Dt → Dt → Option Int) : Prop := ∀ x0 x1 x2 x3, l16 jn m w16_5 [] M9 (s16_12 x0 x1 x2 x3) = rec9 x0 x1 x2 x3
theorem value_Compare_j12_eq m M9 rec9 (h9 : H16_9 m M9 rec9) x0 x1 x2 x3 : e16 jn m w16_6 [M9] (s16_12 x0 x1 x2 x3) = value_Compare_j12 m (value_Compare m) rec9 x0 x1 x2 x3 :=
  tre (g := fun J => (jj J 1 23 M9 (s16_12 x0 (IntKind.wrap .i64 (x1 + 1)) x2 x3) (l16 J m w16_5 [] M9))) (fun J => by kernel_rfl) (by simp only [jj_eq, h9]; rfl)
theorem value_Compare_j11_eq m M9 rec9 (h9 : H16_9 m M9 rec9) x0 x1 x2 x3 x4 : e16 jn m w16_7 [M9] (s16_11 x0 x1 x2 x3 x4) = value_Compare_j11 m (value_Compare m) rec9 x0 x1 x2 x3 x4 :=
  tre (g := fun J => ((idx (Dt.L x3 4) x0).bind fun v10 =>
   ((idx (Dt.L x4 4) x0).bind fun v11 =>
   ((value_Compare m (Dt.fld v10 1) (Dt.fld v11 1)).bind fun r12 =>
   (bif (r12 != 0) then
   some r12
   else
   (jj J 0 31 0 (s16_12 x1 x2 x3 x4) (e16 J m w16_6 [M9]))))))) (fun J => by kernel_rfl) (by simp only [jj_eq, value_Compare_j12_eq m M9 rec9 h9]; rfl)
theorem value_Compare_j10_eq m M9 rec9 (h9 : H16_9 m M9 rec9) x0 x1 x2 x3 : e16 jn m w16_8 [M9] (s16_12 x0 x1 x2 x3) = value_Compare_j10 m (value_Compare m) rec9 x0 x1 x2 x3 :=
  tre (g := fun J => ((idx (Dt.L x2 4) x1).bind fun v7 =>
   ((idx (Dt.L x3 4) x1).bind fun v8 =>
   ((strings_CompareN (Dt.S v7 0) (Dt.S v8 0)).bind fun r9 =>
   (bif (r9 != 0) then
   some r9
   else
   (jj J 0 28 0 (s16_11 x1 x0 x1 x2 x3) (e16 J m w16_7 [M9]))))))) (fun J => by kernel_rfl) (by simp only [jj_eq, value_Compare_j11_eq m M9 rec9 h9]; rfl)
theorem value_Compare_j13_eq m x0 x1 : e16 jn m w16_9 [] (s16_7 x0 x1) = value_Compare_j13 m (value_Compare m) x0 x1 :=
  tre (g := fun J => ((cmp_Compare m (List.length (Dt.L x0 4) : Int) (List.length (Dt.L x1 4) : Int)).bind fun r13 =>
   some r13)) (fun J => by kernel_rfl) (by rfl)
theorem value_Compare_l9_eq m : ∀ M9 x0 x1 x2 x3, l16 jn m w16_5 [] M9 (s16_12 x0 x1 x2 x3) = value_Compare_l9 m (value_Compare m) M9 x0 x1 x2 x3
  | 0, _, _, _, _ => rfl
  | M9 + 1, x0, x1, x2, x3 =>
    trl (g := fun J => (bif (decide (x1 < x0)) then
   (jj J 0 24 0 (s16_12 x0 x1 x2 x3) (e16 J m w16_8 [M9]))
    else
   (jj J 0 32 0 (s16_7 x2 x3) (e16 J m w16_9 [])))) (fun J => by kernel_rfl) (by simp only [jj_eq, value_Compare_j10_eq m M9 (value_Compare_l9 m (value_Compare m) M9) (value_Compare_l9_eq m M9), value_Compare_j13_eq m]; rfl)
theorem value_Compare_j8_eq m x0 x1 x2 x3 : e16 jn m w16_10 [] (s16_12 x0 x1 x2 x3) = value_Compare_j8 m (value_Compare m) x0 x1 x2 x3 :=
  tre (g := fun J => (jj J 1 23 (Nat.succ m) (s16_12 x0 x1 x2 x3) (l16 J m w16_5 [] (Nat.succ m)))) (fun J => by kernel_rfl) (by simp only [jj_eq, value_Compare_l9_eq m]; rfl)
theorem value_Compare_j14_eq m : e16 jn m [1, 1, 1] [] s16_14 = value_Compare_j14 m (value_Compare m) :=
  tre (g := fun J => some 0) (fun J => by kernel_rfl) (by rfl)
theorem value_Compare_j2_eq m x0 x1 x2 x3 : e16 jn m w16_11 [] (s16_2 x0 x1 x2 x3) = value_Compare_j2 m (value_Compare m) x0 x1 x2 x3 :=
  tre (g := fun J => (bif x1 then
   ((strings_CompareN (Dt.S x2 2) (Dt.S x3 2)).bind fun r2 =>
   some r2)
    else
   (bif (x0 == 6) then
   (jj J 0 14 0 (s16_6 (bif (decide ((List.length (Dt.L x3 3) : Int) < (List.length (Dt.L x2 3) : Int))) then (List.length (Dt.L x3 3) : Int) else (List.length (Dt.L x2 3) : Int)) 0 x2 x3) (e16 J m w16_4 []))
   else
   (bif (x0 == 5) then
   (jj J 0 23 0 (s16_12 (bif (decide ((List.length (Dt.L x3 4) : Int) < (List.length (Dt.L x2 4) : Int))) then (List.length (Dt.L x3 4) : Int) else (List.length (Dt.L x2 4) : Int)) 0 x2 x3) (e16 J m w16_10 []))
   else
   (jj J 0 33 0 s16_14 (e16 J m [1, 1, 1] [])))))) (fun J => by kernel_rfl) (by simp only [jj_eq, value_Compare_j3_eq m, value_Compare_j8_eq m, value_Compare_j14_eq m]; rfl)
theorem value_Compare_j1_eq m x0 x1 x2 x3 : e16 jn m w16_12 [] (s16_1 x0 x1 x2 x3) = value_Compare_j1 m (value_Compare m) x0 x1 x2 x3 :=
  tre (g := fun J => (bif x1 then
   ((cmp_Compare m (Dt.I x2 1) (Dt.I x3 1)).bind fun r1 =>
   some r1)
    else
   (bif (x0 == 4) then
   (jj J 0 11 0 (s16_2 x0 (x0 == 4) x2 x3) (e16 J m w16_11 []))
   else
   (bif (x0 == 7) then
   (jj J 0 11 0 (s16_2 x0 (x0 == 7) x2 x3) (e16 J m w16_11 []))
   else
   (jj J 0 11 0 (s16_2 x0 (x0 == 8) x2 x3) (e16 J m w16_11 [])))))) (fun J => by kernel_rfl) (by simp only [jj_eq, value_Compare_j2_eq m]; rfl)
theorem value_Compare_j0_eq m x0 x1 : e16 jn m [1, 1] [] (s16_7 x0 x1) = value_Compare_j0 m (value_Compare m) x0 x1 :=
  tre (g := fun J => (bif ((Dt.I x0 0) == 3) then
   (jj J 0 7 0 (s16_1 (Dt.I x0 0) ((Dt.I x0 0) == 3) x0 x1) (e16 J m w16_12 []))
    else
   (bif ((Dt.I x0 0) == 9) then
   (jj J 0 7 0 (s16_1 (Dt.I x0 0) ((Dt.I x0 0) == 9) x0 x1) (e16 J m w16_12 []))
   else
   (jj J 0 7 0 (s16_1 (Dt.I x0 0) ((Dt.I x0 0) == 10) x0 x1) (e16 J m w16_12 []))))) (fun J => by kernel_rfl) (by simp only [jj_eq, value_Compare_j1_eq m]; rfl)
theorem value_Compare_eq m a0 a1 : e16 jn m [] [] ⟨[(.dat 25 a0), (.dat 25 a1)], [], 0⟩ = value_Compare (m + 1) a0 a1 :=
  tre (g := fun J => (bif ((Dt.I a0 0) != (Dt.I a1 0)) then
   ((cmp_Compare m (Dt.I a0 0) (Dt.I a1 0)).bind fun r0 =>
   some r0)
    else
   (jj J 0 3 0 (s16_7 a0 a1) (e16 J m [1, 1] [])))) (fun J => by kernel_rfl) (by simp only [jj_eq, value_Compare_j0_eq m]; rfl)
def w15_0 : List Nat := [1, 1, 1, 0, 0]
def w15_1 : List Nat := [1, 1, 1, 0, 0, 0, 1]
noncomputable def e15 (J : Nat → Nat → Nat → St → Option (Int × Bool) → Option (Int × Bool)) (m : Nat) (p ms : List Nat) (σ : St) := evAt Tryz.prog env (ct m) J (m + 1) 164 49 Tryz.f164 d15 p ms σ
noncomputable def l15 (J : Nat → Nat → Nat → St → Option (Int × Bool) → Option (Int × Bool)) (m : Nat) (p ms : List Nat) (M : Nat) (σ : St) := loopAt Tryz.prog env (ct m) J (m + 1) 164 49 Tryz.f164 d15 p ms M σ
noncomputable def s15_2 (x0 : List Dt) (x1 x2 x3 : Int) (x4 : Dt) : St := ⟨tsOf [(0, (.dat 22 (.lst x0))), (2, (.fn 92 [])), (4, (.ptr 0 [] 0)), (8, (.dat 3 (.int x1))), (9, (.dat 3 (.int x2))), (10, (.dat 3 (.int x3)))], [(.box 25 (.dat 25 x4))], 0⟩
noncomputable def s15_3 (x0 : List Dt) (x1 x2 : Int) (x3 : Dt) : St := ⟨tsOf [(0, (.dat 22 (.lst x0))), (2, (.fn 92 [])), (4, (.ptr 0 [] 0)), (8, (.dat 3 (.int x1))), (9, (.dat 3 (.int x2)))], [(.box 25 (.dat 25 x3))], 0⟩
abbrev H15_1 (m M1 : Nat) (rec1 : List Dt → Int → Int → Int → Dt → Option (Int × Bool)) : Prop := ∀ x0 x1 x2 x3 x4, l15 jn m w15_0 [] M1 (s15_2 x0 x1 x2 x3 x4) = rec1 x0 x1 x2 x3 x4
theorem i15_j2_eq m M1 rec1 (h1 : H15_1 m M1 rec1) x0 x1 x2 x3 x4 : e15 jn m w15_1 [M1] (s15_2 x0 x1 x2 x3 x4) = i15_j2 m rec1 x0 x1 x2 x3 x4 :=
  tre (g := fun J => ((idx x0 (IntKind.wrap .i64 (shrI IntKind.u64 (IntKind.wrap IntKind.u64 (IntKind.wrap .i64 (x2 + x3))) 1))).bind fun v0 =>
   ((value_Compare m v0 x4).bind fun r1 =>
   (bif (decide (r1 < 0)) then
   (jj J 1 3 M1 (s15_2 x0 x1 (IntKind.wrap .i64 ((IntKind.wrap .i64 (shrI IntKind.u64 (IntKind.wrap IntKind.u64 (IntKind.wrap .i64 (x2 + x3))) 1)) + 1)) x3 x4) (l15 J m w15_0 [] M1))
   else
   (jj J 1 3 M1 (s15_2 x0 x1 x2 (IntKind.wrap .i64 (shrI IntKind.u64 (IntKind.wrap IntKind.u64 (IntKind.wrap .i64 (x2 + x3))) 1)) x4) (l15 J m w15_0 [] M1)))))) (fun J => by kernel_rfl) (by simp only [jj_eq, h1]; rfl)
theorem i15_j3_eq m x0 x1 x2 x3 : e15 jn m [1, 1, 1, 1] [] (s15_3 x0 x1 x2 x3) = i15_j3 m x0 x1 x2 x3 :=
  tre (g := fun J => (bif (decide (x2 < x1)) then
   ((idx x0 x2).bind fun v2 =>
   ((value_Compare m v2 x3).bind fun r3 =>
   some (x2, (r3 == 0))))
    else
   some (x2, false))) (fun J => by kernel_rfl) (by rfl)
theorem i15_l1_eq m : ∀ M1 x0 x1 x2 x3 x4, l15 jn m w15_0 [] M1 (s15_2 x0 x1 x2 x3 x4) = i15_l1 m M1 x0 x1 x2 x3 x4
  | 0, _, _, _, _, _ => rfl
  | M1 + 1, x0, x1, x2, x3, x4 =>
    trl (g := fun J => (bif (decide (x2 < x3)) then
   (jj J 0 4 0 (s15_2 x0 x1 x2 x3 x4) (e15 J m w15_1 [M1]))
    else
   (jj J 0 8 0 (s15_3 x0 x1 x2 x4) (e15 J m [1, 1, 1, 1] [])))) (fun J => by kernel_rfl) (by simp only [jj_eq, i15_j2_eq m M1 (i15_l1 m M1) (i15_l1_eq m M1), i15_j3_eq m]; rfl)
theorem i15_j0_eq m x0 x1 x2 x3 x4 : e15 jn m [1, 1, 1] [] (s15_2 x0 x1 x2 x3 x4) = i15_j0 m x0 x1 x2 x3 x4 :=
  tre (g := fun J => (jj J 1 3 (Nat.succ m) (s15_2 x0 x1 x2 x3 x4) (l15 J m w15_0 [] (Nat.succ m)))) (fun J => by kernel_rfl) (by simp only [jj_eq, i15_l1_eq m]; rfl)
theorem i15_eq m a0 a1 : e15 jn m [] [] ⟨[(.dat 22 (.lst a0)), (.dat 25 a1), (.fn 92 [])], [], 0⟩ = i15 (m + 1) a0 a1 :=
  tre (g := fun J => (jj J 0 3 0 (s15_2 a0 (List.length a0 : Int) 0 (List.length a0 : Int) a1) (e15 J m [1, 1, 1] []))) (fun J => by kernel_rfl) (by simp only [jj_eq, i15_j0_eq m]; rfl)
noncomputable def e14 (J : Nat → Nat → Nat → St → Option (List Dt) → Option (List Dt)) (m : Nat) (p ms : List Nat) (σ : St) := evAt Tryz.prog env (ct m) J (m + 1) 163 32 Tryz.f163 d14 p ms σ
noncomputable def l14 (J : Nat → Nat → Nat → St → Option (List Dt) → Option (List Dt)) (m : Nat) (p ms : List Nat) (M : Nat) (σ : St) := loopAt Tryz.prog env (ct m) J (m + 1) 163 32 Tryz.f163 d14 p ms M σ
noncomputable def s14_1 (x0 : List Dt) : St := ⟨tsOf [(1, (.row 1))], [.gone, (.row 22 x0)], 1⟩
noncomputable def s14_0 (x0 : Int) (x1 : Bool) (x2 : List Dt) (x3 : Dt) : St := ⟨tsOf [(1, (.row 1)), (5, (.ptr 2 [] 0)), (7, (.dat 3 (.int x0))), (20, (.dat 4 (.bool x1)))], [.gone, (.row 22 x2), (.box 25 (.dat 25 x3))], 1⟩
theorem i14_j1_eq m x0 : e14 jn m [1, 1, 1] [] (s14_1 x0) = i14_j1 m x0 :=
  tre (g := fun J => some x0) (fun J => by kernel_rfl) (by rfl)
theorem i14_j0_eq m x0 x1 x2 x3 : e14 jn m [1, 1, 0, 1] [] (s14_0 x0 x1 x2 x3) = i14_j0 m x0 x1 x2 x3 :=
  tre (g := fun J => (bif x1 then
   ((slices_Insert x0 x2 [x3]).bind fun r1 =>
   ((cutL r1 0 (bif (decide (1024 < (List.length r1 : Int))) then 1024 else (List.length r1 : Int))).bind fun v2 =>
   (jj J 0 5 0 (s14_1 v2) (e14 J m [1, 1, 1] []))))
    else
   (jj J 0 5 0 (s14_1 x2) (e14 J m [1, 1, 1] [])))) (fun J => by kernel_rfl) (by simp only [jj_eq, i14_j1_eq m]; rfl)
theorem i14_eq m a0 a1 a2 : e14 jn m [] [] ⟨[(.dat 93 a0), (.row 0), (.dat 25 a1)], [(.row 22 a2)], 1⟩ = i14 (m + 1) a0 a1 a2 :=
  tre (g := fun J => ((i15 m a2 a1).bind fun r0 =>
   (bif (Bool.not r0.2) then
   (jj J 0 3 0 (s14_0 r0.1 (decide (r0.1 < 1024)) a2 a1) (e14 J m [1, 1, 0, 1] []))
   else
   (jj J 0 3 0 (s14_0 r0.1 false a2 a1) (e14 J m [1, 1, 0, 1] []))))) (fun J => by kernel_rfl) (by simp only [jj_eq, i14_j0_eq m]; rfl)
def w13_1 : List Nat := [1, 0, 1, 0, 0, 1, 1]
def w13_0 : List Nat := w13_1 ++ [1]
noncomputable def e13 (J : Nat → Nat → Nat → St → Option (Dt × List Dt × List Dt) → Option (Dt × List Dt × List Dt)) (m : Nat) (p ms : List Nat) (σ : St) := evAt Tryz.prog env (ct m) J (m + 1) 161 26 Tryz.f161 d12 p ms σ
noncomputable def l13 (J : Nat → Nat → Nat → St → Option (Dt × List Dt × List Dt) → Option (Dt × List Dt × List Dt)) (m : Nat) (p ms : List Nat) (M : Nat) (σ : St) := loopAt Tryz.prog env (ct m) J (m + 1) 161 26 Tryz.f161 d12 p ms M σ
noncomputable def s13_3 (x0 : List Dt) (x1 x2 : Int) (x3 x4 : List Dt) (x5 : Dt) (x6 x7 x8 : Int) (x9 : Dt) (x10 x11 : List Dt) (x12 : Dt) : St := ⟨tsOf [(4, (.ptr 4 [] 0)), (6, (.ptr 5 [] 0)), (8, (.ptr 8 [] 0)), (12, (.dat 22 (.lst x0))), (13, (.dat 3 (.int x1))), (14, (.dat 3 (.int x2)))], [.gone, .gone, (.frz 22 x3), (.row 22 x4), (.box 93 (.dat 93 x5)), (.box 29 (.agg 29 [(.dat 3 (.int x6)), (.dat 3 (.int x7)), (.dat 3 (.int x8)), (.dat 25 x9), (.row 6), (.row 7)])), (.row 22 x10), (.row 22 x11), (.box 29 (.dat 29 x12))], 4⟩
noncomputable def s13_4 (x0 x1 : List Dt) (x2 x3 x4 : Int) (x5 : Dt) (x6 x7 : List Dt) (x8 : Dt) : St := ⟨tsOf [(6, (.ptr 4 [] 0)), (8, (.ptr 7 [] 0))], [.gone, .gone, (.frz 22 x0), (.row 22 x1), (.box 29 (.agg 29 [(.dat 3 (.int x2)), (.dat 3 (.int x3)), (.dat 3 (.int x4)), (.dat 25 x5), (.row 5), (.row 6)])), (.row 22 x6), (.row 22 x7), (.box 29 (.dat 29 x8))], 4⟩
abbrev H13_1 (m M1 : Nat) (rec1 : List Dt → Int → Int → List Dt → List Dt → Dt → Int → Int → Int → Dt → List Dt → List Dt → Dt → Option (Dt × List Dt × List Dt)) : Prop := ∀ x0 x1 x2 x3 x4 x5 x6 x7 x8 x9 x10 x11 x12, l13 jn m [1, 0, 1, 0] [] M1 (s13_3 x0 x1 x2 x3 x4 x5 x6 x7 x8 x9 x10 x11 x12) = rec1 x0 x1 x2 x3 x4 x5 x6 x7 x8 x9 x10 x11 x12
theorem i13_j3_eq m M1 rec1 (h1 : H13_1 m M1 rec1) x0 x1 x2 x3 x4 x5 x6 x7 x8 x9 x10 x11 x12 : e13 jn m w13_0 [M1] (s13_3 x0 x1 x2 x3 x4 x5 x6 x7 x8 x9 x10 x11 x12) = i13_j3 m rec1 x0 x1 x2 x3 x4 x5 x6 x7 x8 x9 x10 x11 x12 :=
  tre (g := fun J => (jj J 1 2 M1 (s13_3 x0 x1 (IntKind.wrap .i64 (x2 + 1)) x3 x4 x5 x6 x7 x8 x9 x10 x11 x12) (l13 J m [1, 0, 1, 0] [] M1))) (fun J => by kernel_rfl) (by simp only [jj_eq, h1]; rfl)
theorem i13_j2_eq m M1 rec1 (h1 : H13_1 m M1 rec1) x0 x1 x2 x3 x4 x5 x6 x7 x8 x9 x10 x11 x12 : e13 jn m w13_1 [M1] (s13_3 x0 x1 x2 x3 x4 x5 x6 x7 x8 x9 x10 x11 x12) = i13_j2 m rec1 x0 x1 x2 x3 x4 x5 x6 x7 x8 x9 x10 x11 x12 :=
  tre (g := fun J => ((idx x0 x2).bind fun v0 =>
   ((i14 m x5 v0 x10).bind fun r1 =>
   (jj J 0 5 0 (s13_3 x0 x1 x2 x3 x4 x5 x6 x7 x8 x9 r1 x11 x12) (e13 J m w13_0 [M1]))))) (fun J => by kernel_rfl) (by simp only [jj_eq, i13_j3_eq m M1 rec1 h1]; rfl)
theorem i13_j4_eq m x0 x1 x2 x3 x4 x5 x6 x7 x8 : e13 jn m [1, 1] [] (s13_4 x0 x1 x2 x3 x4 x5 x6 x7 x8) = i13_j4 m x0 x1 x2 x3 x4 x5 x6 x7 x8 :=
  tre (g := fun J => some ((Dt.agg [(Dt.int x2), (Dt.int x3), (Dt.int x4), x5, (Dt.lst x6), (Dt.lst x7)]), x0, x1)) (fun J => by kernel_rfl) (by rfl)
theorem i13_l1_eq m : ∀ M1 x0 x1 x2 x3 x4 x5 x6 x7 x8 x9 x10 x11 x12, l13 jn m [1, 0, 1, 0] [] M1 (s13_3 x0 x1 x2 x3 x4 x5 x6 x7 x8 x9 x10 x11 x12) = i13_l1 m M1 x0 x1 x2 x3 x4 x5 x6 x7 x8 x9 x10 x11 x12
  | 0, _, _, _, _, _, _, _, _, _, _, _, _, _ => rfl
  | M1 + 1, x0, x1, x2, x3, x4, x5, x6, x7, x8, x9, x10, x11, x12 =>
    trl (g := fun J => (bif (decide (x2 < x1)) then
   (jj J 0 3 0 (s13_3 x0 x1 x2 x3 x4 x5 x6 x7 x8 x9 x10 x11 x12) (e13 J m w13_1 [M1]))
    else
   (jj J 0 6 0 (s13_4 x3 x4 x6 x7 x8 x9 x10 x11 x12) (e13 J m [1, 1] [])))) (fun J => by kernel_rfl) (by simp only [jj_eq, i13_j2_eq m M1 (i13_l1 m M1) (i13_l1_eq m M1), i13_j4_eq m]; rfl)
theorem i13_j0_eq m x0 x1 x2 x3 x4 x5 x6 x7 x8 x9 x10 x11 x12 : e13 jn m [1, 0, 1] [] (s13_3 x0 x1 x2 x3 x4 x5 x6 x7 x8 x9 x10 x11 x12) = i13_j0 m x0 x1 x2 x3 x4 x5 x6 x7 x8 x9 x10 x11 x12 :=
  tre (g := fun J => (jj J 1 2 (Nat.succ m) (s13_3 x0 x1 x2 x3 x4 x5 x6 x7 x8 x9 x10 x11 x12) (l13 J m [1, 0, 1, 0] [] (Nat.succ m)))) (fun J => by kernel_rfl) (by simp only [jj_eq, i13_l1_eq m]; rfl)
theorem i13_eq m a0 a1 a2 a3 a4 a5 a6 a7 a8 a9 a10 a11 a12 : e13 jn m [] [] ⟨[(.agg 93 []), (.dat 41 a0), (.agg 29 [(.dat 3 (.int a1)), (.dat 3 (.int a2)), (.dat 3 (.int a3)), (.dat 25 a4), (.row 0), (.row 1)]), (.agg 29 [(.dat 3 (.int a5)), (.dat 3 (.int a6)), (.dat 3 (.int a7)), (.dat 25 a8), (.row 2), (.row 3)])], [(.row 22 a9), (.row 22 a10), (.row 22 a11), (.row 22 a12)], 4⟩ = i13 (m + 1) a0 a1 a2 a3 a4 a5 a6 a7 a8 a9 a10 a11 a12 :=
  tre (g := fun J => (jj J 0 2 0 (s13_3 a11 (List.length a11 : Int) 0 a11 a12 (Dt.agg []) a1 a2 a3 a4 a9 a10 kzc575d) (e13 J m [1, 0, 1] []))) (fun J => by kernel_rfl) (by simp only [jj_eq, i13_j0_eq m]; rfl)
noncomputable def e3 (J : Nat → Nat → Nat → St → Option Dt → Option Dt) (m : Nat) (p ms : List Nat) (σ : St) := evAt Tryz.prog env (ct m) J (m + 1) 18 29 Tryz.f18 d7 p ms σ
noncomputable def l3 (J : Nat → Nat → Nat → St → Option Dt → Option Dt) (m : Nat) (p ms : List Nat) (M : Nat) (σ : St) := loopAt Tryz.prog env (ct m) J (m + 1) 18 29 Tryz.f18 d7 p ms M σ
theorem accum_Join_eq m a0 a1 a2 : e3 jn m [] [] ⟨[(.dat 41 a0), (.dat 29 a1), (.dat 29 a2)], [], 0⟩ = accum_Join (m + 1) a0 a1 a2 :=
  tre (g := fun J => ((accum_copyPart m a1).bind fun r0 =>
   (bif ((Dt.I a0 1) == 8) then
   ((accum_copyPart m a2).bind fun r1 =>
   ((i12 m a0 r0.1 r0.2.1 r0.2.2.1 r0.2.2.2.1 r1.1 r1.2.1 r1.2.2.1 r1.2.2.2.1 r0.2.2.2.2.1 r0.2.2.2.2.2 r1.2.2.2.2.1 r1.2.2.2.2.2).bind fun r2 =>
   some r2.1))
   else
   (bif ((Dt.I a0 1) == 9) then
   ((accum_copyPart m a2).bind fun r3 =>
   ((i13 m a0 r0.1 r0.2.1 r0.2.2.1 r0.2.2.2.1 r3.1 r3.2.1 r3.2.2.1 r3.2.2.2.1 r0.2.2.2.2.1 r0.2.2.2.2.2 r3.2.2.2.2.1 r3.2.2.2.2.2).bind fun r4 =>
   some r4.1))
   else
   none)))) (fun J => by kernel_rfl) (by rfl)
noncomputable def e22 (J : Nat → Nat → Nat → St → Option (List Dt) → Option (List Dt)) (m : Nat) (p ms : List Nat) (σ : St) := evAt Tryz.prog env (ct m) J (m + 1) 163 32 Tryz.f163 d14 p ms σ
noncomputable def l22 (J : Nat → Nat → Nat → St → Option (List Dt) → Option (List Dt)) (m : Nat) (p ms : List Nat) (M : Nat) (σ : St) := loopAt Tryz.prog env (ct m) J (m + 1) 163 32 Tryz.f163 d14 p ms M σ
noncomputable def s22_1 (x0 : List Dt) : St := ⟨tsOf [(1, (.row 1))], [.gone, (.row 22 x0)], 1⟩
noncomputable def s22_0 (x0 : Int) (x1 : Bool) (x2 : List Dt) (x3 : Dt) : St := ⟨tsOf [(1, (.row 1)), (5, (.ptr 2 [] 0)), (7, (.dat 3 (.int x0))), (20, (.dat 4 (.bool x1)))], [.gone, (.row 22 x2), (.box 25 (.dat 25 x3))], 1⟩
theorem i22_j1_eq m x0 : e22 jn m [1, 1, 1] [] (s22_1 x0) = i22_j1 m x0 :=
  tre (g := fun J => some x0) (fun J => by kernel_rfl) (by rfl)
theorem i22_j0_eq m x0 x1 x2 x3 : e22 jn m [1, 1, 0, 1] [] (s22_0 x0 x1 x2 x3) = i22_j0 m x0 x1 x2 x3 :=
  tre (g := fun J => (bif x1 then
   ((slices_Insert x0 x2 [x3]).bind fun r1 =>
   ((cutL r1 0 (bif (decide (1024 < (List.length r1 : Int))) then 1024 else (List.length r1 : Int))).bind fun v2 =>
   (jj J 0 5 0 (s22_1 v2) (e22 J m [1, 1, 1] []))))
    else
   (jj J 0 5 0 (s22_1 x2) (e22 J m [1, 1, 1] [])))) (fun J => by kernel_rfl) (by simp only [jj_eq, i22_j1_eq m]; rfl)
theorem i22_eq m a0 a1 : e22 jn m [] [] ⟨[(.agg 93 []), (.row 0), (.dat 25 a0)], [(.row 22 a1)], 1⟩ = i22 (m + 1) a0 a1 :=
  tre (g := fun J => ((i15 m a1 a0).bind fun r0 =>
   (bif (Bool.not r0.2) then
   (jj J 0 3 0 (s22_0 r0.1 (decide (r0.1 < 1024)) a1 a0) (e22 J m [1, 1, 0, 1] []))
   else
   (jj J 0 3 0 (s22_0 r0.1 false a1 a0) (e22 J m [1, 1, 0, 1] []))))) (fun J => by kernel_rfl) (by simp only [jj_eq, i22_j0_eq m]; rfl)
noncomputable def e21 (J : Nat → Nat → Nat → St → Option (Dt × List Dt) → Option (Dt × List Dt)) (m : Nat) (p ms : List Nat) (σ : St) := evAt Tryz.prog env (ct m) J (m + 1) 160 20 Tryz.f160 d21 p ms σ
noncomputable def l21 (J : Nat → Nat → Nat → St → Option (Dt × List Dt) → Option (Dt × List Dt)) (m : Nat) (p ms : List Nat) (M : Nat) (σ : St) := loopAt Tryz.prog env (ct m) J (m + 1) 160 20 Tryz.f160 d21 p ms M σ
theorem i21_eq m a0 a1 a2 a3 a4 a5 a6 a7 : e21 jn m [] [] ⟨[(.agg 93 []), (.dat 41 a0), (.agg 29 [(.dat 3 (.int a1)), (.dat 3 (.int a2)), (.dat 3 (.int a3)), (.dat 25 a4), (.row 0), (.row 1)]), (.dat 25 a5)], [(.row 22 a6), (.row 22 a7)], 2⟩ = i21 (m + 1) a0 a1 a2 a3 a4 a5 a6 a7 :=
  tre (g := fun J => ((expr_EvalC (Dt.fld a0 2) a5).bind fun r0 =>
   ((accum_orNull m r0).bind fun r1 =>
   ((i22 m r1 a6).bind fun r2 =>
   some ((Dt.agg [(Dt.int a1), (Dt.int a2), (Dt.int a3), a4, (Dt.lst r2), (Dt.lst a7)]), a7))))) (fun J => by kernel_rfl) (by rfl)
noncomputable def e8 (J : Nat → Nat → Nat → St → Option Dt → Option Dt) (m : Nat) (p ms : List Nat) (σ : St) := evAt Tryz.prog env (ct m) J (m + 1) 22 25 Tryz.f22 d7 p ms σ
noncomputable def l8 (J : Nat → Nat → Nat → St → Option Dt → Option Dt) (m : Nat) (p ms : List Nat) (M : Nat) (σ : St) := loopAt Tryz.prog env (ct m) J (m + 1) 22 25 Tryz.f22 d7 p ms M σ
theorem accum_Add_eq m a0 a1 a2 : e8 jn m [] [] ⟨[(.dat 41 a0), (.dat 29 a1), (.dat 25 a2)], [], 0⟩ = accum_Add (m + 1) a0 a1 a2 :=
  tre (g := fun J => ((accum_copyPart m a1).bind fun r0 =>
   (bif ((Dt.I a0 1) == 8) then
   ((i18 m a0 r0.1 r0.2.1 r0.2.2.1 r0.2.2.2.1 a2 r0.2.2.2.2.1 r0.2.2.2.2.2).bind fun r1 =>
   some r1)
   else
   (bif ((Dt.I a0 1) == 9) then
   ((i21 m a0 r0.1 r0.2.1 r0.2.2.1 r0.2.2.2.1 a2 r0.2.2.2.2.1 r0.2.2.2.2.2).bind fun r2 =>
   some r2.1)
   else
   none)))) (fun J => by kernel_rfl) (by rfl)
def w2_0 : List Nat := [1, 1, 0, 1, 0]
def w2_2 : List Nat := [1, 1, 0, 1, 0, 0, 1]
def w2_1 : List Nat := w2_2 ++ [1]
noncomputable def e2 (J : Nat → Nat → Nat → St → Option Dt → Option Dt) (m : Nat) (p ms : List Nat) (σ : St) := evAt Tryz.prog env (ct m) J (m + 1) 14 23 Tryz.f14 d7 p ms σ
noncomputable def l2 (J : Nat → Nat → Nat → St → Option Dt → Option Dt) (m : Nat) (p ms : List Nat) (M : Nat) (σ : St) := loopAt Tryz.prog env (ct m) J (m + 1) 14 23 Tryz.f14 d7 p ms M σ
noncomputable def s2_3 (x0 : List Dt) (x1 : Int) (x2 x3 x4 : Dt) : St := ⟨tsOf [(1, (.dat 22 (.lst x0))), (2, (.ptr 0 [] 0)), (4, (.ptr 1 [] 0)), (5, (.ptr 2 [] 0)), (6, (.dat 3 (.int x1)))], [(.box 41 (.dat 41 x2)), (.box 29 (.dat 29 x3)), (.box 29 (.dat 29 x4))], 0⟩
noncomputable def s2_4 (x0 x1 : Dt) : St := ⟨tsOf [(4, (.ptr 0 [] 0)), (5, (.ptr 1 [] 0))], [(.box 29 (.dat 29 x0)), (.box 29 (.dat 29 x1))], 0⟩
abbrev H2_1 (m M1 : Nat) (rec1 : List Dt → Int → Dt → Dt → Dt → Option Dt) : Prop := ∀ x0 x1 x2 x3 x4, l2 jn m w2_0 [] M1 (s2_3 x0 x1 x2 x3 x4) = rec1 x0 x1 x2 x3 x4
theorem law32_run_j3_eq m M1 rec1 (h1 : H2_1 m M1 rec1) x0 x1 x2 x3 x4 : e2 jn m w2_1 [M1] (s2_3 x0 x1 x2 x3 x4) = law32_run_j3 m rec1 x0 x1 x2 x3 x4 :=
  tre (g := fun J => (jj J 1 3 M1 (s2_3 x0 (IntKind.wrap .i64 (x1 + 1)) x2 x3 x4) (l2 J m w2_0 [] M1))) (fun J => by kernel_rfl) (by simp only [jj_eq, h1]; rfl)
theorem law32_run_j2_eq m M1 rec1 (h1 : H2_1 m M1 rec1) x0 x1 x2 x3 x4 : e2 jn m w2_2 [M1] (s2_3 x0 x1 x2 x3 x4) = law32_run_j2 m rec1 x0 x1 x2 x3 x4 :=
  tre (g := fun J => ((idx x0 x1).bind fun v1 =>
   ((accum_Add m x2 x4 v1).bind fun r2 =>
   (jj J 0 4 0 (s2_3 x0 x1 x2 x3 r2) (e2 J m w2_1 [M1]))))) (fun J => by kernel_rfl) (by simp only [jj_eq, law32_run_j3_eq m M1 rec1 h1]; rfl)
theorem law32_run_j4_eq m x0 x1 : e2 jn m [1, 1, 1] [] (s2_4 x0 x1) = law32_run_j4 m x0 x1 :=
  tre (g := fun J => some x1) (fun J => by kernel_rfl) (by rfl)
theorem law32_run_l1_eq m : ∀ M1 x0 x1 x2 x3 x4, l2 jn m w2_0 [] M1 (s2_3 x0 x1 x2 x3 x4) = law32_run_l1 m M1 x0 x1 x2 x3 x4
  | 0, _, _, _, _, _ => rfl
  | M1 + 1, x0, x1, x2, x3, x4 =>
    trl (g := fun J => (bif (decide (x1 < (List.length x0 : Int))) then
   (jj J 0 5 0 (s2_3 x0 x1 x2 x3 x4) (e2 J m w2_2 [M1]))
    else
   (jj J 0 6 0 (s2_4 x3 x4) (e2 J m [1, 1, 1] [])))) (fun J => by kernel_rfl) (by simp only [jj_eq, law32_run_j2_eq m M1 (law32_run_l1 m M1) (law32_run_l1_eq m M1), law32_run_j4_eq m]; rfl)
theorem law32_run_j0_eq m x0 x1 x2 x3 x4 : e2 jn m [1, 1, 0, 1] [] (s2_3 x0 x1 x2 x3 x4) = law32_run_j0 m x0 x1 x2 x3 x4 :=
  tre (g := fun J => (jj J 1 3 (Nat.succ m) (s2_3 x0 x1 x2 x3 x4) (l2 J m w2_0 [] (Nat.succ m)))) (fun J => by kernel_rfl) (by simp only [jj_eq, law32_run_l1_eq m]; rfl)
theorem law32_run_eq m a0 a1 : e2 jn m [] [] ⟨[(.dat 41 a0), (.dat 22 (.lst a1))], [], 0⟩ = law32_run (m + 1) a0 a1 :=
  tre (g := fun J => ((accum_Start m a0).bind fun r0 =>
   (jj J 0 3 0 (s2_3 a1 0 a0 kzc575d r0) (e2 J m [1, 1, 0, 1] [])))) (fun J => by kernel_rfl) (by simp only [jj_eq, law32_run_j0_eq m]; rfl)
def w0_21 : List Nat := [1, 1, 1, 1, 1, 1, 1]
def w0_22 : List Nat := [1, 1, 1, 1, 1, 1, 0, 1]
def w0_0 : List Nat := w0_22 ++ [0]
def w0_2 : List Nat := w0_0 ++ [0, 1]
def w0_1 : List Nat := w0_2 ++ [1]
def w0_20 : List Nat := w0_21 ++ [1, 1, 1, 1, 1]
def w0_18 : List Nat := w0_20 ++ [1]
def w0_19 : List Nat := w0_20 ++ [0, 1]
def w0_16 : List Nat := w0_18 ++ [1, 1]
def w0_17 : List Nat := w0_18 ++ [1, 0, 1]
def w0_3 : List Nat := w0_17 ++ [0]
def w0_14 : List Nat := w0_16 ++ [1, 1]
def w0_15 : List Nat := w0_16 ++ [1, 0, 1]
def w0_5 : List Nat := w0_3 ++ [0, 1]
def w0_6 : List Nat := w0_15 ++ [0]
def w0_4 : List Nat := w0_5 ++ [1]
def w0_13 : List Nat := w0_6 ++ [0, 1]
def w0_9 : List Nat := w0_13 ++ [1]
def w0_12 : List Nat := w0_13 ++ [0, 0, 1]
def w0_7 : List Nat := w0_13 ++ [0, 0, 0, 0]
def w0_10 : List Nat := w0_12 ++ [1]
def w0_11 : List Nat := w0_12 ++ [0, 1]
def w0_8 : List Nat := w0_7 ++ [0, 1]
noncomputable def e0 (J : Nat → Nat → Nat → St → Option Bool → Option Bool) (m : Nat) (p ms : List Nat) (σ : St) := evAt Tryz.prog env (ct m) J (m + 1) 7 155 Tryz.f7 d4 p ms σ
noncomputable def l0 (J : Nat → Nat → Nat → St → Option Bool → Option Bool) (m : Nat) (p ms : List Nat) (M : Nat) (σ : St) := loopAt Tryz.prog env (ct m) J (m + 1) 7 155 Tryz.f7 d4 p ms M σ
noncomputable def s0_3 (x0 x1 x2 x3 : Int) (x4 x5 : Dt) (x6 : List Dt) : St := ⟨tsOf [(1, (.dat 54 (.int x0))), (2, (.dat 5 (.int x1))), (7, (.dat 3 (.int x2))), (8, (.ptr 0 [] 0)), (9, (.ptr 1 [] 0)), (10, (.row 2)), (11, (.dat 3 (.int x3)))], [(.box 41 (.dat 41 x4)), (.box 41 (.dat 41 x5)), (.row 22 x6)], 0⟩
noncomputable def s0_11 (x0 : Int) (x1 : List Dt) (x2 x3 : Int) (x4 x5 x6 : Dt) : St := ⟨tsOf [(7, (.dat 3 (.int x0))), (10, (.dat 22 (.lst x1))), (13, (.ptr 0 [] 0)), (14, (.ptr 1 [] 0)), (15, (.dat 3 (.int x2))), (16, (.ptr 2 [] 0)), (17, (.dat 3 (.int x3)))], [(.box 29 (.dat 29 x4)), (.box 29 (.dat 29 x5)), (.box 55 (.dat 55 x6))], 0⟩
noncomputable def s0_17 (x0 : List Dt) (x1 x2 x3 : Int) (x4 x5 x6 : Dt) : St := ⟨tsOf [(10, (.dat 22 (.lst x0))), (13, (.ptr 0 [] 0)), (14, (.ptr 1 [] 0)), (15, (.dat 3 (.int x1))), (16, (.ptr 2 [] 0)), (18, (.dat 3 (.int x2))), (19, (.dat 3 (.int x3)))], [(.box 29 (.dat 29 x4)), (.box 29 (.dat 29 x5)), (.box 55 (.dat 55 x6))], 0⟩
noncomputable def s0_19 (x0 : List Dt) (x1 x2 x3 : Int) (x4 : Bool) (x5 x6 x7 : Dt) : St := ⟨tsOf [(10, (.dat 22 (.lst x0))), (13, (.ptr 0 [] 0)), (14, (.ptr 1 [] 0)), (15, (.dat 3 (.int x1))), (16, (.ptr 2 [] 0)), (18, (.dat 3 (.int x2))), (19, (.dat 3 (.int x3))), (151, (.dat 4 (.bool x4)))], [(.box 29 (.dat 29 x5)), (.box 29 (.dat 29 x6)), (.box 55 (.dat 55 x7))], 0⟩
noncomputable def s0_22 : St := ⟨tsOf [], [], 0⟩
noncomputable def s0_12 (x0 : List Dt) (x1 : Int) (x2 x3 x4 : Dt) : St := ⟨tsOf [(10, (.dat 22 (.lst x0))), (13, (.ptr 0 [] 0)), (14, (.ptr 1 [] 0)), (15, (.dat 3 (.int x1))), (16, (.ptr 2 [] 0))], [(.box 29 (.dat 29 x2)), (.box 29 (.dat 29 x3)), (.box 55 (.dat 55 x4))], 0⟩
noncomputable def s0_7 (x0 : Int) (x1 : List Dt) (x2 : Int) (x3 x4 : Dt) : St := ⟨tsOf [(7, (.dat 3 (.int x0))), (10, (.dat 22 (.lst x1))), (13, (.ptr 0 [] 0)), (14, (.ptr 1 [] 0)), (15, (.dat 3 (.int x2)))], [(.box 29 (.dat 29 x3)), (.box 29 (.dat 29 x4))], 0⟩
noncomputable def s0_6 (x0 : Int) (x1 : List Dt) (x2 : Int) (x3 : Bool) (x4 x5 : Dt) : St := ⟨tsOf [(7, (.dat 3 (.int x0))), (10, (.dat 22 (.lst x1))), (13, (.ptr 0 [] 0)), (14, (.ptr 1 [] 0)), (15, (.dat 3 (.int x2))), (87, (.dat 4 (.bool x3)))], [(.box 29 (.dat 29 x4)), (.box 29 (.dat 29 x5))], 0⟩
noncomputable def s0_4 (x0 x1 : Int) (x2 : List Dt) (x3 x4 : Dt) : St := ⟨tsOf [(1, (.dat 54 (.int x0))), (7, (.dat 3 (.int x1))), (8, (.ptr 0 [] 0)), (9, (.ptr 1 [] 0)), (10, (.dat 22 (.lst x2)))], [(.box 41 (.dat 41 x3)), (.box 41 (.dat 41 x4))], 0⟩
abbrev H0_1 (m M1 : Nat) (rec1 : Int → Int → Int → Int → Dt → Dt → List Dt → Option Bool) : Prop := ∀ x0 x1 x2 x3 x4 x5 x6, l0 jn m w0_0 [] M1 (s0_3 x0 x1 x2 x3 x4 x5 x6) = rec1 x0 x1 x2 x3 x4 x5 x6
theorem law32_AccumMany_j3_eq m M1 rec1 (h1 : H0_1 m M1 rec1) x0 x1 x2 x3 x4 x5 x6 : e0 jn m w0_1 [M1] (s0_3 x0 x1 x2 x3 x4 x5 x6) = law32_AccumMany_j3 m rec1 x0 x1 x2 x3 x4 x5 x6 :=
  tre (g := fun J => (jj J 1 7 M1 (s0_3 x0 x1 x2 (IntKind.wrap .i64 (x3 + 1)) x4 x5 x6) (l0 J m w0_0 [] M1))) (fun J => by kernel_rfl) (by simp only [jj_eq, h1]; rfl)
theorem law32_AccumMany_j2_eq m M1 rec1 (h1 : H0_1 m M1 rec1) x0 x1 x2 x3 x4 x5 x6 : e0 jn m w0_2 [M1] (s0_3 x0 x1 x2 x3 x4 x5 x6) = law32_AccumMany_j2 m rec1 x0 x1 x2 x3 x4 x5 x6 :=
  tre (g := fun J => ((law32_doc m (Int.tmod (IntKind.wrap .i64 (x3 * (IntKind.wrap .i64 ((IntKind.wrap .i64 (2 * (IntKind.wrap .i64 x1))) + 1)))) 2048)).bind fun r0 =>
   ((app x6 [r0]).bind fun v1 =>
   (jj J 0 8 0 (s0_3 x0 x1 x2 x3 x4 x5 v1) (e0 J m w0_1 [M1]))))) (fun J => by kernel_rfl) (by simp only [jj_eq, law32_AccumMany_j3_eq m M1 rec1 h1]; rfl)
abbrev H0_9 (m M9 : Nat) (rec9 : Int → List Dt → Int → Int → Dt → Dt → Dt → Option Bool) : Prop := ∀ x0 x1 x2 x3 x4 x5 x6, l0 jn m w0_3 [] M9 (s0_11 x0 x1 x2 x3 x4 x5 x6) = rec9 x0 x1 x2 x3 x4 x5 x6
theorem law32_AccumMany_j11_eq m M9 rec9 (h9 : H0_9 m M9 rec9) x0 x1 x2 x3 x4 x5 x6 : e0 jn m w0_4 [M9] (s0_11 x0 x1 x2 x3 x4 x5 x6) = law32_AccumMany_j11 m rec9 x0 x1 x2 x3 x4 x5 x6 :=
  tre (g := fun J => (jj J 1 20 M9 (s0_11 x0 x1 x2 (IntKind.wrap .i64 (x3 + 1)) x4 x5 x6) (l0 J m w0_3 [] M9))) (fun J => by kernel_rfl) (by simp only [jj_eq, h9]; rfl)
theorem law32_AccumMany_j10_eq m M9 rec9 (h9 : H0_9 m M9 rec9) x0 x1 x2 x3 x4 x5 x6 : e0 jn m w0_5 [M9] (s0_11 x0 x1 x2 x3 x4 x5 x6) = law32_AccumMany_j10 m rec9 x0 x1 x2 x3 x4 x5 x6 :=
  tre (g := fun J => ((idx x1 x3).bind fun v12 =>
   ((idx (Dt.L v12 4) 0).bind fun v13 =>
   ((inL (Dt.toLst x6) (Dt.I (Dt.fld v13 1) 1)).bind fun v14 =>
   (((Dt.toLst x6)[(Int.toNat (Dt.I (Dt.fld v13 1) 1))]?).bind fun v15 =>
   (jj J 0 21 0 (s0_11 x0 x1 x2 x3 x4 x5 (Dt.lst (List.set (Dt.toLst x6) (Int.toNat (Dt.I (Dt.fld v13 1) 1)) (Dt.bool true)))) (e0 J m w0_4 [M9]))))))) (fun J => by kernel_rfl) (by simp only [jj_eq, law32_AccumMany_j11_eq m M9 rec9 h9]; rfl)
abbrev H0_14 (m M14 : Nat) (rec14 : List Dt → Int → Int → Int → Dt → Dt → Dt → Option Bool) : Prop := ∀ x0 x1 x2 x3 x4 x5 x6, l0 jn m w0_6 [] M14 (s0_17 x0 x1 x2 x3 x4 x5 x6) = rec14 x0 x1 x2 x3 x4 x5 x6
abbrev H0_16 (m M14 M16 : Nat) (rec16 : List Dt → Int → Int → Int → Dt → Dt → Dt → Option Bool) : Prop := ∀ x0 x1 x2 x3 x4 x5 x6, l0 jn m w0_7 [M14] M16 (s0_17 x0 x1 x2 x3 x4 x5 x6) = rec16 x0 x1 x2 x3 x4 x5 x6
theorem law32_AccumMany_j17_eq m M14 rec14 (h14 : H0_14 m M14 rec14) M16 rec16 (h16 : H0_16 m M14 M16 rec16) x0 x1 x2 x3 x4 x5 x6 : e0 jn m w0_8 [M14, M16] (s0_17 x0 x1 x2 x3 x4 x5 x6) = law32_AccumMany_j17 m rec14 rec16 x0 x1 x2 x3 x4 x5 x6 :=
  tre (g := fun J => (jj J 1 27 M16 (s0_17 x0 x1 (IntKind.wrap .i64 (x2 + 1)) x3 x4 x5 x6) (l0 J m w0_7 [M14] M16))) (fun J => by kernel_rfl) (by simp only [jj_eq, h16]; rfl)
theorem law32_AccumMany_j21_eq m M14 rec14 (h14 : H0_14 m M14 rec14) x0 x1 x2 x3 x4 x5 x6 : e0 jn m w0_9 [M14] (s0_17 x0 x1 x2 x3 x4 x5 x6) = law32_AccumMany_j21 m rec14 x0 x1 x2 x3 x4 x5 x6 :=
  tre (g := fun J => (jj J 1 25 M14 (s0_17 x0 x1 x2 (IntKind.wrap .i64 (x3 + 1)) x4 x5 x6) (l0 J m w0_6 [] M14))) (fun J => by kernel_rfl) (by simp only [jj_eq, h14]; rfl)
theorem law32_AccumMany_j20_eq m M14 rec14 (h14 : H0_14 m M14 rec14) x0 x1 x2 x3 x4 x5 x6 : e0 jn m w0_10 [M14] (s0_17 x0 x1 x2 x3 x4 x5 x6) = law32_AccumMany_j20 m rec14 x0 x1 x2 x3 x4 x5 x6 :=
  tre (g := fun J => (jj J 0 26 0 (s0_17 x0 x1 (IntKind.wrap .i64 (x2 + 1)) x3 x4 x5 x6) (e0 J m w0_9 [M14]))) (fun J => by kernel_rfl) (by simp only [jj_eq, law32_AccumMany_j21_eq m M14 rec14 h14]; rfl)
theorem law32_AccumMany_j19_eq m M14 rec14 (h14 : H0_14 m M14 rec14) x0 x1 x2 x3 x4 x5 x6 x7 : e0 jn m w0_11 [M14] (s0_19 x0 x1 x2 x3 x4 x5 x6 x7) = law32_AccumMany_j19 m rec14 x0 x1 x2 x3 x4 x5 x6 x7 :=
  tre (g := fun J => (bif x4 then
   some false
    else
   (jj J 0 31 0 (s0_17 x0 x1 x2 x3 x5 x6 x7) (e0 J m w0_10 [M14])))) (fun J => by kernel_rfl) (by simp only [jj_eq, law32_AccumMany_j20_eq m M14 rec14 h14]; rfl)
theorem law32_AccumMany_j18_eq m M14 rec14 (h14 : H0_14 m M14 rec14) x0 x1 x2 x3 x4 x5 x6 : e0 jn m w0_12 [M14] (s0_17 x0 x1 x2 x3 x4 x5 x6) = law32_AccumMany_j18 m rec14 x0 x1 x2 x3 x4 x5 x6 :=
  tre (g := fun J => ((idx (Dt.L x4 4) x3).bind fun v18 =>
   ((idx x0 x3).bind fun v19 =>
   ((idx (Dt.L v19 4) 0).bind fun v20 =>
   ((ref01_Same m v18 (Dt.fld v20 1)).bind fun r21 =>
   (bif (Bool.not r21) then
   (jj J 0 30 0 (s0_19 x0 x1 x2 x3 true x4 x5 x6) (e0 J m w0_11 [M14]))
   else
   ((idx (Dt.L x5 4) x3).bind fun v22 =>
   (bif ((Dt.I v22 0) != 3) then
   (jj J 0 30 0 (s0_19 x0 x1 x2 x3 true x4 x5 x6) (e0 J m w0_11 [M14]))
   else
   ((idx (Dt.L x5 4) x3).bind fun v23 =>
   (jj J 0 30 0 (s0_19 x0 x1 x2 x3 ((Dt.I v23 1) != x2) x4 x5 x6) (e0 J m w0_11 [M14]))))))))))) (fun J => by kernel_rfl) (by simp only [jj_eq, law32_AccumMany_j19_eq m M14 rec14 h14]; rfl)
theorem law32_AccumMany_l16_eq m M14 rec14 (h14 : H0_14 m M14 rec14) : ∀ M16 x0 x1 x2 x3 x4 x5 x6, l0 jn m w0_7 [M14] M16 (s0_17 x0 x1 x2 x3 x4 x5 x6) = law32_AccumMany_l16 m rec14 M16 x0 x1 x2 x3 x4 x5 x6
  | 0, _, _, _, _, _, _, _ => rfl
  | M16 + 1, x0, x1, x2, x3, x4, x5, x6 =>
    trl (g := fun J => (bif (decide (x2 < 2047)) then
   ((inL (Dt.toLst x6) x2).bind fun v16 =>
   (((Dt.toLst x6)[(Int.toNat x2)]?).bind fun v17 =>
   (bif (Bool.not (Dt.toBool v17)) then
   (jj J 0 28 0 (s0_17 x0 x1 x2 x3 x4 x5 x6) (e0 J m w0_8 [M14, M16]))
   else
   (jj J 0 29 0 (s0_17 x0 x1 x2 x3 x4 x5 x6) (e0 J m w0_12 [M14])))))
    else
   (jj J 0 29 0 (s0_17 x0 x1 x2 x3 x4 x5 x6) (e0 J m w0_12 [M14])))) (fun J => by kernel_rfl) (by simp only [jj_eq, law32_AccumMany_j17_eq m M14 rec14 h14 M16 (law32_AccumMany_l16 m rec14 M16) (law32_AccumMany_l16_eq m M14 rec14 h14 M16), law32_AccumMany_j18_eq m M14 rec14 h14]; rfl)
theorem law32_AccumMany_j15_eq m M14 rec14 (h14 : H0_14 m M14 rec14) x0 x1 x2 x3 x4 x5 x6 : e0 jn m w0_13 [M14] (s0_17 x0 x1 x2 x3 x4 x5 x6) = law32_AccumMany_j15 m rec14 x0 x1 x2 x3 x4 x5 x6 :=
  tre (g := fun J => (jj J 1 27 (Nat.succ m) (s0_17 x0 x1 x2 x3 x4 x5 x6) (l0 J m w0_7 [M14] (Nat.succ m)))) (fun J => by kernel_rfl) (by simp only [jj_eq, law32_AccumMany_l16_eq m M14 rec14 h14]; rfl)
theorem law32_AccumMany_j22_eq m : e0 jn m w0_14 [] s0_22 = law32_AccumMany_j22 m :=
  tre (g := fun J => ((awakeC).bind fun r24 =>
   some r24)) (fun J => by kernel_rfl) (by rfl)
theorem law32_AccumMany_l14_eq m : ∀ M14 x0 x1 x2 x3 x4 x5 x6, l0 jn m w0_6 [] M14 (s0_17 x0 x1 x2 x3 x4 x5 x6) = law32_AccumMany_l14 m M14 x0 x1 x2 x3 x4 x5 x6
  | 0, _, _, _, _, _, _, _ => rfl
  | M14 + 1, x0, x1, x2, x3, x4, x5, x6 =>
    trl (g := fun J => (bif (decide (x3 < x1)) then
   (jj J 0 27 0 (s0_17 x0 x1 x2 x3 x4 x5 x6) (e0 J m w0_13 [M14]))
    else
   (jj J 0 32 0 s0_22 (e0 J m w0_14 [])))) (fun J => by kernel_rfl) (by simp only [jj_eq, law32_AccumMany_j15_eq m M14 (law32_AccumMany_l14 m M14) (law32_AccumMany_l14_eq m M14), law32_AccumMany_j22_eq m]; rfl)
theorem law32_AccumMany_j13_eq m x0 x1 x2 x3 x4 x5 x6 : e0 jn m w0_15 [] (s0_17 x0 x1 x2 x3 x4 x5 x6) = law32_AccumMany_j13 m x0 x1 x2 x3 x4 x5 x6 :=
  tre (g := fun J => (jj J 1 25 (Nat.succ m) (s0_17 x0 x1 x2 x3 x4 x5 x6) (l0 J m w0_6 [] (Nat.succ m)))) (fun J => by kernel_rfl) (by simp only [jj_eq, law32_AccumMany_l14_eq m]; rfl)
theorem law32_AccumMany_j12_eq m x0 x1 x2 x3 x4 : e0 jn m w0_16 [] (s0_12 x0 x1 x2 x3 x4) = law32_AccumMany_j12 m x0 x1 x2 x3 x4 :=
  tre (g := fun J => (jj J 0 25 0 (s0_17 x0 x1 0 0 x2 x3 x4) (e0 J m w0_15 []))) (fun J => by kernel_rfl) (by simp only [jj_eq, law32_AccumMany_j13_eq m]; rfl)
theorem law32_AccumMany_l9_eq m : ∀ M9 x0 x1 x2 x3 x4 x5 x6, l0 jn m w0_3 [] M9 (s0_11 x0 x1 x2 x3 x4 x5 x6) = law32_AccumMany_l9 m M9 x0 x1 x2 x3 x4 x5 x6
  | 0, _, _, _, _, _, _, _ => rfl
  | M9 + 1, x0, x1, x2, x3, x4, x5, x6 =>
    trl (g := fun J => (bif (decide (x3 < x0)) then
   (jj J 0 22 0 (s0_11 x0 x1 x2 x3 x4 x5 x6) (e0 J m w0_5 [M9]))
    else
   (jj J 0 23 0 (s0_12 x1 x2 x4 x5 x6) (e0 J m w0_16 [])))) (fun J => by kernel_rfl) (by simp only [jj_eq, law32_AccumMany_j10_eq m M9 (law32_AccumMany_l9 m M9) (law32_AccumMany_l9_eq m M9), law32_AccumMany_j12_eq m]; rfl)
theorem law32_AccumMany_j8_eq m x0 x1 x2 x3 x4 x5 x6 : e0 jn m w0_17 [] (s0_11 x0 x1 x2 x3 x4 x5 x6) = law32_AccumMany_j8 m x0 x1 x2 x3 x4 x5 x6 :=
  tre (g := fun J => (jj J 1 20 (Nat.succ m) (s0_11 x0 x1 x2 x3 x4 x5 x6) (l0 J m w0_3 [] (Nat.succ m)))) (fun J => by kernel_rfl) (by simp only [jj_eq, law32_AccumMany_l9_eq m]; rfl)
theorem law32_AccumMany_j7_eq m x0 x1 x2 x3 x4 : e0 jn m w0_18 [] (s0_7 x0 x1 x2 x3 x4) = law32_AccumMany_j7 m x0 x1 x2 x3 x4 :=
  tre (g := fun J => (jj J 0 20 0 (s0_11 x0 x1 x2 0 x3 x4 (Dt.lst (offs 2048))) (e0 J m w0_17 []))) (fun J => by kernel_rfl) (by simp only [jj_eq, law32_AccumMany_j8_eq m]; rfl)
theorem law32_AccumMany_j6_eq m x0 x1 x2 x3 x4 x5 : e0 jn m w0_19 [] (s0_6 x0 x1 x2 x3 x4 x5) = law32_AccumMany_j6 m x0 x1 x2 x3 x4 x5 :=
  tre (g := fun J => (bif x3 then
   some false
    else
   (jj J 0 18 0 (s0_7 x0 x1 x2 x4 x5) (e0 J m w0_18 [])))) (fun J => by kernel_rfl) (by simp only [jj_eq, law32_AccumMany_j7_eq m]; rfl)
theorem law32_AccumMany_j5_eq m x0 x1 x2 x3 x4 : e0 jn m w0_20 [] (s0_7 x0 x1 x2 x3 x4) = law32_AccumMany_j5 m x0 x1 x2 x3 x4 :=
  tre (g := fun J => (bif ((List.length (Dt.L x3 4) : Int) != x2) then
   (jj J 0 17 0 (s0_6 x0 x1 x2 true x3 x4) (e0 J m w0_19 []))
    else
   (jj J 0 17 0 (s0_6 x0 x1 x2 ((List.length (Dt.L x4 4) : Int) != x2) x3 x4) (e0 J m w0_19 [])))) (fun J => by kernel_rfl) (by simp only [jj_eq, law32_AccumMany_j6_eq m]; rfl)
theorem law32_AccumMany_j4_eq m x0 x1 x2 x3 x4 : e0 jn m w0_21 [] (s0_4 x0 x1 x2 x3 x4) = law32_AccumMany_j4 m x0 x1 x2 x3 x4 :=
  tre (g := fun J => (bif (decide ((IntKind.wrap .i64 (x1 + 1)) = 0)) then
   none
    else
   ((cutL x2 0 (Int.tmod (IntKind.wrap .i64 x0) (IntKind.wrap .i64 (x1 + 1)))).bind fun v2 =>
   ((law32_run m x3 v2).bind fun r3 =>
   ((cutL x2 (Int.tmod (IntKind.wrap .i64 x0) (IntKind.wrap .i64 (x1 + 1))) (List.length x2 : Int)).bind fun v4 =>
   ((law32_run m x3 v4).bind fun r5 =>
   ((accum_Join m x3 r3 r5).bind fun r6 =>
   ((cutL x2 0 (Int.tmod (IntKind.wrap .i64 x0) (IntKind.wrap .i64 (x1 + 1)))).bind fun v7 =>
   ((law32_run m x4 v7).bind fun r8 =>
   ((cutL x2 (Int.tmod (IntKind.wrap .i64 x0) (IntKind.wrap .i64 (x1 + 1))) (List.length x2 : Int)).bind fun v9 =>
   ((law32_run m x4 v9).bind fun r10 =>
   ((accum_Join m x4 r8 r10).bind fun r11 =>
   (bif (decide (1024 < x1)) then
   (jj J 0 16 0 (s0_7 x1 x2 1024 r6 r11) (e0 J m w0_20 []))
   else
   (jj J 0 16 0 (s0_7 x1 x2 x1 r6 r11) (e0 J m w0_20 []))))))))))))))) (fun J => by kernel_rfl) (by simp only [jj_eq, law32_AccumMany_j5_eq m]; rfl)
theorem law32_AccumMany_l1_eq m : ∀ M1 x0 x1 x2 x3 x4 x5 x6, l0 jn m w0_0 [] M1 (s0_3 x0 x1 x2 x3 x4 x5 x6) = law32_AccumMany_l1 m M1 x0 x1 x2 x3 x4 x5 x6
  | 0, _, _, _, _, _, _, _ => rfl
  | M1 + 1, x0, x1, x2, x3, x4, x5, x6 =>
    trl (g := fun J => (bif (decide (x3 < x2)) then
   (jj J 0 9 0 (s0_3 x0 x1 x2 x3 x4 x5 x6) (e0 J m w0_2 [M1]))
    else
   (jj J 0 10 0 (s0_4 x0 x2 x6 x4 x5) (e0 J m w0_21 [])))) (fun J => by kernel_rfl) (by simp only [jj_eq, law32_AccumMany_j2_eq m M1 (law32_AccumMany_l1 m M1) (law32_AccumMany_l1_eq m M1), law32_AccumMany_j4_eq m]; rfl)
theorem law32_AccumMany_j0_eq m x0 x1 x2 x3 x4 x5 x6 : e0 jn m w0_22 [] (s0_3 x0 x1 x2 x3 x4 x5 x6) = law32_AccumMany_j0 m x0 x1 x2 x3 x4 x5 x6 :=
  tre (g := fun J => (jj J 1 7 (Nat.succ m) (s0_3 x0 x1 x2 x3 x4 x5 x6) (l0 J m w0_0 [] (Nat.succ m)))) (fun J => by kernel_rfl) (by simp only [jj_eq, law32_AccumMany_l1_eq m]; rfl)
theorem law32_AccumMany_eq m a0 a1 a2 : e0 jn m [] [] ⟨[(.dat 54 (.int a0)), (.dat 54 (.int a1)), (.dat 5 (.int a2))], [], 0⟩ = law32_AccumMany (m + 1) a0 a1 a2 :=
  tre (g := fun J => (jj J 0 7 0 (s0_3 a1 a2 (Int.tmod (IntKind.wrap .i64 a0) 1200) 0 kz92500 kzdee71 []) (e0 J m w0_22 []))) (fun J => by kernel_rfl) (by simp only [jj_eq, law32_AccumMany_j0_eq m]; rfl)

end Go.Proofs.YtacpcknpliomoaaGreat
