/- Generated: each function's run in the abstract machine is its shallow function. -/
import Derived.Test.YtacpcknpliomoaaGreatCt
import Derived.Test.YtacpcknpliomoaaGreatAmEnv
import Derived.KernelRfl
set_option linter.unusedVariables false
set_option linter.unusedSimpArgs false
namespace Go.Proofs.YtacpcknpliomoaaGreat
open Go.Am
set_option maxRecDepth 100000
noncomputable def e5 (J : Nat → Nat → Nat → St → Option Dt → Option Dt) (m : Nat) (p ms : List Nat) (σ : St) := evAt Tryz.prog env (ct m) J (m + 1) 23 5 Tryz.f23 d5 p ms σ
noncomputable def l5 (J : Nat → Nat → Nat → St → Option Dt → Option Dt) (m : Nat) (p ms : List Nat) (M : Nat) (σ : St) := loopAt Tryz.prog env (ct m) J (m + 1) 23 5 Tryz.f23 d5 p ms M σ
theorem ref01_Int_eq m a0 : e5 jn m [] [] ⟨[(.dat 3 (.int a0))], [], 0⟩ = ref01_Int (m + 1) a0 :=
  tre (g := fun J => some (Dt.agg [(Dt.int 3), (Dt.int a0), (Dt.str (ByteArray.mk (List.toArray []))), (Dt.lst []), (Dt.lst [])])) (fun J => by kernel_rfl) (by rfl)
noncomputable def e2 (J : Nat → Nat → Nat → St → Option Dt → Option Dt) (m : Nat) (p ms : List Nat) (σ : St) := evAt Tryz.prog env (ct m) J (m + 1) 16 8 Tryz.f16 d5 p ms σ
noncomputable def l2 (J : Nat → Nat → Nat → St → Option Dt → Option Dt) (m : Nat) (p ms : List Nat) (M : Nat) (σ : St) := loopAt Tryz.prog env (ct m) J (m + 1) 16 8 Tryz.f16 d5 p ms M σ
theorem law32_doc_eq m a0 : e2 jn m [] [] ⟨[(.dat 3 (.int a0))], [], 0⟩ = law32_doc (m + 1) a0 :=
  tre (g := fun J => ((ref01_Int m a0).bind fun r0 =>
   some (Dt.agg [(Dt.int 5), (Dt.int 0), (Dt.str (ByteArray.mk (List.toArray []))), (Dt.lst []), (Dt.lst [(Dt.agg [(Dt.str (ByteArray.mk (List.toArray [97]))), r0])])]))) (fun J => by kernel_rfl) (by rfl)
noncomputable def e6 (J : Nat → Nat → Nat → St → Option Dt → Option Dt) (m : Nat) (p ms : List Nat) (σ : St) := evAt Tryz.prog env (ct m) J (m + 1) 19 6 Tryz.f19 d6 p ms σ
noncomputable def l6 (J : Nat → Nat → Nat → St → Option Dt → Option Dt) (m : Nat) (p ms : List Nat) (M : Nat) (σ : St) := loopAt Tryz.prog env (ct m) J (m + 1) 19 6 Tryz.f19 d6 p ms M σ
theorem accum_Start_eq m a0 : e6 jn m [] [] ⟨[(.dat 41 a0)], [], 0⟩ = accum_Start (m + 1) a0 :=
  tre (g := fun J => some (Dt.agg [(Dt.int (Dt.I a0 1)), (Dt.int 0), (Dt.int 0), kza2373, (Dt.lst []), (Dt.lst [])])) (fun J => by kernel_rfl) (by rfl)
def w9_3 : List Nat := [1, 1, 1, 0, 1]
def w9_0 : List Nat := [1, 1, 1, 0, 1, 0]
def w9_2 : List Nat := w9_0 ++ [0, 1, 1]
def w9_1 : List Nat := w9_2 ++ [1]
noncomputable def e9 (J : Nat → Nat → Nat → St → Option Dt → Option Dt) (m : Nat) (p ms : List Nat) (σ : St) := evAt Tryz.prog env (ct m) J (m + 1) 25 32 Tryz.f25 d5 p ms σ
noncomputable def l9 (J : Nat → Nat → Nat → St → Option Dt → Option Dt) (m : Nat) (p ms : List Nat) (M : Nat) (σ : St) := loopAt Tryz.prog env (ct m) J (m + 1) 25 32 Tryz.f25 d5 p ms M σ
noncomputable def s9_3 (x0 : List Dt) (x1 x2 : Int) (x3 : Dt) (x4 x5 : Int) (x6 : ByteArray) (x7 x8 : List Dt) : St := ⟨tsOf [(2, (.ptr 0 [] 0)), (3, (.ptr 1 [] 0)), (13, (.dat 23 (.lst x0))), (14, (.dat 3 (.int x1))), (15, (.dat 3 (.int x2)))], [(.box 25 (.dat 25 x3)), (.box 25 (.agg 25 [(.dat 3 (.int x4)), (.dat 3 (.int x5)), (.dat 9 (.str x6)), (.dat 22 (.lst x7)), (.row 2)])), (.row 23 x8)], 0⟩
noncomputable def s9_4 (x0 : Dt) (x1 x2 : Int) (x3 : ByteArray) (x4 x5 : List Dt) : St := ⟨tsOf [(2, (.ptr 0 [] 0)), (3, (.ptr 1 [] 0))], [(.box 25 (.dat 25 x0)), (.box 25 (.agg 25 [(.dat 3 (.int x1)), (.dat 3 (.int x2)), (.dat 9 (.str x3)), (.dat 22 (.lst x4)), (.row 2)])), (.row 23 x5)], 0⟩
abbrev H9_1 (m M1 : Nat) (rec1 : List Dt → Int → Int → Dt → Int → Int → ByteArray → List Dt → List Dt → Option Dt) : Prop := ∀ x0 x1 x2 x3 x4 x5 x6 x7 x8, l9 jn m w9_0 [] M1 (s9_3 x0 x1 x2 x3 x4 x5 x6 x7 x8) = rec1 x0 x1 x2 x3 x4 x5 x6 x7 x8
theorem accum_copyValue_j3_eq m M1 rec1 (h1 : H9_1 m M1 rec1) x0 x1 x2 x3 x4 x5 x6 x7 x8 : e9 jn m w9_1 [M1] (s9_3 x0 x1 x2 x3 x4 x5 x6 x7 x8) = accum_copyValue_j3 m (accum_copyValue m) (accum_copyList m) rec1 x0 x1 x2 x3 x4 x5 x6 x7 x8 :=
  tre (g := fun J => (jj J 1 4 M1 (s9_3 x0 x1 (IntKind.wrap .i64 (x2 + 1)) x3 x4 x5 x6 x7 x8) (l9 J m w9_0 [] M1))) (fun J => by kernel_rfl) (by simp only [jj_eq, h1]; rfl)
theorem accum_copyValue_j2_eq m M1 rec1 (h1 : H9_1 m M1 rec1) x0 x1 x2 x3 x4 x5 x6 x7 x8 : e9 jn m w9_2 [M1] (s9_3 x0 x1 x2 x3 x4 x5 x6 x7 x8) = accum_copyValue_j2 m (accum_copyValue m) (accum_copyList m) rec1 x0 x1 x2 x3 x4 x5 x6 x7 x8 :=
  tre (g := fun J => ((idx x0 x2).bind fun v1 =>
   ((accum_copyValue m (Dt.fld v1 1)).bind fun r2 =>
   ((app x8 [(Dt.agg [(Dt.str (Dt.S v1 0)), r2])]).bind fun v3 =>
   (jj J 0 7 0 (s9_3 x0 x1 x2 x3 x4 x5 x6 x7 v3) (e9 J m w9_1 [M1])))))) (fun J => by kernel_rfl) (by simp only [jj_eq, accum_copyValue_j3_eq m M1 rec1 h1]; rfl)
theorem accum_copyValue_j4_eq m x0 x1 x2 x3 x4 x5 : e9 jn m [1, 1, 1, 1] [] (s9_4 x0 x1 x2 x3 x4 x5) = accum_copyValue_j4 m (accum_copyValue m) (accum_copyList m) x0 x1 x2 x3 x4 x5 :=
  tre (g := fun J => some (Dt.agg [(Dt.int x1), (Dt.int x2), (Dt.str x3), (Dt.lst x4), (Dt.lst x5)])) (fun J => by kernel_rfl) (by rfl)
theorem accum_copyValue_l1_eq m : ∀ M1 x0 x1 x2 x3 x4 x5 x6 x7 x8, l9 jn m w9_0 [] M1 (s9_3 x0 x1 x2 x3 x4 x5 x6 x7 x8) = accum_copyValue_l1 m (accum_copyValue m) (accum_copyList m) M1 x0 x1 x2 x3 x4 x5 x6 x7 x8
  | 0, _, _, _, _, _, _, _, _, _ => rfl
  | M1 + 1, x0, x1, x2, x3, x4, x5, x6, x7, x8 =>
    trl (g := fun J => (bif (decide (x2 < x1)) then
   (jj J 0 5 0 (s9_3 x0 x1 x2 x3 x4 x5 x6 x7 x8) (e9 J m w9_2 [M1]))
    else
   (jj J 0 8 0 (s9_4 x3 x4 x5 x6 x7 x8) (e9 J m [1, 1, 1, 1] [])))) (fun J => by kernel_rfl) (by simp only [jj_eq, accum_copyValue_j2_eq m M1 (accum_copyValue_l1 m (accum_copyValue m) (accum_copyList m) M1) (accum_copyValue_l1_eq m M1), accum_copyValue_j4_eq m]; rfl)
theorem accum_copyValue_j0_eq m x0 x1 x2 x3 x4 x5 x6 x7 x8 : e9 jn m w9_3 [] (s9_3 x0 x1 x2 x3 x4 x5 x6 x7 x8) = accum_copyValue_j0 m (accum_copyValue m) (accum_copyList m) x0 x1 x2 x3 x4 x5 x6 x7 x8 :=
  tre (g := fun J => (jj J 1 4 (Nat.succ m) (s9_3 x0 x1 x2 x3 x4 x5 x6 x7 x8) (l9 J m w9_0 [] (Nat.succ m)))) (fun J => by kernel_rfl) (by simp only [jj_eq, accum_copyValue_l1_eq m]; rfl)
theorem accum_copyValue_eq m a0 : e9 jn m [] [] ⟨[(.dat 25 a0)], [], 0⟩ = accum_copyValue (m + 1) a0 :=
  tre (g := fun J => ((accum_copyList m (Dt.L a0 3)).bind fun r0 =>
   (jj J 0 4 0 (s9_3 (Dt.L a0 4) (List.length (Dt.L a0 4) : Int) 0 kza2373 (Dt.I a0 0) (Dt.I a0 1) (Dt.S a0 2) r0 []) (e9 J m w9_3 [])))) (fun J => by kernel_rfl) (by simp only [jj_eq, accum_copyValue_j0_eq m]; rfl)
def w29_3 : List Nat := [1, 1, 1, 0, 1]
def w29_0 : List Nat := [1, 1, 1, 0, 1, 0]
def w29_2 : List Nat := w29_0 ++ [0, 1, 1]
def w29_1 : List Nat := w29_2 ++ [1]
noncomputable def e29 (J : Nat → Nat → Nat → St → Option (List Dt) → Option (List Dt)) (m : Nat) (p ms : List Nat) (σ : St) := evAt Tryz.prog env (ct m) J (m + 1) 27 26 Tryz.f27 d29 p ms σ
noncomputable def l29 (J : Nat → Nat → Nat → St → Option (List Dt) → Option (List Dt)) (m : Nat) (p ms : List Nat) (M : Nat) (σ : St) := loopAt Tryz.prog env (ct m) J (m + 1) 27 26 Tryz.f27 d29 p ms M σ
noncomputable def s29_4 (x0 : List Dt) (x1 x2 : Int) (x3 : List Dt) : St := ⟨tsOf [(3, (.row 0)), (12, (.dat 22 (.lst x0))), (13, (.dat 3 (.int x1))), (14, (.dat 3 (.int x2)))], [(.row 22 x3)], 0⟩
noncomputable def s29_5 (x0 : List Dt) : St := ⟨tsOf [(3, (.row 0))], [(.row 22 x0)], 0⟩
noncomputable def s29_0 (x0 : List Dt) : St := ⟨tsOf [(0, (.dat 22 (.lst x0)))], [], 0⟩
abbrev H29_2 (m M2 : Nat) (rec2 : List Dt → Int → Int → List Dt → Option (List Dt)) : Prop := ∀ x0 x1 x2 x3, l29 jn m w29_0 [] M2 (s29_4 x0 x1 x2 x3) = rec2 x0 x1 x2 x3
theorem accum_copyList_j4_eq m M2 rec2 (h2 : H29_2 m M2 rec2) x0 x1 x2 x3 : e29 jn m w29_1 [M2] (s29_4 x0 x1 x2 x3) = accum_copyList_j4 m (accum_copyValue m) rec2 x0 x1 x2 x3 :=
  tre (g := fun J => (jj J 1 5 M2 (s29_4 x0 x1 (IntKind.wrap .i64 (x2 + 1)) x3) (l29 J m w29_0 [] M2))) (fun J => by kernel_rfl) (by simp only [jj_eq, h2]; rfl)
theorem accum_copyList_j3_eq m M2 rec2 (h2 : H29_2 m M2 rec2) x0 x1 x2 x3 : e29 jn m w29_2 [M2] (s29_4 x0 x1 x2 x3) = accum_copyList_j3 m (accum_copyValue m) rec2 x0 x1 x2 x3 :=
  tre (g := fun J => ((idx x0 x2).bind fun v1 =>
   ((accum_copyValue m v1).bind fun r2 =>
   ((inL x3 x2).bind fun v3 =>
   ((x3[(Int.toNat x2)]?).bind fun v4 =>
   (jj J 0 8 0 (s29_4 x0 x1 x2 (List.set x3 (Int.toNat x2) r2)) (e29 J m w29_1 [M2]))))))) (fun J => by kernel_rfl) (by simp only [jj_eq, accum_copyList_j4_eq m M2 rec2 h2]; rfl)
theorem accum_copyList_j5_eq m x0 : e29 jn m [1, 1, 1, 1] [] (s29_5 x0) = accum_copyList_j5 m (accum_copyValue m) x0 :=
  tre (g := fun J => some x0) (fun J => by kernel_rfl) (by rfl)
theorem accum_copyList_l2_eq m : ∀ M2 x0 x1 x2 x3, l29 jn m w29_0 [] M2 (s29_4 x0 x1 x2 x3) = accum_copyList_l2 m (accum_copyValue m) M2 x0 x1 x2 x3
  | 0, _, _, _, _ => rfl
  | M2 + 1, x0, x1, x2, x3 =>
    trl (g := fun J => (bif (decide (x2 < x1)) then
   (jj J 0 6 0 (s29_4 x0 x1 x2 x3) (e29 J m w29_2 [M2]))
    else
   (jj J 0 9 0 (s29_5 x3) (e29 J m [1, 1, 1, 1] [])))) (fun J => by kernel_rfl) (by simp only [jj_eq, accum_copyList_j3_eq m M2 (accum_copyList_l2 m (accum_copyValue m) M2) (accum_copyList_l2_eq m M2), accum_copyList_j5_eq m]; rfl)
theorem accum_copyList_j1_eq m x0 x1 x2 x3 : e29 jn m w29_3 [] (s29_4 x0 x1 x2 x3) = accum_copyList_j1 m (accum_copyValue m) x0 x1 x2 x3 :=
  tre (g := fun J => (jj J 1 5 (Nat.succ m) (s29_4 x0 x1 x2 x3) (l29 J m w29_0 [] (Nat.succ m)))) (fun J => by kernel_rfl) (by simp only [jj_eq, accum_copyList_l2_eq m]; rfl)
theorem accum_copyList_j0_eq m x0 : e29 jn m [1, 1] [] (s29_0 x0) = accum_copyList_j0 m (accum_copyValue m) x0 :=
  tre (g := fun J => ((mkL (List.length x0 : Int) (List.length x0 : Int) kza2373).bind fun v0 =>
   (jj J 0 5 0 (s29_4 x0 (List.length x0 : Int) 0 v0) (e29 J m w29_3 [])))) (fun J => by kernel_rfl) (by simp only [jj_eq, accum_copyList_j1_eq m]; rfl)
theorem accum_copyList_eq m a0 : e29 jn m [] [] ⟨[(.dat 22 (.lst a0))], [], 0⟩ = accum_copyList (m + 1) a0 :=
  tre (g := fun J => (bif ((List.length a0 : Int) == 0) then
   some []
    else
   (jj J 0 3 0 (s29_0 a0) (e29 J m [1, 1] [])))) (fun J => by kernel_rfl) (by simp only [jj_eq, accum_copyList_j0_eq m]; rfl)
noncomputable def e18 (J : Nat → Nat → Nat → St → Option Dt → Option Dt) (m : Nat) (p ms : List Nat) (σ : St) := evAt Tryz.prog env (ct m) J (m + 1) 38 16 Tryz.f38 d6 p ms σ
noncomputable def l18 (J : Nat → Nat → Nat → St → Option Dt → Option Dt) (m : Nat) (p ms : List Nat) (M : Nat) (σ : St) := loopAt Tryz.prog env (ct m) J (m + 1) 38 16 Tryz.f38 d6 p ms M σ
theorem accum_copyPart_eq m a0 : e18 jn m [] [] ⟨[(.dat 29 a0)], [], 0⟩ = accum_copyPart (m + 1) a0 :=
  tre (g := fun J => ((accum_copyValue m (Dt.fld a0 3)).bind fun r0 =>
   ((accum_copyList m (Dt.L a0 4)).bind fun r1 =>
   ((accum_copyList m (Dt.L a0 5)).bind fun r2 =>
   some (Dt.agg [(Dt.int (Dt.I a0 0)), (Dt.int (Dt.I a0 1)), (Dt.int (Dt.I a0 2)), r0, (Dt.lst r1), (Dt.lst r2)]))))) (fun J => by kernel_rfl) (by rfl)
noncomputable def e19 (J : Nat → Nat → Nat → St → Option Dt → Option Dt) (m : Nat) (p ms : List Nat) (σ : St) := evAt Tryz.prog env (ct m) J (m + 1) 76 24 Tryz.f76 d6 p ms σ
noncomputable def l19 (J : Nat → Nat → Nat → St → Option Dt → Option Dt) (m : Nat) (p ms : List Nat) (M : Nat) (σ : St) := loopAt Tryz.prog env (ct m) J (m + 1) 76 24 Tryz.f76 d6 p ms M σ
noncomputable def s19_0 (x0 x1 : Dt) : St := ⟨tsOf [(6, (.ptr 0 [] 0)), (8, (.ptr 1 [] 0))], [(.box 29 (.dat 29 x0)), (.box 29 (.dat 29 x1))], 0⟩
theorem accum_sumRule_add_j0_eq m x0 x1 : e19 jn m [1, 1] [] (s19_0 x0 x1) = accum_sumRule_add_j0 m x0 x1 :=
  tre (g := fun J => some x0) (fun J => by kernel_rfl) (by rfl)
theorem accum_sumRule_add_eq m a0 a1 a2 a3 : e19 jn m [] [] ⟨[(.dat 85 a0), (.dat 41 a1), (.dat 29 a2), (.dat 25 a3)], [], 0⟩ = accum_sumRule_add (m + 1) a0 a1 a2 a3 :=
  tre (g := fun J => ((expr_EvalC (Dt.fld a1 2) a3).bind fun r0 =>
   (bif ((Dt.I r0 0) == 3) then
   (jj J 0 4 0 (s19_0 (Dt.agg [(Dt.int (Dt.I a2 0)), (Dt.int (IntKind.wrap .i64 ((Dt.I a2 1) + (Dt.I r0 1)))), (Dt.int (Dt.I a2 2)), (Dt.fld a2 3), (Dt.lst (Dt.L a2 4)), (Dt.lst (Dt.L a2 5))]) kzc575d) (e19 J m [1, 1] []))
   else
   (jj J 0 4 0 (s19_0 a2 kzc575d) (e19 J m [1, 1] []))))) (fun J => by kernel_rfl) (by simp only [jj_eq, accum_sumRule_add_j0_eq m]; rfl)
noncomputable def e20 (J : Nat → Nat → Nat → St → Option Dt → Option Dt) (m : Nat) (p ms : List Nat) (σ : St) := evAt Tryz.prog env (ct m) J (m + 1) 140 14 Tryz.f140 d6 p ms σ
noncomputable def l20 (J : Nat → Nat → Nat → St → Option Dt → Option Dt) (m : Nat) (p ms : List Nat) (M : Nat) (σ : St) := loopAt Tryz.prog env (ct m) J (m + 1) 140 14 Tryz.f140 d6 p ms M σ
theorem accum_countRule_add_eq m a0 a1 a2 a3 : e20 jn m [] [] ⟨[(.dat 86 a0), (.dat 41 a1), (.dat 29 a2), (.dat 25 a3)], [], 0⟩ = accum_countRule_add (m + 1) a0 a1 a2 a3 :=
  tre (g := fun J => some (Dt.agg [(Dt.int (Dt.I a2 0)), (Dt.int (Dt.I a2 1)), (Dt.int (IntKind.wrap .i64 ((Dt.I a2 2) + 1))), (Dt.fld a2 3), (Dt.lst (Dt.L a2 4)), (Dt.lst (Dt.L a2 5))])) (fun J => by kernel_rfl) (by rfl)
noncomputable def e21 (J : Nat → Nat → Nat → St → Option Dt → Option Dt) (m : Nat) (p ms : List Nat) (σ : St) := evAt Tryz.prog env (ct m) J (m + 1) 143 28 Tryz.f143 d6 p ms σ
noncomputable def l21 (J : Nat → Nat → Nat → St → Option Dt → Option Dt) (m : Nat) (p ms : List Nat) (M : Nat) (σ : St) := loopAt Tryz.prog env (ct m) J (m + 1) 143 28 Tryz.f143 d6 p ms M σ
noncomputable def s21_0 (x0 x1 : Dt) : St := ⟨tsOf [(6, (.ptr 0 [] 0)), (8, (.ptr 1 [] 0))], [(.box 29 (.dat 29 x0)), (.box 29 (.dat 29 x1))], 0⟩
theorem accum_avgRule_add_j0_eq m x0 x1 : e21 jn m [1, 1] [] (s21_0 x0 x1) = accum_avgRule_add_j0 m x0 x1 :=
  tre (g := fun J => some x0) (fun J => by kernel_rfl) (by rfl)
theorem accum_avgRule_add_eq m a0 a1 a2 a3 : e21 jn m [] [] ⟨[(.dat 87 a0), (.dat 41 a1), (.dat 29 a2), (.dat 25 a3)], [], 0⟩ = accum_avgRule_add (m + 1) a0 a1 a2 a3 :=
  tre (g := fun J => ((expr_EvalC (Dt.fld a1 2) a3).bind fun r0 =>
   (bif ((Dt.I r0 0) == 3) then
   (jj J 0 5 0 (s21_0 (Dt.agg [(Dt.int (Dt.I a2 0)), (Dt.int (IntKind.wrap .i64 ((Dt.I a2 1) + (Dt.I r0 1)))), (Dt.int (IntKind.wrap .i64 ((Dt.I a2 2) + 1))), (Dt.fld a2 3), (Dt.lst (Dt.L a2 4)), (Dt.lst (Dt.L a2 5))]) kzc575d) (e21 J m [1, 1] []))
   else
   (jj J 0 5 0 (s21_0 a2 kzc575d) (e21 J m [1, 1] []))))) (fun J => by kernel_rfl) (by simp only [jj_eq, accum_avgRule_add_j0_eq m]; rfl)
noncomputable def e23 (J : Nat → Nat → Nat → St → Option Dt → Option Dt) (m : Nat) (p ms : List Nat) (σ : St) := evAt Tryz.prog env (ct m) J (m + 1) 151 22 Tryz.f151 d6 p ms σ
noncomputable def l23 (J : Nat → Nat → Nat → St → Option Dt → Option Dt) (m : Nat) (p ms : List Nat) (M : Nat) (σ : St) := loopAt Tryz.prog env (ct m) J (m + 1) 151 22 Tryz.f151 d6 p ms M σ
noncomputable def s23_0 (x0 x1 : Dt) : St := ⟨tsOf [(6, (.ptr 0 [] 0)), (8, (.ptr 1 [] 0))], [(.box 29 (.dat 29 x0)), (.box 29 (.dat 29 x1))], 0⟩
theorem accum_firstRule_add_j0_eq m x0 x1 : e23 jn m [1, 1] [] (s23_0 x0 x1) = accum_firstRule_add_j0 m x0 x1 :=
  tre (g := fun J => some (Dt.agg [(Dt.int (Dt.I x0 0)), (Dt.int (Dt.I x0 1)), (Dt.int (IntKind.wrap .i64 ((Dt.I x0 2) + 1))), (Dt.fld x0 3), (Dt.lst (Dt.L x0 4)), (Dt.lst (Dt.L x0 5))])) (fun J => by kernel_rfl) (by rfl)
theorem accum_firstRule_add_eq m a0 a1 a2 a3 : e23 jn m [] [] ⟨[(.dat 90 a0), (.dat 41 a1), (.dat 29 a2), (.dat 25 a3)], [], 0⟩ = accum_firstRule_add (m + 1) a0 a1 a2 a3 :=
  tre (g := fun J => (bif ((Dt.I a2 2) == 0) then
   ((expr_EvalC (Dt.fld a1 2) a3).bind fun r0 =>
   (jj J 0 3 0 (s23_0 (Dt.agg [(Dt.int (Dt.I a2 0)), (Dt.int (Dt.I a2 1)), (Dt.int (Dt.I a2 2)), r0, (Dt.lst (Dt.L a2 4)), (Dt.lst (Dt.L a2 5))]) kzc575d) (e23 J m [1, 1] [])))
    else
   (jj J 0 3 0 (s23_0 a2 kzc575d) (e23 J m [1, 1] [])))) (fun J => by kernel_rfl) (by simp only [jj_eq, accum_firstRule_add_j0_eq m]; rfl)
noncomputable def e24 (J : Nat → Nat → Nat → St → Option Dt → Option Dt) (m : Nat) (p ms : List Nat) (σ : St) := evAt Tryz.prog env (ct m) J (m + 1) 154 19 Tryz.f154 d6 p ms σ
noncomputable def l24 (J : Nat → Nat → Nat → St → Option Dt → Option Dt) (m : Nat) (p ms : List Nat) (M : Nat) (σ : St) := loopAt Tryz.prog env (ct m) J (m + 1) 154 19 Tryz.f154 d6 p ms M σ
theorem accum_lastRule_add_eq m a0 a1 a2 a3 : e24 jn m [] [] ⟨[(.dat 91 a0), (.dat 41 a1), (.dat 29 a2), (.dat 25 a3)], [], 0⟩ = accum_lastRule_add (m + 1) a0 a1 a2 a3 :=
  tre (g := fun J => ((expr_EvalC (Dt.fld a1 2) a3).bind fun r0 =>
   some (Dt.agg [(Dt.int (Dt.I a2 0)), (Dt.int (Dt.I a2 1)), (Dt.int (IntKind.wrap .i64 ((Dt.I a2 2) + 1))), r0, (Dt.lst (Dt.L a2 4)), (Dt.lst (Dt.L a2 5))]))) (fun J => by kernel_rfl) (by rfl)
noncomputable def e28 (J : Nat → Nat → Nat → St → Option Dt → Option Dt) (m : Nat) (p ms : List Nat) (σ : St) := evAt Tryz.prog env (ct m) J (m + 1) 35 5 Tryz.f35 d5 p ms σ
noncomputable def l28 (J : Nat → Nat → Nat → St → Option Dt → Option Dt) (m : Nat) (p ms : List Nat) (M : Nat) (σ : St) := loopAt Tryz.prog env (ct m) J (m + 1) 35 5 Tryz.f35 d5 p ms M σ
theorem accum_integer_eq m a0 : e28 jn m [] [] ⟨[(.dat 3 (.int a0))], [], 0⟩ = accum_integer (m + 1) a0 :=
  tre (g := fun J => some (Dt.agg [(Dt.int 3), (Dt.int a0), (Dt.str (ByteArray.mk (List.toArray []))), (Dt.lst []), (Dt.lst [])])) (fun J => by kernel_rfl) (by rfl)
noncomputable def e8 (J : Nat → Nat → Nat → St → Option Dt → Option Dt) (m : Nat) (p ms : List Nat) (σ : St) := evAt Tryz.prog env (ct m) J (m + 1) 78 8 Tryz.f78 d5 p ms σ
noncomputable def l8 (J : Nat → Nat → Nat → St → Option Dt → Option Dt) (m : Nat) (p ms : List Nat) (M : Nat) (σ : St) := loopAt Tryz.prog env (ct m) J (m + 1) 78 8 Tryz.f78 d5 p ms M σ
theorem accum_sumRule_result_eq m a0 a1 : e8 jn m [] [] ⟨[(.dat 85 a0), (.dat 29 a1)], [], 0⟩ = accum_sumRule_result (m + 1) a0 a1 :=
  tre (g := fun J => ((accum_integer m (Dt.I a1 1)).bind fun r0 =>
   some r0)) (fun J => by kernel_rfl) (by rfl)
noncomputable def e10 (J : Nat → Nat → Nat → St → Option Dt → Option Dt) (m : Nat) (p ms : List Nat) (σ : St) := evAt Tryz.prog env (ct m) J (m + 1) 142 8 Tryz.f142 d5 p ms σ
noncomputable def l10 (J : Nat → Nat → Nat → St → Option Dt → Option Dt) (m : Nat) (p ms : List Nat) (M : Nat) (σ : St) := loopAt Tryz.prog env (ct m) J (m + 1) 142 8 Tryz.f142 d5 p ms M σ
theorem accum_countRule_result_eq m a0 a1 : e10 jn m [] [] ⟨[(.dat 86 a0), (.dat 29 a1)], [], 0⟩ = accum_countRule_result (m + 1) a0 a1 :=
  tre (g := fun J => ((accum_integer m (Dt.I a1 2)).bind fun r0 =>
   some r0)) (fun J => by kernel_rfl) (by rfl)
noncomputable def e30 (J : Nat → Nat → Nat → St → Option Dt → Option Dt) (m : Nat) (p ms : List Nat) (σ : St) := evAt Tryz.prog env (ct m) J (m + 1) 146 8 Tryz.f146 d5 p ms σ
noncomputable def l30 (J : Nat → Nat → Nat → St → Option Dt → Option Dt) (m : Nat) (p ms : List Nat) (M : Nat) (σ : St) := loopAt Tryz.prog env (ct m) J (m + 1) 146 8 Tryz.f146 d5 p ms M σ
noncomputable def s30_0 (x0 x1 : Dt) : St := ⟨tsOf [(1, (.ptr 0 [] 0)), (2, (.ptr 1 [] 0))], [(.box 25 (.dat 25 x0)), (.box 25 (.dat 25 x1))], 0⟩
theorem accum_orNull_j0_eq m x0 x1 : e30 jn m [1, 1] [] (s30_0 x0 x1) = accum_orNull_j0 m x0 x1 :=
  tre (g := fun J => some x0) (fun J => by kernel_rfl) (by rfl)
theorem accum_orNull_eq m a0 : e30 jn m [] [] ⟨[(.dat 25 a0)], [], 0⟩ = accum_orNull (m + 1) a0 :=
  tre (g := fun J => (bif ((Dt.I a0 0) == 0) then
   some kz3c25e
    else
   (jj J 0 3 0 (s30_0 a0 kza2373) (e30 J m [1, 1] [])))) (fun J => by kernel_rfl) (by simp only [jj_eq, accum_orNull_j0_eq m]; rfl)
def w11_0 : List Nat := [1, 1, 1, 0, 1]
noncomputable def e11 (J : Nat → Nat → Nat → St → Option Dt → Option Dt) (m : Nat) (p ms : List Nat) (σ : St) := evAt Tryz.prog env (ct m) J (m + 1) 145 35 Tryz.f145 d5 p ms σ
noncomputable def l11 (J : Nat → Nat → Nat → St → Option Dt → Option Dt) (m : Nat) (p ms : List Nat) (M : Nat) (σ : St) := loopAt Tryz.prog env (ct m) J (m + 1) 145 35 Tryz.f145 d5 p ms M σ
noncomputable def s11_2 (x0 : Int) (x1 : Dt) : St := ⟨tsOf [(4, (.ptr 0 [] 0)), (5, (.dat 3 (.int x0)))], [(.box 25 (.dat 25 x1))], 0⟩
noncomputable def s11_1 (x0 : Int) (x1 : Bool) (x2 : Dt) : St := ⟨tsOf [(4, (.ptr 0 [] 0)), (5, (.dat 3 (.int x0))), (30, (.dat 4 (.bool x1)))], [(.box 25 (.dat 25 x2))], 0⟩
noncomputable def s11_0 (x0 x1 : Dt) : St := ⟨tsOf [(3, (.ptr 0 [] 0)), (4, (.ptr 1 [] 0))], [(.box 29 (.dat 29 x0)), (.box 25 (.dat 25 x1))], 0⟩
theorem accum_avgRule_result_j2_eq m x0 x1 : e11 jn m [1, 1, 1, 1] [] (s11_2 x0 x1) = accum_avgRule_result_j2 m x0 x1 :=
  tre (g := fun J => ((accum_integer m x0).bind fun r1 =>
   some r1)) (fun J => by kernel_rfl) (by rfl)
theorem accum_avgRule_result_j1_eq m x0 x1 x2 : e11 jn m w11_0 [] (s11_1 x0 x1 x2) = accum_avgRule_result_j1 m x0 x1 x2 :=
  tre (g := fun J => (bif x1 then
   (jj J 0 6 0 (s11_2 (IntKind.wrap .i64 (x0 - 1)) x2) (e11 J m [1, 1, 1, 1] []))
    else
   (jj J 0 6 0 (s11_2 x0 x2) (e11 J m [1, 1, 1, 1] [])))) (fun J => by kernel_rfl) (by simp only [jj_eq, accum_avgRule_result_j2_eq m]; rfl)
theorem accum_avgRule_result_j0_eq m x0 x1 : e11 jn m [1, 1] [] (s11_0 x0 x1) = accum_avgRule_result_j0 m x0 x1 :=
  tre (g := fun J => (bif (decide ((Dt.I x0 2) = 0)) then
   none
    else
   (bif (decide ((Dt.I x0 2) = 0)) then
   none
   else
   (bif ((Int.tmod (Dt.I x0 1) (Dt.I x0 2)) != 0) then
   (jj J 0 5 0 (s11_1 (IntKind.wrap .i64 (Int.tdiv (Dt.I x0 1) (Dt.I x0 2))) (Bool.not ((decide ((Dt.I x0 1) < 0)) == (decide ((Dt.I x0 2) < 0)))) x1) (e11 J m w11_0 []))
   else
   (jj J 0 5 0 (s11_1 (IntKind.wrap .i64 (Int.tdiv (Dt.I x0 1) (Dt.I x0 2))) false x1) (e11 J m w11_0 [])))))) (fun J => by kernel_rfl) (by simp only [jj_eq, accum_avgRule_result_j1_eq m]; rfl)
theorem accum_avgRule_result_eq m a0 a1 : e11 jn m [] [] ⟨[(.dat 87 a0), (.dat 29 a1)], [], 0⟩ = accum_avgRule_result (m + 1) a0 a1 :=
  tre (g := fun J => (bif ((Dt.I a1 2) == 0) then
   ((accum_orNull m kza2373).bind fun r0 =>
   some r0)
    else
   (jj J 0 3 0 (s11_0 a1 kza2373) (e11 J m [1, 1] [])))) (fun J => by kernel_rfl) (by simp only [jj_eq, accum_avgRule_result_j0_eq m]; rfl)
noncomputable def e12 (J : Nat → Nat → Nat → St → Option Dt → Option Dt) (m : Nat) (p ms : List Nat) (σ : St) := evAt Tryz.prog env (ct m) J (m + 1) 149 8 Tryz.f149 d5 p ms σ
noncomputable def l12 (J : Nat → Nat → Nat → St → Option Dt → Option Dt) (m : Nat) (p ms : List Nat) (M : Nat) (σ : St) := loopAt Tryz.prog env (ct m) J (m + 1) 149 8 Tryz.f149 d5 p ms M σ
theorem accum_extremeRule_result_eq m a0 a1 : e12 jn m [] [] ⟨[(.dat 89 a0), (.dat 29 a1)], [], 0⟩ = accum_extremeRule_result (m + 1) a0 a1 :=
  tre (g := fun J => ((accum_orNull m (Dt.fld a1 3)).bind fun r0 =>
   some r0)) (fun J => by kernel_rfl) (by rfl)
noncomputable def e13 (J : Nat → Nat → Nat → St → Option Dt → Option Dt) (m : Nat) (p ms : List Nat) (σ : St) := evAt Tryz.prog env (ct m) J (m + 1) 153 8 Tryz.f153 d5 p ms σ
noncomputable def l13 (J : Nat → Nat → Nat → St → Option Dt → Option Dt) (m : Nat) (p ms : List Nat) (M : Nat) (σ : St) := loopAt Tryz.prog env (ct m) J (m + 1) 153 8 Tryz.f153 d5 p ms M σ
theorem accum_firstRule_result_eq m a0 a1 : e13 jn m [] [] ⟨[(.dat 90 a0), (.dat 29 a1)], [], 0⟩ = accum_firstRule_result (m + 1) a0 a1 :=
  tre (g := fun J => ((accum_orNull m (Dt.fld a1 3)).bind fun r0 =>
   some r0)) (fun J => by kernel_rfl) (by rfl)
noncomputable def e14 (J : Nat → Nat → Nat → St → Option Dt → Option Dt) (m : Nat) (p ms : List Nat) (σ : St) := evAt Tryz.prog env (ct m) J (m + 1) 156 8 Tryz.f156 d5 p ms σ
noncomputable def l14 (J : Nat → Nat → Nat → St → Option Dt → Option Dt) (m : Nat) (p ms : List Nat) (M : Nat) (σ : St) := loopAt Tryz.prog env (ct m) J (m + 1) 156 8 Tryz.f156 d5 p ms M σ
theorem accum_lastRule_result_eq m a0 a1 : e14 jn m [] [] ⟨[(.dat 91 a0), (.dat 29 a1)], [], 0⟩ = accum_lastRule_result (m + 1) a0 a1 :=
  tre (g := fun J => ((accum_orNull m (Dt.fld a1 3)).bind fun r0 =>
   some r0)) (fun J => by kernel_rfl) (by rfl)
noncomputable def e4 (J : Nat → Nat → Nat → St → Option Dt → Option Dt) (m : Nat) (p ms : List Nat) (σ : St) := evAt Tryz.prog env (ct m) J (m + 1) 17 19 Tryz.f17 d5 p ms σ
noncomputable def l4 (J : Nat → Nat → Nat → St → Option Dt → Option Dt) (m : Nat) (p ms : List Nat) (M : Nat) (σ : St) := loopAt Tryz.prog env (ct m) J (m + 1) 17 19 Tryz.f17 d5 p ms M σ
noncomputable def s4_0 (x0 : Dt) : St := ⟨tsOf [(4, (.ptr 0 [] 0))], [(.box 25 (.dat 25 x0))], 0⟩
theorem accum_Result_j0_eq m x0 : e4 jn m [1, 1] [] (s4_0 x0) = accum_Result_j0 m x0 :=
  tre (g := fun J => some kz3c25e) (fun J => by kernel_rfl) (by rfl)
theorem accum_Result_eq m a0 a1 : e4 jn m [] [] ⟨[(.dat 41 a0), (.dat 29 a1)], [], 0⟩ = accum_Result (m + 1) a0 a1 :=
  tre (g := fun J => (bif ((Dt.I a0 1) == 1) then
   ((accum_sumRule_result m (Dt.agg []) a1).bind fun r0 =>
   ((accum_copyValue m r0).bind fun r1 =>
   some r1))
    else
   (bif ((Dt.I a0 1) == 2) then
   ((accum_countRule_result m (Dt.agg []) a1).bind fun r2 =>
   ((accum_copyValue m r2).bind fun r3 =>
   some r3))
   else
   (bif ((Dt.I a0 1) == 3) then
   ((accum_avgRule_result m (Dt.agg []) a1).bind fun r4 =>
   ((accum_copyValue m r4).bind fun r5 =>
   some r5))
   else
   (bif ((Dt.I a0 1) == 4) then
   ((accum_extremeRule_result m (Dt.agg [(Dt.int 1)]) a1).bind fun r6 =>
   ((accum_copyValue m r6).bind fun r7 =>
   some r7))
   else
   (bif ((Dt.I a0 1) == 5) then
   ((accum_extremeRule_result m (Dt.agg [(Dt.int (-1))]) a1).bind fun r8 =>
   ((accum_copyValue m r8).bind fun r9 =>
   some r9))
   else
   (bif ((Dt.I a0 1) == 6) then
   ((accum_firstRule_result m (Dt.agg []) a1).bind fun r10 =>
   ((accum_copyValue m r10).bind fun r11 =>
   some r11))
   else
   (bif ((Dt.I a0 1) == 7) then
   ((accum_lastRule_result m (Dt.agg []) a1).bind fun r12 =>
   ((accum_copyValue m r12).bind fun r13 =>
   some r13))
   else
   (bif ((Dt.I a0 1) == 8) then
   ((resN159 (Dt.agg []) a1).bind fun r14 =>
   ((accum_copyValue m r14).bind fun r15 =>
   some r15))
   else
   (bif ((Dt.I a0 1) == 9) then
   ((resN162 (Dt.agg []) a1).bind fun r16 =>
   ((accum_copyValue m r16).bind fun r17 =>
   some r17))
   else
   (bif ((Dt.I a0 1) == 10) then
   ((resN172 (Dt.agg []) a1).bind fun r18 =>
   ((accum_copyValue m r18).bind fun r19 =>
   some r19))
   else
   (jj J 0 4 0 (s4_0 kza2373) (e4 J m [1, 1] []))))))))))))) (fun J => by kernel_rfl) (by simp only [jj_eq, accum_Result_j0_eq m]; rfl)
noncomputable def e36 (J : Nat → Nat → Nat → St → Option Bool → Option Bool) (m : Nat) (p ms : List Nat) (σ : St) := evAt Tryz.prog env (ct m) J (m + 1) 127 6 Tryz.f127 d36 p ms σ
noncomputable def l36 (J : Nat → Nat → Nat → St → Option Bool → Option Bool) (m : Nat) (p ms : List Nat) (M : Nat) (σ : St) := loopAt Tryz.prog env (ct m) J (m + 1) 127 6 Tryz.f127 d36 p ms M σ
theorem cmp_isNaN_eq m a0 : e36 jn m [] [] ⟨[(.dat 3 (.int a0))], [], 0⟩ = cmp_isNaN (m + 1) a0 :=
  tre (g := fun J => some (a0 != a0)) (fun J => by kernel_rfl) (by rfl)
def w34_3 : List Nat := [1, 1, 1, 1, 1]
def w34_2 : List Nat := [1, 1, 1, 1, 1, 1]
def w34_0 : List Nat := [1, 1, 1, 0, 1, 0, 1]
def w34_1 : List Nat := w34_2 ++ [1]
noncomputable def e34 (J : Nat → Nat → Nat → St → Option Int → Option Int) (m : Nat) (p ms : List Nat) (σ : St) := evAt Tryz.prog env (ct m) J (m + 1) 112 20 Tryz.f112 d34 p ms σ
noncomputable def l34 (J : Nat → Nat → Nat → St → Option Int → Option Int) (m : Nat) (p ms : List Nat) (M : Nat) (σ : St) := loopAt Tryz.prog env (ct m) J (m + 1) 112 20 Tryz.f112 d34 p ms M σ
noncomputable def s34_0 : St := ⟨tsOf [], [], 0⟩
noncomputable def s34_3 (x0 x1 : Int) : St := ⟨tsOf [(0, (.dat 3 (.int x0))), (1, (.dat 3 (.int x1)))], [], 0⟩
noncomputable def s34_1 (x0 x1 : Int) (x2 : Bool) : St := ⟨tsOf [(0, (.dat 3 (.int x0))), (1, (.dat 3 (.int x1))), (6, (.dat 4 (.bool x2)))], [], 0⟩
theorem cmp_Compare_j0_eq m : e34 jn m w34_0 [] s34_0 = cmp_Compare_j0 m :=
  tre (g := fun J => some (-1)) (fun J => by kernel_rfl) (by rfl)
theorem cmp_Compare_j4_eq m : e34 jn m w34_1 [] s34_0 = cmp_Compare_j4 m :=
  tre (g := fun J => some 0) (fun J => by kernel_rfl) (by rfl)
theorem cmp_Compare_j3_eq m x0 x1 : e34 jn m w34_2 [] (s34_3 x0 x1) = cmp_Compare_j3 m x0 x1 :=
  tre (g := fun J => (bif (decide (x1 < x0)) then
   some 1
    else
   (jj J 0 13 0 s34_0 (e34 J m w34_1 [])))) (fun J => by kernel_rfl) (by simp only [jj_eq, cmp_Compare_j4_eq m]; rfl)
theorem cmp_Compare_j2_eq m x0 x1 : e34 jn m w34_3 [] (s34_3 x0 x1) = cmp_Compare_j2 m x0 x1 :=
  tre (g := fun J => (bif (decide (x0 < x1)) then
   some (-1)
    else
   (jj J 0 11 0 (s34_3 x0 x1) (e34 J m w34_2 [])))) (fun J => by kernel_rfl) (by simp only [jj_eq, cmp_Compare_j3_eq m]; rfl)
theorem cmp_Compare_j1_eq m x0 x1 x2 : e34 jn m [1, 1, 1, 1] [] (s34_1 x0 x1 x2) = cmp_Compare_j1 m x0 x1 x2 :=
  tre (g := fun J => (bif x2 then
   some 1
    else
   (jj J 0 9 0 (s34_3 x0 x1) (e34 J m w34_3 [])))) (fun J => by kernel_rfl) (by simp only [jj_eq, cmp_Compare_j2_eq m]; rfl)
theorem cmp_Compare_eq m a0 a1 : e34 jn m [] [] ⟨[(.dat 3 (.int a0)), (.dat 3 (.int a1))], [], 0⟩ = cmp_Compare (m + 1) a0 a1 :=
  tre (g := fun J => ((cmp_isNaN m a0).bind fun r0 =>
   ((cmp_isNaN m a1).bind fun r1 =>
   (bif r0 then
   (bif r1 then
   some 0
   else
   (jj J 0 6 0 s34_0 (e34 J m w34_0 [])))
   else
   (jj J 0 7 0 (s34_1 a0 a1 r1) (e34 J m [1, 1, 1, 1] [])))))) (fun J => by kernel_rfl) (by simp only [jj_eq, cmp_Compare_j0_eq m, cmp_Compare_j1_eq m]; rfl)
def w33_12 : List Nat := [1, 1, 0, 1, 0, 1]
def w33_11 : List Nat := w33_12 ++ [1, 1]
def w33_3 : List Nat := w33_11 ++ [1, 1, 0, 1]
def w33_4 : List Nat := w33_11 ++ [1, 1, 0, 0, 1]
def w33_0 : List Nat := w33_4 ++ [0]
def w33_9 : List Nat := w33_11 ++ [1, 1, 1, 1, 0, 1]
def w33_10 : List Nat := w33_11 ++ [1, 1, 1, 1, 0, 0, 1]
def w33_5 : List Nat := w33_10 ++ [0]
def w33_2 : List Nat := w33_0 ++ [0, 1, 1]
def w33_1 : List Nat := w33_2 ++ [1]
def w33_8 : List Nat := w33_5 ++ [0, 1, 1]
def w33_6 : List Nat := w33_8 ++ [1]
def w33_7 : List Nat := w33_8 ++ [0, 0, 1, 1]
noncomputable def e33 (J : Nat → Nat → Nat → St → Option Int → Option Int) (m : Nat) (p ms : List Nat) (σ : St) := evAt Tryz.prog env (ct m) J (m + 1) 92 126 Tryz.f92 d34 p ms σ
noncomputable def l33 (J : Nat → Nat → Nat → St → Option Int → Option Int) (m : Nat) (p ms : List Nat) (M : Nat) (σ : St) := loopAt Tryz.prog env (ct m) J (m + 1) 92 126 Tryz.f92 d34 p ms M σ
noncomputable def s33_6 (x0 x1 : Int) (x2 x3 : Dt) : St := ⟨tsOf [(2, (.ptr 0 [] 0)), (3, (.ptr 1 [] 0)), (48, (.dat 3 (.int x0))), (49, (.dat 3 (.int x1)))], [(.box 25 (.dat 25 x2)), (.box 25 (.dat 25 x3))], 0⟩
noncomputable def s33_7 (x0 x1 : Dt) : St := ⟨tsOf [(2, (.ptr 0 [] 0)), (3, (.ptr 1 [] 0))], [(.box 25 (.dat 25 x0)), (.box 25 (.dat 25 x1))], 0⟩
noncomputable def s33_12 (x0 x1 : Int) (x2 x3 : Dt) : St := ⟨tsOf [(2, (.ptr 0 [] 0)), (3, (.ptr 1 [] 0)), (82, (.dat 3 (.int x0))), (83, (.dat 3 (.int x1)))], [(.box 25 (.dat 25 x2)), (.box 25 (.dat 25 x3))], 0⟩
noncomputable def s33_11 (x0 x1 x2 : Int) (x3 x4 : Dt) : St := ⟨tsOf [(2, (.ptr 0 [] 0)), (3, (.ptr 1 [] 0)), (7, (.dat 3 (.int x0))), (82, (.dat 3 (.int x1))), (83, (.dat 3 (.int x2)))], [(.box 25 (.dat 25 x3)), (.box 25 (.dat 25 x4))], 0⟩
noncomputable def s33_14 : St := ⟨tsOf [], [], 0⟩
noncomputable def s33_2 (x0 : Int) (x1 : Bool) (x2 x3 : Dt) : St := ⟨tsOf [(2, (.ptr 0 [] 0)), (3, (.ptr 1 [] 0)), (21, (.dat 3 (.int x0))), (31, (.dat 4 (.bool x1)))], [(.box 25 (.dat 25 x2)), (.box 25 (.dat 25 x3))], 0⟩
noncomputable def s33_1 (x0 : Int) (x1 : Bool) (x2 x3 : Dt) : St := ⟨tsOf [(2, (.ptr 0 [] 0)), (3, (.ptr 1 [] 0)), (21, (.dat 3 (.int x0))), (22, (.dat 4 (.bool x1)))], [(.box 25 (.dat 25 x2)), (.box 25 (.dat 25 x3))], 0⟩
abbrev H33_4 (m M4 : Nat) (rec4 : Int → Int → Dt → Dt → Option Int) : Prop := ∀ x0 x1 x2 x3, l33 jn m w33_0 [] M4 (s33_6 x0 x1 x2 x3) = rec4 x0 x1 x2 x3
theorem value_Compare_j6_eq m M4 rec4 (h4 : H33_4 m M4 rec4) x0 x1 x2 x3 : e33 jn m w33_1 [M4] (s33_6 x0 x1 x2 x3) = value_Compare_j6 m (value_Compare m) rec4 x0 x1 x2 x3 :=
  tre (g := fun J => (jj J 1 14 M4 (s33_6 x0 (IntKind.wrap .i64 (x1 + 1)) x2 x3) (l33 J m w33_0 [] M4))) (fun J => by kernel_rfl) (by simp only [jj_eq, h4]; rfl)
theorem value_Compare_j5_eq m M4 rec4 (h4 : H33_4 m M4 rec4) x0 x1 x2 x3 : e33 jn m w33_2 [M4] (s33_6 x0 x1 x2 x3) = value_Compare_j5 m (value_Compare m) rec4 x0 x1 x2 x3 :=
  tre (g := fun J => ((idx (Dt.L x2 3) x1).bind fun v3 =>
   ((idx (Dt.L x3 3) x1).bind fun v4 =>
   ((value_Compare m v3 v4).bind fun r5 =>
   (bif (r5 != 0) then
   some r5
   else
   (jj J 0 19 0 (s33_6 x0 x1 x2 x3) (e33 J m w33_1 [M4]))))))) (fun J => by kernel_rfl) (by simp only [jj_eq, value_Compare_j6_eq m M4 rec4 h4]; rfl)
theorem value_Compare_j7_eq m x0 x1 : e33 jn m w33_3 [] (s33_7 x0 x1) = value_Compare_j7 m (value_Compare m) x0 x1 :=
  tre (g := fun J => ((cmp_Compare m (List.length (Dt.L x0 3) : Int) (List.length (Dt.L x1 3) : Int)).bind fun r6 =>
   some r6)) (fun J => by kernel_rfl) (by rfl)
theorem value_Compare_l4_eq m : ∀ M4 x0 x1 x2 x3, l33 jn m w33_0 [] M4 (s33_6 x0 x1 x2 x3) = value_Compare_l4 m (value_Compare m) M4 x0 x1 x2 x3
  | 0, _, _, _, _ => rfl
  | M4 + 1, x0, x1, x2, x3 =>
    trl (g := fun J => (bif (decide (x1 < x0)) then
   (jj J 0 15 0 (s33_6 x0 x1 x2 x3) (e33 J m w33_2 [M4]))
    else
   (jj J 0 20 0 (s33_7 x2 x3) (e33 J m w33_3 [])))) (fun J => by kernel_rfl) (by simp only [jj_eq, value_Compare_j5_eq m M4 (value_Compare_l4 m (value_Compare m) M4) (value_Compare_l4_eq m M4), value_Compare_j7_eq m]; rfl)
theorem value_Compare_j3_eq m x0 x1 x2 x3 : e33 jn m w33_4 [] (s33_6 x0 x1 x2 x3) = value_Compare_j3 m (value_Compare m) x0 x1 x2 x3 :=
  tre (g := fun J => (jj J 1 14 (Nat.succ m) (s33_6 x0 x1 x2 x3) (l33 J m w33_0 [] (Nat.succ m)))) (fun J => by kernel_rfl) (by simp only [jj_eq, value_Compare_l4_eq m]; rfl)
abbrev H33_9 (m M9 : Nat) (rec9 : Int → Int → Dt → Dt → Option Int) : Prop := ∀ x0 x1 x2 x3, l33 jn m w33_5 [] M9 (s33_12 x0 x1 x2 x3) = rec9 x0 x1 x2 x3
theorem value_Compare_j12_eq m M9 rec9 (h9 : H33_9 m M9 rec9) x0 x1 x2 x3 : e33 jn m w33_6 [M9] (s33_12 x0 x1 x2 x3) = value_Compare_j12 m (value_Compare m) rec9 x0 x1 x2 x3 :=
  tre (g := fun J => (jj J 1 23 M9 (s33_12 x0 (IntKind.wrap .i64 (x1 + 1)) x2 x3) (l33 J m w33_5 [] M9))) (fun J => by kernel_rfl) (by simp only [jj_eq, h9]; rfl)
theorem value_Compare_j11_eq m M9 rec9 (h9 : H33_9 m M9 rec9) x0 x1 x2 x3 x4 : e33 jn m w33_7 [M9] (s33_11 x0 x1 x2 x3 x4) = value_Compare_j11 m (value_Compare m) rec9 x0 x1 x2 x3 x4 :=
  tre (g := fun J => ((idx (Dt.L x3 4) x0).bind fun v10 =>
   ((idx (Dt.L x4 4) x0).bind fun v11 =>
   ((value_Compare m (Dt.fld v10 1) (Dt.fld v11 1)).bind fun r12 =>
   (bif (r12 != 0) then
   some r12
   else
   (jj J 0 31 0 (s33_12 x1 x2 x3 x4) (e33 J m w33_6 [M9]))))))) (fun J => by kernel_rfl) (by simp only [jj_eq, value_Compare_j12_eq m M9 rec9 h9]; rfl)
theorem value_Compare_j10_eq m M9 rec9 (h9 : H33_9 m M9 rec9) x0 x1 x2 x3 : e33 jn m w33_8 [M9] (s33_12 x0 x1 x2 x3) = value_Compare_j10 m (value_Compare m) rec9 x0 x1 x2 x3 :=
  tre (g := fun J => ((idx (Dt.L x2 4) x1).bind fun v7 =>
   ((idx (Dt.L x3 4) x1).bind fun v8 =>
   ((strings_CompareN (Dt.S v7 0) (Dt.S v8 0)).bind fun r9 =>
   (bif (r9 != 0) then
   some r9
   else
   (jj J 0 28 0 (s33_11 x1 x0 x1 x2 x3) (e33 J m w33_7 [M9]))))))) (fun J => by kernel_rfl) (by simp only [jj_eq, value_Compare_j11_eq m M9 rec9 h9]; rfl)
theorem value_Compare_j13_eq m x0 x1 : e33 jn m w33_9 [] (s33_7 x0 x1) = value_Compare_j13 m (value_Compare m) x0 x1 :=
  tre (g := fun J => ((cmp_Compare m (List.length (Dt.L x0 4) : Int) (List.length (Dt.L x1 4) : Int)).bind fun r13 =>
   some r13)) (fun J => by kernel_rfl) (by rfl)
theorem value_Compare_l9_eq m : ∀ M9 x0 x1 x2 x3, l33 jn m w33_5 [] M9 (s33_12 x0 x1 x2 x3) = value_Compare_l9 m (value_Compare m) M9 x0 x1 x2 x3
  | 0, _, _, _, _ => rfl
  | M9 + 1, x0, x1, x2, x3 =>
    trl (g := fun J => (bif (decide (x1 < x0)) then
   (jj J 0 24 0 (s33_12 x0 x1 x2 x3) (e33 J m w33_8 [M9]))
    else
   (jj J 0 32 0 (s33_7 x2 x3) (e33 J m w33_9 [])))) (fun J => by kernel_rfl) (by simp only [jj_eq, value_Compare_j10_eq m M9 (value_Compare_l9 m (value_Compare m) M9) (value_Compare_l9_eq m M9), value_Compare_j13_eq m]; rfl)
theorem value_Compare_j8_eq m x0 x1 x2 x3 : e33 jn m w33_10 [] (s33_12 x0 x1 x2 x3) = value_Compare_j8 m (value_Compare m) x0 x1 x2 x3 :=
  tre (g := fun J => (jj J 1 23 (Nat.succ m) (s33_12 x0 x1 x2 x3) (l33 J m w33_5 [] (Nat.succ m)))) (fun J => by kernel_rfl) (by simp only [jj_eq, value_Compare_l9_eq m]; rfl)
theorem value_Compare_j14_eq m : e33 jn m [1, 1, 1] [] s33_14 = value_Compare_j14 m (value_Compare m) :=
  tre (g := fun J => some 0) (fun J => by kernel_rfl) (by rfl)
theorem value_Compare_j2_eq m x0 x1 x2 x3 : e33 jn m w33_11 [] (s33_2 x0 x1 x2 x3) = value_Compare_j2 m (value_Compare m) x0 x1 x2 x3 :=
  tre (g := fun J => (bif x1 then
   ((strings_CompareN (Dt.S x2 2) (Dt.S x3 2)).bind fun r2 =>
   some r2)
    else
   (bif (x0 == 6) then
   (jj J 0 14 0 (s33_6 (bif (decide ((List.length (Dt.L x3 3) : Int) < (List.length (Dt.L x2 3) : Int))) then (List.length (Dt.L x3 3) : Int) else (List.length (Dt.L x2 3) : Int)) 0 x2 x3) (e33 J m w33_4 []))
   else
   (bif (x0 == 5) then
   (jj J 0 23 0 (s33_12 (bif (decide ((List.length (Dt.L x3 4) : Int) < (List.length (Dt.L x2 4) : Int))) then (List.length (Dt.L x3 4) : Int) else (List.length (Dt.L x2 4) : Int)) 0 x2 x3) (e33 J m w33_10 []))
   else
   (jj J 0 33 0 s33_14 (e33 J m [1, 1, 1] [])))))) (fun J => by kernel_rfl) (by simp only [jj_eq, value_Compare_j3_eq m, value_Compare_j8_eq m, value_Compare_j14_eq m]; rfl)
theorem value_Compare_j1_eq m x0 x1 x2 x3 : e33 jn m w33_12 [] (s33_1 x0 x1 x2 x3) = value_Compare_j1 m (value_Compare m) x0 x1 x2 x3 :=
  tre (g := fun J => (bif x1 then
   ((cmp_Compare m (Dt.I x2 1) (Dt.I x3 1)).bind fun r1 =>
   some r1)
    else
   (bif (x0 == 4) then
   (jj J 0 11 0 (s33_2 x0 (x0 == 4) x2 x3) (e33 J m w33_11 []))
   else
   (bif (x0 == 7) then
   (jj J 0 11 0 (s33_2 x0 (x0 == 7) x2 x3) (e33 J m w33_11 []))
   else
   (jj J 0 11 0 (s33_2 x0 (x0 == 8) x2 x3) (e33 J m w33_11 [])))))) (fun J => by kernel_rfl) (by simp only [jj_eq, value_Compare_j2_eq m]; rfl)
theorem value_Compare_j0_eq m x0 x1 : e33 jn m [1, 1] [] (s33_7 x0 x1) = value_Compare_j0 m (value_Compare m) x0 x1 :=
  tre (g := fun J => (bif ((Dt.I x0 0) == 3) then
   (jj J 0 7 0 (s33_1 (Dt.I x0 0) ((Dt.I x0 0) == 3) x0 x1) (e33 J m w33_12 []))
    else
   (bif ((Dt.I x0 0) == 9) then
   (jj J 0 7 0 (s33_1 (Dt.I x0 0) ((Dt.I x0 0) == 9) x0 x1) (e33 J m w33_12 []))
   else
   (jj J 0 7 0 (s33_1 (Dt.I x0 0) ((Dt.I x0 0) == 10) x0 x1) (e33 J m w33_12 []))))) (fun J => by kernel_rfl) (by simp only [jj_eq, value_Compare_j1_eq m]; rfl)
theorem value_Compare_eq m a0 a1 : e33 jn m [] [] ⟨[(.dat 25 a0), (.dat 25 a1)], [], 0⟩ = value_Compare (m + 1) a0 a1 :=
  tre (g := fun J => (bif ((Dt.I a0 0) != (Dt.I a1 0)) then
   ((cmp_Compare m (Dt.I a0 0) (Dt.I a1 0)).bind fun r0 =>
   some r0)
    else
   (jj J 0 3 0 (s33_7 a0 a1) (e33 J m [1, 1] [])))) (fun J => by kernel_rfl) (by simp only [jj_eq, value_Compare_j0_eq m]; rfl)
noncomputable def e32 (J : Nat → Nat → Nat → St → Option Dt → Option Dt) (m : Nat) (p ms : List Nat) (σ : St) := evAt Tryz.prog env (ct m) J (m + 1) 150 30 Tryz.f150 d5 p ms σ
noncomputable def l32 (J : Nat → Nat → Nat → St → Option Dt → Option Dt) (m : Nat) (p ms : List Nat) (M : Nat) (σ : St) := loopAt Tryz.prog env (ct m) J (m + 1) 150 30 Tryz.f150 d5 p ms M σ
noncomputable def s32_3 (x0 x1 : Dt) : St := ⟨tsOf [(4, (.ptr 0 [] 0)), (6, (.ptr 1 [] 0))], [(.box 25 (.dat 25 x0)), (.box 25 (.dat 25 x1))], 0⟩
noncomputable def s32_2 (x0 : Bool) (x1 x2 x3 : Dt) : St := ⟨tsOf [(4, (.ptr 0 [] 0)), (5, (.ptr 1 [] 0)), (6, (.ptr 2 [] 0)), (27, (.dat 4 (.bool x0)))], [(.box 25 (.dat 25 x1)), (.box 25 (.dat 25 x2)), (.box 25 (.dat 25 x3))], 0⟩
noncomputable def s32_1 (x0 x1 x2 x3 : Dt) : St := ⟨tsOf [(3, (.ptr 0 [] 0)), (4, (.ptr 1 [] 0)), (5, (.ptr 2 [] 0)), (6, (.ptr 3 [] 0))], [(.box 89 (.dat 89 x0)), (.box 25 (.dat 25 x1)), (.box 25 (.dat 25 x2)), (.box 25 (.dat 25 x3))], 0⟩
noncomputable def s32_0 (x0 : Bool) (x1 x2 x3 x4 : Dt) : St := ⟨tsOf [(3, (.ptr 0 [] 0)), (4, (.ptr 1 [] 0)), (5, (.ptr 2 [] 0)), (6, (.ptr 3 [] 0)), (14, (.dat 4 (.bool x0)))], [(.box 89 (.dat 89 x1)), (.box 25 (.dat 25 x2)), (.box 25 (.dat 25 x3)), (.box 25 (.dat 25 x4))], 0⟩
theorem accum_extremeRule_better_j3_eq m x0 x1 : e32 jn m [1, 1, 1] [] (s32_3 x0 x1) = accum_extremeRule_better_j3 m x0 x1 :=
  tre (g := fun J => some x0) (fun J => by kernel_rfl) (by rfl)
theorem accum_extremeRule_better_j2_eq m x0 x1 x2 x3 : e32 jn m [1, 1, 0, 1] [] (s32_2 x0 x1 x2 x3) = accum_extremeRule_better_j2 m x0 x1 x2 x3 :=
  tre (g := fun J => (bif x0 then
   some x2
    else
   (jj J 0 5 0 (s32_3 x1 x3) (e32 J m [1, 1, 1] [])))) (fun J => by kernel_rfl) (by simp only [jj_eq, accum_extremeRule_better_j3_eq m]; rfl)
theorem accum_extremeRule_better_j1_eq m x0 x1 x2 x3 : e32 jn m [1, 1] [] (s32_1 x0 x1 x2 x3) = accum_extremeRule_better_j1 m x0 x1 x2 x3 :=
  tre (g := fun J => (bif ((Dt.I x1 0) == 0) then
   (jj J 0 4 0 (s32_2 true x1 x2 x3) (e32 J m [1, 1, 0, 1] []))
    else
   ((value_Compare m x2 x1).bind fun r0 =>
   (jj J 0 4 0 (s32_2 (decide ((IntKind.wrap .i64 (r0 * (Dt.I x0 0))) < 0)) x1 x2 x3) (e32 J m [1, 1, 0, 1] []))))) (fun J => by kernel_rfl) (by simp only [jj_eq, accum_extremeRule_better_j2_eq m]; rfl)
theorem accum_extremeRule_better_j0_eq m x0 x1 x2 x3 x4 : e32 jn m [1, 0, 1] [] (s32_0 x0 x1 x2 x3 x4) = accum_extremeRule_better_j0 m x0 x1 x2 x3 x4 :=
  tre (g := fun J => (bif x0 then
   some x2
    else
   (jj J 0 3 0 (s32_1 x1 x2 x3 x4) (e32 J m [1, 1] [])))) (fun J => by kernel_rfl) (by simp only [jj_eq, accum_extremeRule_better_j1_eq m]; rfl)
theorem accum_extremeRule_better_eq m a0 a1 a2 : e32 jn m [] [] ⟨[(.dat 89 a0), (.dat 25 a1), (.dat 25 a2)], [], 0⟩ = accum_extremeRule_better (m + 1) a0 a1 a2 :=
  tre (g := fun J => (bif ((Dt.I a2 0) == 0) then
   (jj J 0 2 0 (s32_0 true a0 a1 a2 kza2373) (e32 J m [1, 0, 1] []))
    else
   (jj J 0 2 0 (s32_0 ((Dt.I a2 0) == 2) a0 a1 a2 kza2373) (e32 J m [1, 0, 1] [])))) (fun J => by kernel_rfl) (by simp only [jj_eq, accum_extremeRule_better_j0_eq m]; rfl)
noncomputable def e22 (J : Nat → Nat → Nat → St → Option Dt → Option Dt) (m : Nat) (p ms : List Nat) (σ : St) := evAt Tryz.prog env (ct m) J (m + 1) 147 19 Tryz.f147 d6 p ms σ
noncomputable def l22 (J : Nat → Nat → Nat → St → Option Dt → Option Dt) (m : Nat) (p ms : List Nat) (M : Nat) (σ : St) := loopAt Tryz.prog env (ct m) J (m + 1) 147 19 Tryz.f147 d6 p ms M σ
theorem accum_extremeRule_add_eq m a0 a1 a2 a3 : e22 jn m [] [] ⟨[(.dat 89 a0), (.dat 41 a1), (.dat 29 a2), (.dat 25 a3)], [], 0⟩ = accum_extremeRule_add (m + 1) a0 a1 a2 a3 :=
  tre (g := fun J => ((expr_EvalC (Dt.fld a1 2) a3).bind fun r0 =>
   ((accum_extremeRule_better m a0 (Dt.fld a2 3) r0).bind fun r1 =>
   some (Dt.agg [(Dt.int (Dt.I a2 0)), (Dt.int (Dt.I a2 1)), (Dt.int (Dt.I a2 2)), r1, (Dt.lst (Dt.L a2 4)), (Dt.lst (Dt.L a2 5))])))) (fun J => by kernel_rfl) (by rfl)
noncomputable def e7 (J : Nat → Nat → Nat → St → Option Dt → Option Dt) (m : Nat) (p ms : List Nat) (σ : St) := evAt Tryz.prog env (ct m) J (m + 1) 22 25 Tryz.f22 d6 p ms σ
noncomputable def l7 (J : Nat → Nat → Nat → St → Option Dt → Option Dt) (m : Nat) (p ms : List Nat) (M : Nat) (σ : St) := loopAt Tryz.prog env (ct m) J (m + 1) 22 25 Tryz.f22 d6 p ms M σ
noncomputable def s7_0 (x0 x1 : Dt) : St := ⟨tsOf [(6, (.ptr 0 [] 0)), (7, (.ptr 1 [] 0))], [(.box 29 (.dat 29 x0)), (.box 29 (.dat 29 x1))], 0⟩
theorem accum_Add_j0_eq m x0 x1 : e7 jn m [1, 1, 1] [] (s7_0 x0 x1) = accum_Add_j0 m x0 x1 :=
  tre (g := fun J => some x1) (fun J => by kernel_rfl) (by rfl)
theorem accum_Add_eq m a0 a1 a2 : e7 jn m [] [] ⟨[(.dat 41 a0), (.dat 29 a1), (.dat 25 a2)], [], 0⟩ = accum_Add (m + 1) a0 a1 a2 :=
  tre (g := fun J => ((accum_copyPart m a1).bind fun r0 =>
   (bif ((Dt.I a0 1) == 1) then
   ((accum_sumRule_add m (Dt.agg []) a0 r0 a2).bind fun r1 =>
   some r1)
   else
   (bif ((Dt.I a0 1) == 2) then
   ((accum_countRule_add m (Dt.agg []) a0 r0 a2).bind fun r2 =>
   some r2)
   else
   (bif ((Dt.I a0 1) == 3) then
   ((accum_avgRule_add m (Dt.agg []) a0 r0 a2).bind fun r3 =>
   some r3)
   else
   (bif ((Dt.I a0 1) == 4) then
   ((accum_extremeRule_add m (Dt.agg [(Dt.int 1)]) a0 r0 a2).bind fun r4 =>
   some r4)
   else
   (bif ((Dt.I a0 1) == 5) then
   ((accum_extremeRule_add m (Dt.agg [(Dt.int (-1))]) a0 r0 a2).bind fun r5 =>
   some r5)
   else
   (bif ((Dt.I a0 1) == 6) then
   ((accum_firstRule_add m (Dt.agg []) a0 r0 a2).bind fun r6 =>
   some r6)
   else
   (bif ((Dt.I a0 1) == 7) then
   ((accum_lastRule_add m (Dt.agg []) a0 r0 a2).bind fun r7 =>
   some r7)
   else
   (bif ((Dt.I a0 1) == 8) then
   ((addN157 (Dt.agg []) a0 r0 a2).bind fun r8 =>
   some r8)
   else
   (bif ((Dt.I a0 1) == 9) then
   ((addN160 (Dt.agg []) a0 r0 a2).bind fun r9 =>
   some r9)
   else
   (bif ((Dt.I a0 1) == 10) then
   ((addN170 (Dt.agg []) a0 r0 a2).bind fun r10 =>
   some r10)
   else
   (jj J 0 5 0 (s7_0 kzc575d r0) (e7 J m [1, 1, 1] [])))))))))))))) (fun J => by kernel_rfl) (by simp only [jj_eq, accum_Add_j0_eq m]; rfl)
def w3_0 : List Nat := [1, 1, 0, 1, 0]
def w3_2 : List Nat := [1, 1, 0, 1, 0, 0, 1]
def w3_1 : List Nat := w3_2 ++ [1]
noncomputable def e3 (J : Nat → Nat → Nat → St → Option Dt → Option Dt) (m : Nat) (p ms : List Nat) (σ : St) := evAt Tryz.prog env (ct m) J (m + 1) 14 23 Tryz.f14 d6 p ms σ
noncomputable def l3 (J : Nat → Nat → Nat → St → Option Dt → Option Dt) (m : Nat) (p ms : List Nat) (M : Nat) (σ : St) := loopAt Tryz.prog env (ct m) J (m + 1) 14 23 Tryz.f14 d6 p ms M σ
noncomputable def s3_3 (x0 : List Dt) (x1 : Int) (x2 x3 x4 : Dt) : St := ⟨tsOf [(1, (.dat 22 (.lst x0))), (2, (.ptr 0 [] 0)), (4, (.ptr 1 [] 0)), (5, (.ptr 2 [] 0)), (6, (.dat 3 (.int x1)))], [(.box 41 (.dat 41 x2)), (.box 29 (.dat 29 x3)), (.box 29 (.dat 29 x4))], 0⟩
noncomputable def s3_4 (x0 x1 : Dt) : St := ⟨tsOf [(4, (.ptr 0 [] 0)), (5, (.ptr 1 [] 0))], [(.box 29 (.dat 29 x0)), (.box 29 (.dat 29 x1))], 0⟩
abbrev H3_1 (m M1 : Nat) (rec1 : List Dt → Int → Dt → Dt → Dt → Option Dt) : Prop := ∀ x0 x1 x2 x3 x4, l3 jn m w3_0 [] M1 (s3_3 x0 x1 x2 x3 x4) = rec1 x0 x1 x2 x3 x4
theorem law32_run_j3_eq m M1 rec1 (h1 : H3_1 m M1 rec1) x0 x1 x2 x3 x4 : e3 jn m w3_1 [M1] (s3_3 x0 x1 x2 x3 x4) = law32_run_j3 m rec1 x0 x1 x2 x3 x4 :=
  tre (g := fun J => (jj J 1 3 M1 (s3_3 x0 (IntKind.wrap .i64 (x1 + 1)) x2 x3 x4) (l3 J m w3_0 [] M1))) (fun J => by kernel_rfl) (by simp only [jj_eq, h1]; rfl)
theorem law32_run_j2_eq m M1 rec1 (h1 : H3_1 m M1 rec1) x0 x1 x2 x3 x4 : e3 jn m w3_2 [M1] (s3_3 x0 x1 x2 x3 x4) = law32_run_j2 m rec1 x0 x1 x2 x3 x4 :=
  tre (g := fun J => ((idx x0 x1).bind fun v1 =>
   ((accum_Add m x2 x4 v1).bind fun r2 =>
   (jj J 0 4 0 (s3_3 x0 x1 x2 x3 r2) (e3 J m w3_1 [M1]))))) (fun J => by kernel_rfl) (by simp only [jj_eq, law32_run_j3_eq m M1 rec1 h1]; rfl)
theorem law32_run_j4_eq m x0 x1 : e3 jn m [1, 1, 1] [] (s3_4 x0 x1) = law32_run_j4 m x0 x1 :=
  tre (g := fun J => some x1) (fun J => by kernel_rfl) (by rfl)
theorem law32_run_l1_eq m : ∀ M1 x0 x1 x2 x3 x4, l3 jn m w3_0 [] M1 (s3_3 x0 x1 x2 x3 x4) = law32_run_l1 m M1 x0 x1 x2 x3 x4
  | 0, _, _, _, _, _ => rfl
  | M1 + 1, x0, x1, x2, x3, x4 =>
    trl (g := fun J => (bif (decide (x1 < (List.length x0 : Int))) then
   (jj J 0 5 0 (s3_3 x0 x1 x2 x3 x4) (e3 J m w3_2 [M1]))
    else
   (jj J 0 6 0 (s3_4 x3 x4) (e3 J m [1, 1, 1] [])))) (fun J => by kernel_rfl) (by simp only [jj_eq, law32_run_j2_eq m M1 (law32_run_l1 m M1) (law32_run_l1_eq m M1), law32_run_j4_eq m]; rfl)
theorem law32_run_j0_eq m x0 x1 x2 x3 x4 : e3 jn m [1, 1, 0, 1] [] (s3_3 x0 x1 x2 x3 x4) = law32_run_j0 m x0 x1 x2 x3 x4 :=
  tre (g := fun J => (jj J 1 3 (Nat.succ m) (s3_3 x0 x1 x2 x3 x4) (l3 J m w3_0 [] (Nat.succ m)))) (fun J => by kernel_rfl) (by simp only [jj_eq, law32_run_l1_eq m]; rfl)
theorem law32_run_eq m a0 a1 : e3 jn m [] [] ⟨[(.dat 41 a0), (.dat 22 (.lst a1))], [], 0⟩ = law32_run (m + 1) a0 a1 :=
  tre (g := fun J => ((accum_Start m a0).bind fun r0 =>
   (jj J 0 3 0 (s3_3 a1 0 a0 kzc575d r0) (e3 J m [1, 1, 0, 1] [])))) (fun J => by kernel_rfl) (by simp only [jj_eq, law32_run_j0_eq m]; rfl)
def w0_18 : List Nat := [1, 1, 1, 1, 1]
def w0_16 : List Nat := [1, 1, 1, 1, 1, 1]
def w0_19 : List Nat := [1, 1, 1, 1, 0, 1]
def w0_0 : List Nat := w0_19 ++ [0]
def w0_17 : List Nat := [1, 1, 1, 1, 1, 0, 1]
def w0_3 : List Nat := w0_17 ++ [0]
def w0_2 : List Nat := w0_0 ++ [0, 1]
def w0_1 : List Nat := w0_2 ++ [1]
def w0_15 : List Nat := w0_3 ++ [0, 1]
def w0_4 : List Nat := w0_15 ++ [1]
def w0_14 : List Nat := w0_15 ++ [0, 0, 1, 1, 1]
def w0_13 : List Nat := w0_14 ++ [1]
def w0_11 : List Nat := w0_13 ++ [1, 1]
def w0_5 : List Nat := w0_15 ++ [0, 0, 1, 1, 0, 1, 0, 0, 1]
def w0_12 : List Nat := w0_13 ++ [1, 0, 1]
def w0_6 : List Nat := w0_12 ++ [0]
def w0_9 : List Nat := w0_6 ++ [0, 1]
def w0_7 : List Nat := w0_9 ++ [1]
def w0_8 : List Nat := w0_9 ++ [0, 0, 1]
def w0_10 : List Nat := w0_11 ++ [1, 1, 0, 1, 1, 1, 1, 1, 0, 1]
noncomputable def e0 (J : Nat → Nat → Nat → St → Option Bool → Option Bool) (m : Nat) (p ms : List Nat) (σ : St) := evAt Tryz.prog env (ct m) J (m + 1) 5 165 Tryz.f5 d36 p ms σ
noncomputable def l0 (J : Nat → Nat → Nat → St → Option Bool → Option Bool) (m : Nat) (p ms : List Nat) (M : Nat) (σ : St) := loopAt Tryz.prog env (ct m) J (m + 1) 5 165 Tryz.f5 d36 p ms M σ
noncomputable def s0_4 (x0 : List Dt) (x1 x2 : Int) (x3 : List Dt) : St := ⟨tsOf [(0, (.dat 46 (.lst x0))), (3, (.row 0)), (4, (.dat 3 (.int x1))), (5, (.dat 3 (.int x2)))], [(.row 22 x3)], 0⟩
noncomputable def s0_10 (x0 x1 : List Dt) (x2 x3 : Int) : St := ⟨tsOf [(0, (.dat 46 (.lst x0))), (3, (.dat 22 (.lst x1))), (4, (.dat 3 (.int x2))), (6, (.dat 3 (.int x3)))], [], 0⟩
noncomputable def s0_9 (x0 x1 : List Dt) (x2 x3 : Int) (x4 : Bool) : St := ⟨tsOf [(0, (.dat 46 (.lst x0))), (3, (.dat 22 (.lst x1))), (4, (.dat 3 (.int x2))), (6, (.dat 3 (.int x3))), (67, (.dat 4 (.bool x4)))], [], 0⟩
noncomputable def s0_17 (x0 x1 : List Dt) (x2 x3 x4 x5 x6 : Int) (x7 : Dt) : St := ⟨tsOf [(0, (.dat 46 (.lst x0))), (3, (.dat 22 (.lst x1))), (4, (.dat 3 (.int x2))), (6, (.dat 3 (.int x3))), (8, (.ptr 0 [] 0)), (9, (.dat 3 (.int x4))), (10, (.dat 3 (.int x5))), (11, (.dat 3 (.int x6)))], [(.box 25 (.dat 25 x7))], 0⟩
noncomputable def s0_19 (x0 x1 : List Dt) (x2 x3 : Int) (x4 : Bool) : St := ⟨tsOf [(0, (.dat 46 (.lst x0))), (3, (.dat 22 (.lst x1))), (4, (.dat 3 (.int x2))), (6, (.dat 3 (.int x3))), (136, (.dat 4 (.bool x4)))], [], 0⟩
noncomputable def s0_18 (x0 x1 : List Dt) (x2 x3 x4 x5 : Int) (x6 : Dt) : St := ⟨tsOf [(0, (.dat 46 (.lst x0))), (3, (.dat 22 (.lst x1))), (4, (.dat 3 (.int x2))), (6, (.dat 3 (.int x3))), (8, (.ptr 0 [] 0)), (9, (.dat 3 (.int x4))), (10, (.dat 3 (.int x5)))], [(.box 25 (.dat 25 x6))], 0⟩
noncomputable def s0_12 (x0 x1 : List Dt) (x2 x3 : Int) (x4 : Dt) : St := ⟨tsOf [(0, (.dat 46 (.lst x0))), (3, (.dat 22 (.lst x1))), (4, (.dat 3 (.int x2))), (6, (.dat 3 (.int x3))), (8, (.ptr 0 [] 0))], [(.box 25 (.dat 25 x4))], 0⟩
noncomputable def s0_20 : St := ⟨tsOf [], [], 0⟩
noncomputable def s0_5 (x0 x1 : List Dt) (x2 : Int) : St := ⟨tsOf [(0, (.dat 46 (.lst x0))), (3, (.dat 22 (.lst x1))), (4, (.dat 3 (.int x2)))], [], 0⟩
noncomputable def s0_0 (x0 : List Dt) : St := ⟨tsOf [(0, (.dat 46 (.lst x0)))], [], 0⟩
abbrev H0_2 (m M2 : Nat) (rec2 : List Dt → Int → Int → List Dt → Option Bool) : Prop := ∀ x0 x1 x2 x3, l0 jn m w0_0 [] M2 (s0_4 x0 x1 x2 x3) = rec2 x0 x1 x2 x3
theorem law32_AccumNumbers_j4_eq m M2 rec2 (h2 : H0_2 m M2 rec2) x0 x1 x2 x3 : e0 jn m w0_1 [M2] (s0_4 x0 x1 x2 x3) = law32_AccumNumbers_j4 m rec2 x0 x1 x2 x3 :=
  tre (g := fun J => (jj J 1 6 M2 (s0_4 x0 x1 (IntKind.wrap .i64 (x2 + 1)) x3) (l0 J m w0_0 [] M2))) (fun J => by kernel_rfl) (by simp only [jj_eq, h2]; rfl)
theorem law32_AccumNumbers_j3_eq m M2 rec2 (h2 : H0_2 m M2 rec2) x0 x1 x2 x3 : e0 jn m w0_2 [M2] (s0_4 x0 x1 x2 x3) = law32_AccumNumbers_j3 m rec2 x0 x1 x2 x3 :=
  tre (g := fun J => ((idx x0 x2).bind fun v1 =>
   ((law32_doc m (Dt.toInt v1)).bind fun r2 =>
   ((app x3 [r2]).bind fun v3 =>
   ((idx x0 x2).bind fun v4 =>
   (jj J 0 7 0 (s0_4 x0 (IntKind.wrap .i64 (x1 + (Dt.toInt v4))) x2 v3) (e0 J m w0_1 [M2]))))))) (fun J => by kernel_rfl) (by simp only [jj_eq, law32_AccumNumbers_j4_eq m M2 rec2 h2]; rfl)
abbrev H0_7 (m M7 : Nat) (rec7 : List Dt → List Dt → Int → Int → Option Bool) : Prop := ∀ x0 x1 x2 x3, l0 jn m w0_3 [] M7 (s0_10 x0 x1 x2 x3) = rec7 x0 x1 x2 x3
theorem law32_AccumNumbers_j10_eq m M7 rec7 (h7 : H0_7 m M7 rec7) x0 x1 x2 x3 : e0 jn m w0_4 [M7] (s0_10 x0 x1 x2 x3) = law32_AccumNumbers_j10 m rec7 x0 x1 x2 x3 :=
  tre (g := fun J => (jj J 1 11 M7 (s0_10 x0 x1 x2 (IntKind.wrap .i64 (x3 + 1))) (l0 J m w0_3 [] M7))) (fun J => by kernel_rfl) (by simp only [jj_eq, h7]; rfl)
theorem law32_AccumNumbers_j9_eq m M7 rec7 (h7 : H0_7 m M7 rec7) x0 x1 x2 x3 x4 : e0 jn m w0_5 [M7] (s0_9 x0 x1 x2 x3 x4) = law32_AccumNumbers_j9 m rec7 x0 x1 x2 x3 x4 :=
  tre (g := fun J => (bif x4 then
   some false
    else
   (jj J 0 12 0 (s0_10 x0 x1 x2 x3) (e0 J m w0_4 [M7])))) (fun J => by kernel_rfl) (by simp only [jj_eq, law32_AccumNumbers_j10_eq m M7 rec7 h7]; rfl)
abbrev H0_14 (m M7 M14 : Nat) (rec14 : List Dt → List Dt → Int → Int → Int → Int → Int → Dt → Option Bool) : Prop := ∀ x0 x1 x2 x3 x4 x5 x6 x7, l0 jn m w0_6 [M7] M14 (s0_17 x0 x1 x2 x3 x4 x5 x6 x7) = rec14 x0 x1 x2 x3 x4 x5 x6 x7
theorem law32_AccumNumbers_j17_eq m M7 rec7 (h7 : H0_7 m M7 rec7) M14 rec14 (h14 : H0_14 m M7 M14 rec14) x0 x1 x2 x3 x4 x5 x6 x7 : e0 jn m w0_7 [M7, M14] (s0_17 x0 x1 x2 x3 x4 x5 x6 x7) = law32_AccumNumbers_j17 m rec7 rec14 x0 x1 x2 x3 x4 x5 x6 x7 :=
  tre (g := fun J => (jj J 1 22 M14 (s0_17 x0 x1 x2 x3 x4 x5 (IntKind.wrap .i64 (x6 + 1)) x7) (l0 J m w0_6 [M7] M14))) (fun J => by kernel_rfl) (by simp only [jj_eq, h14]; rfl)
theorem law32_AccumNumbers_j16_eq m M7 rec7 (h7 : H0_7 m M7 rec7) M14 rec14 (h14 : H0_14 m M7 M14 rec14) x0 x1 x2 x3 x4 x5 x6 x7 : e0 jn m w0_8 [M7, M14] (s0_17 x0 x1 x2 x3 x4 x5 x6 x7) = law32_AccumNumbers_j16 m rec7 rec14 x0 x1 x2 x3 x4 x5 x6 x7 :=
  tre (g := fun J => ((idx x0 x6).bind fun v11 =>
   (bif (decide (x5 < (Dt.toInt v11))) then
   ((idx x0 x6).bind fun v12 =>
   (jj J 0 23 0 (s0_17 x0 x1 x2 x3 x4 (Dt.toInt v12) x6 x7) (e0 J m w0_7 [M7, M14])))
   else
   (jj J 0 23 0 (s0_17 x0 x1 x2 x3 x4 x5 x6 x7) (e0 J m w0_7 [M7, M14]))))) (fun J => by kernel_rfl) (by simp only [jj_eq, law32_AccumNumbers_j17_eq m M7 rec7 h7 M14 rec14 h14]; rfl)
theorem law32_AccumNumbers_j15_eq m M7 rec7 (h7 : H0_7 m M7 rec7) M14 rec14 (h14 : H0_14 m M7 M14 rec14) x0 x1 x2 x3 x4 x5 x6 x7 : e0 jn m w0_9 [M7, M14] (s0_17 x0 x1 x2 x3 x4 x5 x6 x7) = law32_AccumNumbers_j15 m rec7 rec14 x0 x1 x2 x3 x4 x5 x6 x7 :=
  tre (g := fun J => ((idx x0 x6).bind fun v9 =>
   (bif (decide ((Dt.toInt v9) < x4)) then
   ((idx x0 x6).bind fun v10 =>
   (jj J 0 26 0 (s0_17 x0 x1 x2 x3 (Dt.toInt v10) x5 x6 x7) (e0 J m w0_8 [M7, M14])))
   else
   (jj J 0 26 0 (s0_17 x0 x1 x2 x3 x4 x5 x6 x7) (e0 J m w0_8 [M7, M14]))))) (fun J => by kernel_rfl) (by simp only [jj_eq, law32_AccumNumbers_j16_eq m M7 rec7 h7 M14 rec14 h14]; rfl)
theorem law32_AccumNumbers_j19_eq m M7 rec7 (h7 : H0_7 m M7 rec7) x0 x1 x2 x3 x4 : e0 jn m w0_10 [M7] (s0_19 x0 x1 x2 x3 x4) = law32_AccumNumbers_j19 m rec7 x0 x1 x2 x3 x4 :=
  tre (g := fun J => (bif x4 then
   some false
    else
   (jj J 0 12 0 (s0_10 x0 x1 x2 x3) (e0 J m w0_4 [M7])))) (fun J => by kernel_rfl) (by simp only [jj_eq, law32_AccumNumbers_j10_eq m M7 rec7 h7]; rfl)
theorem law32_AccumNumbers_j18_eq m M7 rec7 (h7 : H0_7 m M7 rec7) x0 x1 x2 x3 x4 x5 x6 : e0 jn m w0_11 [M7] (s0_18 x0 x1 x2 x3 x4 x5 x6) = law32_AccumNumbers_j18 m rec7 x0 x1 x2 x3 x4 x5 x6 :=
  tre (g := fun J => (bif (x3 == 1) then
   (bif ((Dt.I x6 1) != x2) then
   some false
   else
   (jj J 0 12 0 (s0_10 x0 x1 x2 x3) (e0 J m w0_4 [M7])))
    else
   (bif (x3 == 2) then
   (bif ((Dt.I x6 1) != (List.length x0 : Int)) then
   some false
   else
   (jj J 0 12 0 (s0_10 x0 x1 x2 x3) (e0 J m w0_4 [M7])))
   else
   (bif (x3 == 3) then
   (bif (decide ((IntKind.wrap .i64 (x2 - (IntKind.wrap .i64 ((Dt.I x6 1) * (List.length x0 : Int))))) < 0)) then
   (jj J 0 38 0 (s0_19 x0 x1 x2 x3 true) (e0 J m w0_10 [M7]))
   else
   (jj J 0 38 0 (s0_19 x0 x1 x2 x3 (decide ((List.length x0 : Int) ≤ (IntKind.wrap .i64 (x2 - (IntKind.wrap .i64 ((Dt.I x6 1) * (List.length x0 : Int)))))))) (e0 J m w0_10 [M7])))
   else
   (bif (x3 == 4) then
   (bif ((Dt.I x6 1) != x4) then
   some false
   else
   (jj J 0 12 0 (s0_10 x0 x1 x2 x3) (e0 J m w0_4 [M7])))
   else
   (bif (x3 == 5) then
   (bif ((Dt.I x6 1) != x5) then
   some false
   else
   (jj J 0 12 0 (s0_10 x0 x1 x2 x3) (e0 J m w0_4 [M7])))
   else
   (bif (x3 == 6) then
   ((idx x0 0).bind fun v13 =>
   (bif ((Dt.I x6 1) != (Dt.toInt v13)) then
   some false
   else
   (jj J 0 12 0 (s0_10 x0 x1 x2 x3) (e0 J m w0_4 [M7]))))
   else
   (bif (x3 == 7) then
   ((idx x0 (IntKind.wrap .i64 ((List.length x0 : Int) - 1))).bind fun v14 =>
   (bif ((Dt.I x6 1) != (Dt.toInt v14)) then
   some false
   else
   (jj J 0 12 0 (s0_10 x0 x1 x2 x3) (e0 J m w0_4 [M7]))))
   else
   (jj J 0 12 0 (s0_10 x0 x1 x2 x3) (e0 J m w0_4 [M7])))))))))) (fun J => by kernel_rfl) (by simp only [jj_eq, law32_AccumNumbers_j10_eq m M7 rec7 h7, law32_AccumNumbers_j19_eq m M7 rec7 h7]; rfl)
theorem law32_AccumNumbers_l14_eq m M7 rec7 (h7 : H0_7 m M7 rec7) : ∀ M14 x0 x1 x2 x3 x4 x5 x6 x7, l0 jn m w0_6 [M7] M14 (s0_17 x0 x1 x2 x3 x4 x5 x6 x7) = law32_AccumNumbers_l14 m rec7 M14 x0 x1 x2 x3 x4 x5 x6 x7
  | 0, _, _, _, _, _, _, _, _ => rfl
  | M14 + 1, x0, x1, x2, x3, x4, x5, x6, x7 =>
    trl (g := fun J => (bif (decide (x6 < (List.length x0 : Int))) then
   (jj J 0 24 0 (s0_17 x0 x1 x2 x3 x4 x5 x6 x7) (e0 J m w0_9 [M7, M14]))
    else
   (jj J 0 28 0 (s0_18 x0 x1 x2 x3 x4 x5 x7) (e0 J m w0_11 [M7])))) (fun J => by kernel_rfl) (by simp only [jj_eq, law32_AccumNumbers_j15_eq m M7 rec7 h7 M14 (law32_AccumNumbers_l14 m rec7 M14) (law32_AccumNumbers_l14_eq m M7 rec7 h7 M14), law32_AccumNumbers_j18_eq m M7 rec7 h7]; rfl)
theorem law32_AccumNumbers_j13_eq m M7 rec7 (h7 : H0_7 m M7 rec7) x0 x1 x2 x3 x4 x5 x6 x7 : e0 jn m w0_12 [M7] (s0_17 x0 x1 x2 x3 x4 x5 x6 x7) = law32_AccumNumbers_j13 m rec7 x0 x1 x2 x3 x4 x5 x6 x7 :=
  tre (g := fun J => (jj J 1 22 (Nat.succ m) (s0_17 x0 x1 x2 x3 x4 x5 x6 x7) (l0 J m w0_6 [M7] (Nat.succ m)))) (fun J => by kernel_rfl) (by simp only [jj_eq, law32_AccumNumbers_l14_eq m M7 rec7 h7]; rfl)
theorem law32_AccumNumbers_j12_eq m M7 rec7 (h7 : H0_7 m M7 rec7) x0 x1 x2 x3 x4 : e0 jn m w0_13 [M7] (s0_12 x0 x1 x2 x3 x4) = law32_AccumNumbers_j12 m rec7 x0 x1 x2 x3 x4 :=
  tre (g := fun J => ((idx x0 0).bind fun v7 =>
   ((idx x0 0).bind fun v8 =>
   (jj J 0 22 0 (s0_17 x0 x1 x2 x3 (Dt.toInt v7) (Dt.toInt v8) 0 x4) (e0 J m w0_12 [M7]))))) (fun J => by kernel_rfl) (by simp only [jj_eq, law32_AccumNumbers_j13_eq m M7 rec7 h7]; rfl)
theorem law32_AccumNumbers_j11_eq m M7 rec7 (h7 : H0_7 m M7 rec7) x0 x1 x2 x3 x4 : e0 jn m w0_14 [M7] (s0_12 x0 x1 x2 x3 x4) = law32_AccumNumbers_j11 m rec7 x0 x1 x2 x3 x4 :=
  tre (g := fun J => (bif ((Dt.I x4 0) != 3) then
   some false
    else
   (jj J 0 20 0 (s0_12 x0 x1 x2 x3 x4) (e0 J m w0_13 [M7])))) (fun J => by kernel_rfl) (by simp only [jj_eq, law32_AccumNumbers_j12_eq m M7 rec7 h7]; rfl)
theorem law32_AccumNumbers_j8_eq m M7 rec7 (h7 : H0_7 m M7 rec7) x0 x1 x2 x3 : e0 jn m w0_15 [M7] (s0_10 x0 x1 x2 x3) = law32_AccumNumbers_j8 m rec7 x0 x1 x2 x3 :=
  tre (g := fun J => ((law32_run m (Dt.agg [(Dt.str (ByteArray.mk (List.toArray []))), (Dt.int x3), kz54e8a, (Dt.lst []), (Dt.int 0)]) x1).bind fun r5 =>
   ((accum_Result m (Dt.agg [(Dt.str (ByteArray.mk (List.toArray []))), (Dt.int x3), kz54e8a, (Dt.lst []), (Dt.int 0)]) r5).bind fun r6 =>
   (bif ((List.length x0 : Int) == 0) then
   (bif (x3 == 1) then
   (bif (Bool.not (true == ((Dt.I r6 0) == 3))) then
   (jj J 0 17 0 (s0_9 x0 x1 x2 x3 true) (e0 J m w0_5 [M7]))
   else
   (jj J 0 17 0 (s0_9 x0 x1 x2 x3 ((Dt.I r6 1) != 0)) (e0 J m w0_5 [M7])))
   else
   (bif (Bool.not ((x3 == 2) == ((Dt.I r6 0) == 3))) then
   (jj J 0 17 0 (s0_9 x0 x1 x2 x3 true) (e0 J m w0_5 [M7]))
   else
   (jj J 0 17 0 (s0_9 x0 x1 x2 x3 ((Dt.I r6 1) != 0)) (e0 J m w0_5 [M7]))))
   else
   (jj J 0 18 0 (s0_12 x0 x1 x2 x3 r6) (e0 J m w0_14 [M7])))))) (fun J => by kernel_rfl) (by simp only [jj_eq, law32_AccumNumbers_j9_eq m M7 rec7 h7, law32_AccumNumbers_j11_eq m M7 rec7 h7]; rfl)
theorem law32_AccumNumbers_j20_eq m : e0 jn m w0_16 [] s0_20 = law32_AccumNumbers_j20 m :=
  tre (g := fun J => ((awakeC).bind fun r15 =>
   some r15)) (fun J => by kernel_rfl) (by rfl)
theorem law32_AccumNumbers_l7_eq m : ∀ M7 x0 x1 x2 x3, l0 jn m w0_3 [] M7 (s0_10 x0 x1 x2 x3) = law32_AccumNumbers_l7 m M7 x0 x1 x2 x3
  | 0, _, _, _, _ => rfl
  | M7 + 1, x0, x1, x2, x3 =>
    trl (g := fun J => (bif (decide (x3 ≤ 7)) then
   (jj J 0 13 0 (s0_10 x0 x1 x2 x3) (e0 J m w0_15 [M7]))
    else
   (jj J 0 51 0 s0_20 (e0 J m w0_16 [])))) (fun J => by kernel_rfl) (by simp only [jj_eq, law32_AccumNumbers_j8_eq m M7 (law32_AccumNumbers_l7 m M7) (law32_AccumNumbers_l7_eq m M7), law32_AccumNumbers_j20_eq m]; rfl)
theorem law32_AccumNumbers_j6_eq m x0 x1 x2 x3 : e0 jn m w0_17 [] (s0_10 x0 x1 x2 x3) = law32_AccumNumbers_j6 m x0 x1 x2 x3 :=
  tre (g := fun J => (jj J 1 11 (Nat.succ m) (s0_10 x0 x1 x2 x3) (l0 J m w0_3 [] (Nat.succ m)))) (fun J => by kernel_rfl) (by simp only [jj_eq, law32_AccumNumbers_l7_eq m]; rfl)
theorem law32_AccumNumbers_j5_eq m x0 x1 x2 : e0 jn m w0_18 [] (s0_5 x0 x1 x2) = law32_AccumNumbers_j5 m x0 x1 x2 :=
  tre (g := fun J => (jj J 0 11 0 (s0_10 x0 x1 x2 1) (e0 J m w0_17 []))) (fun J => by kernel_rfl) (by simp only [jj_eq, law32_AccumNumbers_j6_eq m]; rfl)
theorem law32_AccumNumbers_l2_eq m : ∀ M2 x0 x1 x2 x3, l0 jn m w0_0 [] M2 (s0_4 x0 x1 x2 x3) = law32_AccumNumbers_l2 m M2 x0 x1 x2 x3
  | 0, _, _, _, _ => rfl
  | M2 + 1, x0, x1, x2, x3 =>
    trl (g := fun J => (bif (decide (x2 < (List.length x0 : Int))) then
   (jj J 0 8 0 (s0_4 x0 x1 x2 x3) (e0 J m w0_2 [M2]))
    else
   (jj J 0 10 0 (s0_5 x0 x3 x1) (e0 J m w0_18 [])))) (fun J => by kernel_rfl) (by simp only [jj_eq, law32_AccumNumbers_j3_eq m M2 (law32_AccumNumbers_l2 m M2) (law32_AccumNumbers_l2_eq m M2), law32_AccumNumbers_j5_eq m]; rfl)
theorem law32_AccumNumbers_j1_eq m x0 x1 x2 x3 : e0 jn m w0_19 [] (s0_4 x0 x1 x2 x3) = law32_AccumNumbers_j1 m x0 x1 x2 x3 :=
  tre (g := fun J => (jj J 1 6 (Nat.succ m) (s0_4 x0 x1 x2 x3) (l0 J m w0_0 [] (Nat.succ m)))) (fun J => by kernel_rfl) (by simp only [jj_eq, law32_AccumNumbers_l2_eq m]; rfl)
theorem law32_AccumNumbers_j0_eq m x0 : e0 jn m [1, 1] [] (s0_0 x0) = law32_AccumNumbers_j0 m x0 :=
  tre (g := fun J => (jj J 0 6 0 (s0_4 x0 0 0 []) (e0 J m w0_19 []))) (fun J => by kernel_rfl) (by simp only [jj_eq, law32_AccumNumbers_j1_eq m]; rfl)
theorem law32_AccumNumbers_eq m a0 : e0 jn m [] [] ⟨[(.dat 46 (.lst a0))], [], 0⟩ = law32_AccumNumbers (m + 1) a0 :=
  tre (g := fun J => (bif (decide (100 < (List.length a0 : Int))) then
   ((awakeC).bind fun r0 =>
   some r0)
    else
   (jj J 0 3 0 (s0_0 a0) (e0 J m [1, 1] [])))) (fun J => by kernel_rfl) (by simp only [jj_eq, law32_AccumNumbers_j0_eq m]; rfl)

end Go.Proofs.YtacpcknpliomoaaGreat
