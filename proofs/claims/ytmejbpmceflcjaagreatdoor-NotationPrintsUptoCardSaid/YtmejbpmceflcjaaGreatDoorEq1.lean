/- Generated: each function's run in the abstract machine is its shallow function. -/
import Derived.Test.YtmejbpmceflcjaaGreatDoorCt
import Derived.Test.YtmejbpmceflcjaaGreatDoorAmEnv
import Derived.KernelRfl
set_option linter.unusedVariables false
set_option linter.unusedSimpArgs false
namespace Go.Proofs.YtmejbpmceflcjaaGreatDoor
open Go.Am
set_option maxRecDepth 100000
noncomputable def e39 (J : Nat → Nat → Nat → St → Option Bool → Option Bool) (m : Nat) (p ms : List Nat) (σ : St) := evAt Tryz.prog env (ct m) J (m + 1) 65 15 Tryz.f65 d1 p ms σ
noncomputable def l39 (J : Nat → Nat → Nat → St → Option Bool → Option Bool) (m : Nat) (p ms : List Nat) (M : Nat) (σ : St) := loopAt Tryz.prog env (ct m) J (m + 1) 65 15 Tryz.f65 d1 p ms M σ
theorem ref01_Valid_eq m a0 : e39 jn m [] [] ⟨[(.dat 25 a0)], [], 0⟩ = ref01_Valid (m + 1) a0 :=
  tre (g := fun J => ((ref01_Depth m a0).bind fun r0 =>
   (bif (decide (r0 ≤ 16)) then
   ((ref01_Nodes m a0).bind fun r1 =>
   (bif (decide (r1 ≤ 1024)) then
   ((ref01_formed m a0 true).bind fun r2 =>
   some r2)
   else
   some false))
   else
   some false))) (fun J => by kernel_rfl) (by rfl)
def w26_16 : List Nat := [1, 1, 1, 1, 1]
def w26_14 : List Nat := [1, 1, 1, 1, 1, 1]
def w26_17 : List Nat := [1, 1, 1, 1, 0, 1]
def w26_12 : List Nat := w26_14 ++ [1]
def w26_15 : List Nat := [1, 1, 1, 1, 1, 0, 1]
def w26_0 : List Nat := w26_15 ++ [0]
def w26_13 : List Nat := w26_14 ++ [0, 1]
def w26_3 : List Nat := w26_13 ++ [0]
def w26_2 : List Nat := w26_0 ++ [0, 1]
def w26_1 : List Nat := w26_2 ++ [1]
def w26_11 : List Nat := w26_3 ++ [0, 1]
def w26_7 : List Nat := w26_11 ++ [1]
def w26_9 : List Nat := w26_11 ++ [0, 0, 1]
def w26_8 : List Nat := w26_9 ++ [1]
def w26_10 : List Nat := w26_11 ++ [0, 0, 0, 1]
def w26_4 : List Nat := w26_8 ++ [0]
def w26_6 : List Nat := w26_4 ++ [0, 1]
def w26_5 : List Nat := w26_6 ++ [1]
noncomputable def e26 (J : Nat → Nat → Nat → St → Option Bool → Option Bool) (m : Nat) (p ms : List Nat) (σ : St) := evAt Tryz.prog env (ct m) J (m + 1) 37 92 Tryz.f37 d1 p ms σ
noncomputable def l26 (J : Nat → Nat → Nat → St → Option Bool → Option Bool) (m : Nat) (p ms : List Nat) (M : Nat) (σ : St) := loopAt Tryz.prog env (ct m) J (m + 1) 37 92 Tryz.f37 d1 p ms M σ
noncomputable def s26_5 (x0 : Int) (x1 : Dt) : St := ⟨tsOf [(1, (.ptr 0 [] 0)), (4, (.dat 3 (.int x0)))], [(.box 25 (.dat 25 x1))], 0⟩
noncomputable def s26_15 (x0 x1 : Int) (x2 : Dt) : St := ⟨tsOf [(1, (.ptr 0 [] 0)), (5, (.dat 3 (.int x0))), (6, (.dat 3 (.int x1)))], [(.box 25 (.dat 25 x2))], 0⟩
noncomputable def s26_16 (x0 : Int) (x1 : Dt) : St := ⟨tsOf [(1, (.ptr 0 [] 0)), (5, (.dat 3 (.int x0)))], [(.box 25 (.dat 25 x1))], 0⟩
noncomputable def s26_10 (x0 : Int) (x1 : Bool) (x2 : Dt) : St := ⟨tsOf [(1, (.ptr 0 [] 0)), (5, (.dat 3 (.int x0))), (73, (.dat 4 (.bool x1)))], [(.box 25 (.dat 25 x2))], 0⟩
noncomputable def s26_17 : St := ⟨tsOf [], [], 0⟩
noncomputable def s26_6 (x0 : Dt) : St := ⟨tsOf [(1, (.ptr 0 [] 0))], [(.box 25 (.dat 25 x0))], 0⟩
noncomputable def s26_0 (x0 : Bool) (x1 : Dt) : St := ⟨tsOf [(1, (.ptr 0 [] 0)), (34, (.dat 4 (.bool x0)))], [(.box 25 (.dat 25 x1))], 0⟩
abbrev H26_3 (m M3 : Nat) (rec3 : Int → Dt → Option Bool) : Prop := ∀ x0 x1, l26 jn m w26_0 [] M3 (s26_5 x0 x1) = rec3 x0 x1
theorem ref05_formed_j5_eq m M3 rec3 (h3 : H26_3 m M3 rec3) x0 x1 : e26 jn m w26_1 [M3] (s26_5 x0 x1) = ref05_formed_j5 m (ref05_formed m) rec3 x0 x1 :=
  tre (g := fun J => (jj J 1 7 M3 (s26_5 (IntKind.wrap .i64 (x0 + 1)) x1) (l26 J m w26_0 [] M3))) (fun J => by kernel_rfl) (by simp only [jj_eq, h3]; rfl)
theorem ref05_formed_j4_eq m M3 rec3 (h3 : H26_3 m M3 rec3) x0 x1 : e26 jn m w26_2 [M3] (s26_5 x0 x1) = ref05_formed_j4 m (ref05_formed m) rec3 x0 x1 :=
  tre (g := fun J => ((idx (Dt.L x1 3) x0).bind fun v0 =>
   ((ref05_formed m v0).bind fun r1 =>
   (bif (Bool.not r1) then
   some false
   else
   (jj J 0 8 0 (s26_5 x0 x1) (e26 J m w26_1 [M3])))))) (fun J => by kernel_rfl) (by simp only [jj_eq, ref05_formed_j5_eq m M3 rec3 h3]; rfl)
abbrev H26_8 (m M8 : Nat) (rec8 : Int → Dt → Option Bool) : Prop := ∀ x0 x1, l26 jn m w26_3 [] M8 (s26_16 x0 x1) = rec8 x0 x1
abbrev H26_13 (m M8 M13 : Nat) (rec13 : Int → Int → Dt → Option Bool) : Prop := ∀ x0 x1 x2, l26 jn m w26_4 [M8] M13 (s26_15 x0 x1 x2) = rec13 x0 x1 x2
theorem ref05_formed_j15_eq m M8 rec8 (h8 : H26_8 m M8 rec8) M13 rec13 (h13 : H26_13 m M8 M13 rec13) x0 x1 x2 : e26 jn m w26_5 [M8, M13] (s26_15 x0 x1 x2) = ref05_formed_j15 m (ref05_formed m) rec8 rec13 x0 x1 x2 :=
  tre (g := fun J => (jj J 1 17 M13 (s26_15 x0 (IntKind.wrap .i64 (x1 + 1)) x2) (l26 J m w26_4 [M8] M13))) (fun J => by kernel_rfl) (by simp only [jj_eq, h13]; rfl)
theorem ref05_formed_j14_eq m M8 rec8 (h8 : H26_8 m M8 rec8) M13 rec13 (h13 : H26_13 m M8 M13 rec13) x0 x1 x2 : e26 jn m w26_6 [M8, M13] (s26_15 x0 x1 x2) = ref05_formed_j14 m (ref05_formed m) rec8 rec13 x0 x1 x2 :=
  tre (g := fun J => ((idx (Dt.L x2 4) x1).bind fun v4 =>
   ((idx (Dt.L x2 4) x0).bind fun v5 =>
   (bif ((ByteArray.toList (Dt.S v4 0)) == (ByteArray.toList (Dt.S v5 0))) then
   some false
   else
   (jj J 0 18 0 (s26_15 x0 x1 x2) (e26 J m w26_5 [M8, M13])))))) (fun J => by kernel_rfl) (by simp only [jj_eq, ref05_formed_j15_eq m M8 rec8 h8 M13 rec13 h13]; rfl)
theorem ref05_formed_j16_eq m M8 rec8 (h8 : H26_8 m M8 rec8) x0 x1 : e26 jn m w26_7 [M8] (s26_16 x0 x1) = ref05_formed_j16 m (ref05_formed m) rec8 x0 x1 :=
  tre (g := fun J => (jj J 1 12 M8 (s26_16 (IntKind.wrap .i64 (x0 + 1)) x1) (l26 J m w26_3 [] M8))) (fun J => by kernel_rfl) (by simp only [jj_eq, h8]; rfl)
theorem ref05_formed_l13_eq m M8 rec8 (h8 : H26_8 m M8 rec8) : ∀ M13 x0 x1 x2, l26 jn m w26_4 [M8] M13 (s26_15 x0 x1 x2) = ref05_formed_l13 m (ref05_formed m) rec8 M13 x0 x1 x2
  | 0, _, _, _ => rfl
  | M13 + 1, x0, x1, x2 =>
    trl (g := fun J => (bif (decide (x1 < x0)) then
   (jj J 0 19 0 (s26_15 x0 x1 x2) (e26 J m w26_6 [M8, M13]))
    else
   (jj J 0 13 0 (s26_16 x0 x2) (e26 J m w26_7 [M8])))) (fun J => by kernel_rfl) (by simp only [jj_eq, ref05_formed_j14_eq m M8 rec8 h8 M13 (ref05_formed_l13 m (ref05_formed m) rec8 M13) (ref05_formed_l13_eq m M8 rec8 h8 M13), ref05_formed_j16_eq m M8 rec8 h8]; rfl)
theorem ref05_formed_j12_eq m M8 rec8 (h8 : H26_8 m M8 rec8) x0 x1 x2 : e26 jn m w26_8 [M8] (s26_15 x0 x1 x2) = ref05_formed_j12 m (ref05_formed m) rec8 x0 x1 x2 :=
  tre (g := fun J => (jj J 1 17 (Nat.succ m) (s26_15 x0 x1 x2) (l26 J m w26_4 [M8] (Nat.succ m)))) (fun J => by kernel_rfl) (by simp only [jj_eq, ref05_formed_l13_eq m M8 rec8 h8]; rfl)
theorem ref05_formed_j11_eq m M8 rec8 (h8 : H26_8 m M8 rec8) x0 x1 : e26 jn m w26_9 [M8] (s26_16 x0 x1) = ref05_formed_j11 m (ref05_formed m) rec8 x0 x1 :=
  tre (g := fun J => (jj J 0 17 0 (s26_15 x0 0 x1) (e26 J m w26_8 [M8]))) (fun J => by kernel_rfl) (by simp only [jj_eq, ref05_formed_j12_eq m M8 rec8 h8]; rfl)
theorem ref05_formed_j10_eq m M8 rec8 (h8 : H26_8 m M8 rec8) x0 x1 x2 : e26 jn m w26_10 [M8] (s26_10 x0 x1 x2) = ref05_formed_j10 m (ref05_formed m) rec8 x0 x1 x2 :=
  tre (g := fun J => (bif x1 then
   some false
    else
   (jj J 0 16 0 (s26_16 x0 x2) (e26 J m w26_9 [M8])))) (fun J => by kernel_rfl) (by simp only [jj_eq, ref05_formed_j11_eq m M8 rec8 h8]; rfl)
theorem ref05_formed_j9_eq m M8 rec8 (h8 : H26_8 m M8 rec8) x0 x1 : e26 jn m w26_11 [M8] (s26_16 x0 x1) = ref05_formed_j9 m (ref05_formed m) rec8 x0 x1 :=
  tre (g := fun J => ((idx (Dt.L x1 4) x0).bind fun v2 =>
   ((ref05_Label m (Dt.S v2 0)).bind fun r3 =>
   (bif (Bool.not r3) then
   (jj J 0 15 0 (s26_10 x0 true x1) (e26 J m w26_10 [M8]))
   else
   ((idx (Dt.L x1 4) x0).bind fun v6 =>
   ((ref05_formed m (Dt.fld v6 1)).bind fun r7 =>
   (jj J 0 15 0 (s26_10 x0 (Bool.not r7) x1) (e26 J m w26_10 [M8])))))))) (fun J => by kernel_rfl) (by simp only [jj_eq, ref05_formed_j10_eq m M8 rec8 h8]; rfl)
theorem ref05_formed_j17_eq m : e26 jn m w26_12 [] s26_17 = ref05_formed_j17 m (ref05_formed m) :=
  tre (g := fun J => some true) (fun J => by kernel_rfl) (by rfl)
theorem ref05_formed_l8_eq m : ∀ M8 x0 x1, l26 jn m w26_3 [] M8 (s26_16 x0 x1) = ref05_formed_l8 m (ref05_formed m) M8 x0 x1
  | 0, _, _ => rfl
  | M8 + 1, x0, x1 =>
    trl (g := fun J => (bif (decide (x0 < (List.length (Dt.L x1 4) : Int))) then
   (jj J 0 14 0 (s26_16 x0 x1) (e26 J m w26_11 [M8]))
    else
   (jj J 0 21 0 s26_17 (e26 J m w26_12 [])))) (fun J => by kernel_rfl) (by simp only [jj_eq, ref05_formed_j9_eq m M8 (ref05_formed_l8 m (ref05_formed m) M8) (ref05_formed_l8_eq m M8), ref05_formed_j17_eq m]; rfl)
theorem ref05_formed_j7_eq m x0 x1 : e26 jn m w26_13 [] (s26_16 x0 x1) = ref05_formed_j7 m (ref05_formed m) x0 x1 :=
  tre (g := fun J => (jj J 1 12 (Nat.succ m) (s26_16 x0 x1) (l26 J m w26_3 [] (Nat.succ m)))) (fun J => by kernel_rfl) (by simp only [jj_eq, ref05_formed_l8_eq m]; rfl)
theorem ref05_formed_j6_eq m x0 : e26 jn m w26_14 [] (s26_6 x0) = ref05_formed_j6 m (ref05_formed m) x0 :=
  tre (g := fun J => (jj J 0 12 0 (s26_16 0 x0) (e26 J m w26_13 []))) (fun J => by kernel_rfl) (by simp only [jj_eq, ref05_formed_j7_eq m]; rfl)
theorem ref05_formed_l3_eq m : ∀ M3 x0 x1, l26 jn m w26_0 [] M3 (s26_5 x0 x1) = ref05_formed_l3 m (ref05_formed m) M3 x0 x1
  | 0, _, _ => rfl
  | M3 + 1, x0, x1 =>
    trl (g := fun J => (bif (decide (x0 < (List.length (Dt.L x1 3) : Int))) then
   (jj J 0 9 0 (s26_5 x0 x1) (e26 J m w26_2 [M3]))
    else
   (jj J 0 11 0 (s26_6 x1) (e26 J m w26_14 [])))) (fun J => by kernel_rfl) (by simp only [jj_eq, ref05_formed_j4_eq m M3 (ref05_formed_l3 m (ref05_formed m) M3) (ref05_formed_l3_eq m M3), ref05_formed_j6_eq m]; rfl)
theorem ref05_formed_j2_eq m x0 x1 : e26 jn m w26_15 [] (s26_5 x0 x1) = ref05_formed_j2 m (ref05_formed m) x0 x1 :=
  tre (g := fun J => (jj J 1 7 (Nat.succ m) (s26_5 x0 x1) (l26 J m w26_0 [] (Nat.succ m)))) (fun J => by kernel_rfl) (by simp only [jj_eq, ref05_formed_l3_eq m]; rfl)
theorem ref05_formed_j1_eq m x0 : e26 jn m w26_16 [] (s26_6 x0) = ref05_formed_j1 m (ref05_formed m) x0 :=
  tre (g := fun J => (jj J 0 7 0 (s26_5 0 x0) (e26 J m w26_15 []))) (fun J => by kernel_rfl) (by simp only [jj_eq, ref05_formed_j2_eq m]; rfl)
theorem ref05_formed_j0_eq m x0 x1 : e26 jn m w26_17 [] (s26_0 x0 x1) = ref05_formed_j0 m (ref05_formed m) x0 x1 :=
  tre (g := fun J => (bif x0 then
   some false
    else
   (jj J 0 6 0 (s26_6 x1) (e26 J m w26_16 [])))) (fun J => by kernel_rfl) (by simp only [jj_eq, ref05_formed_j1_eq m]; rfl)
theorem ref05_formed_eq m a0 : e26 jn m [] [] ⟨[(.dat 25 a0)], [], 0⟩ = ref05_formed (m + 1) a0 :=
  tre (g := fun J => (bif ((Dt.I a0 0) != 6) then
   (bif (decide (0 < (List.length (Dt.L a0 3) : Int))) then
   (jj J 0 5 0 (s26_0 true a0) (e26 J m w26_17 []))
   else
   (bif ((Dt.I a0 0) != 5) then
   (bif (decide (0 < (List.length (Dt.L a0 4) : Int))) then
   (jj J 0 5 0 (s26_0 true a0) (e26 J m w26_17 []))
   else
   ((ref01_Valid m (Dt.agg [(Dt.int (Dt.I a0 0)), (Dt.int (Dt.I a0 1)), (Dt.str (Dt.S a0 2)), (Dt.lst []), (Dt.lst [])])).bind fun r8 =>
   (jj J 0 5 0 (s26_0 (Bool.not r8) a0) (e26 J m w26_17 []))))
   else
   ((ref01_Valid m (Dt.agg [(Dt.int (Dt.I a0 0)), (Dt.int (Dt.I a0 1)), (Dt.str (Dt.S a0 2)), (Dt.lst []), (Dt.lst [])])).bind fun r9 =>
   (jj J 0 5 0 (s26_0 (Bool.not r9) a0) (e26 J m w26_17 [])))))
    else
   (bif ((Dt.I a0 0) != 5) then
   (bif (decide (0 < (List.length (Dt.L a0 4) : Int))) then
   (jj J 0 5 0 (s26_0 true a0) (e26 J m w26_17 []))
   else
   ((ref01_Valid m (Dt.agg [(Dt.int (Dt.I a0 0)), (Dt.int (Dt.I a0 1)), (Dt.str (Dt.S a0 2)), (Dt.lst []), (Dt.lst [])])).bind fun r10 =>
   (jj J 0 5 0 (s26_0 (Bool.not r10) a0) (e26 J m w26_17 []))))
   else
   ((ref01_Valid m (Dt.agg [(Dt.int (Dt.I a0 0)), (Dt.int (Dt.I a0 1)), (Dt.str (Dt.S a0 2)), (Dt.lst []), (Dt.lst [])])).bind fun r11 =>
   (jj J 0 5 0 (s26_0 (Bool.not r11) a0) (e26 J m w26_17 [])))))) (fun J => by kernel_rfl) (by simp only [jj_eq, ref05_formed_j0_eq m]; rfl)
noncomputable def e16 (J : Nat → Nat → Nat → St → Option Bool → Option Bool) (m : Nat) (p ms : List Nat) (σ : St) := evAt Tryz.prog env (ct m) J (m + 1) 16 15 Tryz.f16 d1 p ms σ
noncomputable def l16 (J : Nat → Nat → Nat → St → Option Bool → Option Bool) (m : Nat) (p ms : List Nat) (M : Nat) (σ : St) := loopAt Tryz.prog env (ct m) J (m + 1) 16 15 Tryz.f16 d1 p ms M σ
theorem ref05_WellFormed_eq m a0 : e16 jn m [] [] ⟨[(.dat 25 a0)], [], 0⟩ = ref05_WellFormed (m + 1) a0 :=
  tre (g := fun J => ((ref01_Depth m a0).bind fun r0 =>
   (bif (decide (r0 ≤ 16)) then
   ((ref01_Nodes m a0).bind fun r1 =>
   (bif (decide (r1 ≤ 1024)) then
   ((ref05_formed m a0).bind fun r2 =>
   some r2)
   else
   some false))
   else
   some false))) (fun J => by kernel_rfl) (by rfl)
noncomputable def e4 (J : Nat → Nat → Nat → St → Option (ByteArray × Int) → Option (ByteArray × Int)) (m : Nat) (p ms : List Nat) (σ : St) := evAt Tryz.prog env (ct m) J (m + 1) 8 15 Tryz.f8 d3 p ms σ
noncomputable def l4 (J : Nat → Nat → Nat → St → Option (ByteArray × Int) → Option (ByteArray × Int)) (m : Nat) (p ms : List Nat) (M : Nat) (σ : St) := loopAt Tryz.prog env (ct m) J (m + 1) 8 15 Tryz.f8 d3 p ms M σ
noncomputable def s4_1 (x0 : Dt) : St := ⟨tsOf [(1, (.ptr 0 [] 0))], [(.box 25 (.dat 25 x0))], 0⟩
theorem ref05_Print_j1_eq m x0 : e4 jn m [1, 1, 1] [] (s4_1 x0) = ref05_Print_j1 m x0 :=
  tre (g := fun J => ((ref05_text m x0).bind fun r2 =>
   some (r2, 0))) (fun J => by kernel_rfl) (by rfl)
theorem ref05_Print_j0_eq m x0 : e4 jn m [1, 1] [] (s4_1 x0) = ref05_Print_j0 m x0 :=
  tre (g := fun J => ((ref05_printable m x0).bind fun r1 =>
   (bif (r1 != 0) then
   some ((ByteArray.mk (List.toArray [])), r1)
   else
   (jj J 0 6 0 (s4_1 x0) (e4 J m [1, 1, 1] []))))) (fun J => by kernel_rfl) (by simp only [jj_eq, ref05_Print_j1_eq m]; rfl)
theorem ref05_Print_eq m a0 : e4 jn m [] [] ⟨[(.dat 25 a0)], [], 0⟩ = ref05_Print (m + 1) a0 :=
  tre (g := fun J => ((ref05_WellFormed m a0).bind fun r0 =>
   (bif (Bool.not r0) then
   some ((ByteArray.mk (List.toArray [])), 8)
   else
   (jj J 0 3 0 (s4_1 a0) (e4 J m [1, 1] []))))) (fun J => by kernel_rfl) (by simp only [jj_eq, ref05_Print_j0_eq m]; rfl)
noncomputable def e0 (J : Nat → Nat → Nat → St → Option Bool → Option Bool) (m : Nat) (p ms : List Nat) (σ : St) := evAt Tryz.prog env (ct m) J (m + 1) 3 32 Tryz.f3 d1 p ms σ
noncomputable def l0 (J : Nat → Nat → Nat → St → Option Bool → Option Bool) (m : Nat) (p ms : List Nat) (M : Nat) (σ : St) := loopAt Tryz.prog env (ct m) J (m + 1) 3 32 Tryz.f3 d1 p ms M σ
noncomputable def s0_0 (x0 : Dt) : St := ⟨tsOf [(1, (.ptr 0 [] 0))], [(.box 25 (.dat 25 x0))], 0⟩
theorem law05_NotationPrints_j0_eq m x0 : e0 jn m [1, 1] [] (s0_0 x0) = law05_NotationPrints_j0 m x0 :=
  tre (g := fun J => ((notation_Print m x0).bind fun r2 =>
   ((ref05_Print m x0).bind fun r3 =>
   (bif ((ByteArray.toList r2.1) == (ByteArray.toList r3.1)) then
   (bif (r2.2 == r3.2) then
   ((awakeC).bind fun r4 =>
   some r4)
   else
   some false)
   else
   some false)))) (fun J => by kernel_rfl) (by rfl)
theorem law05_NotationPrints_eq m a0 : e0 jn m [] [] ⟨[(.dat 25 a0)], [], 0⟩ = law05_NotationPrints (m + 1) a0 :=
  tre (g := fun J => ((ref02_Few m a0 3000).bind fun r0 =>
   (bif (Bool.not r0) then
   ((awakeC).bind fun r1 =>
   some r1)
   else
   (jj J 0 3 0 (s0_0 a0) (e0 J m [1, 1] []))))) (fun J => by kernel_rfl) (by simp only [jj_eq, law05_NotationPrints_j0_eq m]; rfl)

end Go.Proofs.YtmejbpmceflcjaaGreatDoor
