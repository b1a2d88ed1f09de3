/- Generated: each function's run in the abstract machine is its shallow function. -/
import Derived.Test.YtmejbpmceflcjaaGreatDoorCt
import Derived.Test.YtmejbpmceflcjaaGreatDoorAmEnv
import Derived.KernelRfl
set_option linter.unusedVariables false
set_option linter.unusedSimpArgs false
namespace Go.Proofs.YtmejbpmceflcjaaGreatDoor
open Go.Am
set_option maxRecDepth 100000
def w5_7 : List Nat := [1, 1, 1, 1, 1]
def w5_9 : List Nat := [1, 1, 1, 0, 1]
def w5_0 : List Nat := [1, 1, 1, 0, 1, 0]
def w5_8 : List Nat := [1, 1, 1, 1, 0, 1]
def w5_3 : List Nat := w5_8 ++ [0]
def w5_2 : List Nat := w5_0 ++ [0, 1]
def w5_1 : List Nat := w5_2 ++ [1]
def w5_6 : List Nat := w5_3 ++ [0, 1]
def w5_4 : List Nat := w5_6 ++ [1]
def w5_5 : List Nat := w5_6 ++ [0, 0, 1]
noncomputable def e5 (J : Nat → Nat → Nat → St → Option Int → Option Int) (m : Nat) (p ms : List Nat) (σ : St) := evAt Tryz.prog env (ct m) J (m + 1) 12 69 Tryz.f12 d5 p ms σ
noncomputable def l5 (J : Nat → Nat → Nat → St → Option Int → Option Int) (m : Nat) (p ms : List Nat) (M : Nat) (σ : St) := loopAt Tryz.prog env (ct m) J (m + 1) 12 69 Tryz.f12 d5 p ms M σ
noncomputable def s5_5 (x0 x1 x2 : Int) (x3 : Dt) : St := ⟨tsOf [(1, (.dat 3 (.int x0))), (2, (.dat 3 (.int x1))), (3, (.ptr 0 [] 0)), (7, (.dat 3 (.int x2)))], [(.box 25 (.dat 25 x3))], 0⟩
noncomputable def s5_11 (x0 x1 x2 : Int) (x3 : Dt) : St := ⟨tsOf [(1, (.dat 3 (.int x0))), (2, (.dat 3 (.int x1))), (3, (.ptr 0 [] 0)), (8, (.dat 3 (.int x2)))], [(.box 25 (.dat 25 x3))], 0⟩
noncomputable def s5_12 (x0 : Int) : St := ⟨tsOf [(2, (.dat 3 (.int x0)))], [], 0⟩
noncomputable def s5_6 (x0 x1 : Int) (x2 : Dt) : St := ⟨tsOf [(1, (.dat 3 (.int x0))), (2, (.dat 3 (.int x1))), (3, (.ptr 0 [] 0))], [(.box 25 (.dat 25 x2))], 0⟩
noncomputable def s5_0 (x0 x1 : Int) (x2 : Bool) (x3 : Dt) : St := ⟨tsOf [(1, (.dat 3 (.int x0))), (2, (.dat 3 (.int x1))), (3, (.ptr 0 [] 0)), (18, (.dat 4 (.bool x2)))], [(.box 25 (.dat 25 x3))], 0⟩
abbrev H5_3 (m M3 : Nat) (rec3 : Int → Int → Int → Dt → Option Int) : Prop := ∀ x0 x1 x2 x3, l5 jn m w5_0 [] M3 (s5_5 x0 x1 x2 x3) = rec3 x0 x1 x2 x3
theorem ref02_count_j5_eq m M3 rec3 (h3 : H5_3 m M3 rec3) x0 x1 x2 x3 : e5 jn m w5_1 [M3] (s5_5 x0 x1 x2 x3) = ref02_count_j5 m (ref02_count m) rec3 x0 x1 x2 x3 :=
  tre (g := fun J => (jj J 1 5 M3 (s5_5 x0 x1 (IntKind.wrap .i64 (x2 + 1)) x3) (l5 J m w5_0 [] M3))) (fun J => by kernel_rfl) (by simp only [jj_eq, h3]; rfl)
theorem ref02_count_j4_eq m M3 rec3 (h3 : H5_3 m M3 rec3) x0 x1 x2 x3 : e5 jn m w5_2 [M3] (s5_5 x0 x1 x2 x3) = ref02_count_j4 m (ref02_count m) rec3 x0 x1 x2 x3 :=
  tre (g := fun J => ((idx (Dt.L x3 3) x2).bind fun v0 =>
   ((ref02_count m v0 (IntKind.wrap .i64 (x0 + 1)) x1).bind fun r1 =>
   (jj J 0 6 0 (s5_5 x0 r1 x2 x3) (e5 J m w5_1 [M3]))))) (fun J => by kernel_rfl) (by simp only [jj_eq, ref02_count_j5_eq m M3 rec3 h3]; rfl)
abbrev H5_8 (m M8 : Nat) (rec8 : Int → Int → Int → Dt → Option Int) : Prop := ∀ x0 x1 x2 x3, l5 jn m w5_3 [] M8 (s5_11 x0 x1 x2 x3) = rec8 x0 x1 x2 x3
theorem ref02_count_j11_eq m M8 rec8 (h8 : H5_8 m M8 rec8) x0 x1 x2 x3 : e5 jn m w5_4 [M8] (s5_11 x0 x1 x2 x3) = ref02_count_j11 m (ref02_count m) rec8 x0 x1 x2 x3 :=
  tre (g := fun J => (jj J 1 9 M8 (s5_11 x0 x1 (IntKind.wrap .i64 (x2 + 1)) x3) (l5 J m w5_3 [] M8))) (fun J => by kernel_rfl) (by simp only [jj_eq, h8]; rfl)
theorem ref02_count_j10_eq m M8 rec8 (h8 : H5_8 m M8 rec8) x0 x1 x2 x3 : e5 jn m w5_5 [M8] (s5_11 x0 x1 x2 x3) = ref02_count_j10 m (ref02_count m) rec8 x0 x1 x2 x3 :=
  tre (g := fun J => ((idx (Dt.L x3 4) x2).bind fun v3 =>
   ((ref02_count m (Dt.fld v3 1) (IntKind.wrap .i64 (x0 + 1)) x1).bind fun r4 =>
   (jj J 0 10 0 (s5_11 x0 r4 x2 x3) (e5 J m w5_4 [M8]))))) (fun J => by kernel_rfl) (by simp only [jj_eq, ref02_count_j11_eq m M8 rec8 h8]; rfl)
theorem ref02_count_j9_eq m M8 rec8 (h8 : H5_8 m M8 rec8) x0 x1 x2 x3 : e5 jn m w5_6 [M8] (s5_11 x0 x1 x2 x3) = ref02_count_j9 m (ref02_count m) rec8 x0 x1 x2 x3 :=
  tre (g := fun J => ((idx (Dt.L x3 4) x2).bind fun v2 =>
   (bif (decide (200 < (ByteArray.size (Dt.S v2 0) : Int))) then
   some (-1)
   else
   (jj J 0 13 0 (s5_11 x0 x1 x2 x3) (e5 J m w5_5 [M8]))))) (fun J => by kernel_rfl) (by simp only [jj_eq, ref02_count_j10_eq m M8 rec8 h8]; rfl)
theorem ref02_count_j12_eq m x0 : e5 jn m w5_7 [] (s5_12 x0) = ref02_count_j12 m (ref02_count m) x0 :=
  tre (g := fun J => some x0) (fun J => by kernel_rfl) (by rfl)
theorem ref02_count_l8_eq m : ∀ M8 x0 x1 x2 x3, l5 jn m w5_3 [] M8 (s5_11 x0 x1 x2 x3) = ref02_count_l8 m (ref02_count m) M8 x0 x1 x2 x3
  | 0, _, _, _, _ => rfl
  | M8 + 1, x0, x1, x2, x3 =>
    trl (g := fun J => (bif (decide (x2 < (List.length (Dt.L x3 4) : Int))) then
   (bif (decide (0 ≤ x1)) then
   (jj J 0 11 0 (s5_11 x0 x1 x2 x3) (e5 J m w5_6 [M8]))
   else
   (jj J 0 14 0 (s5_12 x1) (e5 J m w5_7 [])))
    else
   (jj J 0 14 0 (s5_12 x1) (e5 J m w5_7 [])))) (fun J => by kernel_rfl) (by simp only [jj_eq, ref02_count_j9_eq m M8 (ref02_count_l8 m (ref02_count m) M8) (ref02_count_l8_eq m M8), ref02_count_j12_eq m]; rfl)
theorem ref02_count_j7_eq m x0 x1 x2 x3 : e5 jn m w5_8 [] (s5_11 x0 x1 x2 x3) = ref02_count_j7 m (ref02_count m) x0 x1 x2 x3 :=
  tre (g := fun J => (jj J 1 9 (Nat.succ m) (s5_11 x0 x1 x2 x3) (l5 J m w5_3 [] (Nat.succ m)))) (fun J => by kernel_rfl) (by simp only [jj_eq, ref02_count_l8_eq m]; rfl)
theorem ref02_count_j6_eq m x0 x1 x2 : e5 jn m [1, 1, 1, 1] [] (s5_6 x0 x1 x2) = ref02_count_j6 m (ref02_count m) x0 x1 x2 :=
  tre (g := fun J => (jj J 0 9 0 (s5_11 x0 x1 0 x2) (e5 J m w5_8 []))) (fun J => by kernel_rfl) (by simp only [jj_eq, ref02_count_j7_eq m]; rfl)
theorem ref02_count_l3_eq m : ∀ M3 x0 x1 x2 x3, l5 jn m w5_0 [] M3 (s5_5 x0 x1 x2 x3) = ref02_count_l3 m (ref02_count m) M3 x0 x1 x2 x3
  | 0, _, _, _, _ => rfl
  | M3 + 1, x0, x1, x2, x3 =>
    trl (g := fun J => (bif (decide (x2 < (List.length (Dt.L x3 3) : Int))) then
   (bif (decide (0 ≤ x1)) then
   (jj J 0 7 0 (s5_5 x0 x1 x2 x3) (e5 J m w5_2 [M3]))
   else
   (jj J 0 8 0 (s5_6 x0 x1 x3) (e5 J m [1, 1, 1, 1] [])))
    else
   (jj J 0 8 0 (s5_6 x0 x1 x3) (e5 J m [1, 1, 1, 1] [])))) (fun J => by kernel_rfl) (by simp only [jj_eq, ref02_count_j4_eq m M3 (ref02_count_l3 m (ref02_count m) M3) (ref02_count_l3_eq m M3), ref02_count_j6_eq m]; rfl)
theorem ref02_count_j2_eq m x0 x1 x2 x3 : e5 jn m w5_9 [] (s5_5 x0 x1 x2 x3) = ref02_count_j2 m (ref02_count m) x0 x1 x2 x3 :=
  tre (g := fun J => (jj J 1 5 (Nat.succ m) (s5_5 x0 x1 x2 x3) (l5 J m w5_0 [] (Nat.succ m)))) (fun J => by kernel_rfl) (by simp only [jj_eq, ref02_count_l3_eq m]; rfl)
theorem ref02_count_j1_eq m x0 x1 x2 : e5 jn m [1, 1, 1] [] (s5_6 x0 x1 x2) = ref02_count_j1 m (ref02_count m) x0 x1 x2 :=
  tre (g := fun J => (jj J 0 5 0 (s5_5 x0 x1 0 x2) (e5 J m w5_9 []))) (fun J => by kernel_rfl) (by simp only [jj_eq, ref02_count_j2_eq m]; rfl)
theorem ref02_count_j0_eq m x0 x1 x2 x3 : e5 jn m [1, 1, 0, 1] [] (s5_0 x0 x1 x2 x3) = ref02_count_j0 m (ref02_count m) x0 x1 x2 x3 :=
  tre (g := fun J => (bif x2 then
   some (-1)
    else
   (jj J 0 4 0 (s5_6 x0 x1 x3) (e5 J m [1, 1, 1] [])))) (fun J => by kernel_rfl) (by simp only [jj_eq, ref02_count_j1_eq m]; rfl)
theorem ref02_count_eq m a0 a1 a2 : e5 jn m [] [] ⟨[(.dat 25 a0), (.dat 3 (.int a1)), (.dat 3 (.int a2))], [], 0⟩ = ref02_count (m + 1) a0 a1 a2 :=
  tre (g := fun J => (bif (decide (40 < a1)) then
   (jj J 0 3 0 (s5_0 a1 (IntKind.wrap .i64 (a2 - 1)) true a0) (e5 J m [1, 1, 0, 1] []))
    else
   (jj J 0 3 0 (s5_0 a1 (IntKind.wrap .i64 (a2 - 1)) (decide (5000 < (ByteArray.size (Dt.S a0 2) : Int))) a0) (e5 J m [1, 1, 0, 1] [])))) (fun J => by kernel_rfl) (by simp only [jj_eq, ref02_count_j0_eq m]; rfl)
noncomputable def e1 (J : Nat → Nat → Nat → St → Option Bool → Option Bool) (m : Nat) (p ms : List Nat) (σ : St) := evAt Tryz.prog env (ct m) J (m + 1) 5 9 Tryz.f5 d1 p ms σ
noncomputable def l1 (J : Nat → Nat → Nat → St → Option Bool → Option Bool) (m : Nat) (p ms : List Nat) (M : Nat) (σ : St) := loopAt Tryz.prog env (ct m) J (m + 1) 5 9 Tryz.f5 d1 p ms M σ
theorem ref02_Few_eq m a0 a1 : e1 jn m [] [] ⟨[(.dat 25 a0), (.dat 3 (.int a1))], [], 0⟩ = ref02_Few (m + 1) a0 a1 :=
  tre (g := fun J => ((ref02_count m a0 1 a1).bind fun r0 =>
   some (decide (0 ≤ r0)))) (fun J => by kernel_rfl) (by rfl)
noncomputable def e9 (J : Nat → Nat → Nat → St → Option (List Dt) → Option (List Dt)) (m : Nat) (p ms : List Nat) (σ : St) := evAt Tryz.prog env (ct m) J (m + 1) 60 10 Tryz.f60 d9 p ms σ
noncomputable def l9 (J : Nat → Nat → Nat → St → Option (List Dt) → Option (List Dt)) (m : Nat) (p ms : List Nat) (M : Nat) (σ : St) := loopAt Tryz.prog env (ct m) J (m + 1) 60 10 Tryz.f60 d9 p ms M σ
noncomputable def s9_0 (x0 : List Dt) : St := ⟨tsOf [(0, (.row 1))], [.gone, (.row 40 x0)], 1⟩
theorem i9_j0_eq m x0 : e9 jn m [1, 1] [] (s9_0 x0) = i9_j0 m x0 :=
  tre (g := fun J => ((app x0 [(Dt.int 102), (Dt.int 97), (Dt.int 108), (Dt.int 115), (Dt.int 101)]).bind fun v1 =>
   some v1)) (fun J => by kernel_rfl) (by rfl)
theorem i9_eq m a0 a1 : e9 jn m [] [] ⟨[(.row 0), (.dat 4 (.bool a0))], [(.row 40 a1)], 1⟩ = i9 (m + 1) a0 a1 :=
  tre (g := fun J => (bif a0 then
   ((app a1 [(Dt.int 116), (Dt.int 114), (Dt.int 117), (Dt.int 101)]).bind fun v0 =>
   some v0)
    else
   (jj J 0 3 0 (s9_0 a1) (e9 J m [1, 1] [])))) (fun J => by kernel_rfl) (by simp only [jj_eq, i9_j0_eq m]; rfl)
noncomputable def e8 (J : Nat → Nat → Nat → St → Option (List Dt) → Option (List Dt)) (m : Nat) (p ms : List Nat) (σ : St) := evAt Tryz.prog env (ct m) J (m + 1) 30 8 Tryz.f30 d9 p ms σ
noncomputable def l8 (J : Nat → Nat → Nat → St → Option (List Dt) → Option (List Dt)) (m : Nat) (p ms : List Nat) (M : Nat) (σ : St) := loopAt Tryz.prog env (ct m) J (m + 1) 30 8 Tryz.f30 d9 p ms M σ
theorem i8_eq m a0 a1 : e8 jn m [] [] ⟨[(.row 0), (.dat 4 (.bool a0))], [(.row 40 a1)], 1⟩ = i8 (m + 1) a0 a1 :=
  tre (g := fun J => ((i9 m a0 a1).bind fun r0 =>
   some r0)) (fun J => by kernel_rfl) (by rfl)
def w11_0 : List Nat := [1, 1, 0, 1, 0]
def w11_4 : List Nat := [1, 1, 0, 1, 0, 0, 1, 1]
def w11_1 : List Nat := w11_4 ++ [1]
def w11_3 : List Nat := w11_4 ++ [0, 0, 1, 1, 0, 1]
def w11_2 : List Nat := w11_3 ++ [1, 1, 1, 1, 1, 1, 1, 1]
noncomputable def e11 (J : Nat → Nat → Nat → St → Option ByteArray → Option ByteArray) (m : Nat) (p ms : List Nat) (σ : St) := evAt Tryz.prog env (ct m) J (m + 1) 13 68 Tryz.f13 d11 p ms σ
noncomputable def l11 (J : Nat → Nat → Nat → St → Option ByteArray → Option ByteArray) (m : Nat) (p ms : List Nat) (M : Nat) (σ : St) := loopAt Tryz.prog env (ct m) J (m + 1) 13 68 Tryz.f13 d11 p ms M σ
noncomputable def s11_4 (x0 : ByteArray) (x1 x2 : Int) (x3 : List Dt) : St := ⟨tsOf [(0, (.dat 9 (.str x0))), (3, (.row 0)), (8, (.dat 3 (.int x1))), (9, (.dat 3 (.int x2)))], [(.row 40 x3)], 0⟩
noncomputable def s11_5 (x0 : ByteArray) (x1 x2 x3 : Int) (x4 : Bool) (x5 : List Dt) : St := ⟨tsOf [(0, (.dat 9 (.str x0))), (3, (.row 0)), (5, (.dat 5 (.int x1))), (8, (.dat 3 (.int x2))), (9, (.dat 3 (.int x3))), (45, (.dat 4 (.bool x4)))], [(.row 40 x5)], 0⟩
noncomputable def s11_3 (x0 : ByteArray) (x1 x2 x3 : Int) (x4 : Bool) (x5 : List Dt) : St := ⟨tsOf [(0, (.dat 9 (.str x0))), (3, (.row 0)), (5, (.dat 5 (.int x1))), (8, (.dat 3 (.int x2))), (9, (.dat 3 (.int x3))), (19, (.dat 4 (.bool x4)))], [(.row 40 x5)], 0⟩
noncomputable def s11_6 (x0 : List Dt) : St := ⟨tsOf [(3, (.row 0))], [(.row 40 x0)], 0⟩
abbrev H11_1 (m M1 : Nat) (rec1 : ByteArray → Int → Int → List Dt → Option ByteArray) : Prop := ∀ x0 x1 x2 x3, l11 jn m w11_0 [] M1 (s11_4 x0 x1 x2 x3) = rec1 x0 x1 x2 x3
theorem notation_Quote_j4_eq m M1 rec1 (h1 : H11_1 m M1 rec1) x0 x1 x2 x3 : e11 jn m w11_1 [M1] (s11_4 x0 x1 x2 x3) = notation_Quote_j4 m rec1 x0 x1 x2 x3 :=
  tre (g := fun J => (jj J 1 3 M1 (s11_4 x0 x1 (IntKind.wrap .i64 (x2 + 1)) x3) (l11 J m w11_0 [] M1))) (fun J => by kernel_rfl) (by simp only [jj_eq, h1]; rfl)
theorem notation_Quote_j5_eq m M1 rec1 (h1 : H11_1 m M1 rec1) x0 x1 x2 x3 x4 x5 : e11 jn m w11_2 [M1] (s11_5 x0 x1 x2 x3 x4 x5) = notation_Quote_j5 m rec1 x0 x1 x2 x3 x4 x5 :=
  tre (g := fun J => (bif x4 then
   ((app x5 [(Dt.int 92), (Dt.int 117), (Dt.int 48), (Dt.int 48)]).bind fun v5 =>
   ((idxS (ByteArray.mk (List.toArray [48, 49, 50, 51, 52, 53, 54, 55, 56, 57, 97, 98, 99, 100, 101, 102])) (shrI IntKind.u8 x1 4)).bind fun v6 =>
   ((idxS (ByteArray.mk (List.toArray [48, 49, 50, 51, 52, 53, 54, 55, 56, 57, 97, 98, 99, 100, 101, 102])) (andI IntKind.u8 x1 15)).bind fun v7 =>
   ((app v5 [(Dt.int v6), (Dt.int v7)]).bind fun v8 =>
   (jj J 0 18 0 (s11_4 x0 x2 x3 v8) (e11 J m w11_1 [M1]))))))
    else
   ((app x5 [(Dt.int x1)]).bind fun v9 =>
   (jj J 0 18 0 (s11_4 x0 x2 x3 v9) (e11 J m w11_1 [M1]))))) (fun J => by kernel_rfl) (by simp only [jj_eq, notation_Quote_j4_eq m M1 rec1 h1]; rfl)
theorem notation_Quote_j3_eq m M1 rec1 (h1 : H11_1 m M1 rec1) x0 x1 x2 x3 x4 x5 : e11 jn m w11_3 [M1] (s11_3 x0 x1 x2 x3 x4 x5) = notation_Quote_j3 m rec1 x0 x1 x2 x3 x4 x5 :=
  tre (g := fun J => (bif x4 then
   ((app x5 [(Dt.int 92), (Dt.int x1)]).bind fun v1 =>
   (jj J 0 18 0 (s11_4 x0 x2 x3 v1) (e11 J m w11_1 [M1])))
    else
   (bif (x1 == 10) then
   ((app x5 [(Dt.int 92), (Dt.int 110)]).bind fun v2 =>
   (jj J 0 18 0 (s11_4 x0 x2 x3 v2) (e11 J m w11_1 [M1])))
   else
   (bif (x1 == 13) then
   ((app x5 [(Dt.int 92), (Dt.int 114)]).bind fun v3 =>
   (jj J 0 18 0 (s11_4 x0 x2 x3 v3) (e11 J m w11_1 [M1])))
   else
   (bif (x1 == 9) then
   ((app x5 [(Dt.int 92), (Dt.int 116)]).bind fun v4 =>
   (jj J 0 18 0 (s11_4 x0 x2 x3 v4) (e11 J m w11_1 [M1])))
   else
   (bif (decide (x1 < 32)) then
   (jj J 0 16 0 (s11_5 x0 x1 x2 x3 true x5) (e11 J m w11_2 [M1]))
   else
   (jj J 0 16 0 (s11_5 x0 x1 x2 x3 (x1 == 127) x5) (e11 J m w11_2 [M1])))))))) (fun J => by kernel_rfl) (by simp only [jj_eq, notation_Quote_j4_eq m M1 rec1 h1, notation_Quote_j5_eq m M1 rec1 h1]; rfl)
theorem notation_Quote_j2_eq m M1 rec1 (h1 : H11_1 m M1 rec1) x0 x1 x2 x3 : e11 jn m w11_4 [M1] (s11_4 x0 x1 x2 x3) = notation_Quote_j2 m rec1 x0 x1 x2 x3 :=
  tre (g := fun J => ((idxS x0 x2).bind fun v0 =>
   (bif (v0 == 34) then
   (jj J 0 8 0 (s11_3 x0 v0 x1 x2 true x3) (e11 J m w11_3 [M1]))
   else
   (jj J 0 8 0 (s11_3 x0 v0 x1 x2 (v0 == 92) x3) (e11 J m w11_3 [M1]))))) (fun J => by kernel_rfl) (by simp only [jj_eq, notation_Quote_j3_eq m M1 rec1 h1]; rfl)
theorem notation_Quote_j6_eq m x0 : e11 jn m [1, 1, 1] [] (s11_6 x0) = notation_Quote_j6 m x0 :=
  tre (g := fun J => ((app x0 [(Dt.int 34)]).bind fun v10 =>
   ((bif (Nat.ble (List.length v10) 137438953472) then (Option.some (strOfNums (List.map Dt.toInt v10))) else (Option.none)).bind fun v11 =>
   some v11))) (fun J => by kernel_rfl) (by rfl)
theorem notation_Quote_l1_eq m : ∀ M1 x0 x1 x2 x3, l11 jn m w11_0 [] M1 (s11_4 x0 x1 x2 x3) = notation_Quote_l1 m M1 x0 x1 x2 x3
  | 0, _, _, _, _ => rfl
  | M1 + 1, x0, x1, x2, x3 =>
    trl (g := fun J => (bif (decide (x2 < x1)) then
   (jj J 0 4 0 (s11_4 x0 x1 x2 x3) (e11 J m w11_4 [M1]))
    else
   (jj J 0 19 0 (s11_6 x3) (e11 J m [1, 1, 1] [])))) (fun J => by kernel_rfl) (by simp only [jj_eq, notation_Quote_j2_eq m M1 (notation_Quote_l1 m M1) (notation_Quote_l1_eq m M1), notation_Quote_j6_eq m]; rfl)
theorem notation_Quote_j0_eq m x0 x1 x2 x3 : e11 jn m [1, 1, 0, 1] [] (s11_4 x0 x1 x2 x3) = notation_Quote_j0 m x0 x1 x2 x3 :=
  tre (g := fun J => (jj J 1 3 (Nat.succ m) (s11_4 x0 x1 x2 x3) (l11 J m w11_0 [] (Nat.succ m)))) (fun J => by kernel_rfl) (by simp only [jj_eq, notation_Quote_l1_eq m]; rfl)
theorem notation_Quote_eq m a0 : e11 jn m [] [] ⟨[(.dat 9 (.str a0))], [], 0⟩ = notation_Quote (m + 1) a0 :=
  tre (g := fun J => (jj J 0 3 0 (s11_4 a0 (ByteArray.size a0 : Int) 0 [(Dt.int 34)]) (e11 J m [1, 1, 0, 1] []))) (fun J => by kernel_rfl) (by simp only [jj_eq, notation_Quote_j0_eq m]; rfl)
def w12_1 : List Nat := [1, 0, 1, 0, 0, 1, 1]
def w12_0 : List Nat := w12_1 ++ [1]
noncomputable def e12 (J : Nat → Nat → Nat → St → Option (List Dt) → Option (List Dt)) (m : Nat) (p ms : List Nat) (σ : St) := evAt Tryz.prog env (ct m) J (m + 1) 32 26 Tryz.f32 d9 p ms σ
noncomputable def l12 (J : Nat → Nat → Nat → St → Option (List Dt) → Option (List Dt)) (m : Nat) (p ms : List Nat) (M : Nat) (σ : St) := loopAt Tryz.prog env (ct m) J (m + 1) 32 26 Tryz.f32 d9 p ms M σ
noncomputable def s12_3 (x0 : ByteArray) (x1 x2 : Int) (x3 : List Dt) : St := ⟨tsOf [(0, (.row 1)), (1, (.dat 9 (.str x0))), (7, (.dat 3 (.int x1))), (8, (.dat 3 (.int x2)))], [.gone, (.row 40 x3)], 1⟩
noncomputable def s12_4 (x0 : List Dt) : St := ⟨tsOf [(0, (.row 1))], [.gone, (.row 40 x0)], 1⟩
abbrev H12_1 (m M1 : Nat) (rec1 : ByteArray → Int → Int → List Dt → Option (List Dt)) : Prop := ∀ x0 x1 x2 x3, l12 jn m [1, 0, 1, 0] [] M1 (s12_3 x0 x1 x2 x3) = rec1 x0 x1 x2 x3
theorem i12_j3_eq m M1 rec1 (h1 : H12_1 m M1 rec1) x0 x1 x2 x3 : e12 jn m w12_0 [M1] (s12_3 x0 x1 x2 x3) = i12_j3 m rec1 x0 x1 x2 x3 :=
  tre (g := fun J => (jj J 1 2 M1 (s12_3 x0 x1 (IntKind.wrap .i64 (x2 + 1)) x3) (l12 J m [1, 0, 1, 0] [] M1))) (fun J => by kernel_rfl) (by simp only [jj_eq, h1]; rfl)
theorem i12_j2_eq m M1 rec1 (h1 : H12_1 m M1 rec1) x0 x1 x2 x3 : e12 jn m w12_1 [M1] (s12_3 x0 x1 x2 x3) = i12_j2 m rec1 x0 x1 x2 x3 :=
  tre (g := fun J => ((idxS x0 x2).bind fun v0 =>
   ((idxS (ByteArray.mk (List.toArray [48, 49, 50, 51, 52, 53, 54, 55, 56, 57, 97, 98, 99, 100, 101, 102])) (shrI IntKind.u8 v0 4)).bind fun v1 =>
   ((idxS x0 x2).bind fun v2 =>
   ((idxS (ByteArray.mk (List.toArray [48, 49, 50, 51, 52, 53, 54, 55, 56, 57, 97, 98, 99, 100, 101, 102])) (andI IntKind.u8 v2 15)).bind fun v3 =>
   ((app x3 [(Dt.int v1), (Dt.int v3)]).bind fun v4 =>
   (jj J 0 5 0 (s12_3 x0 x1 x2 v4) (e12 J m w12_0 [M1])))))))) (fun J => by kernel_rfl) (by simp only [jj_eq, i12_j3_eq m M1 rec1 h1]; rfl)
theorem i12_j4_eq m x0 : e12 jn m [1, 1] [] (s12_4 x0) = i12_j4 m x0 :=
  tre (g := fun J => some x0) (fun J => by kernel_rfl) (by rfl)
theorem i12_l1_eq m : ∀ M1 x0 x1 x2 x3, l12 jn m [1, 0, 1, 0] [] M1 (s12_3 x0 x1 x2 x3) = i12_l1 m M1 x0 x1 x2 x3
  | 0, _, _, _, _ => rfl
  | M1 + 1, x0, x1, x2, x3 =>
    trl (g := fun J => (bif (decide (x2 < x1)) then
   (jj J 0 3 0 (s12_3 x0 x1 x2 x3) (e12 J m w12_1 [M1]))
    else
   (jj J 0 6 0 (s12_4 x3) (e12 J m [1, 1] [])))) (fun J => by kernel_rfl) (by simp only [jj_eq, i12_j2_eq m M1 (i12_l1 m M1) (i12_l1_eq m M1), i12_j4_eq m]; rfl)
theorem i12_j0_eq m x0 x1 x2 x3 : e12 jn m [1, 0, 1] [] (s12_3 x0 x1 x2 x3) = i12_j0 m x0 x1 x2 x3 :=
  tre (g := fun J => (jj J 1 2 (Nat.succ m) (s12_3 x0 x1 x2 x3) (l12 J m [1, 0, 1, 0] [] (Nat.succ m)))) (fun J => by kernel_rfl) (by simp only [jj_eq, i12_l1_eq m]; rfl)
theorem i12_eq m a0 a1 : e12 jn m [] [] ⟨[(.row 0), (.dat 9 (.str a0))], [(.row 40 a1)], 1⟩ = i12 (m + 1) a0 a1 :=
  tre (g := fun J => (jj J 0 2 0 (s12_3 a0 (ByteArray.size a0 : Int) 0 a1) (e12 J m [1, 0, 1] []))) (fun J => by kernel_rfl) (by simp only [jj_eq, i12_j0_eq m]; rfl)
def w23_7 : List Nat := [1, 1, 1, 0, 1]
def w23_0 : List Nat := [1, 1, 1, 0, 1, 0]
def w23_6 : List Nat := w23_0 ++ [0, 1, 1]
def w23_1 : List Nat := w23_6 ++ [1]
def w23_3 : List Nat := w23_6 ++ [0, 0, 1, 1, 1]
def w23_2 : List Nat := w23_3 ++ [1]
def w23_5 : List Nat := w23_6 ++ [0, 0, 1, 1, 0, 1, 0, 1]
def w23_4 : List Nat := w23_5 ++ [1, 1]
noncomputable def e23 (J : Nat → Nat → Nat → St → Option (ByteArray × Bool) → Option (ByteArray × Bool)) (m : Nat) (p ms : List Nat) (σ : St) := evAt Tryz.prog env (ct m) J (m + 1) 85 72 Tryz.f85 d23 p ms σ
noncomputable def l23 (J : Nat → Nat → Nat → St → Option (ByteArray × Bool) → Option (ByteArray × Bool)) (m : Nat) (p ms : List Nat) (M : Nat) (σ : St) := loopAt Tryz.prog env (ct m) J (m + 1) 85 72 Tryz.f85 d23 p ms M σ
noncomputable def s23_8 (x0 x1 : Int) (x2 : Dt) (x3 : List Dt) : St := ⟨tsOf [(1, (.ptr 0 [] 0)), (4, (.row 1)), (25, (.dat 3 (.int x0))), (26, (.dat 3 (.int x1)))], [(.box 25 (.dat 25 x2)), (.row 40 x3)], 0⟩
noncomputable def s23_7 (x0 x1 x2 x3 : Int) (x4 : Dt) (x5 : List Dt) : St := ⟨tsOf [(1, (.ptr 0 [] 0)), (4, (.row 1)), (5, (.dat 3 (.int x0))), (6, (.dat 3 (.int x1))), (25, (.dat 3 (.int x2))), (26, (.dat 3 (.int x3)))], [(.box 25 (.dat 25 x4)), (.row 40 x5)], 0⟩
noncomputable def s23_9 (x0 x1 x2 x3 x4 : Int) (x5 : Bool) (x6 : Dt) (x7 : List Dt) : St := ⟨tsOf [(1, (.ptr 0 [] 0)), (4, (.row 1)), (5, (.dat 3 (.int x0))), (6, (.dat 3 (.int x1))), (7, (.dat 5 (.int x2))), (25, (.dat 3 (.int x3))), (26, (.dat 3 (.int x4))), (43, (.dat 4 (.bool x5)))], [(.box 25 (.dat 25 x6)), (.row 40 x7)], 0⟩
noncomputable def s23_5 (x0 x1 x2 x3 x4 : Int) (x5 : Bool) (x6 : Dt) (x7 : List Dt) : St := ⟨tsOf [(1, (.ptr 0 [] 0)), (4, (.row 1)), (5, (.dat 3 (.int x0))), (6, (.dat 3 (.int x1))), (7, (.dat 5 (.int x2))), (25, (.dat 3 (.int x3))), (26, (.dat 3 (.int x4))), (33, (.dat 4 (.bool x5)))], [(.box 25 (.dat 25 x6)), (.row 40 x7)], 0⟩
noncomputable def s23_10 (x0 : List Dt) : St := ⟨tsOf [(4, (.row 0))], [(.row 40 x0)], 0⟩
noncomputable def s23_1 (x0 : Dt) : St := ⟨tsOf [(1, (.ptr 0 [] 0))], [(.box 25 (.dat 25 x0))], 0⟩
noncomputable def s23_0 (x0 : Bool) (x1 : Dt) : St := ⟨tsOf [(1, (.ptr 0 [] 0)), (17, (.dat 4 (.bool x0)))], [(.box 25 (.dat 25 x1))], 0⟩
abbrev H23_3 (m M3 : Nat) (rec3 : Int → Int → Dt → List Dt → Option (ByteArray × Bool)) : Prop := ∀ x0 x1 x2 x3, l23 jn m w23_0 [] M3 (s23_8 x0 x1 x2 x3) = rec3 x0 x1 x2 x3
theorem notation_fromHex_j8_eq m M3 rec3 (h3 : H23_3 m M3 rec3) x0 x1 x2 x3 : e23 jn m w23_1 [M3] (s23_8 x0 x1 x2 x3) = notation_fromHex_j8 m rec3 x0 x1 x2 x3 :=
  tre (g := fun J => (jj J 1 5 M3 (s23_8 x0 (IntKind.wrap .i64 (x1 + 1)) x2 x3) (l23 J m w23_0 [] M3))) (fun J => by kernel_rfl) (by simp only [jj_eq, h3]; rfl)
theorem notation_fromHex_j7_eq m M3 rec3 (h3 : H23_3 m M3 rec3) x0 x1 x2 x3 x4 x5 : e23 jn m w23_2 [M3] (s23_7 x0 x1 x2 x3 x4 x5) = notation_fromHex_j7 m rec3 x0 x1 x2 x3 x4 x5 :=
  tre (g := fun J => ((inL x5 (IntKind.wrap .i64 (Int.tdiv x0 2))).bind fun v2 =>
   ((x5[(Int.toNat (IntKind.wrap .i64 (Int.tdiv x0 2)))]?).bind fun v3 =>
   ((inL x5 (IntKind.wrap .i64 (Int.tdiv x0 2))).bind fun v4 =>
   ((x5[(Int.toNat (IntKind.wrap .i64 (Int.tdiv x0 2)))]?).bind fun v5 =>
   (jj J 0 16 0 (s23_8 x2 x3 x4 (List.set x5 (Int.toNat (IntKind.wrap .i64 (Int.tdiv x0 2))) (Dt.int (orI IntKind.u8 (shlI IntKind.u8 (Dt.toInt v3) 4) (IntKind.wrap IntKind.u8 x1))))) (e23 J m w23_1 [M3]))))))) (fun J => by kernel_rfl) (by simp only [jj_eq, notation_fromHex_j8_eq m M3 rec3 h3]; rfl)
theorem notation_fromHex_j6_eq m M3 rec3 (h3 : H23_3 m M3 rec3) x0 x1 x2 x3 x4 x5 : e23 jn m w23_3 [M3] (s23_7 x0 x1 x2 x3 x4 x5) = notation_fromHex_j6 m rec3 x0 x1 x2 x3 x4 x5 :=
  tre (g := fun J => (bif (decide (x1 < 0)) then
   some ((ByteArray.mk (List.toArray [])), false)
    else
   (jj J 0 15 0 (s23_7 x0 x1 x2 x3 x4 x5) (e23 J m w23_2 [M3])))) (fun J => by kernel_rfl) (by simp only [jj_eq, notation_fromHex_j7_eq m M3 rec3 h3]; rfl)
theorem notation_fromHex_j9_eq m M3 rec3 (h3 : H23_3 m M3 rec3) x0 x1 x2 x3 x4 x5 x6 x7 : e23 jn m w23_4 [M3] (s23_9 x0 x1 x2 x3 x4 x5 x6 x7) = notation_fromHex_j9 m rec3 x0 x1 x2 x3 x4 x5 x6 x7 :=
  tre (g := fun J => (bif x5 then
   (jj J 0 13 0 (s23_7 x0 (IntKind.wrap .i64 ((IntKind.wrap .i64 (IntKind.wrap IntKind.u8 (x2 - 97))) + 10)) x3 x4 x6 x7) (e23 J m w23_3 [M3]))
    else
   (jj J 0 13 0 (s23_7 x0 x1 x3 x4 x6 x7) (e23 J m w23_3 [M3])))) (fun J => by kernel_rfl) (by simp only [jj_eq, notation_fromHex_j6_eq m M3 rec3 h3]; rfl)
theorem notation_fromHex_j5_eq m M3 rec3 (h3 : H23_3 m M3 rec3) x0 x1 x2 x3 x4 x5 x6 x7 : e23 jn m w23_5 [M3] (s23_5 x0 x1 x2 x3 x4 x5 x6 x7) = notation_fromHex_j5 m rec3 x0 x1 x2 x3 x4 x5 x6 x7 :=
  tre (g := fun J => (bif x5 then
   (jj J 0 13 0 (s23_7 x0 (IntKind.wrap .i64 (IntKind.wrap IntKind.u8 (x2 - 48))) x3 x4 x6 x7) (e23 J m w23_3 [M3]))
    else
   (bif (decide (97 ≤ x2)) then
   (jj J 0 12 0 (s23_9 x0 x1 x2 x3 x4 (decide (x2 ≤ 102)) x6 x7) (e23 J m w23_4 [M3]))
   else
   (jj J 0 12 0 (s23_9 x0 x1 x2 x3 x4 false x6 x7) (e23 J m w23_4 [M3]))))) (fun J => by kernel_rfl) (by simp only [jj_eq, notation_fromHex_j6_eq m M3 rec3 h3, notation_fromHex_j9_eq m M3 rec3 h3]; rfl)
theorem notation_fromHex_j4_eq m M3 rec3 (h3 : H23_3 m M3 rec3) x0 x1 x2 x3 : e23 jn m w23_6 [M3] (s23_8 x0 x1 x2 x3) = notation_fromHex_j4 m rec3 x0 x1 x2 x3 :=
  tre (g := fun J => ((idxS (Dt.S x2 2) x1).bind fun v1 =>
   (bif (decide (48 ≤ v1)) then
   (jj J 0 10 0 (s23_5 x1 (-1) v1 x0 x1 (decide (v1 ≤ 57)) x2 x3) (e23 J m w23_5 [M3]))
   else
   (jj J 0 10 0 (s23_5 x1 (-1) v1 x0 x1 false x2 x3) (e23 J m w23_5 [M3]))))) (fun J => by kernel_rfl) (by simp only [jj_eq, notation_fromHex_j5_eq m M3 rec3 h3]; rfl)
theorem notation_fromHex_j10_eq m x0 : e23 jn m [1, 1, 1, 1] [] (s23_10 x0) = notation_fromHex_j10 m x0 :=
  tre (g := fun J => ((bif (Nat.ble (List.length x0) 137438953472) then (Option.some (strOfNums (List.map Dt.toInt x0))) else (Option.none)).bind fun v6 =>
   some (v6, true))) (fun J => by kernel_rfl) (by rfl)
theorem notation_fromHex_l3_eq m : ∀ M3 x0 x1 x2 x3, l23 jn m w23_0 [] M3 (s23_8 x0 x1 x2 x3) = notation_fromHex_l3 m M3 x0 x1 x2 x3
  | 0, _, _, _, _ => rfl
  | M3 + 1, x0, x1, x2, x3 =>
    trl (g := fun J => (bif (decide (x1 < x0)) then
   (jj J 0 6 0 (s23_8 x0 x1 x2 x3) (e23 J m w23_6 [M3]))
    else
   (jj J 0 17 0 (s23_10 x3) (e23 J m [1, 1, 1, 1] [])))) (fun J => by kernel_rfl) (by simp only [jj_eq, notation_fromHex_j4_eq m M3 (notation_fromHex_l3 m M3) (notation_fromHex_l3_eq m M3), notation_fromHex_j10_eq m]; rfl)
theorem notation_fromHex_j2_eq m x0 x1 x2 x3 : e23 jn m w23_7 [] (s23_8 x0 x1 x2 x3) = notation_fromHex_j2 m x0 x1 x2 x3 :=
  tre (g := fun J => (jj J 1 5 (Nat.succ m) (s23_8 x0 x1 x2 x3) (l23 J m w23_0 [] (Nat.succ m)))) (fun J => by kernel_rfl) (by simp only [jj_eq, notation_fromHex_l3_eq m]; rfl)
theorem notation_fromHex_j1_eq m x0 : e23 jn m [1, 1] [] (s23_1 x0) = notation_fromHex_j1 m x0 :=
  tre (g := fun J => ((mkL (IntKind.wrap .i64 (Int.tdiv (ByteArray.size (Dt.S x0 2) : Int) 2)) (IntKind.wrap .i64 (Int.tdiv (ByteArray.size (Dt.S x0 2) : Int) 2)) (Dt.int 0)).bind fun v0 =>
   (jj J 0 5 0 (s23_8 (ByteArray.size (Dt.S x0 2) : Int) 0 x0 v0) (e23 J m w23_7 [])))) (fun J => by kernel_rfl) (by simp only [jj_eq, notation_fromHex_j2_eq m]; rfl)
theorem notation_fromHex_j0_eq m x0 x1 : e23 jn m [1, 0, 1] [] (s23_0 x0 x1) = notation_fromHex_j0 m x0 x1 :=
  tre (g := fun J => (bif x0 then
   some ((ByteArray.mk (List.toArray [])), false)
    else
   (jj J 0 3 0 (s23_1 x1) (e23 J m [1, 1] [])))) (fun J => by kernel_rfl) (by simp only [jj_eq, notation_fromHex_j1_eq m]; rfl)
theorem notation_fromHex_eq m a0 : e23 jn m [] [] ⟨[(.dat 25 a0)], [], 0⟩ = notation_fromHex (m + 1) a0 :=
  tre (g := fun J => (bif ((Dt.I a0 0) != 4) then
   (jj J 0 2 0 (s23_0 true a0) (e23 J m [1, 0, 1] []))
    else
   (jj J 0 2 0 (s23_0 ((Int.tmod (ByteArray.size (Dt.S a0 2) : Int) 2) != 0) a0) (e23 J m [1, 0, 1] [])))) (fun J => by kernel_rfl) (by simp only [jj_eq, notation_fromHex_j0_eq m]; rfl)
def w15_0 : List Nat := [1, 1, 1, 1, 1]
noncomputable def e15 (J : Nat → Nat → Nat → St → Option (Dt × Bool) → Option (Dt × Bool)) (m : Nat) (p ms : List Nat) (σ : St) := evAt Tryz.prog env (ct m) J (m + 1) 62 80 Tryz.f62 d15 p ms σ
noncomputable def l15 (J : Nat → Nat → Nat → St → Option (Dt × Bool) → Option (Dt × Bool)) (m : Nat) (p ms : List Nat) (M : Nat) (σ : St) := loopAt Tryz.prog env (ct m) J (m + 1) 62 80 Tryz.f62 d15 p ms M σ
noncomputable def s15_1 (x0 : Dt) : St := ⟨tsOf [(2, (.ptr 0 [] 0))], [(.box 25 (.dat 25 x0))], 0⟩
noncomputable def s15_0 (x0 : List Dt) (x1 : Dt) : St := ⟨tsOf [(0, (.dat 23 (.lst x0))), (2, (.ptr 0 [] 0))], [(.box 25 (.dat 25 x1))], 0⟩
theorem notation_special_j1_eq m x0 : e15 jn m w15_0 [] (s15_1 x0) = notation_special_j1 m x0 :=
  tre (g := fun J => some (kza2373, false)) (fun J => by kernel_rfl) (by rfl)
theorem notation_special_j0_eq m x0 x1 : e15 jn m [1, 1] [] (s15_0 x0 x1) = notation_special_j0 m x0 x1 :=
  tre (g := fun J => ((idx x0 0).bind fun v0 =>
   ((idx x0 0).bind fun v1 =>
   (bif ((ByteArray.toList (Dt.S v1 0)) == [36, 105, 100]) then
   ((notation_fromHex m (Dt.fld v0 1)).bind fun r2 =>
   (bif r2.2 then
   some ((Dt.agg [(Dt.int 8), (Dt.int 0), (Dt.str r2.1), (Dt.lst []), (Dt.lst [])]), ((ByteArray.size r2.1 : Int) == 12))
   else
   some ((Dt.agg [(Dt.int 8), (Dt.int 0), (Dt.str r2.1), (Dt.lst []), (Dt.lst [])]), false)))
   else
   (bif ((ByteArray.toList (Dt.S v1 0)) == [36, 98, 121, 116, 101, 115]) then
   ((notation_fromHex m (Dt.fld v0 1)).bind fun r3 =>
   some ((Dt.agg [(Dt.int 7), (Dt.int 0), (Dt.str r3.1), (Dt.lst []), (Dt.lst [])]), r3.2))
   else
   (bif ((ByteArray.toList (Dt.S v1 0)) == [36, 116, 105, 109, 101]) then
   (bif ((Dt.I (Dt.fld v0 1) 0) == 3) then
   some ((Dt.agg [(Dt.int 10), (Dt.int (Dt.I (Dt.fld v0 1) 1)), (Dt.str (ByteArray.mk (List.toArray []))), (Dt.lst []), (Dt.lst [])]), (decide (0 ≤ (Dt.I (Dt.fld v0 1) 1))))
   else
   some ((Dt.agg [(Dt.int 10), (Dt.int (Dt.I (Dt.fld v0 1) 1)), (Dt.str (ByteArray.mk (List.toArray []))), (Dt.lst []), (Dt.lst [])]), false))
   else
   (bif ((ByteArray.toList (Dt.S v1 0)) == [36, 109, 105, 110]) then
   (bif ((Dt.I (Dt.fld v0 1) 0) == 3) then
   some (kz2ef54, ((Dt.I (Dt.fld v0 1) 1) == 1))
   else
   some (kz2ef54, false))
   else
   (bif ((ByteArray.toList (Dt.S v1 0)) == [36, 109, 97, 120]) then
   (bif ((Dt.I (Dt.fld v0 1) 0) == 3) then
   some (kzedecf, ((Dt.I (Dt.fld v0 1) 1) == 1))
   else
   some (kzedecf, false))
   else
   (jj J 0 18 0 (s15_1 x1) (e15 J m w15_0 [])))))))))) (fun J => by kernel_rfl) (by simp only [jj_eq, notation_special_j1_eq m]; rfl)
theorem notation_special_eq m a0 : e15 jn m [] [] ⟨[(.dat 23 (.lst a0))], [], 0⟩ = notation_special (m + 1) a0 :=
  tre (g := fun J => (bif ((List.length a0 : Int) != 1) then
   some (kza2373, false)
    else
   (jj J 0 3 0 (s15_0 a0 kza2373) (e15 J m [1, 1] [])))) (fun J => by kernel_rfl) (by simp only [jj_eq, notation_special_j0_eq m]; rfl)
def w7_0 : List Nat := [1, 0, 1, 0, 1, 1, 1, 1, 1, 1, 1, 1, 1, 1, 1, 1, 1, 1, 1, 1, 1, 0, 1]
noncomputable def e7 (J : Nat → Nat → Nat → St → Option (Int × List Dt) → Option (Int × List Dt)) (m : Nat) (p ms : List Nat) (σ : St) := evAt Tryz.prog env (ct m) J (m + 1) 15 87 Tryz.f15 d7 p ms σ
noncomputable def l7 (J : Nat → Nat → Nat → St → Option (Int × List Dt) → Option (Int × List Dt)) (m : Nat) (p ms : List Nat) (M : Nat) (σ : St) := loopAt Tryz.prog env (ct m) J (m + 1) 15 87 Tryz.f15 d7 p ms M σ
noncomputable def s7_0 (x0 : List Dt) : St := ⟨tsOf [(0, (.row 1))], [.gone, (.row 40 x0)], 1⟩
noncomputable def s7_1 (x0 : List Dt) (x1 : Dt) : St := ⟨tsOf [(0, (.row 1)), (3, (.ptr 2 [] 0))], [.gone, (.row 40 x0), (.box 25 (.dat 25 x1))], 1⟩
theorem i7_j0_eq m x0 : e7 jn m [1, 1] [] (s7_0 x0) = i7_j0 m (i13 m) (i14 m) x0 :=
  tre (g := fun J => some (0, x0)) (fun J => by kernel_rfl) (by rfl)
theorem i7_j1_eq m x0 x1 : e7 jn m w7_0 [] (s7_1 x0 x1) = i7_j1 m (i13 m) (i14 m) x0 x1 :=
  tre (g := fun J => ((app x0 [(Dt.int 123), (Dt.int 34), (Dt.int 36), (Dt.int 98), (Dt.int 121), (Dt.int 116), (Dt.int 101), (Dt.int 115), (Dt.int 34), (Dt.int 58), (Dt.int 34)]).bind fun v13 =>
   ((i12 m (Dt.S x1 2) v13).bind fun r14 =>
   ((app r14 [(Dt.int 34), (Dt.int 125)]).bind fun v15 =>
   (jj J 0 27 0 (s7_0 v15) (e7 J m [1, 1] [])))))) (fun J => by kernel_rfl) (by simp only [jj_eq, i7_j0_eq m]; rfl)
theorem i7_eq m a0 a1 : e7 jn m [] [] ⟨[(.row 0), (.dat 25 a0)], [(.row 40 a1)], 1⟩ = i7 (m + 1) a0 a1 :=
  tre (g := fun J => (bif ((Dt.I a0 0) == 1) then
   ((app a1 [(Dt.int 123), (Dt.int 34), (Dt.int 36), (Dt.int 109), (Dt.int 105), (Dt.int 110), (Dt.int 34), (Dt.int 58), (Dt.int 49), (Dt.int 125)]).bind fun v0 =>
   (jj J 0 27 0 (s7_0 v0) (e7 J m [1, 1] [])))
    else
   (bif ((Dt.I a0 0) == 11) then
   ((app a1 [(Dt.int 123), (Dt.int 34), (Dt.int 36), (Dt.int 109), (Dt.int 97), (Dt.int 120), (Dt.int 34), (Dt.int 58), (Dt.int 49), (Dt.int 125)]).bind fun v1 =>
   (jj J 0 27 0 (s7_0 v1) (e7 J m [1, 1] [])))
   else
   (bif ((Dt.I a0 0) == 2) then
   ((app a1 [(Dt.int 110), (Dt.int 117), (Dt.int 108), (Dt.int 108)]).bind fun v2 =>
   (jj J 0 27 0 (s7_0 v2) (e7 J m [1, 1] [])))
   else
   (bif ((Dt.I a0 0) == 9) then
   ((i8 m ((Dt.I a0 1) == 1) a1).bind fun r3 =>
   (jj J 0 27 0 (s7_0 r3) (e7 J m [1, 1] [])))
   else
   (bif ((Dt.I a0 0) == 3) then
   ((strconv_AppendInt (Dt.I a0 1) 10 a1).bind fun r4 =>
   (jj J 0 27 0 (s7_0 r4) (e7 J m [1, 1] [])))
   else
   (bif ((Dt.I a0 0) == 10) then
   ((app a1 [(Dt.int 123), (Dt.int 34), (Dt.int 36), (Dt.int 116), (Dt.int 105), (Dt.int 109), (Dt.int 101), (Dt.int 34), (Dt.int 58)]).bind fun v5 =>
   ((strconv_AppendInt (Dt.I a0 1) 10 v5).bind fun r6 =>
   ((app r6 [(Dt.int 125)]).bind fun v7 =>
   (jj J 0 27 0 (s7_0 v7) (e7 J m [1, 1] [])))))
   else
   (bif ((Dt.I a0 0) == 4) then
   ((notation_Quote m (Dt.S a0 2)).bind fun r8 =>
   ((app a1 (List.map (fun b => (Dt.int ((UInt8.toNat b) : Int))) (Array.toList (ByteArray.data (Dt.toStr (Dt.str r8)))))).bind fun v9 =>
   (jj J 0 27 0 (s7_0 v9) (e7 J m [1, 1] []))))
   else
   (bif ((Dt.I a0 0) == 8) then
   ((app a1 [(Dt.int 123), (Dt.int 34), (Dt.int 36), (Dt.int 105), (Dt.int 100), (Dt.int 34), (Dt.int 58), (Dt.int 34)]).bind fun v10 =>
   ((i12 m (Dt.S a0 2) v10).bind fun r11 =>
   ((app r11 [(Dt.int 34), (Dt.int 125)]).bind fun v12 =>
   (jj J 0 27 0 (s7_0 v12) (e7 J m [1, 1] [])))))
   else
   (bif ((Dt.I a0 0) == 7) then
   (bif (decide (2048 < (ByteArray.size (Dt.S a0 2) : Int))) then
   some (2, [])
   else
   (jj J 0 22 0 (s7_1 a1 a0) (e7 J m w7_0 [])))
   else
   (bif ((Dt.I a0 0) == 6) then
   ((i13 m (Dt.L a0 3) a1).bind fun r16 =>
   some (r16.1, r16.2))
   else
   (bif ((Dt.I a0 0) == 5) then
   ((i14 m (Dt.L a0 4) a1).bind fun r17 =>
   some (r17.1, r17.2))
   else
   (jj J 0 27 0 (s7_0 a1) (e7 J m [1, 1] [])))))))))))))) (fun J => by kernel_rfl) (by simp only [jj_eq, i7_j0_eq m, i7_j1_eq m]; rfl)
def w13_0 : List Nat := [1, 1, 0, 1, 0]
def w13_3 : List Nat := [1, 1, 0, 1, 0, 0, 1, 1]
def w13_1 : List Nat := w13_3 ++ [1]
def w13_2 : List Nat := w13_3 ++ [0, 0, 1, 1]
noncomputable def e13 (J : Nat → Nat → Nat → St → Option (Int × List Dt) → Option (Int × List Dt)) (m : Nat) (p ms : List Nat) (σ : St) := evAt Tryz.prog env (ct m) J (m + 1) 33 37 Tryz.f33 d7 p ms σ
noncomputable def l13 (J : Nat → Nat → Nat → St → Option (Int × List Dt) → Option (Int × List Dt)) (m : Nat) (p ms : List Nat) (M : Nat) (σ : St) := loopAt Tryz.prog env (ct m) J (m + 1) 33 37 Tryz.f33 d7 p ms M σ
noncomputable def s13_4 (x0 : List Dt) (x1 x2 : Int) (x3 : List Dt) : St := ⟨tsOf [(0, (.row 1)), (12, (.dat 22 (.lst x0))), (13, (.dat 3 (.int x1))), (14, (.dat 3 (.int x2)))], [.gone, (.row 40 x3)], 1⟩
noncomputable def s13_3 (x0 : List Dt) (x1 x2 : Int) (x3 : List Dt) (x4 : Dt) : St := ⟨tsOf [(0, (.row 1)), (7, (.ptr 2 [] 0)), (12, (.dat 22 (.lst x0))), (13, (.dat 3 (.int x1))), (14, (.dat 3 (.int x2)))], [.gone, (.row 40 x3), (.box 25 (.dat 25 x4))], 1⟩
noncomputable def s13_5 (x0 : List Dt) : St := ⟨tsOf [(0, (.row 1))], [.gone, (.row 40 x0)], 1⟩
abbrev H13_1 (m M1 : Nat) (rec1 : List Dt → Int → Int → List Dt → Option (Int × List Dt)) : Prop := ∀ x0 x1 x2 x3, l13 jn m w13_0 [] M1 (s13_4 x0 x1 x2 x3) = rec1 x0 x1 x2 x3
theorem i13_j4_eq m M1 rec1 (h1 : H13_1 m M1 rec1) x0 x1 x2 x3 : e13 jn m w13_1 [M1] (s13_4 x0 x1 x2 x3) = i13_j4 m (i7 m) rec1 x0 x1 x2 x3 :=
  tre (g := fun J => (jj J 1 3 M1 (s13_4 x0 x1 (IntKind.wrap .i64 (x2 + 1)) x3) (l13 J m w13_0 [] M1))) (fun J => by kernel_rfl) (by simp only [jj_eq, h1]; rfl)
theorem i13_j3_eq m M1 rec1 (h1 : H13_1 m M1 rec1) x0 x1 x2 x3 x4 : e13 jn m w13_2 [M1] (s13_3 x0 x1 x2 x3 x4) = i13_j3 m (i7 m) rec1 x0 x1 x2 x3 x4 :=
  tre (g := fun J => ((i7 m x4 x3).bind fun r3 =>
   (bif (r3.1 != 0) then
   some (r3.1, [])
   else
   (jj J 0 11 0 (s13_4 x0 x1 x2 r3.2) (e13 J m w13_1 [M1]))))) (fun J => by kernel_rfl) (by simp only [jj_eq, i13_j4_eq m M1 rec1 h1]; rfl)
theorem i13_j2_eq m M1 rec1 (h1 : H13_1 m M1 rec1) x0 x1 x2 x3 : e13 jn m w13_3 [M1] (s13_4 x0 x1 x2 x3) = i13_j2 m (i7 m) rec1 x0 x1 x2 x3 :=
  tre (g := fun J => ((idx x0 x2).bind fun v1 =>
   (bif (decide (0 < x2)) then
   ((app x3 [(Dt.int 44)]).bind fun v2 =>
   (jj J 0 7 0 (s13_3 x0 x1 x2 v2 v1) (e13 J m w13_2 [M1])))
   else
   (jj J 0 7 0 (s13_3 x0 x1 x2 x3 v1) (e13 J m w13_2 [M1]))))) (fun J => by kernel_rfl) (by simp only [jj_eq, i13_j3_eq m M1 rec1 h1]; rfl)
theorem i13_j5_eq m x0 : e13 jn m [1, 1, 1] [] (s13_5 x0) = i13_j5 m (i7 m) x0 :=
  tre (g := fun J => ((app x0 [(Dt.int 93)]).bind fun v4 =>
   some (0, v4))) (fun J => by kernel_rfl) (by rfl)
theorem i13_l1_eq m : ∀ M1 x0 x1 x2 x3, l13 jn m w13_0 [] M1 (s13_4 x0 x1 x2 x3) = i13_l1 m (i7 m) M1 x0 x1 x2 x3
  | 0, _, _, _, _ => rfl
  | M1 + 1, x0, x1, x2, x3 =>
    trl (g := fun J => (bif (decide (x2 < x1)) then
   (jj J 0 4 0 (s13_4 x0 x1 x2 x3) (e13 J m w13_3 [M1]))
    else
   (jj J 0 12 0 (s13_5 x3) (e13 J m [1, 1, 1] [])))) (fun J => by kernel_rfl) (by simp only [jj_eq, i13_j2_eq m M1 (i13_l1 m (i7 m) M1) (i13_l1_eq m M1), i13_j5_eq m]; rfl)
theorem i13_j0_eq m x0 x1 x2 x3 : e13 jn m [1, 1, 0, 1] [] (s13_4 x0 x1 x2 x3) = i13_j0 m (i7 m) x0 x1 x2 x3 :=
  tre (g := fun J => (jj J 1 3 (Nat.succ m) (s13_4 x0 x1 x2 x3) (l13 J m w13_0 [] (Nat.succ m)))) (fun J => by kernel_rfl) (by simp only [jj_eq, i13_l1_eq m]; rfl)
theorem i13_eq m a0 a1 : e13 jn m [] [] ⟨[(.row 0), (.dat 22 (.lst a0))], [(.row 40 a1)], 1⟩ = i13 (m + 1) a0 a1 :=
  tre (g := fun J => ((app a1 [(Dt.int 91)]).bind fun v0 =>
   (jj J 0 3 0 (s13_4 a0 (List.length a0 : Int) 0 v0) (e13 J m [1, 1, 0, 1] [])))) (fun J => by kernel_rfl) (by simp only [jj_eq, i13_j0_eq m]; rfl)
def w14_4 : List Nat := [1, 1, 1, 0, 1]
def w14_0 : List Nat := [1, 1, 1, 0, 1, 0]
def w14_3 : List Nat := w14_0 ++ [0, 1, 1]
def w14_1 : List Nat := w14_3 ++ [1]
def w14_2 : List Nat := w14_3 ++ [0, 0, 1, 1]
noncomputable def e14 (J : Nat → Nat → Nat → St → Option (Int × List Dt) → Option (Int × List Dt)) (m : Nat) (p ms : List Nat) (σ : St) := evAt Tryz.prog env (ct m) J (m + 1) 34 53 Tryz.f34 d7 p ms σ
noncomputable def l14 (J : Nat → Nat → Nat → St → Option (Int × List Dt) → Option (Int × List Dt)) (m : Nat) (p ms : List Nat) (M : Nat) (σ : St) := loopAt Tryz.prog env (ct m) J (m + 1) 34 53 Tryz.f34 d7 p ms M σ
noncomputable def s14_5 (x0 : List Dt) (x1 x2 : Int) (x3 : List Dt) : St := ⟨tsOf [(0, (.row 1)), (20, (.dat 23 (.lst x0))), (21, (.dat 3 (.int x1))), (22, (.dat 3 (.int x2)))], [.gone, (.row 40 x3)], 1⟩
noncomputable def s14_4 (x0 : List Dt) (x1 x2 : Int) (x3 : List Dt) (x4 : Dt) : St := ⟨tsOf [(0, (.row 1)), (9, (.ptr 2 [] 0)), (20, (.dat 23 (.lst x0))), (21, (.dat 3 (.int x1))), (22, (.dat 3 (.int x2)))], [.gone, (.row 40 x3), (.box 38 (.dat 38 x4))], 1⟩
noncomputable def s14_6 (x0 : List Dt) : St := ⟨tsOf [(0, (.row 1))], [.gone, (.row 40 x0)], 1⟩
noncomputable def s14_0 (x0 x1 : List Dt) : St := ⟨tsOf [(0, (.row 1)), (1, (.dat 23 (.lst x0)))], [.gone, (.row 40 x1)], 1⟩
abbrev H14_2 (m M2 : Nat) (rec2 : List Dt → Int → Int → List Dt → Option (Int × List Dt)) : Prop := ∀ x0 x1 x2 x3, l14 jn m w14_0 [] M2 (s14_5 x0 x1 x2 x3) = rec2 x0 x1 x2 x3
theorem i14_j5_eq m M2 rec2 (h2 : H14_2 m M2 rec2) x0 x1 x2 x3 : e14 jn m w14_1 [M2] (s14_5 x0 x1 x2 x3) = i14_j5 m (i7 m) rec2 x0 x1 x2 x3 :=
  tre (g := fun J => (jj J 1 6 M2 (s14_5 x0 x1 (IntKind.wrap .i64 (x2 + 1)) x3) (l14 J m w14_0 [] M2))) (fun J => by kernel_rfl) (by simp only [jj_eq, h2]; rfl)
theorem i14_j4_eq m M2 rec2 (h2 : H14_2 m M2 rec2) x0 x1 x2 x3 x4 : e14 jn m w14_2 [M2] (s14_4 x0 x1 x2 x3 x4) = i14_j4 m (i7 m) rec2 x0 x1 x2 x3 x4 :=
  tre (g := fun J => ((notation_Quote m (Dt.S x4 0)).bind fun r4 =>
   ((app x3 (List.map (fun b => (Dt.int ((UInt8.toNat b) : Int))) (Array.toList (ByteArray.data (Dt.toStr (Dt.str r4)))))).bind fun v5 =>
   ((app v5 [(Dt.int 58)]).bind fun v6 =>
   ((i7 m (Dt.fld x4 1) v6).bind fun r7 =>
   (bif (r7.1 != 0) then
   some (r7.1, [])
   else
   (jj J 0 15 0 (s14_5 x0 x1 x2 r7.2) (e14 J m w14_1 [M2])))))))) (fun J => by kernel_rfl) (by simp only [jj_eq, i14_j5_eq m M2 rec2 h2]; rfl)
theorem i14_j3_eq m M2 rec2 (h2 : H14_2 m M2 rec2) x0 x1 x2 x3 : e14 jn m w14_3 [M2] (s14_5 x0 x1 x2 x3) = i14_j3 m (i7 m) rec2 x0 x1 x2 x3 :=
  tre (g := fun J => ((idx x0 x2).bind fun v2 =>
   (bif (decide (0 < x2)) then
   ((app x3 [(Dt.int 44)]).bind fun v3 =>
   (jj J 0 10 0 (s14_4 x0 x1 x2 v3 v2) (e14 J m w14_2 [M2])))
   else
   (jj J 0 10 0 (s14_4 x0 x1 x2 x3 v2) (e14 J m w14_2 [M2]))))) (fun J => by kernel_rfl) (by simp only [jj_eq, i14_j4_eq m M2 rec2 h2]; rfl)
theorem i14_j6_eq m x0 : e14 jn m [1, 1, 1, 1] [] (s14_6 x0) = i14_j6 m (i7 m) x0 :=
  tre (g := fun J => ((app x0 [(Dt.int 125)]).bind fun v8 =>
   some (0, v8))) (fun J => by kernel_rfl) (by rfl)
theorem i14_l2_eq m : ∀ M2 x0 x1 x2 x3, l14 jn m w14_0 [] M2 (s14_5 x0 x1 x2 x3) = i14_l2 m (i7 m) M2 x0 x1 x2 x3
  | 0, _, _, _, _ => rfl
  | M2 + 1, x0, x1, x2, x3 =>
    trl (g := fun J => (bif (decide (x2 < x1)) then
   (jj J 0 7 0 (s14_5 x0 x1 x2 x3) (e14 J m w14_3 [M2]))
    else
   (jj J 0 16 0 (s14_6 x3) (e14 J m [1, 1, 1, 1] [])))) (fun J => by kernel_rfl) (by simp only [jj_eq, i14_j3_eq m M2 (i14_l2 m (i7 m) M2) (i14_l2_eq m M2), i14_j6_eq m]; rfl)
theorem i14_j1_eq m x0 x1 x2 x3 : e14 jn m w14_4 [] (s14_5 x0 x1 x2 x3) = i14_j1 m (i7 m) x0 x1 x2 x3 :=
  tre (g := fun J => (jj J 1 6 (Nat.succ m) (s14_5 x0 x1 x2 x3) (l14 J m w14_0 [] (Nat.succ m)))) (fun J => by kernel_rfl) (by simp only [jj_eq, i14_l2_eq m]; rfl)
theorem i14_j0_eq m x0 x1 : e14 jn m [1, 1] [] (s14_0 x0 x1) = i14_j0 m (i7 m) x0 x1 :=
  tre (g := fun J => ((app x1 [(Dt.int 123)]).bind fun v1 =>
   (jj J 0 6 0 (s14_5 x0 (List.length x0 : Int) 0 v1) (e14 J m w14_4 [])))) (fun J => by kernel_rfl) (by simp only [jj_eq, i14_j1_eq m]; rfl)
theorem i14_eq m a0 a1 : e14 jn m [] [] ⟨[(.row 0), (.dat 23 (.lst a0))], [(.row 40 a1)], 1⟩ = i14 (m + 1) a0 a1 :=
  tre (g := fun J => ((notation_special m a0).bind fun r0 =>
   (bif r0.2 then
   some (4, [])
   else
   (jj J 0 4 0 (s14_0 a0 a1) (e14 J m [1, 1] []))))) (fun J => by kernel_rfl) (by simp only [jj_eq, i14_j0_eq m]; rfl)
noncomputable def e31 (J : Nat → Nat → Nat → St → Option Int → Option Int) (m : Nat) (p ms : List Nat) (σ : St) := evAt Tryz.prog env (ct m) J (m + 1) 55 14 Tryz.f55 d5 p ms σ
noncomputable def l31 (J : Nat → Nat → Nat → St → Option Int → Option Int) (m : Nat) (p ms : List Nat) (M : Nat) (σ : St) := loopAt Tryz.prog env (ct m) J (m + 1) 55 14 Tryz.f55 d5 p ms M σ
noncomputable def s31_0 (x0 : Dt) (x1 x2 : Int) : St := ⟨tsOf [(2, (.ptr 0 [] 0)), (3, (.ptr 1 [] 0)), (5, (.ptr 2 [] 0))], [(.box 25 (.dat 25 x0)), (.box 3 (.dat 3 (.int x1))), (.box 3 (.dat 3 (.int x2)))], 0⟩
theorem value_nodes_j0_eq m x0 x1 x2 : e31 jn m [1, 1, 1] [] (s31_0 x0 x1 x2) = value_nodes_j0 m (i42 m) x0 x1 x2 :=
  tre (g := fun J => ((i42 m x0 x2 x1).bind fun r0 =>
   some r0.1)) (fun J => by kernel_rfl) (by rfl)
theorem value_nodes_eq m a0 a1 : e31 jn m [] [] ⟨[(.dat 25 a0), (.dat 3 (.int a1))], [], 0⟩ = value_nodes (m + 1) a0 a1 :=
  tre (g := fun J => (bif (1 == a1) then
   some 1
    else
   (jj J 0 4 0 (s31_0 a0 a1 1) (e31 J m [1, 1, 1] [])))) (fun J => by kernel_rfl) (by simp only [jj_eq, value_nodes_j0_eq m]; rfl)
def w42_3 : List Nat := [1, 1, 0, 1, 0, 1]
def w42_0 : List Nat := w42_3 ++ [0]
def w42_7 : List Nat := [1, 1, 0, 1, 1, 1, 0, 1]
def w42_4 : List Nat := w42_7 ++ [0]
def w42_2 : List Nat := w42_0 ++ [0, 1, 1]
def w42_1 : List Nat := w42_2 ++ [1]
def w42_6 : List Nat := w42_4 ++ [0, 1, 1]
def w42_5 : List Nat := w42_6 ++ [1]
noncomputable def e42 (J : Nat → Nat → Nat → St → Option (Int × Int) → Option (Int × Int)) (m : Nat) (p ms : List Nat) (σ : St) := evAt Tryz.prog env (ct m) J (m + 1) 79 39 Tryz.f79 d42 p ms σ
noncomputable def l42 (J : Nat → Nat → Nat → St → Option (Int × Int) → Option (Int × Int)) (m : Nat) (p ms : List Nat) (M : Nat) (σ : St) := loopAt Tryz.prog env (ct m) J (m + 1) 79 39 Tryz.f79 d42 p ms M σ
noncomputable def s42_3 (x0 : List Dt) (x1 x2 x3 x4 : Int) : St := ⟨tsOf [(1, (.fn 80 [(.ptr 0 [] 0), (.ptr 1 [] 0)])), (13, (.dat 22 (.lst x0))), (14, (.dat 3 (.int x1))), (15, (.dat 3 (.int x2)))], [(.box 3 (.dat 3 (.int x3))), (.box 3 (.dat 3 (.int x4)))], 2⟩
noncomputable def s42_7 (x0 : List Dt) (x1 x2 x3 x4 : Int) : St := ⟨tsOf [(1, (.fn 80 [(.ptr 0 [] 0), (.ptr 1 [] 0)])), (27, (.dat 23 (.lst x0))), (28, (.dat 3 (.int x1))), (29, (.dat 3 (.int x2)))], [(.box 3 (.dat 3 (.int x3))), (.box 3 (.dat 3 (.int x4)))], 2⟩
abbrev H42_1 (m M1 : Nat) (rec1 : List Dt → Int → Int → Int → Int → Option (Int × Int)) : Prop := ∀ x0 x1 x2 x3 x4, l42 jn m w42_0 [] M1 (s42_3 x0 x1 x2 x3 x4) = rec1 x0 x1 x2 x3 x4
theorem i42_j3_eq m M1 rec1 (h1 : H42_1 m M1 rec1) x0 x1 x2 x3 x4 : e42 jn m w42_1 [M1] (s42_3 x0 x1 x2 x3 x4) = i42_j3 m (i43 m) rec1 x0 x1 x2 x3 x4 :=
  tre (g := fun J => (jj J 1 4 M1 (s42_3 x0 x1 (IntKind.wrap .i64 (x2 + 1)) x3 x4) (l42 J m w42_0 [] M1))) (fun J => by kernel_rfl) (by simp only [jj_eq, h1]; rfl)
theorem i42_j2_eq m M1 rec1 (h1 : H42_1 m M1 rec1) x0 x1 x2 x3 x4 : e42 jn m w42_2 [M1] (s42_3 x0 x1 x2 x3 x4) = i42_j2 m (i43 m) rec1 x0 x1 x2 x3 x4 :=
  tre (g := fun J => ((idx x0 x2).bind fun v0 =>
   ((i43 m v0 x3 x4).bind fun r1 =>
   (bif (Bool.not r1.1) then
   some (r1.2.1, r1.2.2)
   else
   (jj J 0 7 0 (s42_3 x0 x1 x2 r1.2.1 r1.2.2) (e42 J m w42_1 [M1])))))) (fun J => by kernel_rfl) (by simp only [jj_eq, i42_j3_eq m M1 rec1 h1]; rfl)
theorem i42_l1_eq m : ∀ M1 x0 x1 x2 x3 x4, l42 jn m w42_0 [] M1 (s42_3 x0 x1 x2 x3 x4) = i42_l1 m (i43 m) M1 x0 x1 x2 x3 x4
  | 0, _, _, _, _, _ => rfl
  | M1 + 1, x0, x1, x2, x3, x4 =>
    trl (g := fun J => (bif (decide (x2 < x1)) then
   (jj J 0 5 0 (s42_3 x0 x1 x2 x3 x4) (e42 J m w42_2 [M1]))
    else
   some (x3, x4))) (fun J => by kernel_rfl) (by simp only [jj_eq, i42_j2_eq m M1 (i42_l1 m (i43 m) M1) (i42_l1_eq m M1)]; rfl)
theorem i42_j0_eq m x0 x1 x2 x3 x4 : e42 jn m w42_3 [] (s42_3 x0 x1 x2 x3 x4) = i42_j0 m (i43 m) x0 x1 x2 x3 x4 :=
  tre (g := fun J => (jj J 1 4 (Nat.succ m) (s42_3 x0 x1 x2 x3 x4) (l42 J m w42_0 [] (Nat.succ m)))) (fun J => by kernel_rfl) (by simp only [jj_eq, i42_l1_eq m]; rfl)
abbrev H42_5 (m M5 : Nat) (rec5 : List Dt → Int → Int → Int → Int → Option (Int × Int)) : Prop := ∀ x0 x1 x2 x3 x4, l42 jn m w42_4 [] M5 (s42_7 x0 x1 x2 x3 x4) = rec5 x0 x1 x2 x3 x4
theorem i42_j7_eq m M5 rec5 (h5 : H42_5 m M5 rec5) x0 x1 x2 x3 x4 : e42 jn m w42_5 [M5] (s42_7 x0 x1 x2 x3 x4) = i42_j7 m (i43 m) rec5 x0 x1 x2 x3 x4 :=
  tre (g := fun J => (jj J 1 10 M5 (s42_7 x0 x1 (IntKind.wrap .i64 (x2 + 1)) x3 x4) (l42 J m w42_4 [] M5))) (fun J => by kernel_rfl) (by simp only [jj_eq, h5]; rfl)
theorem i42_j6_eq m M5 rec5 (h5 : H42_5 m M5 rec5) x0 x1 x2 x3 x4 : e42 jn m w42_6 [M5] (s42_7 x0 x1 x2 x3 x4) = i42_j6 m (i43 m) rec5 x0 x1 x2 x3 x4 :=
  tre (g := fun J => ((idx x0 x2).bind fun v2 =>
   ((i43 m (Dt.fld v2 1) x3 x4).bind fun r3 =>
   (bif (Bool.not r3.1) then
   some (r3.2.1, r3.2.2)
   else
   (jj J 0 13 0 (s42_7 x0 x1 x2 r3.2.1 r3.2.2) (e42 J m w42_5 [M5])))))) (fun J => by kernel_rfl) (by simp only [jj_eq, i42_j7_eq m M5 rec5 h5]; rfl)
theorem i42_l5_eq m : ∀ M5 x0 x1 x2 x3 x4, l42 jn m w42_4 [] M5 (s42_7 x0 x1 x2 x3 x4) = i42_l5 m (i43 m) M5 x0 x1 x2 x3 x4
  | 0, _, _, _, _, _ => rfl
  | M5 + 1, x0, x1, x2, x3, x4 =>
    trl (g := fun J => (bif (decide (x2 < x1)) then
   (jj J 0 11 0 (s42_7 x0 x1 x2 x3 x4) (e42 J m w42_6 [M5]))
    else
   some (x3, x4))) (fun J => by kernel_rfl) (by simp only [jj_eq, i42_j6_eq m M5 (i42_l5 m (i43 m) M5) (i42_l5_eq m M5)]; rfl)
theorem i42_j4_eq m x0 x1 x2 x3 x4 : e42 jn m w42_7 [] (s42_7 x0 x1 x2 x3 x4) = i42_j4 m (i43 m) x0 x1 x2 x3 x4 :=
  tre (g := fun J => (jj J 1 10 (Nat.succ m) (s42_7 x0 x1 x2 x3 x4) (l42 J m w42_4 [] (Nat.succ m)))) (fun J => by kernel_rfl) (by simp only [jj_eq, i42_l5_eq m]; rfl)
theorem i42_eq m a0 a1 a2 : e42 jn m [] [] ⟨[(.dat 25 a0), (.fn 80 [(.ptr 0 [] 0), (.ptr 1 [] 0)])], [(.box 3 (.dat 3 (.int a1))), (.box 3 (.dat 3 (.int a2)))], 2⟩ = i42 (m + 1) a0 a1 a2 :=
  tre (g := fun J => (bif ((Dt.I a0 0) == 6) then
   (jj J 0 4 0 (s42_3 (Dt.L a0 3) (List.length (Dt.L a0 3) : Int) 0 a1 a2) (e42 J m w42_3 []))
    else
   (bif ((Dt.I a0 0) == 5) then
   (jj J 0 10 0 (s42_7 (Dt.L a0 4) (List.length (Dt.L a0 4) : Int) 0 a1 a2) (e42 J m w42_7 []))
   else
   some (a1, a2)))) (fun J => by kernel_rfl) (by simp only [jj_eq, i42_j0_eq m, i42_j4_eq m]; rfl)
noncomputable def e43 (J : Nat → Nat → Nat → St → Option (Bool × Int × Int) → Option (Bool × Int × Int)) (m : Nat) (p ms : List Nat) (σ : St) := evAt Tryz.prog env (ct m) J (m + 1) 80 15 Tryz.f80 d43 p ms σ
noncomputable def l43 (J : Nat → Nat → Nat → St → Option (Bool × Int × Int) → Option (Bool × Int × Int)) (m : Nat) (p ms : List Nat) (M : Nat) (σ : St) := loopAt Tryz.prog env (ct m) J (m + 1) 80 15 Tryz.f80 d43 p ms M σ
theorem i43_eq m a0 a1 a2 : e43 jn m [] [] ⟨[(.dat 25 a0), (.ptr 0 [] 0), (.ptr 1 [] 0)], [(.box 3 (.dat 3 (.int a1))), (.box 3 (.dat 3 (.int a2)))], 2⟩ = i43 (m + 1) a0 a1 a2 :=
  tre (g := fun J => ((value_nodes m a0 (IntKind.wrap .i64 (a2 - a1))).bind fun r0 =>
   some ((decide ((IntKind.wrap .i64 (a1 + r0)) < a2)), (IntKind.wrap .i64 (a1 + r0)), a2))) (fun J => by kernel_rfl) (by rfl)
noncomputable def e19 (J : Nat → Nat → Nat → St → Option Int → Option Int) (m : Nat) (p ms : List Nat) (σ : St) := evAt Tryz.prog env (ct m) J (m + 1) 26 5 Tryz.f26 d5 p ms σ
noncomputable def l19 (J : Nat → Nat → Nat → St → Option Int → Option Int) (m : Nat) (p ms : List Nat) (M : Nat) (σ : St) := loopAt Tryz.prog env (ct m) J (m + 1) 26 5 Tryz.f26 d5 p ms M σ
theorem value_Nodes_eq m a0 : e19 jn m [] [] ⟨[(.dat 25 a0)], [], 0⟩ = value_Nodes (m + 1) a0 :=
  tre (g := fun J => ((value_nodes m a0 1025).bind fun r0 =>
   some r0)) (fun J => by kernel_rfl) (by rfl)
def w33_2 : List Nat := [1, 0, 1, 0, 0, 1, 1]
def w33_0 : List Nat := w33_2 ++ [1]
def w33_1 : List Nat := w33_2 ++ [0, 0, 1, 1]
noncomputable def e33 (J : Nat → Nat → Nat → St → Option Bool → Option Bool) (m : Nat) (p ms : List Nat) (σ : St) := evAt Tryz.prog env (ct m) J (m + 1) 57 22 Tryz.f57 d1 p ms σ
noncomputable def l33 (J : Nat → Nat → Nat → St → Option Bool → Option Bool) (m : Nat) (p ms : List Nat) (M : Nat) (σ : St) := loopAt Tryz.prog env (ct m) J (m + 1) 57 22 Tryz.f57 d1 p ms M σ
noncomputable def s33_4 (x0 : ByteArray) (x1 x2 : Int) : St := ⟨tsOf [(0, (.dat 9 (.str x0))), (5, (.dat 3 (.int x1))), (6, (.dat 3 (.int x2)))], [], 0⟩
noncomputable def s33_3 (x0 : ByteArray) (x1 x2 : Int) (x3 : Bool) : St := ⟨tsOf [(0, (.dat 9 (.str x0))), (5, (.dat 3 (.int x1))), (6, (.dat 3 (.int x2))), (18, (.dat 4 (.bool x3)))], [], 0⟩
noncomputable def s33_5 (x0 : ByteArray) : St := ⟨tsOf [(0, (.dat 9 (.str x0)))], [], 0⟩
abbrev H33_1 (m M1 : Nat) (rec1 : ByteArray → Int → Int → Option Bool) : Prop := ∀ x0 x1 x2, l33 jn m [1, 0, 1, 0] [] M1 (s33_4 x0 x1 x2) = rec1 x0 x1 x2
theorem notation_isField_j4_eq m M1 rec1 (h1 : H33_1 m M1 rec1) x0 x1 x2 : e33 jn m w33_0 [M1] (s33_4 x0 x1 x2) = notation_isField_j4 m rec1 x0 x1 x2 :=
  tre (g := fun J => (jj J 1 2 M1 (s33_4 x0 x1 (IntKind.wrap .i64 (x2 + 1))) (l33 J m [1, 0, 1, 0] [] M1))) (fun J => by kernel_rfl) (by simp only [jj_eq, h1]; rfl)
theorem notation_isField_j3_eq m M1 rec1 (h1 : H33_1 m M1 rec1) x0 x1 x2 x3 : e33 jn m w33_1 [M1] (s33_3 x0 x1 x2 x3) = notation_isField_j3 m rec1 x0 x1 x2 x3 :=
  tre (g := fun J => (bif x3 then
   some false
    else
   (jj J 0 6 0 (s33_4 x0 x1 x2) (e33 J m w33_0 [M1])))) (fun J => by kernel_rfl) (by simp only [jj_eq, notation_isField_j4_eq m M1 rec1 h1]; rfl)
theorem notation_isField_j2_eq m M1 rec1 (h1 : H33_1 m M1 rec1) x0 x1 x2 : e33 jn m w33_2 [M1] (s33_4 x0 x1 x2) = notation_isField_j2 m rec1 x0 x1 x2 :=
  tre (g := fun J => ((idxS x0 x2).bind fun v0 =>
   (bif (decide (v0 < 32)) then
   (jj J 0 5 0 (s33_3 x0 x1 x2 true) (e33 J m w33_1 [M1]))
   else
   ((idxS x0 x2).bind fun v1 =>
   (jj J 0 5 0 (s33_3 x0 x1 x2 (decide (126 < v1))) (e33 J m w33_1 [M1])))))) (fun J => by kernel_rfl) (by simp only [jj_eq, notation_isField_j3_eq m M1 rec1 h1]; rfl)
theorem notation_isField_j5_eq m x0 : e33 jn m [1, 1] [] (s33_5 x0) = notation_isField_j5 m x0 :=
  tre (g := fun J => some (Bool.not ((ByteArray.toList x0) == []))) (fun J => by kernel_rfl) (by rfl)
theorem notation_isField_l1_eq m : ∀ M1 x0 x1 x2, l33 jn m [1, 0, 1, 0] [] M1 (s33_4 x0 x1 x2) = notation_isField_l1 m M1 x0 x1 x2
  | 0, _, _, _ => rfl
  | M1 + 1, x0, x1, x2 =>
    trl (g := fun J => (bif (decide (x2 < x1)) then
   (jj J 0 3 0 (s33_4 x0 x1 x2) (e33 J m w33_2 [M1]))
    else
   (jj J 0 7 0 (s33_5 x0) (e33 J m [1, 1] [])))) (fun J => by kernel_rfl) (by simp only [jj_eq, notation_isField_j2_eq m M1 (notation_isField_l1 m M1) (notation_isField_l1_eq m M1), notation_isField_j5_eq m]; rfl)
theorem notation_isField_j0_eq m x0 x1 x2 : e33 jn m [1, 0, 1] [] (s33_4 x0 x1 x2) = notation_isField_j0 m x0 x1 x2 :=
  tre (g := fun J => (jj J 1 2 (Nat.succ m) (s33_4 x0 x1 x2) (l33 J m [1, 0, 1, 0] [] (Nat.succ m)))) (fun J => by kernel_rfl) (by simp only [jj_eq, notation_isField_l1_eq m]; rfl)
theorem notation_isField_eq m a0 : e33 jn m [] [] ⟨[(.dat 9 (.str a0))], [], 0⟩ = notation_isField (m + 1) a0 :=
  tre (g := fun J => (jj J 0 2 0 (s33_4 a0 (ByteArray.size a0 : Int) 0) (e33 J m [1, 0, 1] []))) (fun J => by kernel_rfl) (by simp only [jj_eq, notation_isField_j0_eq m]; rfl)
def w20_4 : List Nat := [1, 0, 1, 0, 1, 0, 1, 1]
def w20_5 : List Nat := [1, 0, 1, 0, 1, 0, 1, 0, 1]
def w20_0 : List Nat := w20_5 ++ [0]
def w20_11 : List Nat := [1, 0, 1, 0, 1, 1, 1, 0, 1, 1, 1]
def w20_12 : List Nat := [1, 0, 1, 0, 1, 1, 1, 0, 1, 1, 0, 1]
def w20_3 : List Nat := w20_0 ++ [0, 1, 1]
def w20_6 : List Nat := w20_12 ++ [0]
def w20_1 : List Nat := w20_3 ++ [1]
def w20_10 : List Nat := w20_6 ++ [0, 1, 1]
def w20_7 : List Nat := w20_10 ++ [1]
def w20_2 : List Nat := w20_3 ++ [0, 0, 1, 1, 1]
def w20_8 : List Nat := w20_10 ++ [0, 0, 1, 1, 1]
def w20_9 : List Nat := w20_10 ++ [0, 0, 1, 1, 0, 1]
noncomputable def e20 (J : Nat → Nat → Nat → St → Option (Dt × Bool) → Option (Dt × Bool)) (m : Nat) (p ms : List Nat) (σ : St) := evAt Tryz.prog env (ct m) J (m + 1) 28 102 Tryz.f28 d15 p ms σ
noncomputable def l20 (J : Nat → Nat → Nat → St → Option (Dt × Bool) → Option (Dt × Bool)) (m : Nat) (p ms : List Nat) (M : Nat) (σ : St) := loopAt Tryz.prog env (ct m) J (m + 1) 28 102 Tryz.f28 d15 p ms M σ
noncomputable def s20_4 (x0 : List Dt) (x1 x2 : Int) (x3 x4 : Dt) (x5 : List Dt) : St := ⟨tsOf [(1, (.ptr 0 [] 0)), (2, (.ptr 1 [] 0)), (4, (.row 2)), (24, (.dat 22 (.lst x0))), (25, (.dat 3 (.int x1))), (26, (.dat 3 (.int x2)))], [(.box 25 (.dat 25 x3)), (.box 25 (.dat 25 x4)), (.row 22 x5)], 0⟩
noncomputable def s20_3 (x0 : Int) (x1 : List Dt) (x2 x3 : Int) (x4 x5 : Dt) (x6 : List Dt) (x7 : Dt) : St := ⟨tsOf [(1, (.ptr 0 [] 0)), (2, (.ptr 1 [] 0)), (4, (.row 2)), (5, (.dat 3 (.int x0))), (7, (.ptr 3 [] 0)), (24, (.dat 22 (.lst x1))), (25, (.dat 3 (.int x2))), (26, (.dat 3 (.int x3)))], [(.box 25 (.dat 25 x4)), (.box 25 (.dat 25 x5)), (.row 22 x6), (.box 25 (.dat 25 x7))], 0⟩
noncomputable def s20_6 (x0 x1 : Dt) : St := ⟨tsOf [(1, (.ptr 0 [] 0)), (2, (.ptr 1 [] 0))], [(.box 25 (.dat 25 x0)), (.box 25 (.dat 25 x1))], 0⟩
noncomputable def s20_5 (x0 x1 : Dt) (x2 : List Dt) : St := ⟨tsOf [(1, (.ptr 0 [] 0)), (2, (.ptr 1 [] 0)), (4, (.row 2))], [(.box 25 (.dat 25 x0)), (.box 25 (.dat 25 x1)), (.row 22 x2)], 0⟩
noncomputable def s20_12 (x0 : List Dt) (x1 x2 : Int) (x3 x4 : Dt) (x5 x6 : List Dt) : St := ⟨tsOf [(1, (.ptr 0 [] 0)), (2, (.ptr 1 [] 0)), (9, (.row 2)), (10, (.row 3)), (54, (.dat 23 (.lst x0))), (55, (.dat 3 (.int x1))), (56, (.dat 3 (.int x2)))], [(.box 25 (.dat 25 x3)), (.box 25 (.dat 25 x4)), (.row 23 x5), (.map 76 x6)], 0⟩
noncomputable def s20_11 (x0 : Int) (x1 : List Dt) (x2 x3 : Int) (x4 x5 : Dt) (x6 x7 : List Dt) (x8 x9 : Dt) : St := ⟨tsOf [(1, (.ptr 0 [] 0)), (2, (.ptr 1 [] 0)), (9, (.row 2)), (10, (.row 3)), (11, (.dat 3 (.int x0))), (12, (.ptr 4 [] 0)), (13, (.ptr 5 [] 0)), (54, (.dat 23 (.lst x1))), (55, (.dat 3 (.int x2))), (56, (.dat 3 (.int x3)))], [(.box 25 (.dat 25 x4)), (.box 25 (.dat 25 x5)), (.row 23 x6), (.map 76 x7), (.box 38 (.dat 38 x8)), (.box 25 (.dat 25 x9))], 0⟩
noncomputable def s20_10 (x0 : Int) (x1 : List Dt) (x2 x3 : Int) (x4 : Bool) (x5 x6 : Dt) (x7 x8 : List Dt) (x9 x10 : Dt) : St := ⟨tsOf [(1, (.ptr 0 [] 0)), (2, (.ptr 1 [] 0)), (9, (.row 2)), (10, (.row 3)), (11, (.dat 3 (.int x0))), (12, (.ptr 4 [] 0)), (13, (.ptr 5 [] 0)), (54, (.dat 23 (.lst x1))), (55, (.dat 3 (.int x2))), (56, (.dat 3 (.int x3))), (86, (.dat 4 (.bool x4)))], [(.box 25 (.dat 25 x5)), (.box 25 (.dat 25 x6)), (.row 23 x7), (.map 76 x8), (.box 38 (.dat 38 x9)), (.box 25 (.dat 25 x10))], 0⟩
noncomputable def s20_13 (x0 x1 : Dt) (x2 : List Dt) : St := ⟨tsOf [(1, (.ptr 0 [] 0)), (2, (.ptr 1 [] 0)), (9, (.row 2))], [(.box 25 (.dat 25 x0)), (.box 25 (.dat 25 x1)), (.row 23 x2)], 0⟩
abbrev H20_1 (m M1 : Nat) (rec1 : List Dt → Int → Int → Dt → Dt → List Dt → Option (Dt × Bool)) : Prop := ∀ x0 x1 x2 x3 x4 x5, l20 jn m w20_0 [] M1 (s20_4 x0 x1 x2 x3 x4 x5) = rec1 x0 x1 x2 x3 x4 x5
theorem notation_rename_j4_eq m M1 rec1 (h1 : H20_1 m M1 rec1) x0 x1 x2 x3 x4 x5 : e20 jn m w20_1 [M1] (s20_4 x0 x1 x2 x3 x4 x5) = notation_rename_j4 m (notation_rename m) rec1 x0 x1 x2 x3 x4 x5 :=
  tre (g := fun J => (jj J 1 5 M1 (s20_4 x0 x1 (IntKind.wrap .i64 (x2 + 1)) x3 x4 x5) (l20 J m w20_0 [] M1))) (fun J => by kernel_rfl) (by simp only [jj_eq, h1]; rfl)
theorem notation_rename_j3_eq m M1 rec1 (h1 : H20_1 m M1 rec1) x0 x1 x2 x3 x4 x5 x6 x7 : e20 jn m w20_2 [M1] (s20_3 x0 x1 x2 x3 x4 x5 x6 x7) = notation_rename_j3 m (notation_rename m) rec1 x0 x1 x2 x3 x4 x5 x6 x7 :=
  tre (g := fun J => ((inL x6 x0).bind fun v3 =>
   ((x6[(Int.toNat x0)]?).bind fun v4 =>
   (jj J 0 11 0 (s20_4 x1 x2 x3 x4 x5 (List.set x6 (Int.toNat x0) x7)) (e20 J m w20_1 [M1]))))) (fun J => by kernel_rfl) (by simp only [jj_eq, notation_rename_j4_eq m M1 rec1 h1]; rfl)
theorem notation_rename_j2_eq m M1 rec1 (h1 : H20_1 m M1 rec1) x0 x1 x2 x3 x4 x5 : e20 jn m w20_3 [M1] (s20_4 x0 x1 x2 x3 x4 x5) = notation_rename_j2 m (notation_rename m) rec1 x0 x1 x2 x3 x4 x5 :=
  tre (g := fun J => ((idx x0 x2).bind fun v1 =>
   ((notation_rename m v1).bind fun r2 =>
   (bif (Bool.not r2.2) then
   some (kza2373, false)
   else
   (jj J 0 10 0 (s20_3 x2 x0 x1 x2 x3 x4 x5 r2.1) (e20 J m w20_2 [M1])))))) (fun J => by kernel_rfl) (by simp only [jj_eq, notation_rename_j3_eq m M1 rec1 h1]; rfl)
theorem notation_rename_j6_eq m x0 x1 : e20 jn m [1, 1] [] (s20_6 x0 x1) = notation_rename_j6 m (notation_rename m) x0 x1 :=
  tre (g := fun J => some (x0, true)) (fun J => by kernel_rfl) (by rfl)
theorem notation_rename_j5_eq m x0 x1 x2 : e20 jn m w20_4 [] (s20_5 x0 x1 x2) = notation_rename_j5 m (notation_rename m) x0 x1 x2 :=
  tre (g := fun J => (jj J 0 26 0 (s20_6 (Dt.agg [(Dt.int (Dt.I x0 0)), (Dt.int (Dt.I x0 1)), (Dt.str (Dt.S x0 2)), (Dt.lst x2), (Dt.lst (Dt.L x0 4))]) x1) (e20 J m [1, 1] []))) (fun J => by kernel_rfl) (by simp only [jj_eq, notation_rename_j6_eq m]; rfl)
theorem notation_rename_l1_eq m : ∀ M1 x0 x1 x2 x3 x4 x5, l20 jn m w20_0 [] M1 (s20_4 x0 x1 x2 x3 x4 x5) = notation_rename_l1 m (notation_rename m) M1 x0 x1 x2 x3 x4 x5
  | 0, _, _, _, _, _, _ => rfl
  | M1 + 1, x0, x1, x2, x3, x4, x5 =>
    trl (g := fun J => (bif (decide (x2 < x1)) then
   (jj J 0 6 0 (s20_4 x0 x1 x2 x3 x4 x5) (e20 J m w20_3 [M1]))
    else
   (jj J 0 12 0 (s20_5 x3 x4 x5) (e20 J m w20_4 [])))) (fun J => by kernel_rfl) (by simp only [jj_eq, notation_rename_j2_eq m M1 (notation_rename_l1 m (notation_rename m) M1) (notation_rename_l1_eq m M1), notation_rename_j5_eq m]; rfl)
theorem notation_rename_j0_eq m x0 x1 x2 x3 x4 x5 : e20 jn m w20_5 [] (s20_4 x0 x1 x2 x3 x4 x5) = notation_rename_j0 m (notation_rename m) x0 x1 x2 x3 x4 x5 :=
  tre (g := fun J => (jj J 1 5 (Nat.succ m) (s20_4 x0 x1 x2 x3 x4 x5) (l20 J m w20_0 [] (Nat.succ m)))) (fun J => by kernel_rfl) (by simp only [jj_eq, notation_rename_l1_eq m]; rfl)
abbrev H20_8 (m M8 : Nat) (rec8 : List Dt → Int → Int → Dt → Dt → List Dt → List Dt → Option (Dt × Bool)) : Prop := ∀ x0 x1 x2 x3 x4 x5 x6, l20 jn m w20_6 [] M8 (s20_12 x0 x1 x2 x3 x4 x5 x6) = rec8 x0 x1 x2 x3 x4 x5 x6
theorem notation_rename_j12_eq m M8 rec8 (h8 : H20_8 m M8 rec8) x0 x1 x2 x3 x4 x5 x6 : e20 jn m w20_7 [M8] (s20_12 x0 x1 x2 x3 x4 x5 x6) = notation_rename_j12 m (notation_rename m) rec8 x0 x1 x2 x3 x4 x5 x6 :=
  tre (g := fun J => (jj J 1 17 M8 (s20_12 x0 x1 (IntKind.wrap .i64 (x2 + 1)) x3 x4 x5 x6) (l20 J m w20_6 [] M8))) (fun J => by kernel_rfl) (by simp only [jj_eq, h8]; rfl)
theorem notation_rename_j11_eq m M8 rec8 (h8 : H20_8 m M8 rec8) x0 x1 x2 x3 x4 x5 x6 x7 x8 x9 : e20 jn m w20_8 [M8] (s20_11 x0 x1 x2 x3 x4 x5 x6 x7 x8 x9) = notation_rename_j11 m (notation_rename m) rec8 x0 x1 x2 x3 x4 x5 x6 x7 x8 x9 :=
  tre (g := fun J => ((strconv_Itoa x0).bind fun r8 =>
   ((inL x6 x0).bind fun v9 =>
   ((x6[(Int.toNat x0)]?).bind fun v10 =>
   (jj J 0 24 0 (s20_12 x1 x2 x3 x4 x5 (List.set x6 (Int.toNat x0) (Dt.agg [(Dt.str r8), x9])) (mput x7 (Dt.S x8 0) (Dt.bool true))) (e20 J m w20_7 [M8])))))) (fun J => by kernel_rfl) (by simp only [jj_eq, notation_rename_j12_eq m M8 rec8 h8]; rfl)
theorem notation_rename_j10_eq m M8 rec8 (h8 : H20_8 m M8 rec8) x0 x1 x2 x3 x4 x5 x6 x7 x8 x9 x10 : e20 jn m w20_9 [M8] (s20_10 x0 x1 x2 x3 x4 x5 x6 x7 x8 x9 x10) = notation_rename_j10 m (notation_rename m) rec8 x0 x1 x2 x3 x4 x5 x6 x7 x8 x9 x10 :=
  tre (g := fun J => (bif x4 then
   some (kza2373, false)
    else
   (jj J 0 22 0 (s20_11 x0 x1 x2 x3 x5 x6 x7 x8 x9 x10) (e20 J m w20_8 [M8])))) (fun J => by kernel_rfl) (by simp only [jj_eq, notation_rename_j11_eq m M8 rec8 h8]; rfl)
theorem notation_rename_j9_eq m M8 rec8 (h8 : H20_8 m M8 rec8) x0 x1 x2 x3 x4 x5 x6 : e20 jn m w20_10 [M8] (s20_12 x0 x1 x2 x3 x4 x5 x6) = notation_rename_j9 m (notation_rename m) rec8 x0 x1 x2 x3 x4 x5 x6 :=
  tre (g := fun J => ((idx x0 x2).bind fun v6 =>
   ((notation_rename m (Dt.fld v6 1)).bind fun r7 =>
   (bif (Bool.not r7.2) then
   (jj J 0 21 0 (s20_10 x2 x0 x1 x2 true x3 x4 x5 x6 v6 r7.1) (e20 J m w20_9 [M8]))
   else
   (bif (decide (128 < (ByteArray.size (Dt.S v6 0) : Int))) then
   (jj J 0 21 0 (s20_10 x2 x0 x1 x2 true x3 x4 x5 x6 v6 r7.1) (e20 J m w20_9 [M8]))
   else
   ((notation_isField m (Dt.S v6 0)).bind fun r11 =>
   (bif (Bool.not r11) then
   (jj J 0 21 0 (s20_10 x2 x0 x1 x2 true x3 x4 x5 x6 v6 r7.1) (e20 J m w20_9 [M8]))
   else
   (jj J 0 21 0 (s20_10 x2 x0 x1 x2 (Dt.toBool (mgetD x6 (Dt.S v6 0) (Dt.bool false))) x3 x4 x5 x6 v6 r7.1) (e20 J m w20_9 [M8]))))))))) (fun J => by kernel_rfl) (by simp only [jj_eq, notation_rename_j10_eq m M8 rec8 h8]; rfl)
theorem notation_rename_j13_eq m x0 x1 x2 : e20 jn m w20_11 [] (s20_13 x0 x1 x2) = notation_rename_j13 m (notation_rename m) x0 x1 x2 :=
  tre (g := fun J => (jj J 0 26 0 (s20_6 (Dt.agg [(Dt.int (Dt.I x0 0)), (Dt.int (Dt.I x0 1)), (Dt.str (Dt.S x0 2)), (Dt.lst (Dt.L x0 3)), (Dt.lst x2)]) x1) (e20 J m [1, 1] []))) (fun J => by kernel_rfl) (by simp only [jj_eq, notation_rename_j6_eq m]; rfl)
theorem notation_rename_l8_eq m : ∀ M8 x0 x1 x2 x3 x4 x5 x6, l20 jn m w20_6 [] M8 (s20_12 x0 x1 x2 x3 x4 x5 x6) = notation_rename_l8 m (notation_rename m) M8 x0 x1 x2 x3 x4 x5 x6
  | 0, _, _, _, _, _, _, _ => rfl
  | M8 + 1, x0, x1, x2, x3, x4, x5, x6 =>
    trl (g := fun J => (bif (decide (x2 < x1)) then
   (jj J 0 18 0 (s20_12 x0 x1 x2 x3 x4 x5 x6) (e20 J m w20_10 [M8]))
    else
   (jj J 0 25 0 (s20_13 x3 x4 x5) (e20 J m w20_11 [])))) (fun J => by kernel_rfl) (by simp only [jj_eq, notation_rename_j9_eq m M8 (notation_rename_l8 m (notation_rename m) M8) (notation_rename_l8_eq m M8), notation_rename_j13_eq m]; rfl)
theorem notation_rename_j7_eq m x0 x1 x2 x3 x4 x5 x6 : e20 jn m w20_12 [] (s20_12 x0 x1 x2 x3 x4 x5 x6) = notation_rename_j7 m (notation_rename m) x0 x1 x2 x3 x4 x5 x6 :=
  tre (g := fun J => (jj J 1 17 (Nat.succ m) (s20_12 x0 x1 x2 x3 x4 x5 x6) (l20 J m w20_6 [] (Nat.succ m)))) (fun J => by kernel_rfl) (by simp only [jj_eq, notation_rename_l8_eq m]; rfl)
theorem notation_rename_eq m a0 : e20 jn m [] [] ⟨[(.dat 25 a0)], [], 0⟩ = notation_rename (m + 1) a0 :=
  tre (g := fun J => (bif ((Dt.I a0 0) == 6) then
   ((mkL (List.length (Dt.L a0 3) : Int) (List.length (Dt.L a0 3) : Int) kza2373).bind fun v0 =>
   (jj J 0 5 0 (s20_4 (Dt.L a0 3) (List.length (Dt.L a0 3) : Int) 0 a0 kza2373 v0) (e20 J m w20_5 [])))
    else
   (bif ((Dt.I a0 0) == 5) then
   ((mkL (List.length (Dt.L a0 4) : Int) (List.length (Dt.L a0 4) : Int) kzcda49).bind fun v5 =>
   (jj J 0 17 0 (s20_12 (Dt.L a0 4) (List.length (Dt.L a0 4) : Int) 0 a0 kza2373 v5 []) (e20 J m w20_12 [])))
   else
   (jj J 0 26 0 (s20_6 a0 kza2373) (e20 J m [1, 1] []))))) (fun J => by kernel_rfl) (by simp only [jj_eq, notation_rename_j0_eq m, notation_rename_j7_eq m, notation_rename_j6_eq m]; rfl)
noncomputable def e35 (J : Nat → Nat → Nat → St → Option Int → Option Int) (m : Nat) (p ms : List Nat) (σ : St) := evAt Tryz.prog env (ct m) J (m + 1) 56 13 Tryz.f56 d5 p ms σ
noncomputable def l35 (J : Nat → Nat → Nat → St → Option Int → Option Int) (m : Nat) (p ms : List Nat) (M : Nat) (σ : St) := loopAt Tryz.prog env (ct m) J (m + 1) 56 13 Tryz.f56 d5 p ms M σ
noncomputable def s35_0 (x0 : Dt) (x1 : Int) : St := ⟨tsOf [(2, (.ptr 0 [] 0)), (3, (.ptr 1 [] 0))], [(.box 25 (.dat 25 x0)), (.box 3 (.dat 3 (.int x1)))], 0⟩
theorem value_depth_j0_eq m x0 x1 : e35 jn m [1, 1] [] (s35_0 x0 x1) = value_depth_j0 m (i46 m) x0 x1 :=
  tre (g := fun J => ((i46 m x0 0 x1).bind fun r0 =>
   some (IntKind.wrap .i64 (1 + r0.1)))) (fun J => by kernel_rfl) (by rfl)
theorem value_depth_eq m a0 a1 : e35 jn m [] [] ⟨[(.dat 25 a0), (.dat 3 (.int a1))], [], 0⟩ = value_depth (m + 1) a0 a1 :=
  tre (g := fun J => (bif (a1 == 1) then
   some 1
    else
   (jj J 0 3 0 (s35_0 a0 a1) (e35 J m [1, 1] [])))) (fun J => by kernel_rfl) (by simp only [jj_eq, value_depth_j0_eq m]; rfl)
def w46_3 : List Nat := [1, 1, 0, 1, 0, 1]
def w46_0 : List Nat := w46_3 ++ [0]
def w46_7 : List Nat := [1, 1, 0, 1, 1, 1, 0, 1]
def w46_4 : List Nat := w46_7 ++ [0]
def w46_2 : List Nat := w46_0 ++ [0, 1, 1]
def w46_1 : List Nat := w46_2 ++ [1]
def w46_6 : List Nat := w46_4 ++ [0, 1, 1]
def w46_5 : List Nat := w46_6 ++ [1]
noncomputable def e46 (J : Nat → Nat → Nat → St → Option (Int × Int) → Option (Int × Int)) (m : Nat) (p ms : List Nat) (σ : St) := evAt Tryz.prog env (ct m) J (m + 1) 79 39 Tryz.f79 d42 p ms σ
noncomputable def l46 (J : Nat → Nat → Nat → St → Option (Int × Int) → Option (Int × Int)) (m : Nat) (p ms : List Nat) (M : Nat) (σ : St) := loopAt Tryz.prog env (ct m) J (m + 1) 79 39 Tryz.f79 d42 p ms M σ
noncomputable def s46_3 (x0 : List Dt) (x1 x2 x3 x4 : Int) : St := ⟨tsOf [(1, (.fn 81 [(.ptr 0 [] 0), (.ptr 1 [] 0)])), (13, (.dat 22 (.lst x0))), (14, (.dat 3 (.int x1))), (15, (.dat 3 (.int x2)))], [(.box 3 (.dat 3 (.int x3))), (.box 3 (.dat 3 (.int x4)))], 2⟩
noncomputable def s46_7 (x0 : List Dt) (x1 x2 x3 x4 : Int) : St := ⟨tsOf [(1, (.fn 81 [(.ptr 0 [] 0), (.ptr 1 [] 0)])), (27, (.dat 23 (.lst x0))), (28, (.dat 3 (.int x1))), (29, (.dat 3 (.int x2)))], [(.box 3 (.dat 3 (.int x3))), (.box 3 (.dat 3 (.int x4)))], 2⟩
abbrev H46_1 (m M1 : Nat) (rec1 : List Dt → Int → Int → Int → Int → Option (Int × Int)) : Prop := ∀ x0 x1 x2 x3 x4, l46 jn m w46_0 [] M1 (s46_3 x0 x1 x2 x3 x4) = rec1 x0 x1 x2 x3 x4
theorem i46_j3_eq m M1 rec1 (h1 : H46_1 m M1 rec1) x0 x1 x2 x3 x4 : e46 jn m w46_1 [M1] (s46_3 x0 x1 x2 x3 x4) = i46_j3 m (i47 m) rec1 x0 x1 x2 x3 x4 :=
  tre (g := fun J => (jj J 1 4 M1 (s46_3 x0 x1 (IntKind.wrap .i64 (x2 + 1)) x3 x4) (l46 J m w46_0 [] M1))) (fun J => by kernel_rfl) (by simp only [jj_eq, h1]; rfl)
theorem i46_j2_eq m M1 rec1 (h1 : H46_1 m M1 rec1) x0 x1 x2 x3 x4 : e46 jn m w46_2 [M1] (s46_3 x0 x1 x2 x3 x4) = i46_j2 m (i47 m) rec1 x0 x1 x2 x3 x4 :=
  tre (g := fun J => ((idx x0 x2).bind fun v0 =>
   ((i47 m v0 x3 x4).bind fun r1 =>
   (bif (Bool.not r1.1) then
   some (r1.2.1, r1.2.2)
   else
   (jj J 0 7 0 (s46_3 x0 x1 x2 r1.2.1 r1.2.2) (e46 J m w46_1 [M1])))))) (fun J => by kernel_rfl) (by simp only [jj_eq, i46_j3_eq m M1 rec1 h1]; rfl)
theorem i46_l1_eq m : ∀ M1 x0 x1 x2 x3 x4, l46 jn m w46_0 [] M1 (s46_3 x0 x1 x2 x3 x4) = i46_l1 m (i47 m) M1 x0 x1 x2 x3 x4
  | 0, _, _, _, _, _ => rfl
  | M1 + 1, x0, x1, x2, x3, x4 =>
    trl (g := fun J => (bif (decide (x2 < x1)) then
   (jj J 0 5 0 (s46_3 x0 x1 x2 x3 x4) (e46 J m w46_2 [M1]))
    else
   some (x3, x4))) (fun J => by kernel_rfl) (by simp only [jj_eq, i46_j2_eq m M1 (i46_l1 m (i47 m) M1) (i46_l1_eq m M1)]; rfl)
theorem i46_j0_eq m x0 x1 x2 x3 x4 : e46 jn m w46_3 [] (s46_3 x0 x1 x2 x3 x4) = i46_j0 m (i47 m) x0 x1 x2 x3 x4 :=
  tre (g := fun J => (jj J 1 4 (Nat.succ m) (s46_3 x0 x1 x2 x3 x4) (l46 J m w46_0 [] (Nat.succ m)))) (fun J => by kernel_rfl) (by simp only [jj_eq, i46_l1_eq m]; rfl)
abbrev H46_5 (m M5 : Nat) (rec5 : List Dt → Int → Int → Int → Int → Option (Int × Int)) : Prop := ∀ x0 x1 x2 x3 x4, l46 jn m w46_4 [] M5 (s46_7 x0 x1 x2 x3 x4) = rec5 x0 x1 x2 x3 x4
theorem i46_j7_eq m M5 rec5 (h5 : H46_5 m M5 rec5) x0 x1 x2 x3 x4 : e46 jn m w46_5 [M5] (s46_7 x0 x1 x2 x3 x4) = i46_j7 m (i47 m) rec5 x0 x1 x2 x3 x4 :=
  tre (g := fun J => (jj J 1 10 M5 (s46_7 x0 x1 (IntKind.wrap .i64 (x2 + 1)) x3 x4) (l46 J m w46_4 [] M5))) (fun J => by kernel_rfl) (by simp only [jj_eq, h5]; rfl)
theorem i46_j6_eq m M5 rec5 (h5 : H46_5 m M5 rec5) x0 x1 x2 x3 x4 : e46 jn m w46_6 [M5] (s46_7 x0 x1 x2 x3 x4) = i46_j6 m (i47 m) rec5 x0 x1 x2 x3 x4 :=
  tre (g := fun J => ((idx x0 x2).bind fun v2 =>
   ((i47 m (Dt.fld v2 1) x3 x4).bind fun r3 =>
   (bif (Bool.not r3.1) then
   some (r3.2.1, r3.2.2)
   else
   (jj J 0 13 0 (s46_7 x0 x1 x2 r3.2.1 r3.2.2) (e46 J m w46_5 [M5])))))) (fun J => by kernel_rfl) (by simp only [jj_eq, i46_j7_eq m M5 rec5 h5]; rfl)
theorem i46_l5_eq m : ∀ M5 x0 x1 x2 x3 x4, l46 jn m w46_4 [] M5 (s46_7 x0 x1 x2 x3 x4) = i46_l5 m (i47 m) M5 x0 x1 x2 x3 x4
  | 0, _, _, _, _, _ => rfl
  | M5 + 1, x0, x1, x2, x3, x4 =>
    trl (g := fun J => (bif (decide (x2 < x1)) then
   (jj J 0 11 0 (s46_7 x0 x1 x2 x3 x4) (e46 J m w46_6 [M5]))
    else
   some (x3, x4))) (fun J => by kernel_rfl) (by simp only [jj_eq, i46_j6_eq m M5 (i46_l5 m (i47 m) M5) (i46_l5_eq m M5)]; rfl)
theorem i46_j4_eq m x0 x1 x2 x3 x4 : e46 jn m w46_7 [] (s46_7 x0 x1 x2 x3 x4) = i46_j4 m (i47 m) x0 x1 x2 x3 x4 :=
  tre (g := fun J => (jj J 1 10 (Nat.succ m) (s46_7 x0 x1 x2 x3 x4) (l46 J m w46_4 [] (Nat.succ m)))) (fun J => by kernel_rfl) (by simp only [jj_eq, i46_l5_eq m]; rfl)
theorem i46_eq m a0 a1 a2 : e46 jn m [] [] ⟨[(.dat 25 a0), (.fn 81 [(.ptr 0 [] 0), (.ptr 1 [] 0)])], [(.box 3 (.dat 3 (.int a1))), (.box 3 (.dat 3 (.int a2)))], 2⟩ = i46 (m + 1) a0 a1 a2 :=
  tre (g := fun J => (bif ((Dt.I a0 0) == 6) then
   (jj J 0 4 0 (s46_3 (Dt.L a0 3) (List.length (Dt.L a0 3) : Int) 0 a1 a2) (e46 J m w46_3 []))
    else
   (bif ((Dt.I a0 0) == 5) then
   (jj J 0 10 0 (s46_7 (Dt.L a0 4) (List.length (Dt.L a0 4) : Int) 0 a1 a2) (e46 J m w46_7 []))
   else
   some (a1, a2)))) (fun J => by kernel_rfl) (by simp only [jj_eq, i46_j0_eq m, i46_j4_eq m]; rfl)
noncomputable def e47 (J : Nat → Nat → Nat → St → Option (Bool × Int × Int) → Option (Bool × Int × Int)) (m : Nat) (p ms : List Nat) (σ : St) := evAt Tryz.prog env (ct m) J (m + 1) 81 15 Tryz.f81 d43 p ms σ
noncomputable def l47 (J : Nat → Nat → Nat → St → Option (Bool × Int × Int) → Option (Bool × Int × Int)) (m : Nat) (p ms : List Nat) (M : Nat) (σ : St) := loopAt Tryz.prog env (ct m) J (m + 1) 81 15 Tryz.f81 d43 p ms M σ
theorem i47_eq m a0 a1 a2 : e47 jn m [] [] ⟨[(.dat 25 a0), (.ptr 0 [] 0), (.ptr 1 [] 0)], [(.box 3 (.dat 3 (.int a1))), (.box 3 (.dat 3 (.int a2)))], 2⟩ = i47 (m + 1) a0 a1 a2 :=
  tre (g := fun J => ((value_depth m a0 (IntKind.wrap .i64 (a2 - 1))).bind fun r0 =>
   some ((decide ((bif (decide (a1 < r0)) then r0 else a1) < (IntKind.wrap .i64 (a2 - 1)))), (bif (decide (a1 < r0)) then r0 else a1), a2))) (fun J => by kernel_rfl) (by rfl)
noncomputable def e22 (J : Nat → Nat → Nat → St → Option Int → Option Int) (m : Nat) (p ms : List Nat) (σ : St) := evAt Tryz.prog env (ct m) J (m + 1) 27 5 Tryz.f27 d5 p ms σ
noncomputable def l22 (J : Nat → Nat → Nat → St → Option Int → Option Int) (m : Nat) (p ms : List Nat) (M : Nat) (σ : St) := loopAt Tryz.prog env (ct m) J (m + 1) 27 5 Tryz.f27 d5 p ms M σ
theorem value_Depth_eq m a0 : e22 jn m [] [] ⟨[(.dat 25 a0)], [], 0⟩ = value_Depth (m + 1) a0 :=
  tre (g := fun J => ((value_depth m a0 17).bind fun r0 =>
   some r0)) (fun J => by kernel_rfl) (by rfl)
def w38_2 : List Nat := [1, 0, 1, 0, 0, 1]
def w38_0 : List Nat := w38_2 ++ [1]
def w38_1 : List Nat := w38_2 ++ [0, 0, 1]
noncomputable def e38 (J : Nat → Nat → Nat → St → Option Bool → Option Bool) (m : Nat) (p ms : List Nat) (σ : St) := evAt Tryz.prog env (ct m) J (m + 1) 66 28 Tryz.f66 d1 p ms σ
noncomputable def l38 (J : Nat → Nat → Nat → St → Option Bool → Option Bool) (m : Nat) (p ms : List Nat) (M : Nat) (σ : St) := loopAt Tryz.prog env (ct m) J (m + 1) 66 28 Tryz.f66 d1 p ms M σ
noncomputable def s38_4 (x0 : ByteArray) (x1 : Int) : St := ⟨tsOf [(0, (.dat 9 (.str x0))), (3, (.dat 3 (.int x1)))], [], 0⟩
noncomputable def s38_3 (x0 : ByteArray) (x1 : Int) (x2 : Bool) : St := ⟨tsOf [(0, (.dat 9 (.str x0))), (3, (.dat 3 (.int x1))), (19, (.dat 4 (.bool x2)))], [], 0⟩
noncomputable def s38_5 (x0 : ByteArray) : St := ⟨tsOf [(0, (.dat 9 (.str x0)))], [], 0⟩
abbrev H38_1 (m M1 : Nat) (rec1 : ByteArray → Int → Option Bool) : Prop := ∀ x0 x1, l38 jn m [1, 0, 1, 0] [] M1 (s38_4 x0 x1) = rec1 x0 x1
theorem ref05_Label_j4_eq m M1 rec1 (h1 : H38_1 m M1 rec1) x0 x1 : e38 jn m w38_0 [M1] (s38_4 x0 x1) = ref05_Label_j4 m rec1 x0 x1 :=
  tre (g := fun J => (jj J 1 2 M1 (s38_4 x0 (IntKind.wrap .i64 (x1 + 1))) (l38 J m [1, 0, 1, 0] [] M1))) (fun J => by kernel_rfl) (by simp only [jj_eq, h1]; rfl)
theorem ref05_Label_j3_eq m M1 rec1 (h1 : H38_1 m M1 rec1) x0 x1 x2 : e38 jn m w38_1 [M1] (s38_3 x0 x1 x2) = ref05_Label_j3 m rec1 x0 x1 x2 :=
  tre (g := fun J => (bif x2 then
   some false
    else
   (jj J 0 3 0 (s38_4 x0 x1) (e38 J m w38_0 [M1])))) (fun J => by kernel_rfl) (by simp only [jj_eq, ref05_Label_j4_eq m M1 rec1 h1]; rfl)
theorem ref05_Label_j2_eq m M1 rec1 (h1 : H38_1 m M1 rec1) x0 x1 : e38 jn m w38_2 [M1] (s38_4 x0 x1) = ref05_Label_j2 m rec1 x0 x1 :=
  tre (g := fun J => ((idxS x0 x1).bind fun v0 =>
   (bif (decide (v0 < 32)) then
   (jj J 0 5 0 (s38_3 x0 x1 true) (e38 J m w38_1 [M1]))
   else
   ((idxS x0 x1).bind fun v1 =>
   (jj J 0 5 0 (s38_3 x0 x1 (decide (126 < v1))) (e38 J m w38_1 [M1])))))) (fun J => by kernel_rfl) (by simp only [jj_eq, ref05_Label_j3_eq m M1 rec1 h1]; rfl)
theorem ref05_Label_j5_eq m x0 : e38 jn m [1, 1] [] (s38_5 x0) = ref05_Label_j5 m x0 :=
  tre (g := fun J => (bif (decide (1 ≤ (ByteArray.size x0 : Int))) then
   some (decide ((ByteArray.size x0 : Int) ≤ 128))
    else
   some false)) (fun J => by kernel_rfl) (by rfl)
theorem ref05_Label_l1_eq m : ∀ M1 x0 x1, l38 jn m [1, 0, 1, 0] [] M1 (s38_4 x0 x1) = ref05_Label_l1 m M1 x0 x1
  | 0, _, _ => rfl
  | M1 + 1, x0, x1 =>
    trl (g := fun J => (bif (decide (x1 < (ByteArray.size x0 : Int))) then
   (jj J 0 4 0 (s38_4 x0 x1) (e38 J m w38_2 [M1]))
    else
   (jj J 0 6 0 (s38_5 x0) (e38 J m [1, 1] [])))) (fun J => by kernel_rfl) (by simp only [jj_eq, ref05_Label_j2_eq m M1 (ref05_Label_l1 m M1) (ref05_Label_l1_eq m M1), ref05_Label_j5_eq m]; rfl)
theorem ref05_Label_j0_eq m x0 x1 : e38 jn m [1, 0, 1] [] (s38_4 x0 x1) = ref05_Label_j0 m x0 x1 :=
  tre (g := fun J => (jj J 1 2 (Nat.succ m) (s38_4 x0 x1) (l38 J m [1, 0, 1, 0] [] (Nat.succ m)))) (fun J => by kernel_rfl) (by simp only [jj_eq, ref05_Label_l1_eq m]; rfl)
theorem ref05_Label_eq m a0 : e38 jn m [] [] ⟨[(.dat 9 (.str a0))], [], 0⟩ = ref05_Label (m + 1) a0 :=
  tre (g := fun J => (jj J 0 2 0 (s38_4 a0 0) (e38 J m [1, 0, 1] []))) (fun J => by kernel_rfl) (by simp only [jj_eq, ref05_Label_j0_eq m]; rfl)
noncomputable def e41 (J : Nat → Nat → Nat → St → Option ByteArray → Option ByteArray) (m : Nat) (p ms : List Nat) (σ : St) := evAt Tryz.prog env (ct m) J (m + 1) 68 7 Tryz.f68 d11 p ms σ
noncomputable def l41 (J : Nat → Nat → Nat → St → Option ByteArray → Option ByteArray) (m : Nat) (p ms : List Nat) (M : Nat) (σ : St) := loopAt Tryz.prog env (ct m) J (m + 1) 68 7 Tryz.f68 d11 p ms M σ
theorem ref05_digit_eq m a0 : e41 jn m [] [] ⟨[(.dat 3 (.int a0))], [], 0⟩ = ref05_digit (m + 1) a0 :=
  tre (g := fun J => ((cutS (ByteArray.mk (List.toArray [48, 49, 50, 51, 52, 53, 54, 55, 56, 57, 97, 98, 99, 100, 101, 102])) a0 (IntKind.wrap .i64 (a0 + 1))).bind fun v0 =>
   some v0)) (fun J => by kernel_rfl) (by rfl)
def w28_4 : List Nat := [1, 1, 1, 1, 1]
def w28_3 : List Nat := [1, 1, 1, 1, 1, 1]
def w28_5 : List Nat := [1, 1, 1, 1, 0, 1]
def w28_0 : List Nat := w28_5 ++ [0]
def w28_2 : List Nat := w28_0 ++ [0, 1]
def w28_1 : List Nat := w28_2 ++ [1]
noncomputable def e28 (J : Nat → Nat → Nat → St → Option ByteArray → Option ByteArray) (m : Nat) (p ms : List Nat) (σ : St) := evAt Tryz.prog env (ct m) J (m + 1) 39 37 Tryz.f39 d11 p ms σ
noncomputable def l28 (J : Nat → Nat → Nat → St → Option ByteArray → Option ByteArray) (m : Nat) (p ms : List Nat) (M : Nat) (σ : St) := loopAt Tryz.prog env (ct m) J (m + 1) 39 37 Tryz.f39 d11 p ms M σ
noncomputable def s28_4 (x0 x1 : Int) (x2 : ByteArray) (x3 : Int) : St := ⟨tsOf [(0, (.dat 3 (.int x0))), (3, (.dat 79 (.int x1))), (4, (.dat 9 (.str x2))), (5, (.dat 3 (.int x3)))], [], 0⟩
noncomputable def s28_6 (x0 : ByteArray) : St := ⟨tsOf [(4, (.dat 9 (.str x0)))], [], 0⟩
noncomputable def s28_5 (x0 : Int) (x1 : ByteArray) : St := ⟨tsOf [(0, (.dat 3 (.int x0))), (4, (.dat 9 (.str x1)))], [], 0⟩
noncomputable def s28_0 (x0 x1 : Int) : St := ⟨tsOf [(0, (.dat 3 (.int x0))), (3, (.dat 79 (.int x1)))], [], 0⟩
abbrev H28_2 (m M2 : Nat) (rec2 : Int → Int → ByteArray → Int → Option ByteArray) : Prop := ∀ x0 x1 x2 x3, l28 jn m w28_0 [] M2 (s28_4 x0 x1 x2 x3) = rec2 x0 x1 x2 x3
theorem ref05_Decimal_j4_eq m M2 rec2 (h2 : H28_2 m M2 rec2) x0 x1 x2 x3 : e28 jn m w28_1 [M2] (s28_4 x0 x1 x2 x3) = ref05_Decimal_j4 m rec2 x0 x1 x2 x3 :=
  tre (g := fun J => (jj J 1 6 M2 (s28_4 x0 x1 x2 (IntKind.wrap .i64 (x3 + 1))) (l28 J m w28_0 [] M2))) (fun J => by kernel_rfl) (by simp only [jj_eq, h2]; rfl)
theorem ref05_Decimal_j3_eq m M2 rec2 (h2 : H28_2 m M2 rec2) x0 x1 x2 x3 : e28 jn m w28_2 [M2] (s28_4 x0 x1 x2 x3) = ref05_Decimal_j3 m rec2 x0 x1 x2 x3 :=
  tre (g := fun J => ((ref05_digit m (IntKind.wrap .i64 (Int.tmod (IntKind.wrap IntKind.u64 (Int.tdiv x1 10)) 10))).bind fun r1 =>
   (bif (Nat.ble ((ByteArray.size r1) + (ByteArray.size x2)) 1152921504606846976) then
   (jj J 0 7 0 (s28_4 x0 (IntKind.wrap IntKind.u64 (Int.tdiv x1 10)) (r1 ++ x2) x3) (e28 J m w28_1 [M2]))
   else
   none))) (fun J => by kernel_rfl) (by simp only [jj_eq, ref05_Decimal_j4_eq m M2 rec2 h2]; rfl)
theorem ref05_Decimal_j6_eq m x0 : e28 jn m w28_3 [] (s28_6 x0) = ref05_Decimal_j6 m x0 :=
  tre (g := fun J => some x0) (fun J => by kernel_rfl) (by rfl)
theorem ref05_Decimal_j5_eq m x0 x1 : e28 jn m w28_4 [] (s28_5 x0 x1) = ref05_Decimal_j5 m x0 x1 :=
  tre (g := fun J => (bif (decide (x0 < 0)) then
   (bif (Nat.ble (1 + (ByteArray.size x1)) 1152921504606846976) then
   (jj J 0 12 0 (s28_6 ((ByteArray.mk (List.toArray [45])) ++ x1)) (e28 J m w28_3 []))
   else
   none)
    else
   (jj J 0 12 0 (s28_6 x1) (e28 J m w28_3 [])))) (fun J => by kernel_rfl) (by simp only [jj_eq, ref05_Decimal_j6_eq m]; rfl)
theorem ref05_Decimal_l2_eq m : ∀ M2 x0 x1 x2 x3, l28 jn m w28_0 [] M2 (s28_4 x0 x1 x2 x3) = ref05_Decimal_l2 m M2 x0 x1 x2 x3
  | 0, _, _, _, _ => rfl
  | M2 + 1, x0, x1, x2, x3 =>
    trl (g := fun J => (bif (decide (x3 < 20)) then
   (bif (decide (10 ≤ x1)) then
   (jj J 0 8 0 (s28_4 x0 x1 x2 x3) (e28 J m w28_2 [M2]))
   else
   (jj J 0 10 0 (s28_5 x0 x2) (e28 J m w28_4 [])))
    else
   (jj J 0 10 0 (s28_5 x0 x2) (e28 J m w28_4 [])))) (fun J => by kernel_rfl) (by simp only [jj_eq, ref05_Decimal_j3_eq m M2 (ref05_Decimal_l2 m M2) (ref05_Decimal_l2_eq m M2), ref05_Decimal_j5_eq m]; rfl)
theorem ref05_Decimal_j1_eq m x0 x1 x2 x3 : e28 jn m w28_5 [] (s28_4 x0 x1 x2 x3) = ref05_Decimal_j1 m x0 x1 x2 x3 :=
  tre (g := fun J => (jj J 1 6 (Nat.succ m) (s28_4 x0 x1 x2 x3) (l28 J m w28_0 [] (Nat.succ m)))) (fun J => by kernel_rfl) (by simp only [jj_eq, ref05_Decimal_l2_eq m]; rfl)
theorem ref05_Decimal_j0_eq m x0 x1 : e28 jn m [1, 1, 1] [] (s28_0 x0 x1) = ref05_Decimal_j0 m x0 x1 :=
  tre (g := fun J => ((ref05_digit m (IntKind.wrap .i64 (Int.tmod x1 10))).bind fun r0 =>
   (jj J 0 6 0 (s28_4 x0 x1 r0 0) (e28 J m w28_5 [])))) (fun J => by kernel_rfl) (by simp only [jj_eq, ref05_Decimal_j1_eq m]; rfl)
theorem ref05_Decimal_eq m a0 : e28 jn m [] [] ⟨[(.dat 3 (.int a0))], [], 0⟩ = ref05_Decimal (m + 1) a0 :=
  tre (g := fun J => (bif (decide (a0 < 0)) then
   (jj J 0 4 0 (s28_0 a0 (IntKind.wrap IntKind.u64 (0 - (IntKind.wrap IntKind.u64 a0)))) (e28 J m [1, 1, 1] []))
    else
   (jj J 0 4 0 (s28_0 a0 (IntKind.wrap IntKind.u64 a0)) (e28 J m [1, 1, 1] [])))) (fun J => by kernel_rfl) (by simp only [jj_eq, ref05_Decimal_j0_eq m]; rfl)
def w29_0 : List Nat := [1, 1, 0, 1, 0]
def w29_4 : List Nat := [1, 1, 0, 1, 0, 0, 1]
def w29_1 : List Nat := w29_4 ++ [1]
def w29_3 : List Nat := w29_4 ++ [0, 0, 0, 1]
def w29_2 : List Nat := w29_3 ++ [1, 1, 1, 1, 1, 1, 1, 1]
noncomputable def e29 (J : Nat → Nat → Nat → St → Option ByteArray → Option ByteArray) (m : Nat) (p ms : List Nat) (σ : St) := evAt Tryz.prog env (ct m) J (m + 1) 40 87 Tryz.f40 d11 p ms σ
noncomputable def l29 (J : Nat → Nat → Nat → St → Option ByteArray → Option ByteArray) (m : Nat) (p ms : List Nat) (M : Nat) (σ : St) := loopAt Tryz.prog env (ct m) J (m + 1) 40 87 Tryz.f40 d11 p ms M σ
noncomputable def s29_4 (x0 x1 : ByteArray) (x2 : Int) : St := ⟨tsOf [(0, (.dat 9 (.str x0))), (3, (.dat 9 (.str x1))), (4, (.dat 3 (.int x2)))], [], 0⟩
noncomputable def s29_5 (x0 x1 : ByteArray) (x2 : Int) (x3 : Bool) : St := ⟨tsOf [(0, (.dat 9 (.str x0))), (3, (.dat 9 (.str x1))), (4, (.dat 3 (.int x2))), (58, (.dat 4 (.bool x3)))], [], 0⟩
noncomputable def s29_3 (x0 x1 : ByteArray) (x2 : Int) (x3 : Bool) : St := ⟨tsOf [(0, (.dat 9 (.str x0))), (3, (.dat 9 (.str x1))), (4, (.dat 3 (.int x2))), (18, (.dat 4 (.bool x3)))], [], 0⟩
noncomputable def s29_6 (x0 : ByteArray) : St := ⟨tsOf [(3, (.dat 9 (.str x0)))], [], 0⟩
abbrev H29_1 (m M1 : Nat) (rec1 : ByteArray → ByteArray → Int → Option ByteArray) : Prop := ∀ x0 x1 x2, l29 jn m w29_0 [] M1 (s29_4 x0 x1 x2) = rec1 x0 x1 x2
theorem ref05_Quote_j4_eq m M1 rec1 (h1 : H29_1 m M1 rec1) x0 x1 x2 : e29 jn m w29_1 [M1] (s29_4 x0 x1 x2) = ref05_Quote_j4 m rec1 x0 x1 x2 :=
  tre (g := fun J => (jj J 1 3 M1 (s29_4 x0 x1 (IntKind.wrap .i64 (x2 + 1))) (l29 J m w29_0 [] M1))) (fun J => by kernel_rfl) (by simp only [jj_eq, h1]; rfl)
theorem ref05_Quote_j5_eq m M1 rec1 (h1 : H29_1 m M1 rec1) x0 x1 x2 x3 : e29 jn m w29_2 [M1] (s29_5 x0 x1 x2 x3) = ref05_Quote_j5 m rec1 x0 x1 x2 x3 :=
  tre (g := fun J => (bif x3 then
   (bif (Nat.ble ((ByteArray.size x1) + 4) 1152921504606846976) then
   ((idxS x0 x2).bind fun v6 =>
   ((ref05_digit m (IntKind.wrap .i64 (Int.tdiv (IntKind.wrap .i64 v6) 16))).bind fun r7 =>
   (bif (Nat.ble ((ByteArray.size (x1 ++ (ByteArray.mk (List.toArray [92, 117, 48, 48])))) + (ByteArray.size r7)) 1152921504606846976) then
   ((idxS x0 x2).bind fun v8 =>
   ((ref05_digit m (Int.tmod (IntKind.wrap .i64 v8) 16)).bind fun r9 =>
   (bif (Nat.ble ((ByteArray.size ((x1 ++ (ByteArray.mk (List.toArray [92, 117, 48, 48]))) ++ r7)) + (ByteArray.size r9)) 1152921504606846976) then
   (jj J 0 4 0 (s29_4 x0 (((x1 ++ (ByteArray.mk (List.toArray [92, 117, 48, 48]))) ++ r7) ++ r9) x2) (e29 J m w29_1 [M1]))
   else
   none)))
   else
   none)))
   else
   none)
    else
   ((cutS x0 x2 (IntKind.wrap .i64 (x2 + 1))).bind fun v10 =>
   (bif (Nat.ble ((ByteArray.size x1) + (ByteArray.size v10)) 1152921504606846976) then
   (jj J 0 4 0 (s29_4 x0 (x1 ++ v10) x2) (e29 J m w29_1 [M1]))
   else
   none)))) (fun J => by kernel_rfl) (by simp only [jj_eq, ref05_Quote_j4_eq m M1 rec1 h1]; rfl)
theorem ref05_Quote_j3_eq m M1 rec1 (h1 : H29_1 m M1 rec1) x0 x1 x2 x3 : e29 jn m w29_3 [M1] (s29_3 x0 x1 x2 x3) = ref05_Quote_j3 m rec1 x0 x1 x2 x3 :=
  tre (g := fun J => (bif x3 then
   (bif (Nat.ble ((ByteArray.size x1) + 1) 1152921504606846976) then
   ((cutS x0 x2 (IntKind.wrap .i64 (x2 + 1))).bind fun v1 =>
   (bif (Nat.ble ((ByteArray.size (x1 ++ (ByteArray.mk (List.toArray [92])))) + (ByteArray.size v1)) 1152921504606846976) then
   (jj J 0 4 0 (s29_4 x0 ((x1 ++ (ByteArray.mk (List.toArray [92]))) ++ v1) x2) (e29 J m w29_1 [M1]))
   else
   none))
   else
   none)
    else
   ((idxS x0 x2).bind fun v2 =>
   (bif (v2 == 10) then
   (bif (Nat.ble ((ByteArray.size x1) + 2) 1152921504606846976) then
   (jj J 0 4 0 (s29_4 x0 (x1 ++ (ByteArray.mk (List.toArray [92, 110]))) x2) (e29 J m w29_1 [M1]))
   else
   none)
   else
   ((idxS x0 x2).bind fun v3 =>
   (bif (v3 == 13) then
   (bif (Nat.ble ((ByteArray.size x1) + 2) 1152921504606846976) then
   (jj J 0 4 0 (s29_4 x0 (x1 ++ (ByteArray.mk (List.toArray [92, 114]))) x2) (e29 J m w29_1 [M1]))
   else
   none)
   else
   ((idxS x0 x2).bind fun v4 =>
   (bif (v4 == 9) then
   (bif (Nat.ble ((ByteArray.size x1) + 2) 1152921504606846976) then
   (jj J 0 4 0 (s29_4 x0 (x1 ++ (ByteArray.mk (List.toArray [92, 116]))) x2) (e29 J m w29_1 [M1]))
   else
   none)
   else
   ((idxS x0 x2).bind fun v5 =>
   (bif (decide (v5 < 32)) then
   (jj J 0 15 0 (s29_5 x0 x1 x2 true) (e29 J m w29_2 [M1]))
   else
   ((idxS x0 x2).bind fun v11 =>
   (jj J 0 15 0 (s29_5 x0 x1 x2 (v11 == 127)) (e29 J m w29_2 [M1]))))))))))))) (fun J => by kernel_rfl) (by simp only [jj_eq, ref05_Quote_j4_eq m M1 rec1 h1, ref05_Quote_j5_eq m M1 rec1 h1]; rfl)
theorem ref05_Quote_j2_eq m M1 rec1 (h1 : H29_1 m M1 rec1) x0 x1 x2 : e29 jn m w29_4 [M1] (s29_4 x0 x1 x2) = ref05_Quote_j2 m rec1 x0 x1 x2 :=
  tre (g := fun J => ((idxS x0 x2).bind fun v0 =>
   (bif (v0 == 34) then
   (jj J 0 7 0 (s29_3 x0 x1 x2 true) (e29 J m w29_3 [M1]))
   else
   ((idxS x0 x2).bind fun v12 =>
   (jj J 0 7 0 (s29_3 x0 x1 x2 (v12 == 92)) (e29 J m w29_3 [M1])))))) (fun J => by kernel_rfl) (by simp only [jj_eq, ref05_Quote_j3_eq m M1 rec1 h1]; rfl)
theorem ref05_Quote_j6_eq m x0 : e29 jn m [1, 1, 1] [] (s29_6 x0) = ref05_Quote_j6 m x0 :=
  tre (g := fun J => (bif (Nat.ble ((ByteArray.size x0) + 1) 1152921504606846976) then
   some (x0 ++ (ByteArray.mk (List.toArray [34])))
    else
   none)) (fun J => by kernel_rfl) (by rfl)
theorem ref05_Quote_l1_eq m : ∀ M1 x0 x1 x2, l29 jn m w29_0 [] M1 (s29_4 x0 x1 x2) = ref05_Quote_l1 m M1 x0 x1 x2
  | 0, _, _, _ => rfl
  | M1 + 1, x0, x1, x2 =>
    trl (g := fun J => (bif (decide (x2 < (ByteArray.size x0 : Int))) then
   (jj J 0 6 0 (s29_4 x0 x1 x2) (e29 J m w29_4 [M1]))
    else
   (jj J 0 16 0 (s29_6 x1) (e29 J m [1, 1, 1] [])))) (fun J => by kernel_rfl) (by simp only [jj_eq, ref05_Quote_j2_eq m M1 (ref05_Quote_l1 m M1) (ref05_Quote_l1_eq m M1), ref05_Quote_j6_eq m]; rfl)
theorem ref05_Quote_j0_eq m x0 x1 x2 : e29 jn m [1, 1, 0, 1] [] (s29_4 x0 x1 x2) = ref05_Quote_j0 m x0 x1 x2 :=
  tre (g := fun J => (jj J 1 3 (Nat.succ m) (s29_4 x0 x1 x2) (l29 J m w29_0 [] (Nat.succ m)))) (fun J => by kernel_rfl) (by simp only [jj_eq, ref05_Quote_l1_eq m]; rfl)
theorem ref05_Quote_eq m a0 : e29 jn m [] [] ⟨[(.dat 9 (.str a0))], [], 0⟩ = ref05_Quote (m + 1) a0 :=
  tre (g := fun J => (jj J 0 3 0 (s29_4 a0 (ByteArray.mk (List.toArray [34])) 0) (e29 J m [1, 1, 0, 1] []))) (fun J => by kernel_rfl) (by simp only [jj_eq, ref05_Quote_j0_eq m]; rfl)
def w30_0 : List Nat := [1, 1, 0, 1, 0]
def w30_2 : List Nat := [1, 1, 0, 1, 0, 0, 1]
def w30_1 : List Nat := w30_2 ++ [1]
noncomputable def e30 (J : Nat → Nat → Nat → St → Option ByteArray → Option ByteArray) (m : Nat) (p ms : List Nat) (σ : St) := evAt Tryz.prog env (ct m) J (m + 1) 41 27 Tryz.f41 d11 p ms σ
noncomputable def l30 (J : Nat → Nat → Nat → St → Option ByteArray → Option ByteArray) (m : Nat) (p ms : List Nat) (M : Nat) (σ : St) := loopAt Tryz.prog env (ct m) J (m + 1) 41 27 Tryz.f41 d11 p ms M σ
noncomputable def s30_3 (x0 x1 : ByteArray) (x2 : Int) : St := ⟨tsOf [(0, (.dat 9 (.str x0))), (3, (.dat 9 (.str x1))), (4, (.dat 3 (.int x2)))], [], 0⟩
noncomputable def s30_4 (x0 : ByteArray) : St := ⟨tsOf [(3, (.dat 9 (.str x0)))], [], 0⟩
abbrev H30_1 (m M1 : Nat) (rec1 : ByteArray → ByteArray → Int → Option ByteArray) : Prop := ∀ x0 x1 x2, l30 jn m w30_0 [] M1 (s30_3 x0 x1 x2) = rec1 x0 x1 x2
theorem ref05_hex_j3_eq m M1 rec1 (h1 : H30_1 m M1 rec1) x0 x1 x2 : e30 jn m w30_1 [M1] (s30_3 x0 x1 x2) = ref05_hex_j3 m rec1 x0 x1 x2 :=
  tre (g := fun J => (jj J 1 3 M1 (s30_3 x0 x1 (IntKind.wrap .i64 (x2 + 1))) (l30 J m w30_0 [] M1))) (fun J => by kernel_rfl) (by simp only [jj_eq, h1]; rfl)
theorem ref05_hex_j2_eq m M1 rec1 (h1 : H30_1 m M1 rec1) x0 x1 x2 : e30 jn m w30_2 [M1] (s30_3 x0 x1 x2) = ref05_hex_j2 m rec1 x0 x1 x2 :=
  tre (g := fun J => ((idxS x0 x2).bind fun v0 =>
   ((ref05_digit m (IntKind.wrap .i64 (Int.tdiv (IntKind.wrap .i64 v0) 16))).bind fun r1 =>
   (bif (Nat.ble ((ByteArray.size x1) + (ByteArray.size r1)) 1152921504606846976) then
   ((idxS x0 x2).bind fun v2 =>
   ((ref05_digit m (Int.tmod (IntKind.wrap .i64 v2) 16)).bind fun r3 =>
   (bif (Nat.ble ((ByteArray.size (x1 ++ r1)) + (ByteArray.size r3)) 1152921504606846976) then
   (jj J 0 4 0 (s30_3 x0 ((x1 ++ r1) ++ r3) x2) (e30 J m w30_1 [M1]))
   else
   none)))
   else
   none)))) (fun J => by kernel_rfl) (by simp only [jj_eq, ref05_hex_j3_eq m M1 rec1 h1]; rfl)
theorem ref05_hex_j4_eq m x0 : e30 jn m [1, 1, 1] [] (s30_4 x0) = ref05_hex_j4 m x0 :=
  tre (g := fun J => some x0) (fun J => by kernel_rfl) (by rfl)
theorem ref05_hex_l1_eq m : ∀ M1 x0 x1 x2, l30 jn m w30_0 [] M1 (s30_3 x0 x1 x2) = ref05_hex_l1 m M1 x0 x1 x2
  | 0, _, _, _ => rfl
  | M1 + 1, x0, x1, x2 =>
    trl (g := fun J => (bif (decide (x2 < (ByteArray.size x0 : Int))) then
   (jj J 0 5 0 (s30_3 x0 x1 x2) (e30 J m w30_2 [M1]))
    else
   (jj J 0 6 0 (s30_4 x1) (e30 J m [1, 1, 1] [])))) (fun J => by kernel_rfl) (by simp only [jj_eq, ref05_hex_j2_eq m M1 (ref05_hex_l1 m M1) (ref05_hex_l1_eq m M1), ref05_hex_j4_eq m]; rfl)
theorem ref05_hex_j0_eq m x0 x1 x2 : e30 jn m [1, 1, 0, 1] [] (s30_3 x0 x1 x2) = ref05_hex_j0 m x0 x1 x2 :=
  tre (g := fun J => (jj J 1 3 (Nat.succ m) (s30_3 x0 x1 x2) (l30 J m w30_0 [] (Nat.succ m)))) (fun J => by kernel_rfl) (by simp only [jj_eq, ref05_hex_l1_eq m]; rfl)
theorem ref05_hex_eq m a0 : e30 jn m [] [] ⟨[(.dat 9 (.str a0))], [], 0⟩ = ref05_hex (m + 1) a0 :=
  tre (g := fun J => (jj J 0 3 0 (s30_3 a0 (ByteArray.mk (List.toArray [])) 0) (e30 J m [1, 1, 0, 1] []))) (fun J => by kernel_rfl) (by simp only [jj_eq, ref05_hex_j0_eq m]; rfl)
def w18_11 : List Nat := [1, 1, 1, 0, 1]
def w18_7 : List Nat := [1, 1, 1, 0, 1, 0]
def w18_10 : List Nat := w18_7 ++ [0, 1]
def w18_8 : List Nat := w18_10 ++ [1]
def w18_9 : List Nat := w18_10 ++ [0, 0, 1]
def w18_0 : List Nat := [1, 0, 1, 0, 1, 1, 1, 1, 1, 1, 1, 1, 1, 1, 1, 1, 1, 1, 1, 1, 1, 0, 1]
def w18_5 : List Nat := [1, 0, 1, 0, 1, 1, 1, 1, 1, 1, 1, 1, 1, 1, 1, 1, 1, 1, 1, 1, 1, 1, 1, 0, 1, 1]
def w18_6 : List Nat := [1, 0, 1, 0, 1, 1, 1, 1, 1, 1, 1, 1, 1, 1, 1, 1, 1, 1, 1, 1, 1, 1, 1, 0, 1, 0, 1]
def w18_1 : List Nat := w18_6 ++ [0]
def w18_4 : List Nat := w18_1 ++ [0, 1]
def w18_2 : List Nat := w18_4 ++ [1]
def w18_3 : List Nat := w18_4 ++ [0, 0, 1]
noncomputable def e18 (J : Nat → Nat → Nat → St → Option ByteArray → Option ByteArray) (m : Nat) (p ms : List Nat) (σ : St) := evAt Tryz.prog env (ct m) J (m + 1) 18 105 Tryz.f18 d11 p ms σ
noncomputable def l18 (J : Nat → Nat → Nat → St → Option ByteArray → Option ByteArray) (m : Nat) (p ms : List Nat) (M : Nat) (σ : St) := loopAt Tryz.prog env (ct m) J (m + 1) 18 105 Tryz.f18 d11 p ms M σ
noncomputable def s18_0 : St := ⟨tsOf [], [], 0⟩
noncomputable def s18_5 (x0 : ByteArray) (x1 : Int) (x2 : Dt) : St := ⟨tsOf [(1, (.ptr 0 [] 0)), (3, (.dat 9 (.str x0))), (4, (.dat 3 (.int x1)))], [(.box 25 (.dat 25 x2))], 0⟩
noncomputable def s18_6 (x0 : ByteArray) : St := ⟨tsOf [(3, (.dat 9 (.str x0)))], [], 0⟩
noncomputable def s18_12 (x0 : ByteArray) (x1 : Int) (x2 : Dt) : St := ⟨tsOf [(1, (.ptr 0 [] 0)), (5, (.dat 9 (.str x0))), (6, (.dat 3 (.int x1)))], [(.box 25 (.dat 25 x2))], 0⟩
noncomputable def s18_13 (x0 : ByteArray) : St := ⟨tsOf [(5, (.dat 9 (.str x0)))], [], 0⟩
noncomputable def s18_7 (x0 : Dt) : St := ⟨tsOf [(1, (.ptr 0 [] 0))], [(.box 25 (.dat 25 x0))], 0⟩
theorem ref05_text_j0_eq m : e18 jn m w18_0 [] s18_0 = ref05_text_j0 m (ref05_text m) :=
  tre (g := fun J => some (ByteArray.mk (List.toArray [102, 97, 108, 115, 101]))) (fun J => by kernel_rfl) (by rfl)
abbrev H18_2 (m M2 : Nat) (rec2 : ByteArray → Int → Dt → Option ByteArray) : Prop := ∀ x0 x1 x2, l18 jn m w18_1 [] M2 (s18_5 x0 x1 x2) = rec2 x0 x1 x2
theorem ref05_text_j5_eq m M2 rec2 (h2 : H18_2 m M2 rec2) x0 x1 x2 : e18 jn m w18_2 [M2] (s18_5 x0 x1 x2) = ref05_text_j5 m (ref05_text m) rec2 x0 x1 x2 :=
  tre (g := fun J => (jj J 1 25 M2 (s18_5 x0 (IntKind.wrap .i64 (x1 + 1)) x2) (l18 J m w18_1 [] M2))) (fun J => by kernel_rfl) (by simp only [jj_eq, h2]; rfl)
theorem ref05_text_j4_eq m M2 rec2 (h2 : H18_2 m M2 rec2) x0 x1 x2 : e18 jn m w18_3 [M2] (s18_5 x0 x1 x2) = ref05_text_j4 m (ref05_text m) rec2 x0 x1 x2 :=
  tre (g := fun J => ((idx (Dt.L x2 3) x1).bind fun v5 =>
   ((ref05_text m v5).bind fun r6 =>
   (bif (Nat.ble ((ByteArray.size x0) + (ByteArray.size r6)) 1152921504606846976) then
   (jj J 0 26 0 (s18_5 (x0 ++ r6) x1 x2) (e18 J m w18_2 [M2]))
   else
   none)))) (fun J => by kernel_rfl) (by simp only [jj_eq, ref05_text_j5_eq m M2 rec2 h2]; rfl)
theorem ref05_text_j3_eq m M2 rec2 (h2 : H18_2 m M2 rec2) x0 x1 x2 : e18 jn m w18_4 [M2] (s18_5 x0 x1 x2) = ref05_text_j3 m (ref05_text m) rec2 x0 x1 x2 :=
  tre (g := fun J => (bif (decide (0 < x1)) then
   (bif (Nat.ble ((ByteArray.size x0) + 1) 1152921504606846976) then
   (jj J 0 29 0 (s18_5 (x0 ++ (ByteArray.mk (List.toArray [44]))) x1 x2) (e18 J m w18_3 [M2]))
   else
   none)
    else
   (jj J 0 29 0 (s18_5 x0 x1 x2) (e18 J m w18_3 [M2])))) (fun J => by kernel_rfl) (by simp only [jj_eq, ref05_text_j4_eq m M2 rec2 h2]; rfl)
theorem ref05_text_j6_eq m x0 : e18 jn m w18_5 [] (s18_6 x0) = ref05_text_j6 m (ref05_text m) x0 :=
  tre (g := fun J => (bif (Nat.ble ((ByteArray.size x0) + 1) 1152921504606846976) then
   some (x0 ++ (ByteArray.mk (List.toArray [93])))
    else
   none)) (fun J => by kernel_rfl) (by rfl)
theorem ref05_text_l2_eq m : ∀ M2 x0 x1 x2, l18 jn m w18_1 [] M2 (s18_5 x0 x1 x2) = ref05_text_l2 m (ref05_text m) M2 x0 x1 x2
  | 0, _, _, _ => rfl
  | M2 + 1, x0, x1, x2 =>
    trl (g := fun J => (bif (decide (x1 < (List.length (Dt.L x2 3) : Int))) then
   (jj J 0 27 0 (s18_5 x0 x1 x2) (e18 J m w18_4 [M2]))
    else
   (jj J 0 30 0 (s18_6 x0) (e18 J m w18_5 [])))) (fun J => by kernel_rfl) (by simp only [jj_eq, ref05_text_j3_eq m M2 (ref05_text_l2 m (ref05_text m) M2) (ref05_text_l2_eq m M2), ref05_text_j6_eq m]; rfl)
theorem ref05_text_j1_eq m x0 x1 x2 : e18 jn m w18_6 [] (s18_5 x0 x1 x2) = ref05_text_j1 m (ref05_text m) x0 x1 x2 :=
  tre (g := fun J => (jj J 1 25 (Nat.succ m) (s18_5 x0 x1 x2) (l18 J m w18_1 [] (Nat.succ m)))) (fun J => by kernel_rfl) (by simp only [jj_eq, ref05_text_l2_eq m]; rfl)
abbrev H18_9 (m M9 : Nat) (rec9 : ByteArray → Int → Dt → Option ByteArray) : Prop := ∀ x0 x1 x2, l18 jn m w18_7 [] M9 (s18_12 x0 x1 x2) = rec9 x0 x1 x2
theorem ref05_text_j12_eq m M9 rec9 (h9 : H18_9 m M9 rec9) x0 x1 x2 : e18 jn m w18_8 [M9] (s18_12 x0 x1 x2) = ref05_text_j12 m (ref05_text m) rec9 x0 x1 x2 :=
  tre (g := fun J => (jj J 1 33 M9 (s18_12 x0 (IntKind.wrap .i64 (x1 + 1)) x2) (l18 J m w18_7 [] M9))) (fun J => by kernel_rfl) (by simp only [jj_eq, h9]; rfl)
theorem ref05_text_j11_eq m M9 rec9 (h9 : H18_9 m M9 rec9) x0 x1 x2 : e18 jn m w18_9 [M9] (s18_12 x0 x1 x2) = ref05_text_j11 m (ref05_text m) rec9 x0 x1 x2 :=
  tre (g := fun J => ((idx (Dt.L x2 4) x1).bind fun v7 =>
   ((ref05_Quote m (Dt.S v7 0)).bind fun r8 =>
   (bif (Nat.ble ((ByteArray.size x0) + (ByteArray.size r8)) 1152921504606846976) then
   (bif (Nat.ble ((ByteArray.size (x0 ++ r8)) + 1) 1152921504606846976) then
   ((idx (Dt.L x2 4) x1).bind fun v9 =>
   ((ref05_text m (Dt.fld v9 1)).bind fun r10 =>
   (bif (Nat.ble ((ByteArray.size ((x0 ++ r8) ++ (ByteArray.mk (List.toArray [58])))) + (ByteArray.size r10)) 1152921504606846976) then
   (jj J 0 34 0 (s18_12 (((x0 ++ r8) ++ (ByteArray.mk (List.toArray [58]))) ++ r10) x1 x2) (e18 J m w18_8 [M9]))
   else
   none)))
   else
   none)
   else
   none)))) (fun J => by kernel_rfl) (by simp only [jj_eq, ref05_text_j12_eq m M9 rec9 h9]; rfl)
theorem ref05_text_j10_eq m M9 rec9 (h9 : H18_9 m M9 rec9) x0 x1 x2 : e18 jn m w18_10 [M9] (s18_12 x0 x1 x2) = ref05_text_j10 m (ref05_text m) rec9 x0 x1 x2 :=
  tre (g := fun J => (bif (decide (0 < x1)) then
   (bif (Nat.ble ((ByteArray.size x0) + 1) 1152921504606846976) then
   (jj J 0 37 0 (s18_12 (x0 ++ (ByteArray.mk (List.toArray [44]))) x1 x2) (e18 J m w18_9 [M9]))
   else
   none)
    else
   (jj J 0 37 0 (s18_12 x0 x1 x2) (e18 J m w18_9 [M9])))) (fun J => by kernel_rfl) (by simp only [jj_eq, ref05_text_j11_eq m M9 rec9 h9]; rfl)
theorem ref05_text_j13_eq m x0 : e18 jn m [1, 1, 1, 1] [] (s18_13 x0) = ref05_text_j13 m (ref05_text m) x0 :=
  tre (g := fun J => (bif (Nat.ble ((ByteArray.size x0) + 1) 1152921504606846976) then
   some (x0 ++ (ByteArray.mk (List.toArray [125])))
    else
   none)) (fun J => by kernel_rfl) (by rfl)
theorem ref05_text_l9_eq m : ∀ M9 x0 x1 x2, l18 jn m w18_7 [] M9 (s18_12 x0 x1 x2) = ref05_text_l9 m (ref05_text m) M9 x0 x1 x2
  | 0, _, _, _ => rfl
  | M9 + 1, x0, x1, x2 =>
    trl (g := fun J => (bif (decide (x1 < (List.length (Dt.L x2 4) : Int))) then
   (jj J 0 35 0 (s18_12 x0 x1 x2) (e18 J m w18_10 [M9]))
    else
   (jj J 0 38 0 (s18_13 x0) (e18 J m [1, 1, 1, 1] [])))) (fun J => by kernel_rfl) (by simp only [jj_eq, ref05_text_j10_eq m M9 (ref05_text_l9 m (ref05_text m) M9) (ref05_text_l9_eq m M9), ref05_text_j13_eq m]; rfl)
theorem ref05_text_j8_eq m x0 x1 x2 : e18 jn m w18_11 [] (s18_12 x0 x1 x2) = ref05_text_j8 m (ref05_text m) x0 x1 x2 :=
  tre (g := fun J => (jj J 1 33 (Nat.succ m) (s18_12 x0 x1 x2) (l18 J m w18_7 [] (Nat.succ m)))) (fun J => by kernel_rfl) (by simp only [jj_eq, ref05_text_l9_eq m]; rfl)
theorem ref05_text_j7_eq m x0 : e18 jn m [1, 1] [] (s18_7 x0) = ref05_text_j7 m (ref05_text m) x0 :=
  tre (g := fun J => (jj J 0 33 0 (s18_12 (ByteArray.mk (List.toArray [123])) 0 x0) (e18 J m w18_11 []))) (fun J => by kernel_rfl) (by simp only [jj_eq, ref05_text_j8_eq m]; rfl)
theorem ref05_text_eq m a0 : e18 jn m [] [] ⟨[(.dat 25 a0)], [], 0⟩ = ref05_text (m + 1) a0 :=
  tre (g := fun J => (bif ((Dt.I a0 0) == 1) then
   some (ByteArray.mk (List.toArray [123, 34, 36, 109, 105, 110, 34, 58, 49, 125]))
    else
   (bif ((Dt.I a0 0) == 11) then
   some (ByteArray.mk (List.toArray [123, 34, 36, 109, 97, 120, 34, 58, 49, 125]))
   else
   (bif ((Dt.I a0 0) == 2) then
   some (ByteArray.mk (List.toArray [110, 117, 108, 108]))
   else
   (bif ((Dt.I a0 0) == 3) then
   ((ref05_Decimal m (Dt.I a0 1)).bind fun r0 =>
   some r0)
   else
   (bif ((Dt.I a0 0) == 4) then
   ((ref05_Quote m (Dt.S a0 2)).bind fun r1 =>
   some r1)
   else
   (bif ((Dt.I a0 0) == 7) then
   ((ref05_hex m (Dt.S a0 2)).bind fun r2 =>
   (bif (Nat.ble (11 + (ByteArray.size r2)) 1152921504606846976) then
   (bif (Nat.ble ((ByteArray.size ((ByteArray.mk (List.toArray [123, 34, 36, 98, 121, 116, 101, 115, 34, 58, 34])) ++ r2)) + 2) 1152921504606846976) then
   some (((ByteArray.mk (List.toArray [123, 34, 36, 98, 121, 116, 101, 115, 34, 58, 34])) ++ r2) ++ (ByteArray.mk (List.toArray [34, 125])))
   else
   none)
   else
   none))
   else
   (bif ((Dt.I a0 0) == 8) then
   ((ref05_hex m (Dt.S a0 2)).bind fun r3 =>
   (bif (Nat.ble (8 + (ByteArray.size r3)) 1152921504606846976) then
   (bif (Nat.ble ((ByteArray.size ((ByteArray.mk (List.toArray [123, 34, 36, 105, 100, 34, 58, 34])) ++ r3)) + 2) 1152921504606846976) then
   some (((ByteArray.mk (List.toArray [123, 34, 36, 105, 100, 34, 58, 34])) ++ r3) ++ (ByteArray.mk (List.toArray [34, 125])))
   else
   none)
   else
   none))
   else
   (bif ((Dt.I a0 0) == 10) then
   ((ref05_Decimal m (Dt.I a0 1)).bind fun r4 =>
   (bif (Nat.ble (9 + (ByteArray.size r4)) 1152921504606846976) then
   (bif (Nat.ble ((ByteArray.size ((ByteArray.mk (List.toArray [123, 34, 36, 116, 105, 109, 101, 34, 58])) ++ r4)) + 1) 1152921504606846976) then
   some (((ByteArray.mk (List.toArray [123, 34, 36, 116, 105, 109, 101, 34, 58])) ++ r4) ++ (ByteArray.mk (List.toArray [125])))
   else
   none)
   else
   none))
   else
   (bif ((Dt.I a0 0) == 9) then
   (bif ((Dt.I a0 1) == 1) then
   some (ByteArray.mk (List.toArray [116, 114, 117, 101]))
   else
   (jj J 0 21 0 s18_0 (e18 J m w18_0 [])))
   else
   (bif ((Dt.I a0 0) == 6) then
   (jj J 0 25 0 (s18_5 (ByteArray.mk (List.toArray [91])) 0 a0) (e18 J m w18_6 []))
   else
   (jj J 0 31 0 (s18_7 a0) (e18 J m [1, 1] []))))))))))))) (fun J => by kernel_rfl) (by simp only [jj_eq, ref05_text_j0_eq m, ref05_text_j1_eq m, ref05_text_j7_eq m]; rfl)
def w48_7 : List Nat := [1, 1, 0, 1, 0, 1]
def w48_0 : List Nat := w48_7 ++ [0]
def w48_6 : List Nat := [1, 1, 1, 0, 1, 0, 1]
def w48_3 : List Nat := w48_6 ++ [0]
def w48_2 : List Nat := w48_0 ++ [0, 1]
def w48_1 : List Nat := w48_2 ++ [1]
def w48_5 : List Nat := w48_3 ++ [0, 1]
def w48_4 : List Nat := w48_5 ++ [1]
noncomputable def e48 (J : Nat → Nat → Nat → St → Option (List Dt) → Option (List Dt)) (m : Nat) (p ms : List Nat) (σ : St) := evAt Tryz.prog env (ct m) J (m + 1) 86 44 Tryz.f86 d48 p ms σ
noncomputable def l48 (J : Nat → Nat → Nat → St → Option (List Dt) → Option (List Dt)) (m : Nat) (p ms : List Nat) (M : Nat) (σ : St) := loopAt Tryz.prog env (ct m) J (m + 1) 86 44 Tryz.f86 d48 p ms M σ
noncomputable def s48_3 (x0 : Int) (x1 : Dt) (x2 : List Dt) : St := ⟨tsOf [(1, (.ptr 0 [] 0)), (3, (.row 1)), (4, (.dat 3 (.int x0)))], [(.box 25 (.dat 25 x1)), (.row 22 x2)], 0⟩
noncomputable def s48_8 (x0 : Int) (x1 : Dt) (x2 : List Dt) : St := ⟨tsOf [(1, (.ptr 0 [] 0)), (3, (.row 1)), (5, (.dat 3 (.int x0)))], [(.box 25 (.dat 25 x1)), (.row 22 x2)], 0⟩
noncomputable def s48_9 (x0 : List Dt) : St := ⟨tsOf [(3, (.row 0))], [(.row 22 x0)], 0⟩
noncomputable def s48_4 (x0 : Dt) (x1 : List Dt) : St := ⟨tsOf [(1, (.ptr 0 [] 0)), (3, (.row 1))], [(.box 25 (.dat 25 x0)), (.row 22 x1)], 0⟩
abbrev H48_1 (m M1 : Nat) (rec1 : Int → Dt → List Dt → Option (List Dt)) : Prop := ∀ x0 x1 x2, l48 jn m w48_0 [] M1 (s48_3 x0 x1 x2) = rec1 x0 x1 x2
theorem ref01_Parts_j3_eq m M1 rec1 (h1 : H48_1 m M1 rec1) x0 x1 x2 : e48 jn m w48_1 [M1] (s48_3 x0 x1 x2) = ref01_Parts_j3 m rec1 x0 x1 x2 :=
  tre (g := fun J => (jj J 1 4 M1 (s48_3 (IntKind.wrap .i64 (x0 + 1)) x1 x2) (l48 J m w48_0 [] M1))) (fun J => by kernel_rfl) (by simp only [jj_eq, h1]; rfl)
theorem ref01_Parts_j2_eq m M1 rec1 (h1 : H48_1 m M1 rec1) x0 x1 x2 : e48 jn m w48_2 [M1] (s48_3 x0 x1 x2) = ref01_Parts_j2 m rec1 x0 x1 x2 :=
  tre (g := fun J => ((idx (Dt.L x1 3) x0).bind fun v0 =>
   ((app x2 [v0]).bind fun v1 =>
   (jj J 0 5 0 (s48_3 x0 x1 v1) (e48 J m w48_1 [M1]))))) (fun J => by kernel_rfl) (by simp only [jj_eq, ref01_Parts_j3_eq m M1 rec1 h1]; rfl)
abbrev H48_6 (m M6 : Nat) (rec6 : Int → Dt → List Dt → Option (List Dt)) : Prop := ∀ x0 x1 x2, l48 jn m w48_3 [] M6 (s48_8 x0 x1 x2) = rec6 x0 x1 x2
theorem ref01_Parts_j8_eq m M6 rec6 (h6 : H48_6 m M6 rec6) x0 x1 x2 : e48 jn m w48_4 [M6] (s48_8 x0 x1 x2) = ref01_Parts_j8 m rec6 x0 x1 x2 :=
  tre (g := fun J => (jj J 1 9 M6 (s48_8 (IntKind.wrap .i64 (x0 + 1)) x1 x2) (l48 J m w48_3 [] M6))) (fun J => by kernel_rfl) (by simp only [jj_eq, h6]; rfl)
theorem ref01_Parts_j7_eq m M6 rec6 (h6 : H48_6 m M6 rec6) x0 x1 x2 : e48 jn m w48_5 [M6] (s48_8 x0 x1 x2) = ref01_Parts_j7 m rec6 x0 x1 x2 :=
  tre (g := fun J => ((idx (Dt.L x1 4) x0).bind fun v2 =>
   ((app x2 [(Dt.fld v2 1)]).bind fun v3 =>
   (jj J 0 10 0 (s48_8 x0 x1 v3) (e48 J m w48_4 [M6]))))) (fun J => by kernel_rfl) (by simp only [jj_eq, ref01_Parts_j8_eq m M6 rec6 h6]; rfl)
theorem ref01_Parts_j9_eq m x0 : e48 jn m [1, 1, 1, 1] [] (s48_9 x0) = ref01_Parts_j9 m x0 :=
  tre (g := fun J => some x0) (fun J => by kernel_rfl) (by rfl)
theorem ref01_Parts_l6_eq m : ∀ M6 x0 x1 x2, l48 jn m w48_3 [] M6 (s48_8 x0 x1 x2) = ref01_Parts_l6 m M6 x0 x1 x2
  | 0, _, _, _ => rfl
  | M6 + 1, x0, x1, x2 =>
    trl (g := fun J => (bif (decide (x0 < (List.length (Dt.L x1 4) : Int))) then
   (jj J 0 11 0 (s48_8 x0 x1 x2) (e48 J m w48_5 [M6]))
    else
   (jj J 0 12 0 (s48_9 x2) (e48 J m [1, 1, 1, 1] [])))) (fun J => by kernel_rfl) (by simp only [jj_eq, ref01_Parts_j7_eq m M6 (ref01_Parts_l6 m M6) (ref01_Parts_l6_eq m M6), ref01_Parts_j9_eq m]; rfl)
theorem ref01_Parts_j5_eq m x0 x1 x2 : e48 jn m w48_6 [] (s48_8 x0 x1 x2) = ref01_Parts_j5 m x0 x1 x2 :=
  tre (g := fun J => (jj J 1 9 (Nat.succ m) (s48_8 x0 x1 x2) (l48 J m w48_3 [] (Nat.succ m)))) (fun J => by kernel_rfl) (by simp only [jj_eq, ref01_Parts_l6_eq m]; rfl)
theorem ref01_Parts_j4_eq m x0 x1 : e48 jn m [1, 1, 1] [] (s48_4 x0 x1) = ref01_Parts_j4 m x0 x1 :=
  tre (g := fun J => (bif ((Dt.I x0 0) == 5) then
   (jj J 0 9 0 (s48_8 0 x0 x1) (e48 J m w48_6 []))
    else
   (jj J 0 12 0 (s48_9 x1) (e48 J m [1, 1, 1, 1] [])))) (fun J => by kernel_rfl) (by simp only [jj_eq, ref01_Parts_j5_eq m, ref01_Parts_j9_eq m]; rfl)
theorem ref01_Parts_l1_eq m : ∀ M1 x0 x1 x2, l48 jn m w48_0 [] M1 (s48_3 x0 x1 x2) = ref01_Parts_l1 m M1 x0 x1 x2
  | 0, _, _, _ => rfl
  | M1 + 1, x0, x1, x2 =>
    trl (g := fun J => (bif (decide (x0 < (List.length (Dt.L x1 3) : Int))) then
   (jj J 0 6 0 (s48_3 x0 x1 x2) (e48 J m w48_2 [M1]))
    else
   (jj J 0 7 0 (s48_4 x1 x2) (e48 J m [1, 1, 1] [])))) (fun J => by kernel_rfl) (by simp only [jj_eq, ref01_Parts_j2_eq m M1 (ref01_Parts_l1 m M1) (ref01_Parts_l1_eq m M1), ref01_Parts_j4_eq m]; rfl)
theorem ref01_Parts_j0_eq m x0 x1 x2 : e48 jn m w48_7 [] (s48_3 x0 x1 x2) = ref01_Parts_j0 m x0 x1 x2 :=
  tre (g := fun J => (jj J 1 4 (Nat.succ m) (s48_3 x0 x1 x2) (l48 J m w48_0 [] (Nat.succ m)))) (fun J => by kernel_rfl) (by simp only [jj_eq, ref01_Parts_l1_eq m]; rfl)
theorem ref01_Parts_eq m a0 : e48 jn m [] [] ⟨[(.dat 25 a0)], [], 0⟩ = ref01_Parts (m + 1) a0 :=
  tre (g := fun J => (bif ((Dt.I a0 0) == 6) then
   (jj J 0 4 0 (s48_3 0 a0 []) (e48 J m w48_7 []))
    else
   (jj J 0 7 0 (s48_4 a0 []) (e48 J m [1, 1, 1] [])))) (fun J => by kernel_rfl) (by simp only [jj_eq, ref01_Parts_j0_eq m, ref01_Parts_j4_eq m]; rfl)
def w36_3 : List Nat := [1, 1, 1, 1, 1]
def w36_4 : List Nat := [1, 1, 1, 1, 0, 1]
def w36_0 : List Nat := w36_4 ++ [0]
def w36_2 : List Nat := w36_0 ++ [0, 1]
def w36_1 : List Nat := w36_2 ++ [1]
noncomputable def e36 (J : Nat → Nat → Nat → St → Option Int → Option Int) (m : Nat) (p ms : List Nat) (σ : St) := evAt Tryz.prog env (ct m) J (m + 1) 63 34 Tryz.f63 d5 p ms σ
noncomputable def l36 (J : Nat → Nat → Nat → St → Option Int → Option Int) (m : Nat) (p ms : List Nat) (M : Nat) (σ : St) := loopAt Tryz.prog env (ct m) J (m + 1) 63 34 Tryz.f63 d5 p ms M σ
noncomputable def s36_5 (x0 : Int) (x1 : List Dt) (x2 x3 : Int) : St := ⟨tsOf [(1, (.dat 3 (.int x0))), (5, (.dat 22 (.lst x1))), (6, (.dat 3 (.int x2))), (7, (.dat 3 (.int x3)))], [], 0⟩
noncomputable def s36_6 (x0 : Int) : St := ⟨tsOf [(6, (.dat 3 (.int x0)))], [], 0⟩
noncomputable def s36_1 (x0 : Int) (x1 : List Dt) : St := ⟨tsOf [(1, (.dat 3 (.int x0))), (5, (.dat 22 (.lst x1)))], [], 0⟩
noncomputable def s36_0 (x0 : Int) (x1 : List Dt) (x2 : Bool) : St := ⟨tsOf [(1, (.dat 3 (.int x0))), (5, (.dat 22 (.lst x1))), (16, (.dat 4 (.bool x2)))], [], 0⟩
abbrev H36_3 (m M3 : Nat) (rec3 : Int → List Dt → Int → Int → Option Int) : Prop := ∀ x0 x1 x2 x3, l36 jn m w36_0 [] M3 (s36_5 x0 x1 x2 x3) = rec3 x0 x1 x2 x3
theorem ref01_levels_j5_eq m M3 rec3 (h3 : H36_3 m M3 rec3) x0 x1 x2 x3 : e36 jn m w36_1 [M3] (s36_5 x0 x1 x2 x3) = ref01_levels_j5 m (ref01_levels m) rec3 x0 x1 x2 x3 :=
  tre (g := fun J => (jj J 1 6 M3 (s36_5 x0 x1 x2 (IntKind.wrap .i64 (x3 + 1))) (l36 J m w36_0 [] M3))) (fun J => by kernel_rfl) (by simp only [jj_eq, h3]; rfl)
theorem ref01_levels_j4_eq m M3 rec3 (h3 : H36_3 m M3 rec3) x0 x1 x2 x3 : e36 jn m w36_2 [M3] (s36_5 x0 x1 x2 x3) = ref01_levels_j4 m (ref01_levels m) rec3 x0 x1 x2 x3 :=
  tre (g := fun J => ((idx x1 x3).bind fun v1 =>
   ((ref01_levels m v1 (IntKind.wrap .i64 (x0 - 1))).bind fun r2 =>
   (jj J 0 7 0 (s36_5 x0 x1 (bif (decide (x2 < r2)) then r2 else x2) x3) (e36 J m w36_1 [M3]))))) (fun J => by kernel_rfl) (by simp only [jj_eq, ref01_levels_j5_eq m M3 rec3 h3]; rfl)
theorem ref01_levels_j6_eq m x0 : e36 jn m w36_3 [] (s36_6 x0) = ref01_levels_j6 m (ref01_levels m) x0 :=
  tre (g := fun J => some (IntKind.wrap .i64 (x0 + 1))) (fun J => by kernel_rfl) (by rfl)
theorem ref01_levels_l3_eq m : ∀ M3 x0 x1 x2 x3, l36 jn m w36_0 [] M3 (s36_5 x0 x1 x2 x3) = ref01_levels_l3 m (ref01_levels m) M3 x0 x1 x2 x3
  | 0, _, _, _, _ => rfl
  | M3 + 1, x0, x1, x2, x3 =>
    trl (g := fun J => (bif (decide (x3 < (List.length x1 : Int))) then
   (jj J 0 8 0 (s36_5 x0 x1 x2 x3) (e36 J m w36_2 [M3]))
    else
   (jj J 0 9 0 (s36_6 x2) (e36 J m w36_3 [])))) (fun J => by kernel_rfl) (by simp only [jj_eq, ref01_levels_j4_eq m M3 (ref01_levels_l3 m (ref01_levels m) M3) (ref01_levels_l3_eq m M3), ref01_levels_j6_eq m]; rfl)
theorem ref01_levels_j2_eq m x0 x1 x2 x3 : e36 jn m w36_4 [] (s36_5 x0 x1 x2 x3) = ref01_levels_j2 m (ref01_levels m) x0 x1 x2 x3 :=
  tre (g := fun J => (jj J 1 6 (Nat.succ m) (s36_5 x0 x1 x2 x3) (l36 J m w36_0 [] (Nat.succ m)))) (fun J => by kernel_rfl) (by simp only [jj_eq, ref01_levels_l3_eq m]; rfl)
theorem ref01_levels_j1_eq m x0 x1 : e36 jn m [1, 1, 1] [] (s36_1 x0 x1) = ref01_levels_j1 m (ref01_levels m) x0 x1 :=
  tre (g := fun J => (jj J 0 6 0 (s36_5 x0 x1 0 0) (e36 J m w36_4 []))) (fun J => by kernel_rfl) (by simp only [jj_eq, ref01_levels_j2_eq m]; rfl)
theorem ref01_levels_j0_eq m x0 x1 x2 : e36 jn m [1, 1, 0, 1] [] (s36_0 x0 x1 x2) = ref01_levels_j0 m (ref01_levels m) x0 x1 x2 :=
  tre (g := fun J => (bif x2 then
   some 1
    else
   (jj J 0 4 0 (s36_1 x0 x1) (e36 J m [1, 1, 1] [])))) (fun J => by kernel_rfl) (by simp only [jj_eq, ref01_levels_j1_eq m]; rfl)
theorem ref01_levels_eq m a0 a1 : e36 jn m [] [] ⟨[(.dat 25 a0), (.dat 3 (.int a1))], [], 0⟩ = ref01_levels (m + 1) a0 a1 :=
  tre (g := fun J => ((ref01_Parts m a0).bind fun r0 =>
   (bif (decide (a1 < 2)) then
   (jj J 0 3 0 (s36_0 a1 r0 true) (e36 J m [1, 1, 0, 1] []))
   else
   (jj J 0 3 0 (s36_0 a1 r0 ((List.length r0 : Int) == 0)) (e36 J m [1, 1, 0, 1] []))))) (fun J => by kernel_rfl) (by simp only [jj_eq, ref01_levels_j0_eq m]; rfl)
noncomputable def e24 (J : Nat → Nat → Nat → St → Option Int → Option Int) (m : Nat) (p ms : List Nat) (σ : St) := evAt Tryz.prog env (ct m) J (m + 1) 35 5 Tryz.f35 d5 p ms σ
noncomputable def l24 (J : Nat → Nat → Nat → St → Option Int → Option Int) (m : Nat) (p ms : List Nat) (M : Nat) (σ : St) := loopAt Tryz.prog env (ct m) J (m + 1) 35 5 Tryz.f35 d5 p ms M σ
theorem ref01_Depth_eq m a0 : e24 jn m [] [] ⟨[(.dat 25 a0)], [], 0⟩ = ref01_Depth (m + 1) a0 :=
  tre (g := fun J => ((ref01_levels m a0 17).bind fun r0 =>
   some r0)) (fun J => by kernel_rfl) (by rfl)
def w37_3 : List Nat := [1, 1, 1, 0, 1]
def w37_0 : List Nat := [1, 1, 1, 0, 1, 0]
def w37_2 : List Nat := w37_0 ++ [0, 1]
def w37_1 : List Nat := w37_2 ++ [1]
noncomputable def e37 (J : Nat → Nat → Nat → St → Option Int → Option Int) (m : Nat) (p ms : List Nat) (σ : St) := evAt Tryz.prog env (ct m) J (m + 1) 64 32 Tryz.f64 d5 p ms σ
noncomputable def l37 (J : Nat → Nat → Nat → St → Option Int → Option Int) (m : Nat) (p ms : List Nat) (M : Nat) (σ : St) := loopAt Tryz.prog env (ct m) J (m + 1) 64 32 Tryz.f64 d5 p ms M σ
noncomputable def s37_3 (x0 x1 : Int) (x2 : List Dt) (x3 : Int) : St := ⟨tsOf [(1, (.dat 3 (.int x0))), (5, (.dat 3 (.int x1))), (6, (.dat 22 (.lst x2))), (7, (.dat 3 (.int x3)))], [], 0⟩
noncomputable def s37_4 (x0 : Int) : St := ⟨tsOf [(5, (.dat 3 (.int x0)))], [], 0⟩
abbrev H37_1 (m M1 : Nat) (rec1 : Int → Int → List Dt → Int → Option Int) : Prop := ∀ x0 x1 x2 x3, l37 jn m w37_0 [] M1 (s37_3 x0 x1 x2 x3) = rec1 x0 x1 x2 x3
theorem ref01_count_j3_eq m M1 rec1 (h1 : H37_1 m M1 rec1) x0 x1 x2 x3 : e37 jn m w37_1 [M1] (s37_3 x0 x1 x2 x3) = ref01_count_j3 m (ref01_count m) rec1 x0 x1 x2 x3 :=
  tre (g := fun J => (jj J 1 4 M1 (s37_3 x0 x1 x2 (IntKind.wrap .i64 (x3 + 1))) (l37 J m w37_0 [] M1))) (fun J => by kernel_rfl) (by simp only [jj_eq, h1]; rfl)
theorem ref01_count_j2_eq m M1 rec1 (h1 : H37_1 m M1 rec1) x0 x1 x2 x3 : e37 jn m w37_2 [M1] (s37_3 x0 x1 x2 x3) = ref01_count_j2 m (ref01_count m) rec1 x0 x1 x2 x3 :=
  tre (g := fun J => ((idx x2 x3).bind fun v1 =>
   ((ref01_count m v1 (IntKind.wrap .i64 (x0 - x1))).bind fun r2 =>
   (jj J 0 5 0 (s37_3 x0 (IntKind.wrap .i64 (x1 + r2)) x2 x3) (e37 J m w37_1 [M1]))))) (fun J => by kernel_rfl) (by simp only [jj_eq, ref01_count_j3_eq m M1 rec1 h1]; rfl)
theorem ref01_count_j4_eq m x0 : e37 jn m [1, 1, 1, 1] [] (s37_4 x0) = ref01_count_j4 m (ref01_count m) x0 :=
  tre (g := fun J => some x0) (fun J => by kernel_rfl) (by rfl)
theorem ref01_count_l1_eq m : ∀ M1 x0 x1 x2 x3, l37 jn m w37_0 [] M1 (s37_3 x0 x1 x2 x3) = ref01_count_l1 m (ref01_count m) M1 x0 x1 x2 x3
  | 0, _, _, _, _ => rfl
  | M1 + 1, x0, x1, x2, x3 =>
    trl (g := fun J => (bif (decide (x3 < (List.length x2 : Int))) then
   (bif (decide (x1 < x0)) then
   (jj J 0 6 0 (s37_3 x0 x1 x2 x3) (e37 J m w37_2 [M1]))
   else
   (jj J 0 7 0 (s37_4 x1) (e37 J m [1, 1, 1, 1] [])))
    else
   (jj J 0 7 0 (s37_4 x1) (e37 J m [1, 1, 1, 1] [])))) (fun J => by kernel_rfl) (by simp only [jj_eq, ref01_count_j2_eq m M1 (ref01_count_l1 m (ref01_count m) M1) (ref01_count_l1_eq m M1), ref01_count_j4_eq m]; rfl)
theorem ref01_count_j0_eq m x0 x1 x2 x3 : e37 jn m w37_3 [] (s37_3 x0 x1 x2 x3) = ref01_count_j0 m (ref01_count m) x0 x1 x2 x3 :=
  tre (g := fun J => (jj J 1 4 (Nat.succ m) (s37_3 x0 x1 x2 x3) (l37 J m w37_0 [] (Nat.succ m)))) (fun J => by kernel_rfl) (by simp only [jj_eq, ref01_count_l1_eq m]; rfl)
theorem ref01_count_eq m a0 a1 : e37 jn m [] [] ⟨[(.dat 25 a0), (.dat 3 (.int a1))], [], 0⟩ = ref01_count (m + 1) a0 a1 :=
  tre (g := fun J => ((ref01_Parts m a0).bind fun r0 =>
   (jj J 0 4 0 (s37_3 a1 1 r0 0) (e37 J m w37_3 [])))) (fun J => by kernel_rfl) (by simp only [jj_eq, ref01_count_j0_eq m]; rfl)
noncomputable def e25 (J : Nat → Nat → Nat → St → Option Int → Option Int) (m : Nat) (p ms : List Nat) (σ : St) := evAt Tryz.prog env (ct m) J (m + 1) 36 5 Tryz.f36 d5 p ms σ
noncomputable def l25 (J : Nat → Nat → Nat → St → Option Int → Option Int) (m : Nat) (p ms : List Nat) (M : Nat) (σ : St) := loopAt Tryz.prog env (ct m) J (m + 1) 36 5 Tryz.f36 d5 p ms M σ
theorem ref01_Nodes_eq m a0 : e25 jn m [] [] ⟨[(.dat 25 a0)], [], 0⟩ = ref01_Nodes (m + 1) a0 :=
  tre (g := fun J => ((ref01_count m a0 1025).bind fun r0 =>
   some r0)) (fun J => by kernel_rfl) (by rfl)
def w50_1 : List Nat := [1, 0, 1, 0, 0, 1]
def w50_0 : List Nat := w50_1 ++ [1]
noncomputable def e50 (J : Nat → Nat → Nat → St → Option Int → Option Int) (m : Nat) (p ms : List Nat) (σ : St) := evAt Tryz.prog env (ct m) J (m + 1) 88 13 Tryz.f88 d5 p ms σ
noncomputable def l50 (J : Nat → Nat → Nat → St → Option Int → Option Int) (m : Nat) (p ms : List Nat) (M : Nat) (σ : St) := loopAt Tryz.prog env (ct m) J (m + 1) 88 13 Tryz.f88 d5 p ms M σ
noncomputable def s50_3 (x0 x1 : Int) : St := ⟨tsOf [(0, (.dat 5 (.int x0))), (3, (.dat 3 (.int x1)))], [], 0⟩
noncomputable def s50_4 : St := ⟨tsOf [], [], 0⟩
abbrev H50_1 (m M1 : Nat) (rec1 : Int → Int → Option Int) : Prop := ∀ x0 x1, l50 jn m [1, 0, 1, 0] [] M1 (s50_3 x0 x1) = rec1 x0 x1
theorem ref05_place_j3_eq m M1 rec1 (h1 : H50_1 m M1 rec1) x0 x1 : e50 jn m w50_0 [M1] (s50_3 x0 x1) = ref05_place_j3 m rec1 x0 x1 :=
  tre (g := fun J => (jj J 1 2 M1 (s50_3 x0 (IntKind.wrap .i64 (x1 + 1))) (l50 J m [1, 0, 1, 0] [] M1))) (fun J => by kernel_rfl) (by simp only [jj_eq, h1]; rfl)
theorem ref05_place_j2_eq m M1 rec1 (h1 : H50_1 m M1 rec1) x0 x1 : e50 jn m w50_1 [M1] (s50_3 x0 x1) = ref05_place_j2 m rec1 x0 x1 :=
  tre (g := fun J => ((idxS (ByteArray.mk (List.toArray [48, 49, 50, 51, 52, 53, 54, 55, 56, 57, 97, 98, 99, 100, 101, 102])) x1).bind fun v0 =>
   (bif (v0 == x0) then
   some x1
   else
   (jj J 0 3 0 (s50_3 x0 x1) (e50 J m w50_0 [M1]))))) (fun J => by kernel_rfl) (by simp only [jj_eq, ref05_place_j3_eq m M1 rec1 h1]; rfl)
theorem ref05_place_j4_eq m : e50 jn m [1, 1] [] s50_4 = ref05_place_j4 m :=
  tre (g := fun J => some (-1)) (fun J => by kernel_rfl) (by rfl)
theorem ref05_place_l1_eq m : ∀ M1 x0 x1, l50 jn m [1, 0, 1, 0] [] M1 (s50_3 x0 x1) = ref05_place_l1 m M1 x0 x1
  | 0, _, _ => rfl
  | M1 + 1, x0, x1 =>
    trl (g := fun J => (bif (decide (x1 < 16)) then
   (jj J 0 4 0 (s50_3 x0 x1) (e50 J m w50_1 [M1]))
    else
   (jj J 0 6 0 s50_4 (e50 J m [1, 1] [])))) (fun J => by kernel_rfl) (by simp only [jj_eq, ref05_place_j2_eq m M1 (ref05_place_l1 m M1) (ref05_place_l1_eq m M1), ref05_place_j4_eq m]; rfl)
theorem ref05_place_j0_eq m x0 x1 : e50 jn m [1, 0, 1] [] (s50_3 x0 x1) = ref05_place_j0 m x0 x1 :=
  tre (g := fun J => (jj J 1 2 (Nat.succ m) (s50_3 x0 x1) (l50 J m [1, 0, 1, 0] [] (Nat.succ m)))) (fun J => by kernel_rfl) (by simp only [jj_eq, ref05_place_l1_eq m]; rfl)
theorem ref05_place_eq m a0 : e50 jn m [] [] ⟨[(.dat 5 (.int a0))], [], 0⟩ = ref05_place (m + 1) a0 :=
  tre (g := fun J => (jj J 0 2 0 (s50_3 a0 0) (e50 J m [1, 0, 1] []))) (fun J => by kernel_rfl) (by simp only [jj_eq, ref05_place_j0_eq m]; rfl)
def w40_5 : List Nat := [1, 1, 1, 0, 1]
def w40_0 : List Nat := [1, 1, 1, 0, 1, 0]
def w40_4 : List Nat := w40_0 ++ [0, 1]
def w40_1 : List Nat := w40_4 ++ [1]
def w40_2 : List Nat := w40_4 ++ [0, 0, 1, 1]
def w40_3 : List Nat := w40_4 ++ [0, 0, 1, 0, 1]
noncomputable def e40 (J : Nat → Nat → Nat → St → Option (ByteArray × Bool) → Option (ByteArray × Bool)) (m : Nat) (p ms : List Nat) (σ : St) := evAt Tryz.prog env (ct m) J (m + 1) 67 43 Tryz.f67 d23 p ms σ
noncomputable def l40 (J : Nat → Nat → Nat → St → Option (ByteArray × Bool) → Option (ByteArray × Bool)) (m : Nat) (p ms : List Nat) (M : Nat) (σ : St) := loopAt Tryz.prog env (ct m) J (m + 1) 67 43 Tryz.f67 d23 p ms M σ
noncomputable def s40_6 (x0 x1 : ByteArray) (x2 : Int) : St := ⟨tsOf [(0, (.dat 9 (.str x0))), (4, (.dat 9 (.str x1))), (5, (.dat 3 (.int x2)))], [], 0⟩
noncomputable def s40_5 (x0 x1 : ByteArray) (x2 x3 x4 : Int) : St := ⟨tsOf [(0, (.dat 9 (.str x0))), (4, (.dat 9 (.str x1))), (5, (.dat 3 (.int x2))), (6, (.dat 3 (.int x3))), (7, (.dat 3 (.int x4)))], [], 0⟩
noncomputable def s40_4 (x0 x1 : ByteArray) (x2 x3 x4 : Int) (x5 : Bool) : St := ⟨tsOf [(0, (.dat 9 (.str x0))), (4, (.dat 9 (.str x1))), (5, (.dat 3 (.int x2))), (6, (.dat 3 (.int x3))), (7, (.dat 3 (.int x4))), (32, (.dat 4 (.bool x5)))], [], 0⟩
noncomputable def s40_7 (x0 : ByteArray) : St := ⟨tsOf [(4, (.dat 9 (.str x0)))], [], 0⟩
noncomputable def s40_0 (x0 : ByteArray) : St := ⟨tsOf [(0, (.dat 9 (.str x0)))], [], 0⟩
abbrev H40_2 (m M2 : Nat) (rec2 : ByteArray → ByteArray → Int → Option (ByteArray × Bool)) : Prop := ∀ x0 x1 x2, l40 jn m w40_0 [] M2 (s40_6 x0 x1 x2) = rec2 x0 x1 x2
theorem ref05_unhex_j6_eq m M2 rec2 (h2 : H40_2 m M2 rec2) x0 x1 x2 : e40 jn m w40_1 [M2] (s40_6 x0 x1 x2) = ref05_unhex_j6 m rec2 x0 x1 x2 :=
  tre (g := fun J => (jj J 1 5 M2 (s40_6 x0 x1 (IntKind.wrap .i64 (x2 + 2))) (l40 J m w40_0 [] M2))) (fun J => by kernel_rfl) (by simp only [jj_eq, h2]; rfl)
theorem ref05_unhex_j5_eq m M2 rec2 (h2 : H40_2 m M2 rec2) x0 x1 x2 x3 x4 : e40 jn m w40_2 [M2] (s40_5 x0 x1 x2 x3 x4) = ref05_unhex_j5 m rec2 x0 x1 x2 x3 x4 :=
  tre (g := fun J => (bif (Nat.ble ((ByteArray.size x1) + (ByteArray.size (strOfNums [(IntKind.wrap IntKind.u8 (IntKind.wrap .i64 ((IntKind.wrap .i64 (16 * x3)) + x4)))]))) 1152921504606846976) then
   (jj J 0 6 0 (s40_6 x0 (x1 ++ (strOfNums [(IntKind.wrap IntKind.u8 (IntKind.wrap .i64 ((IntKind.wrap .i64 (16 * x3)) + x4)))])) x2) (e40 J m w40_1 [M2]))
    else
   none)) (fun J => by kernel_rfl) (by simp only [jj_eq, ref05_unhex_j6_eq m M2 rec2 h2]; rfl)
theorem ref05_unhex_j4_eq m M2 rec2 (h2 : H40_2 m M2 rec2) x0 x1 x2 x3 x4 x5 : e40 jn m w40_3 [M2] (s40_4 x0 x1 x2 x3 x4 x5) = ref05_unhex_j4 m rec2 x0 x1 x2 x3 x4 x5 :=
  tre (g := fun J => (bif x5 then
   some ((ByteArray.mk (List.toArray [])), false)
    else
   (jj J 0 10 0 (s40_5 x0 x1 x2 x3 x4) (e40 J m w40_2 [M2])))) (fun J => by kernel_rfl) (by simp only [jj_eq, ref05_unhex_j5_eq m M2 rec2 h2]; rfl)
theorem ref05_unhex_j3_eq m M2 rec2 (h2 : H40_2 m M2 rec2) x0 x1 x2 : e40 jn m w40_4 [M2] (s40_6 x0 x1 x2) = ref05_unhex_j3 m rec2 x0 x1 x2 :=
  tre (g := fun J => ((idxS x0 x2).bind fun v0 =>
   ((ref05_place m v0).bind fun r1 =>
   ((idxS x0 (IntKind.wrap .i64 (x2 + 1))).bind fun v2 =>
   ((ref05_place m v2).bind fun r3 =>
   (bif (decide (r1 < 0)) then
   (jj J 0 9 0 (s40_4 x0 x1 x2 r1 r3 true) (e40 J m w40_3 [M2]))
   else
   (jj J 0 9 0 (s40_4 x0 x1 x2 r1 r3 (decide (r3 < 0))) (e40 J m w40_3 [M2])))))))) (fun J => by kernel_rfl) (by simp only [jj_eq, ref05_unhex_j4_eq m M2 rec2 h2]; rfl)
theorem ref05_unhex_j7_eq m x0 : e40 jn m [1, 1, 1, 1] [] (s40_7 x0) = ref05_unhex_j7 m x0 :=
  tre (g := fun J => some (x0, true)) (fun J => by kernel_rfl) (by rfl)
theorem ref05_unhex_l2_eq m : ∀ M2 x0 x1 x2, l40 jn m w40_0 [] M2 (s40_6 x0 x1 x2) = ref05_unhex_l2 m M2 x0 x1 x2
  | 0, _, _, _ => rfl
  | M2 + 1, x0, x1, x2 =>
    trl (g := fun J => (bif (decide (x2 < (ByteArray.size x0 : Int))) then
   (jj J 0 7 0 (s40_6 x0 x1 x2) (e40 J m w40_4 [M2]))
    else
   (jj J 0 11 0 (s40_7 x1) (e40 J m [1, 1, 1, 1] [])))) (fun J => by kernel_rfl) (by simp only [jj_eq, ref05_unhex_j3_eq m M2 (ref05_unhex_l2 m M2) (ref05_unhex_l2_eq m M2), ref05_unhex_j7_eq m]; rfl)
theorem ref05_unhex_j1_eq m x0 x1 x2 : e40 jn m w40_5 [] (s40_6 x0 x1 x2) = ref05_unhex_j1 m x0 x1 x2 :=
  tre (g := fun J => (jj J 1 5 (Nat.succ m) (s40_6 x0 x1 x2) (l40 J m w40_0 [] (Nat.succ m)))) (fun J => by kernel_rfl) (by simp only [jj_eq, ref05_unhex_l2_eq m]; rfl)
theorem ref05_unhex_j0_eq m x0 : e40 jn m [1, 1] [] (s40_0 x0) = ref05_unhex_j0 m x0 :=
  tre (g := fun J => (jj J 0 5 0 (s40_6 x0 (ByteArray.mk (List.toArray [])) 0) (e40 J m w40_5 []))) (fun J => by kernel_rfl) (by simp only [jj_eq, ref05_unhex_j1_eq m]; rfl)
theorem ref05_unhex_eq m a0 : e40 jn m [] [] ⟨[(.dat 9 (.str a0))], [], 0⟩ = ref05_unhex (m + 1) a0 :=
  tre (g := fun J => (bif ((Int.tmod (ByteArray.size a0 : Int) 2) == 1) then
   some ((ByteArray.mk (List.toArray [])), false)
    else
   (jj J 0 3 0 (s40_0 a0) (e40 J m [1, 1] [])))) (fun J => by kernel_rfl) (by simp only [jj_eq, ref05_unhex_j0_eq m]; rfl)
def w27_6 : List Nat := [1, 1, 1, 1, 1]
def w27_0 : List Nat := [1, 1, 1, 1, 1, 1]
def w27_5 : List Nat := [1, 1, 1, 1, 1, 0, 0, 1]
def w27_4 : List Nat := w27_5 ++ [1, 1]
def w27_3 : List Nat := w27_4 ++ [1, 1]
def w27_2 : List Nat := w27_3 ++ [1, 1]
def w27_1 : List Nat := w27_2 ++ [1, 1]
noncomputable def e27 (J : Nat → Nat → Nat → St → Option (Dt × Bool) → Option (Dt × Bool)) (m : Nat) (p ms : List Nat) (σ : St) := evAt Tryz.prog env (ct m) J (m + 1) 38 105 Tryz.f38 d15 p ms σ
noncomputable def l27 (J : Nat → Nat → Nat → St → Option (Dt × Bool) → Option (Dt × Bool)) (m : Nat) (p ms : List Nat) (M : Nat) (σ : St) := loopAt Tryz.prog env (ct m) J (m + 1) 38 105 Tryz.f38 d15 p ms M σ
noncomputable def s27_7 (x0 : Dt) : St := ⟨tsOf [(2, (.ptr 0 [] 0))], [(.box 25 (.dat 25 x0))], 0⟩
noncomputable def s27_6 (x0 : Bool) (x1 : Dt) : St := ⟨tsOf [(2, (.ptr 0 [] 0)), (87, (.dat 4 (.bool x0)))], [(.box 25 (.dat 25 x1))], 0⟩
noncomputable def s27_5 (x0 : List Dt) (x1 : Bool) (x2 x3 : Dt) : St := ⟨tsOf [(0, (.dat 23 (.lst x0))), (2, (.ptr 0 [] 0)), (4, (.ptr 1 [] 0)), (70, (.dat 4 (.bool x1)))], [(.box 25 (.dat 25 x2)), (.box 25 (.dat 25 x3))], 0⟩
noncomputable def s27_4 (x0 : List Dt) (x1 : Bool) (x2 x3 : Dt) : St := ⟨tsOf [(0, (.dat 23 (.lst x0))), (2, (.ptr 0 [] 0)), (4, (.ptr 1 [] 0)), (51, (.dat 4 (.bool x1)))], [(.box 25 (.dat 25 x2)), (.box 25 (.dat 25 x3))], 0⟩
noncomputable def s27_3 (x0 : List Dt) (x1 : ByteArray) (x2 : Bool) (x3 x4 : Dt) : St := ⟨tsOf [(0, (.dat 23 (.lst x0))), (2, (.ptr 0 [] 0)), (4, (.ptr 1 [] 0)), (5, (.dat 9 (.str x1))), (40, (.dat 4 (.bool x2)))], [(.box 25 (.dat 25 x3)), (.box 25 (.dat 25 x4))], 0⟩
noncomputable def s27_2 (x0 : List Dt) (x1 : ByteArray) (x2 x3 : Bool) (x4 x5 : Dt) : St := ⟨tsOf [(0, (.dat 23 (.lst x0))), (2, (.ptr 0 [] 0)), (4, (.ptr 1 [] 0)), (5, (.dat 9 (.str x1))), (6, (.dat 4 (.bool x2))), (24, (.dat 4 (.bool x3)))], [(.box 25 (.dat 25 x4)), (.box 25 (.dat 25 x5))], 0⟩
noncomputable def s27_1 (x0 : List Dt) (x1 : ByteArray) (x2 : Bool) (x3 x4 : Dt) : St := ⟨tsOf [(0, (.dat 23 (.lst x0))), (2, (.ptr 0 [] 0)), (4, (.ptr 1 [] 0)), (5, (.dat 9 (.str x1))), (6, (.dat 4 (.bool x2)))], [(.box 25 (.dat 25 x3)), (.box 25 (.dat 25 x4))], 0⟩
noncomputable def s27_0 (x0 : List Dt) (x1 : Dt) : St := ⟨tsOf [(0, (.dat 23 (.lst x0))), (2, (.ptr 0 [] 0))], [(.box 25 (.dat 25 x1))], 0⟩
theorem ref05_special_j7_eq m x0 : e27 jn m w27_0 [] (s27_7 x0) = ref05_special_j7 m x0 :=
  tre (g := fun J => some (kza2373, false)) (fun J => by kernel_rfl) (by rfl)
theorem ref05_special_j6_eq m x0 x1 : e27 jn m w27_1 [] (s27_6 x0 x1) = ref05_special_j6 m x0 x1 :=
  tre (g := fun J => (bif x0 then
   some (kzedecf, true)
    else
   (jj J 0 17 0 (s27_7 x1) (e27 J m w27_0 [])))) (fun J => by kernel_rfl) (by simp only [jj_eq, ref05_special_j7_eq m]; rfl)
theorem ref05_special_j5_eq m x0 x1 x2 x3 : e27 jn m w27_2 [] (s27_5 x0 x1 x2 x3) = ref05_special_j5 m x0 x1 x2 x3 :=
  tre (g := fun J => (bif x1 then
   some (kz2ef54, true)
    else
   ((idx x0 0).bind fun v6 =>
   (bif ((ByteArray.toList (Dt.S v6 0)) == [36, 109, 97, 120]) then
   (bif ((Dt.I x3 0) == 3) then
   (jj J 0 16 0 (s27_6 ((Dt.I x3 1) == 1) x2) (e27 J m w27_1 []))
   else
   (jj J 0 16 0 (s27_6 false x2) (e27 J m w27_1 [])))
   else
   (jj J 0 16 0 (s27_6 false x2) (e27 J m w27_1 [])))))) (fun J => by kernel_rfl) (by simp only [jj_eq, ref05_special_j6_eq m]; rfl)
theorem ref05_special_j4_eq m x0 x1 x2 x3 : e27 jn m w27_3 [] (s27_4 x0 x1 x2 x3) = ref05_special_j4 m x0 x1 x2 x3 :=
  tre (g := fun J => (bif x1 then
   some ((Dt.agg [(Dt.int 10), (Dt.int (Dt.I x3 1)), (Dt.str (ByteArray.mk (List.toArray []))), (Dt.lst []), (Dt.lst [])]), true)
    else
   ((idx x0 0).bind fun v5 =>
   (bif ((ByteArray.toList (Dt.S v5 0)) == [36, 109, 105, 110]) then
   (bif ((Dt.I x3 0) == 3) then
   (jj J 0 14 0 (s27_5 x0 ((Dt.I x3 1) == 1) x2 x3) (e27 J m w27_2 []))
   else
   (jj J 0 14 0 (s27_5 x0 false x2 x3) (e27 J m w27_2 [])))
   else
   (jj J 0 14 0 (s27_5 x0 false x2 x3) (e27 J m w27_2 [])))))) (fun J => by kernel_rfl) (by simp only [jj_eq, ref05_special_j5_eq m]; rfl)
theorem ref05_special_j3_eq m x0 x1 x2 x3 x4 : e27 jn m w27_4 [] (s27_3 x0 x1 x2 x3 x4) = ref05_special_j3 m x0 x1 x2 x3 x4 :=
  tre (g := fun J => (bif x2 then
   some ((Dt.agg [(Dt.int 7), (Dt.int 0), (Dt.str x1), (Dt.lst []), (Dt.lst [])]), true)
    else
   ((idx x0 0).bind fun v4 =>
   (bif ((ByteArray.toList (Dt.S v4 0)) == [36, 116, 105, 109, 101]) then
   (bif ((Dt.I x4 0) == 3) then
   (jj J 0 12 0 (s27_4 x0 (decide (0 ≤ (Dt.I x4 1))) x3 x4) (e27 J m w27_3 []))
   else
   (jj J 0 12 0 (s27_4 x0 false x3 x4) (e27 J m w27_3 [])))
   else
   (jj J 0 12 0 (s27_4 x0 false x3 x4) (e27 J m w27_3 [])))))) (fun J => by kernel_rfl) (by simp only [jj_eq, ref05_special_j4_eq m]; rfl)
theorem ref05_special_j2_eq m x0 x1 x2 x3 x4 x5 : e27 jn m w27_5 [] (s27_2 x0 x1 x2 x3 x4 x5) = ref05_special_j2 m x0 x1 x2 x3 x4 x5 :=
  tre (g := fun J => (bif x3 then
   some ((Dt.agg [(Dt.int 8), (Dt.int 0), (Dt.str x1), (Dt.lst []), (Dt.lst [])]), true)
    else
   ((idx x0 0).bind fun v3 =>
   (bif ((ByteArray.toList (Dt.S v3 0)) == [36, 98, 121, 116, 101, 115]) then
   (jj J 0 10 0 (s27_3 x0 x1 x2 x4 x5) (e27 J m w27_4 []))
   else
   (jj J 0 10 0 (s27_3 x0 x1 false x4 x5) (e27 J m w27_4 [])))))) (fun J => by kernel_rfl) (by simp only [jj_eq, ref05_special_j3_eq m]; rfl)
theorem ref05_special_j1_eq m x0 x1 x2 x3 x4 : e27 jn m w27_6 [] (s27_1 x0 x1 x2 x3 x4) = ref05_special_j1 m x0 x1 x2 x3 x4 :=
  tre (g := fun J => ((idx x0 0).bind fun v2 =>
   (bif ((ByteArray.toList (Dt.S v2 0)) == [36, 105, 100]) then
   (bif x2 then
   (jj J 0 8 0 (s27_2 x0 x1 x2 ((ByteArray.size x1 : Int) == 12) x3 x4) (e27 J m w27_5 []))
   else
   (jj J 0 8 0 (s27_2 x0 x1 x2 false x3 x4) (e27 J m w27_5 [])))
   else
   (jj J 0 8 0 (s27_2 x0 x1 x2 false x3 x4) (e27 J m w27_5 []))))) (fun J => by kernel_rfl) (by simp only [jj_eq, ref05_special_j2_eq m]; rfl)
theorem ref05_special_j0_eq m x0 x1 : e27 jn m [1, 1] [] (s27_0 x0 x1) = ref05_special_j0 m x0 x1 :=
  tre (g := fun J => ((idx x0 0).bind fun v0 =>
   (bif ((Dt.I (Dt.fld v0 1) 0) == 4) then
   ((ref05_unhex m (Dt.S (Dt.fld v0 1) 2)).bind fun r1 =>
   (jj J 0 7 0 (s27_1 x0 r1.1 r1.2 x1 (Dt.fld v0 1)) (e27 J m w27_6 [])))
   else
   (jj J 0 7 0 (s27_1 x0 (ByteArray.mk (List.toArray [])) false x1 (Dt.fld v0 1)) (e27 J m w27_6 []))))) (fun J => by kernel_rfl) (by simp only [jj_eq, ref05_special_j1_eq m]; rfl)
theorem ref05_special_eq m a0 : e27 jn m [] [] ⟨[(.dat 23 (.lst a0))], [], 0⟩ = ref05_special (m + 1) a0 :=
  tre (g := fun J => (bif ((List.length a0 : Int) != 1) then
   some (kza2373, false)
    else
   (jj J 0 3 0 (s27_0 a0 kza2373) (e27 J m [1, 1] [])))) (fun J => by kernel_rfl) (by simp only [jj_eq, ref05_special_j0_eq m]; rfl)
def w17_6 : List Nat := [1, 1, 1, 1, 1]
def w17_8 : List Nat := [1, 1, 1, 0, 1]
def w17_9 : List Nat := [1, 1, 0, 1, 1]
def w17_0 : List Nat := [1, 1, 1, 0, 1, 0]
def w17_7 : List Nat := [1, 1, 1, 1, 0, 1]
def w17_3 : List Nat := w17_7 ++ [0]
def w17_2 : List Nat := w17_0 ++ [0, 1]
def w17_1 : List Nat := w17_2 ++ [1]
def w17_5 : List Nat := w17_3 ++ [0, 1]
def w17_4 : List Nat := w17_5 ++ [1]
noncomputable def e17 (J : Nat → Nat → Nat → St → Option Int → Option Int) (m : Nat) (p ms : List Nat) (σ : St) := evAt Tryz.prog env (ct m) J (m + 1) 17 63 Tryz.f17 d17 p ms σ
noncomputable def l17 (J : Nat → Nat → Nat → St → Option Int → Option Int) (m : Nat) (p ms : List Nat) (M : Nat) (σ : St) := loopAt Tryz.prog env (ct m) J (m + 1) 17 63 Tryz.f17 d17 p ms M σ
noncomputable def s17_7 (x0 : Int) (x1 : Dt) : St := ⟨tsOf [(1, (.ptr 0 [] 0)), (5, (.dat 3 (.int x0)))], [(.box 25 (.dat 25 x1))], 0⟩
noncomputable def s17_12 (x0 : Int) (x1 : Dt) : St := ⟨tsOf [(1, (.ptr 0 [] 0)), (7, (.dat 3 (.int x0)))], [(.box 25 (.dat 25 x1))], 0⟩
noncomputable def s17_13 : St := ⟨tsOf [], [], 0⟩
noncomputable def s17_8 (x0 : Dt) : St := ⟨tsOf [(1, (.ptr 0 [] 0))], [(.box 25 (.dat 25 x0))], 0⟩
noncomputable def s17_2 (x0 : Bool) (x1 : Dt) : St := ⟨tsOf [(1, (.ptr 0 [] 0)), (29, (.dat 4 (.bool x0)))], [(.box 25 (.dat 25 x1))], 0⟩
noncomputable def s17_0 (x0 : Bool) (x1 : Dt) : St := ⟨tsOf [(1, (.ptr 0 [] 0)), (17, (.dat 4 (.bool x0)))], [(.box 25 (.dat 25 x1))], 0⟩
abbrev H17_5 (m M5 : Nat) (rec5 : Int → Dt → Option Int) : Prop := ∀ x0 x1, l17 jn m w17_0 [] M5 (s17_7 x0 x1) = rec5 x0 x1
theorem ref05_printable_j7_eq m M5 rec5 (h5 : H17_5 m M5 rec5) x0 x1 : e17 jn m w17_1 [M5] (s17_7 x0 x1) = ref05_printable_j7 m (ref05_printable m) rec5 x0 x1 :=
  tre (g := fun J => (jj J 1 7 M5 (s17_7 (IntKind.wrap .i64 (x0 + 1)) x1) (l17 J m w17_0 [] M5))) (fun J => by kernel_rfl) (by simp only [jj_eq, h5]; rfl)
theorem ref05_printable_j6_eq m M5 rec5 (h5 : H17_5 m M5 rec5) x0 x1 : e17 jn m w17_2 [M5] (s17_7 x0 x1) = ref05_printable_j6 m (ref05_printable m) rec5 x0 x1 :=
  tre (g := fun J => ((idx (Dt.L x1 3) x0).bind fun v1 =>
   ((ref05_printable m v1).bind fun r2 =>
   (bif (r2 != 0) then
   some r2
   else
   (jj J 0 8 0 (s17_7 x0 x1) (e17 J m w17_1 [M5])))))) (fun J => by kernel_rfl) (by simp only [jj_eq, ref05_printable_j7_eq m M5 rec5 h5]; rfl)
abbrev H17_10 (m M10 : Nat) (rec10 : Int → Dt → Option Int) : Prop := ∀ x0 x1, l17 jn m w17_3 [] M10 (s17_12 x0 x1) = rec10 x0 x1
theorem ref05_printable_j12_eq m M10 rec10 (h10 : H17_10 m M10 rec10) x0 x1 : e17 jn m w17_4 [M10] (s17_12 x0 x1) = ref05_printable_j12 m (ref05_printable m) rec10 x0 x1 :=
  tre (g := fun J => (jj J 1 13 M10 (s17_12 (IntKind.wrap .i64 (x0 + 1)) x1) (l17 J m w17_3 [] M10))) (fun J => by kernel_rfl) (by simp only [jj_eq, h10]; rfl)
theorem ref05_printable_j11_eq m M10 rec10 (h10 : H17_10 m M10 rec10) x0 x1 : e17 jn m w17_5 [M10] (s17_12 x0 x1) = ref05_printable_j11 m (ref05_printable m) rec10 x0 x1 :=
  tre (g := fun J => ((idx (Dt.L x1 4) x0).bind fun v3 =>
   ((ref05_printable m (Dt.fld v3 1)).bind fun r4 =>
   (bif (r4 != 0) then
   some r4
   else
   (jj J 0 14 0 (s17_12 x0 x1) (e17 J m w17_4 [M10])))))) (fun J => by kernel_rfl) (by simp only [jj_eq, ref05_printable_j12_eq m M10 rec10 h10]; rfl)
theorem ref05_printable_j13_eq m : e17 jn m w17_6 [] s17_13 = ref05_printable_j13 m (ref05_printable m) :=
  tre (g := fun J => some 0) (fun J => by kernel_rfl) (by rfl)
theorem ref05_printable_l10_eq m : ∀ M10 x0 x1, l17 jn m w17_3 [] M10 (s17_12 x0 x1) = ref05_printable_l10 m (ref05_printable m) M10 x0 x1
  | 0, _, _ => rfl
  | M10 + 1, x0, x1 =>
    trl (g := fun J => (bif (decide (x0 < (List.length (Dt.L x1 4) : Int))) then
   (jj J 0 15 0 (s17_12 x0 x1) (e17 J m w17_5 [M10]))
    else
   (jj J 0 18 0 s17_13 (e17 J m w17_6 [])))) (fun J => by kernel_rfl) (by simp only [jj_eq, ref05_printable_j11_eq m M10 (ref05_printable_l10 m (ref05_printable m) M10) (ref05_printable_l10_eq m M10), ref05_printable_j13_eq m]; rfl)
theorem ref05_printable_j9_eq m x0 x1 : e17 jn m w17_7 [] (s17_12 x0 x1) = ref05_printable_j9 m (ref05_printable m) x0 x1 :=
  tre (g := fun J => (jj J 1 13 (Nat.succ m) (s17_12 x0 x1) (l17 J m w17_3 [] (Nat.succ m)))) (fun J => by kernel_rfl) (by simp only [jj_eq, ref05_printable_l10_eq m]; rfl)
theorem ref05_printable_j8_eq m x0 : e17 jn m [1, 1, 1, 1] [] (s17_8 x0) = ref05_printable_j8 m (ref05_printable m) x0 :=
  tre (g := fun J => (jj J 0 13 0 (s17_12 0 x0) (e17 J m w17_7 []))) (fun J => by kernel_rfl) (by simp only [jj_eq, ref05_printable_j9_eq m]; rfl)
theorem ref05_printable_l5_eq m : ∀ M5 x0 x1, l17 jn m w17_0 [] M5 (s17_7 x0 x1) = ref05_printable_l5 m (ref05_printable m) M5 x0 x1
  | 0, _, _ => rfl
  | M5 + 1, x0, x1 =>
    trl (g := fun J => (bif (decide (x0 < (List.length (Dt.L x1 3) : Int))) then
   (jj J 0 9 0 (s17_7 x0 x1) (e17 J m w17_2 [M5]))
    else
   (jj J 0 12 0 (s17_8 x1) (e17 J m [1, 1, 1, 1] [])))) (fun J => by kernel_rfl) (by simp only [jj_eq, ref05_printable_j6_eq m M5 (ref05_printable_l5 m (ref05_printable m) M5) (ref05_printable_l5_eq m M5), ref05_printable_j8_eq m]; rfl)
theorem ref05_printable_j4_eq m x0 x1 : e17 jn m w17_8 [] (s17_7 x0 x1) = ref05_printable_j4 m (ref05_printable m) x0 x1 :=
  tre (g := fun J => (jj J 1 7 (Nat.succ m) (s17_7 x0 x1) (l17 J m w17_0 [] (Nat.succ m)))) (fun J => by kernel_rfl) (by simp only [jj_eq, ref05_printable_l5_eq m]; rfl)
theorem ref05_printable_j3_eq m x0 : e17 jn m [1, 1, 1] [] (s17_8 x0) = ref05_printable_j3 m (ref05_printable m) x0 :=
  tre (g := fun J => (jj J 0 7 0 (s17_7 0 x0) (e17 J m w17_8 []))) (fun J => by kernel_rfl) (by simp only [jj_eq, ref05_printable_j4_eq m]; rfl)
theorem ref05_printable_j2_eq m x0 x1 : e17 jn m w17_9 [] (s17_2 x0 x1) = ref05_printable_j2 m (ref05_printable m) x0 x1 :=
  tre (g := fun J => (bif x0 then
   some 4
    else
   (jj J 0 6 0 (s17_8 x1) (e17 J m [1, 1, 1] [])))) (fun J => by kernel_rfl) (by simp only [jj_eq, ref05_printable_j3_eq m]; rfl)
theorem ref05_printable_j1_eq m x0 : e17 jn m [1, 1] [] (s17_8 x0) = ref05_printable_j1 m (ref05_printable m) x0 :=
  tre (g := fun J => ((ref05_special m (Dt.L x0 4)).bind fun r0 =>
   (bif ((Dt.I x0 0) == 5) then
   (jj J 0 5 0 (s17_2 r0.2 x0) (e17 J m w17_9 []))
   else
   (jj J 0 5 0 (s17_2 false x0) (e17 J m w17_9 []))))) (fun J => by kernel_rfl) (by simp only [jj_eq, ref05_printable_j2_eq m]; rfl)
theorem ref05_printable_j0_eq m x0 x1 : e17 jn m [1, 0, 1] [] (s17_0 x0 x1) = ref05_printable_j0 m (ref05_printable m) x0 x1 :=
  tre (g := fun J => (bif x0 then
   some 2
    else
   (jj J 0 3 0 (s17_8 x1) (e17 J m [1, 1] [])))) (fun J => by kernel_rfl) (by simp only [jj_eq, ref05_printable_j1_eq m]; rfl)
theorem ref05_printable_eq m a0 : e17 jn m [] [] ⟨[(.dat 25 a0)], [], 0⟩ = ref05_printable (m + 1) a0 :=
  tre (g := fun J => (bif ((Dt.I a0 0) == 7) then
   (jj J 0 2 0 (s17_0 (decide (2048 < (ByteArray.size (Dt.S a0 2) : Int))) a0) (e17 J m [1, 0, 1] []))
    else
   (jj J 0 2 0 (s17_0 false a0) (e17 J m [1, 0, 1] [])))) (fun J => by kernel_rfl) (by simp only [jj_eq, ref05_printable_j0_eq m]; rfl)
def w51_0 : List Nat := [1, 1, 0, 1, 0]
def w51_3 : List Nat := [1, 1, 0, 1, 0, 0, 1, 1]
def w51_1 : List Nat := w51_3 ++ [1]
def w51_2 : List Nat := w51_3 ++ [0, 0, 1, 1]
noncomputable def e51 (J : Nat → Nat → Nat → St → Option Bool → Option Bool) (m : Nat) (p ms : List Nat) (σ : St) := evAt Tryz.prog env (ct m) J (m + 1) 96 39 Tryz.f96 d1 p ms σ
noncomputable def l51 (J : Nat → Nat → Nat → St → Option Bool → Option Bool) (m : Nat) (p ms : List Nat) (M : Nat) (σ : St) := loopAt Tryz.prog env (ct m) J (m + 1) 96 39 Tryz.f96 d1 p ms M σ
noncomputable def s51_6 (x0 : ByteArray) (x1 x2 : Int) : St := ⟨tsOf [(0, (.dat 9 (.str x0))), (18, (.dat 3 (.int x1))), (19, (.dat 3 (.int x2)))], [], 0⟩
noncomputable def s51_5 (x0 : ByteArray) (x1 x2 : Int) (x3 : Bool) : St := ⟨tsOf [(0, (.dat 9 (.str x0))), (18, (.dat 3 (.int x1))), (19, (.dat 3 (.int x2))), (37, (.dat 4 (.bool x3)))], [], 0⟩
noncomputable def s51_7 : St := ⟨tsOf [], [], 0⟩
noncomputable def s51_1 (x0 : ByteArray) : St := ⟨tsOf [(0, (.dat 9 (.str x0)))], [], 0⟩
noncomputable def s51_0 (x0 : ByteArray) (x1 : Bool) : St := ⟨tsOf [(0, (.dat 9 (.str x0))), (16, (.dat 4 (.bool x1)))], [], 0⟩
abbrev H51_3 (m M3 : Nat) (rec3 : ByteArray → Int → Int → Option Bool) : Prop := ∀ x0 x1 x2, l51 jn m w51_0 [] M3 (s51_6 x0 x1 x2) = rec3 x0 x1 x2
theorem value_isName_j6_eq m M3 rec3 (h3 : H51_3 m M3 rec3) x0 x1 x2 : e51 jn m w51_1 [M3] (s51_6 x0 x1 x2) = value_isName_j6 m rec3 x0 x1 x2 :=
  tre (g := fun J => (jj J 1 4 M3 (s51_6 x0 x1 (IntKind.wrap .i64 (x2 + 1))) (l51 J m w51_0 [] M3))) (fun J => by kernel_rfl) (by simp only [jj_eq, h3]; rfl)
theorem value_isName_j5_eq m M3 rec3 (h3 : H51_3 m M3 rec3) x0 x1 x2 x3 : e51 jn m w51_2 [M3] (s51_5 x0 x1 x2 x3) = value_isName_j5 m rec3 x0 x1 x2 x3 :=
  tre (g := fun J => (bif x3 then
   some false
    else
   (jj J 0 8 0 (s51_6 x0 x1 x2) (e51 J m w51_1 [M3])))) (fun J => by kernel_rfl) (by simp only [jj_eq, value_isName_j6_eq m M3 rec3 h3]; rfl)
theorem value_isName_j4_eq m M3 rec3 (h3 : H51_3 m M3 rec3) x0 x1 x2 : e51 jn m w51_3 [M3] (s51_6 x0 x1 x2) = value_isName_j4 m rec3 x0 x1 x2 :=
  tre (g := fun J => ((idxS x0 x2).bind fun v0 =>
   (bif (decide (v0 < 33)) then
   (jj J 0 7 0 (s51_5 x0 x1 x2 true) (e51 J m w51_2 [M3]))
   else
   ((idxS x0 x2).bind fun v1 =>
   (bif (decide (126 < v1)) then
   (jj J 0 7 0 (s51_5 x0 x1 x2 true) (e51 J m w51_2 [M3]))
   else
   ((idxS x0 x2).bind fun v2 =>
   (jj J 0 7 0 (s51_5 x0 x1 x2 (v2 == 46)) (e51 J m w51_2 [M3])))))))) (fun J => by kernel_rfl) (by simp only [jj_eq, value_isName_j5_eq m M3 rec3 h3]; rfl)
theorem value_isName_j7_eq m : e51 jn m [1, 1, 1] [] s51_7 = value_isName_j7 m :=
  tre (g := fun J => some true) (fun J => by kernel_rfl) (by rfl)
theorem value_isName_l3_eq m : ∀ M3 x0 x1 x2, l51 jn m w51_0 [] M3 (s51_6 x0 x1 x2) = value_isName_l3 m M3 x0 x1 x2
  | 0, _, _, _ => rfl
  | M3 + 1, x0, x1, x2 =>
    trl (g := fun J => (bif (decide (x2 < x1)) then
   (jj J 0 5 0 (s51_6 x0 x1 x2) (e51 J m w51_3 [M3]))
    else
   (jj J 0 9 0 s51_7 (e51 J m [1, 1, 1] [])))) (fun J => by kernel_rfl) (by simp only [jj_eq, value_isName_j4_eq m M3 (value_isName_l3 m M3) (value_isName_l3_eq m M3), value_isName_j7_eq m]; rfl)
theorem value_isName_j2_eq m x0 x1 x2 : e51 jn m [1, 1, 0, 1] [] (s51_6 x0 x1 x2) = value_isName_j2 m x0 x1 x2 :=
  tre (g := fun J => (jj J 1 4 (Nat.succ m) (s51_6 x0 x1 x2) (l51 J m w51_0 [] (Nat.succ m)))) (fun J => by kernel_rfl) (by simp only [jj_eq, value_isName_l3_eq m]; rfl)
theorem value_isName_j1_eq m x0 : e51 jn m [1, 1] [] (s51_1 x0) = value_isName_j1 m x0 :=
  tre (g := fun J => (jj J 0 4 0 (s51_6 x0 (ByteArray.size x0 : Int) 0) (e51 J m [1, 1, 0, 1] []))) (fun J => by kernel_rfl) (by simp only [jj_eq, value_isName_j2_eq m]; rfl)
theorem value_isName_j0_eq m x0 x1 : e51 jn m [1, 0, 1] [] (s51_0 x0 x1) = value_isName_j0 m x0 x1 :=
  tre (g := fun J => (bif x1 then
   some false
    else
   (jj J 0 3 0 (s51_1 x0) (e51 J m [1, 1] [])))) (fun J => by kernel_rfl) (by simp only [jj_eq, value_isName_j1_eq m]; rfl)
theorem value_isName_eq m a0 : e51 jn m [] [] ⟨[(.dat 9 (.str a0))], [], 0⟩ = value_isName (m + 1) a0 :=
  tre (g := fun J => (bif (decide ((ByteArray.size a0 : Int) < 1)) then
   (jj J 0 2 0 (s51_0 a0 true) (e51 J m [1, 0, 1] []))
    else
   (bif (decide (32 < (ByteArray.size a0 : Int))) then
   (jj J 0 2 0 (s51_0 a0 true) (e51 J m [1, 0, 1] []))
   else
   ((idxS a0 0).bind fun v3 =>
   (jj J 0 2 0 (s51_0 a0 (v3 == 36)) (e51 J m [1, 0, 1] [])))))) (fun J => by kernel_rfl) (by simp only [jj_eq, value_isName_j0_eq m]; rfl)
def w34_7 : List Nat := [1, 1, 1, 1, 1]
def w34_9 : List Nat := [1, 1, 1, 0, 1]
def w34_5 : List Nat := [1, 1, 1, 1, 1, 1]
def w34_8 : List Nat := [1, 1, 1, 1, 0, 1]
def w34_6 : List Nat := [1, 1, 1, 1, 1, 0, 1, 0, 1]
def w34_3 : List Nat := w34_6 ++ [1, 1, 1, 1, 1, 1, 1, 1, 1, 1, 1, 1, 0, 1]
def w34_4 : List Nat := w34_6 ++ [1, 1, 1, 1, 1, 1, 1, 1, 1, 1, 1, 1, 0, 0, 1]
def w34_0 : List Nat := w34_4 ++ [0]
def w34_2 : List Nat := w34_0 ++ [0, 1, 1]
def w34_1 : List Nat := w34_2 ++ [1]
noncomputable def e34 (J : Nat → Nat → Nat → St → Option Bool → Option Bool) (m : Nat) (p ms : List Nat) (σ : St) := evAt Tryz.prog env (ct m) J (m + 1) 59 132 Tryz.f59 d1 p ms σ
noncomputable def l34 (J : Nat → Nat → Nat → St → Option Bool → Option Bool) (m : Nat) (p ms : List Nat) (M : Nat) (σ : St) := loopAt Tryz.prog env (ct m) J (m + 1) 59 132 Tryz.f59 d1 p ms M σ
noncomputable def s34_10 (x0 : List Dt) (x1 x2 : Int) : St := ⟨tsOf [(117, (.dat 22 (.lst x0))), (118, (.dat 3 (.int x1))), (119, (.dat 3 (.int x2)))], [], 0⟩
noncomputable def s34_11 : St := ⟨tsOf [], [], 0⟩
noncomputable def s34_6 (x0 : Int) (x1 : Bool) (x2 : Dt) : St := ⟨tsOf [(1, (.ptr 0 [] 0)), (70, (.dat 3 (.int x0))), (71, (.dat 4 (.bool x1)))], [(.box 25 (.dat 25 x2))], 0⟩
noncomputable def s34_5 (x0 : Dt) : St := ⟨tsOf [(1, (.ptr 0 [] 0))], [(.box 25 (.dat 25 x0))], 0⟩
noncomputable def s34_4 (x0 : Bool) (x1 : Dt) : St := ⟨tsOf [(1, (.ptr 0 [] 0)), (68, (.dat 4 (.bool x0)))], [(.box 25 (.dat 25 x1))], 0⟩
noncomputable def s34_2 (x0 : Bool) (x1 : Dt) : St := ⟨tsOf [(1, (.ptr 0 [] 0)), (48, (.dat 4 (.bool x0)))], [(.box 25 (.dat 25 x1))], 0⟩
noncomputable def s34_1 (x0 x1 : Bool) (x2 : Dt) : St := ⟨tsOf [(1, (.ptr 0 [] 0)), (3, (.dat 4 (.bool x0))), (4, (.dat 4 (.bool x1)))], [(.box 25 (.dat 25 x2))], 0⟩
noncomputable def s34_0 (x0 : Bool) (x1 : Dt) : St := ⟨tsOf [(1, (.ptr 0 [] 0)), (3, (.dat 4 (.bool x0)))], [(.box 25 (.dat 25 x1))], 0⟩
abbrev H34_8 (m M8 : Nat) (rec8 : List Dt → Int → Int → Option Bool) : Prop := ∀ x0 x1 x2, l34 jn m w34_0 [] M8 (s34_10 x0 x1 x2) = rec8 x0 x1 x2
theorem value_sound_j10_eq m M8 rec8 (h8 : H34_8 m M8 rec8) x0 x1 x2 : e34 jn m w34_1 [M8] (s34_10 x0 x1 x2) = value_sound_j10 m (value_sound m) (value_soundFields m) rec8 x0 x1 x2 :=
  tre (g := fun J => (jj J 1 25 M8 (s34_10 x0 x1 (IntKind.wrap .i64 (x2 + 1))) (l34 J m w34_0 [] M8))) (fun J => by kernel_rfl) (by simp only [jj_eq, h8]; rfl)
theorem value_sound_j9_eq m M8 rec8 (h8 : H34_8 m M8 rec8) x0 x1 x2 : e34 jn m w34_2 [M8] (s34_10 x0 x1 x2) = value_sound_j9 m (value_sound m) (value_soundFields m) rec8 x0 x1 x2 :=
  tre (g := fun J => ((idx x0 x2).bind fun v1 =>
   ((value_sound m v1).bind fun r2 =>
   (bif (Bool.not r2) then
   some false
   else
   (jj J 0 29 0 (s34_10 x0 x1 x2) (e34 J m w34_1 [M8])))))) (fun J => by kernel_rfl) (by simp only [jj_eq, value_sound_j10_eq m M8 rec8 h8]; rfl)
theorem value_sound_j11_eq m : e34 jn m w34_3 [] s34_11 = value_sound_j11 m (value_sound m) (value_soundFields m) :=
  tre (g := fun J => some true) (fun J => by kernel_rfl) (by rfl)
theorem value_sound_l8_eq m : ∀ M8 x0 x1 x2, l34 jn m w34_0 [] M8 (s34_10 x0 x1 x2) = value_sound_l8 m (value_sound m) (value_soundFields m) M8 x0 x1 x2
  | 0, _, _, _ => rfl
  | M8 + 1, x0, x1, x2 =>
    trl (g := fun J => (bif (decide (x2 < x1)) then
   (jj J 0 26 0 (s34_10 x0 x1 x2) (e34 J m w34_2 [M8]))
    else
   (jj J 0 30 0 s34_11 (e34 J m w34_3 [])))) (fun J => by kernel_rfl) (by simp only [jj_eq, value_sound_j9_eq m M8 (value_sound_l8 m (value_sound m) (value_soundFields m) M8) (value_sound_l8_eq m M8), value_sound_j11_eq m]; rfl)
theorem value_sound_j7_eq m x0 x1 x2 : e34 jn m w34_4 [] (s34_10 x0 x1 x2) = value_sound_j7 m (value_sound m) (value_soundFields m) x0 x1 x2 :=
  tre (g := fun J => (jj J 1 25 (Nat.succ m) (s34_10 x0 x1 x2) (l34 J m w34_0 [] (Nat.succ m)))) (fun J => by kernel_rfl) (by simp only [jj_eq, value_sound_l8_eq m]; rfl)
theorem value_sound_j12_eq m : e34 jn m w34_5 [] s34_11 = value_sound_j12 m (value_sound m) (value_soundFields m) :=
  tre (g := fun J => some false) (fun J => by kernel_rfl) (by rfl)
theorem value_sound_j6_eq m x0 x1 x2 : e34 jn m w34_6 [] (s34_6 x0 x1 x2) = value_sound_j6 m (value_sound m) (value_soundFields m) x0 x1 x2 :=
  tre (g := fun J => (bif x1 then
   some true
    else
   (bif (x0 == 9) then
   (bif ((Dt.I x2 1) == 0) then
   some true
   else
   some ((Dt.I x2 1) == 1))
   else
   (bif (x0 == 10) then
   some (decide (0 ≤ (Dt.I x2 1)))
   else
   (bif (x0 == 4) then
   (bif (decide ((ByteArray.size (Dt.S x2 2) : Int) ≤ 4096)) then
   ((utf8_ValidString (Dt.S x2 2)).bind fun r0 =>
   some r0)
   else
   some false)
   else
   (bif (x0 == 7) then
   some (decide ((ByteArray.size (Dt.S x2 2) : Int) ≤ 4096))
   else
   (bif (x0 == 8) then
   some ((ByteArray.size (Dt.S x2 2) : Int) == 12)
   else
   (bif (x0 == 6) then
   (jj J 0 25 0 (s34_10 (Dt.L x2 3) (List.length (Dt.L x2 3) : Int) 0) (e34 J m w34_4 []))
   else
   (bif (x0 == 5) then
   ((value_soundFields m (Dt.L x2 4)).bind fun r3 =>
   some r3)
   else
   (jj J 0 33 0 s34_11 (e34 J m w34_5 []))))))))))) (fun J => by kernel_rfl) (by simp only [jj_eq, value_sound_j7_eq m, value_sound_j12_eq m]; rfl)
theorem value_sound_j5_eq m x0 : e34 jn m w34_7 [] (s34_5 x0) = value_sound_j5 m (value_sound m) (value_soundFields m) x0 :=
  tre (g := fun J => (bif ((Dt.I x0 0) == 1) then
   (jj J 0 12 0 (s34_6 (Dt.I x0 0) ((Dt.I x0 0) == 1) x0) (e34 J m w34_6 []))
    else
   (bif ((Dt.I x0 0) == 2) then
   (jj J 0 12 0 (s34_6 (Dt.I x0 0) ((Dt.I x0 0) == 2) x0) (e34 J m w34_6 []))
   else
   (bif ((Dt.I x0 0) == 11) then
   (jj J 0 12 0 (s34_6 (Dt.I x0 0) ((Dt.I x0 0) == 11) x0) (e34 J m w34_6 []))
   else
   (jj J 0 12 0 (s34_6 (Dt.I x0 0) ((Dt.I x0 0) == 3) x0) (e34 J m w34_6 [])))))) (fun J => by kernel_rfl) (by simp only [jj_eq, value_sound_j6_eq m]; rfl)
theorem value_sound_j4_eq m x0 x1 : e34 jn m w34_8 [] (s34_4 x0 x1) = value_sound_j4 m (value_sound m) (value_soundFields m) x0 x1 :=
  tre (g := fun J => (bif x0 then
   some false
    else
   (jj J 0 7 0 (s34_5 x1) (e34 J m w34_7 [])))) (fun J => by kernel_rfl) (by simp only [jj_eq, value_sound_j5_eq m]; rfl)
theorem value_sound_j3_eq m x0 : e34 jn m [1, 1, 1, 1] [] (s34_5 x0) = value_sound_j3 m (value_sound m) (value_soundFields m) x0 :=
  tre (g := fun J => (bif ((Dt.I x0 0) != 6) then
   (bif (decide (0 < (List.length (Dt.L x0 3) : Int))) then
   (jj J 0 6 0 (s34_4 true x0) (e34 J m w34_8 []))
   else
   (bif ((Dt.I x0 0) != 5) then
   (jj J 0 6 0 (s34_4 (decide (0 < (List.length (Dt.L x0 4) : Int))) x0) (e34 J m w34_8 []))
   else
   (jj J 0 6 0 (s34_4 false x0) (e34 J m w34_8 []))))
    else
   (bif ((Dt.I x0 0) != 5) then
   (jj J 0 6 0 (s34_4 (decide (0 < (List.length (Dt.L x0 4) : Int))) x0) (e34 J m w34_8 []))
   else
   (jj J 0 6 0 (s34_4 false x0) (e34 J m w34_8 []))))) (fun J => by kernel_rfl) (by simp only [jj_eq, value_sound_j4_eq m]; rfl)
theorem value_sound_j2_eq m x0 x1 : e34 jn m w34_9 [] (s34_2 x0 x1) = value_sound_j2 m (value_sound m) (value_soundFields m) x0 x1 :=
  tre (g := fun J => (bif x0 then
   some false
    else
   (jj J 0 5 0 (s34_5 x1) (e34 J m [1, 1, 1, 1] [])))) (fun J => by kernel_rfl) (by simp only [jj_eq, value_sound_j3_eq m]; rfl)
theorem value_sound_j1_eq m x0 x1 x2 : e34 jn m [1, 1, 1] [] (s34_1 x0 x1 x2) = value_sound_j1 m (value_sound m) (value_soundFields m) x0 x1 x2 :=
  tre (g := fun J => (bif (Bool.not x0) then
   (bif ((Dt.I x2 1) != 0) then
   (jj J 0 4 0 (s34_2 true x2) (e34 J m w34_9 []))
   else
   (bif (Bool.not x1) then
   (jj J 0 4 0 (s34_2 (Bool.not ((ByteArray.toList (Dt.S x2 2)) == [])) x2) (e34 J m w34_9 []))
   else
   (jj J 0 4 0 (s34_2 false x2) (e34 J m w34_9 []))))
    else
   (bif (Bool.not x1) then
   (jj J 0 4 0 (s34_2 (Bool.not ((ByteArray.toList (Dt.S x2 2)) == [])) x2) (e34 J m w34_9 []))
   else
   (jj J 0 4 0 (s34_2 false x2) (e34 J m w34_9 []))))) (fun J => by kernel_rfl) (by simp only [jj_eq, value_sound_j2_eq m]; rfl)
theorem value_sound_j0_eq m x0 x1 : e34 jn m [1, 1] [] (s34_0 x0 x1) = value_sound_j0 m (value_sound m) (value_soundFields m) x0 x1 :=
  tre (g := fun J => (bif ((Dt.I x1 0) == 4) then
   (jj J 0 3 0 (s34_1 x0 true x1) (e34 J m [1, 1, 1] []))
    else
   (bif ((Dt.I x1 0) == 7) then
   (jj J 0 3 0 (s34_1 x0 true x1) (e34 J m [1, 1, 1] []))
   else
   (jj J 0 3 0 (s34_1 x0 ((Dt.I x1 0) == 8) x1) (e34 J m [1, 1, 1] []))))) (fun J => by kernel_rfl) (by simp only [jj_eq, value_sound_j1_eq m]; rfl)
theorem value_sound_eq m a0 : e34 jn m [] [] ⟨[(.dat 25 a0)], [], 0⟩ = value_sound (m + 1) a0 :=
  tre (g := fun J => (bif ((Dt.I a0 0) == 3) then
   (jj J 0 2 0 (s34_0 true a0) (e34 J m [1, 1] []))
    else
   (bif ((Dt.I a0 0) == 9) then
   (jj J 0 2 0 (s34_0 true a0) (e34 J m [1, 1] []))
   else
   (jj J 0 2 0 (s34_0 ((Dt.I a0 0) == 10) a0) (e34 J m [1, 1] []))))) (fun J => by kernel_rfl) (by simp only [jj_eq, value_sound_j0_eq m]; rfl)
def w45_0 : List Nat := [1, 1, 0, 1, 0]
def w45_4 : List Nat := [1, 1, 0, 1, 0, 0, 1, 1]
def w45_1 : List Nat := w45_4 ++ [1]
def w45_2 : List Nat := w45_4 ++ [0, 0, 1, 1]
def w45_3 : List Nat := w45_4 ++ [0, 0, 1, 0, 1]
noncomputable def e45 (J : Nat → Nat → Nat → St → Option Bool → Option Bool) (m : Nat) (p ms : List Nat) (σ : St) := evAt Tryz.prog env (ct m) J (m + 1) 83 33 Tryz.f83 d1 p ms σ
noncomputable def l45 (J : Nat → Nat → Nat → St → Option Bool → Option Bool) (m : Nat) (p ms : List Nat) (M : Nat) (σ : St) := loopAt Tryz.prog env (ct m) J (m + 1) 83 33 Tryz.f83 d1 p ms M σ
noncomputable def s45_5 (x0 : List Dt) (x1 x2 : Int) (x3 : List Dt) : St := ⟨tsOf [(3, (.row 0)), (7, (.dat 23 (.lst x0))), (8, (.dat 3 (.int x1))), (9, (.dat 3 (.int x2)))], [(.map 76 x3)], 0⟩
noncomputable def s45_4 (x0 : List Dt) (x1 x2 : Int) (x3 : List Dt) (x4 : Dt) : St := ⟨tsOf [(3, (.row 0)), (5, (.ptr 1 [] 0)), (7, (.dat 23 (.lst x0))), (8, (.dat 3 (.int x1))), (9, (.dat 3 (.int x2)))], [(.map 76 x3), (.box 38 (.dat 38 x4))], 0⟩
noncomputable def s45_3 (x0 : List Dt) (x1 x2 : Int) (x3 : Bool) (x4 : List Dt) (x5 : Dt) : St := ⟨tsOf [(3, (.row 0)), (5, (.ptr 1 [] 0)), (7, (.dat 23 (.lst x0))), (8, (.dat 3 (.int x1))), (9, (.dat 3 (.int x2))), (28, (.dat 4 (.bool x3)))], [(.map 76 x4), (.box 38 (.dat 38 x5))], 0⟩
noncomputable def s45_6 : St := ⟨tsOf [], [], 0⟩
abbrev H45_1 (m M1 : Nat) (rec1 : List Dt → Int → Int → List Dt → Option Bool) : Prop := ∀ x0 x1 x2 x3, l45 jn m w45_0 [] M1 (s45_5 x0 x1 x2 x3) = rec1 x0 x1 x2 x3
theorem value_soundFields_j5_eq m M1 rec1 (h1 : H45_1 m M1 rec1) x0 x1 x2 x3 : e45 jn m w45_1 [M1] (s45_5 x0 x1 x2 x3) = value_soundFields_j5 m (value_sound m) rec1 x0 x1 x2 x3 :=
  tre (g := fun J => (jj J 1 3 M1 (s45_5 x0 x1 (IntKind.wrap .i64 (x2 + 1)) x3) (l45 J m w45_0 [] M1))) (fun J => by kernel_rfl) (by simp only [jj_eq, h1]; rfl)
theorem value_soundFields_j4_eq m M1 rec1 (h1 : H45_1 m M1 rec1) x0 x1 x2 x3 x4 : e45 jn m w45_2 [M1] (s45_4 x0 x1 x2 x3 x4) = value_soundFields_j4 m (value_sound m) rec1 x0 x1 x2 x3 x4 :=
  tre (g := fun J => (jj J 0 8 0 (s45_5 x0 x1 x2 (mput x3 (Dt.S x4 0) (Dt.bool true))) (e45 J m w45_1 [M1]))) (fun J => by kernel_rfl) (by simp only [jj_eq, value_soundFields_j5_eq m M1 rec1 h1]; rfl)
theorem value_soundFields_j3_eq m M1 rec1 (h1 : H45_1 m M1 rec1) x0 x1 x2 x3 x4 x5 : e45 jn m w45_3 [M1] (s45_3 x0 x1 x2 x3 x4 x5) = value_soundFields_j3 m (value_sound m) rec1 x0 x1 x2 x3 x4 x5 :=
  tre (g := fun J => (bif x3 then
   some false
    else
   (jj J 0 7 0 (s45_4 x0 x1 x2 x4 x5) (e45 J m w45_2 [M1])))) (fun J => by kernel_rfl) (by simp only [jj_eq, value_soundFields_j4_eq m M1 rec1 h1]; rfl)
theorem value_soundFields_j2_eq m M1 rec1 (h1 : H45_1 m M1 rec1) x0 x1 x2 x3 : e45 jn m w45_4 [M1] (s45_5 x0 x1 x2 x3) = value_soundFields_j2 m (value_sound m) rec1 x0 x1 x2 x3 :=
  tre (g := fun J => ((idx x0 x2).bind fun v0 =>
   ((value_isName m (Dt.S v0 0)).bind fun r1 =>
   (bif (Bool.not r1) then
   (jj J 0 6 0 (s45_3 x0 x1 x2 true x3 v0) (e45 J m w45_3 [M1]))
   else
   (bif (Dt.toBool (mgetD x3 (Dt.S v0 0) (Dt.bool false))) then
   (jj J 0 6 0 (s45_3 x0 x1 x2 true x3 v0) (e45 J m w45_3 [M1]))
   else
   ((value_sound m (Dt.fld v0 1)).bind fun r2 =>
   (jj J 0 6 0 (s45_3 x0 x1 x2 (Bool.not r2) x3 v0) (e45 J m w45_3 [M1])))))))) (fun J => by kernel_rfl) (by simp only [jj_eq, value_soundFields_j3_eq m M1 rec1 h1]; rfl)
theorem value_soundFields_j6_eq m : e45 jn m [1, 1, 1] [] s45_6 = value_soundFields_j6 m (value_sound m) :=
  tre (g := fun J => some true) (fun J => by kernel_rfl) (by rfl)
theorem value_soundFields_l1_eq m : ∀ M1 x0 x1 x2 x3, l45 jn m w45_0 [] M1 (s45_5 x0 x1 x2 x3) = value_soundFields_l1 m (value_sound m) M1 x0 x1 x2 x3
  | 0, _, _, _, _ => rfl
  | M1 + 1, x0, x1, x2, x3 =>
    trl (g := fun J => (bif (decide (x2 < x1)) then
   (jj J 0 4 0 (s45_5 x0 x1 x2 x3) (e45 J m w45_4 [M1]))
    else
   (jj J 0 9 0 s45_6 (e45 J m [1, 1, 1] [])))) (fun J => by kernel_rfl) (by simp only [jj_eq, value_soundFields_j2_eq m M1 (value_soundFields_l1 m (value_sound m) M1) (value_soundFields_l1_eq m M1), value_soundFields_j6_eq m]; rfl)
theorem value_soundFields_j0_eq m x0 x1 x2 x3 : e45 jn m [1, 1, 0, 1] [] (s45_5 x0 x1 x2 x3) = value_soundFields_j0 m (value_sound m) x0 x1 x2 x3 :=
  tre (g := fun J => (jj J 1 3 (Nat.succ m) (s45_5 x0 x1 x2 x3) (l45 J m w45_0 [] (Nat.succ m)))) (fun J => by kernel_rfl) (by simp only [jj_eq, value_soundFields_l1_eq m]; rfl)
theorem value_soundFields_eq m a0 : e45 jn m [] [] ⟨[(.dat 23 (.lst a0))], [], 0⟩ = value_soundFields (m + 1) a0 :=
  tre (g := fun J => (jj J 0 3 0 (s45_5 a0 (List.length a0 : Int) 0 []) (e45 J m [1, 1, 0, 1] []))) (fun J => by kernel_rfl) (by simp only [jj_eq, value_soundFields_j0_eq m]; rfl)
noncomputable def e21 (J : Nat → Nat → Nat → St → Option Bool → Option Bool) (m : Nat) (p ms : List Nat) (σ : St) := evAt Tryz.prog env (ct m) J (m + 1) 29 15 Tryz.f29 d1 p ms σ
noncomputable def l21 (J : Nat → Nat → Nat → St → Option Bool → Option Bool) (m : Nat) (p ms : List Nat) (M : Nat) (σ : St) := loopAt Tryz.prog env (ct m) J (m + 1) 29 15 Tryz.f29 d1 p ms M σ
theorem value_Valid_eq m a0 : e21 jn m [] [] ⟨[(.dat 25 a0)], [], 0⟩ = value_Valid (m + 1) a0 :=
  tre (g := fun J => ((value_Nodes m a0).bind fun r0 =>
   (bif (decide (r0 ≤ 1024)) then
   ((value_Depth m a0).bind fun r1 =>
   (bif (decide (r1 ≤ 16)) then
   ((value_sound m a0).bind fun r2 =>
   some r2)
   else
   some false))
   else
   some false))) (fun J => by kernel_rfl) (by rfl)
noncomputable def e6 (J : Nat → Nat → Nat → St → Option Bool → Option Bool) (m : Nat) (p ms : List Nat) (σ : St) := evAt Tryz.prog env (ct m) J (m + 1) 14 23 Tryz.f14 d1 p ms σ
noncomputable def l6 (J : Nat → Nat → Nat → St → Option Bool → Option Bool) (m : Nat) (p ms : List Nat) (M : Nat) (σ : St) := loopAt Tryz.prog env (ct m) J (m + 1) 14 23 Tryz.f14 d1 p ms M σ
noncomputable def s6_1 (x0 : Dt) : St := ⟨tsOf [(1, (.ptr 0 [] 0))], [(.box 25 (.dat 25 x0))], 0⟩
noncomputable def s6_0 (x0 : Bool) (x1 : Dt) : St := ⟨tsOf [(1, (.ptr 0 [] 0)), (12, (.dat 4 (.bool x0)))], [(.box 25 (.dat 25 x1))], 0⟩
theorem notation_wellFormed_j1_eq m x0 : e6 jn m [1, 1] [] (s6_1 x0) = notation_wellFormed_j1 m x0 :=
  tre (g := fun J => ((notation_rename m x0).bind fun r1 =>
   (bif r1.2 then
   ((value_Valid m r1.1).bind fun r2 =>
   some r2)
   else
   some false))) (fun J => by kernel_rfl) (by rfl)
theorem notation_wellFormed_j0_eq m x0 x1 : e6 jn m [1, 0, 1] [] (s6_0 x0 x1) = notation_wellFormed_j0 m x0 x1 :=
  tre (g := fun J => (bif x0 then
   some false
    else
   (jj J 0 3 0 (s6_1 x1) (e6 J m [1, 1] [])))) (fun J => by kernel_rfl) (by simp only [jj_eq, notation_wellFormed_j1_eq m]; rfl)
theorem notation_wellFormed_eq m a0 : e6 jn m [] [] ⟨[(.dat 25 a0)], [], 0⟩ = notation_wellFormed (m + 1) a0 :=
  tre (g := fun J => ((value_Nodes m a0).bind fun r0 =>
   (bif (decide (1024 < r0)) then
   (jj J 0 2 0 (s6_0 true a0) (e6 J m [1, 0, 1] []))
   else
   ((value_Depth m a0).bind fun r3 =>
   (jj J 0 2 0 (s6_0 (decide (16 < r3)) a0) (e6 J m [1, 0, 1] [])))))) (fun J => by kernel_rfl) (by simp only [jj_eq, notation_wellFormed_j0_eq m]; rfl)
noncomputable def e3 (J : Nat → Nat → Nat → St → Option (ByteArray × Int) → Option (ByteArray × Int)) (m : Nat) (p ms : List Nat) (σ : St) := evAt Tryz.prog env (ct m) J (m + 1) 7 19 Tryz.f7 d3 p ms σ
noncomputable def l3 (J : Nat → Nat → Nat → St → Option (ByteArray × Int) → Option (ByteArray × Int)) (m : Nat) (p ms : List Nat) (M : Nat) (σ : St) := loopAt Tryz.prog env (ct m) J (m + 1) 7 19 Tryz.f7 d3 p ms M σ
noncomputable def s3_1 (x0 : List Dt) : St := ⟨tsOf [(4, (.dat 40 (.lst x0)))], [], 0⟩
noncomputable def s3_0 (x0 : Dt) : St := ⟨tsOf [(1, (.ptr 0 [] 0))], [(.box 25 (.dat 25 x0))], 0⟩
theorem notation_Print_j1_eq m x0 : e3 jn m [1, 1, 1, 1] [] (s3_1 x0) = notation_Print_j1 m x0 :=
  tre (g := fun J => ((bif (Nat.ble (List.length x0) 137438953472) then (Option.some (strOfNums (List.map Dt.toInt x0))) else (Option.none)).bind fun v2 =>
   some (v2, 0))) (fun J => by kernel_rfl) (by rfl)
theorem notation_Print_j0_eq m x0 : e3 jn m [1, 1] [] (s3_0 x0) = notation_Print_j0 m x0 :=
  tre (g := fun J => ((i7 m x0 []).bind fun r1 =>
   (bif (r1.1 != 0) then
   some ((ByteArray.mk (List.toArray [])), r1.1)
   else
   (jj J 0 6 0 (s3_1 r1.2) (e3 J m [1, 1, 1, 1] []))))) (fun J => by kernel_rfl) (by simp only [jj_eq, notation_Print_j1_eq m]; rfl)
theorem notation_Print_eq m a0 : e3 jn m [] [] ⟨[(.dat 25 a0)], [], 0⟩ = notation_Print (m + 1) a0 :=
  tre (g := fun J => ((notation_wellFormed m a0).bind fun r0 =>
   (bif (Bool.not r0) then
   some ((ByteArray.mk (List.toArray [])), 8)
   else
   (jj J 0 3 0 (s3_0 a0) (e3 J m [1, 1] []))))) (fun J => by kernel_rfl) (by simp only [jj_eq, notation_Print_j0_eq m]; rfl)
def w54_0 : List Nat := [1, 1, 0, 1, 0]
def w54_3 : List Nat := [1, 1, 0, 1, 0, 0, 1]
def w54_1 : List Nat := w54_3 ++ [1]
def w54_2 : List Nat := w54_3 ++ [0, 0, 1]
noncomputable def e54 (J : Nat → Nat → Nat → St → Option Bool → Option Bool) (m : Nat) (p ms : List Nat) (σ : St) := evAt Tryz.prog env (ct m) J (m + 1) 116 33 Tryz.f116 d1 p ms σ
noncomputable def l54 (J : Nat → Nat → Nat → St → Option Bool → Option Bool) (m : Nat) (p ms : List Nat) (M : Nat) (σ : St) := loopAt Tryz.prog env (ct m) J (m + 1) 116 33 Tryz.f116 d1 p ms M σ
noncomputable def s54_5 (x0 : ByteArray) (x1 x2 x3 : Int) : St := ⟨tsOf [(0, (.dat 9 (.str x0))), (1, (.dat 3 (.int x1))), (2, (.dat 3 (.int x2))), (7, (.dat 3 (.int x3)))], [], 0⟩
noncomputable def s54_4 (x0 : ByteArray) (x1 x2 x3 : Int) (x4 : Bool) : St := ⟨tsOf [(0, (.dat 9 (.str x0))), (1, (.dat 3 (.int x1))), (2, (.dat 3 (.int x2))), (7, (.dat 3 (.int x3))), (32, (.dat 4 (.bool x4)))], [], 0⟩
noncomputable def s54_6 : St := ⟨tsOf [], [], 0⟩
noncomputable def s54_0 (x0 : ByteArray) (x1 x2 : Int) : St := ⟨tsOf [(0, (.dat 9 (.str x0))), (1, (.dat 3 (.int x1))), (2, (.dat 3 (.int x2)))], [], 0⟩
abbrev H54_2 (m M2 : Nat) (rec2 : ByteArray → Int → Int → Int → Option Bool) : Prop := ∀ x0 x1 x2 x3, l54 jn m w54_0 [] M2 (s54_5 x0 x1 x2 x3) = rec2 x0 x1 x2 x3
theorem ref01_tail_j5_eq m M2 rec2 (h2 : H54_2 m M2 rec2) x0 x1 x2 x3 : e54 jn m w54_1 [M2] (s54_5 x0 x1 x2 x3) = ref01_tail_j5 m rec2 x0 x1 x2 x3 :=
  tre (g := fun J => (jj J 1 4 M2 (s54_5 x0 x1 x2 (IntKind.wrap .i64 (x3 + 1))) (l54 J m w54_0 [] M2))) (fun J => by kernel_rfl) (by simp only [jj_eq, h2]; rfl)
theorem ref01_tail_j4_eq m M2 rec2 (h2 : H54_2 m M2 rec2) x0 x1 x2 x3 x4 : e54 jn m w54_2 [M2] (s54_4 x0 x1 x2 x3 x4) = ref01_tail_j4 m rec2 x0 x1 x2 x3 x4 :=
  tre (g := fun J => (bif x4 then
   some false
    else
   (jj J 0 5 0 (s54_5 x0 x1 x2 x3) (e54 J m w54_1 [M2])))) (fun J => by kernel_rfl) (by simp only [jj_eq, ref01_tail_j5_eq m M2 rec2 h2]; rfl)
theorem ref01_tail_j3_eq m M2 rec2 (h2 : H54_2 m M2 rec2) x0 x1 x2 x3 : e54 jn m w54_3 [M2] (s54_5 x0 x1 x2 x3) = ref01_tail_j3 m rec2 x0 x1 x2 x3 :=
  tre (g := fun J => ((idxS x0 (IntKind.wrap .i64 (x1 + x3))).bind fun v0 =>
   (bif (decide (v0 < 128)) then
   (jj J 0 7 0 (s54_4 x0 x1 x2 x3 true) (e54 J m w54_2 [M2]))
   else
   ((idxS x0 (IntKind.wrap .i64 (x1 + x3))).bind fun v1 =>
   (jj J 0 7 0 (s54_4 x0 x1 x2 x3 (decide (191 < v1))) (e54 J m w54_2 [M2])))))) (fun J => by kernel_rfl) (by simp only [jj_eq, ref01_tail_j4_eq m M2 rec2 h2]; rfl)
theorem ref01_tail_j6_eq m : e54 jn m [1, 1, 1] [] s54_6 = ref01_tail_j6 m :=
  tre (g := fun J => some true) (fun J => by kernel_rfl) (by rfl)
theorem ref01_tail_l2_eq m : ∀ M2 x0 x1 x2 x3, l54 jn m w54_0 [] M2 (s54_5 x0 x1 x2 x3) = ref01_tail_l2 m M2 x0 x1 x2 x3
  | 0, _, _, _, _ => rfl
  | M2 + 1, x0, x1, x2, x3 =>
    trl (g := fun J => (bif (decide (x3 < x2)) then
   (jj J 0 6 0 (s54_5 x0 x1 x2 x3) (e54 J m w54_3 [M2]))
    else
   (jj J 0 8 0 s54_6 (e54 J m [1, 1, 1] [])))) (fun J => by kernel_rfl) (by simp only [jj_eq, ref01_tail_j3_eq m M2 (ref01_tail_l2 m M2) (ref01_tail_l2_eq m M2), ref01_tail_j6_eq m]; rfl)
theorem ref01_tail_j1_eq m x0 x1 x2 x3 : e54 jn m [1, 1, 0, 1] [] (s54_5 x0 x1 x2 x3) = ref01_tail_j1 m x0 x1 x2 x3 :=
  tre (g := fun J => (jj J 1 4 (Nat.succ m) (s54_5 x0 x1 x2 x3) (l54 J m w54_0 [] (Nat.succ m)))) (fun J => by kernel_rfl) (by simp only [jj_eq, ref01_tail_l2_eq m]; rfl)
theorem ref01_tail_j0_eq m x0 x1 x2 : e54 jn m [1, 1] [] (s54_0 x0 x1 x2) = ref01_tail_j0 m x0 x1 x2 :=
  tre (g := fun J => (jj J 0 4 0 (s54_5 x0 x1 x2 0) (e54 J m [1, 1, 0, 1] []))) (fun J => by kernel_rfl) (by simp only [jj_eq, ref01_tail_j1_eq m]; rfl)
theorem ref01_tail_eq m a0 a1 a2 : e54 jn m [] [] ⟨[(.dat 9 (.str a0)), (.dat 3 (.int a1)), (.dat 3 (.int a2))], [], 0⟩ = ref01_tail (m + 1) a0 a1 a2 :=
  tre (g := fun J => (bif (decide ((ByteArray.size a0 : Int) < (IntKind.wrap .i64 (a1 + a2)))) then
   some false
    else
   (jj J 0 3 0 (s54_0 a0 a1 a2) (e54 J m [1, 1] [])))) (fun J => by kernel_rfl) (by simp only [jj_eq, ref01_tail_j0_eq m]; rfl)
def w52_7 : List Nat := [1, 0, 1, 0, 0, 1]
def w52_3 : List Nat := w52_7 ++ [0, 1, 1, 1]
def w52_2 : List Nat := w52_3 ++ [1]
def w52_0 : List Nat := w52_2 ++ [1]
def w52_1 : List Nat := w52_2 ++ [0, 1]
def w52_6 : List Nat := w52_7 ++ [0, 1, 1, 0, 0, 1, 1, 1]
def w52_5 : List Nat := w52_6 ++ [1, 1]
def w52_4 : List Nat := w52_5 ++ [1, 1]
noncomputable def e52 (J : Nat → Nat → Nat → St → Option Bool → Option Bool) (m : Nat) (p ms : List Nat) (σ : St) := evAt Tryz.prog env (ct m) J (m + 1) 101 89 Tryz.f101 d1 p ms σ
noncomputable def l52 (J : Nat → Nat → Nat → St → Option Bool → Option Bool) (m : Nat) (p ms : List Nat) (M : Nat) (σ : St) := loopAt Tryz.prog env (ct m) J (m + 1) 101 89 Tryz.f101 d1 p ms M σ
noncomputable def s52_6 (x0 : ByteArray) (x1 x2 : Int) : St := ⟨tsOf [(0, (.dat 9 (.str x0))), (3, (.dat 3 (.int x1))), (5, (.dat 3 (.int x2)))], [], 0⟩
noncomputable def s52_5 (x0 : ByteArray) (x1 x2 : Int) (x3 : Bool) : St := ⟨tsOf [(0, (.dat 9 (.str x0))), (3, (.dat 3 (.int x1))), (5, (.dat 3 (.int x2))), (84, (.dat 4 (.bool x3)))], [], 0⟩
noncomputable def s52_4 (x0 : ByteArray) (x1 x2 x3 : Int) : St := ⟨tsOf [(0, (.dat 9 (.str x0))), (3, (.dat 3 (.int x1))), (4, (.dat 5 (.int x2))), (5, (.dat 3 (.int x3)))], [], 0⟩
noncomputable def s52_9 (x0 : ByteArray) (x1 x2 : Int) (x3 : Bool) : St := ⟨tsOf [(0, (.dat 9 (.str x0))), (3, (.dat 3 (.int x1))), (4, (.dat 5 (.int x2))), (30, (.dat 4 (.bool x3)))], [], 0⟩
noncomputable def s52_8 (x0 : ByteArray) (x1 x2 : Int) (x3 : Bool) : St := ⟨tsOf [(0, (.dat 9 (.str x0))), (3, (.dat 3 (.int x1))), (4, (.dat 5 (.int x2))), (23, (.dat 4 (.bool x3)))], [], 0⟩
noncomputable def s52_7 (x0 : ByteArray) (x1 x2 : Int) (x3 : Bool) : St := ⟨tsOf [(0, (.dat 9 (.str x0))), (3, (.dat 3 (.int x1))), (4, (.dat 5 (.int x2))), (16, (.dat 4 (.bool x3)))], [], 0⟩
noncomputable def s52_2 (x0 : ByteArray) (x1 : Int) : St := ⟨tsOf [(0, (.dat 9 (.str x0))), (3, (.dat 3 (.int x1)))], [], 0⟩
noncomputable def s52_10 : St := ⟨tsOf [], [], 0⟩
abbrev H52_1 (m M1 : Nat) (rec1 : ByteArray → Int → Option Bool) : Prop := ∀ x0 x1, l52 jn m [1, 0, 1, 0] [] M1 (s52_2 x0 x1) = rec1 x0 x1
theorem ref01_UTF8_j6_eq m M1 rec1 (h1 : H52_1 m M1 rec1) x0 x1 x2 : e52 jn m w52_0 [M1] (s52_6 x0 x1 x2) = ref01_UTF8_j6 m rec1 x0 x1 x2 :=
  tre (g := fun J => (jj J 1 2 M1 (s52_2 x0 (IntKind.wrap .i64 ((IntKind.wrap .i64 (x1 + x2)) + 1))) (l52 J m [1, 0, 1, 0] [] M1))) (fun J => by kernel_rfl) (by simp only [jj_eq, h1]; rfl)
theorem ref01_UTF8_j5_eq m M1 rec1 (h1 : H52_1 m M1 rec1) x0 x1 x2 x3 : e52 jn m w52_1 [M1] (s52_5 x0 x1 x2 x3) = ref01_UTF8_j5 m rec1 x0 x1 x2 x3 :=
  tre (g := fun J => (bif x3 then
   some false
    else
   (jj J 0 17 0 (s52_6 x0 x1 x2) (e52 J m w52_0 [M1])))) (fun J => by kernel_rfl) (by simp only [jj_eq, ref01_UTF8_j6_eq m M1 rec1 h1]; rfl)
theorem ref01_UTF8_j4_eq m M1 rec1 (h1 : H52_1 m M1 rec1) x0 x1 x2 x3 : e52 jn m w52_2 [M1] (s52_4 x0 x1 x2 x3) = ref01_UTF8_j4 m rec1 x0 x1 x2 x3 :=
  tre (g := fun J => (bif (x2 == 224) then
   ((idxS x0 (IntKind.wrap .i64 (x1 + 1))).bind fun v2 =>
   (bif (decide (v2 < 160)) then
   (jj J 0 16 0 (s52_5 x0 x1 x3 true) (e52 J m w52_1 [M1]))
   else
   (bif (x2 == 237) then
   ((idxS x0 (IntKind.wrap .i64 (x1 + 1))).bind fun v3 =>
   (bif (decide (159 < v3)) then
   (jj J 0 16 0 (s52_5 x0 x1 x3 true) (e52 J m w52_1 [M1]))
   else
   (bif (x2 == 240) then
   ((idxS x0 (IntKind.wrap .i64 (x1 + 1))).bind fun v4 =>
   (bif (decide (v4 < 144)) then
   (jj J 0 16 0 (s52_5 x0 x1 x3 true) (e52 J m w52_1 [M1]))
   else
   (bif (x2 == 244) then
   ((idxS x0 (IntKind.wrap .i64 (x1 + 1))).bind fun v5 =>
   (jj J 0 16 0 (s52_5 x0 x1 x3 (decide (143 < v5))) (e52 J m w52_1 [M1])))
   else
   (jj J 0 16 0 (s52_5 x0 x1 x3 false) (e52 J m w52_1 [M1])))))
   else
   (bif (x2 == 244) then
   ((idxS x0 (IntKind.wrap .i64 (x1 + 1))).bind fun v6 =>
   (jj J 0 16 0 (s52_5 x0 x1 x3 (decide (143 < v6))) (e52 J m w52_1 [M1])))
   else
   (jj J 0 16 0 (s52_5 x0 x1 x3 false) (e52 J m w52_1 [M1]))))))
   else
   (bif (x2 == 240) then
   ((idxS x0 (IntKind.wrap .i64 (x1 + 1))).bind fun v7 =>
   (bif (decide (v7 < 144)) then
   (jj J 0 16 0 (s52_5 x0 x1 x3 true) (e52 J m w52_1 [M1]))
   else
   (bif (x2 == 244) then
   ((idxS x0 (IntKind.wrap .i64 (x1 + 1))).bind fun v8 =>
   (jj J 0 16 0 (s52_5 x0 x1 x3 (decide (143 < v8))) (e52 J m w52_1 [M1])))
   else
   (jj J 0 16 0 (s52_5 x0 x1 x3 false) (e52 J m w52_1 [M1])))))
   else
   (bif (x2 == 244) then
   ((idxS x0 (IntKind.wrap .i64 (x1 + 1))).bind fun v9 =>
   (jj J 0 16 0 (s52_5 x0 x1 x3 (decide (143 < v9))) (e52 J m w52_1 [M1])))
   else
   (jj J 0 16 0 (s52_5 x0 x1 x3 false) (e52 J m w52_1 [M1])))))))
    else
   (bif (x2 == 237) then
   ((idxS x0 (IntKind.wrap .i64 (x1 + 1))).bind fun v10 =>
   (bif (decide (159 < v10)) then
   (jj J 0 16 0 (s52_5 x0 x1 x3 true) (e52 J m w52_1 [M1]))
   else
   (bif (x2 == 240) then
   ((idxS x0 (IntKind.wrap .i64 (x1 + 1))).bind fun v11 =>
   (bif (decide (v11 < 144)) then
   (jj J 0 16 0 (s52_5 x0 x1 x3 true) (e52 J m w52_1 [M1]))
   else
   (bif (x2 == 244) then
   ((idxS x0 (IntKind.wrap .i64 (x1 + 1))).bind fun v12 =>
   (jj J 0 16 0 (s52_5 x0 x1 x3 (decide (143 < v12))) (e52 J m w52_1 [M1])))
   else
   (jj J 0 16 0 (s52_5 x0 x1 x3 false) (e52 J m w52_1 [M1])))))
   else
   (bif (x2 == 244) then
   ((idxS x0 (IntKind.wrap .i64 (x1 + 1))).bind fun v13 =>
   (jj J 0 16 0 (s52_5 x0 x1 x3 (decide (143 < v13))) (e52 J m w52_1 [M1])))
   else
   (jj J 0 16 0 (s52_5 x0 x1 x3 false) (e52 J m w52_1 [M1]))))))
   else
   (bif (x2 == 240) then
   ((idxS x0 (IntKind.wrap .i64 (x1 + 1))).bind fun v14 =>
   (bif (decide (v14 < 144)) then
   (jj J 0 16 0 (s52_5 x0 x1 x3 true) (e52 J m w52_1 [M1]))
   else
   (bif (x2 == 244) then
   ((idxS x0 (IntKind.wrap .i64 (x1 + 1))).bind fun v15 =>
   (jj J 0 16 0 (s52_5 x0 x1 x3 (decide (143 < v15))) (e52 J m w52_1 [M1])))
   else
   (jj J 0 16 0 (s52_5 x0 x1 x3 false) (e52 J m w52_1 [M1])))))
   else
   (bif (x2 == 244) then
   ((idxS x0 (IntKind.wrap .i64 (x1 + 1))).bind fun v16 =>
   (jj J 0 16 0 (s52_5 x0 x1 x3 (decide (143 < v16))) (e52 J m w52_1 [M1])))
   else
   (jj J 0 16 0 (s52_5 x0 x1 x3 false) (e52 J m w52_1 [M1]))))))) (fun J => by kernel_rfl) (by simp only [jj_eq, ref01_UTF8_j5_eq m M1 rec1 h1]; rfl)
theorem ref01_UTF8_j3_eq m M1 rec1 (h1 : H52_1 m M1 rec1) x0 x1 x2 x3 : e52 jn m w52_3 [M1] (s52_4 x0 x1 x2 x3) = ref01_UTF8_j3 m rec1 x0 x1 x2 x3 :=
  tre (g := fun J => ((ref01_tail m x0 (IntKind.wrap .i64 (x1 + 1)) x3).bind fun r1 =>
   (bif (Bool.not r1) then
   some false
   else
   (jj J 0 15 0 (s52_4 x0 x1 x2 x3) (e52 J m w52_2 [M1]))))) (fun J => by kernel_rfl) (by simp only [jj_eq, ref01_UTF8_j4_eq m M1 rec1 h1]; rfl)
theorem ref01_UTF8_j9_eq m M1 rec1 (h1 : H52_1 m M1 rec1) x0 x1 x2 x3 : e52 jn m w52_4 [M1] (s52_9 x0 x1 x2 x3) = ref01_UTF8_j9 m rec1 x0 x1 x2 x3 :=
  tre (g := fun J => (bif x3 then
   (jj J 0 13 0 (s52_4 x0 x1 x2 3) (e52 J m w52_3 [M1]))
    else
   some false)) (fun J => by kernel_rfl) (by simp only [jj_eq, ref01_UTF8_j3_eq m M1 rec1 h1]; rfl)
theorem ref01_UTF8_j8_eq m M1 rec1 (h1 : H52_1 m M1 rec1) x0 x1 x2 x3 : e52 jn m w52_5 [M1] (s52_8 x0 x1 x2 x3) = ref01_UTF8_j8 m rec1 x0 x1 x2 x3 :=
  tre (g := fun J => (bif x3 then
   (jj J 0 13 0 (s52_4 x0 x1 x2 2) (e52 J m w52_3 [M1]))
    else
   (bif (decide (240 ≤ x2)) then
   (jj J 0 12 0 (s52_9 x0 x1 x2 (decide (x2 ≤ 244))) (e52 J m w52_4 [M1]))
   else
   (jj J 0 12 0 (s52_9 x0 x1 x2 false) (e52 J m w52_4 [M1]))))) (fun J => by kernel_rfl) (by simp only [jj_eq, ref01_UTF8_j3_eq m M1 rec1 h1, ref01_UTF8_j9_eq m M1 rec1 h1]; rfl)
theorem ref01_UTF8_j7_eq m M1 rec1 (h1 : H52_1 m M1 rec1) x0 x1 x2 x3 : e52 jn m w52_6 [M1] (s52_7 x0 x1 x2 x3) = ref01_UTF8_j7 m rec1 x0 x1 x2 x3 :=
  tre (g := fun J => (bif x3 then
   (jj J 0 13 0 (s52_4 x0 x1 x2 1) (e52 J m w52_3 [M1]))
    else
   (bif (decide (224 ≤ x2)) then
   (jj J 0 10 0 (s52_8 x0 x1 x2 (decide (x2 ≤ 239))) (e52 J m w52_5 [M1]))
   else
   (jj J 0 10 0 (s52_8 x0 x1 x2 false) (e52 J m w52_5 [M1]))))) (fun J => by kernel_rfl) (by simp only [jj_eq, ref01_UTF8_j3_eq m M1 rec1 h1, ref01_UTF8_j8_eq m M1 rec1 h1]; rfl)
theorem ref01_UTF8_j2_eq m M1 rec1 (h1 : H52_1 m M1 rec1) x0 x1 : e52 jn m w52_7 [M1] (s52_2 x0 x1) = ref01_UTF8_j2 m rec1 x0 x1 :=
  tre (g := fun J => ((idxS x0 x1).bind fun v0 =>
   (bif (decide (v0 < 128)) then
   (jj J 0 13 0 (s52_4 x0 x1 v0 0) (e52 J m w52_3 [M1]))
   else
   (bif (decide (194 ≤ v0)) then
   (jj J 0 8 0 (s52_7 x0 x1 v0 (decide (v0 ≤ 223))) (e52 J m w52_6 [M1]))
   else
   (jj J 0 8 0 (s52_7 x0 x1 v0 false) (e52 J m w52_6 [M1])))))) (fun J => by kernel_rfl) (by simp only [jj_eq, ref01_UTF8_j3_eq m M1 rec1 h1, ref01_UTF8_j7_eq m M1 rec1 h1]; rfl)
theorem ref01_UTF8_j10_eq m : e52 jn m [1, 1] [] s52_10 = ref01_UTF8_j10 m :=
  tre (g := fun J => some true) (fun J => by kernel_rfl) (by rfl)
theorem ref01_UTF8_l1_eq m : ∀ M1 x0 x1, l52 jn m [1, 0, 1, 0] [] M1 (s52_2 x0 x1) = ref01_UTF8_l1 m M1 x0 x1
  | 0, _, _ => rfl
  | M1 + 1, x0, x1 =>
    trl (g := fun J => (bif (decide (x1 < (ByteArray.size x0 : Int))) then
   (jj J 0 3 0 (s52_2 x0 x1) (e52 J m w52_7 [M1]))
    else
   (jj J 0 18 0 s52_10 (e52 J m [1, 1] [])))) (fun J => by kernel_rfl) (by simp only [jj_eq, ref01_UTF8_j2_eq m M1 (ref01_UTF8_l1 m M1) (ref01_UTF8_l1_eq m M1), ref01_UTF8_j10_eq m]; rfl)
theorem ref01_UTF8_j0_eq m x0 x1 : e52 jn m [1, 0, 1] [] (s52_2 x0 x1) = ref01_UTF8_j0 m x0 x1 :=
  tre (g := fun J => (jj J 1 2 (Nat.succ m) (s52_2 x0 x1) (l52 J m [1, 0, 1, 0] [] (Nat.succ m)))) (fun J => by kernel_rfl) (by simp only [jj_eq, ref01_UTF8_l1_eq m]; rfl)
theorem ref01_UTF8_eq m a0 : e52 jn m [] [] ⟨[(.dat 9 (.str a0))], [], 0⟩ = ref01_UTF8 (m + 1) a0 :=
  tre (g := fun J => (jj J 0 2 0 (s52_2 a0 0) (e52 J m [1, 0, 1] []))) (fun J => by kernel_rfl) (by simp only [jj_eq, ref01_UTF8_j0_eq m]; rfl)
def w55_0 : List Nat := [1, 1, 0, 1, 0]
def w55_3 : List Nat := [1, 1, 0, 1, 0, 0, 1]
def w55_1 : List Nat := w55_3 ++ [1]
def w55_2 : List Nat := w55_3 ++ [0, 0, 1]
noncomputable def e55 (J : Nat → Nat → Nat → St → Option Bool → Option Bool) (m : Nat) (p ms : List Nat) (σ : St) := evAt Tryz.prog env (ct m) J (m + 1) 117 39 Tryz.f117 d1 p ms σ
noncomputable def l55 (J : Nat → Nat → Nat → St → Option Bool → Option Bool) (m : Nat) (p ms : List Nat) (M : Nat) (σ : St) := loopAt Tryz.prog env (ct m) J (m + 1) 117 39 Tryz.f117 d1 p ms M σ
noncomputable def s55_6 (x0 : ByteArray) (x1 : Int) : St := ⟨tsOf [(0, (.dat 9 (.str x0))), (3, (.dat 3 (.int x1)))], [], 0⟩
noncomputable def s55_5 (x0 : ByteArray) (x1 : Int) (x2 : Bool) : St := ⟨tsOf [(0, (.dat 9 (.str x0))), (3, (.dat 3 (.int x1))), (38, (.dat 4 (.bool x2)))], [], 0⟩
noncomputable def s55_7 : St := ⟨tsOf [], [], 0⟩
noncomputable def s55_1 (x0 : ByteArray) : St := ⟨tsOf [(0, (.dat 9 (.str x0)))], [], 0⟩
noncomputable def s55_0 (x0 : ByteArray) (x1 : Bool) : St := ⟨tsOf [(0, (.dat 9 (.str x0))), (16, (.dat 4 (.bool x1)))], [], 0⟩
abbrev H55_3 (m M3 : Nat) (rec3 : ByteArray → Int → Option Bool) : Prop := ∀ x0 x1, l55 jn m w55_0 [] M3 (s55_6 x0 x1) = rec3 x0 x1
theorem ref01_Name_j6_eq m M3 rec3 (h3 : H55_3 m M3 rec3) x0 x1 : e55 jn m w55_1 [M3] (s55_6 x0 x1) = ref01_Name_j6 m rec3 x0 x1 :=
  tre (g := fun J => (jj J 1 4 M3 (s55_6 x0 (IntKind.wrap .i64 (x1 + 1))) (l55 J m w55_0 [] M3))) (fun J => by kernel_rfl) (by simp only [jj_eq, h3]; rfl)
theorem ref01_Name_j5_eq m M3 rec3 (h3 : H55_3 m M3 rec3) x0 x1 x2 : e55 jn m w55_2 [M3] (s55_5 x0 x1 x2) = ref01_Name_j5 m rec3 x0 x1 x2 :=
  tre (g := fun J => (bif x2 then
   some false
    else
   (jj J 0 5 0 (s55_6 x0 x1) (e55 J m w55_1 [M3])))) (fun J => by kernel_rfl) (by simp only [jj_eq, ref01_Name_j6_eq m M3 rec3 h3]; rfl)
theorem ref01_Name_j4_eq m M3 rec3 (h3 : H55_3 m M3 rec3) x0 x1 : e55 jn m w55_3 [M3] (s55_6 x0 x1) = ref01_Name_j4 m rec3 x0 x1 :=
  tre (g := fun J => ((idxS x0 x1).bind fun v0 =>
   (bif (decide (v0 < 33)) then
   (jj J 0 7 0 (s55_5 x0 x1 true) (e55 J m w55_2 [M3]))
   else
   ((idxS x0 x1).bind fun v1 =>
   (bif (decide (126 < v1)) then
   (jj J 0 7 0 (s55_5 x0 x1 true) (e55 J m w55_2 [M3]))
   else
   ((idxS x0 x1).bind fun v2 =>
   (jj J 0 7 0 (s55_5 x0 x1 (v2 == 46)) (e55 J m w55_2 [M3])))))))) (fun J => by kernel_rfl) (by simp only [jj_eq, ref01_Name_j5_eq m M3 rec3 h3]; rfl)
theorem ref01_Name_j7_eq m : e55 jn m [1, 1, 1] [] s55_7 = ref01_Name_j7 m :=
  tre (g := fun J => some true) (fun J => by kernel_rfl) (by rfl)
theorem ref01_Name_l3_eq m : ∀ M3 x0 x1, l55 jn m w55_0 [] M3 (s55_6 x0 x1) = ref01_Name_l3 m M3 x0 x1
  | 0, _, _ => rfl
  | M3 + 1, x0, x1 =>
    trl (g := fun J => (bif (decide (x1 < (ByteArray.size x0 : Int))) then
   (jj J 0 6 0 (s55_6 x0 x1) (e55 J m w55_3 [M3]))
    else
   (jj J 0 8 0 s55_7 (e55 J m [1, 1, 1] [])))) (fun J => by kernel_rfl) (by simp only [jj_eq, ref01_Name_j4_eq m M3 (ref01_Name_l3 m M3) (ref01_Name_l3_eq m M3), ref01_Name_j7_eq m]; rfl)
theorem ref01_Name_j2_eq m x0 x1 : e55 jn m [1, 1, 0, 1] [] (s55_6 x0 x1) = ref01_Name_j2 m x0 x1 :=
  tre (g := fun J => (jj J 1 4 (Nat.succ m) (s55_6 x0 x1) (l55 J m w55_0 [] (Nat.succ m)))) (fun J => by kernel_rfl) (by simp only [jj_eq, ref01_Name_l3_eq m]; rfl)
theorem ref01_Name_j1_eq m x0 : e55 jn m [1, 1] [] (s55_1 x0) = ref01_Name_j1 m x0 :=
  tre (g := fun J => (jj J 0 4 0 (s55_6 x0 0) (e55 J m [1, 1, 0, 1] []))) (fun J => by kernel_rfl) (by simp only [jj_eq, ref01_Name_j2_eq m]; rfl)
theorem ref01_Name_j0_eq m x0 x1 : e55 jn m [1, 0, 1] [] (s55_0 x0 x1) = ref01_Name_j0 m x0 x1 :=
  tre (g := fun J => (bif x1 then
   some false
    else
   (jj J 0 3 0 (s55_1 x0) (e55 J m [1, 1] [])))) (fun J => by kernel_rfl) (by simp only [jj_eq, ref01_Name_j1_eq m]; rfl)
theorem ref01_Name_eq m a0 : e55 jn m [] [] ⟨[(.dat 9 (.str a0))], [], 0⟩ = ref01_Name (m + 1) a0 :=
  tre (g := fun J => (bif (decide ((ByteArray.size a0 : Int) < 1)) then
   (jj J 0 2 0 (s55_0 a0 true) (e55 J m [1, 0, 1] []))
    else
   (bif (decide (32 < (ByteArray.size a0 : Int))) then
   (jj J 0 2 0 (s55_0 a0 true) (e55 J m [1, 0, 1] []))
   else
   ((idxS a0 0).bind fun v3 =>
   (jj J 0 2 0 (s55_0 a0 (v3 == 36)) (e55 J m [1, 0, 1] [])))))) (fun J => by kernel_rfl) (by simp only [jj_eq, ref01_Name_j0_eq m]; rfl)
def w56_0 : List Nat := [1, 1, 0, 1, 0]
def w56_3 : List Nat := [1, 1, 0, 1, 0, 0, 1]
def w56_1 : List Nat := w56_3 ++ [1]
def w56_2 : List Nat := w56_3 ++ [0, 0, 1]
noncomputable def e56 (J : Nat → Nat → Nat → St → Option Bool → Option Bool) (m : Nat) (p ms : List Nat) (σ : St) := evAt Tryz.prog env (ct m) J (m + 1) 118 28 Tryz.f118 d1 p ms σ
noncomputable def l56 (J : Nat → Nat → Nat → St → Option Bool → Option Bool) (m : Nat) (p ms : List Nat) (M : Nat) (σ : St) := loopAt Tryz.prog env (ct m) J (m + 1) 118 28 Tryz.f118 d1 p ms M σ
noncomputable def s56_6 (x0 : ByteArray) (x1 : Int) : St := ⟨tsOf [(0, (.dat 9 (.str x0))), (3, (.dat 3 (.int x1)))], [], 0⟩
noncomputable def s56_5 (x0 : ByteArray) (x1 : Int) (x2 : Bool) : St := ⟨tsOf [(0, (.dat 9 (.str x0))), (3, (.dat 3 (.int x1))), (27, (.dat 4 (.bool x2)))], [], 0⟩
noncomputable def s56_7 : St := ⟨tsOf [], [], 0⟩
noncomputable def s56_1 (x0 : ByteArray) : St := ⟨tsOf [(0, (.dat 9 (.str x0)))], [], 0⟩
noncomputable def s56_0 (x0 : ByteArray) (x1 : Bool) : St := ⟨tsOf [(0, (.dat 9 (.str x0))), (11, (.dat 4 (.bool x1)))], [], 0⟩
abbrev H56_3 (m M3 : Nat) (rec3 : ByteArray → Int → Option Bool) : Prop := ∀ x0 x1, l56 jn m w56_0 [] M3 (s56_6 x0 x1) = rec3 x0 x1
theorem ref01_wide_j6_eq m M3 rec3 (h3 : H56_3 m M3 rec3) x0 x1 : e56 jn m w56_1 [M3] (s56_6 x0 x1) = ref01_wide_j6 m rec3 x0 x1 :=
  tre (g := fun J => (jj J 1 4 M3 (s56_6 x0 (IntKind.wrap .i64 (x1 + 1))) (l56 J m w56_0 [] M3))) (fun J => by kernel_rfl) (by simp only [jj_eq, h3]; rfl)
theorem ref01_wide_j5_eq m M3 rec3 (h3 : H56_3 m M3 rec3) x0 x1 x2 : e56 jn m w56_2 [M3] (s56_5 x0 x1 x2) = ref01_wide_j5 m rec3 x0 x1 x2 :=
  tre (g := fun J => (bif x2 then
   some false
    else
   (jj J 0 5 0 (s56_6 x0 x1) (e56 J m w56_1 [M3])))) (fun J => by kernel_rfl) (by simp only [jj_eq, ref01_wide_j6_eq m M3 rec3 h3]; rfl)
theorem ref01_wide_j4_eq m M3 rec3 (h3 : H56_3 m M3 rec3) x0 x1 : e56 jn m w56_3 [M3] (s56_6 x0 x1) = ref01_wide_j4 m rec3 x0 x1 :=
  tre (g := fun J => ((idxS x0 x1).bind fun v0 =>
   (bif (decide (v0 < 32)) then
   (jj J 0 7 0 (s56_5 x0 x1 true) (e56 J m w56_2 [M3]))
   else
   ((idxS x0 x1).bind fun v1 =>
   (jj J 0 7 0 (s56_5 x0 x1 (decide (126 < v1))) (e56 J m w56_2 [M3])))))) (fun J => by kernel_rfl) (by simp only [jj_eq, ref01_wide_j5_eq m M3 rec3 h3]; rfl)
theorem ref01_wide_j7_eq m : e56 jn m [1, 1, 1] [] s56_7 = ref01_wide_j7 m :=
  tre (g := fun J => some true) (fun J => by kernel_rfl) (by rfl)
theorem ref01_wide_l3_eq m : ∀ M3 x0 x1, l56 jn m w56_0 [] M3 (s56_6 x0 x1) = ref01_wide_l3 m M3 x0 x1
  | 0, _, _ => rfl
  | M3 + 1, x0, x1 =>
    trl (g := fun J => (bif (decide (x1 < (ByteArray.size x0 : Int))) then
   (jj J 0 6 0 (s56_6 x0 x1) (e56 J m w56_3 [M3]))
    else
   (jj J 0 8 0 s56_7 (e56 J m [1, 1, 1] [])))) (fun J => by kernel_rfl) (by simp only [jj_eq, ref01_wide_j4_eq m M3 (ref01_wide_l3 m M3) (ref01_wide_l3_eq m M3), ref01_wide_j7_eq m]; rfl)
theorem ref01_wide_j2_eq m x0 x1 : e56 jn m [1, 1, 0, 1] [] (s56_6 x0 x1) = ref01_wide_j2 m x0 x1 :=
  tre (g := fun J => (jj J 1 4 (Nat.succ m) (s56_6 x0 x1) (l56 J m w56_0 [] (Nat.succ m)))) (fun J => by kernel_rfl) (by simp only [jj_eq, ref01_wide_l3_eq m]; rfl)
theorem ref01_wide_j1_eq m x0 : e56 jn m [1, 1] [] (s56_1 x0) = ref01_wide_j1 m x0 :=
  tre (g := fun J => (jj J 0 4 0 (s56_6 x0 0) (e56 J m [1, 1, 0, 1] []))) (fun J => by kernel_rfl) (by simp only [jj_eq, ref01_wide_j2_eq m]; rfl)
theorem ref01_wide_j0_eq m x0 x1 : e56 jn m [1, 0, 1] [] (s56_0 x0 x1) = ref01_wide_j0 m x0 x1 :=
  tre (g := fun J => (bif x1 then
   some false
    else
   (jj J 0 3 0 (s56_1 x0) (e56 J m [1, 1] [])))) (fun J => by kernel_rfl) (by simp only [jj_eq, ref01_wide_j1_eq m]; rfl)
theorem ref01_wide_eq m a0 : e56 jn m [] [] ⟨[(.dat 9 (.str a0))], [], 0⟩ = ref01_wide (m + 1) a0 :=
  tre (g := fun J => (bif (decide ((ByteArray.size a0 : Int) < 1)) then
   (jj J 0 2 0 (s56_0 a0 true) (e56 J m [1, 0, 1] []))
    else
   (jj J 0 2 0 (s56_0 a0 (decide (128 < (ByteArray.size a0 : Int)))) (e56 J m [1, 0, 1] [])))) (fun J => by kernel_rfl) (by simp only [jj_eq, ref01_wide_j0_eq m]; rfl)
def w49_6 : List Nat := [1, 1, 1, 1, 1]
def w49_5 : List Nat := [1, 1, 1, 1, 1, 1]
def w49_7 : List Nat := [1, 1, 1, 1, 0, 1]
def w49_3 : List Nat := w49_5 ++ [1]
def w49_4 : List Nat := w49_5 ++ [0, 1]
def w49_0 : List Nat := w49_4 ++ [0]
def w49_2 : List Nat := w49_0 ++ [0, 1]
def w49_1 : List Nat := w49_2 ++ [1]
noncomputable def e49 (J : Nat → Nat → Nat → St → Option Bool → Option Bool) (m : Nat) (p ms : List Nat) (σ : St) := evAt Tryz.prog env (ct m) J (m + 1) 87 138 Tryz.f87 d1 p ms σ
noncomputable def l49 (J : Nat → Nat → Nat → St → Option Bool → Option Bool) (m : Nat) (p ms : List Nat) (M : Nat) (σ : St) := loopAt Tryz.prog env (ct m) J (m + 1) 87 138 Tryz.f87 d1 p ms M σ
noncomputable def s49_10 (x0 : Bool) (x1 : Int) (x2 : Dt) : St := ⟨tsOf [(1, (.dat 4 (.bool x0))), (2, (.ptr 0 [] 0)), (7, (.dat 3 (.int x1)))], [(.box 25 (.dat 25 x2))], 0⟩
noncomputable def s49_11 (x0 : Bool) (x1 : Dt) : St := ⟨tsOf [(1, (.dat 4 (.bool x0))), (2, (.ptr 0 [] 0))], [(.box 25 (.dat 25 x1))], 0⟩
noncomputable def s49_4 (x0 x1 : Bool) (x2 : Dt) : St := ⟨tsOf [(1, (.dat 4 (.bool x0))), (2, (.ptr 0 [] 0)), (79, (.dat 4 (.bool x1)))], [(.box 25 (.dat 25 x2))], 0⟩
noncomputable def s49_3 (x0 x1 x2 : Bool) (x3 : Dt) : St := ⟨tsOf [(1, (.dat 4 (.bool x0))), (2, (.ptr 0 [] 0)), (5, (.dat 4 (.bool x1))), (6, (.dat 4 (.bool x2)))], [(.box 25 (.dat 25 x3))], 0⟩
noncomputable def s49_2 (x0 x1 : Bool) (x2 : Dt) : St := ⟨tsOf [(1, (.dat 4 (.bool x0))), (2, (.ptr 0 [] 0)), (5, (.dat 4 (.bool x1)))], [(.box 25 (.dat 25 x2))], 0⟩
noncomputable def s49_0 (x0 x1 : Bool) (x2 : Dt) : St := ⟨tsOf [(1, (.dat 4 (.bool x0))), (2, (.ptr 0 [] 0)), (27, (.dat 4 (.bool x1)))], [(.box 25 (.dat 25 x2))], 0⟩
abbrev H49_8 (m M8 : Nat) (rec8 : Bool → Int → Dt → Option Bool) : Prop := ∀ x0 x1 x2, l49 jn m w49_0 [] M8 (s49_10 x0 x1 x2) = rec8 x0 x1 x2
theorem ref01_formed_j10_eq m M8 rec8 (h8 : H49_8 m M8 rec8) x0 x1 x2 : e49 jn m w49_1 [M8] (s49_10 x0 x1 x2) = ref01_formed_j10 m (ref01_formed m) (ref01_fields m) rec8 x0 x1 x2 :=
  tre (g := fun J => (jj J 1 19 M8 (s49_10 x0 (IntKind.wrap .i64 (x1 + 1)) x2) (l49 J m w49_0 [] M8))) (fun J => by kernel_rfl) (by simp only [jj_eq, h8]; rfl)
theorem ref01_formed_j9_eq m M8 rec8 (h8 : H49_8 m M8 rec8) x0 x1 x2 : e49 jn m w49_2 [M8] (s49_10 x0 x1 x2) = ref01_formed_j9 m (ref01_formed m) (ref01_fields m) rec8 x0 x1 x2 :=
  tre (g := fun J => ((idx (Dt.L x2 3) x1).bind fun v1 =>
   ((ref01_formed m v1 x0).bind fun r2 =>
   (bif (Bool.not r2) then
   some false
   else
   (jj J 0 20 0 (s49_10 x0 x1 x2) (e49 J m w49_1 [M8])))))) (fun J => by kernel_rfl) (by simp only [jj_eq, ref01_formed_j10_eq m M8 rec8 h8]; rfl)
theorem ref01_formed_j11_eq m x0 x1 : e49 jn m w49_3 [] (s49_11 x0 x1) = ref01_formed_j11 m (ref01_formed m) (ref01_fields m) x0 x1 :=
  tre (g := fun J => ((ref01_fields m x1 x0).bind fun r3 =>
   some r3)) (fun J => by kernel_rfl) (by rfl)
theorem ref01_formed_l8_eq m : ∀ M8 x0 x1 x2, l49 jn m w49_0 [] M8 (s49_10 x0 x1 x2) = ref01_formed_l8 m (ref01_formed m) (ref01_fields m) M8 x0 x1 x2
  | 0, _, _, _ => rfl
  | M8 + 1, x0, x1, x2 =>
    trl (g := fun J => (bif (decide (x1 < (List.length (Dt.L x2 3) : Int))) then
   (jj J 0 21 0 (s49_10 x0 x1 x2) (e49 J m w49_2 [M8]))
    else
   (jj J 0 23 0 (s49_11 x0 x2) (e49 J m w49_3 [])))) (fun J => by kernel_rfl) (by simp only [jj_eq, ref01_formed_j9_eq m M8 (ref01_formed_l8 m (ref01_formed m) (ref01_fields m) M8) (ref01_formed_l8_eq m M8), ref01_formed_j11_eq m]; rfl)
theorem ref01_formed_j7_eq m x0 x1 x2 : e49 jn m w49_4 [] (s49_10 x0 x1 x2) = ref01_formed_j7 m (ref01_formed m) (ref01_fields m) x0 x1 x2 :=
  tre (g := fun J => (jj J 1 19 (Nat.succ m) (s49_10 x0 x1 x2) (l49 J m w49_0 [] (Nat.succ m)))) (fun J => by kernel_rfl) (by simp only [jj_eq, ref01_formed_l8_eq m]; rfl)
theorem ref01_formed_j6_eq m x0 x1 : e49 jn m w49_5 [] (s49_11 x0 x1) = ref01_formed_j6 m (ref01_formed m) (ref01_fields m) x0 x1 :=
  tre (g := fun J => (jj J 0 19 0 (s49_10 x0 0 x1) (e49 J m w49_4 []))) (fun J => by kernel_rfl) (by simp only [jj_eq, ref01_formed_j7_eq m]; rfl)
theorem ref01_formed_j5_eq m x0 x1 : e49 jn m w49_6 [] (s49_11 x0 x1) = ref01_formed_j5 m (ref01_formed m) (ref01_fields m) x0 x1 :=
  tre (g := fun J => (bif ((Dt.I x1 0) == 9) then
   (bif ((Dt.I x1 1) == 0) then
   some true
   else
   some ((Dt.I x1 1) == 1))
    else
   (bif ((Dt.I x1 0) == 10) then
   some (decide (0 ≤ (Dt.I x1 1)))
   else
   (bif ((Dt.I x1 0) == 4) then
   (bif (decide ((ByteArray.size (Dt.S x1 2) : Int) ≤ 4096)) then
   ((ref01_UTF8 m (Dt.S x1 2)).bind fun r0 =>
   some r0)
   else
   some false)
   else
   (bif ((Dt.I x1 0) == 7) then
   some (decide ((ByteArray.size (Dt.S x1 2) : Int) ≤ 4096))
   else
   (bif ((Dt.I x1 0) == 8) then
   some ((ByteArray.size (Dt.S x1 2) : Int) == 12)
   else
   (jj J 0 18 0 (s49_11 x0 x1) (e49 J m w49_5 [])))))))) (fun J => by kernel_rfl) (by simp only [jj_eq, ref01_formed_j6_eq m]; rfl)
theorem ref01_formed_j4_eq m x0 x1 x2 : e49 jn m w49_7 [] (s49_4 x0 x1 x2) = ref01_formed_j4 m (ref01_formed m) (ref01_fields m) x0 x1 x2 :=
  tre (g := fun J => (bif x1 then
   some false
    else
   (jj J 0 7 0 (s49_11 x0 x2) (e49 J m w49_6 [])))) (fun J => by kernel_rfl) (by simp only [jj_eq, ref01_formed_j5_eq m]; rfl)
theorem ref01_formed_j3_eq m x0 x1 x2 x3 : e49 jn m [1, 1, 1, 1] [] (s49_3 x0 x1 x2 x3) = ref01_formed_j3 m (ref01_formed m) (ref01_fields m) x0 x1 x2 x3 :=
  tre (g := fun J => (bif (Bool.not x1) then
   (bif (Bool.not ((ByteArray.toList (Dt.S x3 2)) == [])) then
   (jj J 0 6 0 (s49_4 x0 true x3) (e49 J m w49_7 []))
   else
   (bif (Bool.not x2) then
   (bif ((Dt.I x3 1) != 0) then
   (jj J 0 6 0 (s49_4 x0 true x3) (e49 J m w49_7 []))
   else
   (bif (decide ((Dt.I x3 0) < 1)) then
   (jj J 0 6 0 (s49_4 x0 true x3) (e49 J m w49_7 []))
   else
   (jj J 0 6 0 (s49_4 x0 (decide (11 < (Dt.I x3 0))) x3) (e49 J m w49_7 []))))
   else
   (bif (decide ((Dt.I x3 0) < 1)) then
   (jj J 0 6 0 (s49_4 x0 true x3) (e49 J m w49_7 []))
   else
   (jj J 0 6 0 (s49_4 x0 (decide (11 < (Dt.I x3 0))) x3) (e49 J m w49_7 [])))))
    else
   (bif (Bool.not x2) then
   (bif ((Dt.I x3 1) != 0) then
   (jj J 0 6 0 (s49_4 x0 true x3) (e49 J m w49_7 []))
   else
   (bif (decide ((Dt.I x3 0) < 1)) then
   (jj J 0 6 0 (s49_4 x0 true x3) (e49 J m w49_7 []))
   else
   (jj J 0 6 0 (s49_4 x0 (decide (11 < (Dt.I x3 0))) x3) (e49 J m w49_7 []))))
   else
   (bif (decide ((Dt.I x3 0) < 1)) then
   (jj J 0 6 0 (s49_4 x0 true x3) (e49 J m w49_7 []))
   else
   (jj J 0 6 0 (s49_4 x0 (decide (11 < (Dt.I x3 0))) x3) (e49 J m w49_7 [])))))) (fun J => by kernel_rfl) (by simp only [jj_eq, ref01_formed_j4_eq m]; rfl)
theorem ref01_formed_j2_eq m x0 x1 x2 : e49 jn m [1, 1, 1] [] (s49_2 x0 x1 x2) = ref01_formed_j2 m (ref01_formed m) (ref01_fields m) x0 x1 x2 :=
  tre (g := fun J => (bif ((Dt.I x2 0) == 3) then
   (jj J 0 5 0 (s49_3 x0 x1 true x2) (e49 J m [1, 1, 1, 1] []))
    else
   (bif ((Dt.I x2 0) == 9) then
   (jj J 0 5 0 (s49_3 x0 x1 true x2) (e49 J m [1, 1, 1, 1] []))
   else
   (jj J 0 5 0 (s49_3 x0 x1 ((Dt.I x2 0) == 10) x2) (e49 J m [1, 1, 1, 1] []))))) (fun J => by kernel_rfl) (by simp only [jj_eq, ref01_formed_j3_eq m]; rfl)
theorem ref01_formed_j1_eq m x0 x1 : e49 jn m [1, 1] [] (s49_11 x0 x1) = ref01_formed_j1 m (ref01_formed m) (ref01_fields m) x0 x1 :=
  tre (g := fun J => (bif ((Dt.I x1 0) == 4) then
   (jj J 0 4 0 (s49_2 x0 true x1) (e49 J m [1, 1, 1] []))
    else
   (bif ((Dt.I x1 0) == 7) then
   (jj J 0 4 0 (s49_2 x0 true x1) (e49 J m [1, 1, 1] []))
   else
   (jj J 0 4 0 (s49_2 x0 ((Dt.I x1 0) == 8) x1) (e49 J m [1, 1, 1] []))))) (fun J => by kernel_rfl) (by simp only [jj_eq, ref01_formed_j2_eq m]; rfl)
theorem ref01_formed_j0_eq m x0 x1 x2 : e49 jn m [1, 0, 1] [] (s49_0 x0 x1 x2) = ref01_formed_j0 m (ref01_formed m) (ref01_fields m) x0 x1 x2 :=
  tre (g := fun J => (bif x1 then
   some false
    else
   (jj J 0 3 0 (s49_11 x0 x2) (e49 J m [1, 1] [])))) (fun J => by kernel_rfl) (by simp only [jj_eq, ref01_formed_j1_eq m]; rfl)
theorem ref01_formed_eq m a0 a1 : e49 jn m [] [] ⟨[(.dat 25 a0), (.dat 4 (.bool a1))], [], 0⟩ = ref01_formed (m + 1) a0 a1 :=
  tre (g := fun J => (bif ((Dt.I a0 0) != 6) then
   (bif (decide (0 < (List.length (Dt.L a0 3) : Int))) then
   (jj J 0 2 0 (s49_0 a1 true a0) (e49 J m [1, 0, 1] []))
   else
   (bif ((Dt.I a0 0) != 5) then
   (jj J 0 2 0 (s49_0 a1 (decide (0 < (List.length (Dt.L a0 4) : Int))) a0) (e49 J m [1, 0, 1] []))
   else
   (jj J 0 2 0 (s49_0 a1 false a0) (e49 J m [1, 0, 1] []))))
    else
   (bif ((Dt.I a0 0) != 5) then
   (jj J 0 2 0 (s49_0 a1 (decide (0 < (List.length (Dt.L a0 4) : Int))) a0) (e49 J m [1, 0, 1] []))
   else
   (jj J 0 2 0 (s49_0 a1 false a0) (e49 J m [1, 0, 1] []))))) (fun J => by kernel_rfl) (by simp only [jj_eq, ref01_formed_j0_eq m]; rfl)
def w53_7 : List Nat := [1, 0, 1, 0, 0, 1]
def w53_3 : List Nat := w53_7 ++ [1]
def w53_5 : List Nat := w53_7 ++ [0, 0, 1, 1]
def w53_4 : List Nat := w53_5 ++ [1]
def w53_6 : List Nat := w53_7 ++ [0, 0, 1, 0, 1]
def w53_0 : List Nat := w53_4 ++ [0]
def w53_2 : List Nat := w53_0 ++ [0, 1]
def w53_1 : List Nat := w53_2 ++ [1]
noncomputable def e53 (J : Nat → Nat → Nat → St → Option Bool → Option Bool) (m : Nat) (p ms : List Nat) (σ : St) := evAt Tryz.prog env (ct m) J (m + 1) 102 58 Tryz.f102 d1 p ms σ
noncomputable def l53 (J : Nat → Nat → Nat → St → Option Bool → Option Bool) (m : Nat) (p ms : List Nat) (M : Nat) (σ : St) := loopAt Tryz.prog env (ct m) J (m + 1) 102 58 Tryz.f102 d1 p ms M σ
noncomputable def s53_8 (x0 : Bool) (x1 x2 : Int) (x3 x4 : Dt) : St := ⟨tsOf [(1, (.dat 4 (.bool x0))), (2, (.ptr 0 [] 0)), (5, (.dat 3 (.int x1))), (6, (.ptr 1 [] 0)), (7, (.dat 3 (.int x2)))], [(.box 25 (.dat 25 x3)), (.box 38 (.dat 38 x4))], 0⟩
noncomputable def s53_9 (x0 : Bool) (x1 : Int) (x2 : Dt) : St := ⟨tsOf [(1, (.dat 4 (.bool x0))), (2, (.ptr 0 [] 0)), (5, (.dat 3 (.int x1)))], [(.box 25 (.dat 25 x2))], 0⟩
noncomputable def s53_4 (x0 : Bool) (x1 : Int) (x2 x3 : Dt) : St := ⟨tsOf [(1, (.dat 4 (.bool x0))), (2, (.ptr 0 [] 0)), (5, (.dat 3 (.int x1))), (6, (.ptr 1 [] 0))], [(.box 25 (.dat 25 x2)), (.box 38 (.dat 38 x3))], 0⟩
noncomputable def s53_3 (x0 : Bool) (x1 : Int) (x2 : Bool) (x3 x4 : Dt) : St := ⟨tsOf [(1, (.dat 4 (.bool x0))), (2, (.ptr 0 [] 0)), (5, (.dat 3 (.int x1))), (6, (.ptr 1 [] 0)), (43, (.dat 4 (.bool x2)))], [(.box 25 (.dat 25 x3)), (.box 38 (.dat 38 x4))], 0⟩
noncomputable def s53_10 : St := ⟨tsOf [], [], 0⟩
abbrev H53_1 (m M1 : Nat) (rec1 : Bool → Int → Dt → Option Bool) : Prop := ∀ x0 x1 x2, l53 jn m [1, 0, 1, 0] [] M1 (s53_9 x0 x1 x2) = rec1 x0 x1 x2
abbrev H53_6 (m M1 M6 : Nat) (rec6 : Bool → Int → Int → Dt → Dt → Option Bool) : Prop := ∀ x0 x1 x2 x3 x4, l53 jn m w53_0 [M1] M6 (s53_8 x0 x1 x2 x3 x4) = rec6 x0 x1 x2 x3 x4
theorem ref01_fields_j8_eq m M1 rec1 (h1 : H53_1 m M1 rec1) M6 rec6 (h6 : H53_6 m M1 M6 rec6) x0 x1 x2 x3 x4 : e53 jn m w53_1 [M1, M6] (s53_8 x0 x1 x2 x3 x4) = ref01_fields_j8 m (ref01_formed m) rec1 rec6 x0 x1 x2 x3 x4 :=
  tre (g := fun J => (jj J 1 8 M6 (s53_8 x0 x1 (IntKind.wrap .i64 (x2 + 1)) x3 x4) (l53 J m w53_0 [M1] M6))) (fun J => by kernel_rfl) (by simp only [jj_eq, h6]; rfl)
theorem ref01_fields_j7_eq m M1 rec1 (h1 : H53_1 m M1 rec1) M6 rec6 (h6 : H53_6 m M1 M6 rec6) x0 x1 x2 x3 x4 : e53 jn m w53_2 [M1, M6] (s53_8 x0 x1 x2 x3 x4) = ref01_fields_j7 m (ref01_formed m) rec1 rec6 x0 x1 x2 x3 x4 :=
  tre (g := fun J => ((idx (Dt.L x3 4) x2).bind fun v2 =>
   (bif ((ByteArray.toList (Dt.S v2 0)) == (ByteArray.toList (Dt.S x4 0))) then
   some false
   else
   (jj J 0 9 0 (s53_8 x0 x1 x2 x3 x4) (e53 J m w53_1 [M1, M6]))))) (fun J => by kernel_rfl) (by simp only [jj_eq, ref01_fields_j8_eq m M1 rec1 h1 M6 rec6 h6]; rfl)
theorem ref01_fields_j9_eq m M1 rec1 (h1 : H53_1 m M1 rec1) x0 x1 x2 : e53 jn m w53_3 [M1] (s53_9 x0 x1 x2) = ref01_fields_j9 m (ref01_formed m) rec1 x0 x1 x2 :=
  tre (g := fun J => (jj J 1 2 M1 (s53_9 x0 (IntKind.wrap .i64 (x1 + 1)) x2) (l53 J m [1, 0, 1, 0] [] M1))) (fun J => by kernel_rfl) (by simp only [jj_eq, h1]; rfl)
theorem ref01_fields_l6_eq m M1 rec1 (h1 : H53_1 m M1 rec1) : ∀ M6 x0 x1 x2 x3 x4, l53 jn m w53_0 [M1] M6 (s53_8 x0 x1 x2 x3 x4) = ref01_fields_l6 m (ref01_formed m) rec1 M6 x0 x1 x2 x3 x4
  | 0, _, _, _, _, _ => rfl
  | M6 + 1, x0, x1, x2, x3, x4 =>
    trl (g := fun J => (bif (decide (x2 < x1)) then
   (jj J 0 10 0 (s53_8 x0 x1 x2 x3 x4) (e53 J m w53_2 [M1, M6]))
    else
   (jj J 0 3 0 (s53_9 x0 x1 x3) (e53 J m w53_3 [M1])))) (fun J => by kernel_rfl) (by simp only [jj_eq, ref01_fields_j7_eq m M1 rec1 h1 M6 (ref01_fields_l6 m (ref01_formed m) rec1 M6) (ref01_fields_l6_eq m M1 rec1 h1 M6), ref01_fields_j9_eq m M1 rec1 h1]; rfl)
theorem ref01_fields_j5_eq m M1 rec1 (h1 : H53_1 m M1 rec1) x0 x1 x2 x3 x4 : e53 jn m w53_4 [M1] (s53_8 x0 x1 x2 x3 x4) = ref01_fields_j5 m (ref01_formed m) rec1 x0 x1 x2 x3 x4 :=
  tre (g := fun J => (jj J 1 8 (Nat.succ m) (s53_8 x0 x1 x2 x3 x4) (l53 J m w53_0 [M1] (Nat.succ m)))) (fun J => by kernel_rfl) (by simp only [jj_eq, ref01_fields_l6_eq m M1 rec1 h1]; rfl)
theorem ref01_fields_j4_eq m M1 rec1 (h1 : H53_1 m M1 rec1) x0 x1 x2 x3 : e53 jn m w53_5 [M1] (s53_4 x0 x1 x2 x3) = ref01_fields_j4 m (ref01_formed m) rec1 x0 x1 x2 x3 :=
  tre (g := fun J => (jj J 0 8 0 (s53_8 x0 x1 0 x2 x3) (e53 J m w53_4 [M1]))) (fun J => by kernel_rfl) (by simp only [jj_eq, ref01_fields_j5_eq m M1 rec1 h1]; rfl)
theorem ref01_fields_j3_eq m M1 rec1 (h1 : H53_1 m M1 rec1) x0 x1 x2 x3 x4 : e53 jn m w53_6 [M1] (s53_3 x0 x1 x2 x3 x4) = ref01_fields_j3 m (ref01_formed m) rec1 x0 x1 x2 x3 x4 :=
  tre (g := fun J => (bif x2 then
   some false
    else
   (jj J 0 7 0 (s53_4 x0 x1 x3 x4) (e53 J m w53_5 [M1])))) (fun J => by kernel_rfl) (by simp only [jj_eq, ref01_fields_j4_eq m M1 rec1 h1]; rfl)
theorem ref01_fields_j2_eq m M1 rec1 (h1 : H53_1 m M1 rec1) x0 x1 x2 : e53 jn m w53_7 [M1] (s53_9 x0 x1 x2) = ref01_fields_j2 m (ref01_formed m) rec1 x0 x1 x2 :=
  tre (g := fun J => ((idx (Dt.L x2 4) x1).bind fun v0 =>
   (bif x0 then
   ((ref01_Name m (Dt.S v0 0)).bind fun r1 =>
   (bif (Bool.not r1) then
   (jj J 0 6 0 (s53_3 x0 x1 true x2 v0) (e53 J m w53_6 [M1]))
   else
   (bif (Bool.not x0) then
   ((ref01_wide m (Dt.S v0 0)).bind fun r3 =>
   (bif (Bool.not r3) then
   (jj J 0 6 0 (s53_3 x0 x1 true x2 v0) (e53 J m w53_6 [M1]))
   else
   ((ref01_formed m (Dt.fld v0 1) x0).bind fun r4 =>
   (jj J 0 6 0 (s53_3 x0 x1 (Bool.not r4) x2 v0) (e53 J m w53_6 [M1])))))
   else
   ((ref01_formed m (Dt.fld v0 1) x0).bind fun r5 =>
   (jj J 0 6 0 (s53_3 x0 x1 (Bool.not r5) x2 v0) (e53 J m w53_6 [M1]))))))
   else
   (bif (Bool.not x0) then
   ((ref01_wide m (Dt.S v0 0)).bind fun r6 =>
   (bif (Bool.not r6) then
   (jj J 0 6 0 (s53_3 x0 x1 true x2 v0) (e53 J m w53_6 [M1]))
   else
   ((ref01_formed m (Dt.fld v0 1) x0).bind fun r7 =>
   (jj J 0 6 0 (s53_3 x0 x1 (Bool.not r7) x2 v0) (e53 J m w53_6 [M1])))))
   else
   ((ref01_formed m (Dt.fld v0 1) x0).bind fun r8 =>
   (jj J 0 6 0 (s53_3 x0 x1 (Bool.not r8) x2 v0) (e53 J m w53_6 [M1]))))))) (fun J => by kernel_rfl) (by simp only [jj_eq, ref01_fields_j3_eq m M1 rec1 h1]; rfl)
theorem ref01_fields_j10_eq m : e53 jn m [1, 1] [] s53_10 = ref01_fields_j10 m (ref01_formed m) :=
  tre (g := fun J => some true) (fun J => by kernel_rfl) (by rfl)
theorem ref01_fields_l1_eq m : ∀ M1 x0 x1 x2, l53 jn m [1, 0, 1, 0] [] M1 (s53_9 x0 x1 x2) = ref01_fields_l1 m (ref01_formed m) M1 x0 x1 x2
  | 0, _, _, _ => rfl
  | M1 + 1, x0, x1, x2 =>
    trl (g := fun J => (bif (decide (x1 < (List.length (Dt.L x2 4) : Int))) then
   (jj J 0 4 0 (s53_9 x0 x1 x2) (e53 J m w53_7 [M1]))
    else
   (jj J 0 12 0 s53_10 (e53 J m [1, 1] [])))) (fun J => by kernel_rfl) (by simp only [jj_eq, ref01_fields_j2_eq m M1 (ref01_fields_l1 m (ref01_formed m) M1) (ref01_fields_l1_eq m M1), ref01_fields_j10_eq m]; rfl)
theorem ref01_fields_j0_eq m x0 x1 x2 : e53 jn m [1, 0, 1] [] (s53_9 x0 x1 x2) = ref01_fields_j0 m (ref01_formed m) x0 x1 x2 :=
  tre (g := fun J => (jj J 1 2 (Nat.succ m) (s53_9 x0 x1 x2) (l53 J m [1, 0, 1, 0] [] (Nat.succ m)))) (fun J => by kernel_rfl) (by simp only [jj_eq, ref01_fields_l1_eq m]; rfl)
theorem ref01_fields_eq m a0 a1 : e53 jn m [] [] ⟨[(.dat 25 a0), (.dat 4 (.bool a1))], [], 0⟩ = ref01_fields (m + 1) a0 a1 :=
  tre (g := fun J => (jj J 0 2 0 (s53_9 a1 0 a0) (e53 J m [1, 0, 1] []))) (fun J => by kernel_rfl) (by simp only [jj_eq, ref01_fields_j0_eq m]; rfl)
end Go.Proofs.YtmejbpmceflcjaaGreatDoor
