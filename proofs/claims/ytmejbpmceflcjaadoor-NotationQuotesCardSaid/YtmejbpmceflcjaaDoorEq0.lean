/- Generated: each function's run in the abstract machine is its shallow function. -/
import Derived.Test.YtmejbpmceflcjaaDoorCt
import Derived.Test.YtmejbpmceflcjaaDoorAmEnv
import Derived.KernelRfl
set_option linter.unusedVariables false
set_option linter.unusedSimpArgs false
namespace Go.Proofs.YtmejbpmceflcjaaDoor
open Go.Am
set_option maxRecDepth 100000
def w2_0 : List Nat := [1, 1, 0, 1, 0]
def w2_4 : List Nat := [1, 1, 0, 1, 0, 0, 1, 1]
def w2_1 : List Nat := w2_4 ++ [1]
def w2_3 : List Nat := w2_4 ++ [0, 0, 1, 1, 0, 1]
def w2_2 : List Nat := w2_3 ++ [1, 1, 1, 1, 1, 1, 1, 1]
noncomputable def e2 (J : Nat → Nat → Nat → St → Option ByteArray → Option ByteArray) (m : Nat) (p ms : List Nat) (σ : St) := evAt Tryd.prog env (ct m) J (m + 1) 8 68 Tryd.f8 d2 p ms σ
noncomputable def l2 (J : Nat → Nat → Nat → St → Option ByteArray → Option ByteArray) (m : Nat) (p ms : List Nat) (M : Nat) (σ : St) := loopAt Tryd.prog env (ct m) J (m + 1) 8 68 Tryd.f8 d2 p ms M σ
noncomputable def s2_4 (x0 : ByteArray) (x1 x2 : Int) (x3 : List Dt) : St := ⟨tsOf [(0, (.dat 9 (.str x0))), (3, (.row 0)), (8, (.dat 3 (.int x1))), (9, (.dat 3 (.int x2)))], [(.row 42 x3)], 0⟩
noncomputable def s2_5 (x0 : ByteArray) (x1 x2 x3 : Int) (x4 : Bool) (x5 : List Dt) : St := ⟨tsOf [(0, (.dat 9 (.str x0))), (3, (.row 0)), (5, (.dat 5 (.int x1))), (8, (.dat 3 (.int x2))), (9, (.dat 3 (.int x3))), (45, (.dat 4 (.bool x4)))], [(.row 42 x5)], 0⟩
noncomputable def s2_3 (x0 : ByteArray) (x1 x2 x3 : Int) (x4 : Bool) (x5 : List Dt) : St := ⟨tsOf [(0, (.dat 9 (.str x0))), (3, (.row 0)), (5, (.dat 5 (.int x1))), (8, (.dat 3 (.int x2))), (9, (.dat 3 (.int x3))), (19, (.dat 4 (.bool x4)))], [(.row 42 x5)], 0⟩
noncomputable def s2_6 (x0 : List Dt) : St := ⟨tsOf [(3, (.row 0))], [(.row 42 x0)], 0⟩
abbrev H2_1 (m M1 : Nat) (rec1 : ByteArray → Int → Int → List Dt → Option ByteArray) : Prop := ∀ x0 x1 x2 x3, l2 jn m w2_0 [] M1 (s2_4 x0 x1 x2 x3) = rec1 x0 x1 x2 x3
theorem notation_Quote_j4_eq m M1 rec1 (h1 : H2_1 m M1 rec1) x0 x1 x2 x3 : e2 jn m w2_1 [M1] (s2_4 x0 x1 x2 x3) = notation_Quote_j4 m rec1 x0 x1 x2 x3 :=
  tre (g := fun J => (jj J 1 3 M1 (s2_4 x0 x1 (IntKind.wrap .i64 (x2 + 1)) x3) (l2 J m w2_0 [] M1))) (fun J => by kernel_rfl) (by simp only [jj_eq, h1]; rfl)
theorem notation_Quote_j5_eq m M1 rec1 (h1 : H2_1 m M1 rec1) x0 x1 x2 x3 x4 x5 : e2 jn m w2_2 [M1] (s2_5 x0 x1 x2 x3 x4 x5) = notation_Quote_j5 m rec1 x0 x1 x2 x3 x4 x5 :=
  tre (g := fun J => (bif x4 then
   ((app x5 [(Dt.int 92), (Dt.int 117), (Dt.int 48), (Dt.int 48)]).bind fun v5 =>
   ((idxS (ByteArray.mk (List.toArray [48, 49, 50, 51, 52, 53, 54, 55, 56, 57, 97, 98, 99, 100, 101, 102])) (shrI IntKind.u8 x1 4)).bind fun v6 =>
   ((idxS (ByteArray.mk (List.toArray [48, 49, 50, 51, 52, 53, 54, 55, 56, 57, 97, 98, 99, 100, 101, 102])) (andI IntKind.u8 x1 15)).bind fun v7 =>
   ((app v5 [(Dt.int v6), (Dt.int v7)]).bind fun v8 =>
   (jj J 0 18 0 (s2_4 x0 x2 x3 v8) (e2 J m w2_1 [M1]))))))
    else
   ((app x5 [(Dt.int x1)]).bind fun v9 =>
   (jj J 0 18 0 (s2_4 x0 x2 x3 v9) (e2 J m w2_1 [M1]))))) (fun J => by kernel_rfl) (by simp only [jj_eq, notation_Quote_j4_eq m M1 rec1 h1]; rfl)
theorem notation_Quote_j3_eq m M1 rec1 (h1 : H2_1 m M1 rec1) x0 x1 x2 x3 x4 x5 : e2 jn m w2_3 [M1] (s2_3 x0 x1 x2 x3 x4 x5) = notation_Quote_j3 m rec1 x0 x1 x2 x3 x4 x5 :=
  tre (g := fun J => (bif x4 then
   ((app x5 [(Dt.int 92), (Dt.int x1)]).bind fun v1 =>
   (jj J 0 18 0 (s2_4 x0 x2 x3 v1) (e2 J m w2_1 [M1])))
    else
   (bif (x1 == 10) then
   ((app x5 [(Dt.int 92), (Dt.int 110)]).bind fun v2 =>
   (jj J 0 18 0 (s2_4 x0 x2 x3 v2) (e2 J m w2_1 [M1])))
   else
   (bif (x1 == 13) then
   ((app x5 [(Dt.int 92), (Dt.int 114)]).bind fun v3 =>
   (jj J 0 18 0 (s2_4 x0 x2 x3 v3) (e2 J m w2_1 [M1])))
   else
   (bif (x1 == 9) then
   ((app x5 [(Dt.int 92), (Dt.int 116)]).bind fun v4 =>
   (jj J 0 18 0 (s2_4 x0 x2 x3 v4) (e2 J m w2_1 [M1])))
   else
   (bif (decide (x1 < 32)) then
   (jj J 0 16 0 (s2_5 x0 x1 x2 x3 true x5) (e2 J m w2_2 [M1]))
   else
   (jj J 0 16 0 (s2_5 x0 x1 x2 x3 (x1 == 127) x5) (e2 J m w2_2 [M1])))))))) (fun J => by kernel_rfl) (by simp only [jj_eq, notation_Quote_j4_eq m M1 rec1 h1, notation_Quote_j5_eq m M1 rec1 h1]; rfl)
theorem notation_Quote_j2_eq m M1 rec1 (h1 : H2_1 m M1 rec1) x0 x1 x2 x3 : e2 jn m w2_4 [M1] (s2_4 x0 x1 x2 x3) = notation_Quote_j2 m rec1 x0 x1 x2 x3 :=
  tre (g := fun J => ((idxS x0 x2).bind fun v0 =>
   (bif (v0 == 34) then
   (jj J 0 8 0 (s2_3 x0 v0 x1 x2 true x3) (e2 J m w2_3 [M1]))
   else
   (jj J 0 8 0 (s2_3 x0 v0 x1 x2 (v0 == 92) x3) (e2 J m w2_3 [M1]))))) (fun J => by kernel_rfl) (by simp only [jj_eq, notation_Quote_j3_eq m M1 rec1 h1]; rfl)
theorem notation_Quote_j6_eq m x0 : e2 jn m [1, 1, 1] [] (s2_6 x0) = notation_Quote_j6 m x0 :=
  tre (g := fun J => ((app x0 [(Dt.int 34)]).bind fun v10 =>
   ((bif (Nat.ble (List.length v10) 137438953472) then (Option.some (strOfNums (List.map Dt.toInt v10))) else (Option.none)).bind fun v11 =>
   some v11))) (fun J => by kernel_rfl) (by rfl)
theorem notation_Quote_l1_eq m : ∀ M1 x0 x1 x2 x3, l2 jn m w2_0 [] M1 (s2_4 x0 x1 x2 x3) = notation_Quote_l1 m M1 x0 x1 x2 x3
  | 0, _, _, _, _ => rfl
  | M1 + 1, x0, x1, x2, x3 =>
    trl (g := fun J => (bif (decide (x2 < x1)) then
   (jj J 0 4 0 (s2_4 x0 x1 x2 x3) (e2 J m w2_4 [M1]))
    else
   (jj J 0 19 0 (s2_6 x3) (e2 J m [1, 1, 1] [])))) (fun J => by kernel_rfl) (by simp only [jj_eq, notation_Quote_j2_eq m M1 (notation_Quote_l1 m M1) (notation_Quote_l1_eq m M1), notation_Quote_j6_eq m]; rfl)
theorem notation_Quote_j0_eq m x0 x1 x2 x3 : e2 jn m [1, 1, 0, 1] [] (s2_4 x0 x1 x2 x3) = notation_Quote_j0 m x0 x1 x2 x3 :=
  tre (g := fun J => (jj J 1 3 (Nat.succ m) (s2_4 x0 x1 x2 x3) (l2 J m w2_0 [] (Nat.succ m)))) (fun J => by kernel_rfl) (by simp only [jj_eq, notation_Quote_l1_eq m]; rfl)
theorem notation_Quote_eq m a0 : e2 jn m [] [] ⟨[(.dat 9 (.str a0))], [], 0⟩ = notation_Quote (m + 1) a0 :=
  tre (g := fun J => (jj J 0 3 0 (s2_4 a0 (ByteArray.size a0 : Int) 0 [(Dt.int 34)]) (e2 J m [1, 1, 0, 1] []))) (fun J => by kernel_rfl) (by simp only [jj_eq, notation_Quote_j0_eq m]; rfl)
noncomputable def e6 (J : Nat → Nat → Nat → St → Option ByteArray → Option ByteArray) (m : Nat) (p ms : List Nat) (σ : St) := evAt Tryd.prog env (ct m) J (m + 1) 16 7 Tryd.f16 d2 p ms σ
noncomputable def l6 (J : Nat → Nat → Nat → St → Option ByteArray → Option ByteArray) (m : Nat) (p ms : List Nat) (M : Nat) (σ : St) := loopAt Tryd.prog env (ct m) J (m + 1) 16 7 Tryd.f16 d2 p ms M σ
theorem ref05_digit_eq m a0 : e6 jn m [] [] ⟨[(.dat 3 (.int a0))], [], 0⟩ = ref05_digit (m + 1) a0 :=
  tre (g := fun J => ((cutS (ByteArray.mk (List.toArray [48, 49, 50, 51, 52, 53, 54, 55, 56, 57, 97, 98, 99, 100, 101, 102])) a0 (IntKind.wrap .i64 (a0 + 1))).bind fun v0 =>
   some v0)) (fun J => by kernel_rfl) (by rfl)
def w3_0 : List Nat := [1, 1, 0, 1, 0]
def w3_4 : List Nat := [1, 1, 0, 1, 0, 0, 1]
def w3_1 : List Nat := w3_4 ++ [1]
def w3_3 : List Nat := w3_4 ++ [0, 0, 0, 1]
def w3_2 : List Nat := w3_3 ++ [1, 1, 1, 1, 1, 1, 1, 1]
noncomputable def e3 (J : Nat → Nat → Nat → St → Option ByteArray → Option ByteArray) (m : Nat) (p ms : List Nat) (σ : St) := evAt Tryd.prog env (ct m) J (m + 1) 9 87 Tryd.f9 d2 p ms σ
noncomputable def l3 (J : Nat → Nat → Nat → St → Option ByteArray → Option ByteArray) (m : Nat) (p ms : List Nat) (M : Nat) (σ : St) := loopAt Tryd.prog env (ct m) J (m + 1) 9 87 Tryd.f9 d2 p ms M σ
noncomputable def s3_4 (x0 x1 : ByteArray) (x2 : Int) : St := ⟨tsOf [(0, (.dat 9 (.str x0))), (3, (.dat 9 (.str x1))), (4, (.dat 3 (.int x2)))], [], 0⟩
noncomputable def s3_5 (x0 x1 : ByteArray) (x2 : Int) (x3 : Bool) : St := ⟨tsOf [(0, (.dat 9 (.str x0))), (3, (.dat 9 (.str x1))), (4, (.dat 3 (.int x2))), (58, (.dat 4 (.bool x3)))], [], 0⟩
noncomputable def s3_3 (x0 x1 : ByteArray) (x2 : Int) (x3 : Bool) : St := ⟨tsOf [(0, (.dat 9 (.str x0))), (3, (.dat 9 (.str x1))), (4, (.dat 3 (.int x2))), (18, (.dat 4 (.bool x3)))], [], 0⟩
noncomputable def s3_6 (x0 : ByteArray) : St := ⟨tsOf [(3, (.dat 9 (.str x0)))], [], 0⟩
abbrev H3_1 (m M1 : Nat) (rec1 : ByteArray → ByteArray → Int → Option ByteArray) : Prop := ∀ x0 x1 x2, l3 jn m w3_0 [] M1 (s3_4 x0 x1 x2) = rec1 x0 x1 x2
theorem ref05_Quote_j4_eq m M1 rec1 (h1 : H3_1 m M1 rec1) x0 x1 x2 : e3 jn m w3_1 [M1] (s3_4 x0 x1 x2) = ref05_Quote_j4 m rec1 x0 x1 x2 :=
  tre (g := fun J => (jj J 1 3 M1 (s3_4 x0 x1 (IntKind.wrap .i64 (x2 + 1))) (l3 J m w3_0 [] M1))) (fun J => by kernel_rfl) (by simp only [jj_eq, h1]; rfl)
theorem ref05_Quote_j5_eq m M1 rec1 (h1 : H3_1 m M1 rec1) x0 x1 x2 x3 : e3 jn m w3_2 [M1] (s3_5 x0 x1 x2 x3) = ref05_Quote_j5 m rec1 x0 x1 x2 x3 :=
  tre (g := fun J => (bif x3 then
   (bif (Nat.ble ((ByteArray.size x1) + 4) 1152921504606846976) then
   ((idxS x0 x2).bind fun v6 =>
   ((ref05_digit m (IntKind.wrap .i64 (Int.tdiv (IntKind.wrap .i64 v6) 16))).bind fun r7 =>
   (bif (Nat.ble ((ByteArray.size (x1 ++ (ByteArray.mk (List.toArray [92, 117, 48, 48])))) + (ByteArray.size r7)) 1152921504606846976) then
   ((idxS x0 x2).bind fun v8 =>
   ((ref05_digit m (Int.tmod (IntKind.wrap .i64 v8) 16)).bind fun r9 =>
   (bif (Nat.ble ((ByteArray.size ((x1 ++ (ByteArray.mk (List.toArray [92, 117, 48, 48]))) ++ r7)) + (ByteArray.size r9)) 1152921504606846976) then
   (jj J 0 4 0 (s3_4 x0 (((x1 ++ (ByteArray.mk (List.toArray [92, 117, 48, 48]))) ++ r7) ++ r9) x2) (e3 J m w3_1 [M1]))
   else
   none)))
   else
   none)))
   else
   none)
    else
   ((cutS x0 x2 (IntKind.wrap .i64 (x2 + 1))).bind fun v10 =>
   (bif (Nat.ble ((ByteArray.size x1) + (ByteArray.size v10)) 1152921504606846976) then
   (jj J 0 4 0 (s3_4 x0 (x1 ++ v10) x2) (e3 J m w3_1 [M1]))
   else
   none)))) (fun J => by kernel_rfl) (by simp only [jj_eq, ref05_Quote_j4_eq m M1 rec1 h1]; rfl)
theorem ref05_Quote_j3_eq m M1 rec1 (h1 : H3_1 m M1 rec1) x0 x1 x2 x3 : e3 jn m w3_3 [M1] (s3_3 x0 x1 x2 x3) = ref05_Quote_j3 m rec1 x0 x1 x2 x3 :=
  tre (g := fun J => (bif x3 then
   (bif (Nat.ble ((ByteArray.size x1) + 1) 1152921504606846976) then
   ((cutS x0 x2 (IntKind.wrap .i64 (x2 + 1))).bind fun v1 =>
   (bif (Nat.ble ((ByteArray.size (x1 ++ (ByteArray.mk (List.toArray [92])))) + (ByteArray.size v1)) 1152921504606846976) then
   (jj J 0 4 0 (s3_4 x0 ((x1 ++ (ByteArray.mk (List.toArray [92]))) ++ v1) x2) (e3 J m w3_1 [M1]))
   else
   none))
   else
   none)
    else
   ((idxS x0 x2).bind fun v2 =>
   (bif (v2 == 10) then
   (bif (Nat.ble ((ByteArray.size x1) + 2) 1152921504606846976) then
   (jj J 0 4 0 (s3_4 x0 (x1 ++ (ByteArray.mk (List.toArray [92, 110]))) x2) (e3 J m w3_1 [M1]))
   else
   none)
   else
   ((idxS x0 x2).bind fun v3 =>
   (bif (v3 == 13) then
   (bif (Nat.ble ((ByteArray.size x1) + 2) 1152921504606846976) then
   (jj J 0 4 0 (s3_4 x0 (x1 ++ (ByteArray.mk (List.toArray [92, 114]))) x2) (e3 J m w3_1 [M1]))
   else
   none)
   else
   ((idxS x0 x2).bind fun v4 =>
   (bif (v4 == 9) then
   (bif (Nat.ble ((ByteArray.size x1) + 2) 1152921504606846976) then
   (jj J 0 4 0 (s3_4 x0 (x1 ++ (ByteArray.mk (List.toArray [92, 116]))) x2) (e3 J m w3_1 [M1]))
   else
   none)
   else
   ((idxS x0 x2).bind fun v5 =>
   (bif (decide (v5 < 32)) then
   (jj J 0 15 0 (s3_5 x0 x1 x2 true) (e3 J m w3_2 [M1]))
   else
   ((idxS x0 x2).bind fun v11 =>
   (jj J 0 15 0 (s3_5 x0 x1 x2 (v11 == 127)) (e3 J m w3_2 [M1]))))))))))))) (fun J => by kernel_rfl) (by simp only [jj_eq, ref05_Quote_j4_eq m M1 rec1 h1, ref05_Quote_j5_eq m M1 rec1 h1]; rfl)
theorem ref05_Quote_j2_eq m M1 rec1 (h1 : H3_1 m M1 rec1) x0 x1 x2 : e3 jn m w3_4 [M1] (s3_4 x0 x1 x2) = ref05_Quote_j2 m rec1 x0 x1 x2 :=
  tre (g := fun J => ((idxS x0 x2).bind fun v0 =>
   (bif (v0 == 34) then
   (jj J 0 7 0 (s3_3 x0 x1 x2 true) (e3 J m w3_3 [M1]))
   else
   ((idxS x0 x2).bind fun v12 =>
   (jj J 0 7 0 (s3_3 x0 x1 x2 (v12 == 92)) (e3 J m w3_3 [M1])))))) (fun J => by kernel_rfl) (by simp only [jj_eq, ref05_Quote_j3_eq m M1 rec1 h1]; rfl)
theorem ref05_Quote_j6_eq m x0 : e3 jn m [1, 1, 1] [] (s3_6 x0) = ref05_Quote_j6 m x0 :=
  tre (g := fun J => (bif (Nat.ble ((ByteArray.size x0) + 1) 1152921504606846976) then
   some (x0 ++ (ByteArray.mk (List.toArray [34])))
    else
   none)) (fun J => by kernel_rfl) (by rfl)
theorem ref05_Quote_l1_eq m : ∀ M1 x0 x1 x2, l3 jn m w3_0 [] M1 (s3_4 x0 x1 x2) = ref05_Quote_l1 m M1 x0 x1 x2
  | 0, _, _, _ => rfl
  | M1 + 1, x0, x1, x2 =>
    trl (g := fun J => (bif (decide (x2 < (ByteArray.size x0 : Int))) then
   (jj J 0 6 0 (s3_4 x0 x1 x2) (e3 J m w3_4 [M1]))
    else
   (jj J 0 16 0 (s3_6 x1) (e3 J m [1, 1, 1] [])))) (fun J => by kernel_rfl) (by simp only [jj_eq, ref05_Quote_j2_eq m M1 (ref05_Quote_l1 m M1) (ref05_Quote_l1_eq m M1), ref05_Quote_j6_eq m]; rfl)
theorem ref05_Quote_j0_eq m x0 x1 x2 : e3 jn m [1, 1, 0, 1] [] (s3_4 x0 x1 x2) = ref05_Quote_j0 m x0 x1 x2 :=
  tre (g := fun J => (jj J 1 3 (Nat.succ m) (s3_4 x0 x1 x2) (l3 J m w3_0 [] (Nat.succ m)))) (fun J => by kernel_rfl) (by simp only [jj_eq, ref05_Quote_l1_eq m]; rfl)
theorem ref05_Quote_eq m a0 : e3 jn m [] [] ⟨[(.dat 9 (.str a0))], [], 0⟩ = ref05_Quote (m + 1) a0 :=
  tre (g := fun J => (jj J 0 3 0 (s3_4 a0 (ByteArray.mk (List.toArray [34])) 0) (e3 J m [1, 1, 0, 1] []))) (fun J => by kernel_rfl) (by simp only [jj_eq, ref05_Quote_j0_eq m]; rfl)
noncomputable def e8 (J : Nat → Nat → Nat → St → Option (Int × Dt) → Option (Int × Dt)) (m : Nat) (p ms : List Nat) (σ : St) := evAt Tryd.prog env (ct m) J (m + 1) 28 23 Tryd.f28 d8 p ms σ
noncomputable def l8 (J : Nat → Nat → Nat → St → Option (Int × Dt) → Option (Int × Dt)) (m : Nat) (p ms : List Nat) (M : Nat) (σ : St) := loopAt Tryd.prog env (ct m) J (m + 1) 28 23 Tryd.f28 d8 p ms M σ
noncomputable def s8_0 (x0 : Dt) : St := ⟨tsOf [(0, (.ptr 0 [] 0))], [(.box 45 (.dat 45 x0))], 1⟩
theorem i8_j0_eq m x0 : e8 jn m [1, 1] [] (s8_0 x0) = i8_j0 m x0 :=
  tre (g := fun J => ((idxS (Dt.S x0 0) (Dt.I x0 1)).bind fun v0 =>
   some ((IntKind.wrap .i64 v0), x0))) (fun J => by kernel_rfl) (by rfl)
theorem i8_eq m a0 : e8 jn m [] [] ⟨[(.ptr 0 [] 0)], [(.box 45 (.dat 45 a0))], 1⟩ = i8 (m + 1) a0 :=
  tre (g := fun J => (bif ((Dt.I a0 1) == (ByteArray.size (Dt.S a0 0) : Int)) then
   some ((-1), a0)
    else
   (jj J 0 3 0 (s8_0 a0) (e8 J m [1, 1] [])))) (fun J => by kernel_rfl) (by simp only [jj_eq, i8_j0_eq m]; rfl)
def w7_0 : List Nat := [0, 0, 0, 1, 0, 1]
noncomputable def e7 (J : Nat → Nat → Nat → St → Option Dt → Option Dt) (m : Nat) (p ms : List Nat) (σ : St) := evAt Tryd.prog env (ct m) J (m + 1) 17 16 Tryd.f17 d7 p ms σ
noncomputable def l7 (J : Nat → Nat → Nat → St → Option Dt → Option Dt) (m : Nat) (p ms : List Nat) (M : Nat) (σ : St) := loopAt Tryd.prog env (ct m) J (m + 1) 17 16 Tryd.f17 d7 p ms M σ
noncomputable def s7_1 (x0 : Bool) (x1 : Dt) : St := ⟨tsOf [(0, (.ptr 0 [] 0)), (4, (.dat 4 (.bool x0)))], [(.box 45 (.dat 45 x1))], 1⟩
noncomputable def s7_0 (x0 : Dt) : St := ⟨tsOf [(0, (.ptr 0 [] 0))], [(.box 45 (.dat 45 x0))], 1⟩
abbrev H7_0 (m M0 : Nat) (rec0 : Dt → Option Dt) : Prop := ∀ x0, l7 jn m [0] [] M0 (s7_0 x0) = rec0 x0
theorem i7_j1_eq m M0 rec0 (h0 : H7_0 m M0 rec0) x0 x1 : e7 jn m w7_0 [M0] (s7_1 x0 x1) = i7_j1 m rec0 x0 x1 :=
  tre (g := fun J => (bif x0 then
   (jj J 1 0 M0 (s7_0 (Dt.agg [(Dt.str (Dt.S x1 0)), (Dt.int (IntKind.wrap .i64 ((Dt.I x1 1) + 1))), (Dt.int (Dt.I x1 2)), (Dt.int (Dt.I x1 3)), (Dt.int (Dt.I x1 4))])) (l7 J m [0] [] M0))
    else
   some x1)) (fun J => by kernel_rfl) (by simp only [jj_eq, h0]; rfl)
theorem i7_l0_eq m : ∀ M0 x0, l7 jn m [0] [] M0 (s7_0 x0) = i7_l0 m M0 x0
  | 0, _ => rfl
  | M0 + 1, x0 =>
    trl (g := fun J => ((i8 m x0).bind fun r0 =>
   (bif (r0.1 == 9) then
   (jj J 0 5 0 (s7_1 (r0.1 == 9) r0.2) (e7 J m w7_0 [M0]))
   else
   (bif (r0.1 == 10) then
   (jj J 0 5 0 (s7_1 (r0.1 == 10) r0.2) (e7 J m w7_0 [M0]))
   else
   (bif (r0.1 == 13) then
   (jj J 0 5 0 (s7_1 (r0.1 == 13) r0.2) (e7 J m w7_0 [M0]))
   else
   (jj J 0 5 0 (s7_1 (r0.1 == 32) r0.2) (e7 J m w7_0 [M0]))))))) (fun J => by kernel_rfl) (by simp only [jj_eq, i7_j1_eq m M0 (i7_l0 m M0) (i7_l0_eq m M0)]; rfl)
theorem i7_eq m a0 : e7 jn m [] [] ⟨[(.ptr 0 [] 0)], [(.box 45 (.dat 45 a0))], 1⟩ = i7 (m + 1) a0 :=
  tre (g := fun J => (jj J 1 0 (Nat.succ m) (s7_0 a0) (l7 J m [0] [] (Nat.succ m)))) (fun J => by kernel_rfl) (by simp only [jj_eq, i7_l0_eq m]; rfl)
noncomputable def e11 (J : Nat → Nat → Nat → St → Option (Bool × Dt) → Option (Bool × Dt)) (m : Nat) (p ms : List Nat) (σ : St) := evAt Tryd.prog env (ct m) J (m + 1) 19 15 Tryd.f19 d11 p ms σ
noncomputable def l11 (J : Nat → Nat → Nat → St → Option (Bool × Dt) → Option (Bool × Dt)) (m : Nat) (p ms : List Nat) (M : Nat) (σ : St) := loopAt Tryd.prog env (ct m) J (m + 1) 19 15 Tryd.f19 d11 p ms M σ
theorem i11_eq m a0 a1 a2 : e11 jn m [] [] ⟨[(.ptr 0 [] 0), (.dat 28 (.int a0)), (.dat 3 (.int a1))], [(.box 45 (.dat 45 a2))], 1⟩ = i11 (m + 1) a0 a1 a2 :=
  tre (g := fun J => some (false, (Dt.agg [(Dt.str (Dt.S a2 0)), (Dt.int (Dt.I a2 1)), (Dt.int (Dt.I a2 2)), (Dt.int a0), (Dt.int a1)]))) (fun J => by kernel_rfl) (by rfl)
noncomputable def e10 (J : Nat → Nat → Nat → St → Option (Bool × Dt) → Option (Bool × Dt)) (m : Nat) (p ms : List Nat) (σ : St) := evAt Tryd.prog env (ct m) J (m + 1) 29 26 Tryd.f29 d11 p ms σ
noncomputable def l10 (J : Nat → Nat → Nat → St → Option (Bool × Dt) → Option (Bool × Dt)) (m : Nat) (p ms : List Nat) (M : Nat) (σ : St) := loopAt Tryd.prog env (ct m) J (m + 1) 29 26 Tryd.f29 d11 p ms M σ
noncomputable def s10_1 (x0 : Dt) : St := ⟨tsOf [(0, (.ptr 0 [] 0))], [(.box 45 (.dat 45 x0))], 1⟩
noncomputable def s10_0 (x0 : Int) (x1 : Bool) (x2 : Dt) : St := ⟨tsOf [(0, (.ptr 0 [] 0)), (2, (.dat 3 (.int x0))), (15, (.dat 4 (.bool x1)))], [(.box 45 (.dat 45 x2))], 1⟩
theorem i10_j1_eq m x0 : e10 jn m [1, 1] [] (s10_1 x0) = i10_j1 m x0 :=
  tre (g := fun J => some (true, (Dt.agg [(Dt.str (Dt.S x0 0)), (Dt.int (Dt.I x0 1)), (Dt.int (IntKind.wrap .i64 ((Dt.I x0 2) + 1))), (Dt.int (Dt.I x0 3)), (Dt.int (Dt.I x0 4))]))) (fun J => by kernel_rfl) (by rfl)
theorem i10_j0_eq m x0 x1 x2 : e10 jn m [1, 0, 1] [] (s10_0 x0 x1 x2) = i10_j0 m x0 x1 x2 :=
  tre (g := fun J => (bif x1 then
   ((i11 m 2 x0 x2).bind fun r0 =>
   some (r0.1, r0.2))
    else
   (jj J 0 3 0 (s10_1 x2) (e10 J m [1, 1] [])))) (fun J => by kernel_rfl) (by simp only [jj_eq, i10_j1_eq m]; rfl)
theorem i10_eq m a0 a1 a2 : e10 jn m [] [] ⟨[(.ptr 0 [] 0), (.dat 3 (.int a0)), (.dat 3 (.int a1))], [(.box 45 (.dat 45 a2))], 1⟩ = i10 (m + 1) a0 a1 a2 :=
  tre (g := fun J => (bif (decide (16 < a0)) then
   (jj J 0 2 0 (s10_0 a1 true a2) (e10 J m [1, 0, 1] []))
    else
   (jj J 0 2 0 (s10_0 a1 ((Dt.I a2 2) == 1024) a2) (e10 J m [1, 0, 1] [])))) (fun J => by kernel_rfl) (by simp only [jj_eq, i10_j0_eq m]; rfl)
def w15_0 : List Nat := [1, 1, 0, 1, 0]
def w15_8 : List Nat := [1, 1, 0, 1, 0, 0, 1, 1]
def w15_1 : List Nat := w15_8 ++ [1]
def w15_4 : List Nat := w15_8 ++ [0, 0, 1, 1, 1, 1]
def w15_2 : List Nat := w15_4 ++ [1]
def w15_3 : List Nat := w15_4 ++ [0, 1]
def w15_7 : List Nat := w15_8 ++ [0, 0, 1, 1, 1, 0, 0, 1]
def w15_6 : List Nat := w15_7 ++ [1, 1]
def w15_5 : List Nat := w15_6 ++ [1, 1]
noncomputable def e15 (J : Nat → Nat → Nat → St → Option (Int × Bool × Dt) → Option (Int × Bool × Dt)) (m : Nat) (p ms : List Nat) (σ : St) := evAt Tryd.prog env (ct m) J (m + 1) 78 76 Tryd.f78 d15 p ms σ
noncomputable def l15 (J : Nat → Nat → Nat → St → Option (Int × Bool × Dt) → Option (Int × Bool × Dt)) (m : Nat) (p ms : List Nat) (M : Nat) (σ : St) := loopAt Tryd.prog env (ct m) J (m + 1) 78 76 Tryd.f78 d15 p ms M σ
noncomputable def s15_7 (x0 x1 : Int) (x2 : Dt) : St := ⟨tsOf [(0, (.ptr 0 [] 0)), (4, (.dat 21 (.int x0))), (8, (.dat 3 (.int x1)))], [(.box 45 (.dat 45 x2))], 1⟩
noncomputable def s15_6 (x0 x1 x2 : Int) (x3 : Dt) : St := ⟨tsOf [(0, (.ptr 0 [] 0)), (4, (.dat 21 (.int x0))), (7, (.dat 3 (.int x1))), (8, (.dat 3 (.int x2)))], [(.box 45 (.dat 45 x3))], 1⟩
noncomputable def s15_5 (x0 x1 x2 : Int) (x3 : Bool) (x4 : Dt) : St := ⟨tsOf [(0, (.ptr 0 [] 0)), (4, (.dat 21 (.int x0))), (7, (.dat 3 (.int x1))), (8, (.dat 3 (.int x2))), (55, (.dat 4 (.bool x3)))], [(.box 45 (.dat 45 x4))], 1⟩
noncomputable def s15_4 (x0 x1 x2 x3 : Int) (x4 : Dt) : St := ⟨tsOf [(0, (.ptr 0 [] 0)), (4, (.dat 21 (.int x0))), (5, (.dat 3 (.int x1))), (7, (.dat 3 (.int x2))), (8, (.dat 3 (.int x3)))], [(.box 45 (.dat 45 x4))], 1⟩
noncomputable def s15_9 (x0 x1 x2 x3 x4 : Int) (x5 : Bool) (x6 : Dt) : St := ⟨tsOf [(0, (.ptr 0 [] 0)), (4, (.dat 21 (.int x0))), (5, (.dat 3 (.int x1))), (6, (.dat 3 (.int x2))), (7, (.dat 3 (.int x3))), (8, (.dat 3 (.int x4))), (32, (.dat 4 (.bool x5)))], [(.box 45 (.dat 45 x6))], 1⟩
noncomputable def s15_8 (x0 x1 x2 x3 x4 : Int) (x5 : Bool) (x6 : Dt) : St := ⟨tsOf [(0, (.ptr 0 [] 0)), (4, (.dat 21 (.int x0))), (5, (.dat 3 (.int x1))), (6, (.dat 3 (.int x2))), (7, (.dat 3 (.int x3))), (8, (.dat 3 (.int x4))), (22, (.dat 4 (.bool x5)))], [(.box 45 (.dat 45 x6))], 1⟩
noncomputable def s15_3 (x0 x1 x2 x3 x4 : Int) (x5 : Bool) (x6 : Dt) : St := ⟨tsOf [(0, (.ptr 0 [] 0)), (4, (.dat 21 (.int x0))), (5, (.dat 3 (.int x1))), (6, (.dat 3 (.int x2))), (7, (.dat 3 (.int x3))), (8, (.dat 3 (.int x4))), (13, (.dat 4 (.bool x5)))], [(.box 45 (.dat 45 x6))], 1⟩
noncomputable def s15_10 (x0 : Int) (x1 : Dt) : St := ⟨tsOf [(4, (.dat 21 (.int x0)))], [(.box 45 (.dat 45 x1))], 1⟩
abbrev H15_1 (m M1 : Nat) (rec1 : Int → Int → Dt → Option (Int × Bool × Dt)) : Prop := ∀ x0 x1 x2, l15 jn m w15_0 [] M1 (s15_7 x0 x1 x2) = rec1 x0 x1 x2
theorem i15_j7_eq m M1 rec1 (h1 : H15_1 m M1 rec1) x0 x1 x2 : e15 jn m w15_1 [M1] (s15_7 x0 x1 x2) = i15_j7 m rec1 x0 x1 x2 :=
  tre (g := fun J => (jj J 1 3 M1 (s15_7 x0 (IntKind.wrap .i64 (x1 + 1)) x2) (l15 J m w15_0 [] M1))) (fun J => by kernel_rfl) (by simp only [jj_eq, h1]; rfl)
theorem i15_j6_eq m M1 rec1 (h1 : H15_1 m M1 rec1) x0 x1 x2 x3 : e15 jn m w15_2 [M1] (s15_6 x0 x1 x2 x3) = i15_j6 m rec1 x0 x1 x2 x3 :=
  tre (g := fun J => (jj J 0 17 0 (s15_7 (orI IntKind.i32 (shlI IntKind.i32 x0 4) (IntKind.wrap IntKind.i32 x1)) x2 (Dt.agg [(Dt.str (Dt.S x3 0)), (Dt.int (IntKind.wrap .i64 ((Dt.I x3 1) + 1))), (Dt.int (Dt.I x3 2)), (Dt.int (Dt.I x3 3)), (Dt.int (Dt.I x3 4))])) (e15 J m w15_1 [M1]))) (fun J => by kernel_rfl) (by simp only [jj_eq, i15_j7_eq m M1 rec1 h1]; rfl)
theorem i15_j5_eq m M1 rec1 (h1 : H15_1 m M1 rec1) x0 x1 x2 x3 x4 : e15 jn m w15_3 [M1] (s15_5 x0 x1 x2 x3 x4) = i15_j5 m rec1 x0 x1 x2 x3 x4 :=
  tre (g := fun J => (bif x3 then
   ((i11 m 4 (Dt.I x4 1) x4).bind fun r1 =>
   some (0, r1.1, r1.2))
    else
   (jj J 0 15 0 (s15_6 x0 x1 x2 x4) (e15 J m w15_2 [M1])))) (fun J => by kernel_rfl) (by simp only [jj_eq, i15_j6_eq m M1 rec1 h1]; rfl)
theorem i15_j4_eq m M1 rec1 (h1 : H15_1 m M1 rec1) x0 x1 x2 x3 x4 : e15 jn m w15_4 [M1] (s15_4 x0 x1 x2 x3 x4) = i15_j4 m rec1 x0 x1 x2 x3 x4 :=
  tre (g := fun J => (bif (decide (x2 < 0)) then
   (jj J 0 14 0 (s15_5 x0 x2 x3 true x4) (e15 J m w15_3 [M1]))
    else
   (bif (x1 == 1) then
   (bif (x0 == 13) then
   (jj J 0 14 0 (s15_5 x0 x2 x3 (decide (8 ≤ x2)) x4) (e15 J m w15_3 [M1]))
   else
   (jj J 0 14 0 (s15_5 x0 x2 x3 false x4) (e15 J m w15_3 [M1])))
   else
   (jj J 0 14 0 (s15_5 x0 x2 x3 false x4) (e15 J m w15_3 [M1]))))) (fun J => by kernel_rfl) (by simp only [jj_eq, i15_j5_eq m M1 rec1 h1]; rfl)
theorem i15_j9_eq m M1 rec1 (h1 : H15_1 m M1 rec1) x0 x1 x2 x3 x4 x5 x6 : e15 jn m w15_5 [M1] (s15_9 x0 x1 x2 x3 x4 x5 x6) = i15_j9 m rec1 x0 x1 x2 x3 x4 x5 x6 :=
  tre (g := fun J => (bif x5 then
   (jj J 0 13 0 (s15_4 x0 x1 (IntKind.wrap .i64 ((IntKind.wrap .i64 (x2 - 65)) + 10)) x4 x6) (e15 J m w15_4 [M1]))
    else
   (jj J 0 13 0 (s15_4 x0 x1 x3 x4 x6) (e15 J m w15_4 [M1])))) (fun J => by kernel_rfl) (by simp only [jj_eq, i15_j4_eq m M1 rec1 h1]; rfl)
theorem i15_j8_eq m M1 rec1 (h1 : H15_1 m M1 rec1) x0 x1 x2 x3 x4 x5 x6 : e15 jn m w15_6 [M1] (s15_8 x0 x1 x2 x3 x4 x5 x6) = i15_j8 m rec1 x0 x1 x2 x3 x4 x5 x6 :=
  tre (g := fun J => (bif x5 then
   (jj J 0 13 0 (s15_4 x0 x1 (IntKind.wrap .i64 ((IntKind.wrap .i64 (x2 - 97)) + 10)) x4 x6) (e15 J m w15_4 [M1]))
    else
   (bif (decide (65 ≤ x2)) then
   (jj J 0 12 0 (s15_9 x0 x1 x2 x3 x4 (decide (x2 ≤ 70)) x6) (e15 J m w15_5 [M1]))
   else
   (jj J 0 12 0 (s15_9 x0 x1 x2 x3 x4 false x6) (e15 J m w15_5 [M1]))))) (fun J => by kernel_rfl) (by simp only [jj_eq, i15_j4_eq m M1 rec1 h1, i15_j9_eq m M1 rec1 h1]; rfl)
theorem i15_j3_eq m M1 rec1 (h1 : H15_1 m M1 rec1) x0 x1 x2 x3 x4 x5 x6 : e15 jn m w15_7 [M1] (s15_3 x0 x1 x2 x3 x4 x5 x6) = i15_j3 m rec1 x0 x1 x2 x3 x4 x5 x6 :=
  tre (g := fun J => (bif x5 then
   (jj J 0 13 0 (s15_4 x0 x1 (IntKind.wrap .i64 (x2 - 48)) x4 x6) (e15 J m w15_4 [M1]))
    else
   (bif (decide (97 ≤ x2)) then
   (jj J 0 10 0 (s15_8 x0 x1 x2 x3 x4 (decide (x2 ≤ 102)) x6) (e15 J m w15_6 [M1]))
   else
   (jj J 0 10 0 (s15_8 x0 x1 x2 x3 x4 false x6) (e15 J m w15_6 [M1]))))) (fun J => by kernel_rfl) (by simp only [jj_eq, i15_j4_eq m M1 rec1 h1, i15_j8_eq m M1 rec1 h1]; rfl)
theorem i15_j2_eq m M1 rec1 (h1 : H15_1 m M1 rec1) x0 x1 x2 : e15 jn m w15_8 [M1] (s15_7 x0 x1 x2) = i15_j2 m rec1 x0 x1 x2 :=
  tre (g := fun J => ((i8 m x2).bind fun r0 =>
   (bif (decide (48 ≤ r0.1)) then
   (jj J 0 8 0 (s15_3 x0 x1 r0.1 (-1) x1 (decide (r0.1 ≤ 57)) r0.2) (e15 J m w15_7 [M1]))
   else
   (jj J 0 8 0 (s15_3 x0 x1 r0.1 (-1) x1 false r0.2) (e15 J m w15_7 [M1]))))) (fun J => by kernel_rfl) (by simp only [jj_eq, i15_j3_eq m M1 rec1 h1]; rfl)
theorem i15_j10_eq m x0 x1 : e15 jn m [1, 1, 1] [] (s15_10 x0 x1) = i15_j10 m x0 x1 :=
  tre (g := fun J => some (x0, true, x1)) (fun J => by kernel_rfl) (by rfl)
theorem i15_l1_eq m : ∀ M1 x0 x1 x2, l15 jn m w15_0 [] M1 (s15_7 x0 x1 x2) = i15_l1 m M1 x0 x1 x2
  | 0, _, _, _ => rfl
  | M1 + 1, x0, x1, x2 =>
    trl (g := fun J => (bif (decide (x1 < 4)) then
   (jj J 0 4 0 (s15_7 x0 x1 x2) (e15 J m w15_8 [M1]))
    else
   (jj J 0 18 0 (s15_10 x0 x2) (e15 J m [1, 1, 1] [])))) (fun J => by kernel_rfl) (by simp only [jj_eq, i15_j2_eq m M1 (i15_l1 m M1) (i15_l1_eq m M1), i15_j10_eq m]; rfl)
theorem i15_j0_eq m x0 x1 x2 : e15 jn m [1, 1, 0, 1] [] (s15_7 x0 x1 x2) = i15_j0 m x0 x1 x2 :=
  tre (g := fun J => (jj J 1 3 (Nat.succ m) (s15_7 x0 x1 x2) (l15 J m w15_0 [] (Nat.succ m)))) (fun J => by kernel_rfl) (by simp only [jj_eq, i15_l1_eq m]; rfl)
theorem i15_eq m a0 : e15 jn m [] [] ⟨[(.ptr 0 [] 0)], [(.box 45 (.dat 45 a0))], 1⟩ = i15 (m + 1) a0 :=
  tre (g := fun J => (jj J 0 3 0 (s15_7 0 0 a0) (e15 J m [1, 1, 0, 1] []))) (fun J => by kernel_rfl) (by simp only [jj_eq, i15_j0_eq m]; rfl)
def w14_0 : List Nat := [1, 1, 1, 0, 1, 0, 1]
noncomputable def e14 (J : Nat → Nat → Nat → St → Option (Int × Bool × Dt) → Option (Int × Bool × Dt)) (m : Nat) (p ms : List Nat) (σ : St) := evAt Tryd.prog env (ct m) J (m + 1) 66 52 Tryd.f66 d15 p ms σ
noncomputable def l14 (J : Nat → Nat → Nat → St → Option (Int × Bool × Dt) → Option (Int × Bool × Dt)) (m : Nat) (p ms : List Nat) (M : Nat) (σ : St) := loopAt Tryd.prog env (ct m) J (m + 1) 66 52 Tryd.f66 d15 p ms M σ
noncomputable def s14_1 (x0 : Int) (x1 : Dt) : St := ⟨tsOf [(0, (.ptr 0 [] 0)), (5, (.dat 21 (.int x0)))], [(.box 45 (.dat 45 x1))], 1⟩
noncomputable def s14_0 (x0 x1 : Int) (x2 : Bool) (x3 : Dt) : St := ⟨tsOf [(0, (.ptr 0 [] 0)), (5, (.dat 21 (.int x0))), (10, (.dat 3 (.int x1))), (17, (.dat 4 (.bool x2)))], [(.box 45 (.dat 45 x3))], 1⟩
theorem i14_j1_eq m x0 x1 : e14 jn m [1, 1, 1, 1] [] (s14_1 x0 x1) = i14_j1 m x0 x1 :=
  tre (g := fun J => some (x0, true, (Dt.agg [(Dt.str (Dt.S x1 0)), (Dt.int (IntKind.wrap .i64 ((Dt.I x1 1) + 1))), (Dt.int (Dt.I x1 2)), (Dt.int (Dt.I x1 3)), (Dt.int (Dt.I x1 4))]))) (fun J => by kernel_rfl) (by rfl)
theorem i14_j0_eq m x0 x1 x2 x3 : e14 jn m w14_0 [] (s14_0 x0 x1 x2 x3) = i14_j0 m x0 x1 x2 x3 :=
  tre (g := fun J => (bif x2 then
   (jj J 0 21 0 (s14_1 x0 x3) (e14 J m [1, 1, 1, 1] []))
    else
   (bif (x1 == 98) then
   (jj J 0 21 0 (s14_1 8 x3) (e14 J m [1, 1, 1, 1] []))
   else
   (bif (x1 == 102) then
   (jj J 0 21 0 (s14_1 12 x3) (e14 J m [1, 1, 1, 1] []))
   else
   (bif (x1 == 110) then
   (jj J 0 21 0 (s14_1 10 x3) (e14 J m [1, 1, 1, 1] []))
   else
   (bif (x1 == 114) then
   (jj J 0 21 0 (s14_1 13 x3) (e14 J m [1, 1, 1, 1] []))
   else
   (bif (x1 == 116) then
   (jj J 0 21 0 (s14_1 9 x3) (e14 J m [1, 1, 1, 1] []))
   else
   (bif (x1 == 117) then
   ((i15 m (Dt.agg [(Dt.str (Dt.S x3 0)), (Dt.int (IntKind.wrap .i64 ((Dt.I x3 1) + 1))), (Dt.int (Dt.I x3 2)), (Dt.int (Dt.I x3 3)), (Dt.int (Dt.I x3 4))])).bind fun r1 =>
   some (r1.1, r1.2.1, r1.2.2))
   else
   ((i11 m 4 (Dt.I x3 1) x3).bind fun r2 =>
   some (0, r2.1, r2.2)))))))))) (fun J => by kernel_rfl) (by simp only [jj_eq, i14_j1_eq m]; rfl)
theorem i14_eq m a0 : e14 jn m [] [] ⟨[(.ptr 0 [] 0)], [(.box 45 (.dat 45 a0))], 1⟩ = i14 (m + 1) a0 :=
  tre (g := fun J => ((i8 m a0).bind fun r0 =>
   (bif (r0.1 == 34) then
   (jj J 0 8 0 (s14_0 (IntKind.wrap IntKind.i32 r0.1) r0.1 (r0.1 == 34) r0.2) (e14 J m w14_0 []))
   else
   (bif (r0.1 == 92) then
   (jj J 0 8 0 (s14_0 (IntKind.wrap IntKind.i32 r0.1) r0.1 (r0.1 == 92) r0.2) (e14 J m w14_0 []))
   else
   (jj J 0 8 0 (s14_0 (IntKind.wrap IntKind.i32 r0.1) r0.1 (r0.1 == 47) r0.2) (e14 J m w14_0 [])))))) (fun J => by kernel_rfl) (by simp only [jj_eq, i14_j0_eq m]; rfl)
def w17_1 : List Nat := [1, 1, 0, 1, 1, 1]
def w17_0 : List Nat := w17_1 ++ [1, 1]
noncomputable def e17 (J : Nat → Nat → Nat → St → Option (List Dt) → Option (List Dt)) (m : Nat) (p ms : List Nat) (σ : St) := evAt Tryd.prog env (ct m) J (m + 1) 79 78 Tryd.f79 d17 p ms σ
noncomputable def l17 (J : Nat → Nat → Nat → St → Option (List Dt) → Option (List Dt)) (m : Nat) (p ms : List Nat) (M : Nat) (σ : St) := loopAt Tryd.prog env (ct m) J (m + 1) 79 78 Tryd.f79 d17 p ms M σ
noncomputable def s17_1 (x0 : Int) (x1 : Bool) (x2 : List Dt) : St := ⟨tsOf [(0, (.row 1)), (1, (.dat 21 (.int x0))), (50, (.dat 4 (.bool x1)))], [.gone, (.row 42 x2)], 1⟩
noncomputable def s17_0 (x0 x1 : Int) (x2 : Bool) (x3 : List Dt) : St := ⟨tsOf [(0, (.row 1)), (1, (.dat 21 (.int x0))), (5, (.dat 91 (.int x1))), (25, (.dat 4 (.bool x2)))], [.gone, (.row 42 x3)], 1⟩
theorem i17_j1_eq m x0 x1 x2 : e17 jn m w17_0 [] (s17_1 x0 x1 x2) = i17_j1 m x0 x1 x2 :=
  tre (g := fun J => (bif x1 then
   ((app x2 [(Dt.int (orI IntKind.u8 240 (IntKind.wrap IntKind.u8 (shrI IntKind.i32 x0 18)))), (Dt.int (orI IntKind.u8 128 (andI IntKind.u8 (IntKind.wrap IntKind.u8 (shrI IntKind.i32 x0 12)) 63))), (Dt.int (orI IntKind.u8 128 (andI IntKind.u8 (IntKind.wrap IntKind.u8 (shrI IntKind.i32 x0 6)) 63))), (Dt.int (orI IntKind.u8 128 (andI IntKind.u8 (IntKind.wrap IntKind.u8 x0) 63)))]).bind fun v2 =>
   some v2)
    else
   ((app x2 [(Dt.int 239), (Dt.int 191), (Dt.int 189)]).bind fun v3 =>
   some v3))) (fun J => by kernel_rfl) (by rfl)
theorem i17_j0_eq m x0 x1 x2 x3 : e17 jn m w17_1 [] (s17_0 x0 x1 x2 x3) = i17_j0 m x0 x1 x2 x3 :=
  tre (g := fun J => (bif x2 then
   ((app x3 [(Dt.int (orI IntKind.u8 224 (IntKind.wrap IntKind.u8 (shrI IntKind.i32 x0 12)))), (Dt.int (orI IntKind.u8 128 (andI IntKind.u8 (IntKind.wrap IntKind.u8 (shrI IntKind.i32 x0 6)) 63))), (Dt.int (orI IntKind.u8 128 (andI IntKind.u8 (IntKind.wrap IntKind.u8 x0) 63)))]).bind fun v1 =>
   some v1)
    else
   (bif (decide (65535 < x1)) then
   (jj J 0 9 0 (s17_1 x0 (decide (x1 ≤ 1114111)) x3) (e17 J m w17_0 []))
   else
   (jj J 0 9 0 (s17_1 x0 false x3) (e17 J m w17_0 []))))) (fun J => by kernel_rfl) (by simp only [jj_eq, i17_j1_eq m]; rfl)
theorem i17_eq m a0 a1 : e17 jn m [] [] ⟨[(.row 0), (.dat 21 (.int a0))], [(.row 42 a1)], 1⟩ = i17 (m + 1) a0 a1 :=
  tre (g := fun J => (bif (decide ((IntKind.wrap IntKind.u32 a0) ≤ 2047)) then
   ((app a1 [(Dt.int (orI IntKind.u8 192 (IntKind.wrap IntKind.u8 (shrI IntKind.i32 a0 6)))), (Dt.int (orI IntKind.u8 128 (andI IntKind.u8 (IntKind.wrap IntKind.u8 a0) 63)))]).bind fun v0 =>
   some v0)
    else
   (bif (decide ((IntKind.wrap IntKind.u32 a0) < 55296)) then
   (jj J 0 7 0 (s17_0 a0 (IntKind.wrap IntKind.u32 a0) (decide ((IntKind.wrap IntKind.u32 a0) < 55296)) a1) (e17 J m w17_1 []))
   else
   (bif (decide (57343 < (IntKind.wrap IntKind.u32 a0))) then
   (jj J 0 7 0 (s17_0 a0 (IntKind.wrap IntKind.u32 a0) (decide ((IntKind.wrap IntKind.u32 a0) ≤ 65535)) a1) (e17 J m w17_1 []))
   else
   (jj J 0 7 0 (s17_0 a0 (IntKind.wrap IntKind.u32 a0) false a1) (e17 J m w17_1 [])))))) (fun J => by kernel_rfl) (by simp only [jj_eq, i17_j0_eq m]; rfl)
noncomputable def e16 (J : Nat → Nat → Nat → St → Option (List Dt) → Option (List Dt)) (m : Nat) (p ms : List Nat) (σ : St) := evAt Tryd.prog env (ct m) J (m + 1) 67 16 Tryd.f67 d17 p ms σ
noncomputable def l16 (J : Nat → Nat → Nat → St → Option (List Dt) → Option (List Dt)) (m : Nat) (p ms : List Nat) (M : Nat) (σ : St) := loopAt Tryd.prog env (ct m) J (m + 1) 67 16 Tryd.f67 d17 p ms M σ
noncomputable def s16_0 (x0 : Int) (x1 : List Dt) : St := ⟨tsOf [(0, (.row 1)), (1, (.dat 21 (.int x0)))], [.gone, (.row 42 x1)], 1⟩
theorem i16_j0_eq m x0 x1 : e16 jn m [1, 1] [] (s16_0 x0 x1) = i16_j0 m x0 x1 :=
  tre (g := fun J => ((i17 m x0 x1).bind fun r1 =>
   some r1)) (fun J => by kernel_rfl) (by rfl)
theorem i16_eq m a0 a1 : e16 jn m [] [] ⟨[(.row 0), (.dat 21 (.int a0))], [(.row 42 a1)], 1⟩ = i16 (m + 1) a0 a1 :=
  tre (g := fun J => (bif (decide ((IntKind.wrap IntKind.u32 a0) ≤ 127)) then
   ((app a1 [(Dt.int (IntKind.wrap IntKind.u8 a0))]).bind fun v0 =>
   some v0)
    else
   (jj J 0 3 0 (s16_0 a0 a1) (e16 J m [1, 1] [])))) (fun J => by kernel_rfl) (by simp only [jj_eq, i16_j0_eq m]; rfl)
def w13_3 : List Nat := [1, 0, 1, 1, 1]
def w13_0 : List Nat := [1, 0, 1, 1, 1, 1]
def w13_1 : List Nat := [1, 0, 1, 1, 1, 0, 0]
def w13_2 : List Nat := w13_1 ++ [0, 0, 1, 0, 1, 1, 1, 1, 1, 0, 1, 1, 1]
noncomputable def e13 (J : Nat → Nat → Nat → St → Option (ByteArray × Bool × Dt) → Option (ByteArray × Bool × Dt)) (m : Nat) (p ms : List Nat) (σ : St) := evAt Tryd.prog env (ct m) J (m + 1) 49 70 Tryd.f49 d13 p ms σ
noncomputable def l13 (J : Nat → Nat → Nat → St → Option (ByteArray × Bool × Dt) → Option (ByteArray × Bool × Dt)) (m : Nat) (p ms : List Nat) (M : Nat) (σ : St) := loopAt Tryd.prog env (ct m) J (m + 1) 49 70 Tryd.f49 d13 p ms M σ
noncomputable def s13_2 (x0 : Dt) (x1 : List Dt) : St := ⟨tsOf [(4, (.row 1))], [(.box 45 (.dat 45 x0)), (.row 42 x1)], 1⟩
noncomputable def s13_3 (x0 : Int) (x1 : Dt) (x2 : List Dt) : St := ⟨tsOf [(0, (.ptr 0 [] 0)), (4, (.row 1)), (6, (.dat 21 (.int x0)))], [(.box 45 (.dat 45 x1)), (.row 42 x2)], 1⟩
noncomputable def s13_1 (x0 : Dt) (x1 : List Dt) : St := ⟨tsOf [(0, (.ptr 0 [] 0)), (4, (.row 1))], [(.box 45 (.dat 45 x0)), (.row 42 x1)], 1⟩
theorem i13_j2_eq m x0 x1 : e13 jn m w13_0 [] (s13_2 x0 x1) = i13_j2 m x0 x1 :=
  tre (g := fun J => ((bif (Nat.ble (List.length x1) 137438953472) then (Option.some (strOfNums (List.map Dt.toInt x1))) else (Option.none)).bind fun v1 =>
   some (v1, true, x0))) (fun J => by kernel_rfl) (by rfl)
abbrev H13_1 (m M1 : Nat) (rec1 : Dt → List Dt → Option (ByteArray × Bool × Dt)) : Prop := ∀ x0 x1, l13 jn m w13_1 [] M1 (s13_1 x0 x1) = rec1 x0 x1
theorem i13_j3_eq m M1 rec1 (h1 : H13_1 m M1 rec1) x0 x1 x2 : e13 jn m w13_2 [M1] (s13_3 x0 x1 x2) = i13_j3 m rec1 x0 x1 x2 :=
  tre (g := fun J => ((i16 m x0 x2).bind fun r4 =>
   (jj J 1 3 M1 (s13_1 x1 r4) (l13 J m w13_1 [] M1)))) (fun J => by kernel_rfl) (by simp only [jj_eq, h1]; rfl)
theorem i13_l1_eq m : ∀ M1 x0 x1, l13 jn m w13_1 [] M1 (s13_1 x0 x1) = i13_l1 m M1 x0 x1
  | 0, _, _ => rfl
  | M1 + 1, x0, x1 =>
    trl (g := fun J => ((i8 m x0).bind fun r0 =>
   (bif (r0.1 == 34) then
   (jj J 0 16 0 (s13_2 (Dt.agg [(Dt.str (Dt.S r0.2 0)), (Dt.int (IntKind.wrap .i64 ((Dt.I r0.2 1) + 1))), (Dt.int (Dt.I r0.2 2)), (Dt.int (Dt.I r0.2 3)), (Dt.int (Dt.I r0.2 4))]) x1) (e13 J m w13_0 []))
   else
   (bif (decide (r0.1 < 32)) then
   ((i11 m 4 (Dt.I r0.2 1) r0.2).bind fun r2 =>
   some ((ByteArray.mk (List.toArray [])), r2.1, r2.2))
   else
   (bif (r0.1 == 92) then
   ((i14 m (Dt.agg [(Dt.str (Dt.S r0.2 0)), (Dt.int (IntKind.wrap .i64 ((Dt.I r0.2 1) + 1))), (Dt.int (Dt.I r0.2 2)), (Dt.int (Dt.I r0.2 3)), (Dt.int (Dt.I r0.2 4))])).bind fun r3 =>
   (bif (Bool.not r3.2.1) then
   some ((ByteArray.mk (List.toArray [])), false, r3.2.2)
   else
   (jj J 0 15 0 (s13_3 r3.1 r3.2.2 x1) (e13 J m w13_2 [M1]))))
   else
   ((app x1 [(Dt.int (IntKind.wrap IntKind.u8 r0.1))]).bind fun v5 =>
   (jj J 1 3 M1 (s13_1 (Dt.agg [(Dt.str (Dt.S r0.2 0)), (Dt.int (IntKind.wrap .i64 ((Dt.I r0.2 1) + 1))), (Dt.int (Dt.I r0.2 2)), (Dt.int (Dt.I r0.2 3)), (Dt.int (Dt.I r0.2 4))]) v5) (l13 J m w13_1 [] M1)))))))) (fun J => by kernel_rfl) (by simp only [jj_eq, i13_j2_eq m, i13_j3_eq m M1 (i13_l1 m M1) (i13_l1_eq m M1), i13_l1_eq m M1]; rfl)
theorem i13_j0_eq m x0 x1 : e13 jn m w13_3 [] (s13_1 x0 x1) = i13_j0 m x0 x1 :=
  tre (g := fun J => (jj J 1 3 (Nat.succ m) (s13_1 x0 x1) (l13 J m w13_1 [] (Nat.succ m)))) (fun J => by kernel_rfl) (by simp only [jj_eq, i13_l1_eq m]; rfl)
theorem i13_eq m a0 : e13 jn m [] [] ⟨[(.ptr 0 [] 0)], [(.box 45 (.dat 45 a0))], 1⟩ = i13 (m + 1) a0 :=
  tre (g := fun J => (jj J 0 3 0 (s13_1 (Dt.agg [(Dt.str (Dt.S a0 0)), (Dt.int (IntKind.wrap .i64 ((Dt.I a0 1) + 1))), (Dt.int (Dt.I a0 2)), (Dt.int (Dt.I a0 3)), (Dt.int (Dt.I a0 4))]) []) (e13 J m w13_3 []))) (fun J => by kernel_rfl) (by simp only [jj_eq, i13_j0_eq m]; rfl)
def w12_1 : List Nat := [1, 1, 1, 1, 1]
def w12_0 : List Nat := [1, 1, 1, 1, 1, 1]
noncomputable def e12 (J : Nat → Nat → Nat → St → Option (Dt × Bool × Dt) → Option (Dt × Bool × Dt)) (m : Nat) (p ms : List Nat) (σ : St) := evAt Tryd.prog env (ct m) J (m + 1) 30 35 Tryd.f30 d12 p ms σ
noncomputable def l12 (J : Nat → Nat → Nat → St → Option (Dt × Bool × Dt) → Option (Dt × Bool × Dt)) (m : Nat) (p ms : List Nat) (M : Nat) (σ : St) := loopAt Tryd.prog env (ct m) J (m + 1) 30 35 Tryd.f30 d12 p ms M σ
noncomputable def s12_2 (x0 : ByteArray) (x1 x2 : Dt) : St := ⟨tsOf [(2, (.ptr 1 [] 0)), (5, (.dat 9 (.str x0)))], [(.box 45 (.dat 45 x1)), (.box 27 (.dat 27 x2))], 1⟩
noncomputable def s12_1 (x0 : Int) (x1 : ByteArray) (x2 x3 : Dt) : St := ⟨tsOf [(0, (.ptr 0 [] 0)), (2, (.ptr 1 [] 0)), (4, (.dat 3 (.int x0))), (5, (.dat 9 (.str x1)))], [(.box 45 (.dat 45 x2)), (.box 27 (.dat 27 x3))], 1⟩
theorem i12_j2_eq m x0 x1 x2 : e12 jn m w12_0 [] (s12_2 x0 x1 x2) = i12_j2 m x0 x1 x2 :=
  tre (g := fun J => some ((Dt.agg [(Dt.int 4), (Dt.int 0), (Dt.str x0), (Dt.lst []), (Dt.lst [])]), true, x1)) (fun J => by kernel_rfl) (by rfl)
theorem i12_j1_eq m x0 x1 x2 x3 : e12 jn m w12_1 [] (s12_1 x0 x1 x2 x3) = i12_j1 m x0 x1 x2 x3 :=
  tre (g := fun J => ((utf8_ValidString x1).bind fun r2 =>
   (bif (Bool.not r2) then
   ((i11 m 4 x0 x2).bind fun r3 =>
   some (kza2373, r3.1, r3.2))
   else
   (jj J 0 9 0 (s12_2 x1 x2 x3) (e12 J m w12_0 []))))) (fun J => by kernel_rfl) (by simp only [jj_eq, i12_j2_eq m]; rfl)
theorem i12_j0_eq m x0 x1 x2 x3 : e12 jn m [1, 1, 1, 1] [] (s12_1 x0 x1 x2 x3) = i12_j0 m x0 x1 x2 x3 :=
  tre (g := fun J => (bif (decide (4096 < (ByteArray.size x1 : Int))) then
   ((i11 m 2 x0 x2).bind fun r1 =>
   some (kza2373, r1.1, r1.2))
    else
   (jj J 0 7 0 (s12_1 x0 x1 x2 x3) (e12 J m w12_1 [])))) (fun J => by kernel_rfl) (by simp only [jj_eq, i12_j1_eq m]; rfl)
theorem i12_eq m a0 : e12 jn m [] [] ⟨[(.ptr 0 [] 0)], [(.box 45 (.dat 45 a0))], 1⟩ = i12 (m + 1) a0 :=
  tre (g := fun J => ((i13 m a0).bind fun r0 =>
   (bif (Bool.not r0.2.1) then
   some (kza2373, false, r0.2.2)
   else
   (jj J 0 5 0 (s12_1 (Dt.I a0 1) r0.1 r0.2.2 kza2373) (e12 J m [1, 1, 1, 1] []))))) (fun J => by kernel_rfl) (by simp only [jj_eq, i12_j0_eq m]; rfl)
def w22_2 : List Nat := [1, 0, 1, 0, 0, 1, 1]
def w22_0 : List Nat := w22_2 ++ [1]
def w22_1 : List Nat := w22_2 ++ [0, 0, 1, 1]
noncomputable def e22 (J : Nat → Nat → Nat → St → Option Bool → Option Bool) (m : Nat) (p ms : List Nat) (σ : St) := evAt Tryd.prog env (ct m) J (m + 1) 61 22 Tryd.f61 d22 p ms σ
noncomputable def l22 (J : Nat → Nat → Nat → St → Option Bool → Option Bool) (m : Nat) (p ms : List Nat) (M : Nat) (σ : St) := loopAt Tryd.prog env (ct m) J (m + 1) 61 22 Tryd.f61 d22 p ms M σ
noncomputable def s22_4 (x0 : ByteArray) (x1 x2 : Int) : St := ⟨tsOf [(0, (.dat 9 (.str x0))), (5, (.dat 3 (.int x1))), (6, (.dat 3 (.int x2)))], [], 0⟩
noncomputable def s22_3 (x0 : ByteArray) (x1 x2 : Int) (x3 : Bool) : St := ⟨tsOf [(0, (.dat 9 (.str x0))), (5, (.dat 3 (.int x1))), (6, (.dat 3 (.int x2))), (18, (.dat 4 (.bool x3)))], [], 0⟩
noncomputable def s22_5 (x0 : ByteArray) : St := ⟨tsOf [(0, (.dat 9 (.str x0)))], [], 0⟩
abbrev H22_1 (m M1 : Nat) (rec1 : ByteArray → Int → Int → Option Bool) : Prop := ∀ x0 x1 x2, l22 jn m [1, 0, 1, 0] [] M1 (s22_4 x0 x1 x2) = rec1 x0 x1 x2
theorem notation_isField_j4_eq m M1 rec1 (h1 : H22_1 m M1 rec1) x0 x1 x2 : e22 jn m w22_0 [M1] (s22_4 x0 x1 x2) = notation_isField_j4 m rec1 x0 x1 x2 :=
  tre (g := fun J => (jj J 1 2 M1 (s22_4 x0 x1 (IntKind.wrap .i64 (x2 + 1))) (l22 J m [1, 0, 1, 0] [] M1))) (fun J => by kernel_rfl) (by simp only [jj_eq, h1]; rfl)
theorem notation_isField_j3_eq m M1 rec1 (h1 : H22_1 m M1 rec1) x0 x1 x2 x3 : e22 jn m w22_1 [M1] (s22_3 x0 x1 x2 x3) = notation_isField_j3 m rec1 x0 x1 x2 x3 :=
  tre (g := fun J => (bif x3 then
   some false
    else
   (jj J 0 6 0 (s22_4 x0 x1 x2) (e22 J m w22_0 [M1])))) (fun J => by kernel_rfl) (by simp only [jj_eq, notation_isField_j4_eq m M1 rec1 h1]; rfl)
theorem notation_isField_j2_eq m M1 rec1 (h1 : H22_1 m M1 rec1) x0 x1 x2 : e22 jn m w22_2 [M1] (s22_4 x0 x1 x2) = notation_isField_j2 m rec1 x0 x1 x2 :=
  tre (g := fun J => ((idxS x0 x2).bind fun v0 =>
   (bif (decide (v0 < 32)) then
   (jj J 0 5 0 (s22_3 x0 x1 x2 true) (e22 J m w22_1 [M1]))
   else
   ((idxS x0 x2).bind fun v1 =>
   (jj J 0 5 0 (s22_3 x0 x1 x2 (decide (126 < v1))) (e22 J m w22_1 [M1])))))) (fun J => by kernel_rfl) (by simp only [jj_eq, notation_isField_j3_eq m M1 rec1 h1]; rfl)
theorem notation_isField_j5_eq m x0 : e22 jn m [1, 1] [] (s22_5 x0) = notation_isField_j5 m x0 :=
  tre (g := fun J => some (Bool.not ((ByteArray.toList x0) == []))) (fun J => by kernel_rfl) (by rfl)
theorem notation_isField_l1_eq m : ∀ M1 x0 x1 x2, l22 jn m [1, 0, 1, 0] [] M1 (s22_4 x0 x1 x2) = notation_isField_l1 m M1 x0 x1 x2
  | 0, _, _, _ => rfl
  | M1 + 1, x0, x1, x2 =>
    trl (g := fun J => (bif (decide (x2 < x1)) then
   (jj J 0 3 0 (s22_4 x0 x1 x2) (e22 J m w22_2 [M1]))
    else
   (jj J 0 7 0 (s22_5 x0) (e22 J m [1, 1] [])))) (fun J => by kernel_rfl) (by simp only [jj_eq, notation_isField_j2_eq m M1 (notation_isField_l1 m M1) (notation_isField_l1_eq m M1), notation_isField_j5_eq m]; rfl)
theorem notation_isField_j0_eq m x0 x1 x2 : e22 jn m [1, 0, 1] [] (s22_4 x0 x1 x2) = notation_isField_j0 m x0 x1 x2 :=
  tre (g := fun J => (jj J 1 2 (Nat.succ m) (s22_4 x0 x1 x2) (l22 J m [1, 0, 1, 0] [] (Nat.succ m)))) (fun J => by kernel_rfl) (by simp only [jj_eq, notation_isField_l1_eq m]; rfl)
theorem notation_isField_eq m a0 : e22 jn m [] [] ⟨[(.dat 9 (.str a0))], [], 0⟩ = notation_isField (m + 1) a0 :=
  tre (g := fun J => (jj J 0 2 0 (s22_4 a0 (ByteArray.size a0 : Int) 0) (e22 J m [1, 0, 1] []))) (fun J => by kernel_rfl) (by simp only [jj_eq, notation_isField_j0_eq m]; rfl)
def w21_4 : List Nat := [1, 1, 1, 1, 1]
def w21_3 : List Nat := [1, 1, 1, 1, 1, 1]
def w21_1 : List Nat := w21_3 ++ [1]
def w21_2 : List Nat := w21_3 ++ [0, 1]
def w21_0 : List Nat := w21_1 ++ [1, 1]
noncomputable def e21 (J : Nat → Nat → Nat → St → Option (ByteArray × Bool × Dt × List Dt) → Option (ByteArray × Bool × Dt × List Dt)) (m : Nat) (p ms : List Nat) (σ : St) := evAt Tryd.prog env (ct m) J (m + 1) 51 64 Tryd.f51 d21 p ms σ
noncomputable def l21 (J : Nat → Nat → Nat → St → Option (ByteArray × Bool × Dt × List Dt) → Option (ByteArray × Bool × Dt × List Dt)) (m : Nat) (p ms : List Nat) (M : Nat) (σ : St) := loopAt Tryd.prog env (ct m) J (m + 1) 51 64 Tryd.f51 d21 p ms M σ
noncomputable def s21_5 (x0 : ByteArray) (x1 : Dt) (x2 : List Dt) : St := ⟨tsOf [(0, (.ptr 0 [] 0)), (7, (.dat 9 (.str x0)))], [(.box 45 (.dat 45 x1)), (.map 68 x2)], 2⟩
noncomputable def s21_3 (x0 : Int) (x1 : ByteArray) (x2 : Bool) (x3 : Dt) (x4 : List Dt) : St := ⟨tsOf [(0, (.ptr 0 [] 0)), (6, (.dat 3 (.int x0))), (7, (.dat 9 (.str x1))), (39, (.dat 4 (.bool x2)))], [(.box 45 (.dat 45 x3)), (.map 68 x4)], 2⟩
noncomputable def s21_2 (x0 : Int) (x1 : ByteArray) (x2 : Dt) (x3 : List Dt) : St := ⟨tsOf [(0, (.ptr 0 [] 0)), (1, (.row 1)), (6, (.dat 3 (.int x0))), (7, (.dat 9 (.str x1)))], [(.box 45 (.dat 45 x2)), (.map 68 x3)], 2⟩
noncomputable def s21_0 (x0 : Int) (x1 : Dt) (x2 : List Dt) : St := ⟨tsOf [(0, (.ptr 0 [] 0)), (1, (.row 1)), (6, (.dat 3 (.int x0)))], [(.box 45 (.dat 45 x1)), (.map 68 x2)], 2⟩
theorem i21_j5_eq m x0 x1 x2 : e21 jn m w21_0 [] (s21_5 x0 x1 x2) = i21_j5 m x0 x1 x2 :=
  tre (g := fun J => ((i7 m (Dt.agg [(Dt.str (Dt.S x1 0)), (Dt.int (IntKind.wrap .i64 ((Dt.I x1 1) + 1))), (Dt.int (Dt.I x1 2)), (Dt.int (Dt.I x1 3)), (Dt.int (Dt.I x1 4))])).bind fun r9 =>
   some (x0, true, r9, x2))) (fun J => by kernel_rfl) (by rfl)
theorem i21_j4_eq m x0 x1 x2 : e21 jn m w21_1 [] (s21_5 x0 x1 x2) = i21_j4 m x0 x1 x2 :=
  tre (g := fun J => ((i7 m x1).bind fun r6 =>
   ((i8 m r6).bind fun r7 =>
   (bif (r7.1 != 58) then
   ((i11 m 4 (Dt.I r7.2 1) r7.2).bind fun r8 =>
   some ((ByteArray.mk (List.toArray [])), r8.1, r8.2, x2))
   else
   (jj J 0 14 0 (s21_5 x0 r7.2 x2) (e21 J m w21_0 [])))))) (fun J => by kernel_rfl) (by simp only [jj_eq, i21_j5_eq m]; rfl)
theorem i21_j3_eq m x0 x1 x2 x3 x4 : e21 jn m w21_2 [] (s21_3 x0 x1 x2 x3 x4) = i21_j3 m x0 x1 x2 x3 x4 :=
  tre (g := fun J => (bif x2 then
   ((i11 m 4 x0 x3).bind fun r5 =>
   some ((ByteArray.mk (List.toArray [])), r5.1, r5.2, x4))
    else
   (jj J 0 11 0 (s21_5 x1 x3 x4) (e21 J m w21_1 [])))) (fun J => by kernel_rfl) (by simp only [jj_eq, i21_j4_eq m]; rfl)
theorem i21_j2_eq m x0 x1 x2 x3 : e21 jn m w21_3 [] (s21_2 x0 x1 x2 x3) = i21_j2 m x0 x1 x2 x3 :=
  tre (g := fun J => ((notation_isField m x1).bind fun r4 =>
   (bif (Bool.not r4) then
   (jj J 0 10 0 (s21_3 x0 x1 true x2 x3) (e21 J m w21_2 []))
   else
   (jj J 0 10 0 (s21_3 x0 x1 (Dt.toBool (mgetD x3 x1 (Dt.bool false))) x2 x3) (e21 J m w21_2 []))))) (fun J => by kernel_rfl) (by simp only [jj_eq, i21_j3_eq m]; rfl)
theorem i21_j1_eq m x0 x1 x2 x3 : e21 jn m w21_4 [] (s21_2 x0 x1 x2 x3) = i21_j1 m x0 x1 x2 x3 :=
  tre (g := fun J => (bif (decide (128 < (ByteArray.size x1 : Int))) then
   ((i11 m 2 x0 x2).bind fun r3 =>
   some ((ByteArray.mk (List.toArray [])), r3.1, r3.2, x3))
    else
   (jj J 0 9 0 (s21_2 x0 x1 x2 x3) (e21 J m w21_3 [])))) (fun J => by kernel_rfl) (by simp only [jj_eq, i21_j2_eq m]; rfl)
theorem i21_j0_eq m x0 x1 x2 : e21 jn m [1, 1, 1] [] (s21_0 x0 x1 x2) = i21_j0 m x0 x1 x2 :=
  tre (g := fun J => ((i13 m x1).bind fun r2 =>
   (bif (Bool.not r2.2.1) then
   some ((ByteArray.mk (List.toArray [])), false, r2.2.2, x2)
   else
   (jj J 0 7 0 (s21_2 x0 r2.1 r2.2.2 x2) (e21 J m w21_4 []))))) (fun J => by kernel_rfl) (by simp only [jj_eq, i21_j1_eq m]; rfl)
theorem i21_eq m a0 a1 : e21 jn m [] [] ⟨[(.ptr 0 [] 0), (.row 1)], [(.box 45 (.dat 45 a0)), (.map 68 a1)], 2⟩ = i21 (m + 1) a0 a1 :=
  tre (g := fun J => ((i8 m a0).bind fun r0 =>
   (bif (r0.1 != 34) then
   ((i11 m 4 (Dt.I a0 1) r0.2).bind fun r1 =>
   some ((ByteArray.mk (List.toArray [])), r1.1, r1.2, a1))
   else
   (jj J 0 4 0 (s21_0 (Dt.I a0 1) r0.2 a1) (e21 J m [1, 1, 1] []))))) (fun J => by kernel_rfl) (by simp only [jj_eq, i21_j0_eq m]; rfl)
def w23_0 : List Nat := [1, 0, 1, 0, 1]
noncomputable def e23 (J : Nat → Nat → Nat → St → Option Bool → Option Bool) (m : Nat) (p ms : List Nat) (σ : St) := evAt Tryd.prog env (ct m) J (m + 1) 52 10 Tryd.f52 d22 p ms σ
noncomputable def l23 (J : Nat → Nat → Nat → St → Option Bool → Option Bool) (m : Nat) (p ms : List Nat) (M : Nat) (σ : St) := loopAt Tryd.prog env (ct m) J (m + 1) 52 10 Tryd.f52 d22 p ms M σ
noncomputable def s23_1 : St := ⟨tsOf [], [], 0⟩
noncomputable def s23_0 (x0 : Bool) : St := ⟨tsOf [(4, (.dat 4 (.bool x0)))], [], 0⟩
theorem notation_isSpecial_j1_eq m : e23 jn m [1, 1] [] s23_1 = notation_isSpecial_j1 m :=
  tre (g := fun J => some false) (fun J => by kernel_rfl) (by rfl)
theorem notation_isSpecial_j0_eq m x0 : e23 jn m w23_0 [] (s23_0 x0) = notation_isSpecial_j0 m x0 :=
  tre (g := fun J => (bif x0 then
   some true
    else
   (jj J 0 8 0 s23_1 (e23 J m [1, 1] [])))) (fun J => by kernel_rfl) (by simp only [jj_eq, notation_isSpecial_j1_eq m]; rfl)
theorem notation_isSpecial_eq m a0 : e23 jn m [] [] ⟨[(.dat 9 (.str a0))], [], 0⟩ = notation_isSpecial (m + 1) a0 :=
  tre (g := fun J => (bif ((ByteArray.toList a0) == [36, 105, 100]) then
   (jj J 0 7 0 (s23_0 ((ByteArray.toList a0) == [36, 105, 100])) (e23 J m w23_0 []))
    else
   (bif ((ByteArray.toList a0) == [36, 98, 121, 116, 101, 115]) then
   (jj J 0 7 0 (s23_0 ((ByteArray.toList a0) == [36, 98, 121, 116, 101, 115])) (e23 J m w23_0 []))
   else
   (bif ((ByteArray.toList a0) == [36, 116, 105, 109, 101]) then
   (jj J 0 7 0 (s23_0 ((ByteArray.toList a0) == [36, 116, 105, 109, 101])) (e23 J m w23_0 []))
   else
   (bif ((ByteArray.toList a0) == [36, 109, 105, 110]) then
   (jj J 0 7 0 (s23_0 ((ByteArray.toList a0) == [36, 109, 105, 110])) (e23 J m w23_0 []))
   else
   (jj J 0 7 0 (s23_0 ((ByteArray.toList a0) == [36, 109, 97, 120])) (e23 J m w23_0 []))))))) (fun J => by kernel_rfl) (by simp only [jj_eq, notation_isSpecial_j0_eq m]; rfl)
def w25_7 : List Nat := [1, 1, 1, 0, 1]
def w25_0 : List Nat := [1, 1, 1, 0, 1, 0]
def w25_6 : List Nat := w25_0 ++ [0, 1, 1]
def w25_1 : List Nat := w25_6 ++ [1]
def w25_3 : List Nat := w25_6 ++ [0, 0, 1, 1, 1]
def w25_2 : List Nat := w25_3 ++ [1]
def w25_5 : List Nat := w25_6 ++ [0, 0, 1, 1, 0, 1, 0, 1]
def w25_4 : List Nat := w25_5 ++ [1, 1]
noncomputable def e25 (J : Nat → Nat → Nat → St → Option (ByteArray × Bool) → Option (ByteArray × Bool)) (m : Nat) (p ms : List Nat) (σ : St) := evAt Tryd.prog env (ct m) J (m + 1) 69 72 Tryd.f69 d25 p ms σ
noncomputable def l25 (J : Nat → Nat → Nat → St → Option (ByteArray × Bool) → Option (ByteArray × Bool)) (m : Nat) (p ms : List Nat) (M : Nat) (σ : St) := loopAt Tryd.prog env (ct m) J (m + 1) 69 72 Tryd.f69 d25 p ms M σ
noncomputable def s25_8 (x0 x1 : Int) (x2 : Dt) (x3 : List Dt) : St := ⟨tsOf [(1, (.ptr 0 [] 0)), (4, (.row 1)), (25, (.dat 3 (.int x0))), (26, (.dat 3 (.int x1)))], [(.box 27 (.dat 27 x2)), (.row 42 x3)], 0⟩
noncomputable def s25_7 (x0 x1 x2 x3 : Int) (x4 : Dt) (x5 : List Dt) : St := ⟨tsOf [(1, (.ptr 0 [] 0)), (4, (.row 1)), (5, (.dat 3 (.int x0))), (6, (.dat 3 (.int x1))), (25, (.dat 3 (.int x2))), (26, (.dat 3 (.int x3)))], [(.box 27 (.dat 27 x4)), (.row 42 x5)], 0⟩
noncomputable def s25_9 (x0 x1 x2 x3 x4 : Int) (x5 : Bool) (x6 : Dt) (x7 : List Dt) : St := ⟨tsOf [(1, (.ptr 0 [] 0)), (4, (.row 1)), (5, (.dat 3 (.int x0))), (6, (.dat 3 (.int x1))), (7, (.dat 5 (.int x2))), (25, (.dat 3 (.int x3))), (26, (.dat 3 (.int x4))), (43, (.dat 4 (.bool x5)))], [(.box 27 (.dat 27 x6)), (.row 42 x7)], 0⟩
noncomputable def s25_5 (x0 x1 x2 x3 x4 : Int) (x5 : Bool) (x6 : Dt) (x7 : List Dt) : St := ⟨tsOf [(1, (.ptr 0 [] 0)), (4, (.row 1)), (5, (.dat 3 (.int x0))), (6, (.dat 3 (.int x1))), (7, (.dat 5 (.int x2))), (25, (.dat 3 (.int x3))), (26, (.dat 3 (.int x4))), (33, (.dat 4 (.bool x5)))], [(.box 27 (.dat 27 x6)), (.row 42 x7)], 0⟩
noncomputable def s25_10 (x0 : List Dt) : St := ⟨tsOf [(4, (.row 0))], [(.row 42 x0)], 0⟩
noncomputable def s25_1 (x0 : Dt) : St := ⟨tsOf [(1, (.ptr 0 [] 0))], [(.box 27 (.dat 27 x0))], 0⟩
noncomputable def s25_0 (x0 : Bool) (x1 : Dt) : St := ⟨tsOf [(1, (.ptr 0 [] 0)), (17, (.dat 4 (.bool x0)))], [(.box 27 (.dat 27 x1))], 0⟩
abbrev H25_3 (m M3 : Nat) (rec3 : Int → Int → Dt → List Dt → Option (ByteArray × Bool)) : Prop := ∀ x0 x1 x2 x3, l25 jn m w25_0 [] M3 (s25_8 x0 x1 x2 x3) = rec3 x0 x1 x2 x3
theorem notation_fromHex_j8_eq m M3 rec3 (h3 : H25_3 m M3 rec3) x0 x1 x2 x3 : e25 jn m w25_1 [M3] (s25_8 x0 x1 x2 x3) = notation_fromHex_j8 m rec3 x0 x1 x2 x3 :=
  tre (g := fun J => (jj J 1 5 M3 (s25_8 x0 (IntKind.wrap .i64 (x1 + 1)) x2 x3) (l25 J m w25_0 [] M3))) (fun J => by kernel_rfl) (by simp only [jj_eq, h3]; rfl)
theorem notation_fromHex_j7_eq m M3 rec3 (h3 : H25_3 m M3 rec3) x0 x1 x2 x3 x4 x5 : e25 jn m w25_2 [M3] (s25_7 x0 x1 x2 x3 x4 x5) = notation_fromHex_j7 m rec3 x0 x1 x2 x3 x4 x5 :=
  tre (g := fun J => ((inL x5 (IntKind.wrap .i64 (Int.tdiv x0 2))).bind fun v2 =>
   ((x5[(Int.toNat (IntKind.wrap .i64 (Int.tdiv x0 2)))]?).bind fun v3 =>
   ((inL x5 (IntKind.wrap .i64 (Int.tdiv x0 2))).bind fun v4 =>
   ((x5[(Int.toNat (IntKind.wrap .i64 (Int.tdiv x0 2)))]?).bind fun v5 =>
   (jj J 0 16 0 (s25_8 x2 x3 x4 (List.set x5 (Int.toNat (IntKind.wrap .i64 (Int.tdiv x0 2))) (Dt.int (orI IntKind.u8 (shlI IntKind.u8 (Dt.toInt v3) 4) (IntKind.wrap IntKind.u8 x1))))) (e25 J m w25_1 [M3]))))))) (fun J => by kernel_rfl) (by simp only [jj_eq, notation_fromHex_j8_eq m M3 rec3 h3]; rfl)
theorem notation_fromHex_j6_eq m M3 rec3 (h3 : H25_3 m M3 rec3) x0 x1 x2 x3 x4 x5 : e25 jn m w25_3 [M3] (s25_7 x0 x1 x2 x3 x4 x5) = notation_fromHex_j6 m rec3 x0 x1 x2 x3 x4 x5 :=
  tre (g := fun J => (bif (decide (x1 < 0)) then
   some ((ByteArray.mk (List.toArray [])), false)
    else
   (jj J 0 15 0 (s25_7 x0 x1 x2 x3 x4 x5) (e25 J m w25_2 [M3])))) (fun J => by kernel_rfl) (by simp only [jj_eq, notation_fromHex_j7_eq m M3 rec3 h3]; rfl)
theorem notation_fromHex_j9_eq m M3 rec3 (h3 : H25_3 m M3 rec3) x0 x1 x2 x3 x4 x5 x6 x7 : e25 jn m w25_4 [M3] (s25_9 x0 x1 x2 x3 x4 x5 x6 x7) = notation_fromHex_j9 m rec3 x0 x1 x2 x3 x4 x5 x6 x7 :=
  tre (g := fun J => (bif x5 then
   (jj J 0 13 0 (s25_7 x0 (IntKind.wrap .i64 ((IntKind.wrap .i64 (IntKind.wrap IntKind.u8 (x2 - 97))) + 10)) x3 x4 x6 x7) (e25 J m w25_3 [M3]))
    else
   (jj J 0 13 0 (s25_7 x0 x1 x3 x4 x6 x7) (e25 J m w25_3 [M3])))) (fun J => by kernel_rfl) (by simp only [jj_eq, notation_fromHex_j6_eq m M3 rec3 h3]; rfl)
theorem notation_fromHex_j5_eq m M3 rec3 (h3 : H25_3 m M3 rec3) x0 x1 x2 x3 x4 x5 x6 x7 : e25 jn m w25_5 [M3] (s25_5 x0 x1 x2 x3 x4 x5 x6 x7) = notation_fromHex_j5 m rec3 x0 x1 x2 x3 x4 x5 x6 x7 :=
  tre (g := fun J => (bif x5 then
   (jj J 0 13 0 (s25_7 x0 (IntKind.wrap .i64 (IntKind.wrap IntKind.u8 (x2 - 48))) x3 x4 x6 x7) (e25 J m w25_3 [M3]))
    else
   (bif (decide (97 ≤ x2)) then
   (jj J 0 12 0 (s25_9 x0 x1 x2 x3 x4 (decide (x2 ≤ 102)) x6 x7) (e25 J m w25_4 [M3]))
   else
   (jj J 0 12 0 (s25_9 x0 x1 x2 x3 x4 false x6 x7) (e25 J m w25_4 [M3]))))) (fun J => by kernel_rfl) (by simp only [jj_eq, notation_fromHex_j6_eq m M3 rec3 h3, notation_fromHex_j9_eq m M3 rec3 h3]; rfl)
theorem notation_fromHex_j4_eq m M3 rec3 (h3 : H25_3 m M3 rec3) x0 x1 x2 x3 : e25 jn m w25_6 [M3] (s25_8 x0 x1 x2 x3) = notation_fromHex_j4 m rec3 x0 x1 x2 x3 :=
  tre (g := fun J => ((idxS (Dt.S x2 2) x1).bind fun v1 =>
   (bif (decide (48 ≤ v1)) then
   (jj J 0 10 0 (s25_5 x1 (-1) v1 x0 x1 (decide (v1 ≤ 57)) x2 x3) (e25 J m w25_5 [M3]))
   else
   (jj J 0 10 0 (s25_5 x1 (-1) v1 x0 x1 false x2 x3) (e25 J m w25_5 [M3]))))) (fun J => by kernel_rfl) (by simp only [jj_eq, notation_fromHex_j5_eq m M3 rec3 h3]; rfl)
theorem notation_fromHex_j10_eq m x0 : e25 jn m [1, 1, 1, 1] [] (s25_10 x0) = notation_fromHex_j10 m x0 :=
  tre (g := fun J => ((bif (Nat.ble (List.length x0) 137438953472) then (Option.some (strOfNums (List.map Dt.toInt x0))) else (Option.none)).bind fun v6 =>
   some (v6, true))) (fun J => by kernel_rfl) (by rfl)
theorem notation_fromHex_l3_eq m : ∀ M3 x0 x1 x2 x3, l25 jn m w25_0 [] M3 (s25_8 x0 x1 x2 x3) = notation_fromHex_l3 m M3 x0 x1 x2 x3
  | 0, _, _, _, _ => rfl
  | M3 + 1, x0, x1, x2, x3 =>
    trl (g := fun J => (bif (decide (x1 < x0)) then
   (jj J 0 6 0 (s25_8 x0 x1 x2 x3) (e25 J m w25_6 [M3]))
    else
   (jj J 0 17 0 (s25_10 x3) (e25 J m [1, 1, 1, 1] [])))) (fun J => by kernel_rfl) (by simp only [jj_eq, notation_fromHex_j4_eq m M3 (notation_fromHex_l3 m M3) (notation_fromHex_l3_eq m M3), notation_fromHex_j10_eq m]; rfl)
theorem notation_fromHex_j2_eq m x0 x1 x2 x3 : e25 jn m w25_7 [] (s25_8 x0 x1 x2 x3) = notation_fromHex_j2 m x0 x1 x2 x3 :=
  tre (g := fun J => (jj J 1 5 (Nat.succ m) (s25_8 x0 x1 x2 x3) (l25 J m w25_0 [] (Nat.succ m)))) (fun J => by kernel_rfl) (by simp only [jj_eq, notation_fromHex_l3_eq m]; rfl)
theorem notation_fromHex_j1_eq m x0 : e25 jn m [1, 1] [] (s25_1 x0) = notation_fromHex_j1 m x0 :=
  tre (g := fun J => ((mkL (IntKind.wrap .i64 (Int.tdiv (ByteArray.size (Dt.S x0 2) : Int) 2)) (IntKind.wrap .i64 (Int.tdiv (ByteArray.size (Dt.S x0 2) : Int) 2)) (Dt.int 0)).bind fun v0 =>
   (jj J 0 5 0 (s25_8 (ByteArray.size (Dt.S x0 2) : Int) 0 x0 v0) (e25 J m w25_7 [])))) (fun J => by kernel_rfl) (by simp only [jj_eq, notation_fromHex_j2_eq m]; rfl)
theorem notation_fromHex_j0_eq m x0 x1 : e25 jn m [1, 0, 1] [] (s25_0 x0 x1) = notation_fromHex_j0 m x0 x1 :=
  tre (g := fun J => (bif x0 then
   some ((ByteArray.mk (List.toArray [])), false)
    else
   (jj J 0 3 0 (s25_1 x1) (e25 J m [1, 1] [])))) (fun J => by kernel_rfl) (by simp only [jj_eq, notation_fromHex_j1_eq m]; rfl)
theorem notation_fromHex_eq m a0 : e25 jn m [] [] ⟨[(.dat 27 a0)], [], 0⟩ = notation_fromHex (m + 1) a0 :=
  tre (g := fun J => (bif ((Dt.I a0 0) != 4) then
   (jj J 0 2 0 (s25_0 true a0) (e25 J m [1, 0, 1] []))
    else
   (jj J 0 2 0 (s25_0 ((Int.tmod (ByteArray.size (Dt.S a0 2) : Int) 2) != 0) a0) (e25 J m [1, 0, 1] [])))) (fun J => by kernel_rfl) (by simp only [jj_eq, notation_fromHex_j0_eq m]; rfl)
def w24_0 : List Nat := [1, 1, 1, 1, 1]
noncomputable def e24 (J : Nat → Nat → Nat → St → Option (Dt × Bool × List Dt) → Option (Dt × Bool × List Dt)) (m : Nat) (p ms : List Nat) (σ : St) := evAt Tryd.prog env (ct m) J (m + 1) 53 80 Tryd.f53 d24 p ms σ
noncomputable def l24 (J : Nat → Nat → Nat → St → Option (Dt × Bool × List Dt) → Option (Dt × Bool × List Dt)) (m : Nat) (p ms : List Nat) (M : Nat) (σ : St) := loopAt Tryd.prog env (ct m) J (m + 1) 53 80 Tryd.f53 d24 p ms M σ
noncomputable def s24_1 (x0 : List Dt) (x1 : Dt) : St := ⟨tsOf [(2, (.ptr 1 [] 0))], [(.row 25 x0), (.box 27 (.dat 27 x1))], 1⟩
noncomputable def s24_0 (x0 : List Dt) (x1 : Dt) : St := ⟨tsOf [(0, (.row 0)), (2, (.ptr 1 [] 0))], [(.row 25 x0), (.box 27 (.dat 27 x1))], 1⟩
theorem i24_j1_eq m x0 x1 : e24 jn m w24_0 [] (s24_1 x0 x1) = i24_j1 m x0 x1 :=
  tre (g := fun J => some (kza2373, false, x0)) (fun J => by kernel_rfl) (by rfl)
theorem i24_j0_eq m x0 x1 : e24 jn m [1, 1] [] (s24_0 x0 x1) = i24_j0 m x0 x1 :=
  tre (g := fun J => ((inL x0 0).bind fun v0 =>
   ((x0[0]?).bind fun v1 =>
   ((inL x0 0).bind fun v2 =>
   ((x0[0]?).bind fun v3 =>
   (bif ((ByteArray.toList (Dt.S v3 0)) == [36, 105, 100]) then
   ((notation_fromHex m (Dt.fld v1 1)).bind fun r4 =>
   (bif r4.2 then
   some ((Dt.agg [(Dt.int 8), (Dt.int 0), (Dt.str r4.1), (Dt.lst []), (Dt.lst [])]), ((ByteArray.size r4.1 : Int) == 12), x0)
   else
   some ((Dt.agg [(Dt.int 8), (Dt.int 0), (Dt.str r4.1), (Dt.lst []), (Dt.lst [])]), false, x0)))
   else
   (bif ((ByteArray.toList (Dt.S v3 0)) == [36, 98, 121, 116, 101, 115]) then
   ((notation_fromHex m (Dt.fld v1 1)).bind fun r5 =>
   some ((Dt.agg [(Dt.int 7), (Dt.int 0), (Dt.str r5.1), (Dt.lst []), (Dt.lst [])]), r5.2, x0))
   else
   (bif ((ByteArray.toList (Dt.S v3 0)) == [36, 116, 105, 109, 101]) then
   (bif ((Dt.I (Dt.fld v1 1) 0) == 3) then
   some ((Dt.agg [(Dt.int 10), (Dt.int (Dt.I (Dt.fld v1 1) 1)), (Dt.str (ByteArray.mk (List.toArray []))), (Dt.lst []), (Dt.lst [])]), (decide (0 ≤ (Dt.I (Dt.fld v1 1) 1))), x0)
   else
   some ((Dt.agg [(Dt.int 10), (Dt.int (Dt.I (Dt.fld v1 1) 1)), (Dt.str (ByteArray.mk (List.toArray []))), (Dt.lst []), (Dt.lst [])]), false, x0))
   else
   (bif ((ByteArray.toList (Dt.S v3 0)) == [36, 109, 105, 110]) then
   (bif ((Dt.I (Dt.fld v1 1) 0) == 3) then
   some (kz2ef54, ((Dt.I (Dt.fld v1 1) 1) == 1), x0)
   else
   some (kz2ef54, false, x0))
   else
   (bif ((ByteArray.toList (Dt.S v3 0)) == [36, 109, 97, 120]) then
   (bif ((Dt.I (Dt.fld v1 1) 0) == 3) then
   some (kzedecf, ((Dt.I (Dt.fld v1 1) 1) == 1), x0)
   else
   some (kzedecf, false, x0))
   else
   (jj J 0 18 0 (s24_1 x0 x1) (e24 J m w24_0 [])))))))))))) (fun J => by kernel_rfl) (by simp only [jj_eq, i24_j1_eq m]; rfl)
theorem i24_eq m a0 : e24 jn m [] [] ⟨[(.row 0)], [(.row 25 a0)], 1⟩ = i24 (m + 1) a0 :=
  tre (g := fun J => (bif ((List.length a0 : Int) != 1) then
   some (kza2373, false, a0)
    else
   (jj J 0 3 0 (s24_0 a0 kza2373) (e24 J m [1, 1] [])))) (fun J => by kernel_rfl) (by simp only [jj_eq, i24_j0_eq m]; rfl)
def w26_2 : List Nat := [1, 0, 1, 0, 0, 1, 1]
def w26_0 : List Nat := w26_2 ++ [1]
def w26_1 : List Nat := w26_2 ++ [0, 0, 1, 1]
noncomputable def e26 (J : Nat → Nat → Nat → St → Option (Bool × Dt) → Option (Bool × Dt)) (m : Nat) (p ms : List Nat) (σ : St) := evAt Tryd.prog env (ct m) J (m + 1) 33 32 Tryd.f33 d11 p ms σ
noncomputable def l26 (J : Nat → Nat → Nat → St → Option (Bool × Dt) → Option (Bool × Dt)) (m : Nat) (p ms : List Nat) (M : Nat) (σ : St) := loopAt Tryd.prog env (ct m) J (m + 1) 33 32 Tryd.f33 d11 p ms M σ
noncomputable def s26_4 (x0 : ByteArray) (x1 x2 : Int) (x3 : Dt) : St := ⟨tsOf [(0, (.ptr 0 [] 0)), (1, (.dat 9 (.str x0))), (7, (.dat 3 (.int x1))), (8, (.dat 3 (.int x2)))], [(.box 45 (.dat 45 x3))], 1⟩
noncomputable def s26_5 (x0 : Dt) : St := ⟨tsOf [], [(.box 45 (.dat 45 x0))], 1⟩
abbrev H26_1 (m M1 : Nat) (rec1 : ByteArray → Int → Int → Dt → Option (Bool × Dt)) : Prop := ∀ x0 x1 x2 x3, l26 jn m [1, 0, 1, 0] [] M1 (s26_4 x0 x1 x2 x3) = rec1 x0 x1 x2 x3
theorem i26_j4_eq m M1 rec1 (h1 : H26_1 m M1 rec1) x0 x1 x2 x3 : e26 jn m w26_0 [M1] (s26_4 x0 x1 x2 x3) = i26_j4 m rec1 x0 x1 x2 x3 :=
  tre (g := fun J => (jj J 1 2 M1 (s26_4 x0 x1 (IntKind.wrap .i64 (x2 + 1)) x3) (l26 J m [1, 0, 1, 0] [] M1))) (fun J => by kernel_rfl) (by simp only [jj_eq, h1]; rfl)
theorem i26_j3_eq m M1 rec1 (h1 : H26_1 m M1 rec1) x0 x1 x2 x3 : e26 jn m w26_1 [M1] (s26_4 x0 x1 x2 x3) = i26_j3 m rec1 x0 x1 x2 x3 :=
  tre (g := fun J => (jj J 0 7 0 (s26_4 x0 x1 x2 (Dt.agg [(Dt.str (Dt.S x3 0)), (Dt.int (IntKind.wrap .i64 ((Dt.I x3 1) + 1))), (Dt.int (Dt.I x3 2)), (Dt.int (Dt.I x3 3)), (Dt.int (Dt.I x3 4))])) (e26 J m w26_0 [M1]))) (fun J => by kernel_rfl) (by simp only [jj_eq, i26_j4_eq m M1 rec1 h1]; rfl)
theorem i26_j2_eq m M1 rec1 (h1 : H26_1 m M1 rec1) x0 x1 x2 x3 : e26 jn m w26_2 [M1] (s26_4 x0 x1 x2 x3) = i26_j2 m rec1 x0 x1 x2 x3 :=
  tre (g := fun J => ((i8 m x3).bind fun r0 =>
   ((idxS x0 x2).bind fun v1 =>
   (bif (r0.1 != (IntKind.wrap .i64 v1)) then
   ((i11 m 4 (Dt.I r0.2 1) r0.2).bind fun r2 =>
   some (r2.1, r2.2))
   else
   (jj J 0 6 0 (s26_4 x0 x1 x2 r0.2) (e26 J m w26_1 [M1])))))) (fun J => by kernel_rfl) (by simp only [jj_eq, i26_j3_eq m M1 rec1 h1]; rfl)
theorem i26_j5_eq m x0 : e26 jn m [1, 1] [] (s26_5 x0) = i26_j5 m x0 :=
  tre (g := fun J => some (true, x0)) (fun J => by kernel_rfl) (by rfl)
theorem i26_l1_eq m : ∀ M1 x0 x1 x2 x3, l26 jn m [1, 0, 1, 0] [] M1 (s26_4 x0 x1 x2 x3) = i26_l1 m M1 x0 x1 x2 x3
  | 0, _, _, _, _ => rfl
  | M1 + 1, x0, x1, x2, x3 =>
    trl (g := fun J => (bif (decide (x2 < x1)) then
   (jj J 0 3 0 (s26_4 x0 x1 x2 x3) (e26 J m w26_2 [M1]))
    else
   (jj J 0 8 0 (s26_5 x3) (e26 J m [1, 1] [])))) (fun J => by kernel_rfl) (by simp only [jj_eq, i26_j2_eq m M1 (i26_l1 m M1) (i26_l1_eq m M1), i26_j5_eq m]; rfl)
theorem i26_j0_eq m x0 x1 x2 x3 : e26 jn m [1, 0, 1] [] (s26_4 x0 x1 x2 x3) = i26_j0 m x0 x1 x2 x3 :=
  tre (g := fun J => (jj J 1 2 (Nat.succ m) (s26_4 x0 x1 x2 x3) (l26 J m [1, 0, 1, 0] [] (Nat.succ m)))) (fun J => by kernel_rfl) (by simp only [jj_eq, i26_l1_eq m]; rfl)
theorem i26_eq m a0 a1 : e26 jn m [] [] ⟨[(.ptr 0 [] 0), (.dat 9 (.str a0))], [(.box 45 (.dat 45 a1))], 1⟩ = i26 (m + 1) a0 a1 :=
  tre (g := fun J => (jj J 0 2 0 (s26_4 a0 (ByteArray.size a0 : Int) 0 a1) (e26 J m [1, 0, 1] []))) (fun J => by kernel_rfl) (by simp only [jj_eq, i26_j0_eq m]; rfl)
def w27_4 : List Nat := [1, 1, 1, 1, 1, 1]
def w27_5 : List Nat := [1, 1, 1, 1, 1, 0, 1]
def w27_3 : List Nat := w27_4 ++ [1, 1]
def w27_2 : List Nat := w27_3 ++ [1, 1]
def w27_0 : List Nat := w27_4 ++ [1, 0, 1, 0, 0]
def w27_1 : List Nat := w27_0 ++ [0, 1]
noncomputable def e27 (J : Nat → Nat → Nat → St → Option (Dt × Bool × Dt) → Option (Dt × Bool × Dt)) (m : Nat) (p ms : List Nat) (σ : St) := evAt Tryd.prog env (ct m) J (m + 1) 34 92 Tryd.f34 d12 p ms σ
noncomputable def l27 (J : Nat → Nat → Nat → St → Option (Dt × Bool × Dt) → Option (Dt × Bool × Dt)) (m : Nat) (p ms : List Nat) (M : Nat) (σ : St) := loopAt Tryd.prog env (ct m) J (m + 1) 34 92 Tryd.f34 d12 p ms M σ
noncomputable def s27_4 (x0 : Int) (x1 x2 : Dt) : St := ⟨tsOf [(0, (.ptr 0 [] 0)), (2, (.ptr 1 [] 0)), (4, (.dat 3 (.int x0)))], [(.box 45 (.dat 45 x1)), (.box 27 (.dat 27 x2))], 1⟩
noncomputable def s27_6 (x0 : Int) (x1 x2 : Dt) : St := ⟨tsOf [(2, (.ptr 1 [] 0)), (7, (.dat 2 (.int x0)))], [(.box 45 (.dat 45 x1)), (.box 27 (.dat 27 x2))], 1⟩
noncomputable def s27_2 (x0 x1 : Int) (x2 x3 : Dt) : St := ⟨tsOf [(0, (.ptr 0 [] 0)), (2, (.ptr 1 [] 0)), (4, (.dat 3 (.int x0))), (6, (.dat 3 (.int x1)))], [(.box 45 (.dat 45 x2)), (.box 27 (.dat 27 x3))], 1⟩
noncomputable def s27_1 (x0 x1 : Int) (x2 : Bool) (x3 x4 : Dt) : St := ⟨tsOf [(0, (.ptr 0 [] 0)), (2, (.ptr 1 [] 0)), (4, (.dat 3 (.int x0))), (6, (.dat 3 (.int x1))), (38, (.dat 4 (.bool x2)))], [(.box 45 (.dat 45 x3)), (.box 27 (.dat 27 x4))], 1⟩
noncomputable def s27_0 (x0 : Int) (x1 : Bool) (x2 x3 : Dt) : St := ⟨tsOf [(0, (.ptr 0 [] 0)), (2, (.ptr 1 [] 0)), (4, (.dat 3 (.int x0))), (5, (.dat 4 (.bool x1)))], [(.box 45 (.dat 45 x2)), (.box 27 (.dat 27 x3))], 1⟩
abbrev H27_3 (m M3 : Nat) (rec3 : Int → Dt → Dt → Option (Dt × Bool × Dt)) : Prop := ∀ x0 x1 x2, l27 jn m w27_0 [] M3 (s27_4 x0 x1 x2) = rec3 x0 x1 x2
theorem i27_j4_eq m M3 rec3 (h3 : H27_3 m M3 rec3) x0 x1 x2 : e27 jn m w27_1 [M3] (s27_4 x0 x1 x2) = i27_j4 m rec3 x0 x1 x2 :=
  tre (g := fun J => (jj J 1 10 M3 (s27_4 x0 (Dt.agg [(Dt.str (Dt.S x1 0)), (Dt.int (IntKind.wrap .i64 ((Dt.I x1 1) + 1))), (Dt.int (Dt.I x1 2)), (Dt.int (Dt.I x1 3)), (Dt.int (Dt.I x1 4))]) x2) (l27 J m w27_0 [] M3))) (fun J => by kernel_rfl) (by simp only [jj_eq, h3]; rfl)
theorem i27_j6_eq m x0 x1 x2 : e27 jn m w27_2 [] (s27_6 x0 x1 x2) = i27_j6 m x0 x1 x2 :=
  tre (g := fun J => some ((Dt.agg [(Dt.int 3), (Dt.int x0), (Dt.str (ByteArray.mk (List.toArray []))), (Dt.lst []), (Dt.lst [])]), true, x1)) (fun J => by kernel_rfl) (by rfl)
theorem i27_j5_eq m x0 x1 x2 : e27 jn m w27_3 [] (s27_4 x0 x1 x2) = i27_j5 m x0 x1 x2 :=
  tre (g := fun J => ((cutS (Dt.S x1 0) x0 (Dt.I x1 1)).bind fun v5 =>
   ((strconv_ParseInt v5 10 64).bind fun r6 =>
   (bif (Bool.not r6.2) then
   ((i11 m 2 x0 x1).bind fun r7 =>
   some (kza2373, r7.1, r7.2))
   else
   (jj J 0 15 0 (s27_6 r6.1 x1 x2) (e27 J m w27_2 [])))))) (fun J => by kernel_rfl) (by simp only [jj_eq, i27_j6_eq m]; rfl)
theorem i27_l3_eq m : ∀ M3 x0 x1 x2, l27 jn m w27_0 [] M3 (s27_4 x0 x1 x2) = i27_l3 m M3 x0 x1 x2
  | 0, _, _, _ => rfl
  | M3 + 1, x0, x1, x2 =>
    trl (g := fun J => ((i8 m x1).bind fun r3 =>
   (bif (decide (48 ≤ r3.1)) then
   ((i8 m r3.2).bind fun r4 =>
   (bif (decide (r4.1 ≤ 57)) then
   (jj J 0 11 0 (s27_4 x0 r4.2 x2) (e27 J m w27_1 [M3]))
   else
   (jj J 0 12 0 (s27_4 x0 r4.2 x2) (e27 J m w27_3 []))))
   else
   (jj J 0 12 0 (s27_4 x0 r3.2 x2) (e27 J m w27_3 []))))) (fun J => by kernel_rfl) (by simp only [jj_eq, i27_j4_eq m M3 (i27_l3 m M3) (i27_l3_eq m M3), i27_j5_eq m]; rfl)
theorem i27_j2_eq m x0 x1 x2 x3 : e27 jn m w27_4 [] (s27_2 x0 x1 x2 x3) = i27_j2 m x0 x1 x2 x3 :=
  tre (g := fun J => (bif (x1 != 48) then
   (jj J 1 10 (Nat.succ m) (s27_4 x0 (Dt.agg [(Dt.str (Dt.S x2 0)), (Dt.int (IntKind.wrap .i64 ((Dt.I x2 1) + 1))), (Dt.int (Dt.I x2 2)), (Dt.int (Dt.I x2 3)), (Dt.int (Dt.I x2 4))]) x3) (l27 J m w27_0 [] (Nat.succ m)))
    else
   (jj J 0 12 0 (s27_4 x0 (Dt.agg [(Dt.str (Dt.S x2 0)), (Dt.int (IntKind.wrap .i64 ((Dt.I x2 1) + 1))), (Dt.int (Dt.I x2 2)), (Dt.int (Dt.I x2 3)), (Dt.int (Dt.I x2 4))]) x3) (e27 J m w27_3 [])))) (fun J => by kernel_rfl) (by simp only [jj_eq, i27_l3_eq m, i27_j5_eq m]; rfl)
theorem i27_j1_eq m x0 x1 x2 x3 x4 : e27 jn m w27_5 [] (s27_1 x0 x1 x2 x3 x4) = i27_j1 m x0 x1 x2 x3 x4 :=
  tre (g := fun J => (bif x2 then
   ((i11 m 4 (Dt.I x3 1) x3).bind fun r2 =>
   some (kza2373, r2.1, r2.2))
    else
   (jj J 0 8 0 (s27_2 x0 x1 x3 x4) (e27 J m w27_4 [])))) (fun J => by kernel_rfl) (by simp only [jj_eq, i27_j2_eq m]; rfl)
theorem i27_j0_eq m x0 x1 x2 x3 : e27 jn m [1, 1, 1, 1] [] (s27_0 x0 x1 x2 x3) = i27_j0 m x0 x1 x2 x3 :=
  tre (g := fun J => ((i8 m x2).bind fun r1 =>
   (bif (decide (r1.1 < 48)) then
   (jj J 0 7 0 (s27_1 x0 r1.1 true r1.2 x3) (e27 J m w27_5 []))
   else
   (bif (decide (57 < r1.1)) then
   (jj J 0 7 0 (s27_1 x0 r1.1 true r1.2 x3) (e27 J m w27_5 []))
   else
   (bif x1 then
   (jj J 0 7 0 (s27_1 x0 r1.1 (r1.1 == 48) r1.2 x3) (e27 J m w27_5 []))
   else
   (jj J 0 7 0 (s27_1 x0 r1.1 false r1.2 x3) (e27 J m w27_5 []))))))) (fun J => by kernel_rfl) (by simp only [jj_eq, i27_j1_eq m]; rfl)
theorem i27_eq m a0 : e27 jn m [] [] ⟨[(.ptr 0 [] 0)], [(.box 45 (.dat 45 a0))], 1⟩ = i27 (m + 1) a0 :=
  tre (g := fun J => ((i8 m a0).bind fun r0 =>
   (bif (r0.1 == 45) then
   (jj J 0 5 0 (s27_0 (Dt.I a0 1) (r0.1 == 45) (Dt.agg [(Dt.str (Dt.S r0.2 0)), (Dt.int (IntKind.wrap .i64 ((Dt.I r0.2 1) + 1))), (Dt.int (Dt.I r0.2 2)), (Dt.int (Dt.I r0.2 3)), (Dt.int (Dt.I r0.2 4))]) kza2373) (e27 J m [1, 1, 1, 1] []))
   else
   (jj J 0 5 0 (s27_0 (Dt.I a0 1) (r0.1 == 45) r0.2 kza2373) (e27 J m [1, 1, 1, 1] []))))) (fun J => by kernel_rfl) (by simp only [jj_eq, i27_j0_eq m]; rfl)
def w9_1 : List Nat := [1, 1, 1, 1, 1]
def w9_0 : List Nat := [1, 1, 1, 1, 1, 1]
def w9_4 : List Nat := [1, 1, 1, 1, 0, 0, 1]
def w9_2 : List Nat := w9_4 ++ [0, 1]
def w9_3 : List Nat := w9_4 ++ [1, 1]
noncomputable def e9 (J : Nat → Nat → Nat → St → Option (Dt × Bool × Dt) → Option (Dt × Bool × Dt)) (m : Nat) (p ms : List Nat) (σ : St) := evAt Tryd.prog env (ct m) J (m + 1) 18 112 Tryd.f18 d12 p ms σ
noncomputable def l9 (J : Nat → Nat → Nat → St → Option (Dt × Bool × Dt) → Option (Dt × Bool × Dt)) (m : Nat) (p ms : List Nat) (M : Nat) (σ : St) := loopAt Tryd.prog env (ct m) J (m + 1) 18 112 Tryd.f18 d12 p ms M σ
noncomputable def s9_4 (x0 x1 : Dt) : St := ⟨tsOf [(0, (.ptr 0 [] 0)), (6, (.ptr 1 [] 0))], [(.box 45 (.dat 45 x0)), (.box 27 (.dat 27 x1))], 1⟩
noncomputable def s9_3 (x0 x1 : Int) (x2 x3 : Dt) : St := ⟨tsOf [(0, (.ptr 0 [] 0)), (1, (.dat 3 (.int x0))), (6, (.ptr 1 [] 0)), (9, (.dat 3 (.int x1)))], [(.box 45 (.dat 45 x2)), (.box 27 (.dat 27 x3))], 1⟩
noncomputable def s9_2 (x0 x1 : Int) (x2 : Bool) (x3 x4 : Dt) : St := ⟨tsOf [(0, (.ptr 0 [] 0)), (1, (.dat 3 (.int x0))), (6, (.ptr 1 [] 0)), (9, (.dat 3 (.int x1))), (45, (.dat 4 (.bool x2)))], [(.box 45 (.dat 45 x3)), (.box 27 (.dat 27 x4))], 1⟩
noncomputable def s9_5 (x0 x1 x2 : Int) (x3 : Bool) (x4 x5 : Dt) : St := ⟨tsOf [(0, (.ptr 0 [] 0)), (1, (.dat 3 (.int x0))), (6, (.ptr 1 [] 0)), (8, (.dat 3 (.int x1))), (9, (.dat 3 (.int x2))), (47, (.dat 4 (.bool x3)))], [(.box 45 (.dat 45 x4)), (.box 27 (.dat 27 x5))], 1⟩
noncomputable def s9_1 (x0 : Int) (x1 : Bool) (x2 x3 : Int) (x4 : Bool) (x5 x6 : Dt) : St := ⟨tsOf [(0, (.ptr 0 [] 0)), (1, (.dat 3 (.int x0))), (2, (.dat 4 (.bool x1))), (6, (.ptr 1 [] 0)), (8, (.dat 3 (.int x2))), (9, (.dat 3 (.int x3))), (31, (.dat 4 (.bool x4)))], [(.box 45 (.dat 45 x5)), (.box 27 (.dat 27 x6))], 1⟩
noncomputable def s9_0 (x0 : Int) (x1 : Bool) (x2 x3 : Int) (x4 : Bool) (x5 x6 : Dt) : St := ⟨tsOf [(0, (.ptr 0 [] 0)), (1, (.dat 3 (.int x0))), (2, (.dat 4 (.bool x1))), (6, (.ptr 1 [] 0)), (8, (.dat 3 (.int x2))), (9, (.dat 3 (.int x3))), (10, (.dat 4 (.bool x4)))], [(.box 45 (.dat 45 x5)), (.box 27 (.dat 27 x6))], 1⟩
theorem i9_j4_eq m x0 x1 : e9 jn m w9_0 [] (s9_4 x0 x1) = i9_j4 m (i19 m) (i20 m) x0 x1 :=
  tre (g := fun J => ((i27 m x0).bind fun r8 =>
   some (r8.1, r8.2.1, r8.2.2))) (fun J => by kernel_rfl) (by rfl)
theorem i9_j3_eq m x0 x1 x2 x3 : e9 jn m w9_1 [] (s9_3 x0 x1 x2 x3) = i9_j3 m (i19 m) (i20 m) x0 x1 x2 x3 :=
  tre (g := fun J => (bif (x1 == 34) then
   ((i12 m x2).bind fun r2 =>
   some (r2.1, r2.2.1, r2.2.2))
    else
   (bif (x1 == 91) then
   ((i19 m x0 x2).bind fun r3 =>
   some (r3.1, r3.2.1, r3.2.2))
   else
   (bif (x1 == 123) then
   ((i20 m x0 x2).bind fun r4 =>
   some (r4.1, r4.2.1, r4.2.2))
   else
   (bif (x1 == 110) then
   ((i26 m (ByteArray.mk (List.toArray [110, 117, 108, 108])) x2).bind fun r5 =>
   some (kz3c25e, r5.1, r5.2))
   else
   (bif (x1 == 116) then
   ((i26 m (ByteArray.mk (List.toArray [116, 114, 117, 101])) x2).bind fun r6 =>
   some (kzb2fe3, r6.1, r6.2))
   else
   (bif (x1 == 102) then
   ((i26 m (ByteArray.mk (List.toArray [102, 97, 108, 115, 101])) x2).bind fun r7 =>
   some (kzb0365, r7.1, r7.2))
   else
   (jj J 0 24 0 (s9_4 x2 x3) (e9 J m w9_0 []))))))))) (fun J => by kernel_rfl) (by simp only [jj_eq, i9_j4_eq m]; rfl)
theorem i9_j2_eq m x0 x1 x2 x3 x4 : e9 jn m w9_2 [] (s9_2 x0 x1 x2 x3 x4) = i9_j2 m (i19 m) (i20 m) x0 x1 x2 x3 x4 :=
  tre (g := fun J => (bif x2 then
   some (kza2373, false, x3)
    else
   (jj J 0 11 0 (s9_3 x0 x1 x3 x4) (e9 J m w9_1 [])))) (fun J => by kernel_rfl) (by simp only [jj_eq, i9_j3_eq m]; rfl)
theorem i9_j5_eq m x0 x1 x2 x3 x4 x5 : e9 jn m w9_3 [] (s9_5 x0 x1 x2 x3 x4 x5) = i9_j5 m (i19 m) (i20 m) x0 x1 x2 x3 x4 x5 :=
  tre (g := fun J => (bif x3 then
   ((i10 m x0 x1 x4).bind fun r9 =>
   (bif (Bool.not r9.1) then
   some (kza2373, false, r9.2)
   else
   (jj J 0 11 0 (s9_3 x0 x2 r9.2 x5) (e9 J m w9_1 []))))
    else
   ((i11 m 4 x1 x4).bind fun r10 =>
   some (kza2373, r10.1, r10.2)))) (fun J => by kernel_rfl) (by simp only [jj_eq, i9_j3_eq m]; rfl)
theorem i9_j1_eq m x0 x1 x2 x3 x4 x5 x6 : e9 jn m w9_4 [] (s9_1 x0 x1 x2 x3 x4 x5 x6) = i9_j1 m (i19 m) (i20 m) x0 x1 x2 x3 x4 x5 x6 :=
  tre (g := fun J => (bif x4 then
   (bif (Bool.not x1) then
   ((i10 m x0 x2 x5).bind fun r1 =>
   (jj J 0 7 0 (s9_2 x0 x3 (Bool.not r1.1) r1.2 x6) (e9 J m w9_2 [])))
   else
   (jj J 0 7 0 (s9_2 x0 x3 false x5 x6) (e9 J m w9_2 [])))
    else
   (bif (x3 == 91) then
   (jj J 0 9 0 (s9_5 x0 x2 x3 true x5 x6) (e9 J m w9_3 []))
   else
   (bif (x3 == 123) then
   (jj J 0 9 0 (s9_5 x0 x2 x3 true x5 x6) (e9 J m w9_3 []))
   else
   (bif (x3 == 110) then
   (jj J 0 9 0 (s9_5 x0 x2 x3 true x5 x6) (e9 J m w9_3 []))
   else
   (bif (x3 == 116) then
   (jj J 0 9 0 (s9_5 x0 x2 x3 true x5 x6) (e9 J m w9_3 []))
   else
   (jj J 0 9 0 (s9_5 x0 x2 x3 (x3 == 102) x5 x6) (e9 J m w9_3 [])))))))) (fun J => by kernel_rfl) (by simp only [jj_eq, i9_j2_eq m, i9_j5_eq m]; rfl)
theorem i9_j0_eq m x0 x1 x2 x3 x4 x5 x6 : e9 jn m [1, 1, 1, 1] [] (s9_0 x0 x1 x2 x3 x4 x5 x6) = i9_j0 m (i19 m) (i20 m) x0 x1 x2 x3 x4 x5 x6 :=
  tre (g := fun J => (bif (x3 == 34) then
   (jj J 0 6 0 (s9_1 x0 x1 x2 x3 true x5 x6) (e9 J m w9_4 []))
    else
   (jj J 0 6 0 (s9_1 x0 x1 x2 x3 x4 x5 x6) (e9 J m w9_4 [])))) (fun J => by kernel_rfl) (by simp only [jj_eq, i9_j1_eq m]; rfl)
theorem i9_eq m a0 a1 a2 : e9 jn m [] [] ⟨[(.ptr 0 [] 0), (.dat 3 (.int a0)), (.dat 4 (.bool a1))], [(.box 45 (.dat 45 a2))], 1⟩ = i9 (m + 1) a0 a1 a2 :=
  tre (g := fun J => ((i8 m a2).bind fun r0 =>
   (bif (r0.1 == 45) then
   (jj J 0 5 0 (s9_0 a0 a1 (Dt.I a2 1) r0.1 true r0.2 kza2373) (e9 J m [1, 1, 1, 1] []))
   else
   (bif (decide (48 ≤ r0.1)) then
   (jj J 0 5 0 (s9_0 a0 a1 (Dt.I a2 1) r0.1 (decide (r0.1 ≤ 57)) r0.2 kza2373) (e9 J m [1, 1, 1, 1] []))
   else
   (jj J 0 5 0 (s9_0 a0 a1 (Dt.I a2 1) r0.1 false r0.2 kza2373) (e9 J m [1, 1, 1, 1] [])))))) (fun J => by kernel_rfl) (by simp only [jj_eq, i9_j0_eq m]; rfl)
def w19_5 : List Nat := [1, 1, 1, 1, 1]
def w19_0 : List Nat := [1, 1, 1, 1, 1, 0]
def w19_4 : List Nat := w19_0 ++ [0, 0, 1, 1]
def w19_2 : List Nat := w19_4 ++ [1, 1, 1, 1]
def w19_3 : List Nat := w19_4 ++ [1, 1, 1, 0, 1]
def w19_1 : List Nat := w19_2 ++ [1, 1]
noncomputable def e19 (J : Nat → Nat → Nat → St → Option (Dt × Bool × Dt) → Option (Dt × Bool × Dt)) (m : Nat) (p ms : List Nat) (σ : St) := evAt Tryd.prog env (ct m) J (m + 1) 31 76 Tryd.f31 d12 p ms σ
noncomputable def l19 (J : Nat → Nat → Nat → St → Option (Dt × Bool × Dt) → Option (Dt × Bool × Dt)) (m : Nat) (p ms : List Nat) (M : Nat) (σ : St) := loopAt Tryd.prog env (ct m) J (m + 1) 31 76 Tryd.f31 d12 p ms M σ
noncomputable def s19_5 (x0 : Int) (x1 x2 : Dt) (x3 x4 : Int) (x5 : ByteArray) (x6 x7 : List Dt) : St := ⟨tsOf [(0, (.ptr 0 [] 0)), (1, (.dat 3 (.int x0))), (4, (.ptr 1 [] 0)), (6, (.ptr 2 [] 0))], [(.box 45 (.dat 45 x1)), (.box 27 (.dat 27 x2)), (.box 27 (.agg 27 [(.dat 3 (.int x3)), (.dat 3 (.int x4)), (.dat 9 (.str x5)), (.row 3), (.row 4)])), (.row 24 x6), (.row 25 x7)], 1⟩
noncomputable def s19_4 (x0 x1 : Int) (x2 x3 : Dt) (x4 x5 : Int) (x6 : ByteArray) (x7 x8 : List Dt) : St := ⟨tsOf [(0, (.ptr 0 [] 0)), (1, (.dat 3 (.int x0))), (4, (.ptr 1 [] 0)), (6, (.ptr 2 [] 0)), (9, (.dat 3 (.int x1)))], [(.box 45 (.dat 45 x2)), (.box 27 (.dat 27 x3)), (.box 27 (.agg 27 [(.dat 3 (.int x4)), (.dat 3 (.int x5)), (.dat 9 (.str x6)), (.row 3), (.row 4)])), (.row 24 x7), (.row 25 x8)], 1⟩
noncomputable def s19_3 (x0 x1 : Int) (x2 : Bool) (x3 x4 : Dt) (x5 x6 : Int) (x7 : ByteArray) (x8 x9 : List Dt) : St := ⟨tsOf [(0, (.ptr 0 [] 0)), (1, (.dat 3 (.int x0))), (4, (.ptr 1 [] 0)), (6, (.ptr 2 [] 0)), (9, (.dat 3 (.int x1))), (56, (.dat 4 (.bool x2)))], [(.box 45 (.dat 45 x3)), (.box 27 (.dat 27 x4)), (.box 27 (.agg 27 [(.dat 3 (.int x5)), (.dat 3 (.int x6)), (.dat 9 (.str x7)), (.row 3), (.row 4)])), (.row 24 x8), (.row 25 x9)], 1⟩
noncomputable def s19_2 (x0 : Int) (x1 x2 : Dt) (x3 x4 : Int) (x5 : ByteArray) (x6 x7 : List Dt) (x8 : Dt) : St := ⟨tsOf [(0, (.ptr 0 [] 0)), (1, (.dat 3 (.int x0))), (4, (.ptr 1 [] 0)), (6, (.ptr 2 [] 0)), (7, (.ptr 5 [] 0))], [(.box 45 (.dat 45 x1)), (.box 27 (.dat 27 x2)), (.box 27 (.agg 27 [(.dat 3 (.int x3)), (.dat 3 (.int x4)), (.dat 9 (.str x5)), (.row 3), (.row 4)])), (.row 24 x6), (.row 25 x7), (.box 27 (.dat 27 x8))], 1⟩
abbrev H19_1 (m M1 : Nat) (rec1 : Int → Dt → Dt → Int → Int → ByteArray → List Dt → List Dt → Option (Dt × Bool × Dt)) : Prop := ∀ x0 x1 x2 x3 x4 x5 x6 x7, l19 jn m w19_0 [] M1 (s19_5 x0 x1 x2 x3 x4 x5 x6 x7) = rec1 x0 x1 x2 x3 x4 x5 x6 x7
theorem i19_j5_eq m M1 rec1 (h1 : H19_1 m M1 rec1) x0 x1 x2 x3 x4 x5 x6 x7 : e19 jn m w19_1 [M1] (s19_5 x0 x1 x2 x3 x4 x5 x6 x7) = i19_j5 m (i9 m) rec1 x0 x1 x2 x3 x4 x5 x6 x7 :=
  tre (g := fun J => ((i7 m x1).bind fun r7 =>
   (jj J 1 7 M1 (s19_5 x0 r7 x2 x3 x4 x5 x6 x7) (l19 J m w19_0 [] M1)))) (fun J => by kernel_rfl) (by simp only [jj_eq, h1]; rfl)
theorem i19_j4_eq m M1 rec1 (h1 : H19_1 m M1 rec1) x0 x1 x2 x3 x4 x5 x6 x7 x8 : e19 jn m w19_2 [M1] (s19_4 x0 x1 x2 x3 x4 x5 x6 x7 x8) = i19_j4 m (i9 m) rec1 x0 x1 x2 x3 x4 x5 x6 x7 x8 :=
  tre (g := fun J => (bif (x1 == 93) then
   some ((Dt.agg [(Dt.int x4), (Dt.int x5), (Dt.str x6), (Dt.lst x7), (Dt.lst x8)]), true, (Dt.agg [(Dt.str (Dt.S x2 0)), (Dt.int (IntKind.wrap .i64 ((Dt.I x2 1) + 1))), (Dt.int (Dt.I x2 2)), (Dt.int (Dt.I x2 3)), (Dt.int (Dt.I x2 4))]))
    else
   (jj J 0 18 0 (s19_5 x0 (Dt.agg [(Dt.str (Dt.S x2 0)), (Dt.int (IntKind.wrap .i64 ((Dt.I x2 1) + 1))), (Dt.int (Dt.I x2 2)), (Dt.int (Dt.I x2 3)), (Dt.int (Dt.I x2 4))]) x3 x4 x5 x6 x7 x8) (e19 J m w19_1 [M1])))) (fun J => by kernel_rfl) (by simp only [jj_eq, i19_j5_eq m M1 rec1 h1]; rfl)
theorem i19_j3_eq m M1 rec1 (h1 : H19_1 m M1 rec1) x0 x1 x2 x3 x4 x5 x6 x7 x8 x9 : e19 jn m w19_3 [M1] (s19_3 x0 x1 x2 x3 x4 x5 x6 x7 x8 x9) = i19_j3 m (i9 m) rec1 x0 x1 x2 x3 x4 x5 x6 x7 x8 x9 :=
  tre (g := fun J => (bif x2 then
   ((i11 m 4 (Dt.I x3 1) x3).bind fun r6 =>
   some (kza2373, r6.1, r6.2))
    else
   (jj J 0 15 0 (s19_4 x0 x1 x3 x4 x5 x6 x7 x8 x9) (e19 J m w19_2 [M1])))) (fun J => by kernel_rfl) (by simp only [jj_eq, i19_j4_eq m M1 rec1 h1]; rfl)
theorem i19_j2_eq m M1 rec1 (h1 : H19_1 m M1 rec1) x0 x1 x2 x3 x4 x5 x6 x7 x8 : e19 jn m w19_4 [M1] (s19_2 x0 x1 x2 x3 x4 x5 x6 x7 x8) = i19_j2 m (i9 m) rec1 x0 x1 x2 x3 x4 x5 x6 x7 x8 :=
  tre (g := fun J => ((app x6 [x8]).bind fun v3 =>
   ((i7 m x1).bind fun r4 =>
   ((i8 m r4).bind fun r5 =>
   (bif (r5.1 != 44) then
   (jj J 0 14 0 (s19_3 x0 r5.1 (r5.1 != 93) r5.2 x2 x3 x4 x5 v3 x7) (e19 J m w19_3 [M1]))
   else
   (jj J 0 14 0 (s19_3 x0 r5.1 false r5.2 x2 x3 x4 x5 v3 x7) (e19 J m w19_3 [M1]))))))) (fun J => by kernel_rfl) (by simp only [jj_eq, i19_j3_eq m M1 rec1 h1]; rfl)
theorem i19_l1_eq m : ∀ M1 x0 x1 x2 x3 x4 x5 x6 x7, l19 jn m w19_0 [] M1 (s19_5 x0 x1 x2 x3 x4 x5 x6 x7) = i19_l1 m (i9 m) M1 x0 x1 x2 x3 x4 x5 x6 x7
  | 0, _, _, _, _, _, _, _, _ => rfl
  | M1 + 1, x0, x1, x2, x3, x4, x5, x6, x7 =>
    trl (g := fun J => ((i9 m (IntKind.wrap .i64 (x0 + 1)) false x1).bind fun r2 =>
   (bif (Bool.not r2.2.1) then
   some (kza2373, false, r2.2.2)
   else
   (jj J 0 10 0 (s19_2 x0 r2.2.2 x2 x3 x4 x5 x6 x7 r2.1) (e19 J m w19_4 [M1]))))) (fun J => by kernel_rfl) (by simp only [jj_eq, i19_j2_eq m M1 (i19_l1 m (i9 m) M1) (i19_l1_eq m M1)]; rfl)
theorem i19_j0_eq m x0 x1 x2 x3 x4 x5 x6 x7 : e19 jn m w19_5 [] (s19_5 x0 x1 x2 x3 x4 x5 x6 x7) = i19_j0 m (i9 m) x0 x1 x2 x3 x4 x5 x6 x7 :=
  tre (g := fun J => (jj J 1 7 (Nat.succ m) (s19_5 x0 x1 x2 x3 x4 x5 x6 x7) (l19 J m w19_0 [] (Nat.succ m)))) (fun J => by kernel_rfl) (by simp only [jj_eq, i19_l1_eq m]; rfl)
theorem i19_eq m a0 a1 : e19 jn m [] [] ⟨[(.ptr 0 [] 0), (.dat 3 (.int a0))], [(.box 45 (.dat 45 a1))], 1⟩ = i19 (m + 1) a0 a1 :=
  tre (g := fun J => ((i7 m (Dt.agg [(Dt.str (Dt.S a1 0)), (Dt.int (IntKind.wrap .i64 ((Dt.I a1 1) + 1))), (Dt.int (Dt.I a1 2)), (Dt.int (Dt.I a1 3)), (Dt.int (Dt.I a1 4))])).bind fun r0 =>
   ((i8 m r0).bind fun r1 =>
   (bif (r1.1 == 93) then
   some (kz73e26, true, (Dt.agg [(Dt.str (Dt.S r1.2 0)), (Dt.int (IntKind.wrap .i64 ((Dt.I r1.2 1) + 1))), (Dt.int (Dt.I r1.2 2)), (Dt.int (Dt.I r1.2 3)), (Dt.int (Dt.I r1.2 4))]))
   else
   (jj J 0 7 0 (s19_5 a0 r1.2 kza2373 6 0 (ByteArray.mk (List.toArray [])) [] []) (e19 J m w19_5 [])))))) (fun J => by kernel_rfl) (by simp only [jj_eq, i19_j0_eq m]; rfl)
def w20_10 : List Nat := [1, 1, 1, 1, 1, 1]
def w20_0 : List Nat := w20_10 ++ [0]
def w20_9 : List Nat := w20_0 ++ [0, 0, 1, 1]
def w20_8 : List Nat := w20_9 ++ [1, 1]
def w20_7 : List Nat := w20_8 ++ [1, 1, 1]
def w20_5 : List Nat := w20_7 ++ [1, 1, 1, 1]
def w20_6 : List Nat := w20_7 ++ [1, 1, 1, 0, 1]
def w20_4 : List Nat := w20_5 ++ [1, 1]
def w20_2 : List Nat := w20_4 ++ [1]
def w20_1 : List Nat := w20_2 ++ [1]
def w20_3 : List Nat := w20_4 ++ [0, 1]
noncomputable def e20 (J : Nat → Nat → Nat → St → Option (Dt × Bool × Dt) → Option (Dt × Bool × Dt)) (m : Nat) (p ms : List Nat) (σ : St) := evAt Tryd.prog env (ct m) J (m + 1) 32 139 Tryd.f32 d12 p ms σ
noncomputable def l20 (J : Nat → Nat → Nat → St → Option (Dt × Bool × Dt) → Option (Dt × Bool × Dt)) (m : Nat) (p ms : List Nat) (M : Nat) (σ : St) := loopAt Tryd.prog env (ct m) J (m + 1) 32 139 Tryd.f32 d12 p ms M σ
noncomputable def s20_10 (x0 : Int) (x1 x2 : Dt) (x3 x4 : Int) (x5 : ByteArray) (x6 x7 x8 : List Dt) : St := ⟨tsOf [(0, (.ptr 0 [] 0)), (1, (.dat 3 (.int x0))), (4, (.ptr 1 [] 0)), (6, (.ptr 2 [] 0)), (7, (.row 5))], [(.box 45 (.dat 45 x1)), (.box 27 (.dat 27 x2)), (.box 27 (.agg 27 [(.dat 3 (.int x3)), (.dat 3 (.int x4)), (.dat 9 (.str x5)), (.row 3), (.row 4)])), (.row 24 x6), (.row 25 x7), (.map 68 x8)], 1⟩
noncomputable def s20_9 (x0 x1 : Int) (x2 x3 : Dt) (x4 x5 : Int) (x6 : ByteArray) (x7 x8 x9 : List Dt) : St := ⟨tsOf [(0, (.ptr 0 [] 0)), (1, (.dat 3 (.int x0))), (4, (.ptr 1 [] 0)), (6, (.ptr 2 [] 0)), (7, (.row 5)), (13, (.dat 3 (.int x1)))], [(.box 45 (.dat 45 x2)), (.box 27 (.dat 27 x3)), (.box 27 (.agg 27 [(.dat 3 (.int x4)), (.dat 3 (.int x5)), (.dat 9 (.str x6)), (.row 3), (.row 4)])), (.row 24 x7), (.row 25 x8), (.map 68 x9)], 1⟩
noncomputable def s20_8 (x0 x1 : Int) (x2 : Bool) (x3 x4 : Dt) (x5 x6 : Int) (x7 : ByteArray) (x8 x9 x10 : List Dt) : St := ⟨tsOf [(0, (.ptr 0 [] 0)), (1, (.dat 3 (.int x0))), (4, (.ptr 1 [] 0)), (6, (.ptr 2 [] 0)), (7, (.row 5)), (13, (.dat 3 (.int x1))), (132, (.dat 4 (.bool x2)))], [(.box 45 (.dat 45 x3)), (.box 27 (.dat 27 x4)), (.box 27 (.agg 27 [(.dat 3 (.int x5)), (.dat 3 (.int x6)), (.dat 9 (.str x7)), (.row 3), (.row 4)])), (.row 24 x8), (.row 25 x9), (.map 68 x10)], 1⟩
noncomputable def s20_7 (x0 : Int) (x1 : Bool) (x2 x3 : Int) (x4 x5 : Dt) (x6 x7 : Int) (x8 : ByteArray) (x9 x10 x11 : List Dt) (x12 : Dt) : St := ⟨tsOf [(0, (.ptr 0 [] 0)), (1, (.dat 3 (.int x0))), (4, (.ptr 1 [] 0)), (6, (.ptr 2 [] 0)), (7, (.row 5)), (10, (.dat 4 (.bool x1))), (11, (.dat 3 (.int x2))), (12, (.ptr 6 [] 0)), (13, (.dat 3 (.int x3)))], [(.box 45 (.dat 45 x4)), (.box 27 (.dat 27 x5)), (.box 27 (.agg 27 [(.dat 3 (.int x6)), (.dat 3 (.int x7)), (.dat 9 (.str x8)), (.row 3), (.row 4)])), (.row 24 x9), (.row 25 x10), (.map 68 x11), (.box 27 (.dat 27 x12))], 1⟩
noncomputable def s20_5 (x0 : Int) (x1 : Bool) (x2 x3 : Int) (x4 : Bool) (x5 x6 : Dt) (x7 x8 : Int) (x9 : ByteArray) (x10 x11 x12 : List Dt) (x13 : Dt) : St := ⟨tsOf [(0, (.ptr 0 [] 0)), (1, (.dat 3 (.int x0))), (4, (.ptr 1 [] 0)), (6, (.ptr 2 [] 0)), (7, (.row 5)), (10, (.dat 4 (.bool x1))), (11, (.dat 3 (.int x2))), (12, (.ptr 6 [] 0)), (13, (.dat 3 (.int x3))), (89, (.dat 4 (.bool x4)))], [(.box 45 (.dat 45 x5)), (.box 27 (.dat 27 x6)), (.box 27 (.agg 27 [(.dat 3 (.int x7)), (.dat 3 (.int x8)), (.dat 9 (.str x9)), (.row 3), (.row 4)])), (.row 24 x10), (.row 25 x11), (.map 68 x12), (.box 27 (.dat 27 x13))], 1⟩
noncomputable def s20_4 (x0 : Int) (x1 : ByteArray) (x2 : Bool) (x3 : Int) (x4 x5 : Dt) (x6 x7 : Int) (x8 : ByteArray) (x9 x10 x11 : List Dt) (x12 : Dt) : St := ⟨tsOf [(0, (.ptr 0 [] 0)), (1, (.dat 3 (.int x0))), (4, (.ptr 1 [] 0)), (6, (.ptr 2 [] 0)), (7, (.row 5)), (8, (.dat 9 (.str x1))), (10, (.dat 4 (.bool x2))), (11, (.dat 3 (.int x3))), (12, (.ptr 6 [] 0))], [(.box 45 (.dat 45 x4)), (.box 27 (.dat 27 x5)), (.box 27 (.agg 27 [(.dat 3 (.int x6)), (.dat 3 (.int x7)), (.dat 9 (.str x8)), (.row 3), (.row 4)])), (.row 24 x9), (.row 25 x10), (.map 68 x11), (.box 27 (.dat 27 x12))], 1⟩
noncomputable def s20_3 (x0 : Int) (x1 : ByteArray) (x2 : Bool) (x3 x4 : Dt) (x5 x6 : Int) (x7 : ByteArray) (x8 x9 x10 : List Dt) : St := ⟨tsOf [(0, (.ptr 0 [] 0)), (1, (.dat 3 (.int x0))), (4, (.ptr 1 [] 0)), (6, (.ptr 2 [] 0)), (7, (.row 5)), (8, (.dat 9 (.str x1))), (10, (.dat 4 (.bool x2)))], [(.box 45 (.dat 45 x3)), (.box 27 (.dat 27 x4)), (.box 27 (.agg 27 [(.dat 3 (.int x5)), (.dat 3 (.int x6)), (.dat 9 (.str x7)), (.row 3), (.row 4)])), (.row 24 x8), (.row 25 x9), (.map 68 x10)], 1⟩
noncomputable def s20_2 (x0 : Int) (x1 : ByteArray) (x2 x3 : Dt) (x4 x5 : Int) (x6 : ByteArray) (x7 x8 x9 : List Dt) : St := ⟨tsOf [(0, (.ptr 0 [] 0)), (1, (.dat 3 (.int x0))), (4, (.ptr 1 [] 0)), (6, (.ptr 2 [] 0)), (7, (.row 5)), (8, (.dat 9 (.str x1)))], [(.box 45 (.dat 45 x2)), (.box 27 (.dat 27 x3)), (.box 27 (.agg 27 [(.dat 3 (.int x4)), (.dat 3 (.int x5)), (.dat 9 (.str x6)), (.row 3), (.row 4)])), (.row 24 x7), (.row 25 x8), (.map 68 x9)], 1⟩
abbrev H20_1 (m M1 : Nat) (rec1 : Int → Dt → Dt → Int → Int → ByteArray → List Dt → List Dt → List Dt → Option (Dt × Bool × Dt)) : Prop := ∀ x0 x1 x2 x3 x4 x5 x6 x7 x8, l20 jn m w20_0 [] M1 (s20_10 x0 x1 x2 x3 x4 x5 x6 x7 x8) = rec1 x0 x1 x2 x3 x4 x5 x6 x7 x8
theorem i20_j10_eq m M1 rec1 (h1 : H20_1 m M1 rec1) x0 x1 x2 x3 x4 x5 x6 x7 x8 : e20 jn m w20_1 [M1] (s20_10 x0 x1 x2 x3 x4 x5 x6 x7 x8) = i20_j10 m (i9 m) rec1 x0 x1 x2 x3 x4 x5 x6 x7 x8 :=
  tre (g := fun J => ((i7 m x1).bind fun r11 =>
   (jj J 1 8 M1 (s20_10 x0 r11 x2 x3 x4 x5 x6 x7 x8) (l20 J m w20_0 [] M1)))) (fun J => by kernel_rfl) (by simp only [jj_eq, h1]; rfl)
theorem i20_j9_eq m M1 rec1 (h1 : H20_1 m M1 rec1) x0 x1 x2 x3 x4 x5 x6 x7 x8 x9 : e20 jn m w20_2 [M1] (s20_9 x0 x1 x2 x3 x4 x5 x6 x7 x8 x9) = i20_j9 m (i9 m) rec1 x0 x1 x2 x3 x4 x5 x6 x7 x8 x9 :=
  tre (g := fun J => (bif (x1 == 125) then
   some ((Dt.agg [(Dt.int x4), (Dt.int x5), (Dt.str x6), (Dt.lst x7), (Dt.lst x8)]), true, x2)
    else
   (jj J 0 31 0 (s20_10 x0 x2 x3 x4 x5 x6 x7 x8 x9) (e20 J m w20_1 [M1])))) (fun J => by kernel_rfl) (by simp only [jj_eq, i20_j10_eq m M1 rec1 h1]; rfl)
theorem i20_j8_eq m M1 rec1 (h1 : H20_1 m M1 rec1) x0 x1 x2 x3 x4 x5 x6 x7 x8 x9 x10 : e20 jn m w20_3 [M1] (s20_8 x0 x1 x2 x3 x4 x5 x6 x7 x8 x9 x10) = i20_j8 m (i9 m) rec1 x0 x1 x2 x3 x4 x5 x6 x7 x8 x9 x10 :=
  tre (g := fun J => (bif x2 then
   some (kza2373, false, x3)
    else
   (jj J 0 29 0 (s20_9 x0 x1 x3 x4 x5 x6 x7 x8 x9 x10) (e20 J m w20_2 [M1])))) (fun J => by kernel_rfl) (by simp only [jj_eq, i20_j9_eq m M1 rec1 h1]; rfl)
theorem i20_j7_eq m M1 rec1 (h1 : H20_1 m M1 rec1) x0 x1 x2 x3 x4 x5 x6 x7 x8 x9 x10 x11 x12 : e20 jn m w20_4 [M1] (s20_7 x0 x1 x2 x3 x4 x5 x6 x7 x8 x9 x10 x11 x12) = i20_j7 m (i9 m) rec1 x0 x1 x2 x3 x4 x5 x6 x7 x8 x9 x10 x11 x12 :=
  tre (g := fun J => (bif x1 then
   (bif ((Dt.I x12 0) == 4) then
   ((i10 m (IntKind.wrap .i64 (x0 + 1)) x2 x4).bind fun r10 =>
   (jj J 0 28 0 (s20_8 x0 x3 (Bool.not r10.1) r10.2 x5 x6 x7 x8 x9 x10 x11) (e20 J m w20_3 [M1])))
   else
   (bif ((Dt.I x12 0) == 3) then
   ((i10 m (IntKind.wrap .i64 (x0 + 1)) x2 x4).bind fun r12 =>
   (jj J 0 28 0 (s20_8 x0 x3 (Bool.not r12.1) r12.2 x5 x6 x7 x8 x9 x10 x11) (e20 J m w20_3 [M1])))
   else
   (jj J 0 28 0 (s20_8 x0 x3 false x4 x5 x6 x7 x8 x9 x10 x11) (e20 J m w20_3 [M1]))))
    else
   (jj J 0 28 0 (s20_8 x0 x3 false x4 x5 x6 x7 x8 x9 x10 x11) (e20 J m w20_3 [M1])))) (fun J => by kernel_rfl) (by simp only [jj_eq, i20_j8_eq m M1 rec1 h1]; rfl)
theorem i20_j6_eq m M1 rec1 (h1 : H20_1 m M1 rec1) x0 x1 x2 x3 x4 x5 x6 x7 x8 x9 x10 x11 x12 : e20 jn m w20_5 [M1] (s20_7 x0 x1 x2 x3 x4 x5 x6 x7 x8 x9 x10 x11 x12) = i20_j6 m (i9 m) rec1 x0 x1 x2 x3 x4 x5 x6 x7 x8 x9 x10 x11 x12 :=
  tre (g := fun J => (bif (x3 == 125) then
   ((i24 m x10).bind fun r9 =>
   (bif r9.2.1 then
   some (r9.1, true, (Dt.agg [(Dt.str (Dt.S x4 0)), (Dt.int (IntKind.wrap .i64 ((Dt.I x4 1) + 1))), (Dt.int (Dt.I x4 2)), (Dt.int (Dt.I x4 3)), (Dt.int (Dt.I x4 4))]))
   else
   (jj J 0 27 0 (s20_7 x0 x1 x2 x3 (Dt.agg [(Dt.str (Dt.S x4 0)), (Dt.int (IntKind.wrap .i64 ((Dt.I x4 1) + 1))), (Dt.int (Dt.I x4 2)), (Dt.int (Dt.I x4 3)), (Dt.int (Dt.I x4 4))]) x5 x6 x7 x8 x9 r9.2.2 x11 x12) (e20 J m w20_4 [M1]))))
    else
   (jj J 0 27 0 (s20_7 x0 x1 x2 x3 (Dt.agg [(Dt.str (Dt.S x4 0)), (Dt.int (IntKind.wrap .i64 ((Dt.I x4 1) + 1))), (Dt.int (Dt.I x4 2)), (Dt.int (Dt.I x4 3)), (Dt.int (Dt.I x4 4))]) x5 x6 x7 x8 x9 x10 x11 x12) (e20 J m w20_4 [M1])))) (fun J => by kernel_rfl) (by simp only [jj_eq, i20_j7_eq m M1 rec1 h1]; rfl)
theorem i20_j5_eq m M1 rec1 (h1 : H20_1 m M1 rec1) x0 x1 x2 x3 x4 x5 x6 x7 x8 x9 x10 x11 x12 x13 : e20 jn m w20_6 [M1] (s20_5 x0 x1 x2 x3 x4 x5 x6 x7 x8 x9 x10 x11 x12 x13) = i20_j5 m (i9 m) rec1 x0 x1 x2 x3 x4 x5 x6 x7 x8 x9 x10 x11 x12 x13 :=
  tre (g := fun J => (bif x4 then
   ((i11 m 4 (Dt.I x5 1) x5).bind fun r8 =>
   some (kza2373, r8.1, r8.2))
    else
   (jj J 0 22 0 (s20_7 x0 x1 x2 x3 x5 x6 x7 x8 x9 x10 x11 x12 x13) (e20 J m w20_5 [M1])))) (fun J => by kernel_rfl) (by simp only [jj_eq, i20_j6_eq m M1 rec1 h1]; rfl)
theorem i20_j4_eq m M1 rec1 (h1 : H20_1 m M1 rec1) x0 x1 x2 x3 x4 x5 x6 x7 x8 x9 x10 x11 x12 : e20 jn m w20_7 [M1] (s20_4 x0 x1 x2 x3 x4 x5 x6 x7 x8 x9 x10 x11 x12) = i20_j4 m (i9 m) rec1 x0 x1 x2 x3 x4 x5 x6 x7 x8 x9 x10 x11 x12 :=
  tre (g := fun J => ((app x10 [(Dt.agg [(Dt.str x1), x12])]).bind fun v5 =>
   ((i7 m x4).bind fun r6 =>
   ((i8 m r6).bind fun r7 =>
   (bif (r7.1 != 44) then
   (jj J 0 21 0 (s20_5 x0 x2 x3 r7.1 (r7.1 != 125) r7.2 x5 x6 x7 x8 x9 v5 x11 x12) (e20 J m w20_6 [M1]))
   else
   (jj J 0 21 0 (s20_5 x0 x2 x3 r7.1 false r7.2 x5 x6 x7 x8 x9 v5 x11 x12) (e20 J m w20_6 [M1]))))))) (fun J => by kernel_rfl) (by simp only [jj_eq, i20_j5_eq m M1 rec1 h1]; rfl)
theorem i20_j3_eq m M1 rec1 (h1 : H20_1 m M1 rec1) x0 x1 x2 x3 x4 x5 x6 x7 x8 x9 x10 : e20 jn m w20_8 [M1] (s20_3 x0 x1 x2 x3 x4 x5 x6 x7 x8 x9 x10) = i20_j3 m (i9 m) rec1 x0 x1 x2 x3 x4 x5 x6 x7 x8 x9 x10 :=
  tre (g := fun J => ((i9 m (IntKind.wrap .i64 (x0 + 1)) x2 x3).bind fun r4 =>
   (bif (Bool.not r4.2.1) then
   some (kza2373, false, r4.2.2)
   else
   (jj J 0 17 0 (s20_4 x0 x1 x2 (Dt.I x3 1) r4.2.2 x4 x5 x6 x7 x8 x9 x10 r4.1) (e20 J m w20_7 [M1]))))) (fun J => by kernel_rfl) (by simp only [jj_eq, i20_j4_eq m M1 rec1 h1]; rfl)
theorem i20_j2_eq m M1 rec1 (h1 : H20_1 m M1 rec1) x0 x1 x2 x3 x4 x5 x6 x7 x8 x9 : e20 jn m w20_9 [M1] (s20_2 x0 x1 x2 x3 x4 x5 x6 x7 x8 x9) = i20_j2 m (i9 m) rec1 x0 x1 x2 x3 x4 x5 x6 x7 x8 x9 :=
  tre (g := fun J => (bif ((List.length x8 : Int) == 0) then
   ((notation_isSpecial m x1).bind fun r3 =>
   (jj J 0 13 0 (s20_3 x0 x1 r3 x2 x3 x4 x5 x6 x7 x8 (mput x9 x1 (Dt.bool true))) (e20 J m w20_8 [M1])))
    else
   (jj J 0 13 0 (s20_3 x0 x1 false x2 x3 x4 x5 x6 x7 x8 (mput x9 x1 (Dt.bool true))) (e20 J m w20_8 [M1])))) (fun J => by kernel_rfl) (by simp only [jj_eq, i20_j3_eq m M1 rec1 h1]; rfl)
theorem i20_l1_eq m : ∀ M1 x0 x1 x2 x3 x4 x5 x6 x7 x8, l20 jn m w20_0 [] M1 (s20_10 x0 x1 x2 x3 x4 x5 x6 x7 x8) = i20_l1 m (i9 m) M1 x0 x1 x2 x3 x4 x5 x6 x7 x8
  | 0, _, _, _, _, _, _, _, _, _ => rfl
  | M1 + 1, x0, x1, x2, x3, x4, x5, x6, x7, x8 =>
    trl (g := fun J => ((i21 m x1 x8).bind fun r2 =>
   (bif (Bool.not r2.2.1) then
   some (kza2373, false, r2.2.2.1)
   else
   (jj J 0 11 0 (s20_2 x0 r2.1 r2.2.2.1 x2 x3 x4 x5 x6 x7 r2.2.2.2) (e20 J m w20_9 [M1]))))) (fun J => by kernel_rfl) (by simp only [jj_eq, i20_j2_eq m M1 (i20_l1 m (i9 m) M1) (i20_l1_eq m M1)]; rfl)
theorem i20_j0_eq m x0 x1 x2 x3 x4 x5 x6 x7 x8 : e20 jn m w20_10 [] (s20_10 x0 x1 x2 x3 x4 x5 x6 x7 x8) = i20_j0 m (i9 m) x0 x1 x2 x3 x4 x5 x6 x7 x8 :=
  tre (g := fun J => (jj J 1 8 (Nat.succ m) (s20_10 x0 x1 x2 x3 x4 x5 x6 x7 x8) (l20 J m w20_0 [] (Nat.succ m)))) (fun J => by kernel_rfl) (by simp only [jj_eq, i20_l1_eq m]; rfl)
theorem i20_eq m a0 a1 : e20 jn m [] [] ⟨[(.ptr 0 [] 0), (.dat 3 (.int a0))], [(.box 45 (.dat 45 a1))], 1⟩ = i20 (m + 1) a0 a1 :=
  tre (g := fun J => ((i7 m (Dt.agg [(Dt.str (Dt.S a1 0)), (Dt.int (IntKind.wrap .i64 ((Dt.I a1 1) + 1))), (Dt.int (Dt.I a1 2)), (Dt.int (Dt.I a1 3)), (Dt.int (Dt.I a1 4))])).bind fun r0 =>
   ((i8 m r0).bind fun r1 =>
   (bif (r1.1 == 125) then
   some (kze9562, true, (Dt.agg [(Dt.str (Dt.S r1.2 0)), (Dt.int (IntKind.wrap .i64 ((Dt.I r1.2 1) + 1))), (Dt.int (Dt.I r1.2 2)), (Dt.int (Dt.I r1.2 3)), (Dt.int (Dt.I r1.2 4))]))
   else
   (jj J 0 8 0 (s20_10 a0 r1.2 kza2373 5 0 (ByteArray.mk (List.toArray [])) [] [] []) (e20 J m w20_10 [])))))) (fun J => by kernel_rfl) (by simp only [jj_eq, i20_j0_eq m]; rfl)
def w4_1 : List Nat := [1, 1, 1, 1, 1]
def w4_0 : List Nat := [1, 1, 1, 1, 1, 1]
noncomputable def e4 (J : Nat → Nat → Nat → St → Option (Dt × Int × Int) → Option (Dt × Int × Int)) (m : Nat) (p ms : List Nat) (σ : St) := evAt Tryd.prog env (ct m) J (m + 1) 10 34 Tryd.f10 d4 p ms σ
noncomputable def l4 (J : Nat → Nat → Nat → St → Option (Dt × Int × Int) → Option (Dt × Int × Int)) (m : Nat) (p ms : List Nat) (M : Nat) (σ : St) := loopAt Tryd.prog env (ct m) J (m + 1) 10 34 Tryd.f10 d4 p ms M σ
noncomputable def s4_1 (x0 x1 : Dt) : St := ⟨tsOf [(2, (.ptr 0 [] 0)), (6, (.ptr 1 [] 0))], [(.box 27 (.dat 27 x0)), (.box 27 (.dat 27 x1))], 0⟩
noncomputable def s4_0 (x0 x1 x2 : Dt) : St := ⟨tsOf [(2, (.ptr 0 [] 0)), (5, (.ptr 1 [] 0)), (6, (.ptr 2 [] 0))], [(.box 27 (.dat 27 x0)), (.box 45 (.dat 45 x1)), (.box 27 (.dat 27 x2))], 0⟩
theorem notation_Parse_j1_eq m x0 x1 : e4 jn m w4_0 [] (s4_1 x0 x1) = notation_Parse_j1 m x0 x1 :=
  tre (g := fun J => some (x1, 0, 0)) (fun J => by kernel_rfl) (by rfl)
theorem notation_Parse_j0_eq m x0 x1 x2 : e4 jn m w4_1 [] (s4_0 x0 x1 x2) = notation_Parse_j0 m x0 x1 x2 :=
  tre (g := fun J => (bif ((Dt.I x1 3) != 0) then
   some (kza2373, (Dt.I x1 4), (Dt.I x1 3))
    else
   (jj J 0 10 0 (s4_1 x0 x2) (e4 J m w4_0 [])))) (fun J => by kernel_rfl) (by simp only [jj_eq, notation_Parse_j1_eq m]; rfl)
theorem notation_Parse_eq m a0 : e4 jn m [] [] ⟨[(.dat 9 (.str a0))], [], 0⟩ = notation_Parse (m + 1) a0 :=
  tre (g := fun J => ((i7 m (Dt.agg [(Dt.str a0), (Dt.int 0), (Dt.int 0), (Dt.int 0), (Dt.int 0)])).bind fun r0 =>
   ((i9 m 1 false r0).bind fun r1 =>
   (bif r1.2.1 then
   ((i7 m r1.2.2).bind fun r2 =>
   (bif (decide ((Dt.I r2 1) < (ByteArray.size a0 : Int))) then
   ((i11 m 4 (Dt.I r2 1) r2).bind fun r3 =>
   (jj J 0 8 0 (s4_0 kza2373 r3.2 r1.1) (e4 J m w4_1 [])))
   else
   (jj J 0 8 0 (s4_0 kza2373 r2 r1.1) (e4 J m w4_1 []))))
   else
   (jj J 0 8 0 (s4_0 kza2373 r1.2.2 r1.1) (e4 J m w4_1 [])))))) (fun J => by kernel_rfl) (by simp only [jj_eq, notation_Parse_j0_eq m]; rfl)
def w36_7 : List Nat := [1, 1, 0, 1, 0, 1]
def w36_0 : List Nat := w36_7 ++ [0]
def w36_6 : List Nat := [1, 1, 1, 0, 1, 0, 1]
def w36_3 : List Nat := w36_6 ++ [0]
def w36_2 : List Nat := w36_0 ++ [0, 1]
def w36_1 : List Nat := w36_2 ++ [1]
def w36_5 : List Nat := w36_3 ++ [0, 1]
def w36_4 : List Nat := w36_5 ++ [1]
noncomputable def e36 (J : Nat → Nat → Nat → St → Option (List Dt) → Option (List Dt)) (m : Nat) (p ms : List Nat) (σ : St) := evAt Tryd.prog env (ct m) J (m + 1) 55 44 Tryd.f55 d36 p ms σ
noncomputable def l36 (J : Nat → Nat → Nat → St → Option (List Dt) → Option (List Dt)) (m : Nat) (p ms : List Nat) (M : Nat) (σ : St) := loopAt Tryd.prog env (ct m) J (m + 1) 55 44 Tryd.f55 d36 p ms M σ
noncomputable def s36_3 (x0 : Int) (x1 : Dt) (x2 : List Dt) : St := ⟨tsOf [(1, (.ptr 0 [] 0)), (3, (.row 1)), (4, (.dat 3 (.int x0)))], [(.box 27 (.dat 27 x1)), (.row 24 x2)], 0⟩
noncomputable def s36_8 (x0 : Int) (x1 : Dt) (x2 : List Dt) : St := ⟨tsOf [(1, (.ptr 0 [] 0)), (3, (.row 1)), (5, (.dat 3 (.int x0)))], [(.box 27 (.dat 27 x1)), (.row 24 x2)], 0⟩
noncomputable def s36_9 (x0 : List Dt) : St := ⟨tsOf [(3, (.row 0))], [(.row 24 x0)], 0⟩
noncomputable def s36_4 (x0 : Dt) (x1 : List Dt) : St := ⟨tsOf [(1, (.ptr 0 [] 0)), (3, (.row 1))], [(.box 27 (.dat 27 x0)), (.row 24 x1)], 0⟩
abbrev H36_1 (m M1 : Nat) (rec1 : Int → Dt → List Dt → Option (List Dt)) : Prop := ∀ x0 x1 x2, l36 jn m w36_0 [] M1 (s36_3 x0 x1 x2) = rec1 x0 x1 x2
theorem ref01_Parts_j3_eq m M1 rec1 (h1 : H36_1 m M1 rec1) x0 x1 x2 : e36 jn m w36_1 [M1] (s36_3 x0 x1 x2) = ref01_Parts_j3 m rec1 x0 x1 x2 :=
  tre (g := fun J => (jj J 1 4 M1 (s36_3 (IntKind.wrap .i64 (x0 + 1)) x1 x2) (l36 J m w36_0 [] M1))) (fun J => by kernel_rfl) (by simp only [jj_eq, h1]; rfl)
theorem ref01_Parts_j2_eq m M1 rec1 (h1 : H36_1 m M1 rec1) x0 x1 x2 : e36 jn m w36_2 [M1] (s36_3 x0 x1 x2) = ref01_Parts_j2 m rec1 x0 x1 x2 :=
  tre (g := fun J => ((idx (Dt.L x1 3) x0).bind fun v0 =>
   ((app x2 [v0]).bind fun v1 =>
   (jj J 0 5 0 (s36_3 x0 x1 v1) (e36 J m w36_1 [M1]))))) (fun J => by kernel_rfl) (by simp only [jj_eq, ref01_Parts_j3_eq m M1 rec1 h1]; rfl)
abbrev H36_6 (m M6 : Nat) (rec6 : Int → Dt → List Dt → Option (List Dt)) : Prop := ∀ x0 x1 x2, l36 jn m w36_3 [] M6 (s36_8 x0 x1 x2) = rec6 x0 x1 x2
theorem ref01_Parts_j8_eq m M6 rec6 (h6 : H36_6 m M6 rec6) x0 x1 x2 : e36 jn m w36_4 [M6] (s36_8 x0 x1 x2) = ref01_Parts_j8 m rec6 x0 x1 x2 :=
  tre (g := fun J => (jj J 1 9 M6 (s36_8 (IntKind.wrap .i64 (x0 + 1)) x1 x2) (l36 J m w36_3 [] M6))) (fun J => by kernel_rfl) (by simp only [jj_eq, h6]; rfl)
theorem ref01_Parts_j7_eq m M6 rec6 (h6 : H36_6 m M6 rec6) x0 x1 x2 : e36 jn m w36_5 [M6] (s36_8 x0 x1 x2) = ref01_Parts_j7 m rec6 x0 x1 x2 :=
  tre (g := fun J => ((idx (Dt.L x1 4) x0).bind fun v2 =>
   ((app x2 [(Dt.fld v2 1)]).bind fun v3 =>
   (jj J 0 10 0 (s36_8 x0 x1 v3) (e36 J m w36_4 [M6]))))) (fun J => by kernel_rfl) (by simp only [jj_eq, ref01_Parts_j8_eq m M6 rec6 h6]; rfl)
theorem ref01_Parts_j9_eq m x0 : e36 jn m [1, 1, 1, 1] [] (s36_9 x0) = ref01_Parts_j9 m x0 :=
  tre (g := fun J => some x0) (fun J => by kernel_rfl) (by rfl)
theorem ref01_Parts_l6_eq m : ∀ M6 x0 x1 x2, l36 jn m w36_3 [] M6 (s36_8 x0 x1 x2) = ref01_Parts_l6 m M6 x0 x1 x2
  | 0, _, _, _ => rfl
  | M6 + 1, x0, x1, x2 =>
    trl (g := fun J => (bif (decide (x0 < (List.length (Dt.L x1 4) : Int))) then
   (jj J 0 11 0 (s36_8 x0 x1 x2) (e36 J m w36_5 [M6]))
    else
   (jj J 0 12 0 (s36_9 x2) (e36 J m [1, 1, 1, 1] [])))) (fun J => by kernel_rfl) (by simp only [jj_eq, ref01_Parts_j7_eq m M6 (ref01_Parts_l6 m M6) (ref01_Parts_l6_eq m M6), ref01_Parts_j9_eq m]; rfl)
theorem ref01_Parts_j5_eq m x0 x1 x2 : e36 jn m w36_6 [] (s36_8 x0 x1 x2) = ref01_Parts_j5 m x0 x1 x2 :=
  tre (g := fun J => (jj J 1 9 (Nat.succ m) (s36_8 x0 x1 x2) (l36 J m w36_3 [] (Nat.succ m)))) (fun J => by kernel_rfl) (by simp only [jj_eq, ref01_Parts_l6_eq m]; rfl)
theorem ref01_Parts_j4_eq m x0 x1 : e36 jn m [1, 1, 1] [] (s36_4 x0 x1) = ref01_Parts_j4 m x0 x1 :=
  tre (g := fun J => (bif ((Dt.I x0 0) == 5) then
   (jj J 0 9 0 (s36_8 0 x0 x1) (e36 J m w36_6 []))
    else
   (jj J 0 12 0 (s36_9 x1) (e36 J m [1, 1, 1, 1] [])))) (fun J => by kernel_rfl) (by simp only [jj_eq, ref01_Parts_j5_eq m, ref01_Parts_j9_eq m]; rfl)
theorem ref01_Parts_l1_eq m : ∀ M1 x0 x1 x2, l36 jn m w36_0 [] M1 (s36_3 x0 x1 x2) = ref01_Parts_l1 m M1 x0 x1 x2
  | 0, _, _, _ => rfl
  | M1 + 1, x0, x1, x2 =>
    trl (g := fun J => (bif (decide (x0 < (List.length (Dt.L x1 3) : Int))) then
   (jj J 0 6 0 (s36_3 x0 x1 x2) (e36 J m w36_2 [M1]))
    else
   (jj J 0 7 0 (s36_4 x1 x2) (e36 J m [1, 1, 1] [])))) (fun J => by kernel_rfl) (by simp only [jj_eq, ref01_Parts_j2_eq m M1 (ref01_Parts_l1 m M1) (ref01_Parts_l1_eq m M1), ref01_Parts_j4_eq m]; rfl)
theorem ref01_Parts_j0_eq m x0 x1 x2 : e36 jn m w36_7 [] (s36_3 x0 x1 x2) = ref01_Parts_j0 m x0 x1 x2 :=
  tre (g := fun J => (jj J 1 4 (Nat.succ m) (s36_3 x0 x1 x2) (l36 J m w36_0 [] (Nat.succ m)))) (fun J => by kernel_rfl) (by simp only [jj_eq, ref01_Parts_l1_eq m]; rfl)
theorem ref01_Parts_eq m a0 : e36 jn m [] [] ⟨[(.dat 27 a0)], [], 0⟩ = ref01_Parts (m + 1) a0 :=
  tre (g := fun J => (bif ((Dt.I a0 0) == 6) then
   (jj J 0 4 0 (s36_3 0 a0 []) (e36 J m w36_7 []))
    else
   (jj J 0 7 0 (s36_4 a0 []) (e36 J m [1, 1, 1] [])))) (fun J => by kernel_rfl) (by simp only [jj_eq, ref01_Parts_j0_eq m, ref01_Parts_j4_eq m]; rfl)
def w32_3 : List Nat := [1, 1, 1, 1, 1]
def w32_4 : List Nat := [1, 1, 1, 1, 0, 1]
def w32_0 : List Nat := w32_4 ++ [0]
def w32_2 : List Nat := w32_0 ++ [0, 1]
def w32_1 : List Nat := w32_2 ++ [1]
noncomputable def e32 (J : Nat → Nat → Nat → St → Option Int → Option Int) (m : Nat) (p ms : List Nat) (σ : St) := evAt Tryd.prog env (ct m) J (m + 1) 35 34 Tryd.f35 d32 p ms σ
noncomputable def l32 (J : Nat → Nat → Nat → St → Option Int → Option Int) (m : Nat) (p ms : List Nat) (M : Nat) (σ : St) := loopAt Tryd.prog env (ct m) J (m + 1) 35 34 Tryd.f35 d32 p ms M σ
noncomputable def s32_5 (x0 : Int) (x1 : List Dt) (x2 x3 : Int) : St := ⟨tsOf [(1, (.dat 3 (.int x0))), (5, (.dat 24 (.lst x1))), (6, (.dat 3 (.int x2))), (7, (.dat 3 (.int x3)))], [], 0⟩
noncomputable def s32_6 (x0 : Int) : St := ⟨tsOf [(6, (.dat 3 (.int x0)))], [], 0⟩
noncomputable def s32_1 (x0 : Int) (x1 : List Dt) : St := ⟨tsOf [(1, (.dat 3 (.int x0))), (5, (.dat 24 (.lst x1)))], [], 0⟩
noncomputable def s32_0 (x0 : Int) (x1 : List Dt) (x2 : Bool) : St := ⟨tsOf [(1, (.dat 3 (.int x0))), (5, (.dat 24 (.lst x1))), (16, (.dat 4 (.bool x2)))], [], 0⟩
abbrev H32_3 (m M3 : Nat) (rec3 : Int → List Dt → Int → Int → Option Int) : Prop := ∀ x0 x1 x2 x3, l32 jn m w32_0 [] M3 (s32_5 x0 x1 x2 x3) = rec3 x0 x1 x2 x3
theorem ref01_levels_j5_eq m M3 rec3 (h3 : H32_3 m M3 rec3) x0 x1 x2 x3 : e32 jn m w32_1 [M3] (s32_5 x0 x1 x2 x3) = ref01_levels_j5 m (ref01_levels m) rec3 x0 x1 x2 x3 :=
  tre (g := fun J => (jj J 1 6 M3 (s32_5 x0 x1 x2 (IntKind.wrap .i64 (x3 + 1))) (l32 J m w32_0 [] M3))) (fun J => by kernel_rfl) (by simp only [jj_eq, h3]; rfl)
theorem ref01_levels_j4_eq m M3 rec3 (h3 : H32_3 m M3 rec3) x0 x1 x2 x3 : e32 jn m w32_2 [M3] (s32_5 x0 x1 x2 x3) = ref01_levels_j4 m (ref01_levels m) rec3 x0 x1 x2 x3 :=
  tre (g := fun J => ((idx x1 x3).bind fun v1 =>
   ((ref01_levels m v1 (IntKind.wrap .i64 (x0 - 1))).bind fun r2 =>
   (jj J 0 7 0 (s32_5 x0 x1 (bif (decide (x2 < r2)) then r2 else x2) x3) (e32 J m w32_1 [M3]))))) (fun J => by kernel_rfl) (by simp only [jj_eq, ref01_levels_j5_eq m M3 rec3 h3]; rfl)
theorem ref01_levels_j6_eq m x0 : e32 jn m w32_3 [] (s32_6 x0) = ref01_levels_j6 m (ref01_levels m) x0 :=
  tre (g := fun J => some (IntKind.wrap .i64 (x0 + 1))) (fun J => by kernel_rfl) (by rfl)
theorem ref01_levels_l3_eq m : ∀ M3 x0 x1 x2 x3, l32 jn m w32_0 [] M3 (s32_5 x0 x1 x2 x3) = ref01_levels_l3 m (ref01_levels m) M3 x0 x1 x2 x3
  | 0, _, _, _, _ => rfl
  | M3 + 1, x0, x1, x2, x3 =>
    trl (g := fun J => (bif (decide (x3 < (List.length x1 : Int))) then
   (jj J 0 8 0 (s32_5 x0 x1 x2 x3) (e32 J m w32_2 [M3]))
    else
   (jj J 0 9 0 (s32_6 x2) (e32 J m w32_3 [])))) (fun J => by kernel_rfl) (by simp only [jj_eq, ref01_levels_j4_eq m M3 (ref01_levels_l3 m (ref01_levels m) M3) (ref01_levels_l3_eq m M3), ref01_levels_j6_eq m]; rfl)
theorem ref01_levels_j2_eq m x0 x1 x2 x3 : e32 jn m w32_4 [] (s32_5 x0 x1 x2 x3) = ref01_levels_j2 m (ref01_levels m) x0 x1 x2 x3 :=
  tre (g := fun J => (jj J 1 6 (Nat.succ m) (s32_5 x0 x1 x2 x3) (l32 J m w32_0 [] (Nat.succ m)))) (fun J => by kernel_rfl) (by simp only [jj_eq, ref01_levels_l3_eq m]; rfl)
theorem ref01_levels_j1_eq m x0 x1 : e32 jn m [1, 1, 1] [] (s32_1 x0 x1) = ref01_levels_j1 m (ref01_levels m) x0 x1 :=
  tre (g := fun J => (jj J 0 6 0 (s32_5 x0 x1 0 0) (e32 J m w32_4 []))) (fun J => by kernel_rfl) (by simp only [jj_eq, ref01_levels_j2_eq m]; rfl)
theorem ref01_levels_j0_eq m x0 x1 x2 : e32 jn m [1, 1, 0, 1] [] (s32_0 x0 x1 x2) = ref01_levels_j0 m (ref01_levels m) x0 x1 x2 :=
  tre (g := fun J => (bif x2 then
   some 1
    else
   (jj J 0 4 0 (s32_1 x0 x1) (e32 J m [1, 1, 1] [])))) (fun J => by kernel_rfl) (by simp only [jj_eq, ref01_levels_j1_eq m]; rfl)
theorem ref01_levels_eq m a0 a1 : e32 jn m [] [] ⟨[(.dat 27 a0), (.dat 3 (.int a1))], [], 0⟩ = ref01_levels (m + 1) a0 a1 :=
  tre (g := fun J => ((ref01_Parts m a0).bind fun r0 =>
   (bif (decide (a1 < 2)) then
   (jj J 0 3 0 (s32_0 a1 r0 true) (e32 J m [1, 1, 0, 1] []))
   else
   (jj J 0 3 0 (s32_0 a1 r0 ((List.length r0 : Int) == 0)) (e32 J m [1, 1, 0, 1] []))))) (fun J => by kernel_rfl) (by simp only [jj_eq, ref01_levels_j0_eq m]; rfl)
noncomputable def e29 (J : Nat → Nat → Nat → St → Option Int → Option Int) (m : Nat) (p ms : List Nat) (σ : St) := evAt Tryd.prog env (ct m) J (m + 1) 20 5 Tryd.f20 d32 p ms σ
noncomputable def l29 (J : Nat → Nat → Nat → St → Option Int → Option Int) (m : Nat) (p ms : List Nat) (M : Nat) (σ : St) := loopAt Tryd.prog env (ct m) J (m + 1) 20 5 Tryd.f20 d32 p ms M σ
theorem ref01_Depth_eq m a0 : e29 jn m [] [] ⟨[(.dat 27 a0)], [], 0⟩ = ref01_Depth (m + 1) a0 :=
  tre (g := fun J => ((ref01_levels m a0 17).bind fun r0 =>
   some r0)) (fun J => by kernel_rfl) (by rfl)
def w33_3 : List Nat := [1, 1, 1, 0, 1]
def w33_0 : List Nat := [1, 1, 1, 0, 1, 0]
def w33_2 : List Nat := w33_0 ++ [0, 1]
def w33_1 : List Nat := w33_2 ++ [1]
noncomputable def e33 (J : Nat → Nat → Nat → St → Option Int → Option Int) (m : Nat) (p ms : List Nat) (σ : St) := evAt Tryd.prog env (ct m) J (m + 1) 36 32 Tryd.f36 d32 p ms σ
noncomputable def l33 (J : Nat → Nat → Nat → St → Option Int → Option Int) (m : Nat) (p ms : List Nat) (M : Nat) (σ : St) := loopAt Tryd.prog env (ct m) J (m + 1) 36 32 Tryd.f36 d32 p ms M σ
noncomputable def s33_3 (x0 x1 : Int) (x2 : List Dt) (x3 : Int) : St := ⟨tsOf [(1, (.dat 3 (.int x0))), (5, (.dat 3 (.int x1))), (6, (.dat 24 (.lst x2))), (7, (.dat 3 (.int x3)))], [], 0⟩
noncomputable def s33_4 (x0 : Int) : St := ⟨tsOf [(5, (.dat 3 (.int x0)))], [], 0⟩
abbrev H33_1 (m M1 : Nat) (rec1 : Int → Int → List Dt → Int → Option Int) : Prop := ∀ x0 x1 x2 x3, l33 jn m w33_0 [] M1 (s33_3 x0 x1 x2 x3) = rec1 x0 x1 x2 x3
theorem ref01_count_j3_eq m M1 rec1 (h1 : H33_1 m M1 rec1) x0 x1 x2 x3 : e33 jn m w33_1 [M1] (s33_3 x0 x1 x2 x3) = ref01_count_j3 m (ref01_count m) rec1 x0 x1 x2 x3 :=
  tre (g := fun J => (jj J 1 4 M1 (s33_3 x0 x1 x2 (IntKind.wrap .i64 (x3 + 1))) (l33 J m w33_0 [] M1))) (fun J => by kernel_rfl) (by simp only [jj_eq, h1]; rfl)
theorem ref01_count_j2_eq m M1 rec1 (h1 : H33_1 m M1 rec1) x0 x1 x2 x3 : e33 jn m w33_2 [M1] (s33_3 x0 x1 x2 x3) = ref01_count_j2 m (ref01_count m) rec1 x0 x1 x2 x3 :=
  tre (g := fun J => ((idx x2 x3).bind fun v1 =>
   ((ref01_count m v1 (IntKind.wrap .i64 (x0 - x1))).bind fun r2 =>
   (jj J 0 5 0 (s33_3 x0 (IntKind.wrap .i64 (x1 + r2)) x2 x3) (e33 J m w33_1 [M1]))))) (fun J => by kernel_rfl) (by simp only [jj_eq, ref01_count_j3_eq m M1 rec1 h1]; rfl)
theorem ref01_count_j4_eq m x0 : e33 jn m [1, 1, 1, 1] [] (s33_4 x0) = ref01_count_j4 m (ref01_count m) x0 :=
  tre (g := fun J => some x0) (fun J => by kernel_rfl) (by rfl)
theorem ref01_count_l1_eq m : ∀ M1 x0 x1 x2 x3, l33 jn m w33_0 [] M1 (s33_3 x0 x1 x2 x3) = ref01_count_l1 m (ref01_count m) M1 x0 x1 x2 x3
  | 0, _, _, _, _ => rfl
  | M1 + 1, x0, x1, x2, x3 =>
    trl (g := fun J => (bif (decide (x3 < (List.length x2 : Int))) then
   (bif (decide (x1 < x0)) then
   (jj J 0 6 0 (s33_3 x0 x1 x2 x3) (e33 J m w33_2 [M1]))
   else
   (jj J 0 7 0 (s33_4 x1) (e33 J m [1, 1, 1, 1] [])))
    else
   (jj J 0 7 0 (s33_4 x1) (e33 J m [1, 1, 1, 1] [])))) (fun J => by kernel_rfl) (by simp only [jj_eq, ref01_count_j2_eq m M1 (ref01_count_l1 m (ref01_count m) M1) (ref01_count_l1_eq m M1), ref01_count_j4_eq m]; rfl)
theorem ref01_count_j0_eq m x0 x1 x2 x3 : e33 jn m w33_3 [] (s33_3 x0 x1 x2 x3) = ref01_count_j0 m (ref01_count m) x0 x1 x2 x3 :=
  tre (g := fun J => (jj J 1 4 (Nat.succ m) (s33_3 x0 x1 x2 x3) (l33 J m w33_0 [] (Nat.succ m)))) (fun J => by kernel_rfl) (by simp only [jj_eq, ref01_count_l1_eq m]; rfl)
theorem ref01_count_eq m a0 a1 : e33 jn m [] [] ⟨[(.dat 27 a0), (.dat 3 (.int a1))], [], 0⟩ = ref01_count (m + 1) a0 a1 :=
  tre (g := fun J => ((ref01_Parts m a0).bind fun r0 =>
   (jj J 0 4 0 (s33_3 a1 1 r0 0) (e33 J m w33_3 [])))) (fun J => by kernel_rfl) (by simp only [jj_eq, ref01_count_j0_eq m]; rfl)
noncomputable def e30 (J : Nat → Nat → Nat → St → Option Int → Option Int) (m : Nat) (p ms : List Nat) (σ : St) := evAt Tryd.prog env (ct m) J (m + 1) 21 5 Tryd.f21 d32 p ms σ
noncomputable def l30 (J : Nat → Nat → Nat → St → Option Int → Option Int) (m : Nat) (p ms : List Nat) (M : Nat) (σ : St) := loopAt Tryd.prog env (ct m) J (m + 1) 21 5 Tryd.f21 d32 p ms M σ
theorem ref01_Nodes_eq m a0 : e30 jn m [] [] ⟨[(.dat 27 a0)], [], 0⟩ = ref01_Nodes (m + 1) a0 :=
  tre (g := fun J => ((ref01_count m a0 1025).bind fun r0 =>
   some r0)) (fun J => by kernel_rfl) (by rfl)
def w37_0 : List Nat := [1, 1, 0, 1, 0]
def w37_3 : List Nat := [1, 1, 0, 1, 0, 0, 1]
def w37_1 : List Nat := w37_3 ++ [1]
def w37_2 : List Nat := w37_3 ++ [0, 0, 1]
noncomputable def e37 (J : Nat → Nat → Nat → St → Option Bool → Option Bool) (m : Nat) (p ms : List Nat) (σ : St) := evAt Tryd.prog env (ct m) J (m + 1) 56 33 Tryd.f56 d22 p ms σ
noncomputable def l37 (J : Nat → Nat → Nat → St → Option Bool → Option Bool) (m : Nat) (p ms : List Nat) (M : Nat) (σ : St) := loopAt Tryd.prog env (ct m) J (m + 1) 56 33 Tryd.f56 d22 p ms M σ
noncomputable def s37_5 (x0 : ByteArray) (x1 x2 x3 : Int) : St := ⟨tsOf [(0, (.dat 9 (.str x0))), (1, (.dat 3 (.int x1))), (2, (.dat 3 (.int x2))), (7, (.dat 3 (.int x3)))], [], 0⟩
noncomputable def s37_4 (x0 : ByteArray) (x1 x2 x3 : Int) (x4 : Bool) : St := ⟨tsOf [(0, (.dat 9 (.str x0))), (1, (.dat 3 (.int x1))), (2, (.dat 3 (.int x2))), (7, (.dat 3 (.int x3))), (32, (.dat 4 (.bool x4)))], [], 0⟩
noncomputable def s37_6 : St := ⟨tsOf [], [], 0⟩
noncomputable def s37_0 (x0 : ByteArray) (x1 x2 : Int) : St := ⟨tsOf [(0, (.dat 9 (.str x0))), (1, (.dat 3 (.int x1))), (2, (.dat 3 (.int x2)))], [], 0⟩
abbrev H37_2 (m M2 : Nat) (rec2 : ByteArray → Int → Int → Int → Option Bool) : Prop := ∀ x0 x1 x2 x3, l37 jn m w37_0 [] M2 (s37_5 x0 x1 x2 x3) = rec2 x0 x1 x2 x3
theorem ref01_tail_j5_eq m M2 rec2 (h2 : H37_2 m M2 rec2) x0 x1 x2 x3 : e37 jn m w37_1 [M2] (s37_5 x0 x1 x2 x3) = ref01_tail_j5 m rec2 x0 x1 x2 x3 :=
  tre (g := fun J => (jj J 1 4 M2 (s37_5 x0 x1 x2 (IntKind.wrap .i64 (x3 + 1))) (l37 J m w37_0 [] M2))) (fun J => by kernel_rfl) (by simp only [jj_eq, h2]; rfl)
theorem ref01_tail_j4_eq m M2 rec2 (h2 : H37_2 m M2 rec2) x0 x1 x2 x3 x4 : e37 jn m w37_2 [M2] (s37_4 x0 x1 x2 x3 x4) = ref01_tail_j4 m rec2 x0 x1 x2 x3 x4 :=
  tre (g := fun J => (bif x4 then
   some false
    else
   (jj J 0 5 0 (s37_5 x0 x1 x2 x3) (e37 J m w37_1 [M2])))) (fun J => by kernel_rfl) (by simp only [jj_eq, ref01_tail_j5_eq m M2 rec2 h2]; rfl)
theorem ref01_tail_j3_eq m M2 rec2 (h2 : H37_2 m M2 rec2) x0 x1 x2 x3 : e37 jn m w37_3 [M2] (s37_5 x0 x1 x2 x3) = ref01_tail_j3 m rec2 x0 x1 x2 x3 :=
  tre (g := fun J => ((idxS x0 (IntKind.wrap .i64 (x1 + x3))).bind fun v0 =>
   (bif (decide (v0 < 128)) then
   (jj J 0 7 0 (s37_4 x0 x1 x2 x3 true) (e37 J m w37_2 [M2]))
   else
   ((idxS x0 (IntKind.wrap .i64 (x1 + x3))).bind fun v1 =>
   (jj J 0 7 0 (s37_4 x0 x1 x2 x3 (decide (191 < v1))) (e37 J m w37_2 [M2])))))) (fun J => by kernel_rfl) (by simp only [jj_eq, ref01_tail_j4_eq m M2 rec2 h2]; rfl)
theorem ref01_tail_j6_eq m : e37 jn m [1, 1, 1] [] s37_6 = ref01_tail_j6 m :=
  tre (g := fun J => some true) (fun J => by kernel_rfl) (by rfl)
theorem ref01_tail_l2_eq m : ∀ M2 x0 x1 x2 x3, l37 jn m w37_0 [] M2 (s37_5 x0 x1 x2 x3) = ref01_tail_l2 m M2 x0 x1 x2 x3
  | 0, _, _, _, _ => rfl
  | M2 + 1, x0, x1, x2, x3 =>
    trl (g := fun J => (bif (decide (x3 < x2)) then
   (jj J 0 6 0 (s37_5 x0 x1 x2 x3) (e37 J m w37_3 [M2]))
    else
   (jj J 0 8 0 s37_6 (e37 J m [1, 1, 1] [])))) (fun J => by kernel_rfl) (by simp only [jj_eq, ref01_tail_j3_eq m M2 (ref01_tail_l2 m M2) (ref01_tail_l2_eq m M2), ref01_tail_j6_eq m]; rfl)
theorem ref01_tail_j1_eq m x0 x1 x2 x3 : e37 jn m [1, 1, 0, 1] [] (s37_5 x0 x1 x2 x3) = ref01_tail_j1 m x0 x1 x2 x3 :=
  tre (g := fun J => (jj J 1 4 (Nat.succ m) (s37_5 x0 x1 x2 x3) (l37 J m w37_0 [] (Nat.succ m)))) (fun J => by kernel_rfl) (by simp only [jj_eq, ref01_tail_l2_eq m]; rfl)
theorem ref01_tail_j0_eq m x0 x1 x2 : e37 jn m [1, 1] [] (s37_0 x0 x1 x2) = ref01_tail_j0 m x0 x1 x2 :=
  tre (g := fun J => (jj J 0 4 0 (s37_5 x0 x1 x2 0) (e37 J m [1, 1, 0, 1] []))) (fun J => by kernel_rfl) (by simp only [jj_eq, ref01_tail_j1_eq m]; rfl)
theorem ref01_tail_eq m a0 a1 a2 : e37 jn m [] [] ⟨[(.dat 9 (.str a0)), (.dat 3 (.int a1)), (.dat 3 (.int a2))], [], 0⟩ = ref01_tail (m + 1) a0 a1 a2 :=
  tre (g := fun J => (bif (decide ((ByteArray.size a0 : Int) < (IntKind.wrap .i64 (a1 + a2)))) then
   some false
    else
   (jj J 0 3 0 (s37_0 a0 a1 a2) (e37 J m [1, 1] [])))) (fun J => by kernel_rfl) (by simp only [jj_eq, ref01_tail_j0_eq m]; rfl)
def w34_7 : List Nat := [1, 0, 1, 0, 0, 1]
def w34_3 : List Nat := w34_7 ++ [0, 1, 1, 1]
def w34_2 : List Nat := w34_3 ++ [1]
def w34_0 : List Nat := w34_2 ++ [1]
def w34_1 : List Nat := w34_2 ++ [0, 1]
def w34_6 : List Nat := w34_7 ++ [0, 1, 1, 0, 0, 1, 1, 1]
def w34_5 : List Nat := w34_6 ++ [1, 1]
def w34_4 : List Nat := w34_5 ++ [1, 1]
noncomputable def e34 (J : Nat → Nat → Nat → St → Option Bool → Option Bool) (m : Nat) (p ms : List Nat) (σ : St) := evAt Tryd.prog env (ct m) J (m + 1) 37 89 Tryd.f37 d22 p ms σ
noncomputable def l34 (J : Nat → Nat → Nat → St → Option Bool → Option Bool) (m : Nat) (p ms : List Nat) (M : Nat) (σ : St) := loopAt Tryd.prog env (ct m) J (m + 1) 37 89 Tryd.f37 d22 p ms M σ
noncomputable def s34_6 (x0 : ByteArray) (x1 x2 : Int) : St := ⟨tsOf [(0, (.dat 9 (.str x0))), (3, (.dat 3 (.int x1))), (5, (.dat 3 (.int x2)))], [], 0⟩
noncomputable def s34_5 (x0 : ByteArray) (x1 x2 : Int) (x3 : Bool) : St := ⟨tsOf [(0, (.dat 9 (.str x0))), (3, (.dat 3 (.int x1))), (5, (.dat 3 (.int x2))), (84, (.dat 4 (.bool x3)))], [], 0⟩
noncomputable def s34_4 (x0 : ByteArray) (x1 x2 x3 : Int) : St := ⟨tsOf [(0, (.dat 9 (.str x0))), (3, (.dat 3 (.int x1))), (4, (.dat 5 (.int x2))), (5, (.dat 3 (.int x3)))], [], 0⟩
noncomputable def s34_9 (x0 : ByteArray) (x1 x2 : Int) (x3 : Bool) : St := ⟨tsOf [(0, (.dat 9 (.str x0))), (3, (.dat 3 (.int x1))), (4, (.dat 5 (.int x2))), (30, (.dat 4 (.bool x3)))], [], 0⟩
noncomputable def s34_8 (x0 : ByteArray) (x1 x2 : Int) (x3 : Bool) : St := ⟨tsOf [(0, (.dat 9 (.str x0))), (3, (.dat 3 (.int x1))), (4, (.dat 5 (.int x2))), (23, (.dat 4 (.bool x3)))], [], 0⟩
noncomputable def s34_7 (x0 : ByteArray) (x1 x2 : Int) (x3 : Bool) : St := ⟨tsOf [(0, (.dat 9 (.str x0))), (3, (.dat 3 (.int x1))), (4, (.dat 5 (.int x2))), (16, (.dat 4 (.bool x3)))], [], 0⟩
noncomputable def s34_2 (x0 : ByteArray) (x1 : Int) : St := ⟨tsOf [(0, (.dat 9 (.str x0))), (3, (.dat 3 (.int x1)))], [], 0⟩
noncomputable def s34_10 : St := ⟨tsOf [], [], 0⟩
abbrev H34_1 (m M1 : Nat) (rec1 : ByteArray → Int → Option Bool) : Prop := ∀ x0 x1, l34 jn m [1, 0, 1, 0] [] M1 (s34_2 x0 x1) = rec1 x0 x1
theorem ref01_UTF8_j6_eq m M1 rec1 (h1 : H34_1 m M1 rec1) x0 x1 x2 : e34 jn m w34_0 [M1] (s34_6 x0 x1 x2) = ref01_UTF8_j6 m rec1 x0 x1 x2 :=
  tre (g := fun J => (jj J 1 2 M1 (s34_2 x0 (IntKind.wrap .i64 ((IntKind.wrap .i64 (x1 + x2)) + 1))) (l34 J m [1, 0, 1, 0] [] M1))) (fun J => by kernel_rfl) (by simp only [jj_eq, h1]; rfl)
theorem ref01_UTF8_j5_eq m M1 rec1 (h1 : H34_1 m M1 rec1) x0 x1 x2 x3 : e34 jn m w34_1 [M1] (s34_5 x0 x1 x2 x3) = ref01_UTF8_j5 m rec1 x0 x1 x2 x3 :=
  tre (g := fun J => (bif x3 then
   some false
    else
   (jj J 0 17 0 (s34_6 x0 x1 x2) (e34 J m w34_0 [M1])))) (fun J => by kernel_rfl) (by simp only [jj_eq, ref01_UTF8_j6_eq m M1 rec1 h1]; rfl)
theorem ref01_UTF8_j4_eq m M1 rec1 (h1 : H34_1 m M1 rec1) x0 x1 x2 x3 : e34 jn m w34_2 [M1] (s34_4 x0 x1 x2 x3) = ref01_UTF8_j4 m rec1 x0 x1 x2 x3 :=
  tre (g := fun J => (bif (x2 == 224) then
   ((idxS x0 (IntKind.wrap .i64 (x1 + 1))).bind fun v2 =>
   (bif (decide (v2 < 160)) then
   (jj J 0 16 0 (s34_5 x0 x1 x3 true) (e34 J m w34_1 [M1]))
   else
   (bif (x2 == 237) then
   ((idxS x0 (IntKind.wrap .i64 (x1 + 1))).bind fun v3 =>
   (bif (decide (159 < v3)) then
   (jj J 0 16 0 (s34_5 x0 x1 x3 true) (e34 J m w34_1 [M1]))
   else
   (bif (x2 == 240) then
   ((idxS x0 (IntKind.wrap .i64 (x1 + 1))).bind fun v4 =>
   (bif (decide (v4 < 144)) then
   (jj J 0 16 0 (s34_5 x0 x1 x3 true) (e34 J m w34_1 [M1]))
   else
   (bif (x2 == 244) then
   ((idxS x0 (IntKind.wrap .i64 (x1 + 1))).bind fun v5 =>
   (jj J 0 16 0 (s34_5 x0 x1 x3 (decide (143 < v5))) (e34 J m w34_1 [M1])))
   else
   (jj J 0 16 0 (s34_5 x0 x1 x3 false) (e34 J m w34_1 [M1])))))
   else
   (bif (x2 == 244) then
   ((idxS x0 (IntKind.wrap .i64 (x1 + 1))).bind fun v6 =>
   (jj J 0 16 0 (s34_5 x0 x1 x3 (decide (143 < v6))) (e34 J m w34_1 [M1])))
   else
   (jj J 0 16 0 (s34_5 x0 x1 x3 false) (e34 J m w34_1 [M1]))))))
   else
   (bif (x2 == 240) then
   ((idxS x0 (IntKind.wrap .i64 (x1 + 1))).bind fun v7 =>
   (bif (decide (v7 < 144)) then
   (jj J 0 16 0 (s34_5 x0 x1 x3 true) (e34 J m w34_1 [M1]))
   else
   (bif (x2 == 244) then
   ((idxS x0 (IntKind.wrap .i64 (x1 + 1))).bind fun v8 =>
   (jj J 0 16 0 (s34_5 x0 x1 x3 (decide (143 < v8))) (e34 J m w34_1 [M1])))
   else
   (jj J 0 16 0 (s34_5 x0 x1 x3 false) (e34 J m w34_1 [M1])))))
   else
   (bif (x2 == 244) then
   ((idxS x0 (IntKind.wrap .i64 (x1 + 1))).bind fun v9 =>
   (jj J 0 16 0 (s34_5 x0 x1 x3 (decide (143 < v9))) (e34 J m w34_1 [M1])))
   else
   (jj J 0 16 0 (s34_5 x0 x1 x3 false) (e34 J m w34_1 [M1])))))))
    else
   (bif (x2 == 237) then
   ((idxS x0 (IntKind.wrap .i64 (x1 + 1))).bind fun v10 =>
   (bif (decide (159 < v10)) then
   (jj J 0 16 0 (s34_5 x0 x1 x3 true) (e34 J m w34_1 [M1]))
   else
   (bif (x2 == 240) then
   ((idxS x0 (IntKind.wrap .i64 (x1 + 1))).bind fun v11 =>
   (bif (decide (v11 < 144)) then
   (jj J 0 16 0 (s34_5 x0 x1 x3 true) (e34 J m w34_1 [M1]))
   else
   (bif (x2 == 244) then
   ((idxS x0 (IntKind.wrap .i64 (x1 + 1))).bind fun v12 =>
   (jj J 0 16 0 (s34_5 x0 x1 x3 (decide (143 < v12))) (e34 J m w34_1 [M1])))
   else
   (jj J 0 16 0 (s34_5 x0 x1 x3 false) (e34 J m w34_1 [M1])))))
   else
   (bif (x2 == 244) then
   ((idxS x0 (IntKind.wrap .i64 (x1 + 1))).bind fun v13 =>
   (jj J 0 16 0 (s34_5 x0 x1 x3 (decide (143 < v13))) (e34 J m w34_1 [M1])))
   else
   (jj J 0 16 0 (s34_5 x0 x1 x3 false) (e34 J m w34_1 [M1]))))))
   else
   (bif (x2 == 240) then
   ((idxS x0 (IntKind.wrap .i64 (x1 + 1))).bind fun v14 =>
   (bif (decide (v14 < 144)) then
   (jj J 0 16 0 (s34_5 x0 x1 x3 true) (e34 J m w34_1 [M1]))
   else
   (bif (x2 == 244) then
   ((idxS x0 (IntKind.wrap .i64 (x1 + 1))).bind fun v15 =>
   (jj J 0 16 0 (s34_5 x0 x1 x3 (decide (143 < v15))) (e34 J m w34_1 [M1])))
   else
   (jj J 0 16 0 (s34_5 x0 x1 x3 false) (e34 J m w34_1 [M1])))))
   else
   (bif (x2 == 244) then
   ((idxS x0 (IntKind.wrap .i64 (x1 + 1))).bind fun v16 =>
   (jj J 0 16 0 (s34_5 x0 x1 x3 (decide (143 < v16))) (e34 J m w34_1 [M1])))
   else
   (jj J 0 16 0 (s34_5 x0 x1 x3 false) (e34 J m w34_1 [M1]))))))) (fun J => by kernel_rfl) (by simp only [jj_eq, ref01_UTF8_j5_eq m M1 rec1 h1]; rfl)
theorem ref01_UTF8_j3_eq m M1 rec1 (h1 : H34_1 m M1 rec1) x0 x1 x2 x3 : e34 jn m w34_3 [M1] (s34_4 x0 x1 x2 x3) = ref01_UTF8_j3 m rec1 x0 x1 x2 x3 :=
  tre (g := fun J => ((ref01_tail m x0 (IntKind.wrap .i64 (x1 + 1)) x3).bind fun r1 =>
   (bif (Bool.not r1) then
   some false
   else
   (jj J 0 15 0 (s34_4 x0 x1 x2 x3) (e34 J m w34_2 [M1]))))) (fun J => by kernel_rfl) (by simp only [jj_eq, ref01_UTF8_j4_eq m M1 rec1 h1]; rfl)
theorem ref01_UTF8_j9_eq m M1 rec1 (h1 : H34_1 m M1 rec1) x0 x1 x2 x3 : e34 jn m w34_4 [M1] (s34_9 x0 x1 x2 x3) = ref01_UTF8_j9 m rec1 x0 x1 x2 x3 :=
  tre (g := fun J => (bif x3 then
   (jj J 0 13 0 (s34_4 x0 x1 x2 3) (e34 J m w34_3 [M1]))
    else
   some false)) (fun J => by kernel_rfl) (by simp only [jj_eq, ref01_UTF8_j3_eq m M1 rec1 h1]; rfl)
theorem ref01_UTF8_j8_eq m M1 rec1 (h1 : H34_1 m M1 rec1) x0 x1 x2 x3 : e34 jn m w34_5 [M1] (s34_8 x0 x1 x2 x3) = ref01_UTF8_j8 m rec1 x0 x1 x2 x3 :=
  tre (g := fun J => (bif x3 then
   (jj J 0 13 0 (s34_4 x0 x1 x2 2) (e34 J m w34_3 [M1]))
    else
   (bif (decide (240 ≤ x2)) then
   (jj J 0 12 0 (s34_9 x0 x1 x2 (decide (x2 ≤ 244))) (e34 J m w34_4 [M1]))
   else
   (jj J 0 12 0 (s34_9 x0 x1 x2 false) (e34 J m w34_4 [M1]))))) (fun J => by kernel_rfl) (by simp only [jj_eq, ref01_UTF8_j3_eq m M1 rec1 h1, ref01_UTF8_j9_eq m M1 rec1 h1]; rfl)
theorem ref01_UTF8_j7_eq m M1 rec1 (h1 : H34_1 m M1 rec1) x0 x1 x2 x3 : e34 jn m w34_6 [M1] (s34_7 x0 x1 x2 x3) = ref01_UTF8_j7 m rec1 x0 x1 x2 x3 :=
  tre (g := fun J => (bif x3 then
   (jj J 0 13 0 (s34_4 x0 x1 x2 1) (e34 J m w34_3 [M1]))
    else
   (bif (decide (224 ≤ x2)) then
   (jj J 0 10 0 (s34_8 x0 x1 x2 (decide (x2 ≤ 239))) (e34 J m w34_5 [M1]))
   else
   (jj J 0 10 0 (s34_8 x0 x1 x2 false) (e34 J m w34_5 [M1]))))) (fun J => by kernel_rfl) (by simp only [jj_eq, ref01_UTF8_j3_eq m M1 rec1 h1, ref01_UTF8_j8_eq m M1 rec1 h1]; rfl)
theorem ref01_UTF8_j2_eq m M1 rec1 (h1 : H34_1 m M1 rec1) x0 x1 : e34 jn m w34_7 [M1] (s34_2 x0 x1) = ref01_UTF8_j2 m rec1 x0 x1 :=
  tre (g := fun J => ((idxS x0 x1).bind fun v0 =>
   (bif (decide (v0 < 128)) then
   (jj J 0 13 0 (s34_4 x0 x1 v0 0) (e34 J m w34_3 [M1]))
   else
   (bif (decide (194 ≤ v0)) then
   (jj J 0 8 0 (s34_7 x0 x1 v0 (decide (v0 ≤ 223))) (e34 J m w34_6 [M1]))
   else
   (jj J 0 8 0 (s34_7 x0 x1 v0 false) (e34 J m w34_6 [M1])))))) (fun J => by kernel_rfl) (by simp only [jj_eq, ref01_UTF8_j3_eq m M1 rec1 h1, ref01_UTF8_j7_eq m M1 rec1 h1]; rfl)
theorem ref01_UTF8_j10_eq m : e34 jn m [1, 1] [] s34_10 = ref01_UTF8_j10 m :=
  tre (g := fun J => some true) (fun J => by kernel_rfl) (by rfl)
theorem ref01_UTF8_l1_eq m : ∀ M1 x0 x1, l34 jn m [1, 0, 1, 0] [] M1 (s34_2 x0 x1) = ref01_UTF8_l1 m M1 x0 x1
  | 0, _, _ => rfl
  | M1 + 1, x0, x1 =>
    trl (g := fun J => (bif (decide (x1 < (ByteArray.size x0 : Int))) then
   (jj J 0 3 0 (s34_2 x0 x1) (e34 J m w34_7 [M1]))
    else
   (jj J 0 18 0 s34_10 (e34 J m [1, 1] [])))) (fun J => by kernel_rfl) (by simp only [jj_eq, ref01_UTF8_j2_eq m M1 (ref01_UTF8_l1 m M1) (ref01_UTF8_l1_eq m M1), ref01_UTF8_j10_eq m]; rfl)
theorem ref01_UTF8_j0_eq m x0 x1 : e34 jn m [1, 0, 1] [] (s34_2 x0 x1) = ref01_UTF8_j0 m x0 x1 :=
  tre (g := fun J => (jj J 1 2 (Nat.succ m) (s34_2 x0 x1) (l34 J m [1, 0, 1, 0] [] (Nat.succ m)))) (fun J => by kernel_rfl) (by simp only [jj_eq, ref01_UTF8_l1_eq m]; rfl)
theorem ref01_UTF8_eq m a0 : e34 jn m [] [] ⟨[(.dat 9 (.str a0))], [], 0⟩ = ref01_UTF8 (m + 1) a0 :=
  tre (g := fun J => (jj J 0 2 0 (s34_2 a0 0) (e34 J m [1, 0, 1] []))) (fun J => by kernel_rfl) (by simp only [jj_eq, ref01_UTF8_j0_eq m]; rfl)
def w38_0 : List Nat := [1, 1, 0, 1, 0]
def w38_3 : List Nat := [1, 1, 0, 1, 0, 0, 1]
def w38_1 : List Nat := w38_3 ++ [1]
def w38_2 : List Nat := w38_3 ++ [0, 0, 1]
noncomputable def e38 (J : Nat → Nat → Nat → St → Option Bool → Option Bool) (m : Nat) (p ms : List Nat) (σ : St) := evAt Tryd.prog env (ct m) J (m + 1) 57 39 Tryd.f57 d22 p ms σ
noncomputable def l38 (J : Nat → Nat → Nat → St → Option Bool → Option Bool) (m : Nat) (p ms : List Nat) (M : Nat) (σ : St) := loopAt Tryd.prog env (ct m) J (m + 1) 57 39 Tryd.f57 d22 p ms M σ
noncomputable def s38_6 (x0 : ByteArray) (x1 : Int) : St := ⟨tsOf [(0, (.dat 9 (.str x0))), (3, (.dat 3 (.int x1)))], [], 0⟩
noncomputable def s38_5 (x0 : ByteArray) (x1 : Int) (x2 : Bool) : St := ⟨tsOf [(0, (.dat 9 (.str x0))), (3, (.dat 3 (.int x1))), (38, (.dat 4 (.bool x2)))], [], 0⟩
noncomputable def s38_7 : St := ⟨tsOf [], [], 0⟩
noncomputable def s38_1 (x0 : ByteArray) : St := ⟨tsOf [(0, (.dat 9 (.str x0)))], [], 0⟩
noncomputable def s38_0 (x0 : ByteArray) (x1 : Bool) : St := ⟨tsOf [(0, (.dat 9 (.str x0))), (16, (.dat 4 (.bool x1)))], [], 0⟩
abbrev H38_3 (m M3 : Nat) (rec3 : ByteArray → Int → Option Bool) : Prop := ∀ x0 x1, l38 jn m w38_0 [] M3 (s38_6 x0 x1) = rec3 x0 x1
theorem ref01_Name_j6_eq m M3 rec3 (h3 : H38_3 m M3 rec3) x0 x1 : e38 jn m w38_1 [M3] (s38_6 x0 x1) = ref01_Name_j6 m rec3 x0 x1 :=
  tre (g := fun J => (jj J 1 4 M3 (s38_6 x0 (IntKind.wrap .i64 (x1 + 1))) (l38 J m w38_0 [] M3))) (fun J => by kernel_rfl) (by simp only [jj_eq, h3]; rfl)
theorem ref01_Name_j5_eq m M3 rec3 (h3 : H38_3 m M3 rec3) x0 x1 x2 : e38 jn m w38_2 [M3] (s38_5 x0 x1 x2) = ref01_Name_j5 m rec3 x0 x1 x2 :=
  tre (g := fun J => (bif x2 then
   some false
    else
   (jj J 0 5 0 (s38_6 x0 x1) (e38 J m w38_1 [M3])))) (fun J => by kernel_rfl) (by simp only [jj_eq, ref01_Name_j6_eq m M3 rec3 h3]; rfl)
theorem ref01_Name_j4_eq m M3 rec3 (h3 : H38_3 m M3 rec3) x0 x1 : e38 jn m w38_3 [M3] (s38_6 x0 x1) = ref01_Name_j4 m rec3 x0 x1 :=
  tre (g := fun J => ((idxS x0 x1).bind fun v0 =>
   (bif (decide (v0 < 33)) then
   (jj J 0 7 0 (s38_5 x0 x1 true) (e38 J m w38_2 [M3]))
   else
   ((idxS x0 x1).bind fun v1 =>
   (bif (decide (126 < v1)) then
   (jj J 0 7 0 (s38_5 x0 x1 true) (e38 J m w38_2 [M3]))
   else
   ((idxS x0 x1).bind fun v2 =>
   (jj J 0 7 0 (s38_5 x0 x1 (v2 == 46)) (e38 J m w38_2 [M3])))))))) (fun J => by kernel_rfl) (by simp only [jj_eq, ref01_Name_j5_eq m M3 rec3 h3]; rfl)
theorem ref01_Name_j7_eq m : e38 jn m [1, 1, 1] [] s38_7 = ref01_Name_j7 m :=
  tre (g := fun J => some true) (fun J => by kernel_rfl) (by rfl)
theorem ref01_Name_l3_eq m : ∀ M3 x0 x1, l38 jn m w38_0 [] M3 (s38_6 x0 x1) = ref01_Name_l3 m M3 x0 x1
  | 0, _, _ => rfl
  | M3 + 1, x0, x1 =>
    trl (g := fun J => (bif (decide (x1 < (ByteArray.size x0 : Int))) then
   (jj J 0 6 0 (s38_6 x0 x1) (e38 J m w38_3 [M3]))
    else
   (jj J 0 8 0 s38_7 (e38 J m [1, 1, 1] [])))) (fun J => by kernel_rfl) (by simp only [jj_eq, ref01_Name_j4_eq m M3 (ref01_Name_l3 m M3) (ref01_Name_l3_eq m M3), ref01_Name_j7_eq m]; rfl)
theorem ref01_Name_j2_eq m x0 x1 : e38 jn m [1, 1, 0, 1] [] (s38_6 x0 x1) = ref01_Name_j2 m x0 x1 :=
  tre (g := fun J => (jj J 1 4 (Nat.succ m) (s38_6 x0 x1) (l38 J m w38_0 [] (Nat.succ m)))) (fun J => by kernel_rfl) (by simp only [jj_eq, ref01_Name_l3_eq m]; rfl)
theorem ref01_Name_j1_eq m x0 : e38 jn m [1, 1] [] (s38_1 x0) = ref01_Name_j1 m x0 :=
  tre (g := fun J => (jj J 0 4 0 (s38_6 x0 0) (e38 J m [1, 1, 0, 1] []))) (fun J => by kernel_rfl) (by simp only [jj_eq, ref01_Name_j2_eq m]; rfl)
theorem ref01_Name_j0_eq m x0 x1 : e38 jn m [1, 0, 1] [] (s38_0 x0 x1) = ref01_Name_j0 m x0 x1 :=
  tre (g := fun J => (bif x1 then
   some false
    else
   (jj J 0 3 0 (s38_1 x0) (e38 J m [1, 1] [])))) (fun J => by kernel_rfl) (by simp only [jj_eq, ref01_Name_j1_eq m]; rfl)
theorem ref01_Name_eq m a0 : e38 jn m [] [] ⟨[(.dat 9 (.str a0))], [], 0⟩ = ref01_Name (m + 1) a0 :=
  tre (g := fun J => (bif (decide ((ByteArray.size a0 : Int) < 1)) then
   (jj J 0 2 0 (s38_0 a0 true) (e38 J m [1, 0, 1] []))
    else
   (bif (decide (32 < (ByteArray.size a0 : Int))) then
   (jj J 0 2 0 (s38_0 a0 true) (e38 J m [1, 0, 1] []))
   else
   ((idxS a0 0).bind fun v3 =>
   (jj J 0 2 0 (s38_0 a0 (v3 == 36)) (e38 J m [1, 0, 1] [])))))) (fun J => by kernel_rfl) (by simp only [jj_eq, ref01_Name_j0_eq m]; rfl)
def w39_0 : List Nat := [1, 1, 0, 1, 0]
def w39_3 : List Nat := [1, 1, 0, 1, 0, 0, 1]
def w39_1 : List Nat := w39_3 ++ [1]
def w39_2 : List Nat := w39_3 ++ [0, 0, 1]
noncomputable def e39 (J : Nat → Nat → Nat → St → Option Bool → Option Bool) (m : Nat) (p ms : List Nat) (σ : St) := evAt Tryd.prog env (ct m) J (m + 1) 58 28 Tryd.f58 d22 p ms σ
noncomputable def l39 (J : Nat → Nat → Nat → St → Option Bool → Option Bool) (m : Nat) (p ms : List Nat) (M : Nat) (σ : St) := loopAt Tryd.prog env (ct m) J (m + 1) 58 28 Tryd.f58 d22 p ms M σ
noncomputable def s39_6 (x0 : ByteArray) (x1 : Int) : St := ⟨tsOf [(0, (.dat 9 (.str x0))), (3, (.dat 3 (.int x1)))], [], 0⟩
noncomputable def s39_5 (x0 : ByteArray) (x1 : Int) (x2 : Bool) : St := ⟨tsOf [(0, (.dat 9 (.str x0))), (3, (.dat 3 (.int x1))), (27, (.dat 4 (.bool x2)))], [], 0⟩
noncomputable def s39_7 : St := ⟨tsOf [], [], 0⟩
noncomputable def s39_1 (x0 : ByteArray) : St := ⟨tsOf [(0, (.dat 9 (.str x0)))], [], 0⟩
noncomputable def s39_0 (x0 : ByteArray) (x1 : Bool) : St := ⟨tsOf [(0, (.dat 9 (.str x0))), (11, (.dat 4 (.bool x1)))], [], 0⟩
abbrev H39_3 (m M3 : Nat) (rec3 : ByteArray → Int → Option Bool) : Prop := ∀ x0 x1, l39 jn m w39_0 [] M3 (s39_6 x0 x1) = rec3 x0 x1
theorem ref01_wide_j6_eq m M3 rec3 (h3 : H39_3 m M3 rec3) x0 x1 : e39 jn m w39_1 [M3] (s39_6 x0 x1) = ref01_wide_j6 m rec3 x0 x1 :=
  tre (g := fun J => (jj J 1 4 M3 (s39_6 x0 (IntKind.wrap .i64 (x1 + 1))) (l39 J m w39_0 [] M3))) (fun J => by kernel_rfl) (by simp only [jj_eq, h3]; rfl)
theorem ref01_wide_j5_eq m M3 rec3 (h3 : H39_3 m M3 rec3) x0 x1 x2 : e39 jn m w39_2 [M3] (s39_5 x0 x1 x2) = ref01_wide_j5 m rec3 x0 x1 x2 :=
  tre (g := fun J => (bif x2 then
   some false
    else
   (jj J 0 5 0 (s39_6 x0 x1) (e39 J m w39_1 [M3])))) (fun J => by kernel_rfl) (by simp only [jj_eq, ref01_wide_j6_eq m M3 rec3 h3]; rfl)
theorem ref01_wide_j4_eq m M3 rec3 (h3 : H39_3 m M3 rec3) x0 x1 : e39 jn m w39_3 [M3] (s39_6 x0 x1) = ref01_wide_j4 m rec3 x0 x1 :=
  tre (g := fun J => ((idxS x0 x1).bind fun v0 =>
   (bif (decide (v0 < 32)) then
   (jj J 0 7 0 (s39_5 x0 x1 true) (e39 J m w39_2 [M3]))
   else
   ((idxS x0 x1).bind fun v1 =>
   (jj J 0 7 0 (s39_5 x0 x1 (decide (126 < v1))) (e39 J m w39_2 [M3])))))) (fun J => by kernel_rfl) (by simp only [jj_eq, ref01_wide_j5_eq m M3 rec3 h3]; rfl)
theorem ref01_wide_j7_eq m : e39 jn m [1, 1, 1] [] s39_7 = ref01_wide_j7 m :=
  tre (g := fun J => some true) (fun J => by kernel_rfl) (by rfl)
theorem ref01_wide_l3_eq m : ∀ M3 x0 x1, l39 jn m w39_0 [] M3 (s39_6 x0 x1) = ref01_wide_l3 m M3 x0 x1
  | 0, _, _ => rfl
  | M3 + 1, x0, x1 =>
    trl (g := fun J => (bif (decide (x1 < (ByteArray.size x0 : Int))) then
   (jj J 0 6 0 (s39_6 x0 x1) (e39 J m w39_3 [M3]))
    else
   (jj J 0 8 0 s39_7 (e39 J m [1, 1, 1] [])))) (fun J => by kernel_rfl) (by simp only [jj_eq, ref01_wide_j4_eq m M3 (ref01_wide_l3 m M3) (ref01_wide_l3_eq m M3), ref01_wide_j7_eq m]; rfl)
theorem ref01_wide_j2_eq m x0 x1 : e39 jn m [1, 1, 0, 1] [] (s39_6 x0 x1) = ref01_wide_j2 m x0 x1 :=
  tre (g := fun J => (jj J 1 4 (Nat.succ m) (s39_6 x0 x1) (l39 J m w39_0 [] (Nat.succ m)))) (fun J => by kernel_rfl) (by simp only [jj_eq, ref01_wide_l3_eq m]; rfl)
theorem ref01_wide_j1_eq m x0 : e39 jn m [1, 1] [] (s39_1 x0) = ref01_wide_j1 m x0 :=
  tre (g := fun J => (jj J 0 4 0 (s39_6 x0 0) (e39 J m [1, 1, 0, 1] []))) (fun J => by kernel_rfl) (by simp only [jj_eq, ref01_wide_j2_eq m]; rfl)
theorem ref01_wide_j0_eq m x0 x1 : e39 jn m [1, 0, 1] [] (s39_0 x0 x1) = ref01_wide_j0 m x0 x1 :=
  tre (g := fun J => (bif x1 then
   some false
    else
   (jj J 0 3 0 (s39_1 x0) (e39 J m [1, 1] [])))) (fun J => by kernel_rfl) (by simp only [jj_eq, ref01_wide_j1_eq m]; rfl)
theorem ref01_wide_eq m a0 : e39 jn m [] [] ⟨[(.dat 9 (.str a0))], [], 0⟩ = ref01_wide (m + 1) a0 :=
  tre (g := fun J => (bif (decide ((ByteArray.size a0 : Int) < 1)) then
   (jj J 0 2 0 (s39_0 a0 true) (e39 J m [1, 0, 1] []))
    else
   (jj J 0 2 0 (s39_0 a0 (decide (128 < (ByteArray.size a0 : Int)))) (e39 J m [1, 0, 1] [])))) (fun J => by kernel_rfl) (by simp only [jj_eq, ref01_wide_j0_eq m]; rfl)
def w31_6 : List Nat := [1, 1, 1, 1, 1]
def w31_5 : List Nat := [1, 1, 1, 1, 1, 1]
def w31_7 : List Nat := [1, 1, 1, 1, 0, 1]
def w31_3 : List Nat := w31_5 ++ [1]
def w31_4 : List Nat := w31_5 ++ [0, 1]
def w31_0 : List Nat := w31_4 ++ [0]
def w31_2 : List Nat := w31_0 ++ [0, 1]
def w31_1 : List Nat := w31_2 ++ [1]
noncomputable def e31 (J : Nat → Nat → Nat → St → Option Bool → Option Bool) (m : Nat) (p ms : List Nat) (σ : St) := evAt Tryd.prog env (ct m) J (m + 1) 22 138 Tryd.f22 d22 p ms σ
noncomputable def l31 (J : Nat → Nat → Nat → St → Option Bool → Option Bool) (m : Nat) (p ms : List Nat) (M : Nat) (σ : St) := loopAt Tryd.prog env (ct m) J (m + 1) 22 138 Tryd.f22 d22 p ms M σ
noncomputable def s31_10 (x0 : Bool) (x1 : Int) (x2 : Dt) : St := ⟨tsOf [(1, (.dat 4 (.bool x0))), (2, (.ptr 0 [] 0)), (7, (.dat 3 (.int x1)))], [(.box 27 (.dat 27 x2))], 0⟩
noncomputable def s31_11 (x0 : Bool) (x1 : Dt) : St := ⟨tsOf [(1, (.dat 4 (.bool x0))), (2, (.ptr 0 [] 0))], [(.box 27 (.dat 27 x1))], 0⟩
noncomputable def s31_4 (x0 x1 : Bool) (x2 : Dt) : St := ⟨tsOf [(1, (.dat 4 (.bool x0))), (2, (.ptr 0 [] 0)), (79, (.dat 4 (.bool x1)))], [(.box 27 (.dat 27 x2))], 0⟩
noncomputable def s31_3 (x0 x1 x2 : Bool) (x3 : Dt) : St := ⟨tsOf [(1, (.dat 4 (.bool x0))), (2, (.ptr 0 [] 0)), (5, (.dat 4 (.bool x1))), (6, (.dat 4 (.bool x2)))], [(.box 27 (.dat 27 x3))], 0⟩
noncomputable def s31_2 (x0 x1 : Bool) (x2 : Dt) : St := ⟨tsOf [(1, (.dat 4 (.bool x0))), (2, (.ptr 0 [] 0)), (5, (.dat 4 (.bool x1)))], [(.box 27 (.dat 27 x2))], 0⟩
noncomputable def s31_0 (x0 x1 : Bool) (x2 : Dt) : St := ⟨tsOf [(1, (.dat 4 (.bool x0))), (2, (.ptr 0 [] 0)), (27, (.dat 4 (.bool x1)))], [(.box 27 (.dat 27 x2))], 0⟩
abbrev H31_8 (m M8 : Nat) (rec8 : Bool → Int → Dt → Option Bool) : Prop := ∀ x0 x1 x2, l31 jn m w31_0 [] M8 (s31_10 x0 x1 x2) = rec8 x0 x1 x2
theorem ref01_formed_j10_eq m M8 rec8 (h8 : H31_8 m M8 rec8) x0 x1 x2 : e31 jn m w31_1 [M8] (s31_10 x0 x1 x2) = ref01_formed_j10 m (ref01_formed m) (ref01_fields m) rec8 x0 x1 x2 :=
  tre (g := fun J => (jj J 1 19 M8 (s31_10 x0 (IntKind.wrap .i64 (x1 + 1)) x2) (l31 J m w31_0 [] M8))) (fun J => by kernel_rfl) (by simp only [jj_eq, h8]; rfl)
theorem ref01_formed_j9_eq m M8 rec8 (h8 : H31_8 m M8 rec8) x0 x1 x2 : e31 jn m w31_2 [M8] (s31_10 x0 x1 x2) = ref01_formed_j9 m (ref01_formed m) (ref01_fields m) rec8 x0 x1 x2 :=
  tre (g := fun J => ((idx (Dt.L x2 3) x1).bind fun v1 =>
   ((ref01_formed m v1 x0).bind fun r2 =>
   (bif (Bool.not r2) then
   some false
   else
   (jj J 0 20 0 (s31_10 x0 x1 x2) (e31 J m w31_1 [M8])))))) (fun J => by kernel_rfl) (by simp only [jj_eq, ref01_formed_j10_eq m M8 rec8 h8]; rfl)
theorem ref01_formed_j11_eq m x0 x1 : e31 jn m w31_3 [] (s31_11 x0 x1) = ref01_formed_j11 m (ref01_formed m) (ref01_fields m) x0 x1 :=
  tre (g := fun J => ((ref01_fields m x1 x0).bind fun r3 =>
   some r3)) (fun J => by kernel_rfl) (by rfl)
theorem ref01_formed_l8_eq m : ∀ M8 x0 x1 x2, l31 jn m w31_0 [] M8 (s31_10 x0 x1 x2) = ref01_formed_l8 m (ref01_formed m) (ref01_fields m) M8 x0 x1 x2
  | 0, _, _, _ => rfl
  | M8 + 1, x0, x1, x2 =>
    trl (g := fun J => (bif (decide (x1 < (List.length (Dt.L x2 3) : Int))) then
   (jj J 0 21 0 (s31_10 x0 x1 x2) (e31 J m w31_2 [M8]))
    else
   (jj J 0 23 0 (s31_11 x0 x2) (e31 J m w31_3 [])))) (fun J => by kernel_rfl) (by simp only [jj_eq, ref01_formed_j9_eq m M8 (ref01_formed_l8 m (ref01_formed m) (ref01_fields m) M8) (ref01_formed_l8_eq m M8), ref01_formed_j11_eq m]; rfl)
theorem ref01_formed_j7_eq m x0 x1 x2 : e31 jn m w31_4 [] (s31_10 x0 x1 x2) = ref01_formed_j7 m (ref01_formed m) (ref01_fields m) x0 x1 x2 :=
  tre (g := fun J => (jj J 1 19 (Nat.succ m) (s31_10 x0 x1 x2) (l31 J m w31_0 [] (Nat.succ m)))) (fun J => by kernel_rfl) (by simp only [jj_eq, ref01_formed_l8_eq m]; rfl)
theorem ref01_formed_j6_eq m x0 x1 : e31 jn m w31_5 [] (s31_11 x0 x1) = ref01_formed_j6 m (ref01_formed m) (ref01_fields m) x0 x1 :=
  tre (g := fun J => (jj J 0 19 0 (s31_10 x0 0 x1) (e31 J m w31_4 []))) (fun J => by kernel_rfl) (by simp only [jj_eq, ref01_formed_j7_eq m]; rfl)
theorem ref01_formed_j5_eq m x0 x1 : e31 jn m w31_6 [] (s31_11 x0 x1) = ref01_formed_j5 m (ref01_formed m) (ref01_fields m) x0 x1 :=
  tre (g := fun J => (bif ((Dt.I x1 0) == 9) then
   (bif ((Dt.I x1 1) == 0) then
   some true
   else
   some ((Dt.I x1 1) == 1))
    else
   (bif ((Dt.I x1 0) == 10) then
   some (decide (0 ≤ (Dt.I x1 1)))
   else
   (bif ((Dt.I x1 0) == 4) then
   (bif (decide ((ByteArray.size (Dt.S x1 2) : Int) ≤ 4096)) then
   ((ref01_UTF8 m (Dt.S x1 2)).bind fun r0 =>
   some r0)
   else
   some false)
   else
   (bif ((Dt.I x1 0) == 7) then
   some (decide ((ByteArray.size (Dt.S x1 2) : Int) ≤ 4096))
   else
   (bif ((Dt.I x1 0) == 8) then
   some ((ByteArray.size (Dt.S x1 2) : Int) == 12)
   else
   (jj J 0 18 0 (s31_11 x0 x1) (e31 J m w31_5 [])))))))) (fun J => by kernel_rfl) (by simp only [jj_eq, ref01_formed_j6_eq m]; rfl)
theorem ref01_formed_j4_eq m x0 x1 x2 : e31 jn m w31_7 [] (s31_4 x0 x1 x2) = ref01_formed_j4 m (ref01_formed m) (ref01_fields m) x0 x1 x2 :=
  tre (g := fun J => (bif x1 then
   some false
    else
   (jj J 0 7 0 (s31_11 x0 x2) (e31 J m w31_6 [])))) (fun J => by kernel_rfl) (by simp only [jj_eq, ref01_formed_j5_eq m]; rfl)
theorem ref01_formed_j3_eq m x0 x1 x2 x3 : e31 jn m [1, 1, 1, 1] [] (s31_3 x0 x1 x2 x3) = ref01_formed_j3 m (ref01_formed m) (ref01_fields m) x0 x1 x2 x3 :=
  tre (g := fun J => (bif (Bool.not x1) then
   (bif (Bool.not ((ByteArray.toList (Dt.S x3 2)) == [])) then
   (jj J 0 6 0 (s31_4 x0 true x3) (e31 J m w31_7 []))
   else
   (bif (Bool.not x2) then
   (bif ((Dt.I x3 1) != 0) then
   (jj J 0 6 0 (s31_4 x0 true x3) (e31 J m w31_7 []))
   else
   (bif (decide ((Dt.I x3 0) < 1)) then
   (jj J 0 6 0 (s31_4 x0 true x3) (e31 J m w31_7 []))
   else
   (jj J 0 6 0 (s31_4 x0 (decide (11 < (Dt.I x3 0))) x3) (e31 J m w31_7 []))))
   else
   (bif (decide ((Dt.I x3 0) < 1)) then
   (jj J 0 6 0 (s31_4 x0 true x3) (e31 J m w31_7 []))
   else
   (jj J 0 6 0 (s31_4 x0 (decide (11 < (Dt.I x3 0))) x3) (e31 J m w31_7 [])))))
    else
   (bif (Bool.not x2) then
   (bif ((Dt.I x3 1) != 0) then
   (jj J 0 6 0 (s31_4 x0 true x3) (e31 J m w31_7 []))
   else
   (bif (decide ((Dt.I x3 0) < 1)) then
   (jj J 0 6 0 (s31_4 x0 true x3) (e31 J m w31_7 []))
   else
   (jj J 0 6 0 (s31_4 x0 (decide (11 < (Dt.I x3 0))) x3) (e31 J m w31_7 []))))
   else
   (bif (decide ((Dt.I x3 0) < 1)) then
   (jj J 0 6 0 (s31_4 x0 true x3) (e31 J m w31_7 []))
   else
   (jj J 0 6 0 (s31_4 x0 (decide (11 < (Dt.I x3 0))) x3) (e31 J m w31_7 [])))))) (fun J => by kernel_rfl) (by simp only [jj_eq, ref01_formed_j4_eq m]; rfl)
theorem ref01_formed_j2_eq m x0 x1 x2 : e31 jn m [1, 1, 1] [] (s31_2 x0 x1 x2) = ref01_formed_j2 m (ref01_formed m) (ref01_fields m) x0 x1 x2 :=
  tre (g := fun J => (bif ((Dt.I x2 0) == 3) then
   (jj J 0 5 0 (s31_3 x0 x1 true x2) (e31 J m [1, 1, 1, 1] []))
    else
   (bif ((Dt.I x2 0) == 9) then
   (jj J 0 5 0 (s31_3 x0 x1 true x2) (e31 J m [1, 1, 1, 1] []))
   else
   (jj J 0 5 0 (s31_3 x0 x1 ((Dt.I x2 0) == 10) x2) (e31 J m [1, 1, 1, 1] []))))) (fun J => by kernel_rfl) (by simp only [jj_eq, ref01_formed_j3_eq m]; rfl)
theorem ref01_formed_j1_eq m x0 x1 : e31 jn m [1, 1] [] (s31_11 x0 x1) = ref01_formed_j1 m (ref01_formed m) (ref01_fields m) x0 x1 :=
  tre (g := fun J => (bif ((Dt.I x1 0) == 4) then
   (jj J 0 4 0 (s31_2 x0 true x1) (e31 J m [1, 1, 1] []))
    else
   (bif ((Dt.I x1 0) == 7) then
   (jj J 0 4 0 (s31_2 x0 true x1) (e31 J m [1, 1, 1] []))
   else
   (jj J 0 4 0 (s31_2 x0 ((Dt.I x1 0) == 8) x1) (e31 J m [1, 1, 1] []))))) (fun J => by kernel_rfl) (by simp only [jj_eq, ref01_formed_j2_eq m]; rfl)
theorem ref01_formed_j0_eq m x0 x1 x2 : e31 jn m [1, 0, 1] [] (s31_0 x0 x1 x2) = ref01_formed_j0 m (ref01_formed m) (ref01_fields m) x0 x1 x2 :=
  tre (g := fun J => (bif x1 then
   some false
    else
   (jj J 0 3 0 (s31_11 x0 x2) (e31 J m [1, 1] [])))) (fun J => by kernel_rfl) (by simp only [jj_eq, ref01_formed_j1_eq m]; rfl)
theorem ref01_formed_eq m a0 a1 : e31 jn m [] [] ⟨[(.dat 27 a0), (.dat 4 (.bool a1))], [], 0⟩ = ref01_formed (m + 1) a0 a1 :=
  tre (g := fun J => (bif ((Dt.I a0 0) != 6) then
   (bif (decide (0 < (List.length (Dt.L a0 3) : Int))) then
   (jj J 0 2 0 (s31_0 a1 true a0) (e31 J m [1, 0, 1] []))
   else
   (bif ((Dt.I a0 0) != 5) then
   (jj J 0 2 0 (s31_0 a1 (decide (0 < (List.length (Dt.L a0 4) : Int))) a0) (e31 J m [1, 0, 1] []))
   else
   (jj J 0 2 0 (s31_0 a1 false a0) (e31 J m [1, 0, 1] []))))
    else
   (bif ((Dt.I a0 0) != 5) then
   (jj J 0 2 0 (s31_0 a1 (decide (0 < (List.length (Dt.L a0 4) : Int))) a0) (e31 J m [1, 0, 1] []))
   else
   (jj J 0 2 0 (s31_0 a1 false a0) (e31 J m [1, 0, 1] []))))) (fun J => by kernel_rfl) (by simp only [jj_eq, ref01_formed_j0_eq m]; rfl)
def w35_7 : List Nat := [1, 0, 1, 0, 0, 1]
def w35_3 : List Nat := w35_7 ++ [1]
def w35_5 : List Nat := w35_7 ++ [0, 0, 1, 1]
def w35_4 : List Nat := w35_5 ++ [1]
def w35_6 : List Nat := w35_7 ++ [0, 0, 1, 0, 1]
def w35_0 : List Nat := w35_4 ++ [0]
def w35_2 : List Nat := w35_0 ++ [0, 1]
def w35_1 : List Nat := w35_2 ++ [1]
noncomputable def e35 (J : Nat → Nat → Nat → St → Option Bool → Option Bool) (m : Nat) (p ms : List Nat) (σ : St) := evAt Tryd.prog env (ct m) J (m + 1) 38 58 Tryd.f38 d22 p ms σ
noncomputable def l35 (J : Nat → Nat → Nat → St → Option Bool → Option Bool) (m : Nat) (p ms : List Nat) (M : Nat) (σ : St) := loopAt Tryd.prog env (ct m) J (m + 1) 38 58 Tryd.f38 d22 p ms M σ
noncomputable def s35_8 (x0 : Bool) (x1 x2 : Int) (x3 x4 : Dt) : St := ⟨tsOf [(1, (.dat 4 (.bool x0))), (2, (.ptr 0 [] 0)), (5, (.dat 3 (.int x1))), (6, (.ptr 1 [] 0)), (7, (.dat 3 (.int x2)))], [(.box 27 (.dat 27 x3)), (.box 41 (.dat 41 x4))], 0⟩
noncomputable def s35_9 (x0 : Bool) (x1 : Int) (x2 : Dt) : St := ⟨tsOf [(1, (.dat 4 (.bool x0))), (2, (.ptr 0 [] 0)), (5, (.dat 3 (.int x1)))], [(.box 27 (.dat 27 x2))], 0⟩
noncomputable def s35_4 (x0 : Bool) (x1 : Int) (x2 x3 : Dt) : St := ⟨tsOf [(1, (.dat 4 (.bool x0))), (2, (.ptr 0 [] 0)), (5, (.dat 3 (.int x1))), (6, (.ptr 1 [] 0))], [(.box 27 (.dat 27 x2)), (.box 41 (.dat 41 x3))], 0⟩
noncomputable def s35_3 (x0 : Bool) (x1 : Int) (x2 : Bool) (x3 x4 : Dt) : St := ⟨tsOf [(1, (.dat 4 (.bool x0))), (2, (.ptr 0 [] 0)), (5, (.dat 3 (.int x1))), (6, (.ptr 1 [] 0)), (43, (.dat 4 (.bool x2)))], [(.box 27 (.dat 27 x3)), (.box 41 (.dat 41 x4))], 0⟩
noncomputable def s35_10 : St := ⟨tsOf [], [], 0⟩
abbrev H35_1 (m M1 : Nat) (rec1 : Bool → Int → Dt → Option Bool) : Prop := ∀ x0 x1 x2, l35 jn m [1, 0, 1, 0] [] M1 (s35_9 x0 x1 x2) = rec1 x0 x1 x2
abbrev H35_6 (m M1 M6 : Nat) (rec6 : Bool → Int → Int → Dt → Dt → Option Bool) : Prop := ∀ x0 x1 x2 x3 x4, l35 jn m w35_0 [M1] M6 (s35_8 x0 x1 x2 x3 x4) = rec6 x0 x1 x2 x3 x4
theorem ref01_fields_j8_eq m M1 rec1 (h1 : H35_1 m M1 rec1) M6 rec6 (h6 : H35_6 m M1 M6 rec6) x0 x1 x2 x3 x4 : e35 jn m w35_1 [M1, M6] (s35_8 x0 x1 x2 x3 x4) = ref01_fields_j8 m (ref01_formed m) rec1 rec6 x0 x1 x2 x3 x4 :=
  tre (g := fun J => (jj J 1 8 M6 (s35_8 x0 x1 (IntKind.wrap .i64 (x2 + 1)) x3 x4) (l35 J m w35_0 [M1] M6))) (fun J => by kernel_rfl) (by simp only [jj_eq, h6]; rfl)
theorem ref01_fields_j7_eq m M1 rec1 (h1 : H35_1 m M1 rec1) M6 rec6 (h6 : H35_6 m M1 M6 rec6) x0 x1 x2 x3 x4 : e35 jn m w35_2 [M1, M6] (s35_8 x0 x1 x2 x3 x4) = ref01_fields_j7 m (ref01_formed m) rec1 rec6 x0 x1 x2 x3 x4 :=
  tre (g := fun J => ((idx (Dt.L x3 4) x2).bind fun v2 =>
   (bif ((ByteArray.toList (Dt.S v2 0)) == (ByteArray.toList (Dt.S x4 0))) then
   some false
   else
   (jj J 0 9 0 (s35_8 x0 x1 x2 x3 x4) (e35 J m w35_1 [M1, M6]))))) (fun J => by kernel_rfl) (by simp only [jj_eq, ref01_fields_j8_eq m M1 rec1 h1 M6 rec6 h6]; rfl)
theorem ref01_fields_j9_eq m M1 rec1 (h1 : H35_1 m M1 rec1) x0 x1 x2 : e35 jn m w35_3 [M1] (s35_9 x0 x1 x2) = ref01_fields_j9 m (ref01_formed m) rec1 x0 x1 x2 :=
  tre (g := fun J => (jj J 1 2 M1 (s35_9 x0 (IntKind.wrap .i64 (x1 + 1)) x2) (l35 J m [1, 0, 1, 0] [] M1))) (fun J => by kernel_rfl) (by simp only [jj_eq, h1]; rfl)
theorem ref01_fields_l6_eq m M1 rec1 (h1 : H35_1 m M1 rec1) : ∀ M6 x0 x1 x2 x3 x4, l35 jn m w35_0 [M1] M6 (s35_8 x0 x1 x2 x3 x4) = ref01_fields_l6 m (ref01_formed m) rec1 M6 x0 x1 x2 x3 x4
  | 0, _, _, _, _, _ => rfl
  | M6 + 1, x0, x1, x2, x3, x4 =>
    trl (g := fun J => (bif (decide (x2 < x1)) then
   (jj J 0 10 0 (s35_8 x0 x1 x2 x3 x4) (e35 J m w35_2 [M1, M6]))
    else
   (jj J 0 3 0 (s35_9 x0 x1 x3) (e35 J m w35_3 [M1])))) (fun J => by kernel_rfl) (by simp only [jj_eq, ref01_fields_j7_eq m M1 rec1 h1 M6 (ref01_fields_l6 m (ref01_formed m) rec1 M6) (ref01_fields_l6_eq m M1 rec1 h1 M6), ref01_fields_j9_eq m M1 rec1 h1]; rfl)
theorem ref01_fields_j5_eq m M1 rec1 (h1 : H35_1 m M1 rec1) x0 x1 x2 x3 x4 : e35 jn m w35_4 [M1] (s35_8 x0 x1 x2 x3 x4) = ref01_fields_j5 m (ref01_formed m) rec1 x0 x1 x2 x3 x4 :=
  tre (g := fun J => (jj J 1 8 (Nat.succ m) (s35_8 x0 x1 x2 x3 x4) (l35 J m w35_0 [M1] (Nat.succ m)))) (fun J => by kernel_rfl) (by simp only [jj_eq, ref01_fields_l6_eq m M1 rec1 h1]; rfl)
theorem ref01_fields_j4_eq m M1 rec1 (h1 : H35_1 m M1 rec1) x0 x1 x2 x3 : e35 jn m w35_5 [M1] (s35_4 x0 x1 x2 x3) = ref01_fields_j4 m (ref01_formed m) rec1 x0 x1 x2 x3 :=
  tre (g := fun J => (jj J 0 8 0 (s35_8 x0 x1 0 x2 x3) (e35 J m w35_4 [M1]))) (fun J => by kernel_rfl) (by simp only [jj_eq, ref01_fields_j5_eq m M1 rec1 h1]; rfl)
theorem ref01_fields_j3_eq m M1 rec1 (h1 : H35_1 m M1 rec1) x0 x1 x2 x3 x4 : e35 jn m w35_6 [M1] (s35_3 x0 x1 x2 x3 x4) = ref01_fields_j3 m (ref01_formed m) rec1 x0 x1 x2 x3 x4 :=
  tre (g := fun J => (bif x2 then
   some false
    else
   (jj J 0 7 0 (s35_4 x0 x1 x3 x4) (e35 J m w35_5 [M1])))) (fun J => by kernel_rfl) (by simp only [jj_eq, ref01_fields_j4_eq m M1 rec1 h1]; rfl)
theorem ref01_fields_j2_eq m M1 rec1 (h1 : H35_1 m M1 rec1) x0 x1 x2 : e35 jn m w35_7 [M1] (s35_9 x0 x1 x2) = ref01_fields_j2 m (ref01_formed m) rec1 x0 x1 x2 :=
  tre (g := fun J => ((idx (Dt.L x2 4) x1).bind fun v0 =>
   (bif x0 then
   ((ref01_Name m (Dt.S v0 0)).bind fun r1 =>
   (bif (Bool.not r1) then
   (jj J 0 6 0 (s35_3 x0 x1 true x2 v0) (e35 J m w35_6 [M1]))
   else
   (bif (Bool.not x0) then
   ((ref01_wide m (Dt.S v0 0)).bind fun r3 =>
   (bif (Bool.not r3) then
   (jj J 0 6 0 (s35_3 x0 x1 true x2 v0) (e35 J m w35_6 [M1]))
   else
   ((ref01_formed m (Dt.fld v0 1) x0).bind fun r4 =>
   (jj J 0 6 0 (s35_3 x0 x1 (Bool.not r4) x2 v0) (e35 J m w35_6 [M1])))))
   else
   ((ref01_formed m (Dt.fld v0 1) x0).bind fun r5 =>
   (jj J 0 6 0 (s35_3 x0 x1 (Bool.not r5) x2 v0) (e35 J m w35_6 [M1]))))))
   else
   (bif (Bool.not x0) then
   ((ref01_wide m (Dt.S v0 0)).bind fun r6 =>
   (bif (Bool.not r6) then
   (jj J 0 6 0 (s35_3 x0 x1 true x2 v0) (e35 J m w35_6 [M1]))
   else
   ((ref01_formed m (Dt.fld v0 1) x0).bind fun r7 =>
   (jj J 0 6 0 (s35_3 x0 x1 (Bool.not r7) x2 v0) (e35 J m w35_6 [M1])))))
   else
   ((ref01_formed m (Dt.fld v0 1) x0).bind fun r8 =>
   (jj J 0 6 0 (s35_3 x0 x1 (Bool.not r8) x2 v0) (e35 J m w35_6 [M1]))))))) (fun J => by kernel_rfl) (by simp only [jj_eq, ref01_fields_j3_eq m M1 rec1 h1]; rfl)
theorem ref01_fields_j10_eq m : e35 jn m [1, 1] [] s35_10 = ref01_fields_j10 m (ref01_formed m) :=
  tre (g := fun J => some true) (fun J => by kernel_rfl) (by rfl)
theorem ref01_fields_l1_eq m : ∀ M1 x0 x1 x2, l35 jn m [1, 0, 1, 0] [] M1 (s35_9 x0 x1 x2) = ref01_fields_l1 m (ref01_formed m) M1 x0 x1 x2
  | 0, _, _, _ => rfl
  | M1 + 1, x0, x1, x2 =>
    trl (g := fun J => (bif (decide (x1 < (List.length (Dt.L x2 4) : Int))) then
   (jj J 0 4 0 (s35_9 x0 x1 x2) (e35 J m w35_7 [M1]))
    else
   (jj J 0 12 0 s35_10 (e35 J m [1, 1] [])))) (fun J => by kernel_rfl) (by simp only [jj_eq, ref01_fields_j2_eq m M1 (ref01_fields_l1 m (ref01_formed m) M1) (ref01_fields_l1_eq m M1), ref01_fields_j10_eq m]; rfl)
theorem ref01_fields_j0_eq m x0 x1 x2 : e35 jn m [1, 0, 1] [] (s35_9 x0 x1 x2) = ref01_fields_j0 m (ref01_formed m) x0 x1 x2 :=
  tre (g := fun J => (jj J 1 2 (Nat.succ m) (s35_9 x0 x1 x2) (l35 J m [1, 0, 1, 0] [] (Nat.succ m)))) (fun J => by kernel_rfl) (by simp only [jj_eq, ref01_fields_l1_eq m]; rfl)
theorem ref01_fields_eq m a0 a1 : e35 jn m [] [] ⟨[(.dat 27 a0), (.dat 4 (.bool a1))], [], 0⟩ = ref01_fields (m + 1) a0 a1 :=
  tre (g := fun J => (jj J 0 2 0 (s35_9 a1 0 a0) (e35 J m [1, 0, 1] []))) (fun J => by kernel_rfl) (by simp only [jj_eq, ref01_fields_j0_eq m]; rfl)
noncomputable def e5 (J : Nat → Nat → Nat → St → Option Bool → Option Bool) (m : Nat) (p ms : List Nat) (σ : St) := evAt Tryd.prog env (ct m) J (m + 1) 11 15 Tryd.f11 d22 p ms σ
noncomputable def l5 (J : Nat → Nat → Nat → St → Option Bool → Option Bool) (m : Nat) (p ms : List Nat) (M : Nat) (σ : St) := loopAt Tryd.prog env (ct m) J (m + 1) 11 15 Tryd.f11 d22 p ms M σ
theorem ref01_Valid_eq m a0 : e5 jn m [] [] ⟨[(.dat 27 a0)], [], 0⟩ = ref01_Valid (m + 1) a0 :=
  tre (g := fun J => ((ref01_Depth m a0).bind fun r0 =>
   (bif (decide (r0 ≤ 16)) then
   ((ref01_Nodes m a0).bind fun r1 =>
   (bif (decide (r1 ≤ 1024)) then
   ((ref01_formed m a0 true).bind fun r2 =>
   some r2)
   else
   some false))
   else
   some false))) (fun J => by kernel_rfl) (by rfl)
def w0_0 : List Nat := [1, 1, 1, 1, 1, 1]
noncomputable def e0 (J : Nat → Nat → Nat → St → Option Bool → Option Bool) (m : Nat) (p ms : List Nat) (σ : St) := evAt Tryd.prog env (ct m) J (m + 1) 3 52 Tryd.f3 d22 p ms σ
noncomputable def l0 (J : Nat → Nat → Nat → St → Option Bool → Option Bool) (m : Nat) (p ms : List Nat) (M : Nat) (σ : St) := loopAt Tryd.prog env (ct m) J (m + 1) 3 52 Tryd.f3 d22 p ms M σ
noncomputable def s0_2 (x0 : ByteArray) (x1 : Int) (x2 : Dt) : St := ⟨tsOf [(0, (.dat 9 (.str x0))), (4, (.ptr 0 [] 0)), (6, (.dat 28 (.int x1)))], [(.box 27 (.dat 27 x2))], 0⟩
noncomputable def s0_1 (x0 x1 : ByteArray) : St := ⟨tsOf [(0, (.dat 9 (.str x0))), (3, (.dat 9 (.str x1)))], [], 0⟩
noncomputable def s0_0 (x0 : ByteArray) : St := ⟨tsOf [(0, (.dat 9 (.str x0)))], [], 0⟩
theorem law05_NotationQuotes_j2_eq m x0 x1 x2 : e0 jn m w0_0 [] (s0_2 x0 x1 x2) = law05_NotationQuotes_j2 m x0 x1 x2 :=
  tre (g := fun J => (bif (x1 == 0) then
   (bif ((Dt.I x2 0) == 4) then
   (bif ((ByteArray.toList (Dt.S x2 2)) == (ByteArray.toList x0)) then
   ((awakeC).bind fun r6 =>
   some r6)
   else
   some false)
   else
   some false)
    else
   some false)) (fun J => by kernel_rfl) (by rfl)
theorem law05_NotationQuotes_j1_eq m x0 x1 : e0 jn m [1, 1, 1, 1] [] (s0_1 x0 x1) = law05_NotationQuotes_j1 m x0 x1 :=
  tre (g := fun J => ((notation_Parse m x1).bind fun r3 =>
   ((ref01_Valid m (Dt.agg [(Dt.int 4), (Dt.int 0), (Dt.str x0), (Dt.lst []), (Dt.lst [])])).bind fun r4 =>
   (bif (Bool.not r4) then
   (bif (r3.2.2 == 4) then
   (bif (r3.2.1 == 0) then
   ((awakeC).bind fun r5 =>
   some r5)
   else
   some false)
   else
   some false)
   else
   (jj J 0 9 0 (s0_2 x0 r3.2.2 r3.1) (e0 J m w0_0 [])))))) (fun J => by kernel_rfl) (by simp only [jj_eq, law05_NotationQuotes_j2_eq m]; rfl)
theorem law05_NotationQuotes_j0_eq m x0 : e0 jn m [1, 1] [] (s0_0 x0) = law05_NotationQuotes_j0 m x0 :=
  tre (g := fun J => ((notation_Quote m x0).bind fun r1 =>
   ((ref05_Quote m x0).bind fun r2 =>
   (bif (Bool.not ((ByteArray.toList r1) == (ByteArray.toList r2))) then
   some false
   else
   (jj J 0 6 0 (s0_1 x0 r1) (e0 J m [1, 1, 1, 1] [])))))) (fun J => by kernel_rfl) (by simp only [jj_eq, law05_NotationQuotes_j1_eq m]; rfl)
theorem law05_NotationQuotes_eq m a0 : e0 jn m [] [] ⟨[(.dat 9 (.str a0))], [], 0⟩ = law05_NotationQuotes (m + 1) a0 :=
  tre (g := fun J => (bif (decide (2000 < (ByteArray.size a0 : Int))) then
   ((awakeC).bind fun r0 =>
   some r0)
    else
   (jj J 0 3 0 (s0_0 a0) (e0 J m [1, 1] [])))) (fun J => by kernel_rfl) (by simp only [jj_eq, law05_NotationQuotes_j0_eq m]; rfl)

end Go.Proofs.YtmejbpmceflcjaaDoor
