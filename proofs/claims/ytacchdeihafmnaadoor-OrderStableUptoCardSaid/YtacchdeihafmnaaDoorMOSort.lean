/- Sorting documents: the program's function, the reference's, and the laws, in plain Lean. -/
import Derived.Test.YtacchdeihafmnaaDoorMSrt3
import Derived.Test.YtacchdeihafmnaaDoorMOSm
import Derived.Test.YtacchdeihafmnaaDoorMOClone
set_option linter.unusedVariables false
set_option linter.unusedSimpArgs false
namespace Go.Proofs.YtacchdeihafmnaaDoor
open Go.Am Go.Am.Srt
noncomputable def rowD (l : List Dt) (d : Dt) : Dt := .agg [d, .lst (keysD l d)]
def cmpR (l : List Dt) (x y : Dt) : Int := cmpKs l (Dt.L x 1) (Dt.L y 1)
theorem tpoR (l : List Dt) : TPO (cmpR l) := (tpoK l).key fun x => Dt.L x 1
theorem cmpR_row (l : List Dt) (a b : Dt) : cmpR l (rowD l a) (rowD l b) = cmpO l a b := rfl
noncomputable def sortD (l : List Dt) (D : List Dt) : List Dt := isort (ltc (cmpO l)) D
theorem isort_map {A B : Type} {lt : A → A → Bool} {lt' : B → B → Bool} (f : A → B) (h : ∀ a b, lt' (f a) (f b) = lt a b) : ∀ D : List A, isort lt' (D.map f) = (isort lt D).map f
  | [] => rfl
  | a :: D => by
    have hi : ∀ (x : A) (s : List A), ins lt' (f x) (s.map f) = (ins lt x s).map f := by
      intro x s
      induction s with
      | nil => rfl
      | cons y s ih =>
        simp only [List.map_cons, ins, h]
        cases lt y x
        · rfl
        · simp only [cond_true, List.map_cons, ih]
    show ins lt' (f a) (isort lt' (D.map f)) = (ins lt a (isort lt D)).map f
    rw [isort_map f h D, hi]
theorem ofirst_l1 (m : Nat) (hm : 300000000000 ≤ m) (x0 : Int) (l D : List Dt) (z : Dt) (hl : l.length ≤ 100) (hD : ∀ d ∈ D, DocOK d) (hDl : D.length ≤ 1000000) : ∀ (M i : Nat), i ≤ D.length → D.length - i < M →
    order_first_l1 (m + 3) M x0 D (D.length : Int) (i : Int) l ((D.take i).map (rowD l) ++ List.replicate (D.length - i) z) = order_first_j4 (m + 3) x0 l (D.map (rowD l))
  | 0, i, _, h => by omega
  | M + 1, i, hi, h => by
    simp only [order_first_l1, dlt]
    by_cases hlt : i < D.length
    · have hk := okeys_eq m hm l D[i] (hD _ (List.getElem_mem hlt)) hl
      have lm : ((D.take i).map (rowD l)).length = i := by simp; omega
      have hx : i < ((D.take i).map (rowD l) ++ List.replicate (D.length - i) z).length := by rw [List.length_append, lm, List.length_replicate]; omega
      have hs : ((D.take i).map (rowD l) ++ List.replicate (D.length - i) z).set i (Dt.agg [D[i], Dt.lst (keysD l D[i])]) = (D.take (i + 1)).map (rowD l) ++ List.replicate (D.length - (i + 1)) z := by
        rw [List.set_append_right _ _ (by omega), lm, Nat.sub_self, show D.length - i = (D.length - (i + 1)) + 1 by omega, List.replicate_succ, List.set_cons_zero, List.take_succ_eq_append_getElem hlt, List.map_append, List.append_assoc]
        rfl
      simp only [hlt, decide_true, cond_true, order_first_j2, order_first_j3, idx_lt hlt, Option.bind_some, hk, inL_lt hx, Int.toNat_natCast, List.getElem?_eq_getElem hx, hs, wrapS (show i < 9223372036854775807 by omega)]
      exact ofirst_l1 m hm x0 l D z hl hD hDl M (i + 1) (by omega) (by omega)
    · have : i = D.length := by omega
      subst this
      simp
theorem ofirst_l6 (m : Nat) (hm : 1048576 ≤ m) (R : List Dt) (hl : R.length ≤ 1000000) (hR : ∀ r ∈ R, order_clone m (Dt.fld r 0) = some (Dt.fld r 0)) : ∀ (M i : Nat), i ≤ R.length → R.length - i < M → order_first_l6 m M R (R.length : Int) (i : Int) ((R.take i).map fun r => Dt.fld r 0) = some (R.map fun r => Dt.fld r 0)
  | 0, i, _, h => by omega
  | M + 1, i, hi, h => by
    simp only [order_first_l6, dlt]
    by_cases hlt : i < R.length
    · simp only [hlt, decide_true, cond_true, order_first_j7, order_first_j8, idx_lt hlt, Option.bind_some, hR _ (List.getElem_mem hlt), wrapS (show i < 9223372036854775807 by omega)]
      rw [app_le (by simp; omega)]
      have e : ((R.take i).map fun r => Dt.fld r 0) ++ [Dt.fld R[i] 0] = (R.take (i + 1)).map fun r => Dt.fld r 0 := by
        rw [List.take_succ_eq_append_getElem hlt, List.map_append]; rfl
      rw [Option.bind_some, e]
      exact ofirst_l6 m hm R hl hR M (i + 1) (by omega) (by omega)
    · have : i = R.length := by omega
      subst this
      simp [order_first_j9]
theorem row_fld (l : List Dt) (d : Dt) : Dt.fld (rowD l d) 0 = d := rfl
theorem ofirst_eq (m : Nat) (hm : 300000000000 ≤ m) (l D : List Dt) (n : Nat) (hl : l.length ≤ 100) (hD : ∀ d ∈ D, DocOK d) (hDl : D.length ≤ 1000) (hn : n ≤ D.length) : order_first (m + 4) l D (n : Int) = some ((sortD l D).take n) := by
  have hmk := mkL_nat (n := D.length) (z := Dt.agg [zeroVal, Dt.lst []]) (by omega)
  have hmk' : mkL ((D.length : Nat) : Int) ((D.length : Nat) : Int) (Dt.agg [Dt.agg [Dt.int 0, Dt.int 0, Dt.str (ByteArray.mk (List.toArray [])), Dt.lst [], Dt.lst []], Dt.lst []]) = some (List.replicate D.length (Dt.agg [zeroVal, Dt.lst []])) := hmk
  have h1 := ofirst_l1 m hm (n : Int) l D (Dt.agg [zeroVal, Dt.lst []]) hl hD (by omega) (m + 4) 0 (Nat.zero_le _) (by omega)
  simp only [List.take_zero, List.map_nil, List.nil_append, Nat.sub_zero] at h1
  have h1' : order_first_l1 (m + 3) (Nat.succ (m + 3)) (n : Int) D ((D.length : Nat) : Int) 0 l (List.replicate D.length (Dt.agg [zeroVal, Dt.lst []])) = order_first_j4 (m + 3) (n : Int) l (D.map (rowD l)) := h1
  have hC : ∀ k, 80000000002 ≤ k → ∀ x y, (∃ d, DocOK d ∧ x = rowD l d) → (∃ d, DocOK d ∧ y = rowD l d) → i22 k x y l = some (cmpR l x y, l) := by
    rintro k hk x y ⟨a, ha, rfl⟩ ⟨b, hb, rfl⟩
    obtain ⟨k, rfl⟩ : ∃ q, k = q + 2 := ⟨k - 2, by omega⟩
    have e := ocmp_eq k (by omega) l (keysD l a) (keysD l b) (by simp [keysD]) (by simp [keysD]) hl (fun x hx => by
      obtain ⟨o, _, rfl⟩ := List.mem_map.1 hx
      exact (keyD_wv ha o).2)
    have e' : order_compare (k + 1) l (Dt.L (rowD l a) 1) (Dt.L (rowD l b) 1) = some (cmpR l (rowD l a) (rowD l b)) := e
    simp only [i22, e', Option.bind_some]
  have hs := stable_eq (tpoR l) (P := fun x => ∃ d, DocOK d ∧ x = rowD l d) (K := l) (m0 := 80000000002) hC (m + 1) 100000000000 (by omega) (by omega) (by omega) (D.map (rowD l)) (by simp; omega) (fun x hx => by
    obtain ⟨d, hd, rfl⟩ := List.mem_map.1 hx
    exact ⟨d, hD d hd, rfl⟩)
  have hmap : isort (ltc (cmpR l)) (D.map (rowD l)) = (sortD l D).map (rowD l) := isort_map (rowD l) (fun a b => rfl) D
  have hlen : (sortD l D).length = D.length := isort_len D
  have hcut : cutL ((sortD l D).map (rowD l)) 0 (n : Int) = some (((sortD l D).take n).map (rowD l)) := by
    rw [cutL_zero (by simp; omega), List.map_take]
  have h6 := ofirst_l6 (m + 3) (by omega) (((sortD l D).take n).map (rowD l)) (by simp; omega) (fun r hr => by
    obtain ⟨d, hd, rfl⟩ := List.mem_map.1 hr
    have hd' : DocOK d := hD d (mem_isort.1 (List.mem_of_mem_take hd))
    rw [row_fld]
    exact oclone_eq 1048576 d hd'.bulk (by omega) hd'.wv (m + 2) (by omega)) (m + 4) 0 (Nat.zero_le _) (by simp; omega)
  simp only [List.take_zero, List.map_nil] at h6
  have h6' : order_first_l6 (m + 3) (Nat.succ (m + 3)) (((sortD l D).take n).map (rowD l)) (((((sortD l D).take n).map (rowD l)).length : Nat) : Int) 0 [] = _ := h6
  have hs' : i19 (m + 3) (D.map (rowD l)) l = some ((sortD l D).map (rowD l), l) := by
    rw [← hmap]; exact hs
  simp only [order_first, hmk', Option.bind_some, order_first_j0, h1', order_first_j4, hs', hcut, order_first_j5, h6', List.map_map]
  congr 1
  conv => rhs; rw [← List.map_id ((sortD l D).take n)]
  exact List.map_congr_left fun d _ => rfl
theorem oSort_eq (m : Nat) (hm : 300000000000 ≤ m) (l D : List Dt) (hl : l.length ≤ 100) (hD : ∀ d ∈ D, DocOK d) (hDl : D.length ≤ 1000) : order_Sort (m + 5) l D = some (sortD l D) := by
  simp only [order_Sort, ofirst_eq m hm l D D.length hl hD hDl (Nat.le_refl _), Option.bind_some]
  rw [List.take_of_length_le (by rw [sortD, isort_len]; exact Nat.le_refl _)]
def topN (n : Int) (k : Nat) : Nat := min n.toNat k
theorem topN_prog (n : Int) (k : Nat) : (bif (decide ((0 : Int) < (bif (decide (((k : Nat) : Int) < n)) then ((k : Nat) : Int) else n))) then (bif (decide (((k : Nat) : Int) < n)) then ((k : Nat) : Int) else n) else (0 : Int)) = ((topN n k : Nat) : Int) := by
  unfold topN
  by_cases h1 : ((k : Nat) : Int) < n
  · simp only [h1, decide_true, cond_true]
    by_cases h2 : (0 : Int) < (k : Int)
    · simp only [h2, decide_true, cond_true]; omega
    · simp only [h2, decide_false, cond_false]; omega
  · simp only [h1, decide_false, cond_false]
    by_cases h2 : (0 : Int) < n
    · simp only [h2, decide_true, cond_true]; omega
    · simp only [h2, decide_false, cond_false]; omega
theorem topN_ref (n : Int) (k : Nat) : (bif (decide (((k : Nat) : Int) < (bif (decide (n < (0 : Int))) then (0 : Int) else n))) then ((k : Nat) : Int) else (bif (decide (n < (0 : Int))) then (0 : Int) else n)) = ((topN n k : Nat) : Int) := by
  unfold topN
  by_cases h1 : n < (0 : Int)
  · simp only [h1, decide_true, cond_true]
    by_cases h2 : ((k : Nat) : Int) < 0
    · omega
    · simp only [h2, decide_false, cond_false]; omega
  · simp only [h1, decide_false, cond_false]
    by_cases h2 : ((k : Nat) : Int) < n
    · simp only [h2, decide_true, cond_true]; omega
    · simp only [h2, decide_false, cond_false]; omega
theorem oTop_eq (m : Nat) (hm : 300000000000 ≤ m) (l D : List Dt) (n : Int) (hl : l.length ≤ 100) (hD : ∀ d ∈ D, DocOK d) (hDl : D.length ≤ 1000) : order_Top (m + 5) l D n = some ((sortD l D).take (topN n D.length)) := by
  simp only [order_Top, topN_prog, ofirst_eq m hm l D (topN n D.length) hl hD hDl (Nat.min_le_right _ _), Option.bind_some]
-- the reference
theorem rsort_l4 (m : Nat) (hm : 300000000000 ≤ m) (hm2 : m < 800000000000) (rec1 : List Dt → List Dt → List Dt → Int → Option (List Dt)) (l D : List Dt) (i : Nat) (hi : i < D.length) (hl : l.length ≤ 100) (hDl : D.length ≤ 1000) (hd : DocOK D[i]) : ∀ (k M : Nat) (A B : List Dt), A.length = k → k < M → (∀ x ∈ A, DocOK x) → (∀ x ∈ B, ltc (cmpO l) D[i] x = true) → Asc (ltc (cmpO l)) (A ++ B) → A.length + B.length ≤ 1000 →
    ref12_Sort_l4 (m + 4) rec1 M l D (A ++ B) (i : Int) (k : Int) = rec1 l D (isort (ltc (cmpO l)) (A ++ B ++ [D[i]])) ((i + 1 : Nat) : Int) := by
  have h := swo (tpoO l)
  have done : ∀ (M k : Nat) (A B : List Dt), A.length = k → (∀ x ∈ A, ltc (cmpO l) D[i] x = false) → (∀ x ∈ B, ltc (cmpO l) D[i] x = true) → Asc (ltc (cmpO l)) (A ++ B) → A.length + B.length ≤ 1000 → ref12_Sort_j6 (m + 4) rec1 l D (A ++ B) (i : Int) (k : Int) = rec1 l D (isort (ltc (cmpO l)) (A ++ B ++ [D[i]])) ((i + 1 : Nat) : Int) := by
    intro M k A B hk hA hB hasc hlen
    have c1 : cutL (A ++ B) 0 (k : Int) = some A := by
      rw [cutL_zero (by rw [List.length_append]; omega)]; simp [← hk]
    have c2 : cutL (A ++ B) (k : Int) (((A ++ B).length : Nat) : Int) = some B := by
      rw [cutL_nat (by rw [List.length_append]; omega) (Nat.le_refl _)]
      simp [← hk]
    obtain ⟨a1, a2, a3⟩ := asc_of_append hasc
    have hasc2 : Asc (ltc (cmpO l)) (A ++ (D[i] :: B)) := asc_append a1 ⟨fun y hy => h.asy (hB y hy), a2⟩ fun x hx y hy => by
      rcases List.mem_cons.1 hy with rfl | hy
      · exact hA x hx
      · exact a3 x hx y hy
    have hr := isort_rot h B [D[i]] A [] (fun u hu v hv => by rw [List.mem_singleton] at hv; subst hv; exact hB u hu)
    simp only [List.append_nil, List.singleton_append] at hr
    have e : isort (ltc (cmpO l)) (A ++ B ++ [D[i]]) = A ++ (D[i] :: B) := by rw [List.append_assoc, hr, isort_asc hasc2]
    simp only [ref12_Sort_j6, c1, c2, Option.bind_some, idx_lt hi, app_le (show ([] : List Dt).length + A.length ≤ 137438953472 by simp; omega), List.nil_append, app_le (show A.length + [D[i]].length ≤ 137438953472 by simp; omega), app_le (show (A ++ [D[i]]).length + B.length ≤ 137438953472 by simp; omega), ref12_Sort_j7, wrapS (show i < 9223372036854775807 by omega), e]
    simp
  intro k
  induction k with
  | zero =>
    intro M A B hk hM hA hB hasc hlen
    obtain ⟨M, rfl⟩ : ∃ q, M = q + 1 := ⟨M - 1, by omega⟩
    obtain rfl : A = [] := List.length_eq_zero_iff.1 hk
    have e : decide ((0 : Int) < ((0 : Nat) : Int)) = false := rfl
    simp only [ref12_Sort_l4, e, cond_false]
    exact done M 0 [] B rfl (by simp) hB hasc hlen
  | succ k ih =>
    intro M A B hk hM hA hB hasc hlen
    obtain ⟨M, rfl⟩ : ∃ q, M = q + 1 := ⟨M - 1, by omega⟩
    have hne : A ≠ [] := by rintro rfl; simp at hk
    obtain ⟨A', x, rfl⟩ : ∃ A' x, A = A' ++ [x] := ⟨A.dropLast, A.getLast hne, (List.dropLast_concat_getLast hne).symm⟩
    simp only [List.length_append, List.length_cons, List.length_nil] at hk hlen
    have e0 : decide ((0 : Int) < ((k + 1 : Nat) : Int)) = true := decide_eq_true (by omega)
    have ek : IntKind.wrap IntKind.i64 (((k + 1 : Nat) : Int) - 1) = (k : Int) := wrN (by omega) (by omega)
    have hx : idx (A' ++ [x] ++ B) (k : Int) = some x := by
      have hlt : k < (A' ++ [x] ++ B).length := by simp; omega
      rw [idx_lt hlt]
      congr 1
      have hk' : A'.length = k := by omega
      simp [List.getElem_append, ← hk']
    have hdx : DocOK x := hA x (by simp)
    have hc := rCompare_eq m hm hm2 l x D[i] hdx hd hl
    have hcmp : ref12_Compare (m + 4) l x D[i] = some (cmpO l x D[i]) := hc
    simp only [ref12_Sort_l4, e0, cond_true, ek, hx, idx_lt hi, Option.bind_some, hcmp]
    have han := (tpoO l).anti x D[i]
    cases hb : decide ((0 : Int) < cmpO l x D[i])
    · simp only [cond_false]
      have hlt : ltc (cmpO l) D[i] x = false := by
        have := of_decide_eq_false hb
        simp only [ltc, decide_eq_false_iff_not]; omega
      obtain ⟨a1, _, _⟩ := asc_of_append hasc
      obtain ⟨_, _, a3⟩ := asc_of_append a1
      exact done M (k + 1) (A' ++ [x]) B (by simp; omega) (fun y hy => by
        rcases List.mem_append.1 hy with hy | hy
        · exact h.ntr _ _ _ hlt (a3 y hy x (by simp))
        · rw [List.mem_singleton] at hy; subst hy; exact hlt) hB hasc (by simp; omega)
    · simp only [cond_true, ref12_Sort_j5, ek]
      have hlt : ltc (cmpO l) D[i] x = true := by
        have := of_decide_eq_true hb
        simp only [ltc, decide_eq_true_eq]; omega
      have e2 : A' ++ [x] ++ B = A' ++ (x :: B) := by simp
      rw [e2]
      exact ih M A' (x :: B) (by omega) (by omega) (fun y hy => hA y (by simp [hy])) (fun y hy => by
        rcases List.mem_cons.1 hy with rfl | hy
        · exact hlt
        · exact hB y hy) (by rw [← e2]; exact hasc) (by simp; omega)
theorem rsort_l1 (m : Nat) (hm : 300000000000 ≤ m) (hm2 : m < 800000000000) (l D : List Dt) (hl : l.length ≤ 100) (hD : ∀ d ∈ D, DocOK d) (hDl : D.length ≤ 1000) : ∀ (M i : Nat), i ≤ D.length → D.length - i < M → ref12_Sort_l1 (m + 4) M l D (sortD l (D.take i)) (i : Int) = some (sortD l D)
  | 0, i, _, h => by omega
  | M + 1, i, hi, h => by
    have hsw := swo (tpoO l)
    simp only [ref12_Sort_l1, dlt]
    by_cases hlt : i < D.length
    · have hlen : (sortD l (D.take i)).length = i := by rw [sortD, isort_len]; simp; omega
      have h4 := rsort_l4 m hm hm2 (ref12_Sort_l1 (m + 4) M) l D i hlt hl hDl (hD _ (List.getElem_mem hlt)) i (m + 5) (sortD l (D.take i)) [] hlen (by omega) (fun x hx => hD x (List.mem_of_mem_take (mem_isort.1 hx))) (by simp) (by rw [List.append_nil]; exact asc_isort hsw (D.take i)) (by rw [hlen]; simp; omega)
      simp only [List.append_nil] at h4
      have e : isort (ltc (cmpO l)) (sortD l (D.take i) ++ [D[i]]) = sortD l (D.take (i + 1)) := by
        have := isort_isort hsw (D.take i) [D[i]]
        rw [List.take_succ_eq_append_getElem hlt]
        exact this
      rw [e] at h4
      have h4' : ref12_Sort_l4 (m + 4) (ref12_Sort_l1 (m + 4) M) (Nat.succ (m + 4)) l D (sortD l (D.take i)) (i : Int) (((sortD l (D.take i)).length : Nat) : Int) = ref12_Sort_l1 (m + 4) M l D (sortD l (D.take (i + 1))) ((i + 1 : Nat) : Int) := by
        rw [hlen]; exact h4
      simp only [hlt, decide_true, cond_true, ref12_Sort_j2, ref12_Sort_j3, h4']
      exact rsort_l1 m hm hm2 l D hl hD hDl M (i + 1) (by omega) (by omega)
    · have : i = D.length := by omega
      subst this
      simp [ref12_Sort_j8]
theorem rSort_eq (m : Nat) (hm : 300000000000 ≤ m) (hm2 : m < 800000000000) (l D : List Dt) (hl : l.length ≤ 100) (hD : ∀ d ∈ D, DocOK d) (hDl : D.length ≤ 1000) : ref12_Sort (m + 5) l D = some (sortD l D) := by
  have := rsort_l1 m hm hm2 l D hl hD hDl (m + 5) 0 (Nat.zero_le _) (by omega)
  exact this
theorem rTop_eq (m : Nat) (hm : 300000000000 ≤ m) (hm2 : m < 800000000000) (l D : List Dt) (n : Int) (hl : l.length ≤ 100) (hD : ∀ d ∈ D, DocOK d) (hDl : D.length ≤ 1000) : ref12_Top (m + 6) l D n = some ((sortD l D).take (topN n D.length)) := by
  have hlen : (sortD l D).length = D.length := isort_len D
  simp only [ref12_Top, rSort_eq m hm hm2 l D hl hD hDl, Option.bind_some, topN_ref, hlen]
  rw [cutL_zero (by rw [hlen]; exact Nat.min_le_right _ _)]
  rfl
theorem doc_same (k : Nat) (hk : 3000000 ≤ k) (L : List Dt) (hL : ∀ d ∈ L, DocOK d) (hl : L.length ≤ 1000) : law03_SameList (k + 2) L L = some true := s03_list (k + 1) L (by omega) (by omega) fun e he => s03_refl 1048576 e (hL e he).bulk (by omega) k (by omega)
theorem law_osort (l D : List Dt) (n : Int) (hD : ∀ d ∈ D, WV d ∧ d.bulk ≤ 1048576) : law12_OrderSort (400000000000 + 1) l D n = some true := by
  obtain ⟨s, h1, h2⟩ := small_eq 399999999998 (by omega) (by omega) l D hD
  have h1' : law12_Small 400000000000 l D = some s := h1
  simp only [law12_OrderSort, h1', Option.bind_some]
  cases s
  · simp only [Bool.not_false, cond_true, awakeC, Option.bind_some]
  · obtain ⟨h3, h4, h5⟩ := h2 rfl
    have k1 : order_Sort 400000000000 l D = some (sortD l D) := oSort_eq 399999999995 (by omega) l D (by omega) h5 (by omega)
    have k2 : ref12_Sort 400000000000 l D = some (sortD l D) := rSort_eq 399999999995 (by omega) (by omega) l D (by omega) h5 (by omega)
    have k3 : order_Top 400000000000 l D n = some ((sortD l D).take (topN n D.length)) := oTop_eq 399999999995 (by omega) l D n (by omega) h5 (by omega)
    have k4 : ref12_Top 400000000000 l D n = some ((sortD l D).take (topN n D.length)) := rTop_eq 399999999994 (by omega) (by omega) l D n (by omega) h5 (by omega)
    have hs : ∀ d ∈ sortD l D, DocOK d := fun d hd => h5 d (mem_isort.1 hd)
    have hlen : (sortD l D).length = D.length := isort_len D
    have k5 : law03_SameList 400000000000 (sortD l D) (sortD l D) = some true := doc_same 399999999998 (by omega) _ hs (by omega)
    have k6 : law03_SameList 400000000000 ((sortD l D).take (topN n D.length)) ((sortD l D).take (topN n D.length)) = some true := doc_same 399999999998 (by omega) _ (fun d hd => hs d (List.mem_of_mem_take hd)) (by simp; omega)
    simp only [Bool.not_true, cond_false, law12_OrderSort_j0, k1, k2, k3, k4, k5, k6, Option.bind_some, cond_true, awakeC]
-- stability
theorem filter_ins {lt : Dt → Dt → Bool} (h : SWO lt) (p : Dt → Bool) (hp : ∀ a b, p a = true → p b = true → lt a b = false) (a : Dt) : ∀ s : List Dt, (ins lt a s).filter p = (a :: s).filter p
  | [] => rfl
  | y :: s => by
    cases e : lt y a with
    | false => simp only [ins, e, cond_false]
    | true =>
      simp only [ins, e, cond_true]
      rw [List.filter_cons, filter_ins h p hp a s]
      cases pa : p a
      · simp only [List.filter_cons, pa, Bool.false_eq_true, if_false]
      · have py : p y = false := by
          cases py : p y with
          | false => rfl
          | true => have := hp y a py pa; rw [e] at this; cases this
        simp only [List.filter_cons, pa, py, Bool.false_eq_true, if_false, if_true]
theorem filter_isort {lt : Dt → Dt → Bool} (h : SWO lt) (p : Dt → Bool) (hp : ∀ a b, p a = true → p b = true → lt a b = false) : ∀ s : List Dt, (isort lt s).filter p = s.filter p
  | [] => rfl
  | a :: s => by
    show (ins lt a (isort lt s)).filter p = _
    rw [filter_ins h p hp, List.filter_cons, List.filter_cons, filter_isort h p hp s]
noncomputable def eqTo (l : List Dt) (x y : Dt) : Bool := cmpO l y x == 0
theorem eqTo_ok (l : List Dt) (x : Dt) : ∀ a b, eqTo l x a = true → eqTo l x b = true → ltc (cmpO l) a b = false := fun a b ha hb => by
  have h1 : cmpO l a x = 0 := by simpa [eqTo] using ha
  have h2 : cmpO l b x = 0 := by simpa [eqTo] using hb
  have h3 := (tpoO l).anti b x
  have h4 := (tpoO l).eql (d := b) h1
  simp only [ltc, decide_eq_false_iff_not]
  omega
theorem ostab_l11 (m : Nat) (hm : 300000000000 ≤ m) (rec8 : List Dt → List Dt → List Dt → Int → Int → Option Bool) (l D S : List Dt) (hl : l.length ≤ 100) (hD : ∀ d ∈ D, DocOK d) (hS : ∀ d ∈ S, DocOK d) (hSl : S.length = D.length) (hDl : D.length ≤ 1000) (i : Nat) (hi : i < D.length) : ∀ (M k : Nat), k ≤ D.length → D.length - k < M →
    law12_OrderStable_l11 (m + 4) rec8 M l D S (i : Int) (D.length : Int) (i : Int) (D.length : Int) (k : Int) ((D.take k).filter (eqTo l D[i])) ((S.take k).filter (eqTo l D[i])) =
    law12_OrderStable_j15 (m + 4) rec8 l D S (D.length : Int) (i : Int) (D.filter (eqTo l D[i])) (S.filter (eqTo l D[i]))
  | 0, k, _, h => by omega
  | M + 1, k, hk, h => by
    simp only [law12_OrderStable_l11, dlt]
    by_cases hlt : k < D.length
    · have hks : k < S.length := by omega
      have c1 := oCompare_eq m hm l D[k] D[i] (hD _ (List.getElem_mem hlt)) (hD _ (List.getElem_mem hi)) hl
      have c2 := oCompare_eq m hm l S[k] D[i] (hS _ (List.getElem_mem hks)) (hD _ (List.getElem_mem hi)) hl
      have ih := ostab_l11 m hm rec8 l D S hl hD hS hSl hDl i hi M (k + 1) (by omega) (by omega)
      have fle : ∀ (L : List Dt), ((L.take k).filter (eqTo l D[i])).length ≤ k := fun L => Nat.le_trans (List.length_filter_le _ _) (by simp; omega)
      have step : ∀ (L : List Dt) (hL : k < L.length), (L.take (k + 1)).filter (eqTo l D[i]) = bif eqTo l D[i] L[k] then (L.take k).filter (eqTo l D[i]) ++ [L[k]] else (L.take k).filter (eqTo l D[i]) := fun L hL => by
        rw [List.take_succ_eq_append_getElem hL, List.filter_append]
        cases e : eqTo l D[i] L[k] <;> simp [List.filter_cons, e]
      have ha : ∀ (L : List Dt) (x : Dt), app ((L.take k).filter (eqTo l D[i])) [x] = some ((L.take k).filter (eqTo l D[i]) ++ [x]) := fun L x => app_le (by have := fle L; simp; omega)
      rw [step D hlt, step S hks] at ih
      simp only [hlt, decide_true, cond_true, law12_OrderStable_j12, law12_OrderStable_j13, law12_OrderStable_j14, idx_lt hlt, idx_lt hi, idx_lt hks, c1, c2, Option.bind_some, ha, wrapS (show k < 9223372036854775807 by omega)]
      unfold eqTo at ih ⊢
      cases e1 : (cmpO l D[k] D[i] == 0) <;> cases e2 : (cmpO l S[k] D[i] == 0) <;> rw [e1, e2] at ih <;> exact ih
    · have : k = D.length := by omega
      subst this
      have e1 : S.take D.length = S := by rw [← hSl]; exact List.take_length
      simp only [Nat.lt_irrefl, decide_false, cond_false, List.take_length, e1]
theorem ostab_l8 (m : Nat) (hm : 300000000000 ≤ m) (l D : List Dt) (hl : l.length ≤ 100) (hD : ∀ d ∈ D, DocOK d) (hDl : D.length ≤ 1000) : ∀ (M i : Nat), i ≤ D.length → D.length - i < M → law12_OrderStable_l8 (m + 4) M l D (sortD l D) (D.length : Int) (i : Int) = some true
  | 0, i, _, h => by omega
  | M + 1, i, hi, h => by
    have hsw := swo (tpoO l)
    simp only [law12_OrderStable_l8, dlt]
    by_cases hlt : i < D.length
    · have h11 := ostab_l11 m hm (law12_OrderStable_l8 (m + 4) M) l D (sortD l D) hl hD (fun d hd => hD d (mem_isort.1 hd)) (isort_len D) hDl i hlt (m + 5) 0 (Nat.zero_le _) (by omega)
      simp only [List.take_zero, List.filter_nil] at h11
      have h11' : law12_OrderStable_l11 (m + 4) (law12_OrderStable_l8 (m + 4) M) (Nat.succ (m + 4)) l D (sortD l D) (i : Int) (D.length : Int) (i : Int) ((D.length : Nat) : Int) 0 [] [] = _ := h11
      have hf : (sortD l D).filter (eqTo l D[i]) = D.filter (eqTo l D[i]) := filter_isort hsw _ (eqTo_ok l D[i]) D
      have hsame := doc_same (m + 2) (by omega) (D.filter (eqTo l D[i])) (fun d hd => hD d (List.mem_filter.1 hd).1) (Nat.le_trans (List.length_filter_le _ _) hDl)
      have hsame' : law03_SameList (m + 4) (D.filter (eqTo l D[i])) (D.filter (eqTo l D[i])) = some true := hsame
      simp only [hlt, decide_true, cond_true, law12_OrderStable_j9, law12_OrderStable_j10, h11', law12_OrderStable_j15, hf, hsame', Option.bind_some, Bool.not_true, cond_false, law12_OrderStable_j16, wrapS (show i < 9223372036854775807 by omega)]
      exact ostab_l8 m hm l D hl hD hDl M (i + 1) (by omega) (by omega)
    · simp only [hlt, decide_false, cond_false, law12_OrderStable_j17, awakeC, Option.bind_some]
theorem asc_next {lt : Dt → Dt → Bool} : ∀ {s : List Dt}, Asc lt s → ∀ i (h : i + 1 < s.length), lt s[i + 1] s[i] = false
  | [], _, i, h => by simp at h
  | x :: s, hs, 0, h => by
    have h' : 0 < s.length := by simpa using h
    exact hs.1 s[0] (List.getElem_mem h')
  | x :: s, hs, i + 1, h => by
    have h' : i + 1 < s.length := by simpa using h
    exact asc_next hs.2 i h'
theorem ostab_l3 (m : Nat) (hm : 300000000000 ≤ m) (l D : List Dt) (hl : l.length ≤ 100) (hD : ∀ d ∈ D, DocOK d) (hDl : D.length ≤ 1000) : ∀ (M i : Nat), i ≤ D.length → D.length - i < M → law12_OrderStable_l3 (m + 4) M l D (sortD l D) (D.length : Int) (i : Int) = some true
  | 0, i, _, h => by omega
  | M + 1, i, hi, h => by
    have hsw := swo (tpoO l)
    have hlen : (sortD l D).length = D.length := isort_len D
    simp only [law12_OrderStable_l3, dlt]
    by_cases hlt : i < D.length
    · have ih := ostab_l3 m hm l D hl hD hDl M (i + 1) (by omega) (by omega)
      simp only [hlt, decide_true, cond_true, law12_OrderStable_j4, law12_OrderStable_j5, wrapS (show i < 9223372036854775807 by omega)]
      cases i with
      | zero =>
        have e : decide ((0 : Int) < ((0 : Nat) : Int)) = false := rfl
        simp only [e, cond_false]
        exact ih
      | succ i =>
        have e : decide ((0 : Int) < ((i + 1 : Nat) : Int)) = true := decide_eq_true (by omega)
        have ei : IntKind.wrap IntKind.i64 (((i + 1 : Nat) : Int) - 1) = (i : Int) := wrN (by omega) (by omega)
        have h1 : i < (sortD l D).length := by omega
        have h2 : i + 1 < (sortD l D).length := by omega
        have c1 := oCompare_eq m hm l (sortD l D)[i] (sortD l D)[i + 1] (hD _ (mem_isort.1 (List.getElem_mem h1))) (hD _ (mem_isort.1 (List.getElem_mem h2))) hl
        have hn := asc_next (asc_isort hsw D) i (by rw [isort_len]; omega)
        have hn' : ¬ (0 < cmpO l (sortD l D)[i] (sortD l D)[i + 1]) := by
          have h3 : ¬ (cmpO l (sortD l D)[i + 1] (sortD l D)[i] < 0) := of_decide_eq_false hn
          have := (tpoO l).anti (sortD l D)[i] (sortD l D)[i + 1]
          omega
        simp only [e, cond_true, ei, idx_lt h1, idx_lt h2, c1, Option.bind_some, hn', decide_false, cond_false]
        exact ih
    · have h8 := ostab_l8 m hm l D hl hD hDl (m + 5) 0 (Nat.zero_le _) (by omega)
      simp only [hlt, decide_false, cond_false, law12_OrderStable_j6, law12_OrderStable_j7]
      exact h8
theorem law_ostable (l D : List Dt) (hD : ∀ d ∈ D, WV d ∧ d.bulk ≤ 1048576) : law12_OrderStable (400000000000 + 1) l D = some true := by
  obtain ⟨s, h1, h2⟩ := small_eq 399999999998 (by omega) (by omega) l D hD
  have h1' : law12_Small 400000000000 l D = some s := h1
  simp only [law12_OrderStable, h1', Option.bind_some]
  cases s
  · simp only [Bool.not_false, cond_true, awakeC, Option.bind_some]
  · obtain ⟨h3, h4, h5⟩ := h2 rfl
    have k1 : order_Sort 400000000000 l D = some (sortD l D) := oSort_eq 399999999995 (by omega) l D (by omega) h5 (by omega)
    have hlen : (sortD l D).length = D.length := isort_len D
    have h3' := ostab_l3 399999999996 (by omega) l D (by omega) h5 (by omega) 400000000001 0 (Nat.zero_le _) (by omega)
    have h3'' : law12_OrderStable_l3 400000000000 (Nat.succ 400000000000) l D (sortD l D) ((D.length : Nat) : Int) 0 = some true := h3'
    simp only [Bool.not_true, cond_false, law12_OrderStable_j0, k1, Option.bind_some, hlen, bne_self_eq_false, law12_OrderStable_j1, law12_OrderStable_j2, h3'']
theorem docs_ok {d : Dt} (h : HasTy Tryd.prog 27 d) (hb : d.bulk ≤ 1048576) : d = .lst d.toLst ∧ ∀ e ∈ d.toLst, WV e ∧ e.bulk ≤ 1048576 := by
  obtain ⟨h1, _, h3⟩ := ty_lst Tryd.underlying27 h
  refine ⟨h1, fun e he => ⟨wv_of (h3 e he), ?_⟩⟩
  have h5 := bulk_memA he
  rw [h1] at hb
  simp only [Dt.bulk] at hb
  omega
theorem osort_fx {ds : List Dt} (h : HasTys Tryd.prog Tryd.f6.params.toList ds) (hb : Dt.bulkL ds ≤ 1048576) : FX Tryd.prog 6 (dats Tryd.f6.params.toList ds) [] (.dat 4 (.bool true)) [] := by
  have h' : HasTys Tryd.prog [22, 27, 3] ds := h
  cases h' with
  | @cons _ l _ _ h1 r => cases r with
    | @cons _ a _ _ h2 r => cases r with
      | @cons _ b _ _ h3 r =>
        cases r
        simp only [Dt.bulkL] at hb
        obtain ⟨e2, hD⟩ := docs_ok h2 (by omega)
        rw [(ty_lst Tryd.underlying22 h1).1, e2, (ty_int Tryd.underlying3 h3).1]
        exact law12_OrderSort_fx 400000000000 (ct_ok 400000000000) _ _ _ (law_osort _ _ _ hD)
theorem ostable_fx {ds : List Dt} (h : HasTys Tryd.prog Tryd.f8.params.toList ds) (hb : Dt.bulkL ds ≤ 1048576) : FX Tryd.prog 8 (dats Tryd.f8.params.toList ds) [] (.dat 4 (.bool true)) [] := by
  have h' : HasTys Tryd.prog [22, 27] ds := h
  cases h' with
  | @cons _ l _ _ h1 r => cases r with
    | @cons _ a _ _ h2 r =>
      cases r
      simp only [Dt.bulkL] at hb
      obtain ⟨e2, hD⟩ := docs_ok h2 (by omega)
      rw [(ty_lst Tryd.underlying22 h1).1, e2]
      exact law12_OrderStable_fx 400000000000 (ct_ok 400000000000) _ _ (law_ostable _ _ hD)
end Go.Proofs.YtacchdeihafmnaaDoor
