/- Accumulators of numbers: states, and what is added. -/
import Derived.Test.YtacpcknpliomoaaGreatUA
import Derived.Test.YtacpcknpliomoaaGreatOAcc
set_option linter.unusedVariables false
set_option linter.unusedSimpArgs false
namespace Go.Proofs.YtacpcknpliomoaaGreat
open Go.Am
def emq : ByteArray := ByteArray.mk (List.toArray [])
def zv : Dt := .agg [.int 0, .int 0, .str emq, .lst [], .lst []]
def vd : Option Int → Dt
  | none => zv
  | some n => inD n
/-- A state over numbers. -/
def pd (op : Int) (q : Int × Int × Option Int) : Dt := .agg [.int op, .int q.1, .int q.2.1, vd q.2.2, .lst [], .lst []]
def aD (op : Int) : Dt := .agg [.str emq, .int op, exA, .lst [], .int 0]
def w64 (n : Int) : Int := IntKind.wrap .i64 n
def cmpI (k a : Int) : Int := if k < a then -1 else if a < k then 1 else 0
def btr (g : Int) (v : Option Int) (k : Int) : Option Int := match v with
  | none => some k
  | some a => if cmpI k a * g < 0 then some k else some a
def stp (op : Int) (q : Int × Int × Option Int) (k : Int) : Int × Int × Option Int :=
  if op = 1 then (w64 (q.1 + k), q.2.1, q.2.2) else if op = 2 then (q.1, w64 (q.2.1 + 1), q.2.2) else if op = 3 then (w64 (q.1 + k), w64 (q.2.1 + 1), q.2.2)
  else if op = 4 then (q.1, q.2.1, btr 1 q.2.2 k) else if op = 5 then (q.1, q.2.1, btr (-1) q.2.2 k) else if op = 6 then (q.1, w64 (q.2.1 + 1), if q.2.1 = 0 then some k else q.2.2) else (q.1, w64 (q.2.1 + 1), some k)
theorem wv_vd (v : Option Int) : WV (vd v) := by cases v <;> exact .mk (by simp) (by simp)
theorem vd_bulk (v : Option Int) : (vd v).bulk = 6 := by cases v <;> rfl
theorem copy_vd (m : Nat) (v : Option Int) : accum_copyValue (m + 7) (vd v) = some (vd v) := acopy_eq 6 (vd v) (by rw [vd_bulk]; exact Nat.le_refl _) (by omega) (wv_vd v) (m + 6) (by omega)
theorem copy_pd (m : Nat) (op : Int) (q : Int × Int × Option Int) : accum_copyPart (m + 8) (pd op q) = some (pd op q) := by
  rw [accum_copyPart]
  show Option.bind (accum_copyValue (m + 7) (vd q.2.2)) _ = _
  rw [copy_vd, Option.bind_some]
  rfl
theorem cmpC_eq (m : Nat) (k a : Int) : cmp_Compare (m + 2) k a = some (cmpI k a) := by
  simp only [cmp_Compare, cmp_isNaN, bne_self_eq_false, Option.bind_some, cond_false, cmp_Compare_j1, cmp_Compare_j2, cmp_Compare_j3, cmp_Compare_j4]
  unfold cmpI
  by_cases h1 : k < a
  · rw [if_pos h1, decide_eq_true h1]; rfl
  · rw [if_neg h1, decide_eq_false h1, cond_false]
    by_cases h2 : a < k
    · rw [if_pos h2, decide_eq_true h2]; rfl
    · rw [if_neg h2, decide_eq_false h2]; rfl
theorem vcmp_eq (m : Nat) (k a : Int) : value_Compare (m + 3) (inD k) (inD a) = some (cmpI k a) := by
  show Option.bind (cmp_Compare (m + 2) k a) _ = _
  rw [cmpC_eq]
  rfl
theorem btr_eq (m : Nat) (g : Int) (hg : g = 1 ∨ g = -1) (v : Option Int) (k : Int) : accum_extremeRule_better (m + 4) (.agg [.int g]) (vd v) (inD k) = some (vd (btr g v k)) := by
  cases v with
  | none => rfl
  | some a =>
    show Option.bind (value_Compare (m + 3) (inD k) (inD a)) _ = _
    rw [vcmp_eq, Option.bind_some]
    show (bif (decide (IntKind.wrap .i64 (cmpI k a * g) < 0)) then some (inD k) else some (inD a)) = some (vd (if cmpI k a * g < 0 then some k else some a))
    have h : -1 ≤ cmpI k a ∧ cmpI k a ≤ 1 := by unfold cmpI; split <;> (try split) <;> omega
    have hw : IntKind.wrap .i64 (cmpI k a * g) = cmpI k a * g := by rcases hg with rfl | rfl <;> exact wrap64 (by omega) (by omega)
    rw [hw]
    by_cases h1 : cmpI k a * g < 0
    · rw [if_pos h1, decide_eq_true h1]; rfl
    · rw [if_neg h1, decide_eq_false h1]; rfl
theorem add_eq (m : Nat) (op : Int) (h1 : 1 ≤ op) (h7 : op ≤ 7) (q : Int × Int × Option Int) (k : Int) : accum_Add (m + 9) (aD op) (pd op q) (doD k) = some (pd op (stp op q k)) := by
  have hc := copy_pd m op q
  have he := expr_EvalC_eq k
  obtain ⟨s, c, v⟩ := q
  have e : op = 1 ∨ op = 2 ∨ op = 3 ∨ op = 4 ∨ op = 5 ∨ op = 6 ∨ op = 7 := by omega
  rw [accum_Add, hc, Option.bind_some]
  rcases e with rfl | rfl | rfl | rfl | rfl | rfl | rfl
  · show Option.bind (Option.bind (expr_EvalC exA (doD k)) _) _ = _
    rw [he]; rfl
  · rfl
  · show Option.bind (Option.bind (expr_EvalC exA (doD k)) _) _ = _
    rw [he]; rfl
  · show Option.bind (Option.bind (expr_EvalC exA (doD k)) _) _ = _
    rw [he, Option.bind_some]
    show Option.bind (Option.bind (accum_extremeRule_better (m + 7) (.agg [.int 1]) (vd v) (inD k)) _) _ = _
    rw [btr_eq (m + 3) 1 (.inl rfl)]; rfl
  · show Option.bind (Option.bind (expr_EvalC exA (doD k)) _) _ = _
    rw [he, Option.bind_some]
    show Option.bind (Option.bind (accum_extremeRule_better (m + 7) (.agg [.int (-1)]) (vd v) (inD k)) _) _ = _
    rw [btr_eq (m + 3) (-1) (.inr rfl)]; rfl
  · show Option.bind (bif (c == 0) then Option.bind (expr_EvalC exA (doD k)) _ else _) _ = _
    rw [he]
    by_cases h0 : c = 0
    · subst h0; rfl
    · rw [show (c == 0) = false by simp [h0]]
      show some (pd 6 (s, w64 (c + 1), v)) = some (pd 6 (s, w64 (c + 1), if c = 0 then some k else v))
      rw [if_neg h0]
  · show Option.bind (Option.bind (expr_EvalC exA (doD k)) _) _ = _
    rw [he]; rfl
theorem run_loop (m : Nat) (op : Int) (h1 : 1 ≤ op) (h7 : op ≤ 7) (ks : List Int) (hl : ks.length < 9223372036854775807) (z : Dt) : ∀ (M i : Nat) (q : Int × Int × Option Int), i ≤ ks.length → ks.length - i < M →
    law32_run_l1 (m + 9) M (ks.map doD) (i : Int) (aD op) z (pd op q) = some (pd op ((ks.drop i).foldl (stp op) q))
  | 0, i, _, _, h => by omega
  | M + 1, i, q, hi, h => by
    rw [law32_run_l1, List.length_map, dlt]
    by_cases hlt : i < ks.length
    · have e1 : idx (ks.map doD) (i : Int) = some (doD ks[i]) := by rw [idx_lt (by simpa using hlt)]; simp
      rw [decide_eq_true hlt, cond_true, law32_run_j2, e1, Option.bind_some, add_eq m op h1 h7, Option.bind_some, law32_run_j3, wrapS (by omega), List.drop_eq_getElem_cons hlt, List.foldl_cons]
      exact run_loop m op h1 h7 ks hl z M (i + 1) _ (by omega) (by omega)
    · have e : i = ks.length := by omega
      subst e
      simp [law32_run_j4]
theorem run_eq (m : Nat) (op : Int) (h1 : 1 ≤ op) (h7 : op ≤ 7) (ks : List Int) (hl : ks.length ≤ m) (hm : m < 1000000000000) : law32_run (m + 10) (aD op) (ks.map doD) = some (pd op (ks.foldl (stp op) (0, 0, none))) := by
  show law32_run_l1 (m + 9) (m + 10) (ks.map doD) ((0 : Nat) : Int) (aD op) _ (pd op (0, 0, none)) = _
  rw [run_loop m op h1 h7 ks (by omega) _ (m + 10) 0 _ (by omega) (by omega), List.drop_zero]
def nuD : Dt := .agg [.int 2, .int 0, .str emq, .lst [], .lst []]
def orN : Option Int → Dt
  | none => nuD
  | some a => inD a
def avgI (s c : Int) : Int := if s.tmod c ≠ 0 ∧ decide (s < 0) ≠ decide (c < 0) then w64 (w64 (s.tdiv c) - 1) else w64 (s.tdiv c)
def resD (op : Int) (q : Int × Int × Option Int) : Dt :=
  if op = 1 then inD q.1 else if op = 2 then inD q.2.1 else if op = 3 then (if q.2.1 = 0 then nuD else inD (avgI q.1 q.2.1)) else orN q.2.2
theorem copy_in (m : Nat) (n : Int) : accum_copyValue (m + 7) (inD n) = some (inD n) := copy_vd m (some n)
theorem copy_nu (m : Nat) : accum_copyValue (m + 7) nuD = some nuD := acopy_eq 6 nuD (Nat.le_refl _) (by omega) (.mk (by simp) (by simp)) (m + 6) (by omega)
theorem copy_or (m : Nat) (v : Option Int) : accum_copyValue (m + 7) (orN v) = some (orN v) := by
  cases v with
  | none => exact copy_nu m
  | some a => exact copy_in m a
theorem orN_eq (m : Nat) (v : Option Int) : accum_orNull (m + 1) (vd v) = some (orN v) := by cases v <;> rfl
theorem res_eq (m : Nat) (op : Int) (h1 : 1 ≤ op) (h7 : op ≤ 7) (q : Int × Int × Option Int) : accum_Result (m + 9) (aD op) (pd op q) = some (resD op q) := by
  obtain ⟨s, c, v⟩ := q
  have e : op = 1 ∨ op = 2 ∨ op = 3 ∨ op = 4 ∨ op = 5 ∨ op = 6 ∨ op = 7 := by omega
  rcases e with rfl | rfl | rfl | rfl | rfl | rfl | rfl
  · show Option.bind (accum_copyValue (m + 1 + 7) (inD s)) _ = _
    rw [copy_in]; rfl
  · show Option.bind (accum_copyValue (m + 1 + 7) (inD c)) _ = _
    rw [copy_in]; rfl
  · show Option.bind (bif (c == 0) then some nuD else accum_avgRule_result_j0 (m + 7) (pd 3 (s, c, v)) _) _ = some (if c = 0 then nuD else inD (avgI s c))
    by_cases h0 : c = 0
    · subst h0
      show Option.bind (accum_copyValue (m + 1 + 7) nuD) _ = _
      rw [copy_nu]; rfl
    · rw [show (c == 0) = false by simp [h0], cond_false, if_neg h0]
      have ha : accum_avgRule_result_j0 (m + 7) (pd 3 (s, c, v)) kzc575d = some (inD (avgI s c)) := by
        rw [accum_avgRule_result_j0]
        show (bif (decide (c = 0)) then none else bif (decide (c = 0)) then none else bif (s.tmod c != 0) then accum_avgRule_result_j1 (m + 7) (w64 (s.tdiv c)) (!(decide (s < 0) == decide (c < 0))) kzc575d else accum_avgRule_result_j1 (m + 7) (w64 (s.tdiv c)) false kzc575d) = _
        rw [decide_eq_false h0, cond_false, cond_false]
        unfold avgI
        by_cases h2 : s.tmod c = 0
        · rw [show (s.tmod c != 0) = false by simp [h2], cond_false, if_neg (by simp [h2])]; rfl
        · rw [show (s.tmod c != 0) = true by simp [h2], cond_true]
          by_cases h3 : decide (s < 0) = decide (c < 0)
          · rw [if_neg (by simp [h3]), h3, beq_self_eq_true]; rfl
          · rw [if_pos ⟨h2, h3⟩, show (decide (s < 0) == decide (c < 0)) = false by simpa using h3]; rfl
      have hz : ∀ z, accum_avgRule_result_j0 (m + 7) (pd 3 (s, c, v)) z = accum_avgRule_result_j0 (m + 7) (pd 3 (s, c, v)) kzc575d := fun z => rfl
      rw [hz, ha, Option.bind_some, copy_in (m + 1)]
      rfl
  · show Option.bind (Option.bind (accum_orNull (m + 7) (vd v)) _) _ = _
    rw [orN_eq (m + 6), Option.bind_some]
    show Option.bind (accum_copyValue (m + 1 + 7) (orN v)) _ = _
    rw [copy_or]; rfl
  · show Option.bind (Option.bind (accum_orNull (m + 7) (vd v)) _) _ = _
    rw [orN_eq (m + 6), Option.bind_some]
    show Option.bind (accum_copyValue (m + 1 + 7) (orN v)) _ = _
    rw [copy_or]; rfl
  · show Option.bind (Option.bind (accum_orNull (m + 7) (vd v)) _) _ = _
    rw [orN_eq (m + 6), Option.bind_some]
    show Option.bind (accum_copyValue (m + 1 + 7) (orN v)) _ = _
    rw [copy_or]; rfl
  · show Option.bind (Option.bind (accum_orNull (m + 7) (vd v)) _) _ = _
    rw [orN_eq (m + 6), Option.bind_some]
    show Option.bind (accum_copyValue (m + 1 + 7) (orN v)) _ = _
    rw [copy_or]; rfl
end Go.Proofs.YtacpcknpliomoaaGreat
