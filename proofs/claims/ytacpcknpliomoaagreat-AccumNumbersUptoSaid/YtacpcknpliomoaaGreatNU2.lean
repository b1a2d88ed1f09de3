/- The law AccumNumbers. -/
import Derived.Test.YtacpcknpliomoaaGreatNU1
import Derived.Test.YtacpcknpliomoaaGreatFx
set_option linter.unusedVariables false
set_option linter.unusedSimpArgs false
namespace Go.Proofs.YtacpcknpliomoaaGreat
open Go.Am
def sumI (ks : List Int) : Int := ks.foldl (fun s k => w64 (s + k)) 0
def mnI (a : Int) (ks : List Int) : Int := ks.foldl (fun a k => if k < a then k else a) a
def mxI (a : Int) (ks : List Int) : Int := ks.foldl (fun a k => if a < k then k else a) a
theorem f1 (ks : List Int) : ∀ (s c : Int) (v : Option Int), ks.foldl (stp 1) (s, c, v) = (ks.foldl (fun s k => w64 (s + k)) s, c, v) := by
  induction ks with
  | nil => intro s c v; rfl
  | cons k ks ih => intro s c v; exact ih _ _ _
theorem w_succ {n : Nat} (h : n < 1000) : w64 ((n : Int) + 1) = ((n + 1 : Nat) : Int) := wrapS (by omega)
theorem f2 (ks : List Int) : ∀ (s : Int) (n : Nat) (v : Option Int), n + ks.length ≤ 500 → ks.foldl (stp 2) (s, (n : Int), v) = (s, ((n + ks.length : Nat) : Int), v) := by
  induction ks with
  | nil => intro s n v h; rfl
  | cons k ks ih =>
    intro s n v h
    simp only [List.length_cons] at h
    have := ih s (n + 1) v (by omega)
    rw [List.foldl_cons, show stp 2 (s, (n : Int), v) k = (s, w64 ((n : Int) + 1), v) from rfl, w_succ (by omega), this, List.length_cons]
    congr 3
    omega
theorem f3 (ks : List Int) : ∀ (s : Int) (n : Nat) (v : Option Int), n + ks.length ≤ 500 → ks.foldl (stp 3) (s, (n : Int), v) = (ks.foldl (fun s k => w64 (s + k)) s, ((n + ks.length : Nat) : Int), v) := by
  induction ks with
  | nil => intro s n v h; rfl
  | cons k ks ih =>
    intro s n v h
    simp only [List.length_cons] at h
    have := ih (w64 (s + k)) (n + 1) v (by omega)
    rw [List.foldl_cons, show stp 3 (s, (n : Int), v) k = (w64 (s + k), w64 ((n : Int) + 1), v) from rfl, w_succ (by omega), this, List.length_cons, List.foldl_cons]
    congr 3
    omega
theorem cmp_neg {k a : Int} : (cmpI k a * 1 < 0) ↔ k < a := by unfold cmpI; split <;> (try split) <;> omega
theorem cmp_pos {k a : Int} : (cmpI k a * (-1) < 0) ↔ a < k := by unfold cmpI; split <;> (try split) <;> omega
theorem f4 (ks : List Int) : ∀ (s c a : Int), ks.foldl (stp 4) (s, c, some a) = (s, c, some (mnI a ks)) := by
  induction ks with
  | nil => intro s c a; rfl
  | cons k ks ih =>
    intro s c a
    rw [List.foldl_cons, show stp 4 (s, c, some a) k = (s, c, if cmpI k a * 1 < 0 then some k else some a) from rfl]
    unfold mnI
    rw [List.foldl_cons]
    by_cases h : k < a
    · rw [if_pos (cmp_neg.2 h), if_pos h]; exact ih _ _ _
    · rw [if_neg (fun q => h (cmp_neg.1 q)), if_neg h]; exact ih _ _ _
theorem f5 (ks : List Int) : ∀ (s c a : Int), ks.foldl (stp 5) (s, c, some a) = (s, c, some (mxI a ks)) := by
  induction ks with
  | nil => intro s c a; rfl
  | cons k ks ih =>
    intro s c a
    rw [List.foldl_cons, show stp 5 (s, c, some a) k = (s, c, if cmpI k a * (-1) < 0 then some k else some a) from rfl]
    unfold mxI
    rw [List.foldl_cons]
    by_cases h : a < k
    · rw [if_pos (cmp_pos.2 h), if_pos h]; exact ih _ _ _
    · rw [if_neg (fun q => h (cmp_pos.1 q)), if_neg h]; exact ih _ _ _
theorem f6 (ks : List Int) : ∀ (s : Int) (n : Nat) (v : Option Int), 0 < n → n + ks.length ≤ 500 → ∃ c, ks.foldl (stp 6) (s, (n : Int), v) = (s, c, v) := by
  induction ks with
  | nil => intro s n v _ h; exact ⟨_, rfl⟩
  | cons k ks ih =>
    intro s n v h0 h
    simp only [List.length_cons] at h
    obtain ⟨c, hc⟩ := ih s (n + 1) v (by omega) (by omega)
    refine ⟨c, ?_⟩
    rw [List.foldl_cons, show stp 6 (s, (n : Int), v) k = (s, w64 ((n : Int) + 1), if (n : Int) = 0 then some k else v) from rfl, w_succ (by omega), if_neg (by omega)]
    exact hc
theorem f7 (ks : List Int) : ∀ (s c : Int) (v : Option Int), ∃ c', ks.foldl (stp 7) (s, c, v) = (s, c', ks.getLast?.or v) := by
  induction ks with
  | nil => intro s c v; exact ⟨c, rfl⟩
  | cons k ks ih =>
    intro s c v
    obtain ⟨c', h⟩ := ih s (w64 (c + 1)) (some k)
    refine ⟨c', ?_⟩
    rw [List.foldl_cons, show stp 7 (s, c, v) k = (s, w64 (c + 1), some k) from rfl, h]
    congr 2
    cases ks with
    | nil => rfl
    | cons x ks =>
      rw [List.getLast?_cons_cons]
      cases hq : (x :: ks).getLast? with
      | none => simp at hq
      | some y => rfl
/-- The result of an operator over numbers that are not none. -/
def resI (op : Int) (k : Int) (ks : List Int) : Int :=
  if op = 1 then sumI (k :: ks) else if op = 2 then ((k :: ks).length : Int) else if op = 3 then avgI (sumI (k :: ks)) ((k :: ks).length : Int)
  else if op = 4 then mnI k (k :: ks) else if op = 5 then mxI k (k :: ks) else if op = 6 then k else (k :: ks).getLast (by simp)
theorem mn_hd (k : Int) (ks : List Int) : mnI k (k :: ks) = mnI k ks := by unfold mnI; rw [List.foldl_cons, if_neg (by omega)]
theorem mx_hd (k : Int) (ks : List Int) : mxI k (k :: ks) = mxI k ks := by unfold mxI; rw [List.foldl_cons, if_neg (by omega)]
theorem res_cons (op : Int) (h1 : 1 ≤ op) (h7 : op ≤ 7) (k : Int) (ks : List Int) (hl : ks.length < 200) : resD op ((k :: ks).foldl (stp op) (0, 0, none)) = inD (resI op k ks) := by
  have e : op = 1 ∨ op = 2 ∨ op = 3 ∨ op = 4 ∨ op = 5 ∨ op = 6 ∨ op = 7 := by omega
  rcases e with rfl | rfl | rfl | rfl | rfl | rfl | rfl
  · rw [f1]; rfl
  · have := f2 (k :: ks) 0 0 none (by simp; omega)
    rw [Int.natCast_zero] at this
    rw [this, Nat.zero_add]; rfl
  · have := f3 (k :: ks) 0 0 none (by simp; omega)
    rw [Int.natCast_zero] at this
    rw [this, Nat.zero_add]
    show (if (((k :: ks).length : Nat) : Int) = 0 then nuD else inD _) = _
    rw [if_neg (by simp only [List.length_cons]; omega)]
    rfl
  · rw [List.foldl_cons, show stp 4 (0, 0, none) k = (0, 0, some k) from rfl, f4]
    show inD (mnI k ks) = inD (mnI k (k :: ks))
    rw [mn_hd]
  · rw [List.foldl_cons, show stp 5 (0, 0, none) k = (0, 0, some k) from rfl, f5]
    show inD (mxI k ks) = inD (mxI k (k :: ks))
    rw [mx_hd]
  · rw [List.foldl_cons, show stp 6 (0, 0, none) k = (0, ((1 : Nat) : Int), some k) from rfl]
    obtain ⟨c, hc⟩ := f6 ks 0 1 (some k) (by omega) (by omega)
    rw [hc]; rfl
  · obtain ⟨c, hc⟩ := f7 (k :: ks) 0 0 none
    rw [hc]
    show orN (((k :: ks).getLast?).or none) = inD ((k :: ks).getLast (by simp))
    rw [List.getLast?_eq_some_getLast (by simp)]
    rfl
theorem res_nil (op : Int) : resD op ((0, 0, none) : Int × Int × Option Int) = if op = 1 ∨ op = 2 then inD 0 else nuD := by
  unfold resD
  by_cases h1 : op = 1
  · rw [if_pos h1, if_pos (.inl h1)]
  · rw [if_neg h1]
    by_cases h2 : op = 2
    · rw [if_pos h2, if_pos (.inr h2)]
    · have hne : ¬ (op = 1 ∨ op = 2) := by omega
      rw [if_neg h2, if_neg hne]
      by_cases h3 : op = 3
      · rw [if_pos h3]; rfl
      · rw [if_neg h3]; rfl
/-- A quotient rounded down. -/
theorem avg_ok (s : Int) (n : Nat) (h0 : 0 < n) (hn : n ≤ 100) (hs1 : -9223372036854775808 ≤ s) (hs2 : s ≤ 9223372036854775807) : 0 ≤ w64 (s - w64 (avgI s n * n)) ∧ w64 (s - w64 (avgI s n * n)) < n := by
  have hq := Int.mul_tdiv_add_tmod s n
  have hm := Int.tmod_lt_of_pos s (show (0 : Int) < n by omega)
  have hm2 : -(n : Int) < s.tmod n := by
    rcases Int.le_total 0 s with h | h
    · have := Int.tmod_nonneg (n : Int) h; omega
    · have := Int.tmod_lt_of_pos (-s) (show (0 : Int) < n by omega)
      rw [Int.neg_tmod] at this; omega
  have hb : -9223372036854775808 ≤ s.tdiv n ∧ s.tdiv n ≤ 9223372036854775807 := by
    have h3 : (s.tdiv n).natAbs ≤ s.natAbs := by rw [Int.natAbs_tdiv]; exact Nat.div_le_self _ _
    rcases Int.lt_or_le s 0 with h | h
    · have := Int.tdiv_nonneg (show 0 ≤ -s by omega) (show (0 : Int) ≤ n by omega)
      rw [Int.neg_tdiv] at this
      omega
    · omega
  obtain ⟨q, hqe⟩ : ∃ q, q = (if s.tmod n ≠ 0 ∧ decide (s < 0) ≠ decide ((n : Int) < 0) then s.tdiv n - 1 else s.tdiv n) := ⟨_, rfl⟩
  have hdn : decide ((n : Int) < 0) = false := by rw [decide_eq_false_iff_not]; omega
  have hsg : s.tmod n = 0 ∨ (0 ≤ s ∧ 0 < s.tmod n) ∨ (s < 0 ∧ s.tmod n < 0) := by
    rcases Int.lt_or_le s 0 with h | h
    · have := Int.tmod_nonneg (n : Int) (show 0 ≤ -s by omega)
      rw [Int.neg_tmod] at this; omega
    · have := Int.tmod_nonneg (n : Int) h; omega
  have hqb : -9223372036854775808 ≤ q ∧ q ≤ 9223372036854775807 := by
    rw [hqe]
    split
    · rename_i h
      have hs : s < 0 := by
        rw [hdn] at h
        have := h.2
        simpa using this
      refine ⟨?_, by omega⟩
      rcases hsg with h4 | h4 | h4
      · exact absurd h4 h.1
      · omega
      · have : s.tdiv n ≠ -9223372036854775808 := by
          intro e
          rw [e] at hq
          have : (n : Int) * -9223372036854775808 ≤ -9223372036854775808 := by
            have := Int.mul_le_mul_of_nonneg_right (show (1 : Int) ≤ n by omega) (show (0 : Int) ≤ 9223372036854775808 by omega)
            omega
          omega
        omega
    · exact hb
  have ha : avgI s n = q := by
    unfold avgI
    rw [hqe]
    split
    · rename_i h
      rw [hqe, if_pos h] at hqb
      unfold w64
      rw [wrap64 hb.1 hb.2, wrap64 hqb.1 hqb.2]
    · unfold w64
      rw [wrap64 hb.1 hb.2]
  have hr : 0 ≤ s - q * n ∧ s - q * n < n := by
    rw [hqe]
    rw [Int.mul_comm] at hq
    split
    · rename_i h
      have hs : s < 0 := by
        rw [hdn] at h
        have := h.2
        simpa using this
      rw [Int.sub_mul, Int.one_mul]
      rcases hsg with h4 | h4 | h4
      · exact absurd h4 h.1
      · omega
      · omega
    · rename_i h
      rcases hsg with h4 | h4 | h4
      · omega
      · omega
      · exact absurd ⟨by omega, by rw [hdn, decide_eq_true h4.1]; simp⟩ h
  rw [ha]
  generalize q * (n : Int) = p at hr
  unfold w64
  rcases Int.lt_or_le p (-9223372036854775808) with h | h
  · have e1 : IntKind.wrap .i64 p = p + 18446744073709551616 := by
      unfold IntKind.wrap
      simp only [IntKind.bits, IntKind.signed, Bool.true_and, Nat.add_one_sub_one]
      split <;> rename_i h <;> simp only [ge_iff_le, decide_eq_true_eq] at h <;> omega
    rw [e1]
    have e2 : IntKind.wrap .i64 (s - (p + 18446744073709551616)) = s - p := by
      unfold IntKind.wrap
      simp only [IntKind.bits, IntKind.signed, Bool.true_and, Nat.add_one_sub_one]
      split <;> rename_i h <;> simp only [ge_iff_le, decide_eq_true_eq] at h <;> omega
    rw [e2]
    exact hr
  · rw [wrap64 h (by omega), wrap64 (by omega) (by omega)]
    exact hr
theorem sum_in (ks : List Int) : ∀ s : Int, -9223372036854775808 ≤ s → s ≤ 9223372036854775807 → -9223372036854775808 ≤ ks.foldl (fun s k => w64 (s + k)) s ∧ ks.foldl (fun s k => w64 (s + k)) s ≤ 9223372036854775807 := by
  induction ks with
  | nil => intro s h1 h2; exact ⟨h1, h2⟩
  | cons k ks ih =>
    intro s h1 h2
    have h := wrap_in .i64 (s + k)
    simp only [IntKind.min, IntKind.max, IntKind.bits, IntKind.signed] at h
    exact ih _ (by unfold w64; simpa using h.1) (by unfold w64; have := h.2; simp at this; omega)
def intL (ks : List Int) : List Dt := ks.map Dt.int
theorem idx_int {ks : List Int} {i : Nat} (h : i < ks.length) : idx (intL ks) (i : Int) = some (.int ks[i]) := by
  rw [idx_lt (by simpa [intL] using h)]; simp [intL]
/-- The loop of the least and the greatest one. -/
theorem ext_loop (m : Nat) (rec7 : List Dt → List Dt → Int → Int → Option Bool) (ks : List Int) (hl : ks.length < 1000) (ds : List Dt) (s op : Int) (r : Dt) : ∀ (M i : Nat) (a b : Int), i ≤ ks.length → ks.length - i < M →
    law32_AccumNumbers_l14 m rec7 M (intL ks) ds s op a b (i : Int) r = law32_AccumNumbers_j18 m rec7 (intL ks) ds s op (mnI a (ks.drop i)) (mxI b (ks.drop i)) r
  | 0, i, _, _, _, h => by omega
  | M + 1, i, a, b, hi, h => by
    have hll : (intL ks).length = ks.length := by simp [intL]
    rw [law32_AccumNumbers_l14, hll, dlt]
    by_cases hlt : i < ks.length
    · have ih := fun a b => ext_loop m rec7 ks hl ds s op r M (i + 1) a b (by omega) (by omega)
      have h16 : ∀ a b, law32_AccumNumbers_j16 m rec7 (law32_AccumNumbers_l14 m rec7 M) (intL ks) ds s op a b (i : Int) r = law32_AccumNumbers_j18 m rec7 (intL ks) ds s op (mnI a (ks.drop (i + 1))) (mxI (if b < ks[i] then ks[i] else b) (ks.drop (i + 1))) r := by
        intro a b
        rw [law32_AccumNumbers_j16, idx_int hlt, Option.bind_some]
        show (bif (decide (b < ks[i])) then _ else _) = _
        by_cases h2 : b < ks[i]
        · rw [if_pos h2, decide_eq_true h2, cond_true, Option.bind_some, law32_AccumNumbers_j17, wrapS (by omega)]
          exact ih _ _
        · rw [if_neg h2, decide_eq_false h2, cond_false, law32_AccumNumbers_j17, wrapS (by omega)]
          exact ih _ _
      rw [decide_eq_true hlt, cond_true, law32_AccumNumbers_j15, idx_int hlt, Option.bind_some, List.drop_eq_getElem_cons hlt]
      show (bif (decide (ks[i] < a)) then _ else _) = _
      rw [show mnI a (ks[i] :: ks.drop (i + 1)) = mnI (if ks[i] < a then ks[i] else a) (ks.drop (i + 1)) from rfl, show mxI b (ks[i] :: ks.drop (i + 1)) = mxI (if b < ks[i] then ks[i] else b) (ks.drop (i + 1)) from rfl]
      by_cases h2 : ks[i] < a
      · rw [if_pos h2, decide_eq_true h2, cond_true, Option.bind_some]
        exact h16 _ _
      · rw [if_neg h2, decide_eq_false h2, cond_false]
        exact h16 _ _
    · have e : i = ks.length := by omega
      subst e
      simp [mnI, mxI]
/-- One operator's round. -/
theorem op_round (m : Nat) (hm : 2000 ≤ m) (hm2 : m < 100000000000) (rec7 : List Dt → List Dt → Int → Int → Option Bool) (ks : List Int) (hl : ks.length ≤ 100) (op : Int) (h1 : 1 ≤ op) (h7 : op ≤ 7) :
    law32_AccumNumbers_j8 m rec7 (intL ks) (ks.map doD) (sumI ks) op = rec7 (intL ks) (ks.map doD) (sumI ks) (op + 1) := by
  obtain ⟨q, rfl⟩ : ∃ q, m = q + 10 := ⟨m - 10, by omega⟩
  have hr := run_eq q op h1 h7 ks (by omega) (by omega)
  have hs := res_eq (q + 1) op h1 h7 (ks.foldl (stp op) (0, 0, none))
  have hw : IntKind.wrap .i64 (op + 1) = op + 1 := wrap64 (by omega) (by omega)
  have hll : (intL ks).length = ks.length := by simp [intL]
  have h10 : law32_AccumNumbers_j10 (q + 10) rec7 (intL ks) (ks.map doD) (sumI ks) op = rec7 (intL ks) (ks.map doD) (sumI ks) (op + 1) := by rw [law32_AccumNumbers_j10, hw]
  rw [law32_AccumNumbers_j8]
  show Option.bind (law32_run (q + 10) (aD op) (ks.map doD)) _ = _
  rw [hr, Option.bind_some]
  show Option.bind (accum_Result (q + 10) (aD op) _) _ = _
  rw [hs, Option.bind_some, hll]
  cases ks with
  | nil =>
    rw [List.foldl_nil, res_nil]
    show (bif (((0 : Nat) : Int) == 0) then _ else _) = _
    rw [show (((0 : Nat) : Int) == 0) = true from rfl, cond_true]
    have e : op = 1 ∨ op = 2 ∨ op = 3 ∨ op = 4 ∨ op = 5 ∨ op = 6 ∨ op = 7 := by omega
    rcases e with rfl | rfl | rfl | rfl | rfl | rfl | rfl <;> exact h10
  | cons k ks =>
    rw [res_cons op h1 h7 k ks (by simp at hl; omega)]
    have e0 : (((k :: ks).length : Int) == 0) = false := by rw [beq_eq_false_iff_ne]; simp only [List.length_cons]; omega
    rw [e0, cond_false, law32_AccumNumbers_j11]
    show law32_AccumNumbers_j12 (q + 10) rec7 (intL (k :: ks)) ((k :: ks).map doD) (sumI (k :: ks)) op (inD (resI op k ks)) = _
    rw [law32_AccumNumbers_j12]
    show law32_AccumNumbers_l14 (q + 10) rec7 (q + 11) (intL (k :: ks)) ((k :: ks).map doD) (sumI (k :: ks)) op k k ((0 : Nat) : Int) (inD (resI op k ks)) = _
    rw [ext_loop (q + 10) rec7 (k :: ks) (by omega) _ _ _ _ (q + 11) 0 k k (by omega) (by omega), List.drop_zero, law32_AccumNumbers_j18, hll]
    have no : ∀ x : Int, (x != x) = false := fun x => bne_self_eq_false x
    have e : op = 1 ∨ op = 2 ∨ op = 3 ∨ op = 4 ∨ op = 5 ∨ op = 6 ∨ op = 7 := by omega
    rcases e with rfl | rfl | rfl | rfl | rfl | rfl | rfl
    · show (bif (sumI (k :: ks) != sumI (k :: ks)) then _ else _) = _
      rw [no]; exact h10
    · show (bif (((k :: ks).length : Int) != ((k :: ks).length : Int)) then _ else _) = _
      rw [no]; exact h10
    · have hb := sum_in (k :: ks) 0 (by omega) (by omega)
      have ha := avg_ok (sumI (k :: ks)) (k :: ks).length (by simp) hl hb.1 hb.2
      show (bif (decide (w64 (sumI (k :: ks) - w64 (avgI (sumI (k :: ks)) ((k :: ks).length : Int) * ((k :: ks).length : Int))) < 0)) then _ else law32_AccumNumbers_j19 (q + 10) rec7 (intL (k :: ks)) ((k :: ks).map doD) (sumI (k :: ks)) 3 (decide (((k :: ks).length : Int) ≤ w64 (sumI (k :: ks) - w64 (avgI (sumI (k :: ks)) ((k :: ks).length : Int) * ((k :: ks).length : Int)))))) = _
      rw [decide_eq_false (by omega), cond_false, decide_eq_false (by omega), law32_AccumNumbers_j19, cond_false]
      exact h10
    · show (bif (mnI k (k :: ks) != mnI k (k :: ks)) then _ else _) = _
      rw [no]; exact h10
    · show (bif (mxI k (k :: ks) != mxI k (k :: ks)) then _ else _) = _
      rw [no]; exact h10
    · show (bif (k != k) then _ else _) = _
      rw [no]; exact h10
    · have hx : idx (intL (k :: ks)) (IntKind.wrap .i64 (((k :: ks).length : Int) - 1)) = some (.int ((k :: ks).getLast (by simp))) := by
        have hwl : IntKind.wrap .i64 (((k :: ks).length : Int) - 1) = ((ks.length : Nat) : Int) := by
          rw [wrap64 (by simp only [List.length_cons]; omega) (by simp only [List.length_cons] at hl ⊢; omega)]
          simp only [List.length_cons]; omega
        rw [hwl, idx_int (by simp), List.getLast_eq_getElem]
        simp
      show Option.bind (idx (intL (k :: ks)) (IntKind.wrap .i64 (((k :: ks).length : Int) - 1))) _ = _
      rw [hx, Option.bind_some]
      show (bif ((k :: ks).getLast (by simp) != (k :: ks).getLast (by simp)) then _ else _) = _
      rw [no]; exact h10
theorem op_loop (m : Nat) (hm : 2000 ≤ m) (hm2 : m < 100000000000) (ks : List Int) (hl : ks.length ≤ 100) : ∀ (M : Nat) (op : Int), 1 ≤ op → op ≤ 8 → (8 - op).toNat < M → law32_AccumNumbers_l7 m M (intL ks) (ks.map doD) (sumI ks) op = some true
  | 0, op, _, _, h => by omega
  | M + 1, op, h1, h8, h => by
    rw [law32_AccumNumbers_l7]
    by_cases h7 : op ≤ 7
    · rw [decide_eq_true h7, cond_true, op_round m hm hm2 _ ks hl op h1 h7]
      exact op_loop m hm hm2 ks hl M (op + 1) (by omega) (by omega) (by omega)
    · rw [decide_eq_false h7, cond_false]
      rfl
theorem doc_loop (m : Nat) (ks : List Int) (hl : ks.length ≤ 100) : ∀ (M i : Nat) (s : Int), i ≤ ks.length → ks.length - i < M →
    law32_AccumNumbers_l2 (m + 2) M (intL ks) s (i : Int) ((ks.take i).map doD) = law32_AccumNumbers_j5 (m + 2) (intL ks) (ks.map doD) ((ks.drop i).foldl (fun s k => w64 (s + k)) s)
  | 0, i, _, _, h => by omega
  | M + 1, i, s, hi, h => by
    have hll : (intL ks).length = ks.length := by simp [intL]
    rw [law32_AccumNumbers_l2, hll, dlt]
    by_cases hlt : i < ks.length
    · have e5 : (ks.take i).map doD ++ [doD ks[i]] = (ks.take (i + 1)).map doD := by rw [List.take_succ_eq_append_getElem hlt, List.map_append]; rfl
      rw [decide_eq_true hlt, cond_true, law32_AccumNumbers_j3, idx_int hlt, Option.bind_some]
      show Option.bind (app ((ks.take i).map doD) [doD ks[i]]) _ = _
      rw [app_le (by simp; omega), Option.bind_some, e5, Option.bind_some, law32_AccumNumbers_j4, wrapS (by omega), List.drop_eq_getElem_cons hlt, List.foldl_cons]
      exact doc_loop m ks hl M (i + 1) _ (by omega) (by omega)
    · have e : i = ks.length := by omega
      subst e
      simp
theorem law_numbers (ks : List Int) (m : Nat) (hm : 4000 ≤ m) (hm2 : m < 100000000) : law32_AccumNumbers (m + 3) (intL ks) = some true := by
  have hll : (intL ks).length = ks.length := by simp [intL]
  rw [law32_AccumNumbers, hll]
  by_cases h : 100 < ks.length
  · rw [decide_eq_true (by omega), cond_true]; rfl
  · rw [decide_eq_false (by omega), cond_false]
    show law32_AccumNumbers_l2 (m + 2) (m + 3) (intL ks) 0 ((0 : Nat) : Int) ((ks.take 0).map doD) = _
    rw [doc_loop m ks (by omega) (m + 3) 0 0 (by omega) (by omega), List.drop_zero]
    exact op_loop (m + 2) (by omega) (by omega) ks (by omega) (m + 3) 1 (by omega) (by omega) (by omega)
theorem int_list : ∀ {l : List Dt}, (∀ e ∈ l, e = .int e.toInt) → l = intL (l.map Dt.toInt)
  | [], _ => rfl
  | e :: l, h => by
    have h1 := h e (by simp)
    have h2 := int_list (l := l) fun x hx => h x (by simp [hx])
    show e :: l = Dt.int e.toInt :: intL (l.map Dt.toInt)
    rw [← h1, ← h2]
theorem numbers_fx {ds : List Dt} (h : HasTys Tryz.prog Tryz.f5.params.toList ds) (hb : Dt.bulkL ds ≤ 1048576) : FX Tryz.prog 5 (dats Tryz.f5.params.toList ds) [] (.dat 4 (.bool true)) [] := by
  have h' : HasTys Tryz.prog [46] ds := h
  cases h' with
  | cons h1 r => cases r with
    | nil =>
      obtain ⟨e1, _, e2⟩ := ty_lst Tryz.underlying46 h1
      rw [e1]
      have e3 := int_list fun x hx => (ty_int Tryz.underlying3 (e2 x hx)).1
      rw [e3]
      exact law32_AccumNumbers_fx 5002 (ct_ok 5002) _ (law_numbers _ 5000 (by omega) (by omega))
end Go.Proofs.YtacpcknpliomoaaGreat
