/- What a path passes to: the program's function and the reference's, in plain Lean. -/
import Derived.Test.YtacchdeihafmnaaDoorMVal2
import Derived.Test.YtacchdeihafmnaaDoorMNum
set_option linter.unusedVariables false
set_option linter.unusedSimpArgs false
namespace Go.Proofs.YtacchdeihafmnaaDoor
open Go.Am

-- numbers of steps
theorem num_loop_nonneg (m : Nat) (s : ByteArray) (hs : s.size ≤ 4) : ∀ (M i : Nat) (a : Int) (r : Int × Bool), i ≤ s.size → 0 ≤ a → a < 10 ^ i → ref04_Number_l2 m M s a (i : Int) = some r → 0 ≤ r.1
  | 0, _, _, _, _, _, _, h => by simp [ref04_Number_l2] at h
  | M + 1, i, a, r, hi, h0, h1, h => by
    simp only [ref04_Number_l2, dlt] at h
    by_cases hlt : i < s.size
    · simp only [hlt, decide_true, cond_true, ref04_Number_j3, idxS_lt hlt, Option.bind_some] at h
      by_cases hc1 : ((s[i]).toNat : Int) < 48
      · simp only [hc1, decide_true, cond_true, Option.some.injEq] at h
        subst h; exact Int.le_refl _
      · by_cases hc2 : (57 : Int) < ((s[i]).toNat : Int)
        · simp only [hc1, hc2, decide_true, decide_false, cond_true, cond_false, Option.some.injEq] at h
          subst h; exact Int.le_refl _
        · have hi3 : i = 0 ∨ i = 1 ∨ i = 2 ∨ i = 3 := by omega
          have ha : a < 1000 := by rcases hi3 with rfl | rfl | rfl | rfl <;> omega
          have w1 : IntKind.wrap IntKind.u8 (((s[i]).toNat : Int) - 48) = ((s[i]).toNat : Int) - 48 := by
            unfold IntKind.wrap
            simp only [IntKind.bits, IntKind.signed, Bool.false_and]
            have : (((s[i]).toNat : Int) - 48) % 256 = ((s[i]).toNat : Int) - 48 := by omega
            simpa using this
          simp only [hc1, hc2, decide_false, cond_false, ref04_Number_j4, ref04_Number_j5, idxS_lt hlt, Option.bind_some, wrapS (show i < 9223372036854775807 by omega), w1] at h
          rw [wrap64 (n := a * 10) (by omega) (by omega), wrap64 (n := ((s[i]).toNat : Int) - 48) (by omega) (by omega), wrap64 (n := a * 10 + _) (by omega) (by omega)] at h
          refine num_loop_nonneg m s hs M (i + 1) _ r (by omega) (by omega) ?_ h
          rcases hi3 with rfl | rfl | rfl | rfl <;> omega
    · simp only [hlt, decide_false, cond_false, ref04_Number_j6, Option.some.injEq] at h
      subst h; exact h0
theorem num_nonneg (m : Nat) (s : ByteArray) (r : Int × Bool) (h : ref04_Number (m + 1) s = some r) : 0 ≤ r.1 := by
  simp only [ref04_Number] at h
  by_cases h1 : s.size < 1
  · have e : decide ((s.size : Int) < 1) = true := by simp; omega
    simp only [e, cond_true, Option.some.injEq] at h
    subst h; exact Int.le_refl _
  have e1 : decide ((s.size : Int) < 1) = false := by rw [decide_eq_false_iff_not]; omega
  by_cases h2 : 4 < s.size
  · have e : decide ((4 : Int) < (s.size : Int)) = true := by simp; omega
    simp only [e1, e, cond_true, cond_false, Option.some.injEq] at h
    subst h; exact Int.le_refl _
  have e2 : decide ((4 : Int) < (s.size : Int)) = false := by rw [decide_eq_false_iff_not]; omega
  have hx := idxS_lt (s := s) (i := 0) (by omega)
  have key : ∀ r, ref04_Number_j0 m s = some r → 0 ≤ r.1 := fun r hr => num_loop_nonneg m s (by omega) (m + 1) 0 0 r (by omega) (by omega) (by simp) hr
  simp only [e1, e2, cond_false, show idxS s 0 = _ from hx, Option.bind_some] at h
  cases h3 : (((s[0]).toNat : Int) == 48) <;> rw [h3] at h <;> simp only [cond_true, cond_false] at h
  · exact key r h
  · cases h4 : decide ((1 : Int) < (s.size : Int)) <;> rw [h4] at h <;> simp only [cond_true, cond_false] at h
    · exact key r h
    · simp only [Option.some.injEq] at h
      subst h; exact Int.le_refl _

theorem num_fuel (m m' : Nat) (s : ByteArray) : ∀ (M M' i : Nat) (a : Int), i ≤ s.size → s.size - i < M → s.size - i < M' → s.size ≤ 4 → ref04_Number_l2 m M s a (i : Int) = ref04_Number_l2 m' M' s a (i : Int)
  | 0, _, i, _, _, h, _, _ => by omega
  | _, 0, i, _, _, _, h, _ => by omega
  | M + 1, M' + 1, i, a, hi, h, h', h4 => by
    simp only [ref04_Number_l2, dlt]
    by_cases hlt : i < s.size
    · simp only [hlt, decide_true, cond_true, ref04_Number_j3, ref04_Number_j4, ref04_Number_j5, idxS_lt hlt, Option.bind_some, wrapS (show i < 9223372036854775807 by omega)]
      rw [num_fuel m m' s M M' (i + 1) _ (by omega) (by omega) (by omega) h4]
    · simp only [hlt, decide_false, cond_false, ref04_Number_j6]
theorem num_any (m m' : Nat) (hm : 5 ≤ m) (hm' : 5 ≤ m') (s : ByteArray) : ref04_Number (m + 1) s = ref04_Number (m' + 1) s := by
  simp only [ref04_Number]
  by_cases h2 : 4 < s.size
  · have e : decide ((4 : Int) < (s.size : Int)) = true := by simp; omega
    simp only [e, cond_true]
  · have key : ref04_Number_j0 m s = ref04_Number_j0 m' s := num_fuel m m' s (m + 1) (m' + 1) 0 0 (Nat.zero_le _) (by omega) (by omega) (by omega)
    rw [key]
-- fields
theorem field_at (m m' : Nat) (d : Dt) (s : ByteArray) (hl : (Dt.L d 4).length < 9223372036854775807) : ∀ (M M' i : Nat), i ≤ (Dt.L d 4).length → (Dt.L d 4).length - i < M → (Dt.L d 4).length - i < M' →
    ∃ r : Int, path_field_l1 m M (Dt.L d 4) s ((Dt.L d 4).length : Int) (i : Int) = some r ∧ ref01_at_l2 m' M' s (i : Int) d = some r ∧ (r = -1 ∨ ∃ j : Nat, r = j ∧ j < (Dt.L d 4).length)
  | 0, _, i, _, h, _ => by omega
  | _, 0, i, _, _, h => by omega
  | M + 1, M' + 1, i, hi, h, h' => by
    simp only [path_field_l1, ref01_at_l2, dlt]
    by_cases hlt : i < (Dt.L d 4).length
    · simp only [hlt, decide_true, cond_true, path_field_j2, path_field_j3, ref01_at_j3, ref01_at_j4, idx_lt hlt, Option.bind_some, wrapS (show i < 9223372036854775807 by omega)]
      cases (ByteArray.toList (Dt.S (Dt.L d 4)[i] 0) == ByteArray.toList s)
      · simp only [cond_false]
        exact field_at m m' d s hl M M' (i + 1) (by omega) (by omega) (by omega)
      · exact ⟨(i : Int), rfl, rfl, .inr ⟨i, rfl, hlt⟩⟩
    · simp only [hlt, decide_false, cond_false, path_field_j4, ref01_at_j5]
      exact ⟨-1, rfl, rfl, .inl rfl⟩
theorem bulkL_app : ∀ a b : List Dt, Dt.bulkL (a ++ b) = Dt.bulkL a + Dt.bulkL b
  | [], b => by simp [Dt.bulkL]
  | x :: a, b => by simp only [List.cons_append, Dt.bulkL, bulkL_app a b]; omega
theorem cutL_tail (x : Dt) (q : List Dt) : cutL (x :: q) 1 (((x :: q).length : Nat) : Int) = some q := by
  have := cutL_nat (l := x :: q) (i := 1) (j := (x :: q).length) (by simp) (Nat.le_refl _)
  rw [show ((1 : Nat) : Int) = 1 from rfl] at this
  rw [this]
  simp
theorem idx_head (x : Dt) (q : List Dt) : idx (x :: q) 0 = some x := by
  have := idx_lt (l := x :: q) (i := 0) (by simp)
  exact this

/-- A value within a value. -/
inductive Sub : Dt → Dt → Prop where
  | part {x d : Dt} (h : x ∈ prts d) : Sub x d
  | deep {x e d : Dt} (h : e ∈ prts d) (r : Sub x e) : Sub x d
/-- The loops over a list's elements. -/
theorem pass_loop {Q : Dt → Prop} (m m' : Nat) (self : Dt → List Dt → List Dt → Option (List Dt)) (self' : Dt → List Dt → Option (List Dt)) (p : List Dt) (d : Dt) (c : Nat) (hl : (Dt.L d 3).length < 9223372036854775807)
    (hs : ∀ e ∈ Dt.L d 3, ∃ r, (∀ x ∈ r, Q x) ∧ Dt.bulkL r ≤ c * e.bulk ∧ self' e p = some r ∧ ∀ l, l.length + c * e.bulk ≤ 137438953472 → self e p l = some (l ++ r)) : ∀ (M M' i : Nat), i ≤ (Dt.L d 3).length → (Dt.L d 3).length - i < M → (Dt.L d 3).length - i < M' →
    ∃ R, (∀ x ∈ R, Q x) ∧ Dt.bulkL R ≤ c * Dt.bulkL ((Dt.L d 3).drop i) ∧
      (∀ l : List Dt, l.length + c * Dt.bulkL ((Dt.L d 3).drop i) ≤ 137438953472 → i46_l3 m self M p (Dt.L d 3) ((Dt.L d 3).length : Int) (i : Int) l d = i46_j6 m self p (l ++ R) d) ∧
      (∀ l : List Dt, l.length + c * Dt.bulkL ((Dt.L d 3).drop i) ≤ 137438953472 → ref04_Pass_l5 m' self' M' p (i : Int) d l = ref04_Pass_j8 m' self' p d (l ++ R))
  | 0, _, i, _, h, _ => by omega
  | _, 0, i, _, _, h => by omega
  | M + 1, M' + 1, i, hi, h, h' => by
    by_cases hlt : i < (Dt.L d 3).length
    · obtain ⟨R, hR1, hR2, hR3, hR4⟩ := pass_loop m m' self self' p d c hl hs M M' (i + 1) (by omega) (by omega) (by omega)
      obtain ⟨r, hr1, hr2, hr3, hr4⟩ := hs _ (List.getElem_mem hlt)
      have hdrop : c * Dt.bulkL ((Dt.L d 3).drop i) = c * (Dt.L d 3)[i].bulk + c * Dt.bulkL ((Dt.L d 3).drop (i + 1)) := by
        rw [List.drop_eq_getElem_cons hlt]
        simp only [Dt.bulkL]
        exact Nat.mul_add _ _ _
      have hlr := len_bulk r
      cases hk : (Dt.I (Dt.L d 3)[i] 0 == 5)
      · refine ⟨R, hR1, by omega, fun l hle => ?_, fun l hle => ?_⟩
        · simp only [i46_l3, dlt, hlt, decide_true, cond_true, i46_j4, i46_j5, idx_lt hlt, Option.bind_some, hk, cond_false, wrapS (show i < 9223372036854775807 by omega)]
          exact hR3 l (by omega)
        · simp only [ref04_Pass_l5, dlt, hlt, decide_true, cond_true, ref04_Pass_j6, ref04_Pass_j7, idx_lt hlt, Option.bind_some, hk, cond_false, wrapS (show i < 9223372036854775807 by omega)]
          exact hR4 l (by omega)
      · refine ⟨r ++ R, fun x hx => ?_, by rw [bulkL_app]; omega, fun l hle => ?_, fun l hle => ?_⟩
        · rcases List.mem_append.1 hx with hx | hx
          · exact hr1 x hx
          · exact hR1 x hx
        · simp only [i46_l3, dlt, hlt, decide_true, cond_true, i46_j4, i46_j5, idx_lt hlt, Option.bind_some, hk, hr4 l (by omega), wrapS (show i < 9223372036854775807 by omega)]
          rw [hR3 (l ++ r) (by rw [List.length_append]; omega), List.append_assoc]
        · simp only [ref04_Pass_l5, dlt, hlt, decide_true, cond_true, ref04_Pass_j6, ref04_Pass_j7, idx_lt hlt, Option.bind_some, hk, hr3, app_le (show l.length + r.length ≤ 137438953472 by omega), wrapS (show i < 9223372036854775807 by omega)]
          rw [hR4 (l ++ r) (by rw [List.length_append]; omega), List.append_assoc]
    · refine ⟨[], by simp, by simp [Dt.bulkL], fun l _ => ?_, fun l _ => ?_⟩
      · simp only [i46_l3, dlt, hlt, decide_false, cond_false, List.append_nil]
      · simp only [ref04_Pass_l5, dlt, hlt, decide_false, cond_false, List.append_nil]

theorem pass_eq : ∀ (N : Nat) (d : Dt), d.bulk ≤ N → N ≤ 1048576 → WV d → ∀ n, DL n d → 2 ^ n * d.bulk ≤ 137438953472 → ∀ (p : List Dt) (m m' : Nat), N + 1048600 ≤ m → N + 1048600 ≤ m' →
    ∃ r, (∀ x ∈ r, WV x ∧ (Sub x d ∨ (p = [] ∧ x = d))) ∧ Dt.bulkL r ≤ 2 ^ n * d.bulk ∧ ref04_Pass (m' + 1) d p = some r ∧ ∀ l, l.length + 2 ^ n * d.bulk ≤ 137438953472 → i46 (m + 1) d p l = some (l ++ r)
  | 0, d, h, _, _, _, _, _, _, _, _, _, _ => by have := bulk_pos d; omega
  | N + 1, d, h, hN, hw, 0, hD, _, _, _, _, _, _ => hD.elim
  | N + 1, d, h, hN, hw, n + 1, hD, hlim, [], m, m', hm, hm' => by
    have hp : 1 ≤ 2 ^ (n + 1) := Nat.one_le_two_pow
    have hb := bulk_pos d
    have h1 : d.bulk ≤ 2 ^ (n + 1) * d.bulk := Nat.le_mul_of_pos_left _ hp
    refine ⟨[d], fun x hx => by rw [List.mem_singleton.1 hx]; exact ⟨hw, .inr ⟨rfl, rfl⟩⟩, by simpa [Dt.bulkL] using h1, rfl, fun l hl => ?_⟩
    show Option.bind (app l [d]) _ = _
    rw [app_le (by simp; omega)]
    rfl
  | N + 1, d, h, hN, hw, n + 1, hD, hlim, x :: q, m, m', hm, hm' => by
    have hw0 := hw
    obtain ⟨m, rfl⟩ : ∃ k, m = k + 1 := ⟨m - 1, by omega⟩
    obtain ⟨m', rfl⟩ : ∃ k, m' = k + 1 := ⟨m' - 1, by omega⟩
    have hpw : 2 ^ (n + 1) * d.bulk = 2 ^ n * d.bulk + 2 ^ n * d.bulk := by rw [Nat.pow_succ, Nat.mul_assoc, Nat.two_mul, Nat.mul_add]
    have hsub : ∀ e ∈ prts d, 2 ^ n * e.bulk ≤ 2 ^ n * d.bulk := fun e he => Nat.mul_le_mul_left _ (Nat.le_of_lt (prts_wv hw0 e he).2)
    have ih : ∀ e ∈ prts d, ∀ p', ∃ r, (∀ x ∈ r, WV x ∧ Sub x d) ∧ Dt.bulkL r ≤ 2 ^ n * e.bulk ∧ ref04_Pass (m' + 1) e p' = some r ∧ ∀ l, l.length + 2 ^ n * e.bulk ≤ 137438953472 → i46 (m + 1) e p' l = some (l ++ r) := fun e he p' => by
      have h1 := hsub e he
      obtain ⟨r, g1, g2⟩ := pass_eq N e (by have := (prts_wv hw0 e he).2; omega) (by omega) (prts_wv hw0 e he).1 n (hD e he) (by omega) p' m m' (by omega) (by omega)
      refine ⟨r, fun y hy => ⟨(g1 y hy).1, ?_⟩, g2⟩
      rcases (g1 y hy).2 with g | ⟨_, rfl⟩
      · exact .deep he g
      · exact .part he
    have hne : ((((x :: q).length : Nat) : Int) == 0) = false := by rw [beq_eq_false_iff_ne]; simp; omega
    have hl3 : (Dt.L d 3).length ≤ d.bulk := by
      cases hw with
      | @mk k i t l ds hl hd => rw [bulk_val]; have := len_bulk l; show l.length ≤ _; omega
    have hl4 : (Dt.L d 4).length ≤ d.bulk := by
      cases hw with
      | @mk k i t l ds hl hd => rw [bulk_val]; have := len_bulk ds; show ds.length ≤ _; omega
    have hb3 : Dt.bulkL (Dt.L d 3) ≤ d.bulk := by
      cases hw with
      | @mk k i t l ds hl hd => rw [bulk_val]; show Dt.bulkL l ≤ _; omega
    have E1 : ref04_Pass (m' + 1 + 1) d (x :: q) = ref04_Pass_j0 (m' + 1) (ref04_Pass (m' + 1)) (x :: q) d := by
      show (bif ((((x :: q).length : Nat) : Int) == 0) then _ else _) = _
      rw [hne]
      rfl
    have E2 : ∀ l, i46 (m + 1 + 1) d (x :: q) l = i46_j0 (m + 1) (i46 (m + 1)) (x :: q) l d := fun l => by
      show (bif ((((x :: q).length : Nat) : Int) == 0) then _ else _) = _
      rw [hne]
      rfl
    simp only [E1, E2, i46_j0, ref04_Pass_j0]
    cases h5 : (Dt.I d 0 == 5)
    · -- no document
      simp only [cond_false]
      cases h6 : (Dt.I d 0 == 6)
      · have hn6 : (Dt.I d 0 != 6) = true := by simp [bne, h6]
        refine ⟨[], by simp, by simp [Dt.bulkL], by simp only [ref04_Pass_j2, hn6, cond_true], fun l _ => ?_⟩
        simp only [i46_j1, cond_false, List.append_nil]
      · have hn6 : (Dt.I d 0 != 6) = false := by simp [bne, h6]
        have hpl : prts d = Dt.L d 3 := by unfold prts; rw [h6]; rfl
        obtain ⟨R, hR1, hR2, hR3, hR4⟩ := pass_loop (m + 1) (m' + 1) (i46 (m + 1)) (ref04_Pass (m' + 1)) (x :: q) d (2 ^ n) (by omega) (fun e he => ih e (by rw [hpl]; exact he) (x :: q)) (m + 2) (m' + 2) 0 (Nat.zero_le _) (by omega) (by omega)
        rw [List.drop_zero] at hR2 hR3 hR4
        have hcb : 2 ^ n * Dt.bulkL (Dt.L d 3) ≤ 2 ^ n * d.bulk := Nat.mul_le_mul_left _ hb3
        have hlR := len_bulk R
        have h3' : ∀ l : List Dt, l.length + 2 ^ n * Dt.bulkL (Dt.L d 3) ≤ 137438953472 → i46_l3 (m + 1) (i46 (m + 1)) (Nat.succ (m + 1)) (x :: q) (Dt.L d 3) ((Dt.L d 3).length : Int) 0 l d = i46_j6 (m + 1) (i46 (m + 1)) (x :: q) (l ++ R) d := hR3
        have h4' : ref04_Pass_l5 (m' + 1) (ref04_Pass (m' + 1)) (Nat.succ (m' + 1)) (x :: q) 0 d [] = ref04_Pass_j8 (m' + 1) (ref04_Pass (m' + 1)) (x :: q) d ([] ++ R) := hR4 [] (by simp; omega)
        obtain ⟨nr, hnr⟩ := num_some m' (Dt.toStr x) (by omega)
        have hnp : path_Number (m + 1) (Dt.toStr x) = some nr := (num_eq (m + 1) _).trans ((num_any m m' (by omega) (by omega) _).trans hnr)
        have hnn := num_nonneg m' _ nr hnr
        simp only [hn6, cond_true, cond_false, ref04_Pass_j2, ref04_Pass_j3, ref04_Pass_j4, i46_j2, h4', List.nil_append, ref04_Pass_j8, idx_head, Option.bind_some, hnr, ref04_Pass_j9]
        cases h7 : nr.2
        · refine ⟨R, fun y hy => ⟨(hR1 y hy).1, .inl (hR1 y hy).2⟩, by omega, by simp, fun l hle => ?_⟩
          rw [h3' l (by omega)]
          simp only [i46_j6, idx_head, Option.bind_some, hnp, h7, cond_false, i46_j1]
        · by_cases h8 : nr.1 < ((Dt.L d 3).length : Int)
          · obtain ⟨j, hj⟩ : ∃ j : Nat, nr.1 = j := ⟨nr.1.toNat, by omega⟩
            have hjl : j < (Dt.L d 3).length := by omega
            have hm3 : (Dt.L d 3)[j] ∈ prts d := by rw [hpl]; exact List.getElem_mem hjl
            obtain ⟨r, hr1, hr2, hr3, hr4⟩ := ih _ hm3 q
            have hs1 := hsub _ hm3
            have hlr := len_bulk r
            have h8' : decide (((j : Nat) : Int) < ((Dt.L d 3).length : Int)) = true := by rw [dlt]; simpa using hjl
            refine ⟨R ++ r, fun y hy => ?_, by rw [bulkL_app]; omega, ?_, fun l hle => ?_⟩
            · rcases List.mem_append.1 hy with hy | hy
              · exact ⟨(hR1 y hy).1, .inl (hR1 y hy).2⟩
              · exact ⟨(hr1 y hy).1, .inl (hr1 y hy).2⟩
            · simp only [cond_true, hj, h8', idx_lt hjl, Option.bind_some, cutL_tail, hr3, app_le (show R.length + r.length ≤ 137438953472 by omega)]
            · rw [h3' l (by omega)]
              simp only [i46_j6, idx_head, Option.bind_some, hnp, h7, cond_true, hj, h8', idx_lt hjl, cutL_tail, hr4 (l ++ R) (by rw [List.length_append]; omega), i46_j1, List.append_assoc]
          · have h8' : decide (nr.1 < ((Dt.L d 3).length : Int)) = false := by rw [decide_eq_false_iff_not]; exact h8
            refine ⟨R, fun y hy => ⟨(hR1 y hy).1, .inl (hR1 y hy).2⟩, by omega, by simp [h8'], fun l hle => ?_⟩
            rw [h3' l (by omega)]
            simp only [i46_j6, idx_head, Option.bind_some, hnp, h7, cond_true, h8', cond_false, i46_j1]
    · -- a document
      have e5 : Dt.I d 0 = 5 := by simpa using h5
      have hn5 : (Dt.I d 0 != 5) = false := by simp [bne, h5]
      have hpl : prts d = (Dt.L d 4).map (·.fld 1) := by unfold prts; rw [e5]; rfl
      obtain ⟨m', rfl⟩ : ∃ k, m' = k + 1 := ⟨m' - 1, by omega⟩
      obtain ⟨r, h1, h2, h3⟩ := field_at m m' d (Dt.toStr x) (by omega) (m + 1) (m' + 1) 0 (Nat.zero_le _) (by omega) (by omega)
      have h1' : path_field_l1 m (Nat.succ m) (Dt.L d 4) (Dt.toStr x) ((Dt.L d 4).length : Int) 0 = some r := h1
      have h2' : ref01_at_l2 m' (Nat.succ m') (Dt.toStr x) 0 d = some r := h2
      simp only [cond_true, idx_head, Option.bind_some, path_field, path_field_j0, h1', ref01_Get, ref01_at, hn5, cond_false, ref01_at_j0, ref01_at_j1, h2']
      rcases h3 with rfl | ⟨j, rfl, hj⟩
      · refine ⟨[], by simp, by simp [Dt.bulkL], rfl, fun l _ => ?_⟩
        simp [i46_j1]
      · have hm4 : (Dt.L d 4)[j].fld 1 ∈ prts d := by rw [hpl]; exact List.mem_map_of_mem (List.getElem_mem hj)
        obtain ⟨r, hr1, hr2, hr3, hr4⟩ := ih _ hm4 q
        have hs1 := hsub _ hm4
        have ej : decide ((0 : Int) ≤ (j : Int)) = true := by simp
        have ej2 : decide ((j : Int) < 0) = false := by rw [decide_eq_false_iff_not]; omega
        refine ⟨r, fun y hy => ⟨(hr1 y hy).1, .inl (hr1 y hy).2⟩, by omega, ?_, fun l hle => ?_⟩
        · simp only [ej2, cond_false, ref01_Get_j0, idx_lt hj, Option.bind_some, cond_true, cutL_tail, hr3]
        · simp only [ej, cond_true, idx_lt hj, Option.bind_some, cutL_tail, hr4 l (by omega), i46_j1]
end Go.Proofs.YtacchdeihafmnaaDoor
