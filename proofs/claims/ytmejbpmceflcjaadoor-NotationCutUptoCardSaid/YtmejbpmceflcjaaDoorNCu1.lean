/- Reading the beginning of a printed text: strings, words, integers. -/
import Derived.Test.YtmejbpmceflcjaaDoorNG
set_option linter.unusedVariables false
set_option linter.unusedSimpArgs false
namespace Go.Proofs.YtmejbpmceflcjaaDoor
open Go.Am

/-- From the place 'i' on stands a proper beginning of 't', and nothing else. -/
def Cu (s : ByteArray) (i : Nat) (t : List UInt8) : Prop := i ≤ s.size ∧ ∃ p q, s.data.toList.drop i = p ∧ t = p ++ q ∧ q ≠ []
theorem cu_end {s : ByteArray} {i : Nat} (h : s.data.toList.drop i = []) (hi : i ≤ s.size) : i = s.size := by have := dr_len h hi; simpa using this
theorem cu_app {s : ByteArray} {i : Nat} {a b : List UInt8} (h : Cu s i (a ++ b)) : Cu s i a ∨ ((∃ p, s.data.toList.drop i = a ++ p) ∧ Cu s (i + a.length) b) := by
  obtain ⟨hi, p, q, h1, h2, h3⟩ := h
  rcases List.append_eq_append_iff.1 h2 with ⟨c, hc1, hc2⟩ | ⟨c, hc1, hc2⟩
  · refine .inr ⟨⟨c, by rw [h1, hc1]⟩, ?_⟩
    have hd : s.data.toList.drop i = a ++ c := by rw [h1, hc1]
    have := dr_len hd hi
    rw [List.length_append] at this
    exact ⟨by omega, c, q, dr_add hd, hc2, h3⟩
  · by_cases hc : c = []
    · subst hc
      rw [List.append_nil] at hc1
      have hd : s.data.toList.drop i = a ++ [] := by rw [h1, hc1, List.append_nil]
      have := dr_len hd hi
      rw [List.length_append] at this
      refine .inr ⟨⟨[], hd⟩, by omega, [], b, dr_add hd, rfl, ?_⟩
      rw [show b = q from hc2.symm]
      exact h3
    · exact .inl ⟨hi, p, c, h1, hc1, hc⟩
theorem cu_cons {s : ByteArray} {i : Nat} {c : UInt8} {t : List UInt8} (h : Cu s i (c :: t)) : s.data.toList.drop i = [] ∨ ((∃ p, s.data.toList.drop i = c :: p) ∧ Cu s (i + 1) t) := by
  rcases cu_app (a := [c]) (b := t) h with ⟨hi, p, q, h1, h2, h3⟩ | ⟨⟨p, hp⟩, h2⟩
  · cases p with
    | nil => exact .inl h1
    | cons a r =>
      injection h2 with _ h2
      have h2 : [] = r ++ q := h2
      have := congrArg List.length h2
      rw [List.length_nil, List.length_append] at this
      exact absurd (List.eq_nil_of_length_eq_zero (by omega)) h3
  · exact .inr ⟨⟨p, hp⟩, h2⟩
theorem cu_one {s : ByteArray} {i : Nat} {c : UInt8} (h : Cu s i [c]) : s.data.toList.drop i = [] := by
  rcases cu_cons h with h | ⟨_, _, p, q, _, h2, h3⟩
  · exact h
  · have := congrArg List.length h2
    rw [List.length_nil, List.length_append] at this
    exact absurd (List.eq_nil_of_length_eq_zero (by omega)) h3
theorem fail_end (m : Nat) (s : ByteArray) (n : Nat) : i27 (m + 1) 4 (Dt.I (Q s s.size n) 1) (Q s s.size n) = some (false, QE s s.size n 4 (s.size : Int)) := rfl
theorem code_end (m M : Nat) (s : ByteArray) (n r k : Nat) (hk : k < 4) : i31_l1 (m + 1) (M + 1) (r : Int) (k : Int) (Q s s.size n) = some (0, false, QE s s.size n 4 (s.size : Int)) := by
  have hp := peek_end m (s := s) (i := s.size) (n := n) rfl
  have k4 : decide ((k : Int) < 4) = true := decide_eq_true (by omega)
  have e1 : decide ((48 : Int) ≤ -1) = false := decide_eq_false (by omega)
  have e2 : decide ((97 : Int) ≤ -1) = false := decide_eq_false (by omega)
  have e3 : decide ((65 : Int) ≤ -1) = false := decide_eq_false (by omega)
  have e4 : decide ((-1 : Int) < 0) = true := decide_eq_true (by omega)
  rw [i31_l1, k4, cond_true, i31_j2, hp, Option.bind_some]
  show (bif decide ((48 : Int) ≤ -1) then _ else i31_j3 (m + 1) (i31_l1 (m + 1) M) (r : Int) (k : Int) (-1) (-1) (k : Int) false (Q s s.size n)) = _
  rw [e1, cond_false, i31_j3, cond_false, e2, cond_false, i31_j8, cond_false, e3, cond_false, i31_j9, cond_false, i31_j4, e4, cond_true, i31_j5, cond_true, fail_end, Option.bind_some]
theorem code_cut (m : Nat) (s : ByteArray) (i n a b : Nat) (h : Cu s i [48, 48, hdg a, hdg b]) (ha : a < 16) (hb : b < 16) (hs : s.size < 1000000000000) :
    i31 (m + 6) (Q s i n) = some (0, false, QE s s.size n 4 (s.size : Int)) := by
  show i31_l1 (m + 5) (m + 5 + 1) ((0 : Nat) : Int) ((0 : Nat) : Int) (Q s i n) = _
  rcases cu_cons h with h0 | ⟨⟨p0, h0⟩, h⟩
  · obtain rfl := cu_end h0 h.1
    exact code_end _ _ s n 0 0 (by omega)
  rw [code_step (m + 4) (m + 5) s i n 0 0 0 _ h0 (by omega) (by omega) (by omega) (by omega) hs]
  show i31_l1 (m + 5) (m + 4 + 1) ((0 : Nat) : Int) ((1 : Nat) : Int) (Q s (i + 1) n) = _
  rcases cu_cons h with h1 | ⟨⟨p1, h1⟩, h⟩
  · rw [cu_end h1 h.1]
    exact code_end _ _ s n 0 1 (by omega)
  rw [code_step (m + 4) (m + 4) s (i + 1) n 0 1 0 _ h1 (by omega) (by omega) (by omega) (by omega) hs]
  show i31_l1 (m + 5) (m + 3 + 1) ((0 : Nat) : Int) ((2 : Nat) : Int) (Q s (i + 1 + 1) n) = _
  rcases cu_cons h with h2 | ⟨⟨p2, h2⟩, h⟩
  · rw [cu_end h2 h.1]
    exact code_end _ _ s n 0 2 (by omega)
  rw [code_step (m + 4) (m + 3) s (i + 1 + 1) n 0 2 a _ h2 ha (by omega) (by omega) (by omega) hs, show 16 * 0 + a = a by omega]
  show i31_l1 (m + 5) (m + 2 + 1) (a : Int) ((3 : Nat) : Int) (Q s (i + 1 + 1 + 1) n) = _
  have h3 := cu_one h
  rw [cu_end h3 h.1]
  exact code_end _ _ s n a 3 (by omega)
theorem esc_end (m : Nat) (s : ByteArray) (n : Nat) : i30 (m + 8) (Q s s.size n) = some (0, false, QE s s.size n 4 (s.size : Int)) := by
  have hp := peek_end (m + 6) (s := s) (i := s.size) (n := n) rfl
  rw [i30]
  simp only [hp, Option.bind_some]
  rfl
/-- One byte of a string's content is read. -/
theorem lit_step (m M : Nat) (s : ByteArray) (n : Nat) (hs : s.size < 1000000000000) (c : UInt8) (i : Nat) (a e : List UInt8) (hd : s.data.toList.drop i = qb c ++ e) (ha : a.length ≤ 137438952000) :
    i29_l1 (m + 9) (M + 1) (Q s i n) (bytesI a) = i29_l1 (m + 9) M (Q s (i + (qb c).length) n) (bytesI (a ++ [c])) := by
  have hcl := u8lt c
  have step : ∀ (x : Nat) (e : List UInt8) (i' : Nat), x < 128 → UInt8.ofNat x = c → s.data.toList.drop i = 92 :: e → i30 (m + 9) (Q s (i + 1) n) = some ((x : Int), true, Q s i' n) → i29_l1 (m + 9) (M + 1) (Q s i n) (bytesI a) = i29_l1 (m + 9) M (Q s i' n) (bytesI (a ++ [c])) := fun x e i' hx hxc h1 h2 => by
    obtain ⟨hi, _, _⟩ := dr_cons h1
    have hp := peek_at (m + 8) (n := n) h1 hs
    have hr := rune_eq (m + 8) x a hx (by omega)
    rw [hxc] at hr
    rw [i29_l1]
    simp only [hp, Option.bind_some]
    show ((i30 (m + 9) (Dt.agg [Dt.str (Dt.S (Q s i n) 0), Dt.int (IntKind.wrap .i64 (Dt.I (Q s i n) 1 + 1)), Dt.int (Dt.I (Q s i n) 2), Dt.int (Dt.I (Q s i n) 3), Dt.int (Dt.I (Q s i n) 4)])).bind _) = _
    rw [Q_adv (by omega), h2]
    simp only [Option.bind_some, Bool.not_true, cond_false, i29_j3, hr]
  rcases qb_cases c with ⟨q, hc⟩ | ⟨rfl, q⟩ | ⟨rfl, q⟩ | ⟨rfl, q⟩ | ⟨q, hc⟩ | ⟨q, h32, h34, h92⟩
  · rw [q] at hd ⊢
    obtain ⟨_, _, h1⟩ := dr_cons (show s.data.toList.drop i = 92 :: (c :: e) from hd)
    have he := (esc_eq (m + 1) s (i + 1) n c _ h1 hs).1 hc
    exact step c.toNat _ (i + 2) (by rcases hc with rfl | rfl <;> decide) (by simp) hd he
  · rw [q] at hd ⊢
    obtain ⟨_, _, h1⟩ := dr_cons (show s.data.toList.drop i = 92 :: (110 :: e) from hd)
    exact step 10 _ (i + 2) (by omega) rfl hd ((esc_eq (m + 1) s (i + 1) n 110 _ h1 hs).2.1 rfl)
  · rw [q] at hd ⊢
    obtain ⟨_, _, h1⟩ := dr_cons (show s.data.toList.drop i = 92 :: (114 :: e) from hd)
    exact step 13 _ (i + 2) (by omega) rfl hd ((esc_eq (m + 1) s (i + 1) n 114 _ h1 hs).2.2.1 rfl)
  · rw [q] at hd ⊢
    obtain ⟨_, _, h1⟩ := dr_cons (show s.data.toList.drop i = 92 :: (116 :: e) from hd)
    exact step 9 _ (i + 2) (by omega) rfl hd ((esc_eq (m + 1) s (i + 1) n 116 _ h1 hs).2.2.2.1 rfl)
  · rw [q] at hd ⊢
    have hd2 : s.data.toList.drop i = 92 :: (117 :: (48 :: 48 :: hdg (c.toNat / 16) :: hdg (c.toNat % 16) :: e)) := hd
    obtain ⟨_, _, h1⟩ := dr_cons hd2
    have he := (esc_eq (m + 1) s (i + 1) n 117 _ h1 hs).2.2.2.2 (c.toNat / 16) (c.toNat % 16) _ rfl rfl (by omega) (by omega)
    rw [show 16 * (c.toNat / 16) + c.toNat % 16 = c.toNat by omega] at he
    exact step c.toNat _ (i + 6) hc (by simp) hd2 he
  · rw [q] at hd ⊢
    have hd2 : s.data.toList.drop i = c :: e := hd
    obtain ⟨hi, _, _⟩ := dr_cons hd2
    have hp := peek_at (m + 8) (n := n) hd2 hs
    have b34 : ((c.toNat : Int) == 34) = false := by rw [beq_eq_false_iff_ne]; omega
    have b92 : ((c.toNat : Int) == 92) = false := by rw [beq_eq_false_iff_ne]; omega
    have b32 : decide ((c.toNat : Int) < 32) = false := decide_eq_false (by omega)
    have w8 : IntKind.wrap IntKind.u8 (c.toNat : Int) = (c.toNat : Int) := wrap8 (by omega) (by omega)
    have a1 : app (bytesI a) [Dt.int (c.toNat : Int)] = some (bytesI (a ++ [c])) := apI a [c] (by simp; omega)
    rw [i29_l1]
    simp only [hp, Option.bind_some, b34, b92, b32, cond_false, w8, a1, Q_adv (show i < 9223372036854775807 by omega)]
    rfl
theorem lit_end (m M : Nat) (s : ByteArray) (n : Nat) (R : List Dt) : i29_l1 (m + 9) (M + 1) (Q s s.size n) R = some (ByteArray.mk (List.toArray []), false, QE s s.size n 4 (s.size : Int)) := by
  have hp := peek_end (m + 8) (s := s) (i := s.size) (n := n) rfl
  rw [i29_l1]
  simp only [hp, Option.bind_some]
  rfl
theorem lit_cut (m : Nat) (s : ByteArray) (n : Nat) (hs : s.size < 1000000000000) : ∀ (l : List UInt8) (M i : Nat) (a : List UInt8), Cu s i (qL l ++ [34]) → l.length < M → a.length + l.length ≤ 137438952000 →
    i29_l1 (m + 9) M (Q s i n) (bytesI a) = some (ByteArray.mk (List.toArray []), false, QE s s.size n 4 (s.size : Int))
  | _, 0, _, _, _, h, _ => by omega
  | [], M + 1, i, a, h, _, _ => by
    rw [cu_end (cu_one h) h.1]
    exact lit_end m M s n _
  | c :: r, M + 1, i, a, h, hM, ha => by
    rw [List.length_cons] at hM ha
    rw [qL, List.append_assoc] at h
    have hcl := u8lt c
    rcases cu_app h with h1 | ⟨⟨p, hp⟩, h2⟩
    · have two : ∀ t : List UInt8, qb c = 92 :: t → (Cu s (i + 1) t → i30 (m + 9) (Q s (i + 1) n) = some (0, false, QE s s.size n 4 (s.size : Int))) → i29_l1 (m + 9) (M + 1) (Q s i n) (bytesI a) = some (ByteArray.mk (List.toArray []), false, QE s s.size n 4 (s.size : Int)) := fun t ht he => by
        rw [ht] at h1
        rcases cu_cons h1 with h0 | ⟨⟨p, hp⟩, h2⟩
        · rw [cu_end h0 h1.1]
          exact lit_end m M s n _
        · obtain ⟨hi, _, _⟩ := dr_cons hp
          have hpk := peek_at (m + 8) (n := n) hp hs
          rw [i29_l1]
          simp only [hpk, Option.bind_some]
          show ((i30 (m + 9) (Dt.agg [Dt.str (Dt.S (Q s i n) 0), Dt.int (IntKind.wrap .i64 (Dt.I (Q s i n) 1 + 1)), Dt.int (Dt.I (Q s i n) 2), Dt.int (Dt.I (Q s i n) 3), Dt.int (Dt.I (Q s i n) 4)])).bind _) = _
          rw [Q_adv (by omega), he h2]
          rfl
      have single : ∀ x : UInt8, Cu s (i + 1) [x] → i30 (m + 9) (Q s (i + 1) n) = some (0, false, QE s s.size n 4 (s.size : Int)) := fun x hx => by
        rw [cu_end (cu_one hx) hx.1]
        exact esc_end (m + 1) s n
      rcases qb_cases c with ⟨q, hc⟩ | ⟨rfl, q⟩ | ⟨rfl, q⟩ | ⟨rfl, q⟩ | ⟨q, hc⟩ | ⟨q, h32, h34, h92⟩
      · exact two _ q (single _)
      · exact two _ q (single _)
      · exact two _ q (single _)
      · exact two _ q (single _)
      · refine two (117 :: [48, 48, hdg (c.toNat / 16), hdg (c.toNat % 16)]) q fun hx => ?_
        rcases cu_cons hx with h0 | ⟨⟨p, hp⟩, h2⟩
        · rw [cu_end h0 hx.1]
          exact esc_end (m + 1) s n
        · obtain ⟨hi, _, _⟩ := dr_cons hp
          have hpk := peek_at (m + 7) (n := n) hp hs
          have hcd := code_cut (m + 2) s (i + 1 + 1) n (c.toNat / 16) (c.toNat % 16) h2 (by omega) (by omega) hs
          rw [i30]
          simp only [hpk, Option.bind_some]
          show ((i31 (m + 8) (Dt.agg [Dt.str (Dt.S (Q s (i + 1) n) 0), Dt.int (IntKind.wrap .i64 (Dt.I (Q s (i + 1) n) 1 + 1)), Dt.int (Dt.I (Q s (i + 1) n) 2), Dt.int (Dt.I (Q s (i + 1) n) 3), Dt.int (Dt.I (Q s (i + 1) n) 4)])).bind _) = _
          rw [Q_adv (by omega), hcd]
          rfl
      · rw [q] at h1
        rw [cu_end (cu_one h1) h1.1]
        exact lit_end m M s n _
    · rw [lit_step m M s n hs c i a p hp (by omega)]
      exact lit_cut m s n hs r M (i + (qb c).length) (a ++ [c]) h2 (by omega) (by simp; omega)
theorem literal_cut (m : Nat) (s : ByteArray) (i n : Nat) (l : List UInt8) (h : Cu s i (qtL l)) (hlt : i < s.size) (hs : s.size < 1000000000000) (hl : l.length ≤ m) (hl2 : l.length ≤ 130000000000) :
    i29 (m + 10) (Q s i n) = some (ByteArray.mk (List.toArray []), false, QE s s.size n 4 (s.size : Int)) := by
  have h' : Cu s i (34 :: (qL l ++ [34])) := h
  rcases cu_cons h' with h0 | ⟨_, h2⟩
  · have := cu_end h0 h.1; omega
  rw [i29]
  show i29_l1 (m + 9) (m + 10) (Dt.agg [Dt.str (Dt.S (Q s i n) 0), Dt.int (IntKind.wrap .i64 (Dt.I (Q s i n) 1 + 1)), Dt.int (Dt.I (Q s i n) 2), Dt.int (Dt.I (Q s i n) 3), Dt.int (Dt.I (Q s i n) 4)]) (bytesI []) = _
  rw [Q_adv (by omega)]
  exact lit_cut m s n hs l (m + 10) (i + 1) [] h2 (by omega) (by simp; omega)
theorem text_cut (m : Nat) (s : ByteArray) (i n : Nat) (l : List UInt8) (h : Cu s i (qtL l)) (hlt : i < s.size) (hs : s.size < 1000000000000) (hl : l.length ≤ m) (hl2 : l.length ≤ 130000000000) :
    i28 (m + 11) (Q s i n) = some (kza2373, false, QE s s.size n 4 (s.size : Int)) := by
  rw [i28]
  simp only [literal_cut m s i n l h hlt hs hl hl2, Option.bind_some]
  rfl
theorem word_cut (m : Nat) (s : ByteArray) (n : Nat) (hs : s.size < 1000000000000) (w : ByteArray) (hw : w.size < 1000) : ∀ (M k i : Nat), k ≤ w.size → w.size - k < M → Cu s i (w.data.toList.drop k) →
    i42_l1 (m + 1) M w (w.size : Int) (k : Int) (Q s i n) = some (false, QE s s.size n 4 (s.size : Int))
  | 0, k, i, _, h, _ => by omega
  | M + 1, k, i, hk, hM, h => by
    simp only [i42_l1, dlt]
    by_cases hlt : k < w.size
    · have hc := u8lt w[k]
      rw [getB w k hlt] at h
      rcases cu_cons h with h0 | ⟨⟨p, hp⟩, h2⟩
      · obtain rfl := cu_end h0 h.1
        have hpk := peek_end m (s := s) (i := s.size) (n := n) rfl
        have e : ((-1 : Int) != IntKind.wrap .i64 ((w[k]).toNat : Int)) = true := by
          rw [wrap64 (by omega) (by omega)]
          unfold bne
          rw [Bool.not_eq_true', beq_eq_false_iff_ne]; omega
        simp only [hlt, decide_true, cond_true, i42_j2, hpk, Option.bind_some, idxS_lt hlt, e, fail_end]
      · obtain ⟨hi, _, _⟩ := dr_cons hp
        have hpk := peek_at m (n := n) hp hs
        have e : (((w[k]).toNat : Int) != IntKind.wrap .i64 ((w[k]).toNat : Int)) = false := by rw [wrap64 (by omega) (by omega)]; simp
        simp only [hlt, decide_true, cond_true, i42_j2, hpk, Option.bind_some, idxS_lt hlt, e, cond_false, i42_j3, i42_j4, Q_adv (show i < 9223372036854775807 by omega), wrapS (show k < 9223372036854775807 by omega)]
        exact word_cut m s n hs w hw M (k + 1) (i + 1) (by omega) (by omega) h2
    · have : k = w.size := by omega
      subst this
      rw [List.drop_eq_nil_of_le (by rw [lenB]; omega)] at h
      obtain ⟨_, p, q, _, h2, h3⟩ := h
      have := congrArg List.length h2
      rw [List.length_nil, List.length_append] at this
      exact absurd (List.eq_nil_of_length_eq_zero (by omega)) h3
theorem word_cut' (m : Nat) (s : ByteArray) (i n : Nat) (hs : s.size < 1000000000000) (w : ByteArray) (hw : w.size < 1000) (hm : w.size ≤ m) (h : Cu s i w.data.toList) : i42 (m + 2) w (Q s i n) = some (false, QE s s.size n 4 (s.size : Int)) := by
  have := word_cut m s n hs w hw (m + 2) 0 i (by omega) (by omega) (by rw [List.drop_zero]; exact h)
  rw [i42]
  exact this
theorem vaD_app : ∀ (a b : List UInt8) (x : Nat), vaD x (a ++ b) = vaD (vaD x a) b
  | [], _, _ => rfl
  | c :: r, b, x => vaD_app r b _
theorem dec_lead {u : Nat} {p q : List UInt8} (h : Lib.decDigits u = p ++ q) (hp : p ≠ []) : (∀ c ∈ p, 48 ≤ c.toNat ∧ c.toNat ≤ 57) ∧ vaD 0 p ≤ u := by
  have hr := dig_rng u
  rw [h] at hr
  refine ⟨fun c hc => hr c (List.mem_append_left _ hc), ?_⟩
  have e : vaD 0 (Lib.decDigits u) = u := valD_dec u
  rw [h, vaD_app] at e
  have := vaD_ge q (vaD 0 p)
  omega
/-- A beginning of an integer is an integer. -/
theorem lead_num (v : Int) (h1 : -9223372036854775808 ≤ v) (h2 : v ≤ 9223372036854775807) (sg : Bool) (p q : List UInt8) (u : Nat) (hv : v = bif sg then -(u : Int) else (u : Int)) (h : Lib.decDigits u = p ++ q) (hp : p ≠ []) : ∃ x : Int, strconv_ParseInt ⟨((bif sg then [45] else []) ++ p).toArray⟩ 10 64 = some (x, true) := by
  obtain ⟨hr, hu⟩ := dec_lead h hp
  have hdl := itoa_len v h1 h2
  have hpu : Lib.parseUintB 64 p = .ok (vaD 0 p) := by
    rw [Lib.parseUintB, if_neg hp]
    exact parseM_ok p 0 hr (by cases sg <;> simp only [cond_true, cond_false] at hv <;> omega)
  have hlen : p.length ≤ 100 := by
    have : (Lib.decDigits u).length ≤ 21 := by
      cases sg
      · simp only [cond_false] at hv
        rw [hv, Lib.itoa_nonneg] at hdl; exact hdl
      · simp only [cond_true] at hv
        rcases Nat.eq_zero_or_pos u with h0 | h0
        · rw [h0, Lib.decDigits_one (by omega)]; simp
        · rw [hv, Lib.itoa_neg u h0, List.length_cons] at hdl; omega
    rw [h, List.length_append] at this; omega
  obtain ⟨x, hx, hx1, hx2⟩ : ∃ x : Int, Lib.parseIntB 64 ((bif sg then [45] else []) ++ p) = .ok x ∧ -9223372036854775808 ≤ x ∧ x ≤ 9223372036854775807 := by
    cases sg
    · simp only [cond_false, List.nil_append] at hv ⊢
      cases p with
      | nil => exact absurd rfl hp
      | cons c r =>
        have hc := hr c (List.mem_cons_self ..)
        have n45 : ¬ c.toNat = 45 := by omega
        refine ⟨(vaD 0 (c :: r) : Nat), ?_, by omega, by omega⟩
        rw [Lib.parseIntB]
        rw [if_neg (by omega), hpu]
        simp only [n45, not_false_eq_true, true_and, false_and, if_false]
        rw [if_neg (by omega)]
    · simp only [cond_true] at hv ⊢
      have e45 : (45 : UInt8).toNat = 45 := rfl
      refine ⟨-((vaD 0 p : Nat) : Int), ?_, by omega, by omega⟩
      show Lib.parseIntB 64 (45 :: p) = _
      rw [Lib.parseIntB]
      simp only [e45]
      rw [if_pos (.inr trivial), hpu]
      simp only [not_true_eq_false, false_and, if_false, true_and]
      rw [if_neg (by omega), if_pos trivial]
  refine ⟨x, ?_⟩
  have hsz : ((bif sg then [45] else []) ++ p : List UInt8).length ≤ 101 := by rw [List.length_append]; cases sg <;> simp <;> omega
  have hb : Nat.ble (ByteArray.mk (List.toArray ((bif sg then [45] else []) ++ p))).size 1000000000 = true := ble_of (by rw [mkB_size]; omega)
  have e : (ByteArray.mk (List.toArray ((bif sg then [45] else []) ++ p))).data.toList = (bif sg then [45] else []) ++ p := by simp
  unfold strconv_ParseInt
  rw [hb, e, hx]
  show (bif (decide (-9223372036854775808 ≤ x) && decide (x ≤ 9223372036854775807)) then some (x, true) else none) = _
  rw [decide_eq_true hx1, decide_eq_true hx2]; rfl
end Go.Proofs.YtmejbpmceflcjaaDoor
