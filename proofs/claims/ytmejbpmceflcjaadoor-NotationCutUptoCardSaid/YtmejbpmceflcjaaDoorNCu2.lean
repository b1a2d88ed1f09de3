/- Reading the beginning of a printed text: values. -/
import Derived.Test.YtmejbpmceflcjaaDoorNCu1
set_option linter.unusedVariables false
set_option linter.unusedSimpArgs false
namespace Go.Proofs.YtmejbpmceflcjaaDoor
open Go.Am

/-- It ends too early. -/
def Fl (f : Option (Dt × Bool × Dt)) (s : ByteArray) : Prop := ∃ v n, f = some (v, false, QE s s.size n 4 (s.size : Int))
/-- It ends too early, or has read all. -/
def Out (f : Option (Dt × Bool × Dt)) (s : ByteArray) : Prop := Fl f s ∨ ∃ v n, f = some (v, true, Q s s.size n)
theorem val_end (m : Nat) (s : ByteArray) (n : Nat) (lv : Int) (late : Bool) : i25 (m + 2) lv late (Q s s.size n) = some (kza2373, false, QE s s.size n 4 (s.size : Int)) := by
  have hp := peek_end m (s := s) (i := s.size) (n := n) rfl
  rw [i25, hp]
  rfl
theorem blanks_cu (m : Nat) {s : ByteArray} {i n : Nat} {t : List UInt8} (h : Cu s i t) (ht : hdOK t) (hs : s.size < 1000000000000) : i23 (m + 2) (Q s i n) = some (Q s i n) := by
  obtain ⟨c, r, rfl, hc⟩ := ht
  rcases cu_cons h with h0 | ⟨⟨p, hp⟩, _⟩
  · exact blanks_end m (cu_end h0 h.1)
  · exact blanks_no m hp hs ⟨hc.1, hc.2.1, hc.2.2.1, hc.2.2.2.1⟩
theorem peek_cu (m : Nat) {s : ByteArray} {i n : Nat} {t : List UInt8} (h : Cu s i t) (ht : hdOK t) (hs : s.size < 1000000000000) : ∃ c : Int, c ≠ 93 ∧ c ≠ 125 ∧ i24 (m + 1) (Q s i n) = some (c, Q s i n) := by
  obtain ⟨c, r, rfl, hc⟩ := ht
  rcases cu_cons h with h0 | ⟨⟨p, hp⟩, _⟩
  · exact ⟨-1, by omega, by omega, peek_end m (cu_end h0 h.1)⟩
  · refine ⟨(c.toNat : Int), ?_, ?_, peek_at m hp hs⟩
    · have := hc.2.2.2.2.1; omega
    · have := hc.2.2.2.2.2; omega
def RC (self : Int → Bool → Dt → Option (Dt × Bool × Dt)) (s : ByteArray) (lv : Int) (d : Dt) (t : List UInt8) : Prop :=
  ∀ (late : Bool) (n i : Nat), n + nds d ≤ 1024 → Cu s i t → Out (self lv late (Q s i n)) s
-- integers
theorem int_num (m : Nat) (s : ByteArray) (st j n : Nat) (hs : s.size < 1000000000000) (sg : Bool) (c : UInt8) (r : List UInt8) (hd : s.data.toList.drop j = c :: r) (hj : j ≤ s.size) (hcs : s.data.toList.drop st = (bif sg then [45] else []) ++ (c :: r)) (hst : st ≤ s.size) (hr : ∀ x ∈ c :: r, 48 ≤ x.toNat ∧ x.toNat ≤ 57) (h48 : c.toNat ≠ 48) (hl : r.length ≤ 20)
    (x : Int) (hx : strconv_ParseInt ⟨((bif sg then [45] else []) ++ (c :: r)).toArray⟩ 10 64 = some (x, true)) (e0 : Dt) :
    i43_j0 (m + 29) (st : Int) sg (Q s j n) e0 = some (vInt x, true, Q s s.size n) := by
  have hc := hr c (List.mem_cons_self ..)
  obtain ⟨hlt2, _, h4⟩ := dr_cons hd
  have hp2 := peek_at (m + 28) (n := n) hd hs
  have e1 : decide ((c.toNat : Int) < 48) = false := decide_eq_false (by omega)
  have e2 : decide ((57 : Int) < (c.toNat : Int)) = false := decide_eq_false (by omega)
  have e3 : ((c.toNat : Int) == 48) = false := by rw [beq_eq_false_iff_ne]; omega
  have e4 : ((c.toNat : Int) != 48) = true := by unfold bne; rw [e3]; rfl
  have hlp := fun e0 => int_loop (m + 28) s n hs (st : Int) e0 [] trivial r (m + 30) (j + 1) (by rw [h4, List.append_nil]) (by omega) (fun x hx => hr x (List.mem_cons_of_mem _ hx)) (by omega)
  have hN := dr_len hd hj
  rw [List.length_cons] at hN
  have hcut : cutS s (st : Int) (s.size : Int) = some ⟨((bif sg then [45] else []) ++ (c :: r)).toArray⟩ := by
    have hl2 := dr_len hcs hst
    rw [cutS_nat (by omega) (by omega)]
    congr 1
    refine nba_ext ?_
    rw [ByteArray.data_extract, Array.toList_extract]
    show (s.data.toList.drop st).take (s.size - st) = _
    rw [hcs, List.take_of_length_le (by omega)]
  have hj5 : ∀ e0, i43_j5 (m + 29) (st : Int) (Q s s.size n) e0 = some (vInt x, true, Q s s.size n) := fun e0 => by
    show ((cutS s (st : Int) (s.size : Int)).bind _) = _
    rw [hcut]
    show ((strconv_ParseInt ⟨((bif sg then [45] else []) ++ (c :: r)).toArray⟩ 10 64).bind _) = _
    rw [hx]
    rfl
  rw [i43_j0]
  simp only [hp2, Option.bind_some, e1, e2, e3, cond_false]
  have hfin : i43_j1 (m + 29) (st : Int) (c.toNat : Int) false (Q s j n) e0 = some (vInt x, true, Q s s.size n) := by
    simp only [i43_j1, i43_j2, cond_false, e4, cond_true, Q_adv (show j < 9223372036854775807 by omega)]
    show i43_l3 (m + 29) (m + 30) (st : Int) (Q s (j + 1) n) e0 = _
    rw [hlp, show j + 1 + r.length = s.size by omega]
    exact hj5 _
  cases sg <;> exact hfin
theorem integer_cut (m : Nat) (s : ByteArray) (i n : Nat) (v : Int) (h1 : -9223372036854775808 ≤ v) (h2 : v ≤ 9223372036854775807) (h : Cu s i (Lib.itoa v)) (hlt : i < s.size) (hs : s.size < 1000000000000) : Out (i43 (m + 30) (Q s i n)) s := by
  have hln := itoa_len v h1 h2
  have len_of : ∀ (u : Nat) (p q : List UInt8), (Lib.decDigits u).length ≤ 21 → Lib.decDigits u = p ++ q → q ≠ [] → p.length ≤ 20 := fun u p q hu he hq => by
    rw [he, List.length_append] at hu
    have : 1 ≤ q.length := by cases q with | nil => exact absurd rfl hq | cons _ _ => simp
    omega
  by_cases hn : v < 0
  · obtain ⟨u, rfl⟩ : ∃ u : Nat, v = -(u : Int) := ⟨v.natAbs, by omega⟩
    have hit := Lib.itoa_neg u (by omega)
    rw [hit] at h hln
    rcases cu_cons h with h0 | ⟨⟨p0, hp0⟩, hc1⟩
    · have := cu_end h0 h.1; omega
    have hp := peek_at (m + 28) (n := n) hp0 hs
    have hq := Q_adv (s := s) (i := i) (n := n) (by omega)
    obtain ⟨hi1, p, q, hd1, he, hqn⟩ := hc1
    rw [i43]
    simp only [hp, Option.bind_some]
    show Out (i43_j0 (m + 29) (i : Int) true (Dt.agg [Dt.str (Dt.S (Q s i n) 0), Dt.int (IntKind.wrap .i64 (Dt.I (Q s i n) 1 + 1)), Dt.int (Dt.I (Q s i n) 2), Dt.int (Dt.I (Q s i n) 3), Dt.int (Dt.I (Q s i n) 4)]) kza2373) s
    rw [hq]
    cases p with
    | nil =>
      have hN := cu_end hd1 hi1
      have hpe := peek_end (m + 28) (s := s) (i := i + 1) (n := n) hN
      refine .inl ⟨kza2373, n, ?_⟩
      rw [i43_j0, hpe]
      rw [hN]
      rfl
    | cons c r =>
      obtain ⟨hr, _⟩ := dec_lead he (by simp)
      obtain ⟨x, hx⟩ := lead_num (-(u : Int)) h1 h2 true (c :: r) q u rfl he (by simp)
      have h48 : c.toNat ≠ 48 := dec_headN u (by omega) c (r ++ q) he
      have hll := len_of u (c :: r) q (by rw [List.length_cons] at hln; omega) he hqn
      rw [List.length_cons] at hll
      have hcs : s.data.toList.drop i = 45 :: (c :: r) := by
        obtain ⟨_, e1, e2⟩ := dr_cons hp0
        rw [hp0, ← e2, hd1]
      exact .inr ⟨vInt x, n, int_num m s i (i + 1) n hs true c r hd1 hi1 hcs h.1 hr h48 (by omega) x hx kza2373⟩
  · obtain ⟨u, rfl⟩ : ∃ u : Nat, v = (u : Int) := ⟨v.toNat, by omega⟩
    rw [Lib.itoa_nonneg u] at h hln
    obtain ⟨hi1, p, q, hd1, he, hqn⟩ := h
    cases p with
    | nil => have := cu_end hd1 hi1; omega
    | cons c r =>
      obtain ⟨hr, _⟩ := dec_lead he (by simp)
      obtain ⟨x, hx⟩ := lead_num (u : Int) h1 h2 false (c :: r) q u rfl he (by simp)
      have hu1 : 1 ≤ u := by
        rcases Nat.eq_zero_or_pos u with h0 | h0
        · rw [h0, Lib.decDigits_one (by omega)] at he
          have := congrArg List.length he
          simp only [List.length_cons, List.length_nil, List.length_append] at this
          exact absurd (List.eq_nil_of_length_eq_zero (by omega)) hqn
        · exact h0
      have h48 : c.toNat ≠ 48 := dec_headN u hu1 c (r ++ q) he
      have hll := len_of u (c :: r) q (by omega) he hqn
      rw [List.length_cons] at hll
      have hc := hr c (List.mem_cons_self ..)
      have hp2 := peek_at (m + 28) (n := n) hd1 hs
      have e0 : ((c.toNat : Int) == 45) = false := by rw [beq_eq_false_iff_ne]; omega
      rw [i43]
      simp only [hp2, Option.bind_some, e0, cond_false]
      exact .inr ⟨vInt x, n, int_num m s i i n hs false c r hd1 hi1 hd1 hi1 hr h48 (by omega) x hx kza2373⟩
theorem j3_int (m : Nat) (F G : Int → Dt → Option (Dt × Bool × Dt)) (lv : Int) (c : UInt8) (hcn : c.toNat = 45 ∨ (48 ≤ c.toNat ∧ c.toNat ≤ 57)) (q e0 : Dt) : i25_j3 m F G lv (c.toNat : Int) q e0 = (i43 m q).bind fun r8 => some (r8.1, r8.2.1, r8.2.2) := by
  have f : ∀ k : Nat, c.toNat ≠ k → ((c.toNat : Int) == (k : Int)) = false := fun k hk => by rw [beq_eq_false_iff_ne]; omega
  have f1 : ((c.toNat : Int) == 34) = false := f 34 (by omega)
  have f2 : ((c.toNat : Int) == 91) = false := f 91 (by omega)
  have f3 : ((c.toNat : Int) == 123) = false := f 123 (by omega)
  have f4 : ((c.toNat : Int) == 110) = false := f 110 (by omega)
  have f5 : ((c.toNat : Int) == 116) = false := f 116 (by omega)
  have f6 : ((c.toNat : Int) == 102) = false := f 102 (by omega)
  simp only [i25_j3, f1, f2, f3, f4, f5, f6, cond_false, i25_j4]
theorem val_int_cut (m : Nat) (s : ByteArray) (i n : Nat) (lv : Int) (late : Bool) (v : Int) (h1 : -9223372036854775808 ≤ v) (h2 : v ≤ 9223372036854775807) (h : Cu s i (Lib.itoa v)) (hs : s.size < 1000000000000) (hln : late = false → lv ≤ 16 ∧ n < 1024) :
    Out (i25 (m + 31) lv late (Q s i n)) s := by
  obtain ⟨c, r, hcr, hc⟩ : ∃ c r, Lib.itoa v = c :: r ∧ (c = 45 ∨ (48 ≤ c.toNat ∧ c.toNat ≤ 57)) := by
    by_cases hn : v < 0
    · obtain ⟨u, rfl⟩ : ∃ u : Nat, v = -(u : Int) := ⟨v.natAbs, by omega⟩
      exact ⟨45, _, Lib.itoa_neg u (by omega), .inl rfl⟩
    · obtain ⟨u, rfl⟩ : ∃ u : Nat, v = (u : Int) := ⟨v.toNat, by omega⟩
      have hr := dig_rng u
      cases hdd : Lib.decDigits u with
      | nil => exact absurd hdd (dec_ne u)
      | cons c r =>
        rw [hdd] at hr
        exact ⟨c, r, by rw [Lib.itoa_nonneg, hdd], .inr (hr c (List.mem_cons_self ..))⟩
  have h' := h
  rw [hcr] at h'
  rcases cu_cons h' with h0 | ⟨⟨p, hp⟩, _⟩
  · rw [cu_end h0 h.1]
    exact .inl ⟨_, _, val_end (m + 29) s n lv late⟩
  · obtain ⟨hlt, _, _⟩ := dr_cons hp
    rw [val_late (m + 29) s i n lv late c _ hp hs hln (.inr hc), j3_int (m + 30) _ _ lv c (by rcases hc with rfl | hc; exact .inl rfl; exact .inr hc)]
    rcases integer_cut m s i (bif late then n else n + 1) v h1 h2 h hlt hs with ⟨w, k, e⟩ | ⟨w, k, e⟩
    · rw [e]; exact .inl ⟨_, _, rfl⟩
    · rw [e]; exact .inr ⟨_, _, rfl⟩
theorem val_text_cut (m : Nat) (s : ByteArray) (i n : Nat) (lv : Int) (late : Bool) (l : List UInt8) (h : Cu s i (qtL l)) (hs : s.size < 1000000000000) (hl : l.length ≤ m) (hl2 : l.length ≤ 130000000000) (hln : late = false → lv ≤ 16 ∧ n < 1024) :
    Fl (i25 (m + 12) lv late (Q s i n)) s := by
  have h' : Cu s i (34 :: (qL l ++ [34])) := h
  rcases cu_cons h' with h0 | ⟨⟨p, hp⟩, _⟩
  · rw [cu_end h0 h.1]
    exact ⟨_, _, val_end (m + 10) s n lv late⟩
  · obtain ⟨hlt, _, _⟩ := dr_cons hp
    rw [val_late (m + 10) s i n lv late 34 _ hp hs hln (.inl rfl)]
    show Fl ((i28 (m + 11) (Q s i (bif late then n else n + 1))).bind _) s
    rw [text_cut m s i _ l h hlt hs hl hl2]
    exact ⟨_, _, rfl⟩
-- lists
theorem list_j3_end (m : Nat) (self : Int → Bool → Dt → Option (Dt × Bool × Dt)) (rec1 : Int → Dt → Dt → Int → Int → ByteArray → List Dt → List Dt → Option (Dt × Bool × Dt)) (s : ByteArray) (n : Nat) (lv : Int) (e0 : Dt) (acc : List Dt) (v : Dt) (hacc : acc.length + 1 ≤ 137438953472) :
    i35_j2 (m + 3) self rec1 lv (Q s s.size n) e0 6 0 (ByteArray.mk (List.toArray [])) acc [] v = some (kza2373, false, QE s s.size n 4 (s.size : Int)) := by
  have ap : app acc [v] = some (acc ++ [v]) := app_le (by simp; omega)
  have hb := blanks_end (m + 1) (s := s) (i := s.size) (n := n) rfl
  have hp := peek_end (m + 2) (s := s) (i := s.size) (n := n) rfl
  rw [i35_j2, ap, Option.bind_some, hb, Option.bind_some, hp, Option.bind_some]
  rfl
theorem list_cut (m : Nat) (self : Int → Bool → Dt → Option (Dt × Bool × Dt)) (s : ByteArray) (hs : s.size < 1000000000000) (g : Dt → List UInt8) (lv : Int) (hlv : 0 ≤ lv ∧ lv ≤ 100) (e0 : Dt) : ∀ (r : List Dt) (e : Dt) (acc : List Dt) (M i n k : Nat),
    Cu s i (g e ++ (lsF g (k + 1) r ++ [93])) → r.length < M → (∀ x ∈ e :: r, Rd self s (lv + 1) x (g x) ∧ RC self s (lv + 1) x (g x) ∧ hdOK (g x) ∧ 1 ≤ nds x) → n + ((e :: r).map nds).sum ≤ 1024 → acc.length + r.length + 1 ≤ 137438953000 →
    Fl (i35_l1 (m + 3) self M lv (Q s i n) e0 6 0 (ByteArray.mk (List.toArray [])) acc []) s
  | _, _, _, 0, _, _, _, _, h, _, _, _ => by omega
  | r, e, acc, M + 1, i, n, k, h, hM, hx, hn, ha => by
    obtain ⟨hR, hC, hH, _⟩ := hx e (List.mem_cons_self ..)
    simp only [List.map_cons, List.sum_cons] at hn
    have w1 : IntKind.wrap .i64 (lv + 1) = lv + 1 := wrap64 (by omega) (by omega)
    rw [i35_l1, w1]
    rcases cu_app h with h1 | ⟨⟨p, hp⟩, h2⟩
    · rcases hC false n i (by omega) h1 with ⟨v, n', e1⟩ | ⟨v, n', e1⟩
      · rw [e1]; exact ⟨_, _, rfl⟩
      · rw [e1, Option.bind_some]
        show Fl (i35_j2 (m + 3) self (i35_l1 (m + 3) self M) lv (Q s s.size n') e0 6 0 (ByteArray.mk (List.toArray [])) acc [] v) s
        rw [list_j3_end m self _ s n' lv e0 acc v (by omega)]
        exact ⟨_, _, rfl⟩
    · have hdl := dr_len hp h.1
      rw [List.length_append] at hdl
      have hdp := dr_add hp
      cases r with
      | nil =>
        have h0 := cu_one h2
        have hpn : p = [] := by rw [← hdp, h0]
        have e1 := hR false n i p (by omega) h.1 hp (by rw [hpn]; trivial)
        rw [e1, Option.bind_some]
        show Fl (i35_j2 (m + 3) self (i35_l1 (m + 3) self M) lv (Q s (i + (g e).length) (n + nds e - adj false e)) e0 6 0 (ByteArray.mk (List.toArray [])) acc [] e) s
        rw [cu_end h0 h2.1, list_j3_end m self _ s _ lv e0 acc e (by omega)]
        exact ⟨_, _, rfl⟩
      | cons e2 r2 =>
        rw [lsF_pos, List.cons_append, List.append_assoc] at h2
        rcases cu_cons h2 with h0 | ⟨⟨p', hp'⟩, h3⟩
        · have hpn : p = [] := by rw [← hdp, h0]
          have e1 := hR false n i p (by omega) h.1 hp (by rw [hpn]; trivial)
          rw [e1, Option.bind_some]
          show Fl (i35_j2 (m + 3) self (i35_l1 (m + 3) self M) lv (Q s (i + (g e).length) (n + nds e - adj false e)) e0 6 0 (ByteArray.mk (List.toArray [])) acc [] e) s
          rw [cu_end h0 h2.1, list_j3_end m self _ s _ lv e0 acc e (by omega)]
          exact ⟨_, _, rfl⟩
        · have hpn : p = 44 :: p' := by rw [← hdp, hp']
          have e1 := hR false n i p (by omega) h.1 hp (by rw [hpn]; exact nodig_c (.inl (by decide)))
          rw [show adj false e = 0 from rfl, Nat.sub_zero] at e1
          obtain ⟨hlt, _, _⟩ := dr_cons hp'
          have ap : app acc [e] = some (acc ++ [e]) := app_le (by simp; omega)
          have hb := blanks_no (m + 1) (n := n + nds e) hp' hs (by decide)
          have hpk := peek_at (m + 2) (n := n + nds e) hp' hs
          have f1 : (((44 : UInt8).toNat : Int) != 44) = false := rfl
          have f3 : (((44 : UInt8).toNat : Int) == 93) = false := rfl
          obtain ⟨_, _, hH2, _⟩ := hx e2 (by simp)
          have hb2 := blanks_cu (m + 1) (n := n + nds e) h3 (hd_app _ hH2) hs
          rw [List.length_cons] at hM ha
          have ih := list_cut m self s hs g lv hlv e0 r2 e2 (acc ++ [e]) M (i + (g e).length + 1) (n + nds e) (k + 1) h3 (by omega) (fun x hx' => hx x (List.mem_cons_of_mem _ hx')) (by omega) (by simp; omega)
          rw [e1]
          simp only [Option.bind_some, Bool.not_true, cond_false, i35_j2, ap, hb, hpk, f1, f3, i35_j3, i35_j4, Q_adv (show i + (g e).length < 9223372036854775807 by omega), i35_j5, hb2]
          exact ih
theorem list_cut' (m : Nat) (s : ByteArray) (hs : s.size < 1000000000000) (g : Dt → List UInt8) (lv : Int) (hlv : 0 ≤ lv ∧ lv ≤ 100) (L : List Dt) (i n : Nat) (h : Cu s i ([91] ++ (lsF g 0 L ++ [93]))) (hlt : i < s.size) (hm : L.length ≤ m) (hL : L.length ≤ 130000000000)
    (hx : ∀ x ∈ L, Rd (i25 (m + 3)) s (lv + 1) x (g x) ∧ RC (i25 (m + 3)) s (lv + 1) x (g x) ∧ hdOK (g x) ∧ 1 ≤ nds x) (hn : n + (L.map nds).sum ≤ 1024) :
    Fl (i35 (m + 4) lv (Q s i n)) s := by
  have h' : Cu s i (91 :: (lsF g 0 L ++ [93])) := h
  rcases cu_cons h' with h0 | ⟨_, h1⟩
  · have := cu_end h0 h.1; omega
  rw [i35]
  simp only [Q_adv (show i < 9223372036854775807 by omega)]
  cases L with
  | nil =>
    have h2 : Cu s (i + 1) [93] := h1
    have hN := cu_end (cu_one h2) h2.1
    have hb := blanks_end (m + 1) (s := s) (i := i + 1) (n := n) hN
    have hp := peek_end (m + 2) (s := s) (i := i + 1) (n := n) hN
    have w1 : IntKind.wrap .i64 (lv + 1) = lv + 1 := wrap64 (by omega) (by omega)
    have hv := val_end (m + 1) s n (lv + 1) false
    rw [hb, Option.bind_some, hp, Option.bind_some]
    show Fl (i35_l1 (m + 3) (i25 (m + 3)) (m + 3 + 1) lv (Q s (i + 1) n) kza2373 6 0 (ByteArray.mk (List.toArray [])) [] []) s
    rw [i35_l1, w1, hN, hv]
    exact ⟨_, _, rfl⟩
  | cons e r =>
    have h2 : Cu s (i + 1) (g e ++ (lsF g (0 + 1) r ++ [93])) := by
      have : lsF g 0 (e :: r) ++ [93] = g e ++ (lsF g (0 + 1) r ++ [93]) := by simp [lsF]
      rw [← this]; exact h1
    obtain ⟨_, _, hH, _⟩ := hx e (List.mem_cons_self ..)
    have hb := blanks_cu (m + 1) (n := n) h2 (hd_app _ hH) hs
    obtain ⟨c, hc1, _, hp⟩ := peek_cu (m + 2) (n := n) h2 (hd_app _ hH) hs
    have f3 : (c == 93) = false := beq_eq_false_iff_ne.2 hc1
    rw [List.length_cons] at hm hL
    have ih := list_cut m (i25 (m + 3)) s hs g lv hlv kza2373 r e [] (m + 4) (i + 1) n 0 h2 (by omega) hx hn (by simp; omega)
    simp only [hb, hp, Option.bind_some, f3, cond_false, i35_j0]
    exact ih
-- objects
theorem name_end (m : Nat) (s : ByteArray) (n : Nat) (mp : List Dt) : i37 (m + 11) (Q s s.size n) mp = some (ByteArray.mk (List.toArray []), false, QE s s.size n 4 (s.size : Int), mp) := by
  have hp := peek_end (m + 9) (s := s) (i := s.size) (n := n) rfl
  rw [i37, hp, Option.bind_some]
  rfl
theorem name_go (m : Nat) (s : ByteArray) (hs : s.size < 1000000000000) (i n : Nat) (nm : ByteArray) (mp : List Dt) (p : List UInt8) (hd : s.data.toList.drop i = qtL nm.data.toList ++ p) (hw : wd nm = true) (hm : (mgetD mp nm (Dt.bool false)).toBool = false) (hmm : 200 ≤ m) :
    i37 (m + 11) (Q s i n) mp = i37_j4 (m + 10) nm (Q s (i + (qtL nm.data.toList).length) n) mp := by
  obtain ⟨hw1, hw3⟩ := Bool.and_eq_true_iff.1 hw
  obtain ⟨hw1, hw2⟩ := Bool.and_eq_true_iff.1 hw1
  have hw1 := of_decide_eq_true hw1
  have hw2 := of_decide_eq_true hw2
  have hd0 : s.data.toList.drop i = 34 :: (qL nm.data.toList ++ (34 :: p)) := by rw [hd]; simp [qtL]
  have hp := peek_at (m + 9) (n := n) hd0 hs
  have hlit := literal_eq m s i n nm.data.toList _ hd hs (by rw [lenB]; omega) (by rw [lenB]; omega)
  rw [mkB_self] at hlit
  have hf := isField_eq (m + 9) nm (by omega) (by omega)
  rw [hw3, decide_eq_true hw1] at hf
  have f0 : (((34 : UInt8).toNat : Int) != 34) = false := rfl
  have e1 : decide ((128 : Int) < (nm.size : Int)) = false := decide_eq_false (by omega)
  rw [i37]
  simp only [hp, Option.bind_some, f0, cond_false, i37_j0, hlit, Bool.not_true, i37_j1, e1, i37_j2, hf, Bool.and_self, hm, i37_j3]
theorem name_cut (m : Nat) (s : ByteArray) (hs : s.size < 1000000000000) (i n : Nat) (nm : ByteArray) (mp : List Dt) (h : Cu s i (qtL nm.data.toList ++ [58])) (hw : wd nm = true) (hm : (mgetD mp nm (Dt.bool false)).toBool = false) (hmm : 200 ≤ m) :
    i37 (m + 11) (Q s i n) mp = some (ByteArray.mk (List.toArray []), false, QE s s.size n 4 (s.size : Int), mp) := by
  have hwl : nm.size ≤ 128 := of_decide_eq_true (Bool.and_eq_true_iff.1 (Bool.and_eq_true_iff.1 hw).1).2
  rcases cu_app h with h1 | ⟨⟨p, hp⟩, h2⟩
  · have h1' : Cu s i (34 :: (qL nm.data.toList ++ [34])) := h1
    rcases cu_cons h1' with h0 | ⟨⟨p, hp⟩, _⟩
    · rw [cu_end h0 h1.1]
      exact name_end m s n mp
    · obtain ⟨hlt, _, _⟩ := dr_cons hp
      have hpk := peek_at (m + 9) (n := n) hp hs
      have hl := literal_cut m s i n nm.data.toList h1 hlt hs (by rw [lenB]; omega) (by rw [lenB]; omega)
      have f0 : (((34 : UInt8).toNat : Int) != 34) = false := rfl
      rw [i37]
      simp only [hpk, Option.bind_some, f0, cond_false, i37_j0, hl]
      rfl
  · rw [name_go m s hs i n nm mp p hp hw hm hmm]
    have hN := cu_end (cu_one h2) h2.1
    have hb := blanks_end (m + 8) (s := s) (i := s.size) (n := n) rfl
    have hpk := peek_end (m + 9) (s := s) (i := s.size) (n := n) rfl
    rw [hN, i37_j4, hb, Option.bind_some, hpk, Option.bind_some]
    rfl
theorem name_ok (m : Nat) (s : ByteArray) (hs : s.size < 1000000000000) (i n : Nat) (nm : ByteArray) (mp : List Dt) (p : List UInt8) (hd : s.data.toList.drop i = qtL nm.data.toList ++ (58 :: p)) (hw : wd nm = true) (hm : (mgetD mp nm (Dt.bool false)).toBool = false) (hmm : 200 ≤ m)
    (hb2 : i23 (m + 10) (Q s (i + (qtL nm.data.toList).length + 1) n) = some (Q s (i + (qtL nm.data.toList).length + 1) n)) :
    i37 (m + 11) (Q s i n) mp = some (nm, true, Q s (i + (qtL nm.data.toList).length + 1) n, mp) := by
  rw [name_go m s hs i n nm mp _ hd hw hm hmm]
  have h2 := dr_add hd
  obtain ⟨hlt, _, _⟩ := dr_cons h2
  have hb := blanks_no (m + 8) (n := n) h2 hs (by decide)
  have hp2 := peek_at (m + 9) (n := n) h2 hs
  have f1 : (((58 : UInt8).toNat : Int) != 58) = false := rfl
  simp only [i37_j4, hb, Option.bind_some, hp2, f1, cond_false, i37_j5, Q_adv (show i + (qtL nm.data.toList).length < 9223372036854775807 by omega), hb2]
theorem obj_j4_end (m : Nat) (self : Int → Bool → Dt → Option (Dt × Bool × Dt)) (rec1 : Int → Dt → Dt → Int → Int → ByteArray → List Dt → List Dt → List Dt → Option (Dt × Bool × Dt)) (s : ByteArray) (n : Nat) (lv : Int) (nm : ByteArray) (late : Bool) (st : Int) (e0 : Dt) (dn mp : List Dt) (v : Dt) (hdn : dn.length + 1 ≤ 137438953472) :
    i36_j4 (m + 11) self rec1 lv nm late st (Q s s.size n) e0 5 0 (ByteArray.mk (List.toArray [])) [] dn mp v = some (kza2373, false, QE s s.size n 4 (s.size : Int)) := by
  have ap : app dn [Dt.agg [Dt.str nm, v]] = some (dn ++ [Dt.agg [Dt.str nm, v]]) := app_le (by simp; omega)
  have hb := blanks_end (m + 9) (s := s) (i := s.size) (n := n) rfl
  have hp := peek_end (m + 10) (s := s) (i := s.size) (n := n) rfl
  rw [i36_j4, ap, Option.bind_some, hb, Option.bind_some, hp, Option.bind_some]
  rfl
structure HC (sf : Int → Bool → Dt → Option (Dt × Bool × Dt)) (s : ByteArray) (lv : Int) (g : Dt → List UInt8) (f : Dt) : Prop where
  rd : Rd sf s (lv + 1) (Dt.fld f 1) (g (Dt.fld f 1))
  rc : RC sf s (lv + 1) (Dt.fld f 1) (g (Dt.fld f 1))
  hd : hdOK (g (Dt.fld f 1))
  one : 1 ≤ nds (Dt.fld f 1)
  eq : f = Dt.agg [Dt.str (Dt.S f 0), Dt.fld f 1]
theorem adj_le {late : Bool} {v : Dt} (h : 1 ≤ nds v) : adj late v ≤ nds v := by
  unfold adj
  cases (late && (Dt.I v 0 == 4 || Dt.I v 0 == 3)) <;> simp <;> omega
theorem obj_cut (m : Nat) (hm : 300 ≤ m) (self : Int → Bool → Dt → Option (Dt × Bool × Dt)) (s : ByteArray) (hs : s.size < 1000000000000) (g : Dt → List UInt8) (lv : Int) (hl : 0 ≤ lv ∧ lv ≤ 100) (e0 : Dt) : ∀ (r : List Dt) (f : Dt) (dn : List Dt) (M i n k : Nat) (mp : List Dt) (late : Bool) (n2 : Nat),
    late = (bif ((dn.length : Int) == 0) then isSp (Dt.S f 0) else false) → Cu s i (ftx g f ++ (lsF (ftx g) (k + 1) r ++ [125])) → r.length < M → fl wd (fun _ => true) (dn.map fun x => Dt.S x 0) (f :: r) = true → MapS mp (dn.map fun x => Dt.S x 0) → hdOK (g (Dt.fld f 1)) → f = Dt.agg [Dt.str (Dt.S f 0), Dt.fld f 1] →
    (∀ (j : Nat) (rest : List UInt8), j ≤ s.size → s.data.toList.drop j = g (Dt.fld f 1) ++ rest → nodig rest → self (lv + 1) late (Q s j n) = some (Dt.fld f 1, true, Q s (j + (g (Dt.fld f 1)).length) n2)) → (∀ j, Cu s j (g (Dt.fld f 1)) → Out (self (lv + 1) late (Q s j n)) s) →
    (r ≠ [] → n2 + adj late (Dt.fld f 1) + (r.map fun x => nds (Dt.fld x 1)).sum ≤ 1024 ∧ lv + 1 ≤ 16) → (∀ x ∈ r, HC self s lv g x) → dn.length + r.length + 1 ≤ 137438953000 →
    Fl (i36_l1 (m + 11) self M lv (Q s i n) e0 5 0 (ByteArray.mk (List.toArray [])) [] dn mp) s
  | _, _, _, 0, _, _, _, _, _, _, _, _, h, _, _, _, _, _, _, _, _, _ => by omega
  | r, f, dn, M + 1, i, n, k, mp, late, n2, hlate, h, hM, hfl, hmp, hhd, heq, hrd, hrc, hnn, hx, ha => by
    simp only [fl, Bool.and_true] at hfl
    obtain ⟨hfl1, hfl2⟩ := Bool.and_eq_true_iff.1 hfl
    obtain ⟨hwd, hseen⟩ := Bool.and_eq_true_iff.1 hfl1
    have hmg := hmp (Dt.S f 0)
    rw [show (dn.map fun x => Dt.S x 0).any (eqb (Dt.S f 0)) = false by simpa using hseen] at hmg
    have hmp2 := mapS_put hmp (Dt.S f 0)
    have w1 : IntKind.wrap .i64 (lv + 1) = lv + 1 := wrap64 (by omega) (by omega)
    have h' : Cu s i ((qtL (Dt.S f 0).data.toList ++ [58]) ++ (g (Dt.fld f 1) ++ (lsF (ftx g) (k + 1) r ++ [125]))) := by
      have : ftx g f ++ (lsF (ftx g) (k + 1) r ++ [125]) = (qtL (Dt.S f 0).data.toList ++ [58]) ++ (g (Dt.fld f 1) ++ (lsF (ftx g) (k + 1) r ++ [125])) := by simp [ftx]
      rw [← this]; exact h
    rcases cu_app h' with h1 | ⟨⟨p, hp⟩, h2⟩
    · have hnm := name_cut m s hs i n (Dt.S f 0) mp h1 hwd hmg (by omega)
      rw [i36_l1, hnm]
      exact ⟨_, _, rfl⟩
    · have hp1 : s.data.toList.drop i = qtL (Dt.S f 0).data.toList ++ (58 :: p) := by rw [hp]; simp
      have e58 : i + (qtL (Dt.S f 0).data.toList ++ [58]).length = i + (qtL (Dt.S f 0).data.toList).length + 1 := by simp; omega
      rw [e58] at h2
      have hb2 := blanks_cu (m + 8) (n := n) h2 (hd_app _ hhd) hs
      have hnm := name_ok m s hs i n (Dt.S f 0) mp p hp1 hwd hmg (by omega) hb2
      have start : ∀ (R : Option (Dt × Bool × Dt)), self (lv + 1) late (Q s (i + (qtL (Dt.S f 0).data.toList).length + 1) n) = R → i36_l1 (m + 11) self (M + 1) lv (Q s i n) e0 5 0 (ByteArray.mk (List.toArray [])) [] dn mp = R.bind fun r4 => (bif (Bool.not r4.2.1) then some (kza2373, false, r4.2.2) else i36_j4 (m + 11) self (i36_l1 (m + 11) self M) lv (Dt.S f 0) late (Dt.I (Q s (i + (qtL (Dt.S f 0).data.toList).length + 1) n) 1) r4.2.2 e0 5 0 (ByteArray.mk (List.toArray [])) [] dn (mput mp (Dt.S f 0) (Dt.bool true)) r4.1) := fun R hR => by
        have hj3 : i36_j3 (m + 11) self (i36_l1 (m + 11) self M) lv (Dt.S f 0) late (Q s (i + (qtL (Dt.S f 0).data.toList).length + 1) n) e0 5 0 (ByteArray.mk (List.toArray [])) [] dn (mput mp (Dt.S f 0) (Dt.bool true)) = R.bind fun r4 => (bif (Bool.not r4.2.1) then some (kza2373, false, r4.2.2) else i36_j4 (m + 11) self (i36_l1 (m + 11) self M) lv (Dt.S f 0) late (Dt.I (Q s (i + (qtL (Dt.S f 0).data.toList).length + 1) n) 1) r4.2.2 e0 5 0 (ByteArray.mk (List.toArray [])) [] dn (mput mp (Dt.S f 0) (Dt.bool true)) r4.1) := by
          rw [i36_j3, w1, hR]
        rw [← hj3]
        simp only [i36_l1, hnm, Option.bind_some, Bool.not_true, cond_false, i36_j2]
        rw [hlate]
        cases ((dn.length : Int) == 0)
        · rfl
        · simp only [cond_true, isSp_eq, Option.bind_some]
      rcases cu_app h2 with h3 | ⟨⟨p', hp'⟩, h3⟩
      · rcases hrc _ h3 with ⟨v, n', e1⟩ | ⟨v, n', e1⟩
        · rw [start _ e1]; exact ⟨_, _, rfl⟩
        · rw [start _ e1, Option.bind_some]
          show Fl (i36_j4 (m + 11) self (i36_l1 (m + 11) self M) lv (Dt.S f 0) late _ (Q s s.size n') e0 5 0 (ByteArray.mk (List.toArray [])) [] dn (mput mp (Dt.S f 0) (Dt.bool true)) v) s
          rw [obj_j4_end m self _ s n' lv _ late _ e0 dn _ v (by omega)]
          exact ⟨_, _, rfl⟩
      · have hdp := dr_add hp'
        have hdl := dr_len hp' h2.1
        rw [List.length_append] at hdl
        have early : s.data.toList.drop (i + (qtL (Dt.S f 0).data.toList).length + 1 + (g (Dt.fld f 1)).length) = [] → Fl (i36_l1 (m + 11) self (M + 1) lv (Q s i n) e0 5 0 (ByteArray.mk (List.toArray [])) [] dn mp) s := fun h0 => by
          have hpn : p' = [] := by rw [← hdp, h0]
          have e1 := hrd _ p' h2.1 hp' (by rw [hpn]; trivial)
          rw [start _ e1, Option.bind_some]
          show Fl (i36_j4 (m + 11) self (i36_l1 (m + 11) self M) lv (Dt.S f 0) late _ (Q s (i + (qtL (Dt.S f 0).data.toList).length + 1 + (g (Dt.fld f 1)).length) n2) e0 5 0 (ByteArray.mk (List.toArray [])) [] dn (mput mp (Dt.S f 0) (Dt.bool true)) (Dt.fld f 1)) s
          rw [cu_end h0 h3.1, obj_j4_end m self _ s _ lv _ late _ e0 dn _ _ (by omega)]
          exact ⟨_, _, rfl⟩
        cases r with
        | nil => exact early (cu_one h3)
        | cons f2 r2 =>
          rw [lsF_pos, List.cons_append, List.append_assoc] at h3
          rcases cu_cons h3 with h0 | ⟨⟨p2, hp2⟩, h4⟩
          · exact early h0
          · have hpn : p' = 44 :: p2 := by rw [← hdp, hp2]
            have e1 := hrd _ p' h2.1 hp' (by rw [hpn]; exact nodig_c (.inl (by decide)))
            obtain ⟨hlt, _, _⟩ := dr_cons hp2
            obtain ⟨hn1, hl2⟩ := hnn (by simp)
            simp only [List.map_cons, List.sum_cons] at hn1
            have hF2 := hx f2 (by simp)
            have ap : app dn [Dt.agg [Dt.str (Dt.S f 0), Dt.fld f 1]] = some (dn ++ [f]) := by
              rw [← heq]; exact app_le (by simp; omega)
            have hb := blanks_no (m + 9) (n := n2) hp2 hs (by decide)
            have hpk := peek_at (m + 10) (n := n2) hp2 hs
            have f1 : (((44 : UInt8).toNat : Int) != 44) = false := rfl
            have f3 : (((44 : UInt8).toNat : Int) == 125) = false := rfl
            have hj7 := j7_eq (m + 10) self (i36_l1 (m + 11) self M) lv ⟨hl.1, hl2⟩ late (Dt.I (Q s (i + (qtL (Dt.S f 0).data.toList).length + 1) n) 1) ((44 : UInt8).toNat : Int) s (i + (qtL (Dt.S f 0).data.toList).length + 1 + (g (Dt.fld f 1)).length + 1) n2 e0 5 0 (ByteArray.mk (List.toArray [])) [] (dn ++ [f]) (mput mp (Dt.S f 0) (Dt.bool true)) (Dt.fld f 1) (by omega)
            have hb3 := blanks_cu (m + 9) (n := n2 + adj late (Dt.fld f 1)) h4 (hd_app _ (ftx_hd g f2)) hs
            rw [List.length_cons] at hM ha
            have et : ((dn ++ [f]).map fun x => Dt.S x 0) = (dn.map fun x => Dt.S x 0) ++ [Dt.S f 0] := by simp
            have hne : (((dn ++ [f]).length : Int) == 0) = false := by rw [beq_eq_false_iff_ne]; simp only [List.length_append, List.length_cons, List.length_nil]; omega
            have hadj := adj_le (late := false) hF2.one
            have ih := obj_cut m hm self s hs g lv hl e0 r2 f2 (dn ++ [f]) M (i + (qtL (Dt.S f 0).data.toList).length + 1 + (g (Dt.fld f 1)).length + 1) (n2 + adj late (Dt.fld f 1)) (k + 1) (mput mp (Dt.S f 0) (Dt.bool true)) false (n2 + adj late (Dt.fld f 1) + nds (Dt.fld f2 1)) (by rw [hne]; rfl) h4 (by omega) (by rw [et]; exact hfl2) (by rw [et]; exact hmp2) hF2.hd hF2.eq
              (fun j rest hj hdj hr => by
                have := hF2.rd false (n2 + adj late (Dt.fld f 1)) j rest (by omega) hj hdj hr
                rw [show adj false (Dt.fld f2 1) = 0 from rfl, Nat.sub_zero] at this
                exact this)
              (fun j hj => hF2.rc false (n2 + adj late (Dt.fld f 1)) j (by omega) hj)
              (fun _ => ⟨by rw [show adj false (Dt.fld f2 1) = 0 from rfl]; omega, hl2⟩) (fun x hx' => hx x (List.mem_cons_of_mem _ hx')) (by simp; omega)
            rw [start _ e1]
            simp only [Option.bind_some, Bool.not_true, cond_false, i36_j4, ap, hb, hpk, f1, f3, i36_j5, i36_j6, Q_adv (show i + (qtL (Dt.S f 0).data.toList).length + 1 + (g (Dt.fld f 1)).length < 9223372036854775807 by omega), hj7, i36_j9, i36_j10, hb3]
            exact ih
theorem obj_cut' (m : Nat) (hm : 300 ≤ m) (s : ByteArray) (hs : s.size < 1000000000000) (g : Dt → List UInt8) (lv : Int) (hl : 0 ≤ lv ∧ lv ≤ 100) (L : List Dt) (i n : Nat) (h : Cu s i ([123] ++ (lsF (ftx g) 0 L ++ [125]))) (hlt : i < s.size)
    (hgo : ∀ f r, L = f :: r → Cu s (i + 1) (ftx g f ++ (lsF (ftx g) (0 + 1) r ++ [125])) → Fl (i36_l1 (m + 11) (i25 (m + 11)) (m + 12) lv (Q s (i + 1) n) kza2373 5 0 (ByteArray.mk (List.toArray [])) [] [] []) s) :
    Fl (i36 (m + 12) lv (Q s i n)) s := by
  have h' : Cu s i (123 :: (lsF (ftx g) 0 L ++ [125])) := h
  rcases cu_cons h' with h0 | ⟨_, h1⟩
  · have := cu_end h0 h.1; omega
  rw [i36]
  simp only [Q_adv (show i < 9223372036854775807 by omega)]
  cases L with
  | nil =>
    have h2 : Cu s (i + 1) [125] := h1
    have hN := cu_end (cu_one h2) h2.1
    have hb := blanks_end (m + 9) (s := s) (i := i + 1) (n := n) hN
    have hp := peek_end (m + 10) (s := s) (i := i + 1) (n := n) hN
    rw [hb, Option.bind_some, hp, Option.bind_some]
    show Fl (i36_l1 (m + 11) (i25 (m + 11)) (m + 11 + 1) lv (Q s (i + 1) n) kza2373 5 0 (ByteArray.mk (List.toArray [])) [] [] []) s
    rw [i36_l1, hN, name_end m s n []]
    exact ⟨_, _, rfl⟩
  | cons f r =>
    have h2 : Cu s (i + 1) (ftx g f ++ (lsF (ftx g) (0 + 1) r ++ [125])) := by
      have : lsF (ftx g) 0 (f :: r) ++ [125] = ftx g f ++ (lsF (ftx g) (0 + 1) r ++ [125]) := by simp [lsF]
      rw [← this]; exact h1
    have hb := blanks_cu (m + 9) (n := n) h2 (hd_app _ (ftx_hd g f)) hs
    obtain ⟨c, _, hc1, hp⟩ := peek_cu (m + 10) (n := n) h2 (hd_app _ (ftx_hd g f)) hs
    have f3 : (c == 125) = false := beq_eq_false_iff_ne.2 hc1
    simp only [hb, hp, Option.bind_some, f3, cond_false, i36_j0]
    exact hgo f r rfl h2
end Go.Proofs.YtmejbpmceflcjaaDoor
