/- Schemas: the first error of a tree; the program and the reference agree. -/
import Derived.Test.YtfneddmmeadacaaDoorMSv
set_option linter.unusedVariables false
set_option linter.unusedSimpArgs false
namespace Go.Proofs.YtfneddmmeadacaaDoor
open Go.Am

/-- What the two checks answer at a schema of which 'seen' others came before. -/
def ChkOK (p : Int → Int → Option (Int × Int)) (q : Int → Int → Option (Int × Int)) : Prop :=
  ∀ level seen : Nat, level ≤ 17 → seen ≤ 64 → ∃ (e n : Int) (k : Int), p (level : Int) (seen : Int) = some (e, n) ∧ q ((seen + 1 : Nat) : Int) (level : Int) = some (k, e) ∧ (e = 0 → k = n ∧ level ≤ 16 ∧ ∃ n' : Nat, n = (n' : Int) ∧ n' ≤ 64)
theorem items_sim (m m' : Nat) (self selfR : Dt → Int → Int → Option (Int × Int)) (s : Dt) (hl : (Dt.L s 9).length + (Dt.L s 11).length < 1000000000000) (level : Nat) (hlv : level ≤ 16)
    (hs : ∀ e ∈ Dt.L s 11, ChkOK (self e) (selfR e)) : ∀ (M M' i seen : Nat), i ≤ (Dt.L s 11).length → (Dt.L s 11).length - i < M → (Dt.L s 11).length - i < M' → seen ≤ 64 →
    ∃ (e n : Int) (k : Int), i5_l9 m self M (level : Int) (Dt.L s 11) ((Dt.L s 11).length : Int) (i : Int) (seen : Int) = some (e, n) ∧ ref14_check_l4 m' selfR M' (seen : Int) (level : Int) (((Dt.L s 9).length + i : Nat) : Int) s = some (k, e) ∧ (e = 0 → k = n ∧ ∃ n' : Nat, n = (n' : Int) ∧ n' ≤ 64)
  | 0, _, i, _, _, h, _, _ => by omega
  | _ + 1, 0, i, _, _, _, h, _ => by omega
  | M + 1, M' + 1, i, seen, hi, h, h', hn => by
    have hw : IntKind.wrap IntKind.i64 (((Dt.L s 9).length : Int) + ((Dt.L s 11).length : Int)) = (((Dt.L s 9).length + (Dt.L s 11).length : Nat) : Int) := by rw [wrap64 (by omega) (by omega)]; omega
    simp only [i5_l9, ref14_check_l4, hw, dlt]
    by_cases hlt : i < (Dt.L s 11).length
    · have h2 : (Dt.L s 9).length + i < (Dt.L s 9).length + (Dt.L s 11).length := by omega
      have h3 : ¬ (Dt.L s 9).length + i < (Dt.L s 9).length := by omega
      have w2 : IntKind.wrap IntKind.i64 ((((Dt.L s 9).length + i : Nat) : Int) - ((Dt.L s 9).length : Int)) = (i : Int) := by rw [wrap64 (by omega) (by omega)]; omega
      obtain ⟨e, n, k, c1, c2, c3⟩ := hs _ (List.getElem_mem hlt) (level + 1) seen (by omega) hn
      have d3 : decide ((((Dt.L s 9).length + i : Nat) : Int) < ((Dt.L s 9).length : Int)) = false := decide_eq_false (by omega)
      simp only [hlt, h2, decide_true, cond_true, i5_j6, i5_j5, i5_j11, i5_j10, i5_j12, i5_j8, i5_j7, i5_j3, i5_j2, i5_j1, i5_j0, ref14_check_j8, ref14_check_j7, ref14_check_j6, ref14_check_j5, ref14_check_j9, ref14_check_j3, ref14_check_j2, ref14_check_j1, ref14_check_j0, d3, cond_false, w2, idx_lt hlt, Option.bind_some, wrapS (show level < 9223372036854775807 by omega), wrapS (show seen < 9223372036854775807 by omega), c1, c2]
      by_cases he : e = 0
      · obtain ⟨hk, _, n', hn1, hn2⟩ := c3 he
        subst hk he hn1
        have := items_sim m m' self selfR s hl level hlv hs M M' (i + 1) n' (by omega) (by omega) (by omega) hn2
        simp only [bne_self_eq_false, cond_false, wrapS (show i < 9223372036854775807 by omega), wrapS (show (Dt.L s 9).length + i < 9223372036854775807 by omega)]
        rw [show (Dt.L s 9).length + i + 1 = (Dt.L s 9).length + (i + 1) by omega]
        exact this
      · have hb : (e != 0) = true := by simpa using he
        simp only [hb, cond_true]
        exact ⟨e, n, k, rfl, rfl, fun h => absurd h he⟩
    · have h2 : ¬ (Dt.L s 9).length + i < (Dt.L s 9).length + (Dt.L s 11).length := by omega
      simp only [hlt, h2, decide_false, cond_false, i5_j6, i5_j5, i5_j11, i5_j10, i5_j12, i5_j8, i5_j7, i5_j3, i5_j2, i5_j1, i5_j0, ref14_check_j8, ref14_check_j7, ref14_check_j6, ref14_check_j5, ref14_check_j9, ref14_check_j3, ref14_check_j2, ref14_check_j1, ref14_check_j0]
      exact ⟨0, _, _, rfl, rfl, fun _ => ⟨rfl, seen, rfl, hn⟩⟩
theorem props_sim (m m' : Nat) (self selfR : Dt → Int → Int → Option (Int × Int)) (s : Dt) (hl : (Dt.L s 9).length + (Dt.L s 11).length < 1000000000000) (level : Nat) (hlv : level ≤ 16) (hm : (Dt.L s 11).length ≤ m)
    (hp : ∀ p ∈ Dt.L s 9, ChkOK (self (Dt.fld p 1)) (selfR (Dt.fld p 1))) (hs : ∀ e ∈ Dt.L s 11, ChkOK (self e) (selfR e)) : ∀ (M M' i seen : Nat), i ≤ (Dt.L s 9).length → (Dt.L s 9).length - i < M → (Dt.L s 9).length + (Dt.L s 11).length - i < M' → seen ≤ 64 →
    ∃ (e n : Int) (k : Int), i5_l4 m self M (level : Int) (Dt.L s 9) ((Dt.L s 9).length : Int) (i : Int) (seen : Int) s = some (e, n) ∧ ref14_check_l4 m' selfR M' (seen : Int) (level : Int) (i : Int) s = some (k, e) ∧ (e = 0 → k = n ∧ ∃ n' : Nat, n = (n' : Int) ∧ n' ≤ 64)
  | 0, _, i, _, _, h, _, _ => by omega
  | _ + 1, 0, i, _, _, _, h, _ => by omega
  | M + 1, M' + 1, i, seen, hi, h, h', hn => by
    have hw : IntKind.wrap IntKind.i64 (((Dt.L s 9).length : Int) + ((Dt.L s 11).length : Int)) = (((Dt.L s 9).length + (Dt.L s 11).length : Nat) : Int) := by rw [wrap64 (by omega) (by omega)]; omega
    by_cases hlt : i < (Dt.L s 9).length
    · simp only [i5_l4, ref14_check_l4, hw, dlt]
      have h2 : i < (Dt.L s 9).length + (Dt.L s 11).length := by omega
      obtain ⟨e, n, k, c1, c2, c3⟩ := hp _ (List.getElem_mem hlt) (level + 1) seen (by omega) hn
      simp only [hlt, h2, decide_true, cond_true, i5_j6, i5_j5, i5_j11, i5_j10, i5_j12, i5_j8, i5_j7, i5_j3, i5_j2, i5_j1, i5_j0, ref14_check_j8, ref14_check_j7, ref14_check_j6, ref14_check_j5, ref14_check_j9, ref14_check_j3, ref14_check_j2, ref14_check_j1, ref14_check_j0, dlt, idx_lt hlt, Option.bind_some, wrapS (show level < 9223372036854775807 by omega), wrapS (show seen < 9223372036854775807 by omega), c1, c2]
      by_cases he : e = 0
      · obtain ⟨hk, _, n', hn1, hn2⟩ := c3 he
        subst hk he hn1
        have := props_sim m m' self selfR s hl level hlv hm hp hs M M' (i + 1) n' (by omega) (by omega) (by omega) hn2
        simp only [bne_self_eq_false, cond_false, wrapS (show i < 9223372036854775807 by omega)]
        exact this
      · have hb : (e != 0) = true := by simpa using he
        simp only [hb, cond_true]
        exact ⟨e, n, k, rfl, rfl, fun h => absurd h he⟩
    · have e0 : i = (Dt.L s 9).length := by omega
      subst e0
      have := items_sim m m' self selfR s hl level hlv hs (m + 1) (M' + 1) 0 seen (Nat.zero_le _) (by omega) (by omega) hn
      rw [Nat.add_zero] at this
      rw [i5_l4]
      simp only [dlt, hlt, decide_false, cond_false, i5_j6, i5_j5, i5_j11, i5_j10, i5_j12, i5_j8, i5_j7, i5_j3, i5_j2, i5_j1, i5_j0]
      exact this
theorem check_sim : ∀ (N : Nat) (s : Dt), s.bulk ≤ N → N ≤ 1000000000 → WS s → ∀ m m' : Nat, 4 * N + 500 ≤ m → 4 * N + 500 ≤ m' → m' < 9223372036854770000 → ChkOK (i5 (m + 10) s) (ref14_check (m' + 10) s)
  | 0, s, h, _, _, _, _, _, _, _ => by have := bulk_pos s; omega
  | N + 1, s, h, hN, hw, m, m', hm, hm', hm2 => by
    intro level seen hlv hn
    have p1 := checkOne_eq hw (m - 1) (by omega) (by omega)
    rw [show m - 1 + 10 = m + 9 by omega] at p1
    have p2 := single_eq hw (m' - 1) (by omega) (by omega) (by omega)
    rw [show m' - 1 + 10 = m' + 9 by omega] at p2
    have l9 := L_bulk s 9
    have l11 := L_bulk s 11
    have n9 := len_bulk (Dt.L s 9)
    have n11 := len_bulk (Dt.L s 11)
    rw [i5, ref14_check]
    by_cases h16 : 16 < level
    · have d1 : decide ((16 : Int) < (level : Int)) = true := decide_eq_true (by omega)
      simp only [d1, cond_true, i5_j6, i5_j5, i5_j11, i5_j10, i5_j12, i5_j8, i5_j7, i5_j3, i5_j2, i5_j1, i5_j0, ref14_check_j8, ref14_check_j7, ref14_check_j6, ref14_check_j5, ref14_check_j9, ref14_check_j3, ref14_check_j2, ref14_check_j1, ref14_check_j0]
      exact ⟨2, _, _, rfl, rfl, fun h => by cases h⟩
    · have d1 : decide ((16 : Int) < (level : Int)) = false := decide_eq_false (by omega)
      by_cases h64 : seen = 64
      · have d2 : (((seen : Nat) : Int) == 64) = true := by rw [beq_iff_eq]; omega
        have d3 : decide ((64 : Int) < ((seen + 1 : Nat) : Int)) = true := decide_eq_true (by omega)
        simp only [d1, d2, d3, cond_true, cond_false, i5_j6, i5_j5, i5_j11, i5_j10, i5_j12, i5_j8, i5_j7, i5_j3, i5_j2, i5_j1, i5_j0, ref14_check_j8, ref14_check_j7, ref14_check_j6, ref14_check_j5, ref14_check_j9, ref14_check_j3, ref14_check_j2, ref14_check_j1, ref14_check_j0]
        exact ⟨2, _, _, rfl, rfl, fun h => by cases h⟩
      · have d2 : (((seen : Nat) : Int) == 64) = false := by rw [beq_eq_false_iff_ne]; omega
        have d3 : decide ((64 : Int) < ((seen + 1 : Nat) : Int)) = false := decide_eq_false (by omega)
        simp only [d1, d2, d3, cond_false, i5_j6, i5_j5, i5_j11, i5_j10, i5_j12, i5_j8, i5_j7, i5_j3, i5_j2, i5_j1, i5_j0, ref14_check_j8, ref14_check_j7, ref14_check_j6, ref14_check_j5, ref14_check_j9, ref14_check_j3, ref14_check_j2, ref14_check_j1, ref14_check_j0, p1, p2, Option.bind_some, wrapS (show seen < 9223372036854775807 by omega)]
        by_cases he : sgl s = 0
        · have hb : (sgl s != 0) = false := by simpa using he
          cases hw with
          | mk h0 h2 h4 h5 h9 h11 =>
            have ih : ∀ x : Dt, WS x → x.bulk ≤ N → ChkOK (i5 (m + 9) x) (ref14_check (m' + 9) x) := fun x hx hbx => by
              have := check_sim N x hbx (by omega) hx (m - 1) (m' - 1) (by omega) (by omega) (by omega)
              rw [show m - 1 + 10 = m + 9 by omega, show m' - 1 + 10 = m' + 9 by omega] at this
              exact this
            obtain ⟨e, n, k, c1, c2, c3⟩ := props_sim (m + 9) (m' + 9) (i5 (m + 9)) (ref14_check (m' + 9)) s (by omega) level (by omega) (by omega)
              (fun p hp => ih _ (h9 p hp) (by have := bulk_memA hp; have := fld_bulk p 1; omega)) (fun x hx => ih _ (h11 x hx) (by have := bulk_memA hx; omega)) (m + 10) (m' + 10) 0 (seen + 1) (Nat.zero_le _) (by omega) (by omega) (by omega)
            simp only [hb, cond_false]
            exact ⟨e, n, k, c1, c2, fun h => ⟨(c3 h).1, by omega, (c3 h).2⟩⟩
        · have hb : (sgl s != 0) = true := by simpa using he
          simp only [hb, cond_true]
          exact ⟨_, _, _, rfl, rfl, fun h => absurd h he⟩
/-- The first error of a schema. -/
theorem sValid_sim {s : Dt} (hw : WS s) (hb : s.bulk ≤ 1000000000) (m m' : Nat) (hm : 5000000000 ≤ m) (hm' : 5000000000 ≤ m') (hm2 : m' < 9223372036854770000) : ∃ e, schema_Valid (m + 11) s = some e ∧ ref14_Valid (m' + 11) s = some e := by
  obtain ⟨e, n, k, c1, c2, _⟩ := check_sim s.bulk s (Nat.le_refl _) hb hw m m' (by omega) (by omega) hm2 1 0 (by omega) (by omega)
  refine ⟨e, ?_, ?_⟩
  · have c1' : i5 (m + 10) s 1 0 = some (e, n) := c1
    rw [schema_Valid, c1']; rfl
  · have c2' : ref14_check (m' + 10) s 1 1 = some (k, e) := c2
    rw [ref14_Valid, c2']; rfl
end Go.Proofs.YtfneddmmeadacaaDoor
