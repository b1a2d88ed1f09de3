/- Valid of the program: it ends, and what it says of a schema without children. -/
import Derived.Test.YtfneddmmeadacaaDoorMD
import Derived.Test.YtfneddmmeadacaaDoorMF
set_option linter.unusedVariables false
set_option linter.unusedSimpArgs false
namespace Go.Proofs.YtfneddmmeadacaaDoor
open Go.Am

def ChkT (p p' : Int → Int → Option (Int × Int)) : Prop :=
  ∀ level seen : Nat, level ≤ 17 → seen ≤ 64 → ∃ (e n : Int), p (level : Int) (seen : Int) = some (e, n) ∧ p' (level : Int) (seen : Int) = some (e, n) ∧ (e = 0 → level ≤ 16 ∧ ∃ n' : Nat, n = (n' : Int) ∧ n' ≤ 64)
theorem chk_items (m m' : Nat) (self self' : Dt → Int → Int → Option (Int × Int)) (L : List Dt) (hl : L.length < 1000000000000) (level : Nat) (hlv : level ≤ 16)
    (hs : ∀ e ∈ L, ChkT (self e) (self' e)) : ∀ (M M' i seen : Nat), i ≤ L.length → L.length - i < M → L.length - i < M' → seen ≤ 64 →
    ∃ (e n : Int), i25_l9 m self M (level : Int) L (L.length : Int) (i : Int) (seen : Int) = some (e, n) ∧ i25_l9 m' self' M' (level : Int) L (L.length : Int) (i : Int) (seen : Int) = some (e, n) ∧ (e = 0 → ∃ n' : Nat, n = (n' : Int) ∧ n' ≤ 64)
  | 0, _, i, _, _, h, _, _ => by omega
  | _ + 1, 0, i, _, _, _, h, _ => by omega
  | M + 1, M' + 1, i, seen, hi, h, h', hn => by
    simp only [i25_l9, dlt]
    by_cases hlt : i < L.length
    · obtain ⟨e, n, c1, c2, c3⟩ := hs _ (List.getElem_mem hlt) (level + 1) seen (by omega) hn
      simp only [hlt, decide_true, cond_true, i25_j6, i25_j5, i25_j11, i25_j10, i25_j12, i25_j8, i25_j7, i25_j3, i25_j2, i25_j1, i25_j0, idx_lt hlt, Option.bind_some, wrapS (show level < 9223372036854775807 by omega), c1, c2]
      by_cases he : e = 0
      · obtain ⟨_, n', hn1, hn2⟩ := c3 he
        subst he hn1
        simp only [bne_self_eq_false, cond_false, wrapS (show i < 9223372036854775807 by omega)]
        exact chk_items m m' self self' L hl level hlv hs M M' (i + 1) n' (by omega) (by omega) (by omega) hn2
      · have hb : (e != 0) = true := by simpa using he
        simp only [hb, cond_true]
        exact ⟨e, n, rfl, rfl, fun h => absurd h he⟩
    · simp only [hlt, decide_false, cond_false, i25_j6, i25_j5, i25_j11, i25_j10, i25_j12, i25_j8, i25_j7, i25_j3, i25_j2, i25_j1, i25_j0]
      exact ⟨0, _, rfl, rfl, fun _ => ⟨seen, rfl, hn⟩⟩
theorem chk_props (m m' : Nat) (self self' : Dt → Int → Int → Option (Int × Int)) (s : Dt) (L : List Dt) (hl : L.length < 1000000000000) (hl2 : (Dt.L s 11).length ≤ m) (hl3 : (Dt.L s 11).length ≤ m') (hm : m < 900000000000) (level : Nat) (hlv : level ≤ 16)
    (hp : ∀ q ∈ L, ChkT (self (Dt.fld q 1)) (self' (Dt.fld q 1))) (hs : ∀ e ∈ Dt.L s 11, ChkT (self e) (self' e)) : ∀ (M M' i seen : Nat), i ≤ L.length → L.length - i < M → L.length - i < M' → seen ≤ 64 →
    ∃ (e n : Int), i25_l4 m self M (level : Int) L (L.length : Int) (i : Int) (seen : Int) s = some (e, n) ∧ i25_l4 m' self' M' (level : Int) L (L.length : Int) (i : Int) (seen : Int) s = some (e, n) ∧ (e = 0 → ∃ n' : Nat, n = (n' : Int) ∧ n' ≤ 64)
  | 0, _, i, _, _, h, _, _ => by omega
  | _ + 1, 0, i, _, _, _, h, _ => by omega
  | M + 1, M' + 1, i, seen, hi, h, h', hn => by
    by_cases hlt : i < L.length
    · simp only [i25_l4, dlt]
      obtain ⟨e, n, c1, c2, c3⟩ := hp _ (List.getElem_mem hlt) (level + 1) seen (by omega) hn
      simp only [hlt, decide_true, cond_true, i25_j6, i25_j5, i25_j11, i25_j10, i25_j12, i25_j8, i25_j7, i25_j3, i25_j2, i25_j1, i25_j0, idx_lt hlt, Option.bind_some, wrapS (show level < 9223372036854775807 by omega), c1, c2]
      by_cases he : e = 0
      · obtain ⟨_, n', hn1, hn2⟩ := c3 he
        subst he hn1
        simp only [bne_self_eq_false, cond_false, wrapS (show i < 9223372036854775807 by omega)]
        exact chk_props m m' self self' s L hl hl2 hl3 hm level hlv hp hs M M' (i + 1) n' (by omega) (by omega) (by omega) hn2
      · have hb : (e != 0) = true := by simpa using he
        simp only [hb, cond_true]
        exact ⟨e, n, rfl, rfl, fun h => absurd h he⟩
    · have := chk_items m m' self self' (Dt.L s 11) (by omega) level hlv hs (m + 1) (m' + 1) 0 seen (Nat.zero_le _) (by omega) (by omega) hn
      rw [i25_l4, i25_l4]
      simp only [dlt, hlt, decide_false, cond_false, i25_j6, i25_j5, i25_j11, i25_j10, i25_j12, i25_j8, i25_j7, i25_j3, i25_j2, i25_j1, i25_j0]
      exact this
theorem chk_tot : ∀ (N : Nat) (s : Dt), s.bulk ≤ N → N ≤ 1000000000 → WS s → ∀ m m' : Nat, 4 * N + 500 ≤ m → m < 800000000000 → 4 * N + 500 ≤ m' → ChkT (i25 (m + 10) s) (i25 (m' + 10) s)
  | 0, s, h, _, _, _, _, _, _, _ => by have := bulk_posA s; omega
  | N + 1, s, h, hN, hw, m, m', hm, hm2, hm' => by
    intro level seen hlv hn
    have p1' := checkOne_eq hw (m' - 1) (by omega) (by omega)
    rw [show m' - 1 + 10 = m' + 9 by omega] at p1'
    have p1 := checkOne_eq hw (m - 1) (by omega) (by omega)
    rw [show m - 1 + 10 = m + 9 by omega] at p1
    have l9 := L_len s 9
    have l11 := L_len s 11
    rw [i25, i25]
    by_cases h16 : 16 < level
    · have d1 : decide ((16 : Int) < (level : Int)) = true := decide_eq_true (by omega)
      simp only [d1, cond_true, i25_j6, i25_j5, i25_j11, i25_j10, i25_j12, i25_j8, i25_j7, i25_j3, i25_j2, i25_j1, i25_j0]
      exact ⟨2, _, rfl, rfl, fun h => by cases h⟩
    · have d1 : decide ((16 : Int) < (level : Int)) = false := decide_eq_false (by omega)
      by_cases h64 : seen = 64
      · have d2 : (((seen : Nat) : Int) == 64) = true := by rw [beq_iff_eq]; omega
        simp only [d1, d2, cond_true, cond_false, i25_j6, i25_j5, i25_j11, i25_j10, i25_j12, i25_j8, i25_j7, i25_j3, i25_j2, i25_j1, i25_j0]
        exact ⟨2, _, rfl, rfl, fun h => by cases h⟩
      · have d2 : (((seen : Nat) : Int) == 64) = false := by rw [beq_eq_false_iff_ne]; omega
        simp only [d1, d2, cond_false, i25_j6, i25_j5, i25_j11, i25_j10, i25_j12, i25_j8, i25_j7, i25_j3, i25_j2, i25_j1, i25_j0, p1, p1', Option.bind_some, wrapS (show seen < 9223372036854775807 by omega)]
        by_cases he : sgl s = 0
        · have hb : (sgl s != 0) = false := by simpa using he
          cases hw with
          | mk h0 h2 h4 h5 h9 h11 =>
            have ih : ∀ x : Dt, WS x → x.bulk ≤ N → ChkT (i25 (m + 9) x) (i25 (m' + 9) x) := fun x hx hbx => by
              have := chk_tot N x hbx (by omega) hx (m - 1) (m' - 1) (by omega) (by omega) (by omega)
              rw [show m - 1 + 10 = m + 9 by omega, show m' - 1 + 10 = m' + 9 by omega] at this
              exact this
            obtain ⟨e, n, c1, c2, c3⟩ := chk_props (m + 9) (m' + 9) (i25 (m + 9)) (i25 (m' + 9)) s (Dt.L s 9) (by omega) (by omega) (by omega) (by omega) level (by omega)
              (fun p hp => ih _ (h9 p hp) (by have := L_mem (d := s) (i := 9) hp; have := fld_bulk p 1; omega)) (fun x hx => ih _ (h11 x hx) (by have := L_mem (d := s) (i := 11) hx; omega)) (m + 10) (m' + 10) 0 (seen + 1) (Nat.zero_le _) (by omega) (by omega) (by omega)
            simp only [hb, cond_false]
            exact ⟨e, n, c1, c2, fun h => ⟨by omega, c3 h⟩⟩
        · have hb : (sgl s != 0) = true := by simpa using he
          simp only [hb, cond_true]
          exact ⟨_, _, rfl, rfl, fun h => absurd h he⟩
/-- What Valid says of a schema: the first error of its own comes first. -/
theorem valid_tot {s : Dt} (hw : WS s) (hb : s.bulk ≤ 1000000000) (m m' : Nat) (hm : 5000000000 ≤ m) (hm2 : m < 700000000000) (hm' : 5000000000 ≤ m') : ∃ e, schema_Valid (m + 11) s = some e ∧ schema_Valid (m' + 11) s = some e ∧ (e = 0 → sgl s = 0) := by
  obtain ⟨e, n, c1, c2, _⟩ := chk_tot s.bulk s (Nat.le_refl _) hb hw m m' (by omega) (by omega) (by omega) 1 0 (by omega) (by omega)
  have c2' : i25 (m' + 10) s 1 0 = some (e, n) := c2
  have c1' : i25 (m + 10) s 1 0 = some (e, n) := c1
  refine ⟨e, by rw [schema_Valid, c1']; rfl, by rw [schema_Valid, c2']; rfl, fun he => ?_⟩
  have p1 := checkOne_eq hw (m - 1) (by omega) (by omega)
  rw [show m - 1 + 10 = m + 9 by omega] at p1
  rw [i25] at c1'
  simp only [i25_j6, i25_j5, i25_j11, i25_j10, i25_j12, i25_j8, i25_j7, i25_j3, i25_j2, i25_j1, i25_j0, p1, Option.bind_some, show decide ((16 : Int) < 1) = false from rfl, show ((0 : Int) == 64) = false from rfl, cond_false] at c1'
  apply Classical.byContradiction
  intro hne
  have hb : (sgl s != 0) = true := by simpa using hne
  simp only [hb, cond_true, Option.some.injEq, Prod.mk.injEq] at c1'
  exact hne (c1'.1.trans he)
/-- A schema without children, with the rules of a valid one. -/
theorem valid_own {s x : Dt} (h : Sm s x) (e9 : Dt.L x 9 = []) (e11 : Dt.L x 11 = []) (hx : WS x) (hs : sgl s = 0) (hb : x.bulk ≤ 1000000000) (m : Nat) (hm : 5000000000 ≤ m) : schema_Valid (m + 11) x = some 0 := by
  have p1 := checkOne_eq hx (m - 1) (by omega) (by omega)
  rw [show m - 1 + 10 = m + 9 by omega] at p1
  have e : sgl x = 0 := by
    unfold sgl rest1 badA rest8 at hs ⊢
    rw [e9, e11, h.l8, h.i0, h.i6, h.i7, h.b1, h.f2, h.b3, h.f4, h.l5]
    revert hs
    simp only [List.map_nil, show difS nm [] [] = true from rfl, Bool.and_true, List.length_nil, show decide ((1 : Int) < ((0 : Nat) : Int)) = false from rfl, Bool.or_false]
    generalize difS nm [] ((Dt.L s 8).map Dt.toStr) = a
    generalize difS nm [] ((Dt.L s 9).map fun p => Dt.S p 0) = b
    generalize decide ((1 : Int) < ((Dt.L s 11).length : Int)) = d
    generalize decide (Dt.I s 6 < 0) = f
    generalize decide (Dt.I s 7 < -1) = g
    generalize (decide (Dt.I s 0 < 0) || Int.tmod (Dt.I s 0) 2 == 1 || decide (4096 ≤ Dt.I s 0)) = k
    cases a <;> cases b <;> cases d <;> cases f <;> cases g <;> cases k <;> simp
  rw [schema_Valid, i25]
  simp only [p1, e, e9, e11, i25_j6, i25_j5, i25_j11, i25_j10, i25_j12, i25_j8, i25_j7, i25_j3, i25_j2, i25_j1, i25_j0, i25_l4, i25_l9, Option.bind_some, show decide ((16 : Int) < 1) = false from rfl, show ((0 : Int) == 64) = false from rfl, cond_false, bne_self_eq_false, List.length_nil, show decide ((0 : Int) < ((0 : Nat) : Int)) = false from rfl]
end Go.Proofs.YtfneddmmeadacaaDoor
