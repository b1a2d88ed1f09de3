/- Values: what is the same is equal. -/
import Derived.Test.YtacpcknpliomoaaGreatMSame1
set_option linter.unusedVariables false
set_option linter.unusedSimpArgs false
namespace Go.Proofs.YtacpcknpliomoaaGreat
open Go.Am

theorem eqL_iff (s t : ByteArray) : (s.toList == t.toList) = true ↔ s = t := by
  constructor
  · intro h
    have h := eq_of_beq h
    rw [ByteArray.toList_eq, ByteArray.toList_eq] at h
    cases s; cases t
    simp only at h
    rw [Array.toList_inj.1 h]
  · rintro rfl; exact beq_self_eq_true _
theorem sd_d (m : Nat) (self : Dt → Dt → Option Bool) (a b : Dt) (hlen : (Dt.L a 4).length = (Dt.L b 4).length) (hl : (Dt.L a 4).length < 9223372036854775807)
    (hs : ∀ i (h1 : i < (Dt.L a 4).length) (h2 : i < (Dt.L b 4).length), ∃ r, self (Dt.fld (Dt.L a 4)[i] 1) (Dt.fld (Dt.L b 4)[i] 1) = some r ∧ (r = true → Dt.fld (Dt.L a 4)[i] 1 = Dt.fld (Dt.L b 4)[i] 1)) : ∀ (M i : Nat), i ≤ (Dt.L a 4).length → (Dt.L a 4).length - i < M →
    ∃ r, ref01_Same_l8 m self M (i : Int) a b = some r ∧ (r = true → ∀ j (h1 : j < (Dt.L a 4).length) (h2 : j < (Dt.L b 4).length), i ≤ j → Dt.S (Dt.L a 4)[j] 0 = Dt.S (Dt.L b 4)[j] 0 ∧ Dt.fld (Dt.L a 4)[j] 1 = Dt.fld (Dt.L b 4)[j] 1)
  | 0, i, _, h => by omega
  | M + 1, i, hi, h => by
    simp only [ref01_Same_l8, dlt]
    by_cases hlt : i < (Dt.L a 4).length
    · have hlt' : i < (Dt.L b 4).length := by omega
      obtain ⟨r, e1, e2⟩ := hs i hlt hlt'
      obtain ⟨q, f1, f2⟩ := sd_d m self a b hlen hl hs M (i + 1) (by omega) (by omega)
      simp only [hlt, decide_true, cond_true, ref01_Same_j5, ref01_Same_j4, ref01_Same_j11, ref01_Same_j10, ref01_Same_j9, ref01_Same_j12, ref01_Same_j7, ref01_Same_j6, ref01_Same_j2, ref01_Same_j1, ref01_Same_j0, idx_lt hlt, idx_lt hlt', Option.bind_some, e1, wrapS (show i < 9223372036854775807 by omega)]
      cases hE : (ByteArray.toList (Dt.S (Dt.L a 4)[i] 0) == ByteArray.toList (Dt.S (Dt.L b 4)[i] 0)) with
      | false => exact ⟨false, rfl, fun h => by cases h⟩
      | true =>
        cases r with
        | false => exact ⟨false, rfl, fun h => by cases h⟩
        | true =>
          refine ⟨q, by simpa using f1, fun hq j h1 h2 hij => ?_⟩
          by_cases hj : j = i
          · subst hj; exact ⟨(eqL_iff _ _).1 hE, e2 rfl⟩
          · exact f2 hq j h1 h2 (by omega)
    · simp only [hlt, decide_false, cond_false, ref01_Same_j5, ref01_Same_j4, ref01_Same_j11, ref01_Same_j10, ref01_Same_j9, ref01_Same_j12, ref01_Same_j7, ref01_Same_j6, ref01_Same_j2, ref01_Same_j1, ref01_Same_j0]
      exact ⟨true, rfl, fun _ j h1 h2 hij => by omega⟩
theorem sd_l (m : Nat) (self : Dt → Dt → Option Bool) (a b : Dt) (hlen : (Dt.L a 3).length = (Dt.L b 3).length) (hl : (Dt.L a 3).length < 9223372036854775807)
    (hs : ∀ i (h1 : i < (Dt.L a 3).length) (h2 : i < (Dt.L b 3).length), ∃ r, self (Dt.L a 3)[i] (Dt.L b 3)[i] = some r ∧ (r = true → (Dt.L a 3)[i] = (Dt.L b 3)[i])) (Q : Prop)
    (hd : ∃ r, ref01_Same_l8 m self (Nat.succ m) 0 a b = some r ∧ (r = true → Q)) : ∀ (M i : Nat), i ≤ (Dt.L a 3).length → (Dt.L a 3).length - i < M →
    ∃ r, ref01_Same_l3 m self M (i : Int) a b = some r ∧ (r = true → Q ∧ ∀ j (h1 : j < (Dt.L a 3).length) (h2 : j < (Dt.L b 3).length), i ≤ j → (Dt.L a 3)[j] = (Dt.L b 3)[j])
  | 0, i, _, h => by omega
  | M + 1, i, hi, h => by
    simp only [ref01_Same_l3, dlt]
    by_cases hlt : i < (Dt.L a 3).length
    · have hlt' : i < (Dt.L b 3).length := by omega
      obtain ⟨r, e1, e2⟩ := hs i hlt hlt'
      obtain ⟨q, f1, f2⟩ := sd_l m self a b hlen hl hs Q hd M (i + 1) (by omega) (by omega)
      simp only [hlt, decide_true, cond_true, ref01_Same_j5, ref01_Same_j4, ref01_Same_j11, ref01_Same_j10, ref01_Same_j9, ref01_Same_j12, ref01_Same_j7, ref01_Same_j6, ref01_Same_j2, ref01_Same_j1, ref01_Same_j0, idx_lt hlt, idx_lt hlt', Option.bind_some, e1, wrapS (show i < 9223372036854775807 by omega)]
      cases r with
      | false => exact ⟨false, rfl, fun h => by cases h⟩
      | true =>
        refine ⟨q, by simpa using f1, fun hq => ⟨(f2 hq).1, fun j h1 h2 hij => ?_⟩⟩
        by_cases hj : j = i
        · subst hj; exact e2 rfl
        · exact (f2 hq).2 j h1 h2 (by omega)
    · obtain ⟨q, f1, f2⟩ := hd
      simp only [hlt, decide_false, cond_false, ref01_Same_j5, ref01_Same_j4, ref01_Same_j11, ref01_Same_j10, ref01_Same_j9, ref01_Same_j12, ref01_Same_j7, ref01_Same_j6, ref01_Same_j2, ref01_Same_j1, ref01_Same_j0]
      exact ⟨q, f1, fun hq => ⟨f2 hq, fun j h1 h2 hij => by omega⟩⟩
theorem same_sound : ∀ (N : Nat) (a b : Dt), a.bulk ≤ N → N ≤ 1000000000000 → WV a → WV b → ∀ m, N ≤ m → ∃ r, ref01_Same (m + 1) a b = some r ∧ (r = true → a = b)
  | 0, a, b, h, _, _, _, _, _ => by have := bulk_pos a; omega
  | N + 1, a, b, h, hN, hw, hw', m, hm => by
    cases hw with
    | @mk k i t l ds hl hd =>
    cases hw' with
    | @mk k' i' t' l' ds' hl' hd' =>
      rw [bulk_val] at h
      obtain ⟨m, rfl⟩ : ∃ q, m = q + 1 := ⟨m - 1, by omega⟩
      have hl1 := len_bulk l
      have hd1 := len_bulk ds
      have no : ∃ r, some false = some r ∧ (r = true → Dt.agg [.int k, .int i, .str t, .lst l, .lst ds] = Dt.agg [.int k', .int i', .str t', .lst l', .lst ds']) := ⟨false, rfl, fun h => by cases h⟩
      rw [ref01_Same]
      show ∃ r, (bif k != k' then _ else bif i != i' then _ else bif !(t.toList == t'.toList) then _ else bif ((l.length : Int) != (l'.length : Int)) then _ else _) = some r ∧ _
      by_cases e1 : k = k'
      · subst e1
        rw [bne_self_eq_false, cond_false]
        by_cases e2 : i = i'
        · subst e2
          rw [bne_self_eq_false, cond_false]
          cases e3 : (t.toList == t'.toList) with
          | false => exact no
          | true =>
            rw [Bool.not_true, cond_false]
            by_cases e4 : l.length = l'.length
            · rw [show ((l.length : Int) != (l'.length : Int)) = false by rw [e4]; exact bne_self_eq_false _, cond_false]
              by_cases e5 : ds.length = ds'.length
              · have h7 := sd_d (m + 1) (ref01_Same (m + 1)) (.agg [.int k, .int i, .str t, .lst l, .lst ds]) (.agg [.int k, .int i, .str t', .lst l', .lst ds']) e5 (show ds.length < _ by omega) (fun j h1 h2 => by
                  have h1' : j < ds.length := h1
                  have h2' : j < ds'.length := h2
                  have hb := bulk_mem (List.getElem_mem h1')
                  show ∃ r, ref01_Same (m + 1) (Dt.fld ds[j] 1) (Dt.fld ds'[j] 1) = some r ∧ (r = true → Dt.fld ds[j] 1 = Dt.fld ds'[j] 1)
                  have w1 := hd _ (List.getElem_mem h1')
                  have w2 := hd' _ (List.getElem_mem h2')
                  generalize ds[j] = x at w1 hb
                  generalize ds'[j] = y at w2
                  cases w1 with
                  | @mk s v hv =>
                  cases w2 with
                  | @mk s' v' hv' =>
                    rw [bulk_fld] at hb
                    exact same_sound N v v' (by omega) (by omega) hv hv' m (by omega)) (m + 2) 0 (Nat.zero_le _) (show ds.length - 0 < m + 2 by omega)
                obtain ⟨r, r1, r2⟩ := sd_l (m + 1) (ref01_Same (m + 1)) (.agg [.int k, .int i, .str t, .lst l, .lst ds]) (.agg [.int k, .int i, .str t', .lst l', .lst ds']) e4 (show l.length < _ by omega) (fun j h1 h2 => by
                  have h1' : j < l.length := h1
                  have h2' : j < l'.length := h2
                  have hb := bulk_mem (List.getElem_mem h1')
                  exact same_sound N l[j] l'[j] (by omega) (by omega) (hl _ (List.getElem_mem h1')) (hl' _ (List.getElem_mem h2')) m (by omega)) _ h7 (m + 2) 0 (Nat.zero_le _) (show l.length - 0 < m + 2 by omega)
                refine ⟨r, ?_, fun hr => ?_⟩
                · show ref01_Same_j0 (m + 1) (ref01_Same (m + 1)) ((ds.length : Int) != (ds'.length : Int)) _ _ = some r
                  rw [show ((ds.length : Int) != (ds'.length : Int)) = false by rw [e5]; exact bne_self_eq_false _]
                  exact r1
                · obtain ⟨q1, q2⟩ := r2 hr
                  have et : t = t' := (eqL_iff _ _).1 e3
                  have el : l = l' := List.ext_getElem e4 fun j h1 h2 => q2 j h1 h2 (Nat.zero_le _)
                  have ed : ds = ds' := List.ext_getElem e5 fun j h1 h2 => by
                    obtain ⟨z1, z2⟩ := q1 j h1 h2 (Nat.zero_le _)
                    have z1' : Dt.S ds[j] 0 = Dt.S ds'[j] 0 := z1
                    have z2' : Dt.fld ds[j] 1 = Dt.fld ds'[j] 1 := z2
                    have w1 := hd _ (List.getElem_mem h1)
                    have w2 := hd' _ (List.getElem_mem h2)
                    generalize ds[j] = x at w1 z1' z2' ⊢
                    generalize ds'[j] = y at w2 z1' z2' ⊢
                    cases w1 with
                    | @mk s v hv =>
                    cases w2 with
                    | @mk s' v' hv' =>
                      have y1 : s = s' := z1'
                      have y2 : v = v' := z2'
                      rw [y1, y2]
                  rw [et, el, ed]
              · refine ⟨false, ?_, fun h => by cases h⟩
                show ref01_Same_j0 (m + 1) (ref01_Same (m + 1)) ((ds.length : Int) != (ds'.length : Int)) _ _ = some false
                rw [show ((ds.length : Int) != (ds'.length : Int)) = true by rw [bne_iff_ne]; omega]
                rfl
            · rw [show ((l.length : Int) != (l'.length : Int)) = true by rw [bne_iff_ne]; omega]
              exact no
        · rw [show (i != i') = true by rw [bne_iff_ne]; exact e2]
          exact no
      · rw [show (k != k') = true by rw [bne_iff_ne]; exact e1]
        exact no
end Go.Proofs.YtacpcknpliomoaaGreat
