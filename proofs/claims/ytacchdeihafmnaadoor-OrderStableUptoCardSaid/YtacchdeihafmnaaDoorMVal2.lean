/- Values, continued: parts, levels, counts. -/
import Derived.Test.YtacchdeihafmnaaDoorMVal
set_option linter.unusedVariables false
set_option linter.unusedSimpArgs false
namespace Go.Proofs.YtacchdeihafmnaaDoor
open Go.Am

-- parts
def prts (d : Dt) : List Dt := bif Dt.I d 0 == 6 then Dt.L d 3 else bif Dt.I d 0 == 5 then (Dt.L d 4).map (·.fld 1) else []
theorem parts_l6 (m : Nat) (d : Dt) (hl : (Dt.L d 4).length ≤ 137438953472) : ∀ (M i : Nat), i ≤ (Dt.L d 4).length → (Dt.L d 4).length - i < M → ref01_Parts_l6 m M (i : Int) d (((Dt.L d 4).map (·.fld 1)).take i) = some ((Dt.L d 4).map (·.fld 1))
  | 0, i, _, h => by omega
  | M + 1, i, hi, h => by
    simp only [ref01_Parts_l6, dlt]
    by_cases hlt : i < (Dt.L d 4).length
    · have happ : app (((Dt.L d 4).map (·.fld 1)).take i) [(Dt.L d 4)[i].fld 1] = some (((Dt.L d 4).map (·.fld 1)).take (i + 1)) := by
        rw [app_le (by simp; omega), List.take_succ_eq_append_getElem (by simpa using hlt)]
        simp
      simp only [hlt, decide_true, cond_true, ref01_Parts_j7, ref01_Parts_j8, idx_lt hlt, Option.bind_some, happ, wrapS (show i < 9223372036854775807 by omega)]
      exact parts_l6 m d hl M (i + 1) (by omega) (by omega)
    · have e : i = (Dt.L d 4).length := by omega
      simp only [hlt, decide_false, cond_false, ref01_Parts_j9]
      rw [List.take_of_length_le (by simp; omega)]
theorem parts_l1 (m : Nat) (d : Dt) (hl : (Dt.L d 3).length ≤ 137438953472) : ∀ (M i : Nat), i ≤ (Dt.L d 3).length → (Dt.L d 3).length - i < M → ref01_Parts_l1 m M (i : Int) d ((Dt.L d 3).take i) = ref01_Parts_j4 m d (Dt.L d 3)
  | 0, i, _, h => by omega
  | M + 1, i, hi, h => by
    simp only [ref01_Parts_l1, dlt]
    by_cases hlt : i < (Dt.L d 3).length
    · have happ : app ((Dt.L d 3).take i) [(Dt.L d 3)[i]] = some ((Dt.L d 3).take (i + 1)) := by
        rw [app_le (by simp; omega), List.take_succ_eq_append_getElem hlt]
      simp only [hlt, decide_true, cond_true, ref01_Parts_j2, ref01_Parts_j3, idx_lt hlt, Option.bind_some, happ, wrapS (show i < 9223372036854775807 by omega)]
      exact parts_l1 m d hl M (i + 1) (by omega) (by omega)
    · simp only [hlt, decide_false, cond_false]
      rw [List.take_of_length_le (by omega)]
theorem parts_eq (d : Dt) (hw : WV d) (m : Nat) (hm : d.bulk ≤ m) (hb : d.bulk ≤ 137438953472) : ref01_Parts (m + 1) d = some (prts d) := by
  have hl3 : (Dt.L d 3).length ≤ d.bulk := by
    cases hw with
    | @mk k i t l ds hl hd => rw [bulk_val]; have := len_bulk l; show l.length ≤ _; omega
  have hl4 : (Dt.L d 4).length ≤ d.bulk := by
    cases hw with
    | @mk k i t l ds hl hd => rw [bulk_val]; have := len_bulk ds; show ds.length ≤ _; omega
  have h6 := parts_l6 m d (by omega) (m + 1) 0 (Nat.zero_le _) (by omega)
  have h1 := parts_l1 m d (by omega) (m + 1) 0 (Nat.zero_le _) (by omega)
  rw [List.take_zero] at h6 h1
  have h6' : ref01_Parts_l6 m (Nat.succ m) 0 d [] = _ := h6
  have h1' : ref01_Parts_l1 m (Nat.succ m) 0 d [] = _ := h1
  unfold prts
  simp only [ref01_Parts, ref01_Parts_j0, h1']
  cases h : (Dt.I d 0 == 6)
  · simp only [cond_false, ref01_Parts_j4, ref01_Parts_j5, h6', ref01_Parts_j9]
    cases (Dt.I d 0 == 5) <;> rfl
  · have e : Dt.I d 0 = 6 := by simpa using h
    simp only [cond_true, ref01_Parts_j4, e]
    rfl
theorem prts_wv {d : Dt} (hw : WV d) : ∀ e ∈ prts d, WV e ∧ e.bulk < d.bulk := by
  cases hw with
  | @mk k i t l ds hl hd =>
    intro e he
    rw [bulk_val]
    unfold prts at he
    have e1 : Dt.I (.agg [.int k, .int i, .str t, .lst l, .lst ds]) 0 = k := rfl
    have e2 : Dt.L (.agg [.int k, .int i, .str t, .lst l, .lst ds]) 3 = l := rfl
    have e3 : Dt.L (.agg [.int k, .int i, .str t, .lst l, .lst ds]) 4 = ds := rfl
    rw [e1, e2, e3] at he
    cases h6 : (k == 6)
    · rw [h6] at he
      simp only [cond_false] at he
      cases h5 : (k == 5)
      · rw [h5] at he; simp at he
      · rw [h5] at he
        simp only [cond_true, List.mem_map] at he
        obtain ⟨f, hf, rfl⟩ := he
        have hb := bulk_mem hf
        cases hd f hf with
        | @mk s v hv =>
          rw [bulk_fld] at hb
          exact ⟨hv, by show v.bulk < _; omega⟩
    · rw [h6] at he
      simp only [cond_true] at he
      have hb := bulk_mem he
      exact ⟨hl e he, by omega⟩
def DL : Nat → Dt → Prop
  | 0, _ => False
  | n + 1, d => ∀ e ∈ prts d, DL n e
theorem DL.mono : ∀ {n m : Nat} {d : Dt}, DL n d → n ≤ m → DL m d
  | 0, _, _, h, _ => h.elim
  | n + 1, m, d, h, hm => by
    obtain ⟨m, rfl⟩ : ∃ q, m = q + 1 := ⟨m - 1, by omega⟩
    exact fun e he => DL.mono (h e he) (by omega)
theorem levels_l2 (m : Nat) (self : Dt → Int → Option Int) (L : List Dt) (hl : L.length < 9223372036854775807) (most : Nat) (h2 : 2 ≤ most) (h3 : most ≤ 17)
    (hs : ∀ e ∈ L, ∃ r : Nat, self e ((most - 1 : Nat) : Int) = some (r : Int) ∧ 1 ≤ r ∧ r ≤ most - 1 ∧ (r < most - 1 → DL r e)) : ∀ (M i best : Nat), i ≤ L.length → L.length - i < M → best ≤ most - 1 →
    ∃ b : Nat, ref01_levels_l2 m self M (most : Int) L (best : Int) (i : Int) = some ((b + 1 : Nat) : Int) ∧ best ≤ b ∧ b ≤ most - 1 ∧ (b < most - 1 → ∀ e ∈ L.drop i, DL b e)
  | 0, i, _, _, h, _ => by omega
  | M + 1, i, best, hi, h, hb => by
    simp only [ref01_levels_l2, dlt]
    by_cases hlt : i < L.length
    · obtain ⟨r, hr, r1, r2, r3⟩ := hs _ (List.getElem_mem hlt)
      have hw : IntKind.wrap IntKind.i64 ((most : Int) - 1) = ((most - 1 : Nat) : Int) := by rw [wrap64 (by omega) (by omega)]; omega
      have hmax : (bif (decide ((best : Int) < (r : Int))) then (r : Int) else (best : Int)) = ((max best r : Nat) : Int) := by
        rw [dlt]
        by_cases hbr : best < r
        · simp only [hbr, decide_true, cond_true]; omega
        · simp only [hbr, decide_false, cond_false]; omega
      obtain ⟨b, hb1, hb2, hb3, hb4⟩ := levels_l2 m self L hl most h2 h3 hs M (i + 1) (max best r) (by omega) (by omega) (by omega)
      refine ⟨b, ?_, by omega, hb3, fun hlt2 e he => ?_⟩
      · simp only [hlt, decide_true, cond_true, ref01_levels_j3, ref01_levels_j4, idx_lt hlt, Option.bind_some, hw, hr, hmax, wrapS (show i < 9223372036854775807 by omega)]
        exact hb1
      · rw [List.drop_eq_getElem_cons hlt] at he
        rcases List.mem_cons.1 he with rfl | he
        · exact (r3 (by omega)).mono (by omega)
        · exact hb4 hlt2 e he
    · refine ⟨best, ?_, Nat.le_refl _, hb, fun _ e he => ?_⟩
      · simp only [hlt, decide_false, cond_false, ref01_levels_j5]
        rw [wrap64 (by omega) (by omega)]
        rfl
      · rw [List.drop_eq_nil_of_le (by omega)] at he; simp at he
theorem levels_eq : ∀ (N : Nat) (d : Dt), d.bulk ≤ N → N ≤ 137438953472 → WV d → ∀ m, N ≤ m → ∀ most : Nat, 1 ≤ most → most ≤ 17 → ∃ r : Nat, ref01_levels (m + 2) d (most : Int) = some (r : Int) ∧ 1 ≤ r ∧ r ≤ most ∧ (r < most → DL r d)
  | 0, d, h, _, _, _, _, _, _, _ => by have := bulk_pos d; omega
  | N + 1, d, h, hN, hw, m, hm, most, h1, h17 => by
    obtain ⟨m, rfl⟩ : ∃ q, m = q + 1 := ⟨m - 1, by omega⟩
    simp only [ref01_levels, parts_eq d hw (m + 1) (by omega) (by omega), Option.bind_some]
    by_cases h2 : most < 2
    · have : decide ((most : Int) < 2) = true := by simp; omega
      exact ⟨1, by simp only [this, cond_true]; rfl, by omega, by omega, fun h => by omega⟩
    · have e2 : decide ((most : Int) < 2) = false := by rw [decide_eq_false_iff_not]; omega
      by_cases h0 : (prts d).length = 0
      · have e0 : ((((prts d).length : Nat) : Int) == 0) = true := by simp; exact List.length_eq_zero_iff.1 h0
        refine ⟨1, by simp only [e2, cond_false, e0, cond_true]; rfl, by omega, by omega, fun _ e he => ?_⟩
        rw [List.length_eq_zero_iff.1 h0] at he; simp at he
      · have e0 : ((((prts d).length : Nat) : Int) == 0) = false := by
          rw [beq_eq_false_iff_ne]; omega
        have hlen : (prts d).length ≤ d.bulk := by
          cases hw with
          | @mk k i t l ds hl hd =>
            rw [bulk_val]
            have h3 := len_bulk l
            have h4 := len_bulk ds
            unfold prts
            cases (Dt.I (.agg [.int k, .int i, .str t, .lst l, .lst ds]) 0 == 6) <;> cases (Dt.I (.agg [.int k, .int i, .str t, .lst l, .lst ds]) 0 == 5) <;> simp [Dt.L, Dt.fld, Dt.toLst] <;> omega
        obtain ⟨b, hb1, hb2, hb3, hb4⟩ := levels_l2 (m + 2) (ref01_levels (m + 2)) (prts d) (by omega) most (by omega) h17 (fun e he => by
          obtain ⟨hwe, hbe⟩ := prts_wv hw e he
          obtain ⟨r, hr, r1, r2, r3⟩ := levels_eq N e (by omega) (by omega) hwe m (by omega) (most - 1) (by omega) (by omega)
          exact ⟨r, hr, r1, r2, r3⟩) (m + 3) 0 0 (Nat.zero_le _) (by omega) (by omega)
        refine ⟨b + 1, ?_, by omega, ?_, fun hlt => ?_⟩
        · simp only [e2, cond_false, e0, ref01_levels_j0, ref01_levels_j1]
          exact hb1
        · omega
        · have := hb4 (by omega)
          rw [List.drop_zero] at this
          exact this
theorem count_l1 (m : Nat) (self : Dt → Int → Option Int) (L : List Dt) (hl : L.length < 9223372036854775807) (hs : ∀ e ∈ L, ∀ x, ∃ r, self e x = some r) : ∀ (M i : Nat) (x0 x1 : Int), i ≤ L.length → L.length - i < M → ∃ r, ref01_count_l1 m self M x0 x1 L (i : Int) = some r
  | 0, i, _, _, _, h => by omega
  | M + 1, i, x0, x1, hi, h => by
    simp only [ref01_count_l1, dlt]
    by_cases hlt : i < L.length
    · simp only [hlt, decide_true, cond_true]
      cases decide (x1 < x0)
      · exact ⟨_, rfl⟩
      · obtain ⟨r, hr⟩ := hs _ (List.getElem_mem hlt) (IntKind.wrap IntKind.i64 (x0 - x1))
        simp only [cond_true, ref01_count_j2, ref01_count_j3, idx_lt hlt, Option.bind_some, hr, wrapS (show i < 9223372036854775807 by omega)]
        exact count_l1 m self L hl hs M (i + 1) _ _ (by omega) (by omega)
    · simp only [hlt, decide_false, cond_false]
      exact ⟨_, rfl⟩
theorem prts_len {d : Dt} (hw : WV d) : (prts d).length ≤ d.bulk := by
  cases hw with
  | @mk k i t l ds hl hd =>
    rw [bulk_val]
    have h3 := len_bulk l
    have h4 := len_bulk ds
    unfold prts
    cases (Dt.I (.agg [.int k, .int i, .str t, .lst l, .lst ds]) 0 == 6) <;> cases (Dt.I (.agg [.int k, .int i, .str t, .lst l, .lst ds]) 0 == 5) <;> simp [Dt.L, Dt.fld, Dt.toLst] <;> omega
theorem count_tot : ∀ (N : Nat) (d : Dt), d.bulk ≤ N → N ≤ 137438953472 → WV d → ∀ m, N ≤ m → ∀ most : Int, ∃ r, ref01_count (m + 2) d most = some r
  | 0, d, h, _, _, _, _, _ => by have := bulk_pos d; omega
  | N + 1, d, h, hN, hw, m, hm, most => by
    obtain ⟨m, rfl⟩ : ∃ q, m = q + 1 := ⟨m - 1, by omega⟩
    simp only [ref01_count, parts_eq d hw (m + 1) (by omega) (by omega), Option.bind_some, ref01_count_j0]
    have := prts_len hw
    exact count_l1 (m + 2) (ref01_count (m + 2)) (prts d) (by omega) (fun e he x => by
      obtain ⟨hwe, hbe⟩ := prts_wv hw e he
      exact count_tot N e (by omega) (by omega) hwe m (by omega) x) (m + 3) 0 most 1 (Nat.zero_le _) (by omega)
end Go.Proofs.YtacchdeihafmnaaDoor
