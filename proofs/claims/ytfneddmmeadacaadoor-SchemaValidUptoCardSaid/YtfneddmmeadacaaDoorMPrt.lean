/- Values: their parts. -/
import Derived.Test.YtfneddmmeadacaaDoorMWv
set_option linter.unusedVariables false
set_option linter.unusedSimpArgs false
namespace Go.Proofs.YtfneddmmeadacaaDoor
open Go.Am

-- parts
def prts (d : Dt) : List Dt := bif Dt.I d 0 == 6 then Dt.L d 3 else bif Dt.I d 0 == 5 then (Dt.L d 4).map (·.fld 1) else []
theorem parts_l6 (m : Nat) (d : Dt) (hl : (Dt.L d 4).length ≤ 137438953472) : ∀ (M i : Nat), i ≤ (Dt.L d 4).length → (Dt.L d 4).length - i < M → ref01_Parts_l6 m M (i : Int) d (((Dt.L d 4).map (·.fld 1)).take i) = some ((Dt.L d 4).map (·.fld 1))
  | 0, i, _, h => by omega
  | M + 1, i, hi, h => by
    simp only [ref01_Parts_l6, dlt]
    by_cases hlt : i < (Dt.L d 4).length
    · have happ : app (((Dt.L d 4).map (·.fld 1)).take i) [(Dt.L d 4)[i].fld 1] = some (((Dt.L d 4).map (·.fld 1)).take (i + 1)) := by
        rw [app_le (by simp; omega), List.take_succ_eq_append_getElem (by simpa using hlt)]
        simp
      simp only [hlt, decide_true, cond_true, ref01_Parts_j7, ref01_Parts_j8, idx_lt hlt, Option.bind_some, happ, wrapS (show i < 9223372036854775807 by omega)]
      exact parts_l6 m d hl M (i + 1) (by omega) (by omega)
    · have e : i = (Dt.L d 4).length := by omega
      simp only [hlt, decide_false, cond_false, ref01_Parts_j9]
      rw [List.take_of_length_le (by simp; omega)]
theorem parts_l1 (m : Nat) (d : Dt) (hl : (Dt.L d 3).length ≤ 137438953472) : ∀ (M i : Nat), i ≤ (Dt.L d 3).length → (Dt.L d 3).length - i < M → ref01_Parts_l1 m M (i : Int) d ((Dt.L d 3).take i) = ref01_Parts_j4 m d (Dt.L d 3)
  | 0, i, _, h => by omega
  | M + 1, i, hi, h => by
    simp only [ref01_Parts_l1, dlt]
    by_cases hlt : i < (Dt.L d 3).length
    · have happ : app ((Dt.L d 3).take i) [(Dt.L d 3)[i]] = some ((Dt.L d 3).take (i + 1)) := by
        rw [app_le (by simp; omega), List.take_succ_eq_append_getElem hlt]
      simp only [hlt, decide_true, cond_true, ref01_Parts_j2, ref01_Parts_j3, idx_lt hlt, Option.bind_some, happ, wrapS (show i < 9223372036854775807 by omega)]
      exact parts_l1 m d hl M (i + 1) (by omega) (by omega)
    · simp only [hlt, decide_false, cond_false]
      rw [List.take_of_length_le (by omega)]
theorem parts_eq (d : Dt) (hw : WV d) (m : Nat) (hm : d.bulk ≤ m) (hb : d.bulk ≤ 137438953472) : ref01_Parts (m + 1) d = some (prts d) := by
  have hl3 : (Dt.L d 3).length ≤ d.bulk := by
    cases hw with
    | @mk k i t l ds hl hd => rw [bulk_val]; have := len_bulk l; show l.length ≤ _; omega
  have hl4 : (Dt.L d 4).length ≤ d.bulk := by
    cases hw with
    | @mk k i t l ds hl hd => rw [bulk_val]; have := len_bulk ds; show ds.length ≤ _; omega
  have h6 := parts_l6 m d (by omega) (m + 1) 0 (Nat.zero_le _) (by omega)
  have h1 := parts_l1 m d (by omega) (m + 1) 0 (Nat.zero_le _) (by omega)
  rw [List.take_zero] at h6 h1
  have h6' : ref01_Parts_l6 m (Nat.succ m) 0 d [] = _ := h6
  have h1' : ref01_Parts_l1 m (Nat.succ m) 0 d [] = _ := h1
  unfold prts
  simp only [ref01_Parts, ref01_Parts_j0, h1']
  cases h : (Dt.I d 0 == 6)
  · simp only [cond_false, ref01_Parts_j4, ref01_Parts_j5, h6', ref01_Parts_j9]
    cases (Dt.I d 0 == 5) <;> rfl
  · have e : Dt.I d 0 = 6 := by simpa using h
    simp only [cond_true, ref01_Parts_j4, e]
    rfl
theorem prts_wv {d : Dt} (hw : WV d) : ∀ e ∈ prts d, WV e ∧ e.bulk < d.bulk := by
  cases hw with
  | @mk k i t l ds hl hd =>
    intro e he
    rw [bulk_val]
    unfold prts at he
    have e1 : Dt.I (.agg [.int k, .int i, .str t, .lst l, .lst ds]) 0 = k := rfl
    have e2 : Dt.L (.agg [.int k, .int i, .str t, .lst l, .lst ds]) 3 = l := rfl
    have e3 : Dt.L (.agg [.int k, .int i, .str t, .lst l, .lst ds]) 4 = ds := rfl
    rw [e1, e2, e3] at he
    cases h6 : (k == 6)
    · rw [h6] at he
      simp only [cond_false] at he
      cases h5 : (k == 5)
      · rw [h5] at he; simp at he
      · rw [h5] at he
        simp only [cond_true, List.mem_map] at he
        obtain ⟨f, hf, rfl⟩ := he
        have hb := bulk_mem hf
        cases hd f hf with
        | @mk s v hv =>
          rw [bulk_fld] at hb
          exact ⟨hv, by show v.bulk < _; omega⟩
    · rw [h6] at he
      simp only [cond_true] at he
      have hb := bulk_mem he
      exact ⟨hl e he, by omega⟩
theorem prts_len {d : Dt} (hw : WV d) : (prts d).length ≤ d.bulk := by
  cases hw with
  | @mk k i t l ds hl hd =>
    rw [bulk_val]
    have h3 := len_bulk l
    have h4 := len_bulk ds
    unfold prts
    cases (Dt.I (.agg [.int k, .int i, .str t, .lst l, .lst ds]) 0 == 6) <;> cases (Dt.I (.agg [.int k, .int i, .str t, .lst l, .lst ds]) 0 == 5) <;> simp [Dt.L, Dt.fld, Dt.toLst] <;> omega
end Go.Proofs.YtfneddmmeadacaaDoor
