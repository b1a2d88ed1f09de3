/- Accumulators: copies of values. -/
import Derived.Test.YtacpcknpliomoaaGreatMSame1
set_option linter.unusedVariables false
set_option linter.unusedSimpArgs false
namespace Go.Proofs.YtacpcknpliomoaaGreat
open Go.Am
theorem acopy_l (m : Nat) (self : Dt → Option Dt) (l : List Dt) (hl : l.length < 9223372036854775807) (hs : ∀ e ∈ l, self e = some e) (z : Dt) : ∀ (M i : Nat), i ≤ l.length → l.length - i < M →
    accum_copyList_l2 m self M l (l.length : Int) (i : Int) (l.take i ++ List.replicate (l.length - i) z) = some l
  | 0, i, _, h => by omega
  | M + 1, i, hi, h => by
    simp only [accum_copyList_l2, dlt]
    by_cases hlt : i < l.length
    · have hx : i < (l.take i ++ List.replicate (l.length - i) z).length := by rw [row_len l z i hi]; exact hlt
      simp only [hlt, decide_true, cond_true, accum_copyList_j3, accum_copyList_j4, idx_lt hlt, Option.bind_some, hs _ (List.getElem_mem hlt), inL_lt hx, Int.toNat_natCast, List.getElem?_eq_getElem hx, set_step l z i hlt, wrapS (show i < 9223372036854775807 by omega)]
      exact acopy_l m self l hl hs z M (i + 1) (by omega) (by omega)
    · have e : i = l.length := by omega
      subst e
      simp [accum_copyList_j5]
theorem acopy_d (m : Nat) (self : Dt → Option Dt) (self' : List Dt → Option (List Dt)) (l : List Dt) (hl : l.length ≤ 100000000000) (hf : ∀ f ∈ l, ∃ s v, f = .agg [.str s, v] ∧ self v = some v) (x3 : Dt) (x4 x5 : Int) (x6 : ByteArray) (x7 : List Dt) : ∀ (M i : Nat), i ≤ l.length → l.length - i < M →
    accum_copyValue_l1 m self self' M l (l.length : Int) (i : Int) x3 x4 x5 x6 x7 (l.take i) = some (.agg [.int x4, .int x5, .str x6, .lst x7, .lst l])
  | 0, i, _, h => by omega
  | M + 1, i, hi, h => by
    simp only [accum_copyValue_l1, dlt]
    by_cases hlt : i < l.length
    · obtain ⟨s, v, e1, e2⟩ := hf _ (List.getElem_mem hlt)
      have e3 : Dt.agg [.str (Dt.S l[i] 0), v] = l[i] := by rw [e1]; rfl
      have e4 : Dt.fld l[i] 1 = v := by rw [e1]; rfl
      have e5 : l.take i ++ [l[i]] = l.take (i + 1) := (List.take_succ_eq_append_getElem hlt).symm
      simp only [hlt, decide_true, cond_true, accum_copyValue_j2, accum_copyValue_j3, idx_lt hlt, Option.bind_some, e4, e2, e3, app_le (show (l.take i).length + [l[i]].length ≤ 137438953472 by simp; omega), e5, wrapS (show i < 9223372036854775807 by omega)]
      exact acopy_d m self self' l hl hf x3 x4 x5 x6 x7 M (i + 1) (by omega) (by omega)
    · have e : i = l.length := by omega
      subst e
      simp [accum_copyValue_j4]
theorem acopy_list (N : Nat) (l : List Dt) (hl : l.length ≤ 100000000000) (m : Nat) (hm : l.length ≤ m) (hs : ∀ e ∈ l, accum_copyValue m e = some e) : accum_copyList (m + 1) l = some l := by
  rw [accum_copyList]
  cases l with
  | nil => rfl
  | cons a r =>
    have e0 : (((a :: r).length : Int) == 0) = false := by rw [beq_eq_false_iff_ne]; simp; omega
    rw [e0, cond_false, accum_copyList_j0, mkL_nat (by omega), Option.bind_some, accum_copyList_j1]
    have := fun z => acopy_l m (accum_copyValue m) (a :: r) (by omega) hs z (m + 1) 0 (by omega) (by omega)
    simp only [List.take_zero, List.nil_append, Nat.sub_zero] at this
    exact this _
theorem acopy_eq : ∀ (N : Nat) (d : Dt), d.bulk ≤ N → N ≤ 100000000000 → WV d → ∀ m, N ≤ m → accum_copyValue (m + 1) d = some d
  | 0, d, h, _, _, _, _ => by have := bulk_pos d; omega
  | N + 1, d, h, hN, hw, m, hm => by
    cases hw with
    | @mk k i t l ds hl hd =>
      rw [bulk_val] at h
      obtain ⟨m, rfl⟩ : ∃ q, m = q + 2 := ⟨m - 2, by omega⟩
      have hl1 := len_bulk l
      have hd1 := len_bulk ds
      have h1 : accum_copyList (m + 2) l = some l := acopy_list N l (by omega) (m + 1) (by omega) fun e he => acopy_eq (N - 1) e (by have := bulk_mem he; omega) (by omega) (hl e he) m (by omega)
      have h2 := acopy_d (m + 2) (accum_copyValue (m + 2)) (accum_copyList (m + 2)) ds (by omega) (fun f hf => by
        have hb := bulk_mem hf
        cases hd f hf with
        | @mk s v hv =>
          rw [bulk_fld] at hb
          exact ⟨s, v, rfl, acopy_eq N v (by omega) (by omega) hv (m + 1) (by omega)⟩)
      rw [accum_copyValue]
      show Option.bind (accum_copyList (m + 2) l) _ = _
      rw [h1, Option.bind_some]
      exact h2 _ k i t l (m + 3) 0 (Nat.zero_le _) (by omega)
end Go.Proofs.YtacpcknpliomoaaGreat
