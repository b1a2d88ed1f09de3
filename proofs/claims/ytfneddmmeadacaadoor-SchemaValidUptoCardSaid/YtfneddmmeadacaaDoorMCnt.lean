/- Schemas: counting them ends. -/
import Derived.Test.YtfneddmmeadacaaDoorMSc
set_option linter.unusedVariables false
set_option linter.unusedSimpArgs false
namespace Go.Proofs.YtfneddmmeadacaaDoor
open Go.Am
theorem sc_items (m : Nat) (self : Dt → Int → Option Int) (d : Dt) (x0 : Int) (hl : (Dt.L d 11).length < 9223372036854775807) (hs : ∀ e ∈ Dt.L d 11, ∀ b, ∃ r, self e b = some r) : ∀ (M i : Nat) (x1 : Int), i ≤ (Dt.L d 11).length → (Dt.L d 11).length - i < M → ∃ r, ref14_Count_l6 m self M x0 x1 (i : Int) d = some r
  | 0, i, _, _, h => by omega
  | M + 1, i, x1, hi, h => by
    simp only [ref14_Count_l6, dlt]
    by_cases hlt : i < (Dt.L d 11).length
    · simp only [hlt, decide_true, cond_true]
      cases decide (x1 < x0)
      · exact ⟨_, rfl⟩
      · obtain ⟨r, hr⟩ := hs _ (List.getElem_mem hlt) (IntKind.wrap IntKind.i64 (x0 - x1))
        simp only [cond_true, ref14_Count_j3, ref14_Count_j2, ref14_Count_j8, ref14_Count_j7, ref14_Count_j9, ref14_Count_j5, ref14_Count_j4, ref14_Count_j0, idx_lt hlt, Option.bind_some, hr, wrapS (show i < 9223372036854775807 by omega)]
        exact sc_items m self d x0 hl hs M (i + 1) _ (by omega) (by omega)
    · simp only [hlt, decide_false, cond_false]
      exact ⟨_, rfl⟩
theorem sc_props (m : Nat) (self : Dt → Int → Option Int) (d : Dt) (x0 : Int) (hl : (Dt.L d 9).length < 9223372036854775807) (hs : ∀ p ∈ Dt.L d 9, ∀ b, ∃ r, self (Dt.fld p 1) b = some r) (hd : ∀ x1, ∃ r, ref14_Count_l6 m self (Nat.succ m) x0 x1 0 d = some r) : ∀ (M i : Nat) (x1 : Int), i ≤ (Dt.L d 9).length → (Dt.L d 9).length - i < M → ∃ r, ref14_Count_l1 m self M x0 x1 (i : Int) d = some r
  | 0, i, _, _, h => by omega
  | M + 1, i, x1, hi, h => by
    simp only [ref14_Count_l1, dlt]
    by_cases hlt : i < (Dt.L d 9).length
    · simp only [hlt, decide_true, cond_true]
      cases decide (x1 < x0)
      · simp only [cond_false, ref14_Count_j3, ref14_Count_j2, ref14_Count_j8, ref14_Count_j7, ref14_Count_j9, ref14_Count_j5, ref14_Count_j4, ref14_Count_j0]
        exact hd x1
      · obtain ⟨r, hr⟩ := hs _ (List.getElem_mem hlt) (IntKind.wrap IntKind.i64 (x0 - x1))
        simp only [cond_true, ref14_Count_j3, ref14_Count_j2, ref14_Count_j8, ref14_Count_j7, ref14_Count_j9, ref14_Count_j5, ref14_Count_j4, ref14_Count_j0, idx_lt hlt, Option.bind_some, hr, wrapS (show i < 9223372036854775807 by omega)]
        exact sc_props m self d x0 hl hs hd M (i + 1) _ (by omega) (by omega)
    · simp only [hlt, decide_false, cond_false, ref14_Count_j3, ref14_Count_j2, ref14_Count_j8, ref14_Count_j7, ref14_Count_j9, ref14_Count_j5, ref14_Count_j4, ref14_Count_j0]
      exact hd x1
theorem sc_tot : ∀ (N : Nat) (d : Dt), d.bulk ≤ N → N ≤ 100000000000 → ∀ m, N ≤ m → ∀ b : Int, ∃ r, ref14_Count (m + 1) d b = some r
  | 0, d, h, _, _, _, _ => by have := bulk_posA d; omega
  | N + 1, d, h, hN, m, hm, b => by
    obtain ⟨m, rfl⟩ : ∃ q, m = q + 1 := ⟨m - 1, by omega⟩
    have l9 := L_len d 9
    have l11 := L_len d 11
    have ih : ∀ e : Dt, e.bulk ≤ N → ∀ b : Int, ∃ r, ref14_Count (m + 1) e b = some r := fun e hbe b => sc_tot N e hbe (by omega) m (by omega) b
    have hd : ∀ x1, ∃ r, ref14_Count_l6 (m + 1) (ref14_Count (m + 1)) (Nat.succ (m + 1)) b x1 0 d = some r := fun x1 => sc_items (m + 1) (ref14_Count (m + 1)) d b (by omega) (fun e he => ih e (by have := L_mem (d := d) (i := 11) he; omega)) (m + 2) 0 x1 (Nat.zero_le _) (by omega)
    have hp := sc_props (m + 1) (ref14_Count (m + 1)) d b (by omega) (fun p hp => ih _ (by have := L_mem (d := d) (i := 9) hp; have := fld_bulk p 1; omega)) hd (m + 2) 0 1 (Nat.zero_le _) (by omega)
    rw [ref14_Count]
    simp only [ref14_Count_j3, ref14_Count_j2, ref14_Count_j8, ref14_Count_j7, ref14_Count_j9, ref14_Count_j5, ref14_Count_j4, ref14_Count_j0]
    exact hp
end Go.Proofs.YtfneddmmeadacaaDoor
