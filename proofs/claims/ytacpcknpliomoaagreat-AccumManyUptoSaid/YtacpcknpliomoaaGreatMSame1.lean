/- Values: each is the same as itself. -/
import Derived.Test.YtacpcknpliomoaaGreatMWv
set_option linter.unusedVariables false
set_option linter.unusedSimpArgs false
namespace Go.Proofs.YtacpcknpliomoaaGreat
open Go.Am

theorem same_l7 (m : Nat) (self : Dt → Dt → Option Bool) (d : Dt) (hl : (Dt.L d 4).length < 9223372036854775807) (hf : ∀ f ∈ Dt.L d 4, self (f.fld 1) (f.fld 1) = some true) : ∀ (M i : Nat), i ≤ (Dt.L d 4).length → (Dt.L d 4).length - i < M → ref01_Same_l8 m self M (i : Int) d d = some true
  | 0, i, _, h => by omega
  | M + 1, i, hi, h => by
    simp only [ref01_Same_l8, dlt]
    by_cases hlt : i < (Dt.L d 4).length
    · simp only [hlt, decide_true, cond_true, ref01_Same_j5, ref01_Same_j4, ref01_Same_j11, ref01_Same_j10, ref01_Same_j9, ref01_Same_j12, ref01_Same_j7, ref01_Same_j6, ref01_Same_j2, ref01_Same_j1, ref01_Same_j0, idx_lt hlt, Option.bind_some, beq_self_eq_true, Bool.not_true, cond_false, hf _ (List.getElem_mem hlt), wrapS (show i < 9223372036854775807 by omega)]
      exact same_l7 m self d hl hf M (i + 1) (by omega) (by omega)
    · simp [hlt, ref01_Same_j5, ref01_Same_j4, ref01_Same_j11, ref01_Same_j10, ref01_Same_j9, ref01_Same_j12, ref01_Same_j7, ref01_Same_j6, ref01_Same_j2, ref01_Same_j1, ref01_Same_j0]
theorem same_l2 (m : Nat) (self : Dt → Dt → Option Bool) (d : Dt) (hl : (Dt.L d 3).length < 9223372036854775807) (hs : ∀ e ∈ Dt.L d 3, self e e = some true) (h7 : ref01_Same_l8 m self (Nat.succ m) 0 d d = some true) : ∀ (M i : Nat), i ≤ (Dt.L d 3).length → (Dt.L d 3).length - i < M → ref01_Same_l3 m self M (i : Int) d d = some true
  | 0, i, _, h => by omega
  | M + 1, i, hi, h => by
    simp only [ref01_Same_l3, dlt]
    by_cases hlt : i < (Dt.L d 3).length
    · simp only [hlt, decide_true, cond_true, ref01_Same_j5, ref01_Same_j4, ref01_Same_j11, ref01_Same_j10, ref01_Same_j9, ref01_Same_j12, ref01_Same_j7, ref01_Same_j6, ref01_Same_j2, ref01_Same_j1, ref01_Same_j0, idx_lt hlt, Option.bind_some, Bool.not_true, cond_false, hs _ (List.getElem_mem hlt), wrapS (show i < 9223372036854775807 by omega)]
      exact same_l2 m self d hl hs h7 M (i + 1) (by omega) (by omega)
    · simp only [hlt, decide_false, cond_false, ref01_Same_j5, ref01_Same_j4, ref01_Same_j11, ref01_Same_j10, ref01_Same_j9, ref01_Same_j12, ref01_Same_j7, ref01_Same_j6, ref01_Same_j2, ref01_Same_j1, ref01_Same_j0, h7]
theorem same_refl : ∀ (N : Nat) (d : Dt), d.bulk ≤ N → N ≤ 1000000000000 → WV d → ∀ m, N ≤ m → ref01_Same (m + 1) d d = some true
  | 0, d, h, _, _, _, _ => by have := bulk_pos d; omega
  | N + 1, d, h, hN, hw, m, hm => by
    cases hw with
    | @mk k i t l ds hl hd =>
      rw [bulk_val] at h
      obtain ⟨m, rfl⟩ : ∃ q, m = q + 1 := ⟨m - 1, by omega⟩
      have hl1 := len_bulk l
      have hd1 := len_bulk ds
      have h7 := same_l7 (m + 1) (ref01_Same (m + 1)) (.agg [.int k, .int i, .str t, .lst l, .lst ds]) (show ds.length < _ by omega) (fun f hf => by
        have hf' : f ∈ ds := hf
        have hb := bulk_mem hf'
        cases hd f hf' with
        | @mk s v hv =>
          rw [bulk_fld] at hb
          exact same_refl N v (by omega) (by omega) hv m (by omega)) (m + 2) 0 (Nat.zero_le _) (show ds.length - 0 < m + 2 by omega)
      have h2 := same_l2 (m + 1) (ref01_Same (m + 1)) (.agg [.int k, .int i, .str t, .lst l, .lst ds]) (show l.length < _ by omega) (fun e he => same_refl N e (by have := bulk_mem (l := l) he; omega) (by omega) (hl e he) m (by omega)) h7 (m + 2) 0 (Nat.zero_le _) (show l.length - 0 < m + 2 by omega)
      simp only [ref01_Same, bne_self_eq_false, cond_false, beq_self_eq_true, Bool.not_true, ref01_Same_j5, ref01_Same_j4, ref01_Same_j11, ref01_Same_j10, ref01_Same_j9, ref01_Same_j12, ref01_Same_j7, ref01_Same_j6, ref01_Same_j2, ref01_Same_j1, ref01_Same_j0]
      exact h2
theorem wv_bulk6 {d : Dt} (hw : WV d) : Dt.bulkL (Dt.L d 3) + Dt.bulkL (Dt.L d 4) + 6 ≤ d.bulk := by
  cases hw with
  | @mk k i t l ds hl hd =>
    rw [bulk_val]
    show Dt.bulkL l + Dt.bulkL ds + 6 ≤ _
    omega
end Go.Proofs.YtacpcknpliomoaaGreat
