/- Counting values ends. -/
import Derived.Test.YtacpcknpliomoaaGreatMWv
set_option linter.unusedVariables false
set_option linter.unusedSimpArgs false
namespace Go.Proofs.YtacpcknpliomoaaGreat
open Go.Am
theorem cnt_d (m : Nat) (self : Dt → Int → Int → Option Int) (d : Dt) (x0 : Int) (hl : (Dt.L d 4).length < 9223372036854775807) (hs : ∀ f ∈ Dt.L d 4, ∀ a b, ∃ r, self (Dt.fld f 1) a b = some r) : ∀ (M i : Nat) (x1 : Int), i ≤ (Dt.L d 4).length → (Dt.L d 4).length - i < M → ∃ r, ref02_count_l8 m self M x0 x1 (i : Int) d = some r
  | 0, i, _, _, h => by omega
  | M + 1, i, x1, hi, h => by
    simp only [ref02_count_l8, dlt]
    by_cases hlt : i < (Dt.L d 4).length
    · simp only [hlt, decide_true, cond_true]
      cases decide ((0 : Int) ≤ x1)
      · exact ⟨_, rfl⟩
      · obtain ⟨r, hr⟩ := hs _ (List.getElem_mem hlt) (IntKind.wrap IntKind.i64 (x0 + 1)) x1
        simp only [cond_true, ref02_count_j5, ref02_count_j4, ref02_count_j11, ref02_count_j10, ref02_count_j9, ref02_count_j12, ref02_count_j7, ref02_count_j6, ref02_count_j2, ref02_count_j1, ref02_count_j0, idx_lt hlt, Option.bind_some, hr, wrapS (show i < 9223372036854775807 by omega)]
        cases decide ((200 : Int) < ((Dt.S (Dt.L d 4)[i] 0).size : Int))
        · exact cnt_d m self d x0 hl hs M (i + 1) _ (by omega) (by omega)
        · exact ⟨_, rfl⟩
    · simp only [hlt, decide_false, cond_false]
      exact ⟨_, rfl⟩
theorem cnt_l (m : Nat) (self : Dt → Int → Int → Option Int) (d : Dt) (x0 : Int) (hl : (Dt.L d 3).length < 9223372036854775807) (hs : ∀ e ∈ Dt.L d 3, ∀ a b, ∃ r, self e a b = some r) (hd : ∀ x1, ∃ r, ref02_count_l8 m self (Nat.succ m) x0 x1 0 d = some r) : ∀ (M i : Nat) (x1 : Int), i ≤ (Dt.L d 3).length → (Dt.L d 3).length - i < M → ∃ r, ref02_count_l3 m self M x0 x1 (i : Int) d = some r
  | 0, i, _, _, h => by omega
  | M + 1, i, x1, hi, h => by
    simp only [ref02_count_l3, dlt]
    by_cases hlt : i < (Dt.L d 3).length
    · simp only [hlt, decide_true, cond_true]
      cases decide ((0 : Int) ≤ x1)
      · simp only [cond_false, ref02_count_j5, ref02_count_j4, ref02_count_j11, ref02_count_j10, ref02_count_j9, ref02_count_j12, ref02_count_j7, ref02_count_j6, ref02_count_j2, ref02_count_j1, ref02_count_j0]
        exact hd x1
      · obtain ⟨r, hr⟩ := hs _ (List.getElem_mem hlt) (IntKind.wrap IntKind.i64 (x0 + 1)) x1
        simp only [cond_true, ref02_count_j5, ref02_count_j4, ref02_count_j11, ref02_count_j10, ref02_count_j9, ref02_count_j12, ref02_count_j7, ref02_count_j6, ref02_count_j2, ref02_count_j1, ref02_count_j0, idx_lt hlt, Option.bind_some, hr, wrapS (show i < 9223372036854775807 by omega)]
        exact cnt_l m self d x0 hl hs hd M (i + 1) _ (by omega) (by omega)
    · simp only [hlt, decide_false, cond_false, ref02_count_j5, ref02_count_j4, ref02_count_j11, ref02_count_j10, ref02_count_j9, ref02_count_j12, ref02_count_j7, ref02_count_j6, ref02_count_j2, ref02_count_j1, ref02_count_j0]
      exact hd x1
theorem cnt_tot : ∀ (N : Nat) (d : Dt), d.bulk ≤ N → N ≤ 100000000000 → WV d → ∀ m, N ≤ m → ∀ a b : Int, ∃ r, ref02_count (m + 1) d a b = some r
  | 0, d, h, _, _, _, _, _, _ => by have := bulk_pos d; omega
  | N + 1, d, h, hN, hw, m, hm, a, b => by
    obtain ⟨m, rfl⟩ : ∃ q, m = q + 1 := ⟨m - 1, by omega⟩
    obtain ⟨p1, p2, p3, p4⟩ := wv_parts hw
    have ih : ∀ e : Dt, WV e → e.bulk ≤ N → ∀ a b : Int, ∃ r, ref02_count (m + 1) e a b = some r := fun e hwe hbe a b => cnt_tot N e hbe (by omega) hwe m (by omega) a b
    have hd : ∀ x1, ∃ r, ref02_count_l8 (m + 1) (ref02_count (m + 1)) (Nat.succ (m + 1)) a x1 0 d = some r := fun x1 => cnt_d (m + 1) (ref02_count (m + 1)) d a (by omega) (fun f hf => ih _ (p4 f hf).1 (by have := (p4 f hf).2; omega)) (m + 2) 0 x1 (Nat.zero_le _) (by omega)
    have hl := fun x1 => cnt_l (m + 1) (ref02_count (m + 1)) d a (by omega) (fun e he => ih e (p3 e he).1 (by have := (p3 e he).2; omega)) hd (m + 2) 0 x1 (Nat.zero_le _) (by omega)
    rw [ref02_count]
    simp only [ref02_count_j5, ref02_count_j4, ref02_count_j11, ref02_count_j10, ref02_count_j9, ref02_count_j12, ref02_count_j7, ref02_count_j6, ref02_count_j2, ref02_count_j1, ref02_count_j0]
    cases decide ((40 : Int) < a)
    · cases decide ((5000 : Int) < ((Dt.S d 2).size : Int))
      · exact hl _
      · exact ⟨_, rfl⟩
    · exact ⟨_, rfl⟩
theorem few_tot {d : Dt} (hw : WV d) (hb : d.bulk ≤ 100000000000) (m : Nat) (hm : d.bulk ≤ m) (n : Int) : ∃ b, ref02_Few (m + 2) d n = some b := by
  obtain ⟨r, h⟩ := cnt_tot d.bulk d (Nat.le_refl _) hb hw m hm 1 n
  refine ⟨decide ((0 : Int) ≤ r), ?_⟩
  simp only [ref02_Few, h, Option.bind_some]

end Go.Proofs.YtacpcknpliomoaaGreat
