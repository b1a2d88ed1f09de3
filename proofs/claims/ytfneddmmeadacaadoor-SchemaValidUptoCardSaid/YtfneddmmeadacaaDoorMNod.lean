/- Values: how many values are within a value, and how many levels it has: the program's functions and the reference's, in plain Lean. -/
import Derived.Test.YtfneddmmeadacaaDoorMPrt
set_option linter.unusedVariables false
set_option linter.unusedSimpArgs false
namespace Go.Proofs.YtfneddmmeadacaaDoor
open Go.Am

def ndsF : Nat → Dt → Nat
  | 0, _ => 1
  | n + 1, d => 1 + ((prts d).map (ndsF n)).sum
theorem ndsF_fuel : ∀ (n n' : Nat) (d : Dt), WV d → d.bulk ≤ n → d.bulk ≤ n' → ndsF n d = ndsF n' d
  | 0, _, d, _, h, _ => by have := bulk_pos d; omega
  | _ + 1, 0, d, _, _, h => by have := bulk_pos d; omega
  | n + 1, n' + 1, d, hw, h, h' => by
    simp only [ndsF]
    congr 2
    refine List.map_congr_left fun e he => ?_
    have := prts_wv hw e he
    exact ndsF_fuel n n' e this.1 (by omega) (by omega)
def nds (d : Dt) : Nat := ndsF d.bulk d
theorem nds_eq {d : Dt} (hw : WV d) : nds d = 1 + ((prts d).map nds).sum := by
  obtain ⟨k, hk⟩ : ∃ k, d.bulk = k + 1 := ⟨d.bulk - 1, by have := bulk_pos d; omega⟩
  unfold nds
  rw [hk]
  simp only [ndsF]
  congr 2
  refine List.map_congr_left fun e he => ?_
  have := prts_wv hw e he
  exact ndsF_fuel _ _ e this.1 (by omega) (Nat.le_refl _)
theorem nds_pos {d : Dt} (hw : WV d) : 1 ≤ nds d := by rw [nds_eq hw]; omega
theorem sum_cons (f : Dt → Nat) {L : List Dt} {i : Nat} (h : i < L.length) : ((L.drop i).map f).sum = f L[i] + ((L.drop (i + 1)).map f).sum := by
  rw [List.drop_eq_getElem_cons h, List.map_cons, List.sum_cons]

theorem count_l1 (m : Nat) (self : Dt → Int → Option Int) (L : List Dt) (hl : L.length < 9223372036854775807) (most : Nat) (hb : most < 1000000) (hs : ∀ e ∈ L, ∀ k : Nat, 1 ≤ k → k ≤ most → self e (k : Int) = some ((min (nds e) k : Nat) : Int)) : ∀ (M i acc : Nat), i ≤ L.length → L.length - i < M → acc ≤ most →
    ref01_count_l1 m self M (most : Int) (acc : Int) L (i : Int) = some ((min (acc + ((L.drop i).map nds).sum) most : Nat) : Int)
  | 0, i, _, _, h, _ => by omega
  | M + 1, i, acc, hi, h, ha => by
    simp only [ref01_count_l1, dlt]
    by_cases hlt : i < L.length
    · simp only [hlt, decide_true, cond_true]
      by_cases hm : acc < most
      · have hw : IntKind.wrap IntKind.i64 ((most : Int) - (acc : Int)) = ((most - acc : Nat) : Int) := by rw [wrap64 (by omega) (by omega)]; omega
        have hr := hs _ (List.getElem_mem hlt) (most - acc) (by omega) (by omega)
        have hw2 : IntKind.wrap IntKind.i64 ((acc : Int) + ((min (nds L[i]) (most - acc) : Nat) : Int)) = ((acc + min (nds L[i]) (most - acc) : Nat) : Int) := by rw [wrap64 (by omega) (by omega)]; omega
        simp only [hm, decide_true, cond_true, ref01_count_j3, ref01_count_j2, ref01_count_j4, ref01_count_j0, idx_lt hlt, Option.bind_some, hw, hr, hw2, wrapS (show i < 9223372036854775807 by omega), count_l1 m self L hl most hb hs M (i + 1) (acc + min (nds L[i]) (most - acc)) (by omega) (by omega) (by omega), sum_cons nds hlt]
        congr 2
        omega
      · have : acc = most := by omega
        subst this
        simp only [hm, decide_false, cond_false]
        first | (simp only [ref01_count_j4]; congr 2; omega) | (congr 2; omega)
    · rw [List.drop_eq_nil_of_le (by omega)]
      simp only [hlt, decide_false, cond_false, List.map_nil, List.sum_nil]
      first | (simp only [ref01_count_j4]; congr 2; omega) | (congr 2; omega)
theorem count_eq : ∀ (N : Nat) (d : Dt), d.bulk ≤ N → N ≤ 137438953472 → WV d → ∀ m, N ≤ m → ∀ most : Nat, 1 ≤ most → most < 1000000 → ref01_count (m + 2) d (most : Int) = some ((min (nds d) most : Nat) : Int)
  | 0, d, h, _, _, _, _, _, _, _ => by have := bulk_pos d; omega
  | N + 1, d, h, hN, hw, m, hm, most, h1, h2 => by
    obtain ⟨m, rfl⟩ : ∃ q, m = q + 1 := ⟨m - 1, by omega⟩
    simp only [ref01_count, parts_eq d hw (m + 1) (by omega) (by omega), Option.bind_some, ref01_count_j0]
    have hl := prts_len hw
    have := count_l1 (m + 2) (ref01_count (m + 2)) (prts d) (by omega) most h2 (fun e he k hk1 hk2 => by
      obtain ⟨hwe, hbe⟩ := prts_wv hw e he
      exact count_eq N e (by omega) (by omega) hwe m (by omega) k hk1 (by omega)) (m + 3) 0 1 (Nat.zero_le _) (by omega) h1
    rw [List.drop_zero, ← nds_eq hw] at this
    exact this
theorem rNodes_eq {d : Dt} (hw : WV d) (hb : d.bulk ≤ 137438953472) (m : Nat) (hm : d.bulk ≤ m) : ref01_Nodes (m + 3) d = some ((min (nds d) 1025 : Nat) : Int) := by
  simp only [ref01_Nodes]
  rw [show ((1025 : Int)) = ((1025 : Nat) : Int) from rfl, count_eq d.bulk d (Nat.le_refl _) hb hw m hm 1025 (by omega) (by omega)]
  rfl

-- the program's count
theorem each1_l (m : Nat) (self : Dt → Int → Int → Option (Bool × Int × Int)) (L : List Dt) (hl : L.length < 9223372036854775807) (most : Nat) (hs : ∀ e ∈ L, ∀ k : Nat, k < most → self e (k : Int) (most : Int) = some (decide (((min (k + nds e) most : Nat) : Int) < (most : Int)), ((min (k + nds e) most : Nat) : Int), (most : Int))) : ∀ (M i acc : Nat), i ≤ L.length → L.length - i < M → acc < most →
    i27_l1 m self M L (L.length : Int) (i : Int) (acc : Int) (most : Int) = some (((min (acc + ((L.drop i).map nds).sum) most : Nat) : Int), (most : Int))
  | 0, i, _, _, h, _ => by omega
  | M + 1, i, acc, hi, h, ha => by
    simp only [i27_l1, dlt]
    by_cases hlt : i < L.length
    · have hr := hs _ (List.getElem_mem hlt) acc ha
      simp only [hlt, decide_true, cond_true, i27_j3, i27_j2, i27_j0, i27_j7, i27_j6, i27_j4, idx_lt hlt, Option.bind_some, hr, dlt, wrapS (show i < 9223372036854775807 by omega), sum_cons nds hlt]
      by_cases hm : min (acc + nds L[i]) most < most
      · simp only [hm, decide_true, Bool.not_true, cond_false, each1_l m self L hl most hs M (i + 1) (min (acc + nds L[i]) most) (by omega) (by omega) hm]
        congr 3
        omega
      · simp only [hm, decide_false, Bool.not_false, cond_true]
        congr 3
        omega
    · rw [List.drop_eq_nil_of_le (by omega)]
      simp only [hlt, decide_false, cond_false, List.map_nil, List.sum_nil]
      congr 3
      omega
theorem each1_d (m : Nat) (self : Dt → Int → Int → Option (Bool × Int × Int)) (L : List Dt) (hl : L.length < 9223372036854775807) (most : Nat) (hs : ∀ e ∈ L, ∀ k : Nat, k < most → self (Dt.fld e 1) (k : Int) (most : Int) = some (decide (((min (k + nds (Dt.fld e 1)) most : Nat) : Int) < (most : Int)), ((min (k + nds (Dt.fld e 1)) most : Nat) : Int), (most : Int))) : ∀ (M i acc : Nat), i ≤ L.length → L.length - i < M → acc < most →
    i27_l5 m self M L (L.length : Int) (i : Int) (acc : Int) (most : Int) = some (((min (acc + ((L.drop i).map fun f => nds (Dt.fld f 1)).sum) most : Nat) : Int), (most : Int))
  | 0, i, _, _, h, _ => by omega
  | M + 1, i, acc, hi, h, ha => by
    simp only [i27_l5, dlt]
    by_cases hlt : i < L.length
    · have hr := hs _ (List.getElem_mem hlt) acc ha
      simp only [hlt, decide_true, cond_true, i27_j3, i27_j2, i27_j0, i27_j7, i27_j6, i27_j4, idx_lt hlt, Option.bind_some, hr, dlt, wrapS (show i < 9223372036854775807 by omega), sum_cons (fun f => nds (Dt.fld f 1)) hlt]
      by_cases hm : min (acc + nds (Dt.fld L[i] 1)) most < most
      · simp only [hm, decide_true, Bool.not_true, cond_false, each1_d m self L hl most hs M (i + 1) (min (acc + nds (Dt.fld L[i] 1)) most) (by omega) (by omega) hm]
        congr 3
        omega
      · simp only [hm, decide_false, Bool.not_false, cond_true]
        congr 3
        omega
    · rw [List.drop_eq_nil_of_le (by omega)]
      simp only [hlt, decide_false, cond_false, List.map_nil, List.sum_nil]
      congr 3
      omega
theorem wv_parts {d : Dt} (hw : WV d) : (Dt.L d 3).length ≤ d.bulk ∧ (Dt.L d 4).length ≤ d.bulk ∧ (∀ e ∈ Dt.L d 3, WV e ∧ e.bulk < d.bulk) ∧ (∀ f ∈ Dt.L d 4, WV (Dt.fld f 1) ∧ (Dt.fld f 1).bulk < d.bulk) := by
  cases hw with
  | @mk k i t l ds hl hd =>
    rw [bulk_val]
    have h3 := len_bulk l
    have h4 := len_bulk ds
    refine ⟨by show l.length ≤ _; omega, by show ds.length ≤ _; omega, fun e he => ⟨hl e he, ?_⟩, fun f hf => ?_⟩
    · have := bulk_mem (show e ∈ l from he); omega
    · have hb := bulk_mem (show f ∈ ds from hf)
      cases hd f hf with
      | @mk s v hv =>
        rw [bulk_fld] at hb
        exact ⟨hv, by show v.bulk < _; omega⟩
theorem vnodes_eq : ∀ (N : Nat) (d : Dt), d.bulk ≤ N → N ≤ 137438953472 → WV d → ∀ m, 3 * N ≤ m → ∀ most : Nat, 1 ≤ most → most < 1000000 → value_nodes (m + 1) d (most : Int) = some ((min (nds d) most : Nat) : Int)
  | 0, d, h, _, _, _, _, _, _, _ => by have := bulk_pos d; omega
  | N + 1, d, h, hN, hw, m, hm, most, h1, h2 => by
    obtain ⟨m, rfl⟩ : ∃ q, m = q + 3 := ⟨m - 3, by omega⟩
    simp only [value_nodes]
    have hpos := nds_pos hw
    by_cases e1 : most = 1
    · subst e1
      have : (((1 : Int)) == ((1 : Nat) : Int)) = true := rfl
      simp only [this, cond_true]
      congr 1
      omega
    · have e2 : (((1 : Int)) == (most : Int)) = false := by rw [beq_eq_false_iff_ne]; omega
      have hc : ∀ e : Dt, WV e → e.bulk ≤ N → ∀ k : Nat, k < most → i28 (m + 2) e (k : Int) (most : Int) = some (decide (((min (k + nds e) most : Nat) : Int) < (most : Int)), ((min (k + nds e) most : Nat) : Int), (most : Int)) := fun e hwe hbe k hk => by
        have hw1 : IntKind.wrap IntKind.i64 ((most : Int) - (k : Int)) = ((most - k : Nat) : Int) := by rw [wrap64 (by omega) (by omega)]; omega
        have hr := vnodes_eq N e hbe (by omega) hwe m (by omega) (most - k) (by omega) (by omega)
        have hw2 : IntKind.wrap IntKind.i64 ((k : Int) + ((min (nds e) (most - k) : Nat) : Int)) = ((min (k + nds e) most : Nat) : Int) := by rw [wrap64 (by omega) (by omega)]; omega
        simp only [i28, hw1, hr, Option.bind_some, hw2]
      obtain ⟨p1, p2, p3, p4⟩ := wv_parts hw
      have k1 := each1_l (m + 2) (i28 (m + 2)) (Dt.L d 3) (by omega) most (fun e he => hc e (p3 e he).1 (by have := (p3 e he).2; omega)) (m + 3) 0 1 (Nat.zero_le _) (by omega) (by omega)
      have k2 := each1_d (m + 2) (i28 (m + 2)) (Dt.L d 4) (by omega) most (fun e he => hc _ (p4 e he).1 (by have := (p4 e he).2; omega)) (m + 3) 0 1 (Nat.zero_le _) (by omega) (by omega)
      rw [List.drop_zero] at k1 k2
      have hn := nds_eq hw
      unfold prts at hn
      simp only [e2, cond_false, value_nodes_j0, i27]
      cases h6 : (Dt.I d 0 == 6)
      · rw [h6] at hn
        cases h5 : (Dt.I d 0 == 5)
        · rw [h5] at hn
          simp only [cond_false, List.map_nil, List.sum_nil] at hn
          simp only [cond_false, Option.bind_some, hn]
          congr 1
          omega
        · rw [h5] at hn
          simp only [cond_false, cond_true, List.map_map] at hn
          have hn' : nds d = 1 + ((Dt.L d 4).map fun f => nds (Dt.fld f 1)).sum := hn
          have k2' : i27_l5 (m + 2) (i28 (m + 2)) (Nat.succ (m + 2)) (Dt.L d 4) ((Dt.L d 4).length : Int) 0 1 (most : Int) = _ := k2
          simp only [cond_false, cond_true, i27_j3, i27_j2, i27_j0, i27_j7, i27_j6, i27_j4, k2', Option.bind_some, hn']
      · rw [h6] at hn
        simp only [cond_true] at hn
        have k1' : i27_l1 (m + 2) (i28 (m + 2)) (Nat.succ (m + 2)) (Dt.L d 3) ((Dt.L d 3).length : Int) 0 1 (most : Int) = _ := k1
        simp only [cond_true, i27_j3, i27_j2, i27_j0, i27_j7, i27_j6, i27_j4, k1', Option.bind_some, hn]
theorem vNodes_eq {d : Dt} (hw : WV d) (hb : d.bulk ≤ 137438953472) (m : Nat) (hm : 3 * d.bulk ≤ m) : value_Nodes (m + 2) d = some ((min (nds d) 1025 : Nat) : Int) := by
  simp only [value_Nodes]
  rw [show ((1025 : Int)) = ((1025 : Nat) : Int) from rfl, vnodes_eq d.bulk d (Nat.le_refl _) hb hw m hm 1025 (by omega) (by omega)]
  rfl
end Go.Proofs.YtfneddmmeadacaaDoor
