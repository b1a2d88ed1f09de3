/- Values: how many levels a value has; valid and well-formed values: the program and the reference agree. -/
import Derived.Test.YtfneddmmeadacaaDoorMVld
set_option linter.unusedVariables false
set_option linter.unusedSimpArgs false
namespace Go.Proofs.YtfneddmmeadacaaDoor
open Go.Am

def mx (f : Dt → Nat) : List Dt → Nat
  | [] => 0
  | e :: r => max (f e) (mx f r)
theorem mx_congr {f g : Dt → Nat} : ∀ {L : List Dt}, (∀ e ∈ L, f e = g e) → mx f L = mx g L
  | [], _ => rfl
  | e :: r, h => by simp only [mx, h e (List.mem_cons_self ..), mx_congr fun x hx => h x (List.mem_cons_of_mem _ hx)]
theorem mx_map (f : Dt → Nat) (k : Dt → Dt) : ∀ L : List Dt, mx f (L.map k) = mx (fun x => f (k x)) L
  | [] => rfl
  | e :: r => by simp only [List.map_cons, mx, mx_map f k r]
theorem mx_drop (f : Dt → Nat) {L : List Dt} {i : Nat} (h : i < L.length) : mx f (L.drop i) = max (f L[i]) (mx f (L.drop (i + 1))) := by rw [List.drop_eq_getElem_cons h]; rfl
def dptF : Nat → Dt → Nat
  | 0, _ => 1
  | n + 1, d => 1 + mx (dptF n) (prts d)
theorem dptF_fuel : ∀ (n n' : Nat) (d : Dt), WV d → d.bulk ≤ n → d.bulk ≤ n' → dptF n d = dptF n' d
  | 0, _, d, _, h, _ => by have := bulk_pos d; omega
  | _ + 1, 0, d, _, _, h => by have := bulk_pos d; omega
  | n + 1, n' + 1, d, hw, h, h' => by
    simp only [dptF]
    congr 1
    refine mx_congr fun e he => ?_
    have := prts_wv hw e he
    exact dptF_fuel n n' e this.1 (by omega) (by omega)
def dpt (d : Dt) : Nat := dptF d.bulk d
theorem dpt_eq {d : Dt} (hw : WV d) : dpt d = 1 + mx dpt (prts d) := by
  obtain ⟨k, hk⟩ : ∃ k, d.bulk = k + 1 := ⟨d.bulk - 1, by have := bulk_pos d; omega⟩
  unfold dpt
  rw [hk]
  simp only [dptF]
  congr 1
  refine mx_congr fun e he => ?_
  have := prts_wv hw e he
  exact dptF_fuel _ _ e this.1 (by omega) (Nat.le_refl _)
theorem max_int (a b : Nat) : (bif decide ((a : Int) < (b : Int)) then (b : Int) else (a : Int)) = ((max a b : Nat) : Int) := by
  rw [dlt]
  by_cases h : a < b
  · simp only [h, decide_true, cond_true]; omega
  · simp only [h, decide_false, cond_false]; omega

theorem lev_loop (m : Nat) (self : Dt → Int → Option Int) (L : List Dt) (hl : L.length < 9223372036854775807) (most : Nat) (h2 : 2 ≤ most) (h3 : most < 1000000) (hs : ∀ e ∈ L, self e ((most - 1 : Nat) : Int) = some ((min (dpt e) (most - 1) : Nat) : Int)) : ∀ (M i best : Nat), i ≤ L.length → L.length - i < M → best ≤ most →
    ref01_levels_l3 m self M (most : Int) L (best : Int) (i : Int) = some ((max best (min (mx dpt (L.drop i)) (most - 1)) + 1 : Nat) : Int)
  | 0, i, _, _, h, _ => by omega
  | M + 1, i, best, hi, h, hb => by
    simp only [ref01_levels_l3, dlt]
    by_cases hlt : i < L.length
    · have hr := hs _ (List.getElem_mem hlt)
      have hw : IntKind.wrap IntKind.i64 ((most : Int) - 1) = ((most - 1 : Nat) : Int) := by rw [wrap64 (by omega) (by omega)]; omega
      simp only [hlt, decide_true, cond_true, ref01_levels_j5, ref01_levels_j4, ref01_levels_j6, ref01_levels_j2, ref01_levels_j1, ref01_levels_j0, idx_lt hlt, Option.bind_some, hw, hr, max_int, wrapS (show i < 9223372036854775807 by omega), lev_loop m self L hl most h2 h3 hs M (i + 1) (max best (min (dpt L[i]) (most - 1))) (by omega) (by omega) (by omega), mx_drop dpt hlt]
      congr 2
      omega
    · rw [List.drop_eq_nil_of_le (by omega)]
      simp only [hlt, decide_false, cond_false, ref01_levels_j5, ref01_levels_j4, ref01_levels_j6, ref01_levels_j2, ref01_levels_j1, ref01_levels_j0, mx]
      rw [wrap64 (by omega) (by omega)]
      congr 1
      omega
theorem levels_eq : ∀ (N : Nat) (d : Dt), d.bulk ≤ N → N ≤ 137438953472 → WV d → ∀ m, N ≤ m → ∀ most : Nat, 1 ≤ most → most < 1000000 → ref01_levels (m + 2) d (most : Int) = some ((min (dpt d) most : Nat) : Int)
  | 0, d, h, _, _, _, _, _, _, _ => by have := bulk_pos d; omega
  | N + 1, d, h, hN, hw, m, hm, most, h1, h3 => by
    obtain ⟨m, rfl⟩ : ∃ q, m = q + 1 := ⟨m - 1, by omega⟩
    rw [ref01_levels, parts_eq d hw (m + 1) (by omega) (by omega), Option.bind_some]
    have hd := dpt_eq hw
    by_cases h2 : most < 2
    · have : decide ((most : Int) < 2) = true := by simp; omega
      simp only [this, cond_true, ref01_levels_j5, ref01_levels_j4, ref01_levels_j6, ref01_levels_j2, ref01_levels_j1, ref01_levels_j0]
      congr 1
      omega
    · have e2 : decide ((most : Int) < 2) = false := by rw [decide_eq_false_iff_not]; omega
      by_cases h0 : (prts d).length = 0
      · have e0 : ((((prts d).length : Nat) : Int) == 0) = true := by simp; exact List.length_eq_zero_iff.1 h0
        rw [List.length_eq_zero_iff.1 h0] at hd
        simp only [mx] at hd
        simp only [e2, cond_false, e0, cond_true, ref01_levels_j5, ref01_levels_j4, ref01_levels_j6, ref01_levels_j2, ref01_levels_j1, ref01_levels_j0]
        congr 1
        omega
      · have e0 : ((((prts d).length : Nat) : Int) == 0) = false := by rw [beq_eq_false_iff_ne]; omega
        have hlen := prts_len hw
        have := lev_loop (m + 2) (ref01_levels (m + 2)) (prts d) (by omega) most (by omega) h3 (fun e he => by
          obtain ⟨hwe, hbe⟩ := prts_wv hw e he
          exact levels_eq N e (by omega) (by omega) hwe m (by omega) (most - 1) (by omega) (by omega)) (m + 3) 0 0 (Nat.zero_le _) (by omega) (by omega)
        rw [List.drop_zero] at this
        have h' : ref01_levels_l3 (m + 2) (ref01_levels (m + 2)) (Nat.succ (m + 2)) (most : Int) (prts d) 0 0 = _ := this
        have e9 : max 0 (min (mx dpt (prts d)) (most - 1)) + 1 = min (dpt d) most := by omega
        simp only [e2, cond_false, e0, ref01_levels_j5, ref01_levels_j4, ref01_levels_j6, ref01_levels_j2, ref01_levels_j1, ref01_levels_j0, h', e9]
theorem rDepth_eq {d : Dt} (hw : WV d) (hb : d.bulk ≤ 137438953472) (m : Nat) (hm : d.bulk ≤ m) : ref01_Depth (m + 3) d = some ((min (dpt d) 17 : Nat) : Int) := by
  simp only [ref01_Depth]
  rw [show ((17 : Int)) = ((17 : Nat) : Int) from rfl, levels_eq d.bulk d (Nat.le_refl _) hb hw m hm 17 (by omega) (by omega)]
  rfl

-- the program's
theorem each2_l (m : Nat) (self : Dt → Int → Int → Option (Bool × Int × Int)) (L : List Dt) (hl : L.length < 9223372036854775807) (most : Nat) (hs : ∀ e ∈ L, ∀ k : Nat, k < most - 1 → self e (k : Int) (most : Int) = some (decide (((max k (min (dpt e) (most - 1)) : Nat) : Int) < ((most - 1 : Nat) : Int)), ((max k (min (dpt e) (most - 1)) : Nat) : Int), (most : Int))) : ∀ (M i acc : Nat), i ≤ L.length → L.length - i < M → acc < most - 1 →
    i29_l1 m self M L (L.length : Int) (i : Int) (acc : Int) (most : Int) = some (((max acc (min (mx dpt (L.drop i)) (most - 1)) : Nat) : Int), (most : Int))
  | 0, i, _, _, h, _ => by omega
  | M + 1, i, acc, hi, h, ha => by
    simp only [i29_l1, dlt]
    by_cases hlt : i < L.length
    · have hr := hs _ (List.getElem_mem hlt) acc ha
      simp only [hlt, decide_true, cond_true, i29_j3, i29_j2, i29_j0, i29_j7, i29_j6, i29_j4, idx_lt hlt, Option.bind_some, hr, dlt, wrapS (show i < 9223372036854775807 by omega), mx_drop dpt hlt]
      by_cases hm : max acc (min (dpt L[i]) (most - 1)) < most - 1
      · simp only [hm, decide_true, Bool.not_true, cond_false, each2_l m self L hl most hs M (i + 1) (max acc (min (dpt L[i]) (most - 1))) (by omega) (by omega) hm]
        congr 3
        omega
      · simp only [hm, decide_false, Bool.not_false, cond_true]
        congr 3
        omega
    · rw [List.drop_eq_nil_of_le (by omega)]
      simp only [hlt, decide_false, cond_false, mx]
      congr 3
      omega
theorem each2_d (m : Nat) (self : Dt → Int → Int → Option (Bool × Int × Int)) (L : List Dt) (hl : L.length < 9223372036854775807) (most : Nat) (hs : ∀ e ∈ L, ∀ k : Nat, k < most - 1 → self (Dt.fld e 1) (k : Int) (most : Int) = some (decide (((max k (min (dpt (Dt.fld e 1)) (most - 1)) : Nat) : Int) < ((most - 1 : Nat) : Int)), ((max k (min (dpt (Dt.fld e 1)) (most - 1)) : Nat) : Int), (most : Int))) : ∀ (M i acc : Nat), i ≤ L.length → L.length - i < M → acc < most - 1 →
    i29_l5 m self M L (L.length : Int) (i : Int) (acc : Int) (most : Int) = some (((max acc (min (mx (fun f => dpt (Dt.fld f 1)) (L.drop i)) (most - 1)) : Nat) : Int), (most : Int))
  | 0, i, _, _, h, _ => by omega
  | M + 1, i, acc, hi, h, ha => by
    simp only [i29_l5, dlt]
    by_cases hlt : i < L.length
    · have hr := hs _ (List.getElem_mem hlt) acc ha
      simp only [hlt, decide_true, cond_true, i29_j3, i29_j2, i29_j0, i29_j7, i29_j6, i29_j4, idx_lt hlt, Option.bind_some, hr, dlt, wrapS (show i < 9223372036854775807 by omega), mx_drop (fun f => dpt (Dt.fld f 1)) hlt]
      by_cases hm : max acc (min (dpt (Dt.fld L[i] 1)) (most - 1)) < most - 1
      · simp only [hm, decide_true, Bool.not_true, cond_false, each2_d m self L hl most hs M (i + 1) (max acc (min (dpt (Dt.fld L[i] 1)) (most - 1))) (by omega) (by omega) hm]
        congr 3
        omega
      · simp only [hm, decide_false, Bool.not_false, cond_true]
        congr 3
        omega
    · rw [List.drop_eq_nil_of_le (by omega)]
      simp only [hlt, decide_false, cond_false, mx]
      congr 3
      omega
theorem vdepth_eq : ∀ (N : Nat) (d : Dt), d.bulk ≤ N → N ≤ 137438953472 → WV d → ∀ m, 3 * N ≤ m → ∀ most : Nat, 1 ≤ most → most < 1000000 → value_depth (m + 1) d (most : Int) = some ((min (dpt d) most : Nat) : Int)
  | 0, d, h, _, _, _, _, _, _, _ => by have := bulk_pos d; omega
  | N + 1, d, h, hN, hw, m, hm, most, h1, h2 => by
    obtain ⟨m, rfl⟩ : ∃ q, m = q + 3 := ⟨m - 3, by omega⟩
    simp only [value_depth]
    have hd := dpt_eq hw
    by_cases e1 : most = 1
    · subst e1
      have : ((((1 : Nat) : Int)) == (1 : Int)) = true := rfl
      simp only [this, cond_true]
      congr 1
      omega
    · have e2 : (((most : Int)) == (1 : Int)) = false := by rw [beq_eq_false_iff_ne]; omega
      have hc : ∀ e : Dt, WV e → e.bulk ≤ N → ∀ k : Nat, k < most - 1 → i30 (m + 2) e (k : Int) (most : Int) = some (decide (((max k (min (dpt e) (most - 1)) : Nat) : Int) < ((most - 1 : Nat) : Int)), ((max k (min (dpt e) (most - 1)) : Nat) : Int), (most : Int)) := fun e hwe hbe k hk => by
        have hw1 : IntKind.wrap IntKind.i64 ((most : Int) - 1) = ((most - 1 : Nat) : Int) := by rw [wrap64 (by omega) (by omega)]; omega
        have hr := vdepth_eq N e hbe (by omega) hwe m (by omega) (most - 1) (by omega) (by omega)
        simp only [i30, hw1, hr, Option.bind_some, max_int]
      obtain ⟨p1, p2, p3, p4⟩ := wv_parts hw
      have k1 := each2_l (m + 2) (i30 (m + 2)) (Dt.L d 3) (by omega) most (fun e he => hc e (p3 e he).1 (by have := (p3 e he).2; omega)) (m + 3) 0 0 (Nat.zero_le _) (by omega) (by omega)
      have k2 := each2_d (m + 2) (i30 (m + 2)) (Dt.L d 4) (by omega) most (fun e he => hc _ (p4 e he).1 (by have := (p4 e he).2; omega)) (m + 3) 0 0 (Nat.zero_le _) (by omega) (by omega)
      rw [List.drop_zero] at k1 k2
      unfold prts at hd
      have fin : ∀ x : Nat, x < most → IntKind.wrap IntKind.i64 ((1 : Int) + (x : Int)) = ((1 + x : Nat) : Int) := fun x hx => by rw [wrap64 (by omega) (by omega)]; omega
      simp only [e2, cond_false, value_depth_j0, i29]
      cases h6 : (Dt.I d 0 == 6)
      · rw [h6] at hd
        cases h5 : (Dt.I d 0 == 5)
        · rw [h5] at hd
          simp only [cond_false, mx] at hd
          simp only [cond_false, Option.bind_some]
          rw [show ((0 : Int)) = ((0 : Nat) : Int) from rfl, fin 0 (by omega), hd]
          congr 2
          omega
        · rw [h5] at hd
          simp only [cond_false, cond_true, mx_map] at hd
          have k2' : i29_l5 (m + 2) (i30 (m + 2)) (Nat.succ (m + 2)) (Dt.L d 4) ((Dt.L d 4).length : Int) 0 0 (most : Int) = _ := k2
          simp only [cond_false, cond_true, i29_j3, i29_j2, i29_j0, i29_j7, i29_j6, i29_j4, k2', Option.bind_some]
          rw [fin _ (by omega), hd]
          congr 2
          omega
      · rw [h6] at hd
        simp only [cond_true] at hd
        have k1' : i29_l1 (m + 2) (i30 (m + 2)) (Nat.succ (m + 2)) (Dt.L d 3) ((Dt.L d 3).length : Int) 0 0 (most : Int) = _ := k1
        simp only [cond_true, i29_j3, i29_j2, i29_j0, i29_j7, i29_j6, i29_j4, k1', Option.bind_some]
        rw [fin _ (by omega), hd]
        congr 2
        omega
theorem vDepth_eq {d : Dt} (hw : WV d) (hb : d.bulk ≤ 137438953472) (m : Nat) (hm : 3 * d.bulk ≤ m) : value_Depth (m + 2) d = some ((min (dpt d) 17 : Nat) : Int) := by
  simp only [value_Depth]
  rw [show ((17 : Int)) = ((17 : Nat) : Int) from rfl, vdepth_eq d.bulk d (Nat.le_refl _) hb hw m hm 17 (by omega) (by omega)]
  rfl

/-- A valid value. -/
def okV (d : Dt) : Bool := decide (nds d ≤ 1024) && decide (dpt d ≤ 16) && sndF nm d.bulk d
theorem lim (n k : Nat) (h : k < 1000000) : decide (((min n (k + 1) : Nat) : Int) ≤ ((k : Nat) : Int)) = decide (n ≤ k) := by
  rw [dle, Bool.eq_iff_iff]; simp only [decide_eq_true_eq]; omega
theorem vValid_eq {d : Dt} (hw : WV d) (m : Nat) (hm : 3 * d.bulk + 300 ≤ m) (hb : d.bulk ≤ 100000000000) : value_Valid (m + 3) d = some (okV d) := by
  have h1 : value_Nodes (m + 2) d = some ((min (nds d) (1024 + 1) : Nat) : Int) := vNodes_eq hw (by omega) m (by omega)
  have h2 : value_Depth (m + 2) d = some ((min (dpt d) (16 + 1) : Nat) : Int) := vDepth_eq hw (by omega) m (by omega)
  have h3 : value_sound (m + 2) d = some (sndF nm d.bulk d) := vsound_eq d.bulk d (Nat.le_refl _) (by omega) hw (m + 1) (by omega)
  have l1 : decide (((min (nds d) (1024 + 1) : Nat) : Int) ≤ 1024) = decide (nds d ≤ 1024) := lim _ 1024 (by omega)
  have l2 : decide (((min (dpt d) (16 + 1) : Nat) : Int) ≤ 16) = decide (dpt d ≤ 16) := lim _ 16 (by omega)
  simp only [value_Valid, h1, h2, h3, Option.bind_some, l1, l2, okV]
  cases decide (nds d ≤ 1024) <;> cases decide (dpt d ≤ 16) <;> rfl
theorem rValid_eq {d : Dt} (hw : WV d) (m : Nat) (hm : 2 * d.bulk + 300 ≤ m) (hm2 : m < 9223372036854775000) (hb : d.bulk ≤ 100000000000) : ref01_Valid (m + 4) d = some (okV d) := by
  have h1 : ref01_Nodes (m + 3) d = some ((min (nds d) (1024 + 1) : Nat) : Int) := rNodes_eq hw (by omega) m (by omega)
  have h2 : ref01_Depth (m + 3) d = some ((min (dpt d) (16 + 1) : Nat) : Int) := rDepth_eq hw (by omega) m (by omega)
  have h3 : ref01_formed (m + 3) d true = some (sndF nm d.bulk d) := rformed_eq true d.bulk d (Nat.le_refl _) (by omega) hw (m + 2) (by omega) (by omega)
  have l1 : decide (((min (nds d) (1024 + 1) : Nat) : Int) ≤ 1024) = decide (nds d ≤ 1024) := lim _ 1024 (by omega)
  have l2 : decide (((min (dpt d) (16 + 1) : Nat) : Int) ≤ 16) = decide (dpt d ≤ 16) := lim _ 16 (by omega)
  simp only [ref01_Valid, h1, h2, h3, Option.bind_some, l1, l2, okV]
  cases decide (nds d ≤ 1024) <;> cases decide (dpt d ≤ 16) <;> rfl
end Go.Proofs.YtfneddmmeadacaaDoor
