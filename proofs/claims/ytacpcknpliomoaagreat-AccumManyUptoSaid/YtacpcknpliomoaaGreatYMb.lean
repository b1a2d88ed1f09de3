/- Accumulators of many numbers: states over documents, joined. -/
import Derived.Test.YtacpcknpliomoaaGreatYMa
set_option linter.unusedVariables false
set_option linter.unusedSimpArgs false
namespace Go.Proofs.YtacpcknpliomoaaGreat
open Go.Am
theorem take_app1 (l r : List Int) (n : Nat) : (l.take n ++ r).take n = (l ++ r).take n := by
  rw [List.take_append, List.take_append, List.take_take, List.length_take, Nat.min_self]
  congr 2
  omega
theorem take_app2 (l r : List Int) (n : Nat) : (l ++ r.take n).take n = (l ++ r).take n := by
  rw [List.take_append, List.take_append, List.take_take]
  congr 2
  omega
theorem y18_eq (m : Nat) (a0 : Dt) (a1 a2 a3 : Int) (a4 a5 : Dt) (a6 a7 : List Dt) : i18 (m + 1) a0 a1 a2 a3 a4 a5 a6 a7 = (bif (decide ((List.length a6 : Int) < 1024)) then
    ((expr_EvalC (Dt.fld a0 2) a5).bind fun r0 => ((accum_orNull m r0).bind fun r1 => ((app a6 [r1]).bind fun v2 => i18_j0 m a1 a2 a3 a4 v2 a7 kzc575d)))
  else i18_j0 m a1 a2 a3 a4 a6 a7 kzc575d) := by unfold i18; rfl
theorem add8 {m : Nat} (hm : 4010 ≤ m) (ks : List Int) (k : Int) (hk : ks.length ≤ 1024) : accum_Add (m + 1) (aD 8) (pL 8 ks) (doD k) = some (pL 8 ((ks ++ [k]).take 1024)) := by
  obtain ⟨q, rfl⟩ : ∃ q, m = q + 3 := ⟨m - 3, by omega⟩
  rw [accum_Add, copy_pL 8 ks (by omega) (by omega), Option.bind_some, show (Dt.I (aD 8) 1 == 8) = true from rfl, cond_true, y18_eq, List.length_map]
  by_cases h : ks.length < 1024
  · rw [decide_eq_true (by omega), cond_true]
    show Option.bind (Option.bind (expr_EvalC exA (doD k)) _) _ = _
    rw [expr_EvalC_eq, Option.bind_some]
    show Option.bind (Option.bind (app (ks.map inD) [inD k]) _) _ = _
    rw [app_le (by simp; omega), List.take_of_length_le (by simp; omega)]
    show some (Dt.agg [.int 8, .int 0, .int 0, zv, .lst (ks.map inD ++ [inD k]), .lst []]) = some (pL 8 (ks ++ [k]))
    unfold pL
    rw [List.map_append]
    rfl
  · rw [decide_eq_false (by omega), cond_false, List.take_append_of_le_length (by omega), List.take_of_length_le hk]
    rfl
theorem add9 {m : Nat} (hm : 4010 ≤ m) (ks : List Int) (k : Int) (hs : ks.Pairwise (· < ·)) (hk : ks.length ≤ 1024) : ∃ p, At ks k p ∧ accum_Add (m + 1) (aD 9) (pL 9 ks) (doD k) = some (pL 9 (insT ks k p)) := by
  obtain ⟨q, rfl⟩ : ∃ q, m = q + 3 := ⟨m - 3, by omega⟩
  obtain ⟨p, h1, h2⟩ := ins22 (m := q + 1) ks k hs hk (by omega)
  refine ⟨p, h1, ?_⟩
  rw [accum_Add, copy_pL 9 ks (by omega) (by omega), Option.bind_some]
  show Option.bind (i21 (q + 3) (aD 9) 9 0 0 zv (doD k) (ks.map inD) []) _ = _
  rw [i21]
  show Option.bind (Option.bind (expr_EvalC exA (doD k)) _) _ = _
  rw [expr_EvalC_eq, Option.bind_some]
  show Option.bind (Option.bind (i22 (q + 2) (inD k) (ks.map inD)) _) _ = _
  rw [h2]
  rfl
theorem doD_get {ks : List Int} {i : Nat} (h : i < ks.length) : (ks.map doD)[i]'(by simpa using h) = doD ks[i] := by simp
theorem run8_loop {m : Nat} (hm : 4011 ≤ m) (ks : List Int) (hl : ks.length ≤ 3000) (z : Dt) : ∀ (M i : Nat), i ≤ ks.length → ks.length - i < M →
    law32_run_l1 m M (ks.map doD) (i : Int) (aD 8) z (pL 8 ((ks.take i).take 1024)) = some (pL 8 (ks.take 1024))
  | 0, i, _, h => by omega
  | M + 1, i, hi, h => by
    obtain ⟨q, rfl⟩ : ∃ q, m = q + 1 := ⟨m - 1, by omega⟩
    rw [law32_run_l1, List.length_map, dlt]
    by_cases hlt : i < ks.length
    · rw [decide_eq_true hlt, cond_true, law32_run_j2, idx_lt (by simpa using hlt), Option.bind_some, doD_get hlt, add8 (by omega) _ _ (by simp; omega), Option.bind_some, law32_run_j3, wrapS (by omega), take_app1, ← List.take_succ_eq_append_getElem hlt]
      exact run8_loop hm ks hl z M (i + 1) (by omega) (by omega)
    · have e : i = ks.length := by omega
      subst e
      rw [decide_eq_false hlt, cond_false, List.take_of_length_le (Nat.le_refl _)]
      rfl
theorem run8 {m : Nat} (hm : 4012 ≤ m) (ks : List Int) (hl : ks.length ≤ 3000) : law32_run (m + 1) (aD 8) (ks.map doD) = some (pL 8 (ks.take 1024)) := by
  obtain ⟨q, rfl⟩ : ∃ q, m = q + 1 := ⟨m - 1, by omega⟩
  rw [law32_run]
  exact run8_loop (m := q + 1) (by omega) ks hl _ (q + 2) 0 (by omega) (by omega)
theorem run9_loop {m : Nat} (hm : 4011 ≤ m) (ks : List Int) (hl : ks.length ≤ 3000) (hd : ks.Pairwise (· ≠ ·)) (z : Dt) : ∀ (M i : Nat) (l : List Int), i ≤ ks.length → ks.length - i < M → Lst l (· ∈ ks.take i) → l.length = min i 1024 →
    ∃ l', law32_run_l1 m M (ks.map doD) (i : Int) (aD 9) z (pL 9 l) = some (pL 9 l') ∧ Lst l' (· ∈ ks) ∧ l'.length = min ks.length 1024
  | 0, i, _, _, h, _, _ => by omega
  | M + 1, i, l, hi, h, hL, hc => by
    obtain ⟨q, rfl⟩ : ∃ q, m = q + 1 := ⟨m - 1, by omega⟩
    rw [law32_run_l1, List.length_map, dlt]
    by_cases hlt : i < ks.length
    · obtain ⟨p, h1, h2⟩ := add9 (m := q) (by omega) l ks[i] hL.srt hL.len
      obtain ⟨h3, h4⟩ := hL.ins h1
      have hnew : ks[i] ∉ ks.take i := fun hm2 => by
        obtain ⟨j, hj, e⟩ := List.getElem_of_mem hm2
        rw [List.getElem_take] at e
        exact List.pairwise_iff_getElem.1 hd j i (by simp at hj; omega) hlt (by simp at hj; omega) e
      obtain ⟨l', r1, r2, r3⟩ := run9_loop hm ks hl hd z M (i + 1) (insT l ks[i] p) (by omega) (by omega) (h3.congr fun x => by
        rw [List.take_succ_eq_append_getElem hlt, List.mem_append, List.mem_singleton]) (by rw [h4 hnew]; omega)
      refine ⟨l', ?_, r2, r3⟩
      rw [decide_eq_true hlt, cond_true, law32_run_j2, idx_lt (by simpa using hlt), Option.bind_some, doD_get hlt, h2, Option.bind_some, law32_run_j3, wrapS (by omega)]
      exact r1
    · have e : i = ks.length := by omega
      subst e
      rw [List.take_of_length_le (Nat.le_refl _)] at hL
      exact ⟨l, by rw [decide_eq_false hlt, cond_false]; rfl, hL, hc⟩
theorem run9 {m : Nat} (hm : 4012 ≤ m) (ks : List Int) (hl : ks.length ≤ 3000) (hd : ks.Pairwise (· ≠ ·)) : ∃ l, law32_run (m + 1) (aD 9) (ks.map doD) = some (pL 9 l) ∧ Lst l (· ∈ ks) ∧ l.length = min ks.length 1024 := by
  obtain ⟨q, rfl⟩ : ∃ q, m = q + 1 := ⟨m - 1, by omega⟩
  obtain ⟨l, h1, h2⟩ := run9_loop (m := q + 1) (by omega) ks hl hd kzc575d (q + 2) 0 [] (by omega) (by omega) (Lst.nil (by simp)) rfl
  refine ⟨l, ?_, h2⟩
  rw [law32_run]
  exact h1
theorem join8_loop (m : Nat) (a b : List Int) (ha : a.length ≤ 1024) (hb : b.length ≤ 3000) (x3 x4 : List Dt) (x5 x6 x7 : Int) (x8 : Dt) (x10 : List Dt) (x11 : Dt) : ∀ (M i : Nat), i ≤ b.length → b.length - i < M →
    i12_l1 m M (b.map inD) (b.length : Int) (i : Int) x3 x4 x5 x6 x7 x8 (((a ++ b.take i).take 1024).map inD) x10 x11 = some (.agg [.int x5, .int x6, .int x7, x8, .lst (((a ++ b).take 1024).map inD), .lst x10], x3, x4)
  | 0, i, _, h => by omega
  | M + 1, i, hi, h => by
    rw [i12_l1, dlt]
    by_cases hlt : i < b.length
    · have ih := join8_loop m a b ha hb x3 x4 x5 x6 x7 x8 x10 x11 M (i + 1) (by omega) (by omega)
      have e : (a ++ b.take (i + 1)).take 1024 = (((a ++ b.take i).take 1024) ++ [b[i]]).take 1024 := by rw [take_app1, List.append_assoc, ← List.take_succ_eq_append_getElem hlt]
      rw [e] at ih
      rw [decide_eq_true hlt, cond_true, i12_j2, idx_lt (by simpa using hlt), Option.bind_some, getL hlt, List.length_map]
      by_cases hc : ((a ++ b.take i).take 1024).length < 1024
      · rw [decide_eq_true (by omega), cond_true, app_le (by simp; omega), Option.bind_some, i12_j3, wrapS (by omega)]
        rw [List.take_of_length_le (l := (a ++ b.take i).take 1024 ++ [b[i]]) (by rw [List.length_append, List.length_singleton]; omega), List.map_append] at ih
        exact ih
      · rw [decide_eq_false (by omega), cond_false, i12_j3, wrapS (by omega)]
        rw [List.take_append_of_le_length (by omega), List.take_of_length_le (l := (a ++ b.take i).take 1024) (by rw [List.length_take]; omega)] at ih
        exact ih
    · have e : i = b.length := by omega
      subst e
      rw [decide_eq_false hlt, cond_false, List.take_of_length_le (l := b) (Nat.le_refl _)]
      rfl
theorem join8 {m : Nat} (hm : 4012 ≤ m) (a b : List Int) (ha : a.length ≤ 1024) (hb : b.length ≤ 1024) : accum_Join (m + 1) (aD 8) (pL 8 a) (pL 8 b) = some (pL 8 ((a ++ b).take 1024)) := by
  obtain ⟨q, rfl⟩ : ∃ q, m = q + 1 := ⟨m - 1, by omega⟩
  rw [accum_Join, copy_pL 8 a (by omega) (by omega), Option.bind_some]
  show Option.bind (accum_copyPart (q + 1) (pL 8 b)) _ = _
  rw [copy_pL 8 b (by omega) (by omega), Option.bind_some]
  show Option.bind (i12 (q + 1) (aD 8) 8 0 0 zv 8 0 0 zv (a.map inD) [] (b.map inD) []) _ = _
  have := join8_loop q a b ha (by omega) (b.map inD) [] 8 0 0 zv [] kzc575d (q + 1) 0 (by omega) (by omega)
  rw [List.take_zero, List.append_nil, List.take_of_length_le ha] at this
  rw [i12, i12_j0, List.length_map]
  show Option.bind (i12_l1 q (q + 1) _ _ ((0 : Nat) : Int) _ _ _ _ _ _ _ _ _) _ = _
  rw [this]
  rfl
theorem join9_loop {m : Nat} (hm : 3006 ≤ m) (A : Int → Prop) (b : List Int) (hb : b.length ≤ 1024) (hs : b.Pairwise (· < ·)) (hA : ∀ x ∈ b, ¬ A x) (x3 x4 : List Dt) (x5 : Dt) (x6 x7 x8 : Int) (x9 : Dt) (x11 : List Dt) (x12 : Dt) (n : Nat) : ∀ (M i : Nat) (l : List Int), i ≤ b.length → b.length - i < M → Lst l (fun x => A x ∨ x ∈ b.take i) → l.length = min (n + i) 1024 →
    ∃ l', i13_l1 m M (b.map inD) (b.length : Int) (i : Int) x3 x4 x5 x6 x7 x8 x9 (l.map inD) x11 x12 = some (.agg [.int x6, .int x7, .int x8, x9, .lst (l'.map inD), .lst x11], x3, x4) ∧ Lst l' (fun x => A x ∨ x ∈ b) ∧ l'.length = min (n + b.length) 1024
  | 0, i, _, _, h, _, _ => by omega
  | M + 1, i, l, hi, h, hL, hc => by
    obtain ⟨q, rfl⟩ : ∃ q, m = q + 1 := ⟨m - 1, by omega⟩
    rw [i13_l1, dlt]
    by_cases hlt : i < b.length
    · obtain ⟨p, h1, h2⟩ := ins14 (m := q) x5 l b[i] hL.srt hL.len (by omega)
      obtain ⟨h3, h4⟩ := hL.ins h1
      have hnew : ¬ (A b[i] ∨ b[i] ∈ b.take i) := by
        rintro (hm2 | hm2)
        · exact hA _ (List.getElem_mem hlt) hm2
        · obtain ⟨j, hj, e⟩ := List.getElem_of_mem hm2
          rw [List.getElem_take] at e
          have := List.pairwise_iff_getElem.1 hs j i (by simp at hj; omega) hlt (by simp at hj; omega)
          omega
      obtain ⟨l', r1, r2, r3⟩ := join9_loop hm A b hb hs hA x3 x4 x5 x6 x7 x8 x9 x11 x12 n M (i + 1) (insT l b[i] p) (by omega) (by omega) (h3.congr fun x => by
        rw [List.take_succ_eq_append_getElem hlt, List.mem_append, List.mem_singleton, or_assoc]) (by rw [h4 hnew]; omega)
      refine ⟨l', ?_, r2, r3⟩
      rw [decide_eq_true hlt, cond_true, i13_j2, idx_lt (by simpa using hlt), Option.bind_some, getL hlt, h2, Option.bind_some, i13_j3, wrapS (by omega)]
      exact r1
    · have e : i = b.length := by omega
      subst e
      rw [List.take_of_length_le (Nat.le_refl _)] at hL
      exact ⟨l, by rw [decide_eq_false hlt, cond_false]; rfl, hL, hc⟩
theorem Lst.join {l b : List Int} {A B : Int → Prop} (h1 : Lst l (fun x => A x ∨ x ∈ b)) (h2 : Lst b B) (hl : b.length = 1024 → l.length = 1024) : Lst l (fun x => A x ∨ B x) := by
  have ord : ∀ i (h : i < l.length) (h' : i < b.length), l[i] ≤ b[i] := by
    intro i
    induction i with
    | zero =>
      intro h h'
      rcases h1.out b[0] (.inr (List.getElem_mem h')) with h3 | ⟨_, h3⟩
      · obtain ⟨j, hj, e⟩ := List.getElem_of_mem h3
        rcases Nat.eq_zero_or_pos j with h4 | h4
        · subst h4; omega
        · have := List.pairwise_iff_getElem.1 h1.srt 0 j h hj h4
          omega
      · have := h3 _ (List.getElem_mem h)
        omega
    | succ i ih =>
      intro h h'
      have h5 := ih (by omega) (by omega)
      have h6 := List.pairwise_iff_getElem.1 h2.srt i (i + 1) (by omega) h' (by omega)
      rcases h1.out b[i + 1] (.inr (List.getElem_mem h')) with h3 | ⟨_, h3⟩
      · obtain ⟨j, hj, e⟩ := List.getElem_of_mem h3
        rcases Nat.lt_trichotomy j (i + 1) with h4 | h4 | h4
        · have h7 : l[j] ≤ l[i] := by
            rcases Nat.lt_or_eq_of_le (show j ≤ i by omega) with h8 | h8
            · have := List.pairwise_iff_getElem.1 h1.srt j i hj (by omega) h8
              omega
            · subst h8; exact Int.le_refl _
          omega
        · subst h4; omega
        · have := List.pairwise_iff_getElem.1 h1.srt (i + 1) j h hj h4
          omega
      · have := h3 _ (List.getElem_mem h)
        omega
  refine ⟨h1.srt, fun x hx => ?_, fun x hx => ?_, h1.len⟩
  · rcases h1.sub x hx with h3 | h3
    · exact .inl h3
    · exact .inr (h2.sub x h3)
  · rcases hx with hx | hx
    · exact h1.out x (.inl hx)
    · rcases h2.out x hx with h3 | ⟨h3, h4⟩
      · exact h1.out x (.inr h3)
      · have h5 := hl h3
        refine .inr ⟨h5, fun y hy => ?_⟩
        obtain ⟨j, hj, e⟩ := List.getElem_of_mem hy
        have h6 := ord j hj (by omega)
        have h7 := h4 _ (List.getElem_mem (show j < b.length by omega))
        omega
theorem join9 {m : Nat} (hm : 4012 ≤ m) (a b : List Int) (A B : Int → Prop) (ha : Lst a A) (hb : Lst b B) (hd : ∀ x, B x → ¬ A x) : ∃ l, accum_Join (m + 1) (aD 9) (pL 9 a) (pL 9 b) = some (pL 9 l) ∧ Lst l (fun x => A x ∨ B x) ∧ l.length = min (a.length + b.length) 1024 := by
  have hal := ha.len
  have hbl := hb.len
  obtain ⟨q, rfl⟩ : ∃ q, m = q + 1 := ⟨m - 1, by omega⟩
  obtain ⟨l, h1, h2, h3⟩ := join9_loop (m := q) (by omega) A b hb.len hb.srt (fun x hx => hd x (hb.sub x hx)) (b.map inD) [] (.agg []) 9 0 0 zv [] kzc575d a.length (q + 1) 0 a (by omega) (by omega) (ha.congr fun x => by simp) (by omega)
  refine ⟨l, ?_, h2.join hb (fun e => by omega), h3⟩
  rw [accum_Join, copy_pL 9 a (by omega) (by omega), Option.bind_some]
  show Option.bind (accum_copyPart (q + 1) (pL 9 b)) _ = _
  rw [copy_pL 9 b (by omega) (by omega), Option.bind_some]
  show Option.bind (i13 (q + 1) (aD 9) 9 0 0 zv 9 0 0 zv (a.map inD) [] (b.map inD) []) _ = _
  rw [i13, i13_j0, List.length_map]
  show Option.bind (i13_l1 q (q + 1) _ _ ((0 : Nat) : Int) _ _ _ _ _ _ _ _ _ _) _ = _
  rw [h1]
  rfl
end Go.Proofs.YtacpcknpliomoaaGreat
