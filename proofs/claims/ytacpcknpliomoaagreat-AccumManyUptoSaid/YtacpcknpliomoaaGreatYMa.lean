/- Accumulators of many numbers: copies, searching and inserting. -/
import Derived.Test.YtacpcknpliomoaaGreatUA
import Derived.Test.YtacpcknpliomoaaGreatOMc
set_option linter.unusedVariables false
set_option linter.unusedSimpArgs false
namespace Go.Proofs.YtacpcknpliomoaaGreat
open Go.Am
def emq : ByteArray := ByteArray.mk (List.toArray [])
def zv : Dt := .agg [.int 0, .int 0, .str emq, .lst [], .lst []]
/-- A state that lists numbers. -/
def pL (op : Int) (ks : List Int) : Dt := .agg [.int op, .int 0, .int 0, zv, .lst (ks.map inD), .lst []]
def aD (op : Int) : Dt := .agg [.str emq, .int op, exA, .lst [], .int 0]
theorem wv_in (n : Int) : WV (inD n) := .mk (by simp) (by simp)
theorem wv_zv : WV zv := .mk (by simp) (by simp)
theorem copy_in {m : Nat} (hm : 6 ≤ m) (n : Int) : accum_copyValue (m + 1) (inD n) = some (inD n) := acopy_eq 6 (inD n) (Nat.le_refl _) (by omega) (wv_in n) m hm
theorem copy_zv {m : Nat} (hm : 6 ≤ m) : accum_copyValue (m + 1) zv = some zv := acopy_eq 6 zv (Nat.le_refl _) (by omega) wv_zv m hm
theorem copy_ks {m : Nat} (ks : List Int) (h : ks.length ≤ 3000) (hm : 4000 ≤ m) : accum_copyList (m + 1) (ks.map inD) = some (ks.map inD) :=
  acopy_list 0 _ (by simp; omega) m (by simp; omega) fun e he => by
    obtain ⟨k, _, rfl⟩ := List.mem_map.1 he
    obtain ⟨q, rfl⟩ : ∃ q, m = q + 1 := ⟨m - 1, by omega⟩
    exact copy_in (by omega) k
theorem copy_pL {m : Nat} (op : Int) (ks : List Int) (h : ks.length ≤ 3000) (hm : 4001 ≤ m) : accum_copyPart (m + 1) (pL op ks) = some (op, 0, 0, zv, ks.map inD, []) := by
  obtain ⟨q, rfl⟩ : ∃ q, m = q + 1 := ⟨m - 1, by omega⟩
  rw [accum_copyPart]
  show Option.bind (accum_copyValue (q + 1) zv) _ = _
  rw [copy_zv (by omega), Option.bind_some]
  show Option.bind (accum_copyList (q + 1) (ks.map inD)) _ = _
  rw [copy_ks ks h (by omega), Option.bind_some]
  show Option.bind (accum_copyList (q + 1) []) _ = _
  rw [accum_copyList]
  rfl
def cmpI (k a : Int) : Int := if k < a then -1 else if a < k then 1 else 0
theorem cmpC_eq (m : Nat) (k a : Int) : cmp_Compare (m + 2) k a = some (cmpI k a) := by
  simp only [cmp_Compare, cmp_isNaN, bne_self_eq_false, Option.bind_some, cond_false, cmp_Compare_j1, cmp_Compare_j2, cmp_Compare_j3, cmp_Compare_j4]
  unfold cmpI
  by_cases h1 : k < a
  · rw [if_pos h1, decide_eq_true h1]; rfl
  · rw [if_neg h1, decide_eq_false h1, cond_false]
    by_cases h2 : a < k
    · rw [if_pos h2, decide_eq_true h2]; rfl
    · rw [if_neg h2, decide_eq_false h2]; rfl
theorem vcmp_eq (m : Nat) (k a : Int) : value_Compare (m + 3) (inD k) (inD a) = some (cmpI k a) := by
  show Option.bind (cmp_Compare (m + 2) k a) _ = _
  rw [cmpC_eq]
  rfl
theorem wrY {a : Int} {n : Nat} (h1 : a = n) (h2 : n < 9223372036854775807) : IntKind.wrap .i64 a = (n : Int) := by rw [h1, wrap64 (by omega) (by omega)]
theorem half {i j : Nat} (h : i + j < 4611686018427387904) : IntKind.wrap IntKind.i64 (shrI IntKind.u64 (IntKind.wrap IntKind.u64 (IntKind.wrap IntKind.i64 ((i : Int) + (j : Int)))) 1) = (((i + j) / 2 : Nat) : Int) := by
  have e1 : IntKind.wrap IntKind.i64 ((i : Int) + (j : Int)) = ((i + j : Nat) : Int) := wrY (by omega) (by omega)
  have e2 : IntKind.wrap IntKind.u64 ((i + j : Nat) : Int) = ((i + j : Nat) : Int) := by
    unfold IntKind.wrap
    simp only [IntKind.bits, IntKind.signed, Bool.false_and, Bool.false_eq_true, if_false]
    omega
  have e3 : shrI IntKind.u64 ((i + j : Nat) : Int) 1 = (((i + j) / 2 : Nat) : Int) := by
    show Int.fdiv ((i + j : Nat) : Int) 2 = _
    rw [Int.fdiv_eq_ediv_of_nonneg _ (by omega)]
    omega
  rw [e1, e2, e3]
  exact wrY rfl (by omega)
/-- Where a number stands in an ascending list. -/
structure At (ks : List Int) (k : Int) (p : Nat) : Prop where
  le : p ≤ ks.length
  lo : ∀ (j : Nat) (h : j < ks.length), j < p → ks[j] < k
  hi : ∀ (j : Nat) (h : j < ks.length), p ≤ j → k ≤ ks[j]
theorem getL {ks : List Int} {j : Nat} (h : j < ks.length) : (ks.map inD)[j]'(by simpa using h) = inD ks[j] := by simp
theorem bs_loop {m : Nat} (ks : List Int) (k : Int) (hs : ks.Pairwise (· < ·)) (hn : ks.length ≤ 3000) (hm : 3 ≤ m) : ∀ (M lo hi : Nat), lo ≤ hi → hi ≤ ks.length → hi - lo < M → (∀ (j : Nat) (h : j < ks.length), j < lo → ks[j] < k) → (∀ (j : Nat) (h : j < ks.length), hi ≤ j → k ≤ ks[j]) →
    ∃ p : Nat, At ks k p ∧ i15_l1 m M (ks.map inD) (ks.length : Int) (lo : Int) (hi : Int) (inD k) = some ((p : Int), decide (ks[p]? = some k))
  | 0, lo, hi, _, _, h, _, _ => by omega
  | M + 1, lo, hi, hl, hh, hM, h1, h2 => by
    obtain ⟨q, rfl⟩ : ∃ q, m = q + 3 := ⟨m - 3, by omega⟩
    simp only [i15_l1, dlt]
    by_cases hlt : lo < hi
    · have hmid : (lo + hi) / 2 < ks.length := by omega
      rw [decide_eq_true hlt, cond_true, i15_j2, half (by omega), idx_lt (by simpa using hmid), Option.bind_some, getL hmid, vcmp_eq, Option.bind_some]
      by_cases hc : ks[(lo + hi) / 2] < k
      · rw [show decide (cmpI ks[(lo + hi) / 2] k < 0) = true by unfold cmpI; rw [if_pos hc]; rfl, cond_true, wrapS (by omega)]
        exact bs_loop ks k hs hn hm M _ hi (by omega) hh (by omega) (fun j h hj => by
          rcases Nat.lt_or_ge j ((lo + hi) / 2) with h3 | h3
          · exact Int.lt_trans (List.pairwise_iff_getElem.1 hs j _ h hmid h3) hc
          · have e : j = (lo + hi) / 2 := by omega
            subst e; exact hc) h2
      · rw [show decide (cmpI ks[(lo + hi) / 2] k < 0) = false by unfold cmpI; rw [if_neg hc]; split <;> rfl, cond_false]
        exact bs_loop ks k hs hn hm M lo _ (by omega) (by omega) (by omega) h1 (fun j h hj => by
          rcases Nat.lt_or_ge ((lo + hi) / 2) j with h3 | h3
          · have := List.pairwise_iff_getElem.1 hs _ j hmid h h3
            omega
          · have e : j = (lo + hi) / 2 := by omega
            subst e; omega)
    · have e : lo = hi := by omega
      subst e
      refine ⟨lo, ⟨hh, h1, h2⟩, ?_⟩
      rw [decide_eq_false hlt, cond_false, i15_j3, dlt]
      by_cases hl2 : lo < ks.length
      · rw [decide_eq_true hl2, cond_true, idx_lt (by simpa using hl2), Option.bind_some, getL hl2, vcmp_eq, Option.bind_some, List.getElem?_eq_getElem hl2]
        have h4 := h2 lo hl2 (Nat.le_refl _)
        congr 2
        unfold cmpI
        rw [if_neg (by omega)]
        by_cases h5 : k < ks[lo]
        · rw [if_pos h5]
          symm
          rw [show ((1 : Int) == 0) = false from rfl]
          simp; omega
        · rw [if_neg h5]
          have e : ks[lo] = k := by omega
          rw [e]
          simp
      · rw [decide_eq_false hl2, cond_false, List.getElem?_eq_none (by omega)]
        rfl
theorem bs_eq {m : Nat} (ks : List Int) (k : Int) (hs : ks.Pairwise (· < ·)) (hn : ks.length ≤ 3000) (hm : 3003 ≤ m) : ∃ p : Nat, At ks k p ∧ i15 (m + 1) (ks.map inD) (inD k) = some ((p : Int), decide (ks[p]? = some k)) := by
  obtain ⟨p, h1, h2⟩ := bs_loop (m := m) ks k hs hn (by omega) (m + 1) 0 ks.length (by omega) (Nat.le_refl _) (by omega) (fun j _ hj => by omega) (fun j h hj => by omega)
  refine ⟨p, h1, ?_⟩
  rw [i15]
  simp only [List.length_map]
  exact h2
/-- A number put into an ascending list of at most 1024. -/
def insT (ks : List Int) (k : Int) (p : Nat) : List Int := if ks[p]? = some k then ks else if p < 1024 then (ks.take p ++ [k] ++ ks.drop p).take 1024 else ks
theorem ins_core (ks : List Int) (k : Int) (p : Nat) (hp : p ≤ ks.length) (hn : ks.length ≤ 1024) : slices_Insert (p : Int) (ks.map inD) [inD k] = some ((ks.take p ++ [k] ++ ks.drop p).map inD) := by
  unfold slices_Insert
  rw [decide_eq_true (by omega), decide_eq_true (by simp; omega), show Nat.beq [inD k].length 1 = true from rfl, Nat.ble_eq_true_of_le (show (ks.map inD).length ≤ 1000000 by simp; omega)]
  simp
theorem cut_core (l : List Int) (hl : l.length < 9223372036854775807) : cutL (l.map inD) 0 (bif decide ((1024 : Int) < ((l.map inD).length : Int)) then 1024 else ((l.map inD).length : Int)) = some ((l.take 1024).map inD) := by
  rw [List.length_map]
  by_cases h : 1024 < l.length
  · rw [decide_eq_true (by omega), cond_true]
    have := cutL_zero (l := l.map inD) (j := 1024) (by simp; omega)
    rw [← List.map_take] at this
    exact this
  · rw [decide_eq_false (by omega), cond_false, cutL_zero (by simp), ← List.map_take, List.take_of_length_le (Nat.le_refl _), List.take_of_length_le (by omega)]
theorem i14_p0 (m : Nat) (ks : List Int) (k : Int) (p : Nat) (hp : p ≤ ks.length) (hn : ks.length ≤ 1024) (h : ks[p]? ≠ some k) : i14_j0 m (p : Int) (decide ((p : Int) < 1024)) (ks.map inD) (inD k) = some ((insT ks k p).map inD) := by
  unfold insT
  rw [if_neg h, i14_j0]
  by_cases h1 : p < 1024
  · rw [if_pos h1, decide_eq_true (by omega), cond_true, ins_core ks k p hp hn, Option.bind_some, cut_core _ (by simp; omega)]
    rfl
  · rw [if_neg h1, decide_eq_false (by omega)]
    rfl
theorem i22_p0 (m : Nat) (ks : List Int) (k : Int) (p : Nat) (hp : p ≤ ks.length) (hn : ks.length ≤ 1024) (h : ks[p]? ≠ some k) : i22_j0 m (p : Int) (decide ((p : Int) < 1024)) (ks.map inD) (inD k) = some ((insT ks k p).map inD) := by
  unfold insT
  rw [if_neg h, i22_j0]
  by_cases h1 : p < 1024
  · rw [if_pos h1, decide_eq_true (by omega), cond_true, ins_core ks k p hp hn, Option.bind_some, cut_core _ (by simp; omega)]
    rfl
  · rw [if_neg h1, decide_eq_false (by omega)]
    rfl
theorem ins14 {m : Nat} (d : Dt) (ks : List Int) (k : Int) (hs : ks.Pairwise (· < ·)) (hn : ks.length ≤ 1024) (hm : 3004 ≤ m) : ∃ p, At ks k p ∧ i14 (m + 1) d (inD k) (ks.map inD) = some ((insT ks k p).map inD) := by
  obtain ⟨q, rfl⟩ : ∃ q, m = q + 1 := ⟨m - 1, by omega⟩
  obtain ⟨p, h1, h2⟩ := bs_eq (m := q) ks k hs (by omega) (by omega)
  refine ⟨p, h1, ?_⟩
  rw [i14, h2, Option.bind_some]
  by_cases h : ks[p]? = some k
  · simp only [h, decide_true, Bool.not_true, cond_false]
    unfold insT
    rw [if_pos h]
    rfl
  · simp only [h, decide_false, Bool.not_false, cond_true]
    exact i14_p0 _ ks k p h1.le hn h
theorem ins22 {m : Nat} (ks : List Int) (k : Int) (hs : ks.Pairwise (· < ·)) (hn : ks.length ≤ 1024) (hm : 3004 ≤ m) : ∃ p, At ks k p ∧ i22 (m + 1) (inD k) (ks.map inD) = some ((insT ks k p).map inD) := by
  obtain ⟨q, rfl⟩ : ∃ q, m = q + 1 := ⟨m - 1, by omega⟩
  obtain ⟨p, h1, h2⟩ := bs_eq (m := q) ks k hs (by omega) (by omega)
  refine ⟨p, h1, ?_⟩
  rw [i22, h2, Option.bind_some]
  by_cases h : ks[p]? = some k
  · simp only [h, decide_true, Bool.not_true, cond_false]
    unfold insT
    rw [if_pos h]
    rfl
  · simp only [h, decide_false, Bool.not_false, cond_true]
    exact i22_p0 _ ks k p h1.le hn h
/-- The least numbers of a set, 1024 at most. -/
structure Lst (l : List Int) (X : Int → Prop) : Prop where
  srt : l.Pairwise (· < ·)
  sub : ∀ x ∈ l, X x
  out : ∀ x, X x → x ∈ l ∨ (l.length = 1024 ∧ ∀ y ∈ l, y < x)
  len : l.length ≤ 1024
theorem Lst.nil {X : Int → Prop} (h : ∀ x, ¬ X x) : Lst [] X := ⟨.nil, by simp, fun x hx => absurd hx (h x), by simp⟩
theorem Lst.congr {l : List Int} {X Y : Int → Prop} (h : Lst l X) (e : ∀ x, X x ↔ Y x) : Lst l Y := ⟨h.srt, fun x hx => (e x).1 (h.sub x hx), fun x hx => h.out x ((e x).2 hx), h.len⟩
theorem Lst.ins {l : List Int} {X : Int → Prop} {k : Int} {p : Nat} (h : Lst l X) (a : At l k p) : Lst (insT l k p) (fun x => X x ∨ x = k) ∧ (¬ X k → (insT l k p).length = min (l.length + 1) 1024) := by
  have hlen := h.len
  have hple := a.le
  unfold insT
  by_cases h1 : l[p]? = some k
  · rw [if_pos h1]
    have hk : k ∈ l := List.mem_of_getElem? h1
    refine ⟨⟨h.srt, fun x hx => .inl (h.sub x hx), fun x hx => ?_, h.len⟩, fun hn => absurd (h.sub k hk) hn⟩
    rcases hx with hx | rfl
    · exact h.out x hx
    · exact .inl hk
  · rw [if_neg h1]
    have hne : ∀ j (hj : j < l.length), p ≤ j → k < l[j] := fun j hj hpj => by
      have h2 := a.hi j hj hpj
      rcases Int.lt_or_eq_of_le h2 with h3 | h3
      · exact h3
      · rcases Nat.lt_or_eq_of_le hpj with h4 | h4
        · have h5 := a.hi p (by omega) (Nat.le_refl _)
          have h6 := List.pairwise_iff_getElem.1 h.srt p j (by omega) hj h4
          omega
        · subst h4
          exact absurd (by rw [List.getElem?_eq_getElem hj, h3]) h1
    by_cases h2 : p < 1024
    · rw [if_pos h2]
      obtain ⟨L, hL⟩ : ∃ L, L = l.take p ++ [k] ++ l.drop p := ⟨_, rfl⟩
      rw [← hL]
      have hLl : L.length = l.length + 1 := by rw [hL]; simp; omega
      have hmem : ∀ x, x ∈ L ↔ x ∈ l ∨ x = k := fun x => by
        rw [hL, List.append_assoc, List.mem_append, List.mem_append, List.mem_singleton]
        constructor
        · rintro (h3 | h3 | h3)
          · exact .inl (List.mem_of_mem_take h3)
          · exact .inr h3
          · exact .inl (List.mem_of_mem_drop h3)
        · rintro (h3 | h3)
          · rw [← List.take_append_drop p l, List.mem_append] at h3
            rcases h3 with h3 | h3
            · exact .inl h3
            · exact .inr (.inr h3)
          · exact .inr (.inl h3)
      have hlow : ∀ x ∈ l.take p, x < k := fun x hx => by
        obtain ⟨j, hj, e⟩ := List.getElem_of_mem hx
        rw [List.getElem_take] at e
        rw [← e]
        exact a.lo j (by simp at hj; omega) (by simp at hj; omega)
      have hhigh : ∀ x ∈ l.drop p, k < x := fun x hx => by
        obtain ⟨j, hj, e⟩ := List.getElem_of_mem hx
        rw [List.getElem_drop] at e
        rw [← e]
        exact hne (p + j) (by simp at hj; omega) (by omega)
      have hS : L.Pairwise (· < ·) := by
        rw [hL, List.append_assoc, List.pairwise_append]
        refine ⟨h.srt.sublist (List.take_sublist _ _), ?_, fun x hx y hy => ?_⟩
        · rw [List.singleton_append, List.pairwise_cons]
          exact ⟨hhigh, h.srt.sublist (List.drop_sublist _ _)⟩
        · rw [List.singleton_append, List.mem_cons] at hy
          rcases hy with rfl | hy
          · exact hlow x hx
          · exact Int.lt_trans (hlow x hx) (hhigh y hy)
      refine ⟨⟨hS.sublist (List.take_sublist _ _), fun x hx => ?_, fun x hx => ?_, by simp; omega⟩, fun _ => by rw [List.length_take, hLl]; omega⟩
      · rcases (hmem x).1 (List.mem_of_mem_take hx) with h3 | h3
        · exact .inl (h.sub x h3)
        · exact .inr h3
      · by_cases hxl : x ∈ L
        · have h3 := hxl
          rw [← List.take_append_drop 1024 L, List.mem_append] at h3
          rcases h3 with h3 | h3
          · exact .inl h3
          · right
            have h4 : 1024 < L.length := by
              rcases Nat.lt_or_ge 1024 L.length with h5 | h5
              · exact h5
              · rw [List.drop_eq_nil_of_le h5] at h3; cases h3
            refine ⟨by rw [List.length_take]; omega, fun y hy => ?_⟩
            rw [← List.take_append_drop 1024 L, List.pairwise_append] at hS
            exact hS.2.2 y hy x h3
        · right
          have hx2 : X x := by
            rcases hx with hx | hx
            · exact hx
            · exact absurd ((hmem x).2 (.inr hx)) hxl
          rcases h.out x hx2 with h3 | ⟨h3, h4⟩
          · exact absurd ((hmem x).2 (.inl h3)) hxl
          · refine ⟨by rw [List.length_take, hLl]; omega, fun y hy => ?_⟩
            rcases (hmem y).1 (List.mem_of_mem_take hy) with h5 | rfl
            · exact h4 y h5
            · exact Int.lt_trans (hne p (by omega) (Nat.le_refl _)) (h4 _ (List.getElem_mem (by omega)))
    · rw [if_neg h2]
      have hl : l.length = 1024 := by omega
      refine ⟨⟨h.srt, fun x hx => .inl (h.sub x hx), fun x hx => ?_, h.len⟩, fun _ => by omega⟩
      rcases hx with hx | rfl
      · exact h.out x hx
      · right
        refine ⟨hl, fun y hy => ?_⟩
        obtain ⟨j, hj, e⟩ := List.getElem_of_mem hy
        rw [← e]
        exact a.lo j hj (by omega)
end Go.Proofs.YtacpcknpliomoaaGreat
