/- Small sort orders and documents; the laws on keys and on comparing, in plain Lean. -/
import Derived.Test.YtacchdeihafmnaaDoorMOKey
import Derived.Test.YtacchdeihafmnaaDoorMTot
import Derived.Test.YtacchdeihafmnaaDoorMSame03
set_option linter.unusedVariables false
set_option linter.unusedSimpArgs false
namespace Go.Proofs.YtacchdeihafmnaaDoor
open Go.Am
theorem small_l7 (m : Nat) (hm : 3000000 ≤ m) (hm2 : m < 900000000000) (D : List Dt) (hl : D.length ≤ 40) (hD : ∀ d ∈ D, WV d ∧ d.bulk ≤ 1048576) : ∀ (M i : Nat), i ≤ D.length → D.length - i < M →
    ∃ b, law12_Small_l7 (m + 1) M D (D.length : Int) (i : Int) = some b ∧ (b = true → ∀ d ∈ D.drop i, DocOK d)
  | 0, i, _, h => by omega
  | M + 1, i, hi, h => by
    simp only [law12_Small_l7, dlt]
    by_cases hlt : i < D.length
    · have hd := hD _ (List.getElem_mem hlt)
      obtain ⟨b, h1, h2⟩ := rvalid_tot D[i] hd.1 hd.2 m hm hm2
      obtain ⟨b', g1, g2⟩ := small_l7 m hm hm2 D hl hD M (i + 1) (by omega) (by omega)
      simp only [hlt, decide_true, cond_true, law12_Small_j8, law12_Small_j9, idx_lt hlt, Option.bind_some, h1, wrapS (show i < 9223372036854775807 by omega)]
      cases b
      · exact ⟨false, rfl, fun h => by cases h⟩
      · refine ⟨b', g1, fun hb d hd' => ?_⟩
        rw [List.drop_eq_getElem_cons hlt] at hd'
        rcases List.mem_cons.1 hd' with rfl | hd'
        · exact ⟨hd.1, hd.2, h2 rfl⟩
        · exact g2 hb d hd'
    · have : i = D.length := by omega
      subst this
      exact ⟨true, by simp [law12_Small_j10], fun _ d hd => by simp at hd⟩
theorem small_l2 (m : Nat) (hm : 3000000 ≤ m) (hm2 : m < 900000000000) (l D : List Dt) (hl8 : l.length ≤ 8) (hl : D.length ≤ 40) (hD : ∀ d ∈ D, WV d ∧ d.bulk ≤ 1048576) : ∀ (M i : Nat), i ≤ l.length → l.length - i < M →
    ∃ b, law12_Small_l2 (m + 1) M l D (l.length : Int) (i : Int) = some b ∧ (b = true → ∀ d ∈ D, DocOK d)
  | 0, i, _, h => by omega
  | M + 1, i, hi, h => by
    simp only [law12_Small_l2, dlt]
    by_cases hlt : i < l.length
    · simp only [hlt, decide_true, cond_true, law12_Small_j3, law12_Small_j4, idx_lt hlt, Option.bind_some, wrapS (show i < 9223372036854775807 by omega)]
      cases decide ((16 : Int) < (((Dt.L l[i] 0).length : Nat) : Int))
      · exact small_l2 m hm hm2 l D hl8 hl hD M (i + 1) (by omega) (by omega)
      · exact ⟨false, rfl, fun h => by cases h⟩
    · obtain ⟨b, h1, h2⟩ := small_l7 m hm hm2 D hl hD (m + 2) 0 (Nat.zero_le _) (by omega)
      refine ⟨b, ?_, fun hb d hd => h2 hb d (by simpa using hd)⟩
      simp only [hlt, decide_false, cond_false, law12_Small_j5, law12_Small_j6]
      exact h1
theorem small_eq (m : Nat) (hm : 3000000 ≤ m) (hm2 : m < 900000000000) (l D : List Dt) (hD : ∀ d ∈ D, WV d ∧ d.bulk ≤ 1048576) : ∃ b, law12_Small (m + 2) l D = some b ∧ (b = true → l.length ≤ 8 ∧ D.length ≤ 40 ∧ ∀ d ∈ D, DocOK d) := by
  simp only [law12_Small]
  by_cases h1 : 8 < l.length
  · have e : decide ((8 : Int) < ((l.length : Nat) : Int)) = true := by simp; omega
    simp only [e, cond_true]
    exact ⟨false, rfl, fun h => by cases h⟩
  · have e : decide ((8 : Int) < ((l.length : Nat) : Int)) = false := by simp; omega
    simp only [e, cond_false]
    by_cases h2 : 40 < D.length
    · have e : decide ((40 : Int) < ((D.length : Nat) : Int)) = true := by simp; omega
      simp only [e, cond_true]
      exact ⟨false, rfl, fun h => by cases h⟩
    · have e : decide ((40 : Int) < ((D.length : Nat) : Int)) = false := by simp; omega
      simp only [e, cond_false]
      obtain ⟨b, g1, g2⟩ := small_l2 m hm hm2 l D (by omega) (by omega) hD (m + 2) 0 (Nat.zero_le _) (by omega)
      exact ⟨b, g1, fun hb => ⟨by omega, by omega, g2 hb⟩⟩
def FU : Nat := 400000000000
theorem law_okeys (l : List Dt) (a b : Dt) (ha : WV a ∧ a.bulk ≤ 1048576) (hb : WV b ∧ b.bulk ≤ 1048576) : law12_OrderKeys (400000000000 + 1) l a b = some true := by
  obtain ⟨s, h1, h2⟩ := small_eq 399999999998 (by omega) (by omega) l [a, b] (by simp; exact ⟨ha, hb⟩)
  simp only [law12_OrderKeys, show (400000000000 : Nat) = 399999999998 + 2 from rfl, h1, Option.bind_some]
  cases s
  · simp only [Bool.not_false, cond_true, awakeC, Option.bind_some]
  · obtain ⟨h3, _, h5⟩ := h2 rfl
    have da := h5 a (by simp)
    have db := h5 b (by simp)
    have k1 : order_Keys 400000000000 l a = some (keysD l a) := okeys_eq 399999999997 (by omega) l a da (by omega)
    have k2 : ref12_Keys 400000000000 l a = some (keysD l a) := rkeys_eq 399999999996 (by omega) (by omega) l a da (by omega)
    have k3 : order_Compare 400000000000 l a b = some (cmpO l a b) := oCompare_eq 399999999996 (by omega) l a b da db (by omega)
    have k4 : ref12_Compare 400000000000 l a b = some (cmpO l a b) := rCompare_eq 399999999996 (by omega) (by omega) l a b da db (by omega)
    have k5 : law03_SameList 400000000000 (keysD l a) (keysD l a) = some true := s03_list 399999999999 _ (by simp [keysD]; omega) (by simp [keysD]; omega) fun e he => by
      obtain ⟨o, _, rfl⟩ := List.mem_map.1 he
      have := (keyD_wv da o).2
      exact s03_refl 68719476736 _ this (by omega) 399999999998 (by omega)
    simp only [Bool.not_true, cond_false, law12_OrderKeys_j0, show (399999999998 + 2 : Nat) = 400000000000 from rfl, k1, k2, k3, k4, k5, Option.bind_some, cond_true, beq_self_eq_true, awakeC]
theorem law_ototal (l : List Dt) (a b c : Dt) (ha : WV a ∧ a.bulk ≤ 1048576) (hb : WV b ∧ b.bulk ≤ 1048576) (hc : WV c ∧ c.bulk ≤ 1048576) : law12_OrderTotal (400000000000 + 1) l a b c = some true := by
  obtain ⟨s, h1, h2⟩ := small_eq 399999999998 (by omega) (by omega) l [a, b, c] (by simp; exact ⟨ha, hb, hc⟩)
  simp only [law12_OrderTotal, show (400000000000 : Nat) = 399999999998 + 2 from rfl, h1, Option.bind_some]
  cases s
  · simp only [Bool.not_false, cond_true, awakeC, Option.bind_some]
  · obtain ⟨h3, _, h5⟩ := h2 rfl
    have da := h5 a (by simp)
    have db := h5 b (by simp)
    have dc := h5 c (by simp)
    have cm : ∀ x y, DocOK x → DocOK y → order_Compare 400000000000 l x y = some (cmpO l x y) := fun x y hx hy => oCompare_eq 399999999996 (by omega) l x y hx hy (by omega)
    have T := tpoO l
    have r1 := T.rng a b
    have r2 := T.rng b c
    have r3 := T.rng a c
    have an := T.anti a b
    have rf := T.refl a
    have t1 := T.tr a b c
    have t2 := fun h1 h2 => T.ltl (a := a) (b := b) (d := c) h1 h2
    have w : ∀ x y, IntKind.wrap IntKind.i64 (0 - cmpO l x y) = - cmpO l x y := fun x y => by
      have := T.rng x y
      rw [wrap64 (by omega) (by omega)]; omega
    simp only [Bool.not_true, cond_false, law12_OrderTotal_j0, law12_OrderTotal_j1, show (399999999998 + 2 : Nat) = 400000000000 from rfl, cm a b da db, cm b c db dc, cm a c da dc, cm b a db da, cm a a da da, Option.bind_some, w, an, rf, awakeC]
    generalize cmpO l a b = x at *
    generalize cmpO l b c = y at *
    generalize cmpO l a c = z at *
    rcases r1 with rfl | rfl | rfl <;> rcases r2 with rfl | rfl | rfl <;> rcases r3 with rfl | rfl | rfl <;> first | rfl | (exfalso; omega)
theorem okeys_fx {ds : List Dt} (h : HasTys Tryd.prog Tryd.f5.params.toList ds) (hb : Dt.bulkL ds ≤ 1048576) : FX Tryd.prog 5 (dats Tryd.f5.params.toList ds) [] (.dat 4 (.bool true)) [] := by
  have h' : HasTys Tryd.prog [22, 30, 30] ds := h
  cases h' with
  | @cons _ l _ _ h1 r => cases r with
    | @cons _ a _ _ h2 r => cases r with
      | @cons _ b _ _ h3 r =>
        cases r
        simp only [Dt.bulkL] at hb
        rw [(ty_lst Tryd.underlying22 h1).1]
        exact law12_OrderKeys_fx 400000000000 (ct_ok 400000000000) _ _ _ (law_okeys _ a b ⟨wv_of h2, by omega⟩ ⟨wv_of h3, by omega⟩)
theorem ototal_fx {ds : List Dt} (h : HasTys Tryd.prog Tryd.f7.params.toList ds) (hb : Dt.bulkL ds ≤ 1048576) : FX Tryd.prog 7 (dats Tryd.f7.params.toList ds) [] (.dat 4 (.bool true)) [] := by
  have h' : HasTys Tryd.prog [22, 30, 30, 30] ds := h
  cases h' with
  | @cons _ l _ _ h1 r => cases r with
    | @cons _ a _ _ h2 r => cases r with
      | @cons _ b _ _ h3 r => cases r with
        | @cons _ c _ _ h4 r =>
          cases r
          simp only [Dt.bulkL] at hb
          rw [(ty_lst Tryd.underlying22 h1).1]
          exact law12_OrderTotal_fx 400000000000 (ct_ok 400000000000) _ _ _ _ (law_ototal _ a b c ⟨wv_of h2, by omega⟩ ⟨wv_of h3, by omega⟩ ⟨wv_of h4, by omega⟩)
end Go.Proofs.YtacchdeihafmnaaDoor
