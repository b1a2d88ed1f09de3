/- The law on turned sort orders, in plain Lean. -/
import Derived.Test.YtacchdeihafmnaaDoorMOLaw
set_option linter.unusedVariables false
set_option linter.unusedSimpArgs false
namespace Go.Proofs.YtacchdeihafmnaaDoor
open Go.Am
/-- A value in which a list is nowhere in its documents. -/
inductive NL : Dt → Prop where
  | mk {d : Dt} (h : Dt.I d 0 ≠ 6) (hf : ∀ f ∈ Dt.L d 4, NL (Dt.fld f 1)) : NL d
theorem lists_l1 (m : Nat) (self : Dt → Option Bool) (d : Dt) (hl : (Dt.L d 4).length < 1000000000000) (hs : ∀ f ∈ Dt.L d 4, ∃ b, self (Dt.fld f 1) = some b ∧ (b = false → NL (Dt.fld f 1))) : ∀ (M i : Nat), i ≤ (Dt.L d 4).length → (Dt.L d 4).length - i < M →
    ∃ b, law12_lists_l1 m self M ((Dt.L d 4).length : Int) (i : Int) d = some b ∧ (b = false → Dt.I d 0 ≠ 6 ∧ ∀ f ∈ (Dt.L d 4).drop i, NL (Dt.fld f 1))
  | 0, i, _, h => by omega
  | M + 1, i, hi, h => by
    simp only [law12_lists_l1, dlt]
    by_cases hlt : i < (Dt.L d 4).length
    · obtain ⟨b, h1, h2⟩ := hs _ (List.getElem_mem hlt)
      obtain ⟨b', g1, g2⟩ := lists_l1 m self d hl hs M (i + 1) (by omega) (by omega)
      simp only [hlt, decide_true, cond_true, law12_lists_j2, law12_lists_j3, idx_lt hlt, Option.bind_some, h1, wrapS (show i < 9223372036854775807 by omega)]
      cases b
      · refine ⟨b', g1, fun hb => ⟨(g2 hb).1, fun f hf => ?_⟩⟩
        rw [List.drop_eq_getElem_cons hlt] at hf
        rcases List.mem_cons.1 hf with rfl | hf
        · exact h2 rfl
        · exact (g2 hb).2 f hf
      · exact ⟨true, rfl, fun h => by cases h⟩
    · have : i = (Dt.L d 4).length := by omega
      subst this
      simp only [Nat.lt_irrefl, decide_false, cond_false, law12_lists_j4]
      exact ⟨_, rfl, fun h => ⟨by simpa using h, fun f hf => by simp at hf⟩⟩
theorem lists_eq : ∀ (N : Nat) (d : Dt), d.bulk ≤ N → N < 1000000000000 → ∀ m, N ≤ m → ∃ b, law12_lists (m + 1) d = some b ∧ (b = false → NL d)
  | 0, d, h, _, _, _ => by have := bulk_posA d; omega
  | N + 1, d, h, hN, m, hm => by
    obtain ⟨m, rfl⟩ : ∃ k, m = k + 1 := ⟨m - 1, by omega⟩
    have h4 := L_len d 4
    obtain ⟨b, h1, h2⟩ := lists_l1 (m + 1) (law12_lists (m + 1)) d (by omega) (fun f hf => lists_eq N (Dt.fld f 1) (by have := L_mem hf; have := fld_bulk f 1; omega) (by omega) m (by omega)) (m + 2) 0 (Nat.zero_le _) (by omega)
    exact ⟨b, h1, fun hb => .mk (h2 hb).1 fun f hf => (h2 hb).2 f (by simpa using hf)⟩
theorem get_nl {d : Dt} (h : NL d) {m : Nat} {s : ByteArray} {r : Dt × Bool} (e : ref01_Get m d s = some r) (hr : r.2 = true) : NL r.1 := by
  cases m with
  | zero => cases e
  | succ m =>
    simp only [ref01_Get] at e
    obtain ⟨j, _, e2⟩ := Option.bind_eq_some_iff.1 e
    cases hj : decide (j < 0)
    · rw [hj] at e2
      simp only [cond_false, ref01_Get_j0] at e2
      obtain ⟨f, h1, h2⟩ := Option.bind_eq_some_iff.1 e2
      cases h2
      cases h with
      | mk _ hf => exact hf f (idx_mem' h1)
    · rw [hj] at e2
      simp only [cond_true] at e2
      cases e2
      cases hr
where idx_mem' {l : List Dt} {i : Int} {e : Dt} (h : idx l i = some e) : e ∈ l := List.mem_of_getElem? (idx_some h).2
theorem pass_nl : ∀ (m : Nat) (d : Dt) (p r : List Dt), NL d → ref04_Pass m d p = some r → r.length ≤ 1 ∧ ∀ x ∈ r, NL x
  | 0, _, _, _, _, e => by cases e
  | m + 1, d, p, r, h, e => by
    have e : (bif ((((p.length : Nat) : Int) == 0) : Bool) then some [d] else ref04_Pass_j0 m (ref04_Pass m) p d) = some r := e
    cases h0 : (((p.length : Nat) : Int) == 0)
    · rw [h0] at e
      simp only [cond_false, ref04_Pass_j0] at e
      cases h5 : (Dt.I d 0 == 5)
      · have h6 : (Dt.I d 0 != 6) = true := by cases h with | mk h1 _ => simpa using h1
        rw [h5] at e
        simp only [cond_false, ref04_Pass_j2, h6, cond_true] at e
        cases e
        exact ⟨by simp, by simp⟩
      · rw [h5] at e
        simp only [cond_true] at e
        obtain ⟨s, _, e⟩ := Option.bind_eq_some_iff.1 e
        obtain ⟨g, h1, e⟩ := Option.bind_eq_some_iff.1 e
        cases hg : g.2
        · rw [show Prod.snd g = g.2 from rfl, hg] at e
          simp only [cond_false, ref04_Pass_j1] at e
          cases e
          exact ⟨by simp, by simp⟩
        · rw [show Prod.snd g = g.2 from rfl, hg] at e
          simp only [cond_true] at e
          obtain ⟨q, _, e⟩ := Option.bind_eq_some_iff.1 e
          obtain ⟨r', h3, e⟩ := Option.bind_eq_some_iff.1 e
          cases e
          exact pass_nl m g.1 q _ (get_nl h h1 hg) h3
    · rw [h0] at e
      simp only [cond_true] at e
      cases e
      exact ⟨by simp, by simpa using h⟩
theorem rchR_nl {d : Dt} (hd : DocOK d) (h : NL d) (p : List Dt) : ∃ v, rchR d p = [v] ∧ Dt.I v 0 ≠ 6 := by
  obtain ⟨_, _, _, _, h4⟩ := rchR_eq hd p
  have e := h4 300000000000 (by omega)
  simp only [ref04_Reach] at e
  obtain ⟨r, h1, e⟩ := Option.bind_eq_some_iff.1 e
  obtain ⟨g1, g2⟩ := pass_nl _ d p r h h1
  match r, g1, g2 with
  | [], _, _ =>
    refine ⟨zeroVal, ?_, by decide⟩
    have e' : some [zeroVal] = some (rchR d p) := e
    exact (Option.some.inj e').symm
  | [v], _, g2 =>
    refine ⟨v, ?_, ?_⟩
    · have e' : some [v] = some (rchR d p) := e
      exact (Option.some.inj e').symm
    · cases g2 v (by simp) with | mk h1 _ => exact h1
  | _ :: _ :: _, g1, _ => simp at g1
theorem keyD_nl {d : Dt} (hd : DocOK d) (h : NL d) (o o' : Dt) (e : Dt.L o 0 = Dt.L o' 0) : keyD o d = keyD o' d := by
  obtain ⟨v, h1, h2⟩ := rchR_nl hd h (Dt.L o' 0)
  have h6 : (Dt.I v 0 == 6) = false := by simpa using h2
  unfold keyD
  rw [e, h1]
  have hv : ∃ x, vals [v] = [x] := by
    unfold vals vals1
    simp only [List.flatMap_cons, List.flatMap_nil, List.append_nil, h6, Bool.false_and, cond_false]
    cases (Dt.I v 0 == 0)
    · exact ⟨v, rfl⟩
    · exact ⟨nullV, rfl⟩
  obtain ⟨x, hx⟩ := hv
  rw [hx]
  rfl
def turn1 (o : Dt) : Dt := .agg [.lst (Dt.L o 0), .bool (!(Dt.B o 1))]
def turn (l : List Dt) : List Dt := l.map turn1
theorem keys_turn {d : Dt} (hd : DocOK d) (h : NL d) (l : List Dt) : keysD (turn l) d = keysD l d := by
  unfold keysD turn
  rw [List.map_map]
  apply List.map_congr_left
  intro o _
  exact keyD_nl hd h (turn1 o) o rfl
theorem cmp_turn : ∀ (l a b : List Dt), cmpKs (turn l) a b = - cmpKs l a b
  | [], _, _ => rfl
  | o :: l, a, b => by
    have ih := cmp_turn l a.tail b.tail
    have hs : sgn (turn1 o) (cmpD (a.headD zeroVal) (b.headD zeroVal)) = - sgn o (cmpD (a.headD zeroVal) (b.headD zeroVal)) := by
      unfold sgn
      have : Dt.B (turn1 o) 1 = !(Dt.B o 1) := rfl
      rw [this]
      cases Dt.B o 1
      · rfl
      · simp
    show (bif sgn (turn1 o) (cmpD (a.headD zeroVal) (b.headD zeroVal)) != 0 then sgn (turn1 o) (cmpD (a.headD zeroVal) (b.headD zeroVal)) else cmpKs (turn l) a.tail b.tail) = - (bif sgn o (cmpD (a.headD zeroVal) (b.headD zeroVal)) != 0 then sgn o (cmpD (a.headD zeroVal) (b.headD zeroVal)) else cmpKs l a.tail b.tail)
    rw [hs, ih, neg_bne]
    cases (sgn o (cmpD (a.headD zeroVal) (b.headD zeroVal)) != 0) <;> rfl
theorem rev_l2 (m : Nat) (l : List Dt) (a b : Dt) (hl : l.length ≤ 8) : ∀ (M i : Nat), i ≤ l.length → l.length - i < M → law12_OrderReverse_l2 m M l (l.length : Int) (i : Int) a b (turn (l.take i) ++ l.drop i) = law12_OrderReverse_j5 m l a b (turn l)
  | 0, i, _, h => by omega
  | M + 1, i, hi, h => by
    simp only [law12_OrderReverse_l2, dlt]
    by_cases hlt : i < l.length
    · have lt : (turn (l.take i)).length = i := by simp [turn]; omega
      have hd : l.drop i = l[i] :: l.drop (i + 1) := List.drop_eq_getElem_cons hlt
      have gi : (turn (l.take i) ++ l[i] :: l.drop (i + 1))[i]? = some l[i] := by
        rw [List.getElem?_append_right (by omega), lt]; simp
      have ii : inL (turn (l.take i) ++ l[i] :: l.drop (i + 1)) (i : Int) = some () := by
        refine inL_lt ?_
        rw [List.length_append, lt, List.length_cons]; omega
      have si : (turn (l.take i) ++ l[i] :: l.drop (i + 1)).set i (turn1 l[i]) = turn (l.take (i + 1)) ++ l.drop (i + 1) := by
        rw [List.set_append_right _ _ (by omega), lt, Nat.sub_self, List.set_cons_zero, List.take_succ_eq_append_getElem hlt]
        unfold turn
        rw [List.map_append, List.append_assoc]
        rfl
      rw [hd]
      simp only [hlt, decide_true, cond_true, law12_OrderReverse_j3, law12_OrderReverse_j4, gi, ii, Option.bind_some, Int.toNat_natCast, wrapS (show i < 9223372036854775807 by omega)]
      have si' : (turn (l.take i) ++ l[i] :: l.drop (i + 1)).set i (Dt.agg [Dt.lst (Dt.L l[i] 0), Dt.bool (!(Dt.B l[i] 1))]) = turn (l.take (i + 1)) ++ l.drop (i + 1) := si
      rw [si']
      exact rev_l2 m l a b hl M (i + 1) (by omega) (by omega)
    · have : i = l.length := by omega
      subst this
      simp
theorem law_oreverse (l : List Dt) (a b : Dt) (ha : WV a ∧ a.bulk ≤ 1048576) (hb : WV b ∧ b.bulk ≤ 1048576) : law12_OrderReverse (400000000000 + 1) l a b = some true := by
  obtain ⟨s, h1, h2⟩ := small_eq 399999999998 (by omega) (by omega) l [a, b] (by simp; exact ⟨ha, hb⟩)
  have h1' : law12_Small 400000000000 l [a, b] = some s := h1
  obtain ⟨ba, la1, la2⟩ := lists_eq a.bulk a (Nat.le_refl _) (by omega) 399999999999 (by omega)
  obtain ⟨bb, lb1, lb2⟩ := lists_eq b.bulk b (Nat.le_refl _) (by omega) 399999999999 (by omega)
  have la1' : law12_lists 400000000000 a = some ba := la1
  have lb1' : law12_lists 400000000000 b = some bb := lb1
  simp only [law12_OrderReverse, h1', Option.bind_some, la1', lb1']
  cases s
  · simp only [Bool.not_false, cond_true, awakeC, Option.bind_some]
  · cases ba
    · cases bb
      · obtain ⟨h3, _, h5⟩ := h2 rfl
        have da := h5 a (by simp)
        have db := h5 b (by simp)
        have na := la2 rfl
        have nb := lb2 rfl
        have hc : slices_Clone l = some l := by
          unfold slices_Clone
          rw [Nat.ble_eq_true_of_le (by omega)]; rfl
        have hlt : (turn l).length ≤ 100 := by simp [turn]; omega
        have k1 : order_Keys 400000000000 l a = some (keysD l a) := okeys_eq 399999999997 (by omega) l a da (by omega)
        have k2 : order_Keys 400000000000 (turn l) a = some (keysD (turn l) a) := okeys_eq 399999999997 (by omega) (turn l) a da hlt
        have k3 : order_Compare 400000000000 l a b = some (cmpO l a b) := oCompare_eq 399999999996 (by omega) l a b da db (by omega)
        have k4 : order_Compare 400000000000 (turn l) a b = some (cmpO (turn l) a b) := oCompare_eq 399999999996 (by omega) (turn l) a b da db hlt
        have k5 : law03_SameList 400000000000 (keysD l a) (keysD l a) = some true := s03_list 399999999999 _ (by simp [keysD]; omega) (by simp [keysD]; omega) fun e he => by
          obtain ⟨o, _, rfl⟩ := List.mem_map.1 he
          have := (keyD_wv da o).2
          exact s03_refl 68719476736 _ this (by omega) 399999999998 (by omega)
        have e4 : cmpO (turn l) a b = - cmpO l a b := by
          unfold cmpO
          rw [keys_turn da na, keys_turn db nb, cmp_turn]
        have hw : IntKind.wrap IntKind.i64 (0 - - cmpO l a b) = cmpO l a b := by
          have := (tpoO l).rng a b
          rw [wrap64 (by omega) (by omega)]; omega
        have hl2 := rev_l2 400000000000 l a b (by omega) 400000000001 0 (Nat.zero_le _) (by omega)
        have hl2' : law12_OrderReverse_l2 400000000000 (Nat.succ 400000000000) l ((l.length : Nat) : Int) 0 a b l = law12_OrderReverse_j5 400000000000 l a b (turn l) := by
          simpa [turn] using hl2
        simp only [Bool.not_true, cond_false, law12_OrderReverse_j0, hc, Option.bind_some, law12_OrderReverse_j1, hl2', law12_OrderReverse_j5, k1, k2, k3, k4, e4, hw, keys_turn da na, k5, beq_self_eq_true, cond_true, awakeC]
      · simp only [Bool.not_true, cond_false, cond_true, awakeC, Option.bind_some]
    · simp only [Bool.not_true, cond_false, cond_true, awakeC, Option.bind_some]
theorem oreverse_fx {ds : List Dt} (h : HasTys Tryd.prog Tryd.f9.params.toList ds) (hb : Dt.bulkL ds ≤ 1048576) : FX Tryd.prog 9 (dats Tryd.f9.params.toList ds) [] (.dat 4 (.bool true)) [] := by
  have h' : HasTys Tryd.prog [22, 30, 30] ds := h
  cases h' with
  | @cons _ l _ _ h1 r => cases r with
    | @cons _ a _ _ h2 r => cases r with
      | @cons _ b _ _ h3 r =>
        cases r
        simp only [Dt.bulkL] at hb
        rw [(ty_lst Tryd.underlying22 h1).1]
        exact law12_OrderReverse_fx 400000000000 (ct_ok 400000000000) _ _ _ (law_oreverse _ a b ⟨wv_of h2, by omega⟩ ⟨wv_of h3, by omega⟩)
end Go.Proofs.YtacchdeihafmnaaDoor
