/- The law on parsing schemas, in plain Lean. -/
import Derived.Test.YtfneddmmeadacaaGreatDoorMF
import Derived.Test.YtfneddmmeadacaaGreatDoorFx
set_option linter.unusedVariables false
set_option linter.unusedSimpArgs false
namespace Go.Proofs.YtfneddmmeadacaaGreatDoor
open Go.Am

theorem pre_refl (m : Nat) (l : List Dt) (hl : l.length < 9223372036854775807) : ∀ (M i : Nat), i ≤ l.length → l.length - i < M → ref04_prefix_l2 m M l l (i : Int) = some true
  | 0, i, _, h => by omega
  | M + 1, i, hi, h => by
    simp only [ref04_prefix_l2, dlt]
    by_cases hlt : i < l.length
    · simp only [hlt, decide_true, cond_true, ref04_prefix_j4, ref04_prefix_j3, ref04_prefix_j5, ref04_prefix_j1, ref04_prefix_j0, idx_lt hlt, Option.bind_some, beq_self_eq_true, Bool.not_true, cond_false, wrapS (show i < 9223372036854775807 by omega)]
      exact pre_refl m l hl M (i + 1) (by omega) (by omega)
    · simp [hlt, ref04_prefix_j4, ref04_prefix_j3, ref04_prefix_j5, ref04_prefix_j1, ref04_prefix_j0]
theorem same04_refl (m : Nat) (l : List Dt) (hm : l.length ≤ m) (hl : l.length < 9223372036854775807) : ref04_Same (m + 2) l l = some true := by
  have := pre_refl m l hl (m + 1) 0 (Nat.zero_le _) (by omega)
  have h' : ref04_prefix_l2 m (Nat.succ m) l l 0 = some true := this
  simp only [ref04_Same, ref04_prefix, beq_self_eq_true, cond_true, Int.lt_irrefl, decide_false, cond_false, ref04_prefix_j4, ref04_prefix_j3, ref04_prefix_j5, ref04_prefix_j1, ref04_prefix_j0, h', Option.bind_some]
theorem s14_items (m : Nat) (self : Dt → Dt → Option Bool) (d : Dt) (hl : (Dt.L d 11).length < 9223372036854775807) (hs : ∀ e ∈ Dt.L d 11, self e e = some true) : ∀ (M i : Nat), i ≤ (Dt.L d 11).length → (Dt.L d 11).length - i < M → ref14_Same_l11 m self M (i : Int) d d = some true
  | 0, i, _, h => by omega
  | M + 1, i, hi, h => by
    simp only [ref14_Same_l11, dlt]
    by_cases hlt : i < (Dt.L d 11).length
    · simp only [hlt, decide_true, cond_true, ref14_Same_j8, ref14_Same_j7, ref14_Same_j6, ref14_Same_j13, ref14_Same_j12, ref14_Same_j14, ref14_Same_j10, ref14_Same_j9, ref14_Same_j4, ref14_Same_j3, ref14_Same_j2, ref14_Same_j1, ref14_Same_j0, idx_lt hlt, Option.bind_some, Bool.not_true, cond_false, hs _ (List.getElem_mem hlt), wrapS (show i < 9223372036854775807 by omega)]
      exact s14_items m self d hl hs M (i + 1) (by omega) (by omega)
    · simp [hlt, ref14_Same_j8, ref14_Same_j7, ref14_Same_j6, ref14_Same_j13, ref14_Same_j12, ref14_Same_j14, ref14_Same_j10, ref14_Same_j9, ref14_Same_j4, ref14_Same_j3, ref14_Same_j2, ref14_Same_j1, ref14_Same_j0]
theorem s14_props (m : Nat) (self : Dt → Dt → Option Bool) (d : Dt) (hl : (Dt.L d 9).length < 9223372036854775807) (hf : ∀ f ∈ Dt.L d 9, self (f.fld 1) (f.fld 1) = some true) (hi : ref14_Same_l11 m self (Nat.succ m) 0 d d = some true) : ∀ (M i : Nat), i ≤ (Dt.L d 9).length → (Dt.L d 9).length - i < M → ref14_Same_l5 m self M (i : Int) d d = some true
  | 0, i, _, h => by omega
  | M + 1, i, hi', h => by
    simp only [ref14_Same_l5, dlt]
    by_cases hlt : i < (Dt.L d 9).length
    · simp only [hlt, decide_true, cond_true, ref14_Same_j8, ref14_Same_j7, ref14_Same_j6, ref14_Same_j13, ref14_Same_j12, ref14_Same_j14, ref14_Same_j10, ref14_Same_j9, ref14_Same_j4, ref14_Same_j3, ref14_Same_j2, ref14_Same_j1, ref14_Same_j0, idx_lt hlt, Option.bind_some, beq_self_eq_true, Bool.not_true, cond_false, hf _ (List.getElem_mem hlt), wrapS (show i < 9223372036854775807 by omega)]
      exact s14_props m self d hl hf hi M (i + 1) (by omega) (by omega)
    · simp only [hlt, decide_false, cond_false, ref14_Same_j8, ref14_Same_j7, ref14_Same_j6, ref14_Same_j13, ref14_Same_j12, ref14_Same_j14, ref14_Same_j10, ref14_Same_j9, ref14_Same_j4, ref14_Same_j3, ref14_Same_j2, ref14_Same_j1, ref14_Same_j0, hi]
theorem s14_refl : ∀ (N : Nat) (d : Dt), d.bulk ≤ N → N ≤ 100000000000 → WS d → ∀ m, N + 20 ≤ m → ref14_Same (m + 1) d d = some true
  | 0, d, h, _, _, _, _ => by have := bulk_posA d; omega
  | N + 1, d, h, hN, hw, m, hm => by
    cases hw with
    | mk h0 h2 h4 h5 h9 h11 =>
      obtain ⟨m, rfl⟩ : ∃ q, m = q + 3 := ⟨m - 3, by omega⟩
      have l5 := L_bulk d 5
      have l8 := L_len d 8
      have l9 := L_len d 9
      have l11 := L_len d 11
      have b2 := fld_bulk d 2
      have b4 := fld_bulk d 4
      have ih : ∀ x : Dt, WS x → x.bulk ≤ N → ref14_Same (m + 3) x x = some true := fun x hx hb => s14_refl N x hb (by omega) hx (m + 2) (by omega)
      have e2 : ref01_Same (m + 3) (Dt.fld d 2) (Dt.fld d 2) = some true := same_refl _ _ (Nat.le_refl _) (by omega) h2 (m + 2) (by omega)
      have e4 : ref01_Same (m + 3) (Dt.fld d 4) (Dt.fld d 4) = some true := same_refl _ _ (Nat.le_refl _) (by omega) h4 (m + 2) (by omega)
      have e5 : ref01_SameList (m + 3) (Dt.L d 5) (Dt.L d 5) = some true := samelist_refl _ _ (Nat.le_refl _) (by omega) h5 (m + 1) (by omega)
      have e8 : ref04_Same (m + 3) (Dt.L d 8) (Dt.L d 8) = some true := same04_refl (m + 1) _ (by omega) (by omega)
      have g11 := s14_items (m + 3) (ref14_Same (m + 3)) d (by omega) (fun e he => ih _ (h11 e he) (by have := L_mem (d := d) (i := 11) he; omega)) (m + 4) 0 (Nat.zero_le _) (by omega)
      have g9 := s14_props (m + 3) (ref14_Same (m + 3)) d (by omega) (fun p hp => ih _ (h9 p hp) (by have := L_mem (d := d) (i := 9) hp; have := fld_bulk p 1; omega)) g11 (m + 4) 0 (Nat.zero_le _) (by omega)
      have g9' : ref14_Same_l5 (m + 3) (ref14_Same (m + 3)) (Nat.succ (m + 3)) 0 d d = some true := g9
      rw [ref14_Same]
      simp only [bne_self_eq_false, beq_self_eq_true, Bool.not_true, cond_false, e2, e4, e5, e8, Option.bind_some, ref14_Same_j8, ref14_Same_j7, ref14_Same_j6, ref14_Same_j13, ref14_Same_j12, ref14_Same_j14, ref14_Same_j10, ref14_Same_j9, ref14_Same_j4, ref14_Same_j3, ref14_Same_j2, ref14_Same_j1, ref14_Same_j0, g9']
-- few values
theorem cnt_d (m : Nat) (self : Dt → Int → Int → Option Int) (d : Dt) (x0 : Int) (hl : (Dt.L d 4).length < 9223372036854775807) (hs : ∀ f ∈ Dt.L d 4, ∀ a b, ∃ r, self (Dt.fld f 1) a b = some r) : ∀ (M i : Nat) (x1 : Int), i ≤ (Dt.L d 4).length → (Dt.L d 4).length - i < M → ∃ r, ref02_count_l8 m self M x0 x1 (i : Int) d = some r
  | 0, i, _, _, h => by omega
  | M + 1, i, x1, hi, h => by
    simp only [ref02_count_l8, dlt]
    by_cases hlt : i < (Dt.L d 4).length
    · simp only [hlt, decide_true, cond_true]
      cases decide ((0 : Int) ≤ x1)
      · exact ⟨_, rfl⟩
      · obtain ⟨r, hr⟩ := hs _ (List.getElem_mem hlt) (IntKind.wrap IntKind.i64 (x0 + 1)) x1
        simp only [cond_true, ref02_count_j5, ref02_count_j4, ref02_count_j11, ref02_count_j10, ref02_count_j9, ref02_count_j12, ref02_count_j7, ref02_count_j6, ref02_count_j2, ref02_count_j1, ref02_count_j0, idx_lt hlt, Option.bind_some, hr, wrapS (show i < 9223372036854775807 by omega)]
        cases decide ((200 : Int) < ((Dt.S (Dt.L d 4)[i] 0).size : Int))
        · exact cnt_d m self d x0 hl hs M (i + 1) _ (by omega) (by omega)
        · exact ⟨_, rfl⟩
    · simp only [hlt, decide_false, cond_false]
      exact ⟨_, rfl⟩
theorem cnt_l (m : Nat) (self : Dt → Int → Int → Option Int) (d : Dt) (x0 : Int) (hl : (Dt.L d 3).length < 9223372036854775807) (hs : ∀ e ∈ Dt.L d 3, ∀ a b, ∃ r, self e a b = some r) (hd : ∀ x1, ∃ r, ref02_count_l8 m self (Nat.succ m) x0 x1 0 d = some r) : ∀ (M i : Nat) (x1 : Int), i ≤ (Dt.L d 3).length → (Dt.L d 3).length - i < M → ∃ r, ref02_count_l3 m self M x0 x1 (i : Int) d = some r
  | 0, i, _, _, h => by omega
  | M + 1, i, x1, hi, h => by
    simp only [ref02_count_l3, dlt]
    by_cases hlt : i < (Dt.L d 3).length
    · simp only [hlt, decide_true, cond_true]
      cases decide ((0 : Int) ≤ x1)
      · simp only [cond_false, ref02_count_j5, ref02_count_j4, ref02_count_j11, ref02_count_j10, ref02_count_j9, ref02_count_j12, ref02_count_j7, ref02_count_j6, ref02_count_j2, ref02_count_j1, ref02_count_j0]
        exact hd x1
      · obtain ⟨r, hr⟩ := hs _ (List.getElem_mem hlt) (IntKind.wrap IntKind.i64 (x0 + 1)) x1
        simp only [cond_true, ref02_count_j5, ref02_count_j4, ref02_count_j11, ref02_count_j10, ref02_count_j9, ref02_count_j12, ref02_count_j7, ref02_count_j6, ref02_count_j2, ref02_count_j1, ref02_count_j0, idx_lt hlt, Option.bind_some, hr, wrapS (show i < 9223372036854775807 by omega)]
        exact cnt_l m self d x0 hl hs hd M (i + 1) _ (by omega) (by omega)
    · simp only [hlt, decide_false, cond_false, ref02_count_j5, ref02_count_j4, ref02_count_j11, ref02_count_j10, ref02_count_j9, ref02_count_j12, ref02_count_j7, ref02_count_j6, ref02_count_j2, ref02_count_j1, ref02_count_j0]
      exact hd x1
theorem cnt_tot : ∀ (N : Nat) (d : Dt), d.bulk ≤ N → N ≤ 100000000000 → WV d → ∀ m, N ≤ m → ∀ a b : Int, ∃ r, ref02_count (m + 1) d a b = some r
  | 0, d, h, _, _, _, _, _, _ => by have := bulk_pos d; omega
  | N + 1, d, h, hN, hw, m, hm, a, b => by
    obtain ⟨m, rfl⟩ : ∃ q, m = q + 1 := ⟨m - 1, by omega⟩
    obtain ⟨p1, p2, p3, p4⟩ := wv_parts hw
    have ih : ∀ e : Dt, WV e → e.bulk ≤ N → ∀ a b : Int, ∃ r, ref02_count (m + 1) e a b = some r := fun e hwe hbe a b => cnt_tot N e hbe (by omega) hwe m (by omega) a b
    have hd : ∀ x1, ∃ r, ref02_count_l8 (m + 1) (ref02_count (m + 1)) (Nat.succ (m + 1)) a x1 0 d = some r := fun x1 => cnt_d (m + 1) (ref02_count (m + 1)) d a (by omega) (fun f hf => ih _ (p4 f hf).1 (by have := (p4 f hf).2; omega)) (m + 2) 0 x1 (Nat.zero_le _) (by omega)
    have hl := fun x1 => cnt_l (m + 1) (ref02_count (m + 1)) d a (by omega) (fun e he => ih e (p3 e he).1 (by have := (p3 e he).2; omega)) hd (m + 2) 0 x1 (Nat.zero_le _) (by omega)
    rw [ref02_count]
    simp only [ref02_count_j5, ref02_count_j4, ref02_count_j11, ref02_count_j10, ref02_count_j9, ref02_count_j12, ref02_count_j7, ref02_count_j6, ref02_count_j2, ref02_count_j1, ref02_count_j0]
    cases decide ((40 : Int) < a)
    · cases decide ((5000 : Int) < ((Dt.S d 2).size : Int))
      · exact hl _
      · exact ⟨_, rfl⟩
    · exact ⟨_, rfl⟩
theorem few_tot {d : Dt} (hw : WV d) (hb : d.bulk ≤ 100000000000) (m : Nat) (hm : d.bulk ≤ m) (n : Int) : ∃ b, ref02_Few (m + 2) d n = some b := by
  obtain ⟨r, h⟩ := cnt_tot d.bulk d (Nat.le_refl _) hb hw m hm 1 n
  refine ⟨decide ((0 : Int) ≤ r), ?_⟩
  simp only [ref02_Few, h, Option.bind_some]

theorem Parse_sim {d : Dt} (hw : WV d) (hb : d.bulk ≤ 2000000) (m m' : Nat) (hm : 6000000000 ≤ m) (hm' : 6000000000 ≤ m') (hm2 : m' < 900000000000) : ∃ (s : Dt) (e : Int), schema_Parse m d = some (s, e) ∧ ref14_Parse m' d = some (s, e) ∧ WS s ∧ s.bulk ≤ 100000000 := by
  obtain ⟨m, rfl⟩ : ∃ q, m = q + 12 := ⟨m - 12, by omega⟩
  obtain ⟨m', rfl⟩ : ∃ q, m' = q + 12 := ⟨m' - 12, by omega⟩
  have w1 : schema_wellFormed (m + 11) d = some (okF d) := wellFormed_eq hw (m + 6) (by omega) (by omega)
  have w2 : ref01_Formed (m' + 11) d = some (okF d) := rFormed_eq hw (m' + 7) (by omega) (by omega) (by omega)
  obtain ⟨⟨s, s', b, p1, p2, p3⟩, _⟩ := parse_sim d.bulk d (Nat.le_refl _) (by omega) hw (m + 10) (m' + 10) (by omega) (by omega)
  have hz : WS kza2d60 ∧ kza2d60.bulk ≤ 100000000 := ⟨zero_inv.ws, by have := zero_inv.bk; have := zero_inv.le; omega⟩
  rw [schema_Parse, ref14_Parse]
  simp only [schema_Parse_j3, schema_Parse_j2, schema_Parse_j1, schema_Parse_j0, ref14_Parse_j3, ref14_Parse_j2, ref14_Parse_j1, ref14_Parse_j0, w1, w2, p1, p2, Option.bind_some]
  cases (Dt.I d 0 != 5)
  case true => exact ⟨_, _, rfl, rfl, hz⟩
  cases okF d
  case false => exact ⟨_, _, rfl, rfl, hz⟩
  simp only [Bool.not_true, cond_false]
  cases b
  case false => exact ⟨_, _, rfl, rfl, hz⟩
  obtain ⟨e, q1, q2⟩ := p3 rfl
  subst e
  obtain ⟨v, v1, v2⟩ := sValid_sim q1 (by omega) m m' (by omega) (by omega) (by omega)
  simp only [Bool.not_true, cond_false, v1, v2, Option.bind_some]
  cases (v != 0)
  · exact ⟨_, _, rfl, rfl, q1, by omega⟩
  · exact ⟨_, _, rfl, rfl, hz⟩
theorem law_sparses (d : Dt) (hw : WV d) (hb : d.bulk ≤ 1048576) : law14_SchemaParses (400000000000 + 1) d = some true := by
  obtain ⟨b, hf⟩ := few_tot hw (by omega) 399999999998 (by omega) 2000
  have hf' : ref02_Few 400000000000 d 2000 = some b := hf
  obtain ⟨s, e, h1, h2, h3, h4⟩ := Parse_sim hw (by omega) 400000000000 400000000000 (by omega) (by omega) (by omega)
  have h5 : ref14_Same 400000000000 s s = some true := s14_refl s.bulk s (Nat.le_refl _) (by omega) h3 399999999999 (by omega)
  rw [law14_SchemaParses]
  simp only [law14_SchemaParses_j0, hf', h1, h2, h5, Option.bind_some, awakeC, beq_self_eq_true, cond_true]
  cases b <;> rfl
theorem sparses_fx {ds : List Dt} (h : HasTys Tryz.prog Tryz.f3.params.toList ds) (hb : Dt.bulkL ds ≤ 1048576) : FX Tryz.prog 3 (dats Tryz.f3.params.toList ds) [] (.dat 4 (.bool true)) [] := by
  have h' : HasTys Tryz.prog [25] ds := h
  cases h' with
  | @cons _ d _ _ h1 r =>
    cases r
    simp only [Dt.bulkL] at hb
    exact law14_SchemaParses_fx 400000000000 (ct_ok 400000000000) _ (law_sparses d (wv_of h1) (by omega))
end Go.Proofs.YtfneddmmeadacaaGreatDoor
