/- The law on a schema's own violations. -/
import Derived.Test.YtfneddmmeadacaaDoorMF
import Derived.Test.YtfneddmmeadacaaDoorMChk
import Derived.Test.YtfneddmmeadacaaDoorMD
import Derived.Test.YtfneddmmeadacaaDoorFx
set_option linter.unusedVariables false
set_option linter.unusedSimpArgs false
namespace Go.Proofs.YtfneddmmeadacaaDoor
open Go.Am

theorem mapB {A B C : Type} {x : Option A} {f : A → Option B} {g : B → C} : (x.bind f).map g = x.bind fun a => (f a).map g := by cases x <;> rfl
theorem mapC {A B : Type} {b : Bool} {x y : Option A} {g : A → B} : (bif b then x else y).map g = bif b then x.map g else y.map g := by cases b <;> rfl
theorem e_l5 (m : Nat) (x0 : List Dt) (rec1 : List Dt → Int → Int → List Dt → List Dt → Dt → List Dt → Option (List Dt × List Dt)) (rec2 : List Dt → Int → Int → List Dt → Dt → List Dt → Option (List Dt))
    (hrec : ∀ X a b l v p, rec1 X a b x0 l v p = (rec2 X a b l v p).map fun r => (x0, r)) : ∀ (M : Nat) (X : List Dt) (a b : Int) (L : List Dt) (n i : Int) (l : List Dt) (v : Dt) (p : List Dt) (c : Dt), i7_l24 m rec1 M X a b L n i x0 l v p c = (i22_l24 m (i22 m) rec2 M X a b L n i l v p c).map fun r => (x0, r)
  | 0, _, _, _, _, _, _, _, _, _, _ => rfl
  | M + 1, X, a, b, L, n, i, l, v, p, c => by
    simp only [i7_l24, i22_l24, i7_j25, i22_j25, i7_j26, i22_j26, i7_j27, i22_j27, mapB, mapC, hrec, e_l5 m x0 rec1 rec2 hrec M]
theorem e_l4 (m : Nat) (x0 : List Dt) : ∀ (M : Nat) (X : List Dt) (a b : Int) (l : List Dt) (v : Dt) (p : List Dt), i7_l21 m M X a b x0 l v p = (i22_l21 m (i22 m) M X a b l v p).map fun r => (x0, r)
  | 0, _, _, _, _, _, _ => rfl
  | M + 1, X, a, b, l, v, p => by
    simp only [i7_l21, i22_l21, i7_j22, i22_j22, i7_j23, i22_j23, i7_j28, i22_j28, mapB, mapC, e_l5 m x0 _ _ (e_l4 m x0 M), Option.map_some]
theorem e_j18 (m : Nat) (x0 l : List Dt) (s v : Dt) (p : List Dt) : i7_j18 m x0 l s v p = (i22_j18 m (i22 m) l s v p).map fun r => (x0, r) := by
  simp only [i7_j18, i22_j18, i7_j19, i22_j19, i7_j20, i22_j20, i7_j28, i22_j28, mapB, mapC, e_l4, Option.map_some]
theorem e_l3 (m : Nat) (x0 : List Dt) : ∀ (M : Nat) (X : List Dt) (a b : Int) (l : List Dt) (s v : Dt) (p : List Dt), i7_l15 m M X a b x0 l s v p = (i22_l15 m (i22 m) M X a b l s v p).map fun r => (x0, r)
  | 0, _, _, _, _, _, _, _ => rfl
  | M + 1, X, a, b, l, s, v, p => by
    simp only [i7_l15, i22_l15, i7_j16, i22_j16, i7_j17, i22_j17, mapB, mapC, e_l3 m x0 M, e_j18]
theorem e_l2 (m : Nat) (x0 : List Dt) : ∀ (M : Nat) (X : List Dt) (a b : Int) (l : List Dt) (s v : Dt) (p : List Dt), i7_l10 m M X a b x0 l s v p = (i22_l10 m (i22 m) M X a b l s v p).map fun r => (x0, r)
  | 0, _, _, _, _, _, _, _ => rfl
  | M + 1, X, a, b, l, s, v, p => by
    simp only [i7_l10, i22_l10, i7_j11, i22_j11, i7_j12, i22_j12, i7_j13, i22_j13, i7_j14, i22_j14, mapB, mapC, e_l2 m x0 M, e_l3]
theorem e_l1 (m : Nat) (x0 : List Dt) : ∀ (M : Nat) (X : List Dt) (a b : Int) (l : List Dt) (s v : Dt) (p : List Dt), i7_l5 m M X a b x0 l s v p = (i22_l5 m (i22 m) M X a b l s v p).map fun r => (x0, r)
  | 0, _, _, _, _, _, _, _ => rfl
  | M + 1, X, a, b, l, s, v, p => by
    simp only [i7_l5, i22_l5, i7_j6, i22_j6, i7_j7, i22_j7, i7_j8, i22_j8, i7_j9, i22_j9, mapB, mapC, e_l1 m x0 M, e_l2]
theorem e_j3 (m : Nat) (x0 l : List Dt) (s v : Dt) (p : List Dt) : i7_j3 m x0 l s v p = (i22_j3 m (i22 m) l s v p).map fun r => (x0, r) := by
  simp only [i7_j3, i22_j3, i7_j4, i22_j4, mapB, mapC, e_l1, e_j18]
theorem e_j0 (m : Nat) (x0 l : List Dt) (s v : Dt) (p : List Dt) : i7_j0 m x0 l s v p = (i22_j0 m (i22 m) l s v p).map fun r => (x0, r) := by
  simp only [i7_j0, i22_j0, i7_j1, i22_j1, i7_j2, i22_j2, mapB, mapC, e_j3]
theorem e_top (m : Nat) (s v : Dt) (p l : List Dt) : i7 (m + 1) s v l p = (i22 (m + 1) s v p l).map fun r => (p, r) := by
  have ea : ∀ (b : Bool) (r : Int) (st : List Dt), i9 m b r st l p = (i15 m b r st l p).map fun r => (r.1, p, r.2) := fun b r st => by
    cases m with
    | zero => rfl
    | succ m => cases b <;> simp only [i9, i15, cond_true, cond_false, mapB, Option.map_some]
  have eb : ∀ {A B C : Type} (x : Option A) (f : A → B) (g : B → Option C), (x.map f).bind g = x.bind fun a => g (f a) := fun x f g => by cases x <;> rfl
  rw [i7, i22]
  simp only [ea, eb, mapB, mapC, e_j0]
theorem check_own {s v : Dt} (m : Nat) (h0 : schema_Valid (m + 1) s = some 0) {r : List Dt} (hr : i22 (m + 1) s v [] [] = some r) : schema_Check (m + 2) s v = some r := by
  simp only [schema_Check, h0, Option.bind_some, bne_self_eq_false, cond_false, schema_Check_j0, e_top, hr, Option.map_some]
theorem own_loop (m : Nat) (e r : List Dt) (hn : NoC e) (hl : (e ++ r).length < 1000000000000) : ∀ (M i : Nat), i ≤ e.length → e.length - i < M → law14_SchemaOwn_l3 m M e (e ++ r) (i : Int) (i : Int) = some true
  | 0, i, _, h => by omega
  | M + 1, i, hi, h => by
    have hle : (e ++ r).length = e.length + r.length := List.length_append
    by_cases hlt : i < e.length
    · have h2 : i < (e ++ r).length := by omega
      have hg : (e ++ r)[i] = e[i] := List.getElem_append_left hlt
      have h7 := hn _ (List.getElem_mem hlt)
      have ix : idx (e ++ r) (i : Int) = some e[i] := by rw [idx_lt h2, hg]
      simp only [law14_SchemaOwn_l3, dlt, h2, hlt, decide_true, cond_true, law14_SchemaOwn_j5, law14_SchemaOwn_j8, law14_SchemaOwn_j7, law14_SchemaOwn_j6, law14_SchemaOwn_j4, law14_SchemaOwn_j9, law14_SchemaOwn_j2, law14_SchemaOwn_j1, law14_SchemaOwn_j0, ix, idx_lt hlt, Option.bind_some, h7, cond_false, bne_self_eq_false, wrapS (show i < 9223372036854775807 by omega)]
      exact own_loop m e r hn hl M (i + 1) (by omega) (by omega)
    · have hi' : i = e.length := by omega
      subst hi'
      simp only [law14_SchemaOwn_l3, dlt, hlt, decide_false, cond_false, law14_SchemaOwn_j5, law14_SchemaOwn_j8, law14_SchemaOwn_j7, law14_SchemaOwn_j6, law14_SchemaOwn_j4, law14_SchemaOwn_j9, law14_SchemaOwn_j2, law14_SchemaOwn_j1, law14_SchemaOwn_j0, beq_self_eq_true, cond_true, awakeC, Option.bind_some]
      cases decide (e.length < (e ++ r).length) <;> rfl
theorem prod_le {a b : Nat} (h : a + b ≤ 1048576) : a * b ≤ 412316860416 := by
  by_cases c : a ≤ 393216
  · have := Nat.mul_le_mul c (show b ≤ 1048576 by omega)
    omega
  · by_cases c2 : b ≤ 393216
    · have := Nat.mul_le_mul (show a ≤ 1048576 by omega) c2
      omega
    · by_cases c3 : a ≤ 524288
      · have := Nat.mul_le_mul c3 (show b ≤ 655360 by omega)
        omega
      · have := Nat.mul_le_mul (show a ≤ 655360 by omega) (show b ≤ 524288 by omega)
        omega
theorem law_sown (s v : Dt) (hs : WS s) (hb : BS s) (hw : WV v) (hbk : s.bulk + v.bulk ≤ 1048576) : law14_SchemaOwn (400000000000 + 1) s v = some true := by
  have hp := prod_le hbk
  obtain ⟨c, hc⟩ := sc_tot s.bulk s (Nat.le_refl _) (by omega) 399999999998 (by omega) 81
  obtain ⟨f, hf⟩ := few_tot hw (by omega) 399999999997 (by omega) 300
  have hc' : ref14_Count 399999999999 s 81 = some c := hc
  have hf' : ref02_Few 399999999999 v 300 = some f := hf
  have hfew : ∃ b, law14_few 400000000000 s v = some b := by
    rw [show (400000000000 : Nat) = 399999999999 + 1 from rfl, law14_few]
    simp only [hc', hf', Option.bind_some]
    cases decide (c ≤ 80) <;> exact ⟨_, rfl⟩
  obtain ⟨b, hb1⟩ := hfew
  obtain ⟨q, hq, hq9, hq2⟩ := valid_tot hs (by omega) 399999999989 399999999988 (by omega) (by omega) (by omega)
  have hq' : schema_Valid 400000000000 s = some q := hq
  rw [law14_SchemaOwn]
  simp only [hb1, Option.bind_some]
  cases b
  · simp only [Bool.not_false, cond_true, law14_SchemaOwn_j5, law14_SchemaOwn_j8, law14_SchemaOwn_j7, law14_SchemaOwn_j6, law14_SchemaOwn_j4, law14_SchemaOwn_j9, law14_SchemaOwn_j2, law14_SchemaOwn_j1, law14_SchemaOwn_j0, awakeC, Option.bind_some]
  · by_cases hq0 : q = 0
    · subst hq0
      have hsg := hq2 rfl
      obtain ⟨e, r, k1, k2, k3, k4⟩ := vio_own hb (by omega) hw (by omega) hp 399999999992 (by omega) (by omega)
      have hx : ∀ x : Dt, Sm s x → Dt.L x 9 = [] → Dt.L x 11 = [] → Dt.B x 10 = false → x.bulk ≤ 1000000000 → schema_Check 400000000000 x v = some e := fun x h e9 e11 e10 hbx => by
        have wx : WS x := by
          cases hs with
          | mk h0 h2 h4 h5 _ _ => exact .mk (by rw [h.i0]; exact h0) (by rw [h.f2]; exact h2) (by rw [h.f4]; exact h4) (by rw [h.l5]; exact h5) (fun p hp => by rw [e9] at hp; cases hp) (fun p hp => by rw [e11] at hp; cases hp)
        exact check_own 399999999998 (valid_own h e9 e11 wx hsg hbx 399999999988 (by omega)) (k4 x h e9 e11 e10)
      have hs9 : schema_Check 400000000000 s v = some (e ++ r) := check_own 399999999998 hq9 k2
      have hy := hx (.agg [.int (Dt.I s 0), .bool (Dt.B s 1), Dt.fld s 2, .bool (Dt.B s 3), Dt.fld s 4, .lst (Dt.L s 5), .int (Dt.I s 6), .int (Dt.I s 7), .lst (Dt.L s 8), .lst [], .bool false, .lst [], .bool (Dt.B s 12)]) ⟨rfl, rfl, rfl, rfl, rfl, rfl, rfl, rfl, rfl, rfl⟩ rfl rfl rfl (by
        have b2 := fld_bulk s 2
        have b4 := fld_bulk s 4
        have b5 := L_bulk s 5
        have b8 := L_bulk s 8
        simp only [Dt.bulk, Dt.bulkL]
        omega)
      have hl := own_loop 400000000000 e r k1 (by omega) 400000000001 0 (Nat.zero_le _) (by rw [List.length_append] at k3; omega)
      simp only [Bool.not_true, cond_false, hq', Option.bind_some, bne_self_eq_false, law14_SchemaOwn_j5, law14_SchemaOwn_j8, law14_SchemaOwn_j7, law14_SchemaOwn_j6, law14_SchemaOwn_j4, law14_SchemaOwn_j9, law14_SchemaOwn_j2, law14_SchemaOwn_j1, law14_SchemaOwn_j0, hy, hs9]
      exact hl
    · have hne : (q != 0) = true := by simpa using hq0
      simp only [Bool.not_true, cond_false, hq', Option.bind_some, hne, law14_SchemaOwn_j5, law14_SchemaOwn_j8, law14_SchemaOwn_j7, law14_SchemaOwn_j6, law14_SchemaOwn_j4, law14_SchemaOwn_j9, law14_SchemaOwn_j2, law14_SchemaOwn_j1, law14_SchemaOwn_j0, cond_true, awakeC]
theorem sown_fx {ds : List Dt} (h : HasTys Tryd.prog Tryd.f5.params.toList ds) (hb : Dt.bulkL ds ≤ 1048576) : FX Tryd.prog 5 (dats Tryd.f5.params.toList ds) [] (.dat 4 (.bool true)) [] := by
  have h' : HasTys Tryd.prog [30, 25] ds := h
  cases h' with
  | @cons _ s _ _ h1 r =>
    cases r with
    | @cons _ v _ _ h2 r =>
      cases r
      simp only [Dt.bulkL] at hb
      exact law14_SchemaOwn_fx 400000000000 (ct_ok 400000000000) _ _ (law_sown s v (ws_of s.bulk s (Nat.le_refl _) h1) (bs_of s.bulk s (Nat.le_refl _) h1) (wv_of h2) (by omega))
end Go.Proofs.YtfneddmmeadacaaDoor
