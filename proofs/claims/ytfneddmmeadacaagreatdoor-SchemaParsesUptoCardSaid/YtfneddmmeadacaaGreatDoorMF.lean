/- Schemas: parsing; the program and the reference agree.
Values: each is the same as itself.
Schemas: parsing, whole; sameness of schemas with themselves. -/
import Derived.Test.YtfneddmmeadacaaGreatDoorME
import Derived.Test.YtfneddmmeadacaaGreatDoorMD
import Derived.Test.YtfneddmmeadacaaGreatDoorMA
set_option linter.unusedVariables false
set_option linter.unusedSimpArgs false
namespace Go.Proofs.YtfneddmmeadacaaGreatDoor
open Go.Am

def mkS (k : Int) (b1 : Bool) (mn : Dt) (b3 : Bool) (mx : Dt) (en : List Dt) (a b : Int) (rq pr : List Dt) (c : Bool) (it : List Dt) (u : Bool) : Dt := .agg [.int k, .bool b1, mn, .bool b3, mx, .lst en, .int a, .int b, .lst rq, .lst pr, .bool c, .lst it, .bool u]
/-- What the parts of a schema hold. -/
def bs (s : Dt) : Nat := (Dt.fld s 2).bulk + (Dt.fld s 4).bulk + Dt.bulkL (Dt.L s 5) + Dt.bulkL (Dt.L s 8) + Dt.bulkL (Dt.L s 9) + Dt.bulkL (Dt.L s 11)
structure Inv (s : Dt) (B : Nat) : Prop where
  ws : WS s
  bk : s.bulk ≤ bs s + 40
  le : bs s ≤ B
theorem mkS_inv {k : Int} {b1 : Bool} {mn : Dt} {b3 : Bool} {mx : Dt} {en : List Dt} {a b : Int} {rq pr : List Dt} {c : Bool} {it : List Dt} {u : Bool} {B : Nat} (h0 : -9223372036854775808 ≤ k ∧ k ≤ 9223372036854775807) (h2 : WV mn) (h4 : WV mx) (h5 : ∀ e ∈ en, WV e) (h9 : ∀ p ∈ pr, WS (Dt.fld p 1)) (h11 : ∀ e ∈ it, WS e)
    (hle : mn.bulk + mx.bulk + Dt.bulkL en + Dt.bulkL rq + Dt.bulkL pr + Dt.bulkL it ≤ B) : Inv (mkS k b1 mn b3 mx en a b rq pr c it u) B := by
  refine ⟨.mk h0 h2 h4 h5 h9 h11, ?_, hle⟩
  show (mkS k b1 mn b3 mx en a b rq pr c it u).bulk ≤ mn.bulk + mx.bulk + Dt.bulkL en + Dt.bulkL rq + Dt.bulkL pr + Dt.bulkL it + 40
  simp only [mkS, Dt.bulk, Dt.bulkL]
  omega
theorem Inv.parts {s : Dt} {B : Nat} (h : Inv s B) : (-9223372036854775808 ≤ Dt.I s 0 ∧ Dt.I s 0 ≤ 9223372036854775807) ∧ WV (Dt.fld s 2) ∧ WV (Dt.fld s 4) ∧ (∀ e ∈ Dt.L s 5, WV e) ∧ (∀ p ∈ Dt.L s 9, WS (Dt.fld p 1)) ∧ (∀ e ∈ Dt.L s 11, WS e) := by
  cases h.ws with
  | mk h0 h2 h4 h5 h9 h11 => exact ⟨h0, h2, h4, h5, h9, h11⟩
/-- The start of a schema. -/
theorem start_inv : Inv kz8469e 20 := by
  have e : kz8469e = mkS 0 false kza2373 false kza2373 [] 0 (-1) [] [] false [] false := rfl
  have hz : WV kza2373 := .mk (fun e he => by cases he) (fun e he => by cases he)
  rw [e]
  exact mkS_inv ⟨by omega, by omega⟩ hz hz (fun e he => by cases he) (fun e he => by cases he) (fun e he => by cases he) (by decide)
theorem zero_inv : Inv kza2d60 20 := by
  have e : kza2d60 = mkS 0 false kza2373 false kza2373 [] 0 0 [] [] false [] false := rfl
  have hz : WV kza2373 := .mk (fun e he => by cases he) (fun e he => by cases he)
  rw [e]
  exact mkS_inv ⟨by omega, by omega⟩ hz hz (fun e he => by cases he) (fun e he => by cases he) (fun e he => by cases he) (by decide)

-- lists of strings
theorem bulkL_one (l : List Dt) (e : Dt) : Dt.bulkL (l ++ [e]) = Dt.bulkL l + e.bulk := by rw [bulkL_app']; simp [Dt.bulkL]
theorem names_sim (d : Dt) (hl : (Dt.L d 3).length ≤ 137438953472) (m m' : Nat) : ∀ (M M' i : Nat) (out : List Dt), i ≤ (Dt.L d 3).length → (Dt.L d 3).length - i < M → (Dt.L d 3).length - i < M' → out.length ≤ i → Dt.bulkL out ≤ 2 * Dt.bulkL ((Dt.L d 3).take i) →
    ∃ (r : List Dt) (b : Bool), schema_parseNames_l2 m M (Dt.L d 3) ((Dt.L d 3).length : Int) (i : Int) out = some (r, b) ∧ ref14_texts_l2 m' M' (i : Int) d out = some (r, b) ∧ (b = true → Dt.bulkL r ≤ 2 * Dt.bulkL (Dt.L d 3))
  | 0, _, i, _, _, h, _, _, _ => by omega
  | _ + 1, 0, i, _, _, _, h, _, _ => by omega
  | M + 1, M' + 1, i, out, hi, h, h', ho, hb => by
    simp only [schema_parseNames_l2, ref14_texts_l2, dlt]
    by_cases hlt : i < (Dt.L d 3).length
    · simp only [hlt, decide_true, cond_true, schema_parseNames_j5, schema_parseNames_j4, schema_parseNames_j3, schema_parseNames_j6, schema_parseNames_j1, schema_parseNames_j0, ref14_texts_j5, ref14_texts_j4, ref14_texts_j3, ref14_texts_j6, ref14_texts_j1, ref14_texts_j0, idx_lt hlt, Option.bind_some, wrapS (show i < 9223372036854775807 by omega)]
      cases hk : (Dt.I (Dt.L d 3)[i] 0 != 4)
      · simp only [cond_false]
        rw [app_le (by simp; omega)]
        simp only [Option.bind_some]
        refine names_sim d hl m m' M M' (i + 1) _ (by omega) (by omega) (by omega) (by simp; omega) ?_
        rw [bulkL_one, List.take_succ_eq_append_getElem hlt, bulkL_one]
        have := S_size (Dt.L d 3)[i] 2
        simp only [Dt.bulk]
        omega
      · simp only [cond_true]
        exact ⟨_, _, rfl, rfl, fun h => by cases h⟩
    · have : i = (Dt.L d 3).length := by omega
      subst this
      simp only [hlt, decide_false, cond_false, schema_parseNames_j5, schema_parseNames_j4, schema_parseNames_j3, schema_parseNames_j6, schema_parseNames_j1, schema_parseNames_j0, ref14_texts_j5, ref14_texts_j4, ref14_texts_j3, ref14_texts_j6, ref14_texts_j1, ref14_texts_j0]
      refine ⟨_, _, rfl, rfl, fun _ => ?_⟩
      rw [List.take_of_length_le (Nat.le_refl _)] at hb
      exact hb
theorem texts_sim (d : Dt) (hd : d.bulk ≤ 137438953472) (m m' : Nat) (hm : d.bulk ≤ m) (hm' : d.bulk ≤ m') : ∃ (r : List Dt) (b : Bool), schema_parseNames (m + 1) d = some (r, b) ∧ ref14_texts (m' + 1) d = some (r, b) ∧ (b = true → Dt.bulkL r ≤ 2 * d.bulk) := by
  have hl := L_len d 3
  have hb := L_bulk d 3
  obtain ⟨r, b, h1, h2, h3⟩ := names_sim d (by omega) m m' (m + 1) (m' + 1) 0 [] (Nat.zero_le _) (by omega) (by omega) (Nat.le_refl _) (by simp [Dt.bulkL])
  simp only [schema_parseNames, ref14_texts, schema_parseNames_j5, schema_parseNames_j4, schema_parseNames_j3, schema_parseNames_j6, schema_parseNames_j1, schema_parseNames_j0, ref14_texts_j5, ref14_texts_j4, ref14_texts_j3, ref14_texts_j6, ref14_texts_j1, ref14_texts_j0]
  cases (Dt.I d 0 != 6)
  · exact ⟨r, b, h1, h2, fun h => by have := h3 h; omega⟩
  · exact ⟨_, _, rfl, rfl, fun h => by cases h⟩

-- documents
/-- Two parsers of schemas agree at a value. -/
def PaOK (p q : Dt → Option (Dt × Bool)) (v : Dt) : Prop := ∃ (s s' : Dt) (b : Bool), p v = some (s, b) ∧ q v = some (s', b) ∧ (b = true → s' = s ∧ WS s ∧ s.bulk ≤ 40 * v.bulk)
theorem ppr_sim (p q : Dt → Option (Dt × Bool)) (d : Dt) (hl : (Dt.L d 4).length ≤ 137438953472) (hs : ∀ f ∈ Dt.L d 4, PaOK p q (Dt.fld f 1) ∧ (Dt.fld f 1).bulk + (Dt.S f 0).size + 2 ≤ f.bulk) (m m' : Nat) : ∀ (M M' i : Nat) (out : List Dt), i ≤ (Dt.L d 4).length → (Dt.L d 4).length - i < M → (Dt.L d 4).length - i < M' → out.length ≤ i → (∀ x ∈ out, WS (Dt.fld x 1)) → Dt.bulkL out ≤ 40 * Dt.bulkL ((Dt.L d 4).take i) →
    ∃ (r : List Dt) (b : Bool), schema_parseProps_l2 m p M (Dt.L d 4) ((Dt.L d 4).length : Int) (i : Int) out = some (r, b) ∧ ref14_props_l2 m' q M' (i : Int) d out = some (r, b) ∧ (b = true → (∀ x ∈ r, WS (Dt.fld x 1)) ∧ Dt.bulkL r ≤ 40 * Dt.bulkL (Dt.L d 4))
  | 0, _, i, _, _, h, _, _, _, _ => by omega
  | _ + 1, 0, i, _, _, _, h, _, _, _ => by omega
  | M + 1, M' + 1, i, out, hi, h, h', ho, hw, hb => by
    simp only [schema_parseProps_l2, ref14_props_l2, dlt]
    by_cases hlt : i < (Dt.L d 4).length
    · obtain ⟨⟨s, s', b, h1, h2, h3⟩, h4⟩ := hs _ (List.getElem_mem hlt)
      simp only [hlt, decide_true, cond_true, schema_parseProps_j5, schema_parseProps_j4, schema_parseProps_j3, schema_parseProps_j6, schema_parseProps_j1, schema_parseProps_j0, ref14_props_j5, ref14_props_j4, ref14_props_j3, ref14_props_j6, ref14_props_j1, ref14_props_j0, idx_lt hlt, Option.bind_some, h1, h2, wrapS (show i < 9223372036854775807 by omega)]
      cases b
      · simp only [Bool.not_false, cond_true]
        exact ⟨_, _, rfl, rfl, fun h => by cases h⟩
      · obtain ⟨e, hws, hbk⟩ := h3 rfl
        subst e
        simp only [Bool.not_true, cond_false]
        rw [app_le (by simp; omega)]
        simp only [Option.bind_some]
        refine ppr_sim p q d hl hs m m' M M' (i + 1) _ (by omega) (by omega) (by omega) (by simp; omega) (fun x hx => ?_) ?_
        · rcases List.mem_append.1 hx with hx | hx
          · exact hw x hx
          · rw [List.mem_singleton] at hx
            subst hx
            exact hws
        · rw [bulkL_one, List.take_succ_eq_append_getElem hlt, bulkL_one, bulk_fld]
          omega
    · have : i = (Dt.L d 4).length := by omega
      subst this
      simp only [hlt, decide_false, cond_false, schema_parseProps_j5, schema_parseProps_j4, schema_parseProps_j3, schema_parseProps_j6, schema_parseProps_j1, schema_parseProps_j0, ref14_props_j5, ref14_props_j4, ref14_props_j3, ref14_props_j6, ref14_props_j1, ref14_props_j0]
      refine ⟨_, _, rfl, rfl, fun _ => ⟨hw, ?_⟩⟩
      rw [List.take_of_length_le (Nat.le_refl _)] at hb
      exact hb
/-- A field. -/
theorem field_sim (N : Nat) (hN : N ≤ 1000000000) (m m' : Nat) (hm : 3 * N + 60 ≤ m) (hm' : 3 * N + 60 ≤ m') (v : Dt) (name : ByteArray) (hv : WV v) (hb : v.bulk ≤ N)
    (ihp : PaOK (schema_parse m) (ref14_parse m') v) (ihr : ∃ (r : List Dt) (b : Bool), schema_parseProps m v = some (r, b) ∧ ref14_props m' v = some (r, b) ∧ (b = true → (∀ x ∈ r, WS (Dt.fld x 1)) ∧ Dt.bulkL r ≤ 40 * v.bulk))
    (s : Dt) (B : Nat) (hs : Inv s B) : ∃ (X X' : Dt) (b : Bool), i16 (m + 1) name v s = some (b, X) ∧ ref14_field (m' + 1) s (.agg [.str name, v]) = some (X', b) ∧ (b = true → X' = X ∧ Inv X (B + 40 * v.bulk)) := by
  obtain ⟨i0, i2, i4, i5, i9, i11⟩ := hs.parts
  have hle := hs.le
  unfold bs at hle
  obtain ⟨k, n, kb, k1, k2, k3, k4⟩ := kinds_sim v (m - 1) (m' - 1) (by omega) (by omega) (by omega)
  rw [show m - 1 + 1 = m by omega] at k1
  rw [show m' - 1 + 1 = m' by omega] at k2
  obtain ⟨q, qb, q1, q2, q3⟩ := texts_sim v (by omega) (m - 1) (m' - 1) (by omega) (by omega)
  rw [show m - 1 + 1 = m by omega] at q1
  rw [show m' - 1 + 1 = m' by omega] at q2
  have c1 := sclone_eq v.bulk v (Nat.le_refl _) (by omega) hv (m - 1) (by omega)
  rw [show m - 1 + 1 = m by omega] at c1
  obtain ⟨z, z', zb, z1, z2, z3⟩ := ihp
  obtain ⟨y, yb, y1, y2, y3⟩ := ihr
  have eS : Dt.S (.agg [.str name, v]) 0 = name := rfl
  have eV : Dt.fld (.agg [.str name, v]) 1 = v := rfl
  have hv3 : (∀ e ∈ Dt.L v 3, WV e) ∧ Dt.bulkL (Dt.L v 3) ≤ v.bulk := ⟨fun e he => ((wv_parts hv).2.2.1 e he).1, by have := L_bulk v 3; omega⟩
  rw [i16, ref14_field, eS, eV]
  simp only [i16_j0, ref14_field_j0, k1, k2, q1, q2, c1, z1, z2, y1, y2, Option.bind_some]
  cases (name.toList == [107, 105, 110, 100])
  case true =>
    refine ⟨_, _, kb, rfl, by rw [k3]; rfl, fun h => ?_⟩
    obtain ⟨e, g1, g2⟩ := k4 h
    subst e
    exact ⟨rfl, mkS_inv ⟨by omega, by omega⟩ i2 i4 i5 i9 i11 (by omega)⟩
  simp only [cond_false]
  cases (name.toList == [109, 105, 110])
  case true => exact ⟨_, _, true, rfl, rfl, fun _ => ⟨rfl, mkS_inv i0 hv i4 i5 i9 i11 (by omega)⟩⟩
  simp only [cond_false]
  cases (name.toList == [109, 97, 120])
  case true => exact ⟨_, _, true, rfl, rfl, fun _ => ⟨rfl, mkS_inv i0 i2 hv i5 i9 i11 (by omega)⟩⟩
  simp only [cond_false]
  cases (name.toList == [101, 110, 117, 109])
  case true => exact ⟨_, _, _, rfl, rfl, fun _ => ⟨rfl, mkS_inv i0 i2 i4 hv3.1 i9 i11 (by omega)⟩⟩
  simp only [cond_false]
  cases (name.toList == [109, 105, 110, 76, 101, 110])
  case true => exact ⟨_, _, _, rfl, rfl, fun _ => ⟨rfl, mkS_inv i0 i2 i4 i5 i9 i11 (by omega)⟩⟩
  simp only [cond_false]
  cases (name.toList == [109, 97, 120, 76, 101, 110])
  case true => exact ⟨_, _, _, rfl, rfl, fun _ => ⟨rfl, mkS_inv i0 i2 i4 i5 i9 i11 (by omega)⟩⟩
  simp only [cond_false]
  cases (name.toList == [114, 101, 113, 117, 105, 114, 101, 100])
  case true => exact ⟨_, _, _, rfl, rfl, fun h => ⟨rfl, mkS_inv i0 i2 i4 i5 i9 i11 (by have := q3 h; omega)⟩⟩
  simp only [cond_false]
  cases (name.toList == [112, 114, 111, 112, 115])
  case true => exact ⟨_, _, _, rfl, rfl, fun h => ⟨rfl, mkS_inv i0 i2 i4 i5 (y3 h).1 i11 (by have := (y3 h).2; omega)⟩⟩
  simp only [cond_false]
  cases (name.toList == [99, 108, 111, 115, 101, 100])
  case true => exact ⟨_, _, _, rfl, rfl, fun _ => ⟨rfl, mkS_inv i0 i2 i4 i5 i9 i11 (by omega)⟩⟩
  simp only [cond_false]
  cases (name.toList == [117, 110, 105, 113, 117, 101])
  case true => exact ⟨_, _, _, rfl, rfl, fun _ => ⟨rfl, mkS_inv i0 i2 i4 i5 i9 i11 (by omega)⟩⟩
  simp only [cond_false]
  cases (name.toList == [105, 116, 101, 109, 115])
  case true =>
    refine ⟨_, _, zb, rfl, rfl, fun h => ?_⟩
    obtain ⟨e, g1, g2⟩ := z3 h
    subst e
    exact ⟨rfl, mkS_inv i0 i2 i4 i5 i9 (fun e he => by rw [List.mem_singleton] at he; subst he; exact g1) (by simp only [Dt.bulkL]; omega)⟩
  exact ⟨_, _, _, rfl, rfl, fun h => by cases h⟩
end Go.Proofs.YtfneddmmeadacaaGreatDoor
namespace Go.Proofs.YtfneddmmeadacaaGreatDoor
open Go.Am

theorem same_l7 (m : Nat) (self : Dt → Dt → Option Bool) (d : Dt) (hl : (Dt.L d 4).length < 9223372036854775807) (hf : ∀ f ∈ Dt.L d 4, self (f.fld 1) (f.fld 1) = some true) : ∀ (M i : Nat), i ≤ (Dt.L d 4).length → (Dt.L d 4).length - i < M → ref01_Same_l8 m self M (i : Int) d d = some true
  | 0, i, _, h => by omega
  | M + 1, i, hi, h => by
    simp only [ref01_Same_l8, dlt]
    by_cases hlt : i < (Dt.L d 4).length
    · simp only [hlt, decide_true, cond_true, ref01_Same_j5, ref01_Same_j4, ref01_Same_j11, ref01_Same_j10, ref01_Same_j9, ref01_Same_j12, ref01_Same_j7, ref01_Same_j6, ref01_Same_j2, ref01_Same_j1, ref01_Same_j0, idx_lt hlt, Option.bind_some, beq_self_eq_true, Bool.not_true, cond_false, hf _ (List.getElem_mem hlt), wrapS (show i < 9223372036854775807 by omega)]
      exact same_l7 m self d hl hf M (i + 1) (by omega) (by omega)
    · simp [hlt, ref01_Same_j5, ref01_Same_j4, ref01_Same_j11, ref01_Same_j10, ref01_Same_j9, ref01_Same_j12, ref01_Same_j7, ref01_Same_j6, ref01_Same_j2, ref01_Same_j1, ref01_Same_j0]
theorem same_l2 (m : Nat) (self : Dt → Dt → Option Bool) (d : Dt) (hl : (Dt.L d 3).length < 9223372036854775807) (hs : ∀ e ∈ Dt.L d 3, self e e = some true) (h7 : ref01_Same_l8 m self (Nat.succ m) 0 d d = some true) : ∀ (M i : Nat), i ≤ (Dt.L d 3).length → (Dt.L d 3).length - i < M → ref01_Same_l3 m self M (i : Int) d d = some true
  | 0, i, _, h => by omega
  | M + 1, i, hi, h => by
    simp only [ref01_Same_l3, dlt]
    by_cases hlt : i < (Dt.L d 3).length
    · simp only [hlt, decide_true, cond_true, ref01_Same_j5, ref01_Same_j4, ref01_Same_j11, ref01_Same_j10, ref01_Same_j9, ref01_Same_j12, ref01_Same_j7, ref01_Same_j6, ref01_Same_j2, ref01_Same_j1, ref01_Same_j0, idx_lt hlt, Option.bind_some, Bool.not_true, cond_false, hs _ (List.getElem_mem hlt), wrapS (show i < 9223372036854775807 by omega)]
      exact same_l2 m self d hl hs h7 M (i + 1) (by omega) (by omega)
    · simp only [hlt, decide_false, cond_false, ref01_Same_j5, ref01_Same_j4, ref01_Same_j11, ref01_Same_j10, ref01_Same_j9, ref01_Same_j12, ref01_Same_j7, ref01_Same_j6, ref01_Same_j2, ref01_Same_j1, ref01_Same_j0, h7]
theorem same_refl : ∀ (N : Nat) (d : Dt), d.bulk ≤ N → N ≤ 1000000000000 → WV d → ∀ m, N ≤ m → ref01_Same (m + 1) d d = some true
  | 0, d, h, _, _, _, _ => by have := bulk_pos d; omega
  | N + 1, d, h, hN, hw, m, hm => by
    cases hw with
    | @mk k i t l ds hl hd =>
      rw [bulk_val] at h
      obtain ⟨m, rfl⟩ : ∃ q, m = q + 1 := ⟨m - 1, by omega⟩
      have hl1 := len_bulk l
      have hd1 := len_bulk ds
      have h7 := same_l7 (m + 1) (ref01_Same (m + 1)) (.agg [.int k, .int i, .str t, .lst l, .lst ds]) (show ds.length < _ by omega) (fun f hf => by
        have hf' : f ∈ ds := hf
        have hb := bulk_mem hf'
        cases hd f hf' with
        | @mk s v hv =>
          rw [bulk_fld] at hb
          exact same_refl N v (by omega) (by omega) hv m (by omega)) (m + 2) 0 (Nat.zero_le _) (show ds.length - 0 < m + 2 by omega)
      have h2 := same_l2 (m + 1) (ref01_Same (m + 1)) (.agg [.int k, .int i, .str t, .lst l, .lst ds]) (show l.length < _ by omega) (fun e he => same_refl N e (by have := bulk_mem (l := l) he; omega) (by omega) (hl e he) m (by omega)) h7 (m + 2) 0 (Nat.zero_le _) (show l.length - 0 < m + 2 by omega)
      simp only [ref01_Same, bne_self_eq_false, cond_false, beq_self_eq_true, Bool.not_true, ref01_Same_j5, ref01_Same_j4, ref01_Same_j11, ref01_Same_j10, ref01_Same_j9, ref01_Same_j12, ref01_Same_j7, ref01_Same_j6, ref01_Same_j2, ref01_Same_j1, ref01_Same_j0]
      exact h2
theorem wv_bulk6 {d : Dt} (hw : WV d) : Dt.bulkL (Dt.L d 3) + Dt.bulkL (Dt.L d 4) + 6 ≤ d.bulk := by
  cases hw with
  | @mk k i t l ds hl hd =>
    rw [bulk_val]
    show Dt.bulkL l + Dt.bulkL ds + 6 ≤ _
    omega
theorem samelist_refl (N : Nat) (l : List Dt) (h : Dt.bulkL l + 6 ≤ N) (hN : N ≤ 1000000000000) (hw : ∀ e ∈ l, WV e) (m : Nat) (hm : N ≤ m) : ref01_SameList (m + 2) l l = some true := by
  have hv : WV (.agg [.int 6, .int 0, .str (ByteArray.mk (List.toArray [])), .lst l, .lst []]) := .mk hw (by simp)
  have := same_refl N _ (by rw [bulk_val]; simp only [Dt.bulkL]; show _ + 0 + (0 + 6) ≤ N; omega) hN hv m hm
  simp only [ref01_SameList, this, Option.bind_some]

end Go.Proofs.YtfneddmmeadacaaGreatDoor
namespace Go.Proofs.YtfneddmmeadacaaGreatDoor
open Go.Am

theorem parse_loop (p q : ByteArray → Dt → Dt → Option (Bool × Dt)) (q' : Dt → Dt → Option (Dt × Bool)) (d x3 : Dt) (hl : (Dt.L d 4).length < 1000000000000)
    (hs : ∀ f ∈ Dt.L d 4, ∀ (s : Dt) (B : Nat), Inv s B → ∃ (X X' : Dt) (b : Bool), p (Dt.S f 0) (Dt.fld f 1) s = some (b, X) ∧ q' s f = some (X', b) ∧ (b = true → X' = X ∧ Inv X (B + 40 * f.bulk))) (m m' : Nat) (y2 : Dt) : ∀ (M M' i : Nat) (s : Dt), i ≤ (Dt.L d 4).length → (Dt.L d 4).length - i < M → (Dt.L d 4).length - i < M' → Inv s (20 + 40 * Dt.bulkL ((Dt.L d 4).take i)) →
    ∃ (X X' : Dt) (b : Bool), schema_parse_l2 m p M (Dt.L d 4) ((Dt.L d 4).length : Int) (i : Int) x3 s = some (X, b) ∧ ref14_parse_l2 m' q' M' (i : Int) d y2 s = some (X', b) ∧ (b = true → X' = X ∧ Inv X (20 + 40 * Dt.bulkL (Dt.L d 4)))
  | 0, _, i, _, _, h, _, _ => by omega
  | _ + 1, 0, i, _, _, _, h, _ => by omega
  | M + 1, M' + 1, i, s, hi, h, h', hv => by
    simp only [schema_parse_l2, ref14_parse_l2, dlt]
    by_cases hlt : i < (Dt.L d 4).length
    · obtain ⟨X, X', b, h1, h2, h3⟩ := hs _ (List.getElem_mem hlt) s _ hv
      simp only [hlt, decide_true, cond_true, schema_parse_j4, schema_parse_j3, schema_parse_j5, schema_parse_j1, schema_parse_j0, ref14_parse_j5, ref14_parse_j4, ref14_parse_j3, ref14_parse_j6, ref14_parse_j1, ref14_parse_j0, idx_lt hlt, Option.bind_some, h1, h2, wrapS (show i < 9223372036854775807 by omega)]
      cases b
      · simp only [Bool.not_false, cond_true]
        exact ⟨_, _, _, rfl, rfl, fun h => by cases h⟩
      · obtain ⟨e, hinv⟩ := h3 rfl
        subst e
        simp only [Bool.not_true, cond_false]
        refine parse_loop p q q' d x3 hl hs m m' y2 M M' (i + 1) _ (by omega) (by omega) (by omega) ⟨hinv.ws, hinv.bk, ?_⟩
        have := hinv.le
        rw [List.take_succ_eq_append_getElem hlt, bulkL_one]
        omega
    · have : i = (Dt.L d 4).length := by omega
      subst this
      simp only [hlt, decide_false, cond_false, schema_parse_j4, schema_parse_j3, schema_parse_j5, schema_parse_j1, schema_parse_j0, ref14_parse_j5, ref14_parse_j4, ref14_parse_j3, ref14_parse_j6, ref14_parse_j1, ref14_parse_j0]
      refine ⟨_, _, _, rfl, rfl, fun _ => ⟨rfl, ?_⟩⟩
      rw [List.take_of_length_le (Nat.le_refl _)] at hv
      exact hv
theorem parse_sim : ∀ (N : Nat) (d : Dt), d.bulk ≤ N → N ≤ 1000000000 → WV d → ∀ m m' : Nat, 4 * N + 80 ≤ m → 4 * N + 80 ≤ m' →
    PaOK (schema_parse (m + 1)) (ref14_parse (m' + 1)) d ∧ ∃ (r : List Dt) (b : Bool), schema_parseProps (m + 2) d = some (r, b) ∧ ref14_props (m' + 2) d = some (r, b) ∧ (b = true → (∀ x ∈ r, WS (Dt.fld x 1)) ∧ Dt.bulkL r ≤ 40 * d.bulk)
  | 0, d, h, _, _, _, _, _, _ => by have := bulk_pos d; omega
  | N + 1, d, h, hN, hw, m, m', hm, hm' => by
    obtain ⟨m, rfl⟩ : ∃ q, m = q + 4 := ⟨m - 4, by omega⟩
    obtain ⟨m', rfl⟩ : ∃ q, m' = q + 4 := ⟨m' - 4, by omega⟩
    have l4 := L_bulk d 4
    have n4 := len_bulk (Dt.L d 4)
    have hf4 : ∀ f ∈ Dt.L d 4, ∃ (nm : ByteArray) (v : Dt), f = .agg [.str nm, v] ∧ WV v ∧ v.bulk + nm.size + 2 = f.bulk ∧ f.bulk ≤ Dt.bulkL (Dt.L d 4) := by
      cases hw with
      | @mk k i t l ds hl hd =>
        intro f hf
        have hb := bulk_mem (show f ∈ ds from hf)
        cases hd f hf with
        | @mk s v hv => exact ⟨s, v, rfl, hv, (bulk_fld ..).symm, hb⟩
    have ih : ∀ v : Dt, WV v → v.bulk ≤ N → ∀ q q' : Nat, 4 * N + 80 ≤ q → 4 * N + 80 ≤ q' → PaOK (schema_parse (q + 1)) (ref14_parse (q' + 1)) v ∧ ∃ (r : List Dt) (b : Bool), schema_parseProps (q + 2) v = some (r, b) ∧ ref14_props (q' + 2) v = some (r, b) ∧ (b = true → (∀ x ∈ r, WS (Dt.fld x 1)) ∧ Dt.bulkL r ≤ 40 * v.bulk) := fun v hv hb q q' hq hq' => parse_sim N v hb (by omega) hv q q' hq hq'
    have main : ∀ e : Nat, e ≤ 1 → PaOK (schema_parse (m + 4 + e)) (ref14_parse (m' + 4 + e)) d := fun e he => by
      obtain ⟨u, hu⟩ : ∃ u, m + 4 + e = u + 2 := ⟨m + 2 + e, by omega⟩
      obtain ⟨u', hu'⟩ : ∃ u, m' + 4 + e = u + 2 := ⟨m' + 2 + e, by omega⟩
      rw [hu, hu']
      have hfs : ∀ f ∈ Dt.L d 4, ∀ (s : Dt) (B : Nat), Inv s B → ∃ (X X' : Dt) (b : Bool), i16 (u + 1) (Dt.S f 0) (Dt.fld f 1) s = some (b, X) ∧ ref14_field (u' + 1) s f = some (X', b) ∧ (b = true → X' = X ∧ Inv X (B + 40 * f.bulk)) := fun f hf s B hs => by
        obtain ⟨nm, v, rfl, hv, hb1, hb2⟩ := hf4 f hf
        obtain ⟨hp, _⟩ := ih v hv (by omega) (u - 1) (u' - 1) (by omega) (by omega)
        obtain ⟨_, hr⟩ := ih v hv (by omega) (u - 2) (u' - 2) (by omega) (by omega)
        rw [show u - 1 + 1 = u by omega, show u' - 1 + 1 = u' by omega] at hp
        rw [show u - 2 + 2 = u by omega, show u' - 2 + 2 = u' by omega] at hr
        obtain ⟨X, X', b, f1, f2, f3⟩ := field_sim N (by omega) u u' (by omega) (by omega) v nm hv (by omega) hp hr s B hs
        refine ⟨X, X', b, f1, f2, fun h => ⟨(f3 h).1, (f3 h).2.ws, (f3 h).2.bk, ?_⟩⟩
        have := (f3 h).2.le
        omega
      have := parse_loop (i16 (u + 1)) (i16 (u + 1)) (ref14_field (u' + 1)) d kza2d60 (by omega) hfs (u + 1) (u' + 1) kza2d60 (u + 2) (u' + 2) 0 kz8469e (Nat.zero_le _) (by omega) (by omega) (by simpa [Dt.bulkL] using start_inv)
      obtain ⟨X, X', b, h1, h2, h3⟩ := this
      unfold PaOK
      rw [schema_parse, ref14_parse]
      simp only [schema_parse_j4, schema_parse_j3, schema_parse_j5, schema_parse_j1, schema_parse_j0, ref14_parse_j5, ref14_parse_j4, ref14_parse_j3, ref14_parse_j6, ref14_parse_j1, ref14_parse_j0]
      cases (Dt.I d 0 != 5)
      · refine ⟨X, X', b, h1, h2, fun hb => ?_⟩
        obtain ⟨e, hinv⟩ := h3 hb
        have h4 := hinv.bk
        have h5 := hinv.le
        have h6 := wv_bulk6 hw
        exact ⟨e, hinv.ws, by omega⟩
      · exact ⟨_, _, false, rfl, rfl, fun h => by cases h⟩
    refine ⟨main 1 (by omega), ?_⟩
    have hprops : ∀ f ∈ Dt.L d 4, PaOK (schema_parse (m + 5)) (ref14_parse (m' + 5)) (Dt.fld f 1) ∧ (Dt.fld f 1).bulk + (Dt.S f 0).size + 2 ≤ f.bulk := fun f hf => by
      obtain ⟨nm, v, rfl, hv, hb1, hb2⟩ := hf4 f hf
      exact ⟨(ih v hv (by omega) (m + 4) (m' + 4) (by omega) (by omega)).1, Nat.le_of_eq hb1⟩
    obtain ⟨r, b, h1, h2, h3⟩ := ppr_sim (schema_parse (m + 5)) (ref14_parse (m' + 5)) d (by omega) hprops (m + 5) (m' + 5) (m + 6) (m' + 6) 0 [] (Nat.zero_le _) (by omega) (by omega) (Nat.le_refl _) (fun x hx => by cases hx) (by simp [Dt.bulkL])
    rw [schema_parseProps, ref14_props]
    simp only [schema_parseProps_j5, schema_parseProps_j4, schema_parseProps_j3, schema_parseProps_j6, schema_parseProps_j1, schema_parseProps_j0, ref14_props_j5, ref14_props_j4, ref14_props_j3, ref14_props_j6, ref14_props_j1, ref14_props_j0]
    cases (Dt.I d 0 != 5)
    · exact ⟨r, b, h1, h2, fun h => ⟨(h3 h).1, by have := (h3 h).2; omega⟩⟩
    · exact ⟨_, _, rfl, rfl, fun h => by cases h⟩
end Go.Proofs.YtfneddmmeadacaaGreatDoor
