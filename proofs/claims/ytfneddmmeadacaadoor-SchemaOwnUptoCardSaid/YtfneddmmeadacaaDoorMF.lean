/- The violations of a schema: the parts of the walk.
The violations of a schema: its own ones come first.
The violations of a schema: the children's; the walk ends.
The violations of a schema: the walk ends, and a schema's own violations come first. -/
import Derived.Test.YtfneddmmeadacaaDoorMD
import Derived.Test.YtfneddmmeadacaaDoorMCm
import Derived.Test.YtfneddmmeadacaaDoorME
set_option linter.unusedVariables false
set_option linter.unusedSimpArgs false
namespace Go.Proofs.YtfneddmmeadacaaDoor
open Go.Am Go.Am.Srt

theorem concat2 (m : Nat) (a b : List Dt) (h : a.length + b.length ≤ 100000000000) : slices_Concat (m + 5) [.lst a, .lst b] = some (a ++ b) := by
  have w1 : IntKind.wrap IntKind.i64 ((0 : Int) + ((a.length : Nat) : Int)) = ((a.length : Nat) : Int) := by rw [wrap64 (by omega) (by omega)]; omega
  have w2 : IntKind.wrap IntKind.i64 (((a.length : Nat) : Int) + ((b.length : Nat) : Int)) = ((a.length + b.length : Nat) : Int) := by rw [wrap64 (by omega) (by omega)]; omega
  have w3 : IntKind.wrap IntKind.i64 ((0 : Int) + 1) = 1 := rfl
  have w4 : IntKind.wrap IntKind.i64 ((1 : Int) + 1) = 2 := rfl
  have n1 : decide (((a.length : Nat) : Int) < 0) = false := decide_eq_false (by omega)
  have n2 : decide (((a.length + b.length : Nat) : Int) < 0) = false := decide_eq_false (by omega)
  have x0 : idx [Dt.lst a, Dt.lst b] 0 = some (.lst a) := rfl
  have x1 : idx [Dt.lst a, Dt.lst b] 1 = some (.lst b) := rfl
  have ll : ((List.length [Dt.lst a, Dt.lst b] : Nat) : Int) = 2 := rfl
  have g : slices_Grow ((a.length + b.length : Nat) : Int) = some [] := by
    unfold slices_Grow
    rw [decide_eq_true (show (0 : Int) ≤ ((a.length + b.length : Nat) : Int) by omega), decide_eq_true (show ((a.length + b.length : Nat) : Int) ≤ 1099511627776 by omega)]; rfl
  have d0 : decide ((0 : Int) < 2) = true := rfl
  have d1 : decide ((1 : Int) < 2) = true := rfl
  have d2 : decide ((2 : Int) < 2) = false := rfl
  have t1 : Dt.toLst (.lst a) = a := rfl
  have t2 : Dt.toLst (.lst b) = b := rfl
  simp only [slices_Concat, slices_Concat_j3, slices_Concat_j2, slices_Concat_j8, slices_Concat_j7, slices_Concat_j9, slices_Concat_j5, slices_Concat_j4, slices_Concat_j0, slices_Concat_l1, slices_Concat_l6, ll, d0, d1, d2, cond_true, cond_false, x0, x1, Option.bind_some, t1, t2, w1, w2, w3, w4, n1, n2, g]
  rw [app_le (by simp; omega)]
  simp only [Option.bind_some, List.nil_append]
  rw [app_le (by omega)]
  rfl
/-- A violation. -/
def vio (p st : List Dt) (r : Int) : Dt := .agg [.lst (p ++ st), .int r]
theorem add_eq (m : Nat) (b : Bool) (r : Int) (st l p : List Dt) (hp : p.length + st.length ≤ 100000000000) (hl : l.length < 137438953472) : i15 (m + 6) b r st l p = some (p, l ++ bif b then [vio p st r] else []) := by
  cases b
  · simp only [i15, cond_false, List.append_nil]
  · simp only [i15, cond_true, concat2 m p st hp, Option.bind_some]
    rw [app_le (by simp; omega)]
    rfl
theorem has_tot (m : Nat) (a b : Int) : ∃ r, schema_hasKind (m + 1) a b = some r := by
  simp only [schema_hasKind]
  cases (a == 0)
  · cases h : decide ((0 : Int) ≤ b)
    · exact ⟨_, rfl⟩
    · simp only [cond_true, cond_false]
      cases decide (b ≤ 11) <;> exact ⟨_, rfl⟩
  · exact ⟨_, rfl⟩
theorem len_tot (m : Nat) (v : Dt) : ∃ n b, schema_length (m + 1) v = some (n, b) := by
  simp only [schema_length, schema_length_j1, schema_length_j0]
  cases (Dt.I v 0 == 4) <;> cases (Dt.I v 0 == 7) <;> cases (Dt.I v 0 == 6) <;> exact ⟨_, _, rfl⟩
theorem equal_D (a b : Dt) (m : Nat) (hm : a.bulk ≤ m) (hm2 : a.bulk < 1000000000000) : value_Equal (m + 4) a b = some (cmpD a b == 0) := by
  rw [value_Equal, vcmp_D a b m hm hm2]; rfl
theorem enum_loop (m : Nat) (v : Dt) (L : List Dt) (hL : Dt.bulkL L ≤ m) (hm2 : m < 1000000000000) : ∀ (M i : Nat), i ≤ L.length → L.length - i < M → ∃ r, i12_l1 (m + 5) M L v (L.length : Int) (i : Int) = some r
  | 0, i, _, h => by omega
  | M + 1, i, hi, h => by
    have := len_bulkA L
    simp only [i12_l1, dlt]
    by_cases hlt : i < L.length
    · have hb := bulk_memA (List.getElem_mem hlt)
      simp only [hlt, decide_true, cond_true, i12_j3, i12_j2, i12_j4, i12_j0, idx_lt hlt, Option.bind_some, i13, equal_D L[i] v m (by omega) (by omega), wrapS (show i < 9223372036854775807 by omega)]
      cases (cmpD L[i] v == 0)
      · exact enum_loop m v L hL hm2 M (i + 1) (by omega) (by omega)
      · exact ⟨_, rfl⟩
    · simp only [hlt, decide_false, cond_false, i12_j3, i12_j2, i12_j4, i12_j0]
      exact ⟨_, rfl⟩
theorem enum_tot (m : Nat) (v : Dt) (L : List Dt) (hL : Dt.bulkL L ≤ m) (hm2 : m < 1000000000000) : ∃ b, i11 (m + 7) L v = some b := by
  have := len_bulkA L
  obtain ⟨r, h⟩ := enum_loop m v L hL hm2 (m + 6) 0 (Nat.zero_le _) (by omega)
  have h' : i12 (m + 6) L v = some r := h
  refine ⟨decide (0 ≤ r), ?_⟩
  simp only [i11, h', Option.bind_some]
theorem field_loop (m : Nat) (x : ByteArray) (L : List Dt) (hl : L.length < 9223372036854775807) (z : Dt) : ∀ (M i : Nat), i ≤ L.length → L.length - i < M → (∃ f ∈ L, schema_field_l1 m M x L (L.length : Int) (i : Int) z = some (Dt.fld f 1, true)) ∨ schema_field_l1 m M x L (L.length : Int) (i : Int) z = some (kza2373, false)
  | 0, i, _, h => by omega
  | M + 1, i, hi, h => by
    simp only [schema_field_l1, dlt]
    by_cases hlt : i < L.length
    · simp only [hlt, decide_true, cond_true, schema_field_j3, schema_field_j2, schema_field_j4, schema_field_j0, idx_lt hlt, Option.bind_some, wrapS (show i < 9223372036854775807 by omega)]
      cases (ByteArray.toList (Dt.S L[i] 0) == ByteArray.toList x)
      · exact field_loop m x L hl z M (i + 1) (by omega) (by omega)
      · exact .inl ⟨_, List.getElem_mem hlt, rfl⟩
    · simp only [hlt, decide_false, cond_false, schema_field_j3, schema_field_j2, schema_field_j4, schema_field_j0]
      exact .inr trivial
theorem field_tot (m : Nat) (v : Dt) (x : ByteArray) (hm : v.bulk ≤ m) (hm2 : m < 9223372036854775807) : (∃ f ∈ Dt.L v 4, schema_field (m + 1) v x = some (Dt.fld f 1, true)) ∨ schema_field (m + 1) v x = some (kza2373, false) := by
  have := L_len v 4
  exact field_loop m x (Dt.L v 4) (by omega) kza2373 (m + 1) 0 (Nat.zero_le _) (by omega)
theorem rep_loop (m : Nat) (L : List Dt) (hL : ∀ e ∈ L, e.bulk ≤ m) (hm2 : m < 1000000000000) (hl : L.length < 1000000000000) : ∀ (M i : Nat), 1 ≤ i → L.length + 1 - i < M → ∃ b, schema_repeats_l1 (m + 4) M (i : Int) L = some b
  | 0, i, _, h => by omega
  | M + 1, i, hi, h => by
    simp only [schema_repeats_l1, dlt]
    by_cases hlt : i < L.length
    · have w : IntKind.wrap IntKind.i64 ((i : Int) - 1) = ((i - 1 : Nat) : Int) := by rw [wrap64 (by omega) (by omega)]; omega
      have h1 : i - 1 < L.length := by omega
      have a1 : inL L ((i - 1 : Nat) : Int) = some () := by unfold inL; rw [if_pos (by omega)]
      have a2 : inL L (i : Int) = some () := by unfold inL; rw [if_pos (by omega)]
      have b1 : L[i - 1]? = some L[i - 1] := by simp [h1]
      have b2 : L[i]? = some L[i] := by simp [hlt]
      simp only [hlt, decide_true, cond_true, schema_repeats_j3, schema_repeats_j2, schema_repeats_j4, schema_repeats_j0, w, a1, a2, Int.toNat_natCast, b1, b2, Option.bind_some, equal_D L[i - 1] L[i] m (hL _ (List.getElem_mem h1)) (by have := hL _ (List.getElem_mem h1); omega), wrapS (show i < 9223372036854775807 by omega)]
      cases (cmpD L[i - 1] L[i] == 0)
      · exact rep_loop m L hL hm2 hl M (i + 1) (by omega) (by omega)
      · exact ⟨_, rfl⟩
    · simp only [hlt, decide_false, cond_false, schema_repeats_j3, schema_repeats_j2, schema_repeats_j4, schema_repeats_j0]
      exact ⟨_, rfl⟩
theorem rep_tot (L : List Dt) (hL : Dt.bulkL L ≤ 1048576) (m : Nat) (hm : 3000000000 ≤ m) (hm2 : m < 900000000000) : ∃ b, schema_repeats (m + 5) L = some b := by
  have hn := len_bulkA L
  have hc : slices_Clone L = some L := by
    unfold slices_Clone
    rw [show Nat.ble L.length 137438953472 = true from (by rw [Nat.ble_eq]; omega)]; rfl
  have hs := stable_eq tpoD (P := fun x : Dt => x.bulk ≤ 1048576) (m0 := 1048579) (fun m hm x y hx _ => by
    obtain ⟨q, rfl⟩ : ∃ q, m = q + 3 := ⟨m - 3, by omega⟩
    exact vcmp_D x y q (by omega) (by omega)) (m + 2) 1000000000 (by omega) (by omega) (by omega) L (by omega) (fun x hx => by have := bulk_memA hx; omega)
  have hs' : i32 (m + 4) L = some (isort (ltc cmpD) L) := hs
  obtain ⟨b, hb⟩ := rep_loop m (isort (ltc cmpD) L) (fun e he => by have := bulk_memA (mem_isort.1 he); omega) (by omega) (by rw [isort_len]; omega) (m + 5) 1 (by omega) (by rw [isort_len]; omega)
  refine ⟨b, ?_⟩
  have hb' : schema_repeats_l1 (m + 4) (m + 5) 1 (isort (ltc cmpD) L) = some b := hb
  simp only [schema_repeats, hc, hs', Option.bind_some, schema_repeats_j3, schema_repeats_j2, schema_repeats_j4, schema_repeats_j0]
  exact hb'
end Go.Proofs.YtfneddmmeadacaaDoor
namespace Go.Proofs.YtfneddmmeadacaaDoor
open Go.Am

/-- Schemas that differ in their children and in Closed only. -/
structure Sm (s t : Dt) : Prop where
  i0 : Dt.I t 0 = Dt.I s 0
  b1 : Dt.B t 1 = Dt.B s 1
  f2 : Dt.fld t 2 = Dt.fld s 2
  b3 : Dt.B t 3 = Dt.B s 3
  f4 : Dt.fld t 4 = Dt.fld s 4
  l5 : Dt.L t 5 = Dt.L s 5
  i6 : Dt.I t 6 = Dt.I s 6
  i7 : Dt.I t 7 = Dt.I s 7
  l8 : Dt.L t 8 = Dt.L s 8
  b12 : Dt.B t 12 = Dt.B s 12
theorem Sm.refl (s : Dt) : Sm s s := ⟨rfl, rfl, rfl, rfl, rfl, rfl, rfl, rfl, rfl, rfl⟩
/-- None of them is of RuleClosed. -/
def NoC (e : List Dt) : Prop := ∀ x ∈ e, (Dt.I x 1 == 7) = false
theorem noc_nil : NoC [] := fun x h => by cases h
theorem noc_app {a b : List Dt} (h : NoC a) (g : NoC b) : NoC (a ++ b) := fun x hx => by
  rcases List.mem_append.1 hx with h1 | h1
  · exact h x h1
  · exact g x h1
theorem noc_one {c : Bool} {p st : List Dt} {r : Int} (h : (r == 7) = false) : NoC (bif c then [vio p st r] else []) := fun x hx => by
  cases c
  · cases hx
  · cases hx with
    | head => exact h
    | tail _ hx => cases hx
theorem one_len {c : Bool} {x : Dt} : (bif c then [x] else []).length ≤ 1 := by cases c <;> simp
variable {self : Dt → Dt → List Dt → List Dt → Option (List Dt)} {s v : Dt} {p : List Dt}
theorem st_j2 (m : Nat) (hp : p.length ≤ 10000000000) : ∃ e, e.length ≤ 1 ∧ NoC e ∧ ∀ t, Sm s t → ∀ l : List Dt, l.length < 137438953472 → i22_j2 (m + 6) self l t v p = i22_j3 (m + 6) self (l ++ e) t v p := by
  obtain ⟨n, b, hn⟩ := len_tot (m + 5) v
  have hn' : schema_length (m + 6) v = some (n, b) := hn
  refine ⟨bif (b && (decide (n < Dt.I s 6) || (decide (0 ≤ Dt.I s 7) && decide (Dt.I s 7 < n)))) then [vio p [] 5] else [], one_len, noc_one rfl, fun t h l hl => ?_⟩
  simp only [i22_j2, hn', Option.bind_some, h.i6, h.i7, fun (c : Bool) (r : Int) => add_eq m c r [] l p (by simp; omega) hl]
  cases b <;> cases decide (n < Dt.I s 6) <;> cases decide (0 ≤ Dt.I s 7) <;> rfl
theorem st_j1 (m : Nat) (hm : v.bulk ≤ m) (hv : v.bulk < 1000000000000) (hp : p.length ≤ 10000000000) : ∃ e, e.length ≤ 1 ∧ NoC e ∧ ∀ t, Sm s t → ∀ l : List Dt, l.length < 137438953472 → i22_j1 (m + 6) self l t v p = i22_j2 (m + 6) self (l ++ e) t v p := by
  refine ⟨bif (Dt.B s 3 && decide (0 < cmpD v (Dt.fld s 4))) then [vio p [] 4] else [], one_len, noc_one rfl, fun t h l hl => ?_⟩
  have hc := vcmp_D v (Dt.fld s 4) (m + 3) (by omega) hv
  have hc' : value_Compare (m + 6) v (Dt.fld s 4) = _ := hc
  simp only [i22_j1, hc', Option.bind_some, h.b3, h.f4, fun (c : Bool) (r : Int) => add_eq m c r [] l p (by simp; omega) hl]
  cases Dt.B s 3 <;> rfl
theorem st_j0 (m : Nat) (hm : v.bulk ≤ m) (hv : v.bulk < 1000000000000) (hp : p.length ≤ 10000000000) : ∃ e, e.length ≤ 1 ∧ NoC e ∧ ∀ t, Sm s t → ∀ l : List Dt, l.length < 137438953472 → i22_j0 (m + 6) self l t v p = i22_j1 (m + 6) self (l ++ e) t v p := by
  refine ⟨bif (Dt.B s 1 && decide (cmpD v (Dt.fld s 2) < 0)) then [vio p [] 3] else [], one_len, noc_one rfl, fun t h l hl => ?_⟩
  have hc := vcmp_D v (Dt.fld s 2) (m + 3) (by omega) hv
  have hc' : value_Compare (m + 6) v (Dt.fld s 2) = _ := hc
  simp only [i22_j0, hc', Option.bind_some, h.b1, h.f2, fun (c : Bool) (r : Int) => add_eq m c r [] l p (by simp; omega) hl]
  cases Dt.B s 1 <;> rfl
/-- Up to the rule on lengths. -/
theorem st_head (m : Nat) (hm : v.bulk + s.bulk + 10 ≤ m) (hm2 : m < 1000000000000) (hv : v.bulk + s.bulk < 100000000000) (hp : p.length ≤ 10000000000) : ∃ e, e.length ≤ 5 ∧ NoC e ∧ ∀ t, Sm s t → ∀ l : List Dt, l.length + 5 ≤ 137438953472 → i22 (m + 7) t v p l = i22_j3 (m + 6) (i22 (m + 6)) (l ++ e) t v p := by
  obtain ⟨b0, h0⟩ := has_tot (m + 5) (Dt.I s 0) (Dt.I v 0)
  have h0' : schema_hasKind (m + 6) (Dt.I s 0) (Dt.I v 0) = some b0 := h0
  have hL := L_bulk s 5
  obtain ⟨be, he⟩ := enum_tot (m - 1) v (Dt.L s 5) (by omega) (by omega)
  have he' : i11 (m + 6) (Dt.L s 5) v = some be := by rw [show m - 1 + 7 = m + 6 by omega] at he; exact he
  obtain ⟨e0, l0, n0, q0⟩ := st_j0 (self := i22 (m + 6)) (s := s) (v := v) (p := p) m (by omega) (by omega) hp
  obtain ⟨e1, l1, n1, q1⟩ := st_j1 (self := i22 (m + 6)) (s := s) (v := v) (p := p) m (by omega) (by omega) hp
  obtain ⟨e2, l2, n2, q2⟩ := st_j2 (self := i22 (m + 6)) (s := s) (v := v) (p := p) m hp
  refine ⟨(bif !b0 then [vio p [] 1] else []) ++ ((bif (decide (0 < ((Dt.L s 5).length : Int)) && !be) then [vio p [] 2] else []) ++ (e0 ++ (e1 ++ e2))), ?_, noc_app (noc_one rfl) (noc_app (noc_one rfl) (noc_app n0 (noc_app n1 n2))), fun t h l hl => ?_⟩
  · have a := @one_len (!b0) (vio p [] 1)
    have b := @one_len (decide (0 < ((Dt.L s 5).length : Int)) && !be) (vio p [] 2)
    simp only [List.length_append]
    omega
  · have a := @one_len (!b0) (vio p [] 1)
    have b := @one_len (decide (0 < ((Dt.L s 5).length : Int)) && !be) (vio p [] 2)
    rw [i22]
    simp only [h.i0, h.l5, h0', Option.bind_some]
    rw [add_eq m (!b0) 1 [] l p (by simp; omega) (by omega)]
    simp only [Option.bind_some]
    have hl1 : (l ++ bif !b0 then [vio p [] 1] else []).length + 4 ≤ 137438953472 := by rw [List.length_append]; omega
    have er : ∀ x y z w : List Dt, l ++ (x ++ (y ++ (e0 ++ (e1 ++ e2)))) = (((l ++ x ++ y) ++ e0) ++ e1) ++ e2 := fun x y _ _ => by simp only [List.append_assoc]
    rw [er _ _ [] []]
    generalize (l ++ bif !b0 then [vio p [] 1] else []) = l1 at hl1 ⊢
    have k : (bif decide (0 < ((Dt.L s 5).length : Int)) then ((i11 (m + 6) (Dt.L s 5) v).bind fun r2 => (i15 (m + 6) (!r2) 2 [] l1 p).bind fun r3 => i22_j0 (m + 6) (i22 (m + 6)) r3.2 t v r3.1) else (i15 (m + 6) false 2 [] l1 p).bind fun r34 => i22_j0 (m + 6) (i22 (m + 6)) r34.2 t v r34.1) = i22_j0 (m + 6) (i22 (m + 6)) (l1 ++ (bif (decide (0 < ((Dt.L s 5).length : Int)) && !be) then [vio p [] 2] else [])) t v p := by
      rw [he']
      simp only [Option.bind_some, fun (c : Bool) (r : Int) => add_eq m c r [] l1 p (by simp; omega) (by omega)]
      cases decide (0 < ((Dt.L s 5).length : Int))
      · simp only [cond_false, Bool.false_and]
      · simp only [cond_true, Bool.true_and]
    refine k.trans ?_
    have hl2 : (l1 ++ (bif (decide (0 < ((Dt.L s 5).length : Int)) && !be) then [vio p [] 2] else [])).length + 3 ≤ 137438953472 := by rw [List.length_append]; omega
    generalize (l1 ++ (bif (decide (0 < ((Dt.L s 5).length : Int)) && !be) then [vio p [] 2] else [])) = l2 at hl2 ⊢
    rw [q0 t h _ (by omega), q1 t h _ (by rw [List.length_append]; omega), q2 t h _ (by simp only [List.length_append]; omega)]
/-- Required fields. -/
theorem st_req (m : Nat) (hm : v.bulk + 10 ≤ m) (hm2 : m < 1000000000000) (hp : p.length ≤ 10000000000) (L : List Dt) (hl : L.length < 1000000000000) : ∀ (M i : Nat), i ≤ L.length → L.length - i < M →
    ∃ e, e.length ≤ L.length - i ∧ NoC e ∧ ∀ t, ∀ l : List Dt, l.length + (L.length - i) ≤ 137438953472 → i22_l5 (m + 6) self M L (L.length : Int) (i : Int) l t v p = i22_j8 (m + 6) self (l ++ e) t v p
  | 0, i, _, h => by omega
  | M + 1, i, hi, h => by
    by_cases hlt : i < L.length
    · obtain ⟨e, k1, k2, k3⟩ := st_req m hm hm2 hp L hl M (i + 1) (by omega) (by omega)
      obtain ⟨r, b, hr⟩ : ∃ r b, schema_field (m + 6) v (Dt.toStr L[i]) = some (r, b) := by
        rcases field_tot (m + 5) v (Dt.toStr L[i]) (by omega) (by omega) with ⟨f, _, h⟩ | h
        · exact ⟨_, _, h⟩
        · exact ⟨_, _, h⟩
      refine ⟨(bif !b then [vio p [Dt.str (Dt.toStr L[i])] 6] else []) ++ e, ?_, noc_app (noc_one rfl) k2, fun t l hl' => ?_⟩
      · have a := @one_len (!b) (vio p [Dt.str (Dt.toStr L[i])] 6)
        simp only [List.length_append]
        omega
      · have a := @one_len (!b) (vio p [Dt.str (Dt.toStr L[i])] 6)
        simp only [i22_l5, dlt, hlt, decide_true, cond_true, i22_j6, i22_j7, idx_lt hlt, hr, Option.bind_some, wrapS (show i < 9223372036854775807 by omega)]
        rw [add_eq m (!b) 6 _ l p (by simp; omega) (by omega)]
        simp only [Option.bind_some]
        rw [k3 t _ (by simp only [List.length_append]; omega), List.append_assoc]
    · refine ⟨[], by simp, noc_nil, fun t l hl' => ?_⟩
      simp only [i22_l5, dlt, hlt, decide_false, cond_false, List.append_nil]
/-- The rule Unique. -/
theorem st_uni (m : Nat) (hm : 3000000010 ≤ m) (hm2 : m < 800000000000) (hv : v.bulk ≤ 1048576) (hp : p.length ≤ 10000000000) : ∃ e, e.length ≤ 1 ∧ NoC e ∧ ∀ t, Sm s t → ∀ l : List Dt, l.length < 137438953472 → i22_j18 (m + 6) self l t v p = bif Dt.I v 0 == 6 then i22_j19 (m + 6) self (l ++ e) t v p else some l := by
  have hL := L_bulk v 3
  obtain ⟨b, hb⟩ := rep_tot (Dt.L v 3) (by omega) (m + 1) (by omega) (by omega)
  have hb' : schema_repeats (m + 6) (Dt.L v 3) = some b := hb
  refine ⟨bif Dt.B s 12 && b then [vio p [] 8] else [], one_len, noc_one rfl, fun t h l hl => ?_⟩
  simp only [i22_j18, i22_j28, h.b12, hb', Option.bind_some, fun (c : Bool) (r : Int) => add_eq m c r [] l p (by simp; omega) hl]
  cases Dt.B s 12 <;> rfl
end Go.Proofs.YtfneddmmeadacaaDoor
namespace Go.Proofs.YtfneddmmeadacaaDoor
open Go.Am

/-- What a call for a child gives. -/
def HV (self : Dt → Dt → List Dt → List Dt → Option (List Dt)) (c : Dt) : Prop :=
  ∀ (x : Dt) (p l : List Dt), WV x → x.bulk ≤ 1048576 → p.length + c.bulk ≤ 10000000 → 3 * l.length + c.bulk * x.bulk ≤ 412316860416 → ∃ r, self c x p l = some (l ++ r) ∧ 3 * r.length ≤ c.bulk * x.bulk
theorem bulk_drop {L : List Dt} {i : Nat} (h : i < L.length) : Dt.bulkL (L.drop i) = L[i].bulk + Dt.bulkL (L.drop (i + 1)) := by rw [List.drop_eq_getElem_cons h]; rfl
theorem wv6 {v : Dt} (h : WV v) : 6 ≤ v.bulk := by
  cases h with
  | mk hl hd => simp only [Dt.bulk, Dt.bulkL]; omega
variable {self : Dt → Dt → List Dt → List Dt → Option (List Dt)} {t v : Dt} {p : List Dt}
theorem named_loop (m : Nat) (f : Dt) (L : List Dt) (hl : L.length < 1000000000000) : ∀ (M i : Nat), i ≤ L.length → L.length - i < M → ∃ r, i20_l1 (m + 1) M L f (L.length : Int) (i : Int) = some r
  | 0, i, _, h => by omega
  | M + 1, i, hi, h => by
    simp only [i20_l1, dlt]
    by_cases hlt : i < L.length
    · simp only [hlt, decide_true, cond_true, i20_j3, i20_j2, i20_j4, i20_j0, idx_lt hlt, Option.bind_some, i21, wrapS (show i < 9223372036854775807 by omega)]
      cases (ByteArray.toList (Dt.S L[i] 0) == ByteArray.toList (Dt.S f 0))
      · exact named_loop m f L hl M (i + 1) (by omega) (by omega)
      · exact ⟨_, rfl⟩
    · simp only [hlt, decide_false, cond_false, i20_j3, i20_j2, i20_j4, i20_j0]
      exact ⟨_, rfl⟩
theorem named_tot (m : Nat) (f : Dt) (L : List Dt) (hm : L.length ≤ m) (hl : L.length < 1000000000000) : ∃ b, i19 (m + 3) L f = some b := by
  obtain ⟨r, h⟩ := named_loop m f L hl (m + 2) 0 (Nat.zero_le _) (by omega)
  have h' : i20 (m + 2) L f = some r := h
  refine ⟨decide (0 ≤ r), ?_⟩
  simp only [i19, h', Option.bind_some]
/-- The fields of the document, where the schema is closed. -/
theorem st_clo (m : Nat) (hm : (Dt.L t 9).length + 10 ≤ m) (hm2 : m < 900000000000) (hp : p.length ≤ 10000000000) (L : List Dt) (hl : L.length < 1000000000000) : ∀ (M i : Nat), i ≤ L.length → L.length - i < M →
    ∃ e, e.length ≤ L.length - i ∧ (Dt.B t 10 = false → e = []) ∧ ∀ l : List Dt, l.length + (L.length - i) ≤ 137438953472 → i22_l10 (m + 6) self M L (L.length : Int) (i : Int) l t v p = i22_j13 (m + 6) self (l ++ e) t v p
  | 0, i, _, h => by omega
  | M + 1, i, hi, h => by
    by_cases hlt : i < L.length
    · obtain ⟨e, k1, k2, k3⟩ := st_clo m hm hm2 hp L hl M (i + 1) (by omega) (by omega)
      obtain ⟨b, hb⟩ := named_tot (m + 3) L[i] (Dt.L t 9) (by omega) (by omega)
      have hb' : i19 (m + 6) (Dt.L t 9) L[i] = some b := hb
      have a := @one_len (Dt.B t 10 && !b) (vio p [Dt.str (Dt.S L[i] 0)] 7)
      refine ⟨(bif Dt.B t 10 && !b then [vio p [Dt.str (Dt.S L[i] 0)] 7] else []) ++ e, ?_, fun h => ?_, fun l hl' => ?_⟩
      · simp only [List.length_append]
        omega
      · rw [h, k2 h]; rfl
      · simp only [i22_l10, dlt, hlt, decide_true, cond_true, i22_j11, i22_j12, idx_lt hlt, hb', Option.bind_some, wrapS (show i < 9223372036854775807 by omega)]
        simp only [fun (c : Bool) (r : Int) => add_eq m c r [Dt.str (Dt.S L[i] 0)] l p (by simp; omega) (by omega), Option.bind_some]
        have k4 := k3 (l ++ bif Dt.B t 10 && !b then [vio p [Dt.str (Dt.S L[i] 0)] 7] else []) (by simp only [List.length_append]; omega)
        rw [← List.append_assoc, ← k4]
        cases Dt.B t 10 <;> rfl
    · refine ⟨[], by simp, fun _ => rfl, fun l hl' => ?_⟩
      simp only [i22_l10, dlt, hlt, decide_false, cond_false, List.append_nil]
/-- The fields of Props. -/
theorem st_props (m : Nat) (hm : v.bulk + 10 ≤ m) (hm2 : m < 1000000000000) (hw : WV v) (hv : v.bulk ≤ 1048576) (L : List Dt) (hp : p.length + Dt.bulkL L < 10000000) (hs : ∀ q ∈ L, HV self (Dt.fld q 1)) : ∀ (M i : Nat), i ≤ L.length → L.length - i < M → ∀ l : List Dt, 3 * l.length + Dt.bulkL (L.drop i) * v.bulk ≤ 412316860416 →
    ∃ r, 3 * r.length ≤ Dt.bulkL (L.drop i) * v.bulk ∧ i22_l15 (m + 6) self M L (L.length : Int) (i : Int) l t v p = i22_j18 (m + 6) self (l ++ r) t v p
  | 0, i, _, h => by omega
  | M + 1, i, hi, h => by
    intro l hl
    have hn := len_bulkA L
    obtain ⟨_, _, _, p4⟩ := wv_parts hw
    by_cases hlt : i < L.length
    · have hq := bulk_memA (List.getElem_mem hlt)
      have hc := fld_bulk L[i] 1
      rw [bulk_drop hlt, Nat.add_mul] at hl
      rcases field_tot (m + 5) v (Dt.S L[i] 0) (by omega) (by omega) with ⟨f, hf, he⟩ | he
      · have he' : schema_field (m + 6) v (Dt.S L[i] 0) = some (Dt.fld f 1, true) := he
        have hx := p4 f hf
        have hmul : (Dt.fld L[i] 1).bulk * (Dt.fld f 1).bulk ≤ L[i].bulk * v.bulk := Nat.mul_le_mul hc (by omega)
        obtain ⟨r1, k1, k2⟩ := hs _ (List.getElem_mem hlt) (Dt.fld f 1) (p ++ [Dt.str (Dt.S L[i] 0)]) l hx.1 (by omega) (by simp; omega) (by omega)
        obtain ⟨r2, g1, g2⟩ := st_props m hm hm2 hw hv L hp hs M (i + 1) (by omega) (by omega) (l ++ r1) (by rw [List.length_append]; omega)
        refine ⟨r1 ++ r2, ?_, ?_⟩
        · rw [bulk_drop hlt, Nat.add_mul, List.length_append]; omega
        · simp only [i22_l15, dlt, hlt, decide_true, cond_true, i22_j16, i22_j17, idx_lt hlt, he', Option.bind_some, wrapS (show i < 9223372036854775807 by omega)]
          rw [concat2 (m + 1) p [Dt.str (Dt.S L[i] 0)] (by simp; omega)]
          simp only [Option.bind_some]
          rw [k1]
          simp only [Option.bind_some]
          rw [g2, List.append_assoc]
      · have he' : schema_field (m + 6) v (Dt.S L[i] 0) = some (kza2373, false) := he
        obtain ⟨r2, g1, g2⟩ := st_props m hm hm2 hw hv L hp hs M (i + 1) (by omega) (by omega) l (by omega)
        refine ⟨r2, ?_, ?_⟩
        · rw [bulk_drop hlt, Nat.add_mul]; omega
        · simp only [i22_l15, dlt, hlt, decide_true, cond_true, i22_j16, i22_j17, idx_lt hlt, he', Option.bind_some, cond_false, wrapS (show i < 9223372036854775807 by omega)]
          exact g2
    · refine ⟨[], by simp, ?_⟩
      simp only [i22_l15, dlt, hlt, decide_false, cond_false, List.append_nil]
/-- The elements, each by one schema. -/
theorem st_elems (m : Nat) (hm2 : m < 1000000000000) (hw : WV v) (hv : v.bulk ≤ 1048576) (c : Dt) (hp : p.length + 1 + c.bulk ≤ 10000000) (hs : HV self c) (rec1 : List Dt → Int → Int → List Dt → Dt → List Dt → Option (List Dt)) (X : List Dt) (x1 : Int) (j : Nat) (hj : j < 1000000000000) : ∀ (M i : Nat), i ≤ (Dt.L v 3).length → (Dt.L v 3).length - i < M → ∀ l : List Dt, 3 * l.length + c.bulk * Dt.bulkL ((Dt.L v 3).drop i) ≤ 412316860416 →
    ∃ r, 3 * r.length ≤ c.bulk * Dt.bulkL ((Dt.L v 3).drop i) ∧ i22_l24 (m + 6) self rec1 M X x1 (j : Int) (Dt.L v 3) ((Dt.L v 3).length : Int) (i : Int) l v p c = rec1 X x1 ((j + 1 : Nat) : Int) (l ++ r) v p
  | 0, i, _, h => by omega
  | M + 1, i, hi, h => by
    intro l hl
    obtain ⟨_, _, p3, _⟩ := wv_parts hw
    have hn := L_len v 3
    by_cases hlt : i < (Dt.L v 3).length
    · rw [bulk_drop hlt, Nat.mul_add] at hl
      have hx := p3 _ (List.getElem_mem hlt)
      obtain ⟨st, hst⟩ : ∃ st, strconv_Itoa (i : Int) = some st := by
        unfold strconv_Itoa
        rw [decide_eq_true (show (-9223372036854775808 : Int) ≤ (i : Int) by omega), decide_eq_true (show (i : Int) ≤ 9223372036854775807 by omega)]
        exact ⟨_, rfl⟩
      obtain ⟨r1, k1, k2⟩ := hs (Dt.L v 3)[i] (p ++ [Dt.str st]) l hx.1 (by omega) (by simp; omega) (by omega)
      obtain ⟨r2, g1, g2⟩ := st_elems m hm2 hw hv c hp hs rec1 X x1 j hj M (i + 1) (by omega) (by omega) (l ++ r1) (by rw [List.length_append]; omega)
      refine ⟨r1 ++ r2, ?_, ?_⟩
      · rw [bulk_drop hlt, Nat.mul_add, List.length_append]; omega
      · simp only [i22_l24, dlt, hlt, decide_true, cond_true, i22_j25, i22_j26, idx_lt hlt, hst, Option.bind_some, wrapS (show i < 9223372036854775807 by omega)]
        rw [concat2 (m + 1) p [Dt.str st] (by simp; omega)]
        simp only [Option.bind_some]
        rw [k1]
        simp only [Option.bind_some]
        rw [g2, List.append_assoc]
    · refine ⟨[], by simp, ?_⟩
      simp only [i22_l24, dlt, hlt, decide_false, cond_false, List.append_nil, i22_j27, wrapS (show j < 9223372036854775807 by omega)]
theorem st_items (m : Nat) (hm : v.bulk + 10 ≤ m) (hm2 : m < 1000000000000) (hw : WV v) (hv : v.bulk ≤ 1048576) (L : List Dt) (hp : p.length + 1 + Dt.bulkL L ≤ 10000000) (hs : ∀ c ∈ L, HV self c) : ∀ (M i : Nat), i ≤ L.length → L.length - i < M → ∀ l : List Dt, 3 * l.length + Dt.bulkL (L.drop i) * v.bulk ≤ 412316860416 →
    ∃ r, 3 * r.length ≤ Dt.bulkL (L.drop i) * v.bulk ∧ i22_l21 (m + 6) self M L (L.length : Int) (i : Int) l v p = some (l ++ r)
  | 0, i, _, h => by omega
  | M + 1, i, hi, h => by
    intro l hl
    have hn := len_bulkA L
    have h3 := L_len v 3
    have hb3 := L_bulk v 3
    by_cases hlt : i < L.length
    · have hq := bulk_memA (List.getElem_mem hlt)
      rw [bulk_drop hlt, Nat.add_mul] at hl
      have hmul : L[i].bulk * Dt.bulkL ((Dt.L v 3).drop 0) ≤ L[i].bulk * v.bulk := Nat.mul_le_mul (Nat.le_refl _) (by rw [List.drop_zero]; omega)
      obtain ⟨r1, k1, k2⟩ := st_elems (self := self) m hm2 hw hv L[i] (p := p) (by omega) (hs _ (List.getElem_mem hlt)) (i22_l21 (m + 6) self M) L (L.length : Int) i (by omega) (m + 7) 0 (Nat.zero_le _) (by omega) l (by omega)
      obtain ⟨r2, g1, g2⟩ := st_items m hm hm2 hw hv L hp hs M (i + 1) (by omega) (by omega) (l ++ r1) (by rw [List.length_append]; omega)
      refine ⟨r1 ++ r2, ?_, ?_⟩
      · rw [bulk_drop hlt, Nat.add_mul, List.length_append]; omega
      · simp only [i22_l21, dlt, hlt, decide_true, cond_true, i22_j22, i22_j23, idx_lt hlt, Option.bind_some]
        refine k2.trans ?_
        rw [g2, List.append_assoc]
    · refine ⟨[], by simp, ?_⟩
      simp only [i22_l21, dlt, hlt, decide_false, cond_false, List.append_nil, i22_j28]
end Go.Proofs.YtfneddmmeadacaaDoor
namespace Go.Proofs.YtfneddmmeadacaaDoor
open Go.Am

/-- Schemas have their thirteen fields. -/
inductive BS : Dt → Prop where
  | mk {d : Dt} (h : 14 + Dt.bulkL (Dt.L d 8) + Dt.bulkL (Dt.L d 9) + Dt.bulkL (Dt.L d 11) ≤ d.bulk) (h9 : ∀ p ∈ Dt.L d 9, BS (Dt.fld p 1)) (h11 : ∀ e ∈ Dt.L d 11, BS e) : BS d
theorem list13 {A : Type} {l : List A} (h : l.length = 13) : ∃ a b c d e f g i j k m n o, l = [a, b, c, d, e, f, g, i, j, k, m, n, o] := by
  match l, h with
  | [a, b, c, d, e, f, g, i, j, k, m, n, o], _ => exact ⟨a, b, c, d, e, f, g, i, j, k, m, n, o, rfl⟩
theorem toLst_bulk (d : Dt) : Dt.bulkL (Dt.toLst d) + 1 ≤ d.bulk := by
  cases d <;> simp only [Dt.toLst, Dt.bulkL, Dt.bulk] <;> omega
theorem bs_bulk {d : Dt} (h : ∃ ds, d = .agg ds ∧ ds.length = 13) : 14 + Dt.bulkL (Dt.L d 8) + Dt.bulkL (Dt.L d 9) + Dt.bulkL (Dt.L d 11) ≤ d.bulk := by
  obtain ⟨ds, rfl, hl⟩ := h
  obtain ⟨a, b, c, d, e, f, g, i, j, k, m, n, o, rfl⟩ := list13 hl
  have h8 : Dt.L (.agg [a, b, c, d, e, f, g, i, j, k, m, n, o]) 8 = Dt.toLst j := rfl
  have h9 : Dt.L (.agg [a, b, c, d, e, f, g, i, j, k, m, n, o]) 9 = Dt.toLst k := rfl
  have h11 : Dt.L (.agg [a, b, c, d, e, f, g, i, j, k, m, n, o]) 11 = Dt.toLst n := rfl
  rw [h8, h9, h11]
  have := toLst_bulk j
  have := toLst_bulk k
  have := toLst_bulk n
  have := bulk_posA a
  have := bulk_posA b
  have := bulk_posA c
  have := bulk_posA d
  have := bulk_posA e
  have := bulk_posA f
  have := bulk_posA g
  have := bulk_posA i
  have := bulk_posA m
  have := bulk_posA o
  simp only [Dt.bulk, Dt.bulkL]
  omega
theorem bs_of : ∀ (N : Nat) (d : Dt), d.bulk ≤ N → HasTy Tryd.prog 30 d → BS d
  | 0, d, h, _ => by have := bulk_posA d; omega
  | N + 1, d, h, ht => by
    have hs := (ty_agg Tryd.underlying30 ht).2
    have hg := (ty_agg Tryd.underlying30 ht).1
    have t9 : HasTy Tryd.prog 27 (Dt.fld d 9) := hs 9 _ rfl
    have t11 : HasTy Tryd.prog 28 (Dt.fld d 11) := hs 11 _ rfl
    refine .mk (bs_bulk hg) (fun p hp => ?_) fun e he => ?_
    · have tp := (ty_lst Tryd.underlying27 t9).2.2 p hp
      have tq : HasTy Tryd.prog 30 (Dt.fld p 1) := (ty_agg Tryd.underlying51 tp).2 1 _ rfl
      have h1 := L_mem (d := d) (i := 9) hp
      have h2 := fld_bulk p 1
      exact bs_of N _ (by omega) tq
    · have tp := (ty_lst Tryd.underlying28 t11).2.2 e he
      have h1 := L_mem (d := d) (i := 11) he
      exact bs_of N _ (by omega) tp
variable {self : Dt → Dt → List Dt → List Dt → Option (List Dt)} {s v : Dt} {p : List Dt}
/-- Behind the schema's own rules, for a document. -/
theorem tail_doc (m : Nat) (hm : v.bulk + s.bulk + 10 ≤ m) (hm2 : m < 900000000000) (hw : WV v) (hv : v.bulk ≤ 1048576) (h5 : Dt.I v 0 = 5) (hp : p.length + s.bulk ≤ 10000000) (hs : ∀ q ∈ Dt.L s 9, HV self (Dt.fld q 1)) (l : List Dt) (hl : 3 * l.length + 3 * (Dt.L v 4).length + Dt.bulkL (Dt.L s 9) * v.bulk ≤ 412316860416) :
    ∃ r, 3 * r.length ≤ 3 * (Dt.L v 4).length + Dt.bulkL (Dt.L s 9) * v.bulk ∧ i22_j8 (m + 6) self l s v p = some (l ++ r) := by
  have l9 := L_len s 9
  have b9 := L_bulk s 9
  have l4 := L_len v 4
  obtain ⟨e, k1, _, k3⟩ := st_clo (self := self) (t := s) (v := v) (p := p) m (by omega) hm2 (by omega) (Dt.L v 4) (by omega) (m + 7) 0 (Nat.zero_le _) (by omega)
  obtain ⟨r, g1, g2⟩ := st_props (t := s) m (by omega) (by omega) hw hv (Dt.L s 9) (p := p) (by omega) hs (m + 7) 0 (Nat.zero_le _) (by omega) (l ++ e) (by rw [List.drop_zero, List.length_append]; omega)
  rw [List.drop_zero] at g1
  refine ⟨e ++ r, by rw [List.length_append]; omega, ?_⟩
  have q1 := k3 l (by omega)
  have q2 : i22_j8 (m + 6) self l s v p = i22_j13 (m + 6) self (l ++ e) s v p := q1
  have q3 : i22_j13 (m + 6) self (l ++ e) s v p = i22_j18 (m + 6) self (l ++ e ++ r) s v p := g2
  have n6 : (Dt.I v 0 == 6) = false := by rw [h5]; rfl
  rw [q2, q3]
  simp only [i22_j18, n6, cond_false, i22_j28, List.append_assoc]
theorem tail_doc0 {x : Dt} (m : Nat) (hm : v.bulk + 10 ≤ m) (hm2 : m < 900000000000) (hv : v.bulk ≤ 1048576) (h5 : Dt.I v 0 = 5) (hp : p.length ≤ 10000000) (e9 : Dt.L x 9 = []) (e10 : Dt.B x 10 = false) (l : List Dt) (hl : l.length + (Dt.L v 4).length ≤ 137438953472) : i22_j8 (m + 6) self l x v p = some l := by
  have l4 := L_len v 4
  obtain ⟨e, _, k2, k3⟩ := st_clo (self := self) (t := x) (v := v) (p := p) m (by rw [e9]; simp; omega) hm2 (by omega) (Dt.L v 4) (by omega) (m + 7) 0 (Nat.zero_le _) (by omega)
  have q1 := k3 l (by omega)
  rw [k2 e10, List.append_nil] at q1
  have q2 : i22_j8 (m + 6) self l x v p = i22_j13 (m + 6) self l x v p := q1
  have n6 : (Dt.I v 0 == 6) = false := by rw [h5]; rfl
  rw [q2]
  simp only [i22_j13, i22_j14, e9, i22_l15, List.length_nil, show decide ((0 : Int) < ((0 : Nat) : Int)) = false from rfl, cond_false, i22_j18, n6, i22_j28]
/-- One schema at one value: its own violations, which the schema without children has too, and the children's. -/
theorem vio_one (m : Nat) (hm : 3000000010 + v.bulk + s.bulk ≤ m) (hm2 : m < 800000000000) (hw : WV v) (hv : v.bulk ≤ 1048576) (hb : 14 + Dt.bulkL (Dt.L s 8) + Dt.bulkL (Dt.L s 9) + Dt.bulkL (Dt.L s 11) ≤ s.bulk) (hp : p.length + s.bulk ≤ 10000000)
    (h9 : ∀ q ∈ Dt.L s 9, HV (i22 (m + 6)) (Dt.fld q 1)) (h11 : ∀ c ∈ Dt.L s 11, HV (i22 (m + 6)) c) : ∃ e, NoC e ∧
    (∀ x, Sm s x → Dt.L x 9 = [] → Dt.L x 11 = [] → Dt.B x 10 = false → ∀ l : List Dt, 3 * l.length + s.bulk * v.bulk ≤ 412316860416 → i22 (m + 7) x v p l = some (l ++ e)) ∧
    ∀ l : List Dt, 3 * l.length + s.bulk * v.bulk ≤ 412316860416 → ∃ r, 3 * (e ++ r).length ≤ s.bulk * v.bulk ∧ i22 (m + 7) s v p l = some (l ++ (e ++ r)) := by
  have w6 := wv6 hw
  have l4 := L_len v 4
  have l8 := len_bulkA (Dt.L s 8)
  have n8 := L_len s 8
  obtain ⟨e, a1, a2, a3⟩ := st_head (s := s) (v := v) (p := p) m (by omega) (by omega) (by omega) (by omega)
  have hmul : (14 + Dt.bulkL (Dt.L s 8) + Dt.bulkL (Dt.L s 9) + Dt.bulkL (Dt.L s 11)) * v.bulk ≤ s.bulk * v.bulk := Nat.mul_le_mul hb (Nat.le_refl _)
  rw [Nat.add_mul, Nat.add_mul, Nat.add_mul] at hmul
  have hmul2 : Dt.bulkL (Dt.L s 8) * 3 ≤ Dt.bulkL (Dt.L s 8) * v.bulk := Nat.mul_le_mul (Nat.le_refl _) (by omega)
  by_cases h5 : Dt.I v 0 = 5
  · obtain ⟨e', b1, b2, b3⟩ := st_req (self := i22 (m + 6)) (v := v) (p := p) m (by omega) (by omega) (by omega) (Dt.L s 8) (by omega) (m + 7) 0 (Nat.zero_le _) (by omega)
    have y5 : (Dt.I v 0 == 5) = true := by rw [h5]; rfl
    have both : ∀ t, Sm s t → ∀ l : List Dt, 3 * l.length + s.bulk * v.bulk ≤ 412316860416 → i22 (m + 7) t v p l = i22_j8 (m + 6) (i22 (m + 6)) (l ++ (e ++ e')) t v p := fun t h l hl => by
      rw [a3 t h l (by omega)]
      simp only [i22_j3, y5, cond_true, h.l8]
      have := b3 t (l ++ e) (by rw [List.length_append]; omega)
      rw [List.append_assoc] at this
      exact this
    refine ⟨e ++ e', noc_app a2 b2, fun x h e9 e11 e10 l hl => ?_, fun l hl => ?_⟩
    · rw [both x h l hl, tail_doc0 m (by omega) (by omega) hv h5 (by omega) e9 e10 _ (by simp only [List.length_append]; omega)]
    · obtain ⟨r, c1, c2⟩ := tail_doc m (by omega) (by omega) hw hv h5 hp h9 (l ++ (e ++ e')) (by simp only [List.length_append]; omega)
      refine ⟨r, by simp only [List.length_append]; omega, ?_⟩
      rw [both s (Sm.refl s) l hl, c2, List.append_assoc]
  · have y5 : (Dt.I v 0 == 5) = false := by rw [beq_eq_false_iff_ne]; exact h5
    obtain ⟨e', b1, b2, b3⟩ := st_uni (self := i22 (m + 6)) (s := s) (v := v) (p := p) m (by omega) hm2 hv (by omega)
    by_cases h6 : Dt.I v 0 = 6
    · have y6 : (Dt.I v 0 == 6) = true := by rw [h6]; rfl
      have both : ∀ t, Sm s t → ∀ l : List Dt, 3 * l.length + s.bulk * v.bulk ≤ 412316860416 → i22 (m + 7) t v p l = i22_j19 (m + 6) (i22 (m + 6)) (l ++ (e ++ e')) t v p := fun t h l hl => by
        rw [a3 t h l (by omega)]
        simp only [i22_j3, y5, cond_false]
        rw [b3 t h (l ++ e) (by rw [List.length_append]; omega), y6, List.append_assoc]
        rfl
      refine ⟨e ++ e', noc_app a2 b2, fun x h e9 e11 e10 l hl => ?_, fun l hl => ?_⟩
      · rw [both x h l hl]
        simp only [i22_j19, i22_j20, e11, i22_l21, List.length_nil, show decide ((0 : Int) < ((0 : Nat) : Int)) = false from rfl, cond_false, i22_j28]
      · have n11 := L_len s 11
        have b11 := L_bulk s 11
        obtain ⟨r, c1, c2⟩ := st_items m (by omega) (by omega) hw hv (Dt.L s 11) (p := p) (by omega) h11 (m + 7) 0 (Nat.zero_le _) (by omega) (l ++ (e ++ e')) (by rw [List.drop_zero]; simp only [List.length_append]; omega)
        rw [List.drop_zero] at c1
        refine ⟨r, by simp only [List.length_append]; omega, ?_⟩
        rw [both s (Sm.refl s) l hl]
        have c3 : i22_j19 (m + 6) (i22 (m + 6)) (l ++ (e ++ e')) s v p = some (l ++ (e ++ e') ++ r) := c2
        rw [c3, List.append_assoc]
    · have y6 : (Dt.I v 0 == 6) = false := by rw [beq_eq_false_iff_ne]; exact h6
      have both : ∀ t, Sm s t → ∀ l : List Dt, 3 * l.length + s.bulk * v.bulk ≤ 412316860416 → i22 (m + 7) t v p l = some (l ++ e) := fun t h l hl => by
        rw [a3 t h l (by omega)]
        simp only [i22_j3, y5, cond_false]
        rw [b3 t h (l ++ e) (by rw [List.length_append]; omega), y6]
        rfl
      refine ⟨e, a2, fun x h _ _ _ l hl => both x h l hl, fun l hl => ⟨[], by simp only [List.append_nil]; omega, by rw [List.append_nil]; exact both s (Sm.refl s) l hl⟩⟩
theorem vio_tot : ∀ (N : Nat) (s : Dt), s.bulk ≤ N → N ≤ 1048576 → BS s → ∀ m, 3010000000 + N ≤ m → m < 700000000000 → HV (i22 (m + 7)) s
  | 0, s, h, _, _, _, _, _ => by have := bulk_posA s; omega
  | N + 1, s, h, hN, hb, m, hm, hm2 => by
    cases hb with
    | mk hb h9 h11 =>
      have ih : ∀ c : Dt, BS c → c.bulk ≤ N → HV (i22 (m + 6)) c := fun c hc hbc => by
        have := vio_tot N c hbc (by omega) hc (m - 1) (by omega) (by omega)
        rw [show m - 1 + 7 = m + 6 by omega] at this
        exact this
      intro x p l hx hbx hp hl
      obtain ⟨e, _, _, k3⟩ := vio_one (s := s) (v := x) (p := p) m (by omega) (by omega) hx hbx hb hp (fun q hq => ih _ (h9 q hq) (by have := L_mem (d := s) (i := 9) hq; have := fld_bulk q 1; omega)) (fun c hc => ih _ (h11 c hc) (by have := L_mem (d := s) (i := 11) hc; omega))
      obtain ⟨r, k4, k5⟩ := k3 l hl
      exact ⟨e ++ r, k5, k4⟩
/-- The whole walk at the root. -/
theorem vio_own {s v : Dt} (hb : BS s) (hsb : s.bulk ≤ 1048576) (hw : WV v) (hv : v.bulk ≤ 1048576) (hl : s.bulk * v.bulk ≤ 412316860416) (m : Nat) (hm : 3020000000 ≤ m) (hm2 : m < 700000000000) : ∃ e r, NoC e ∧ i22 (m + 7) s v [] [] = some (e ++ r) ∧ 3 * (e ++ r).length ≤ 412316860416 ∧ ∀ x, Sm s x → Dt.L x 9 = [] → Dt.L x 11 = [] → Dt.B x 10 = false → i22 (m + 7) x v [] [] = some e := by
  cases hb with
  | mk hb h9 h11 =>
    have ih : ∀ c : Dt, BS c → c.bulk ≤ s.bulk → HV (i22 (m + 6)) c := fun c hc hbc => by
      have := vio_tot s.bulk c hbc (by omega) hc (m - 1) (by omega) (by omega)
      rw [show m - 1 + 7 = m + 6 by omega] at this
      exact this
    obtain ⟨e, k1, k2, k3⟩ := vio_one (s := s) (v := v) (p := []) m (by omega) (by omega) hw hv hb (by simp; omega) (fun q hq => ih _ (h9 q hq) (by have := L_mem (d := s) (i := 9) hq; have := fld_bulk q 1; omega)) (fun c hc => ih _ (h11 c hc) (by have := L_mem (d := s) (i := 11) hc; omega))
    obtain ⟨r, k4, k5⟩ := k3 [] (by simpa using hl)
    exact ⟨e, r, k1, by simpa using k5, by omega, fun x h a b c => by simpa using k2 x h a b c [] (by simpa using hl)⟩
end Go.Proofs.YtfneddmmeadacaaDoor
