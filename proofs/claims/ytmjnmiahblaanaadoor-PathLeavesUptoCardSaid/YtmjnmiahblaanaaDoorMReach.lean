/- PathReaches, in plain Lean. -/
import Derived.Test.YtmjnmiahblaanaaDoorMPass
set_option linter.unusedVariables false
set_option linter.unusedSimpArgs false
namespace Go.Proofs.YtmjnmiahblaanaaDoor
open Go.Am

def zeroVal : Dt := .agg [.int 0, .int 0, .str (ByteArray.mk (List.toArray [])), .lst [], .lst []]
theorem zero_wv : WV zeroVal := .mk (by simp) (by simp)
theorem reach_loop (m : Nat) (L : List Dt) (hl : L.length < 9223372036854775807) (hc : ∀ e ∈ L, path_clone m e = some e) : ∀ (M i : Nat), i ≤ L.length → L.length - i < M → path_Reach_l2 m M (L.length : Int) (i : Int) L = some L
  | 0, i, _, h => by omega
  | M + 1, i, hi, h => by
    simp only [path_Reach_l2, dlt]
    by_cases hlt : i < L.length
    · simp only [hlt, decide_true, cond_true, path_Reach_j3, path_Reach_j4, inL_lt hlt, Option.bind_some, Int.toNat_natCast, List.getElem?_eq_getElem hlt, hc _ (List.getElem_mem hlt), List.set_getElem_self, wrapS (show i < 9223372036854775807 by omega)]
      exact reach_loop m L hl hc M (i + 1) (by omega) (by omega)
    · simp [hlt, path_Reach_j5]
def rch (r : List Dt) : List Dt := bif r.length == 0 then [zeroVal] else r
/-- What a path reaches, in a value of at most 16 levels. -/
theorem reach_eq (d : Dt) (hb : d.bulk ≤ 1048576) (hw : WV d) (hD : DL 16 d) (p : List Dt) (m m' : Nat) (hm : 300000000000 ≤ m) (hm' : 300000000000 ≤ m') :
    ∃ r, (∀ x ∈ r, WV x) ∧ (r ≠ [] ∧ (p ≠ [] → 1 < r.length → ∀ x ∈ r, Sub x d)) ∧ Dt.bulkL r ≤ 68719476736 ∧ ref04_Reach (m' + 1) d p = some r ∧ path_Reach (m + 1) d p = some r := by
  obtain ⟨m, rfl⟩ : ∃ k, m = k + 1 := ⟨m - 1, by omega⟩
  obtain ⟨m', rfl⟩ : ∃ k, m' = k + 1 := ⟨m' - 1, by omega⟩
  have hp : 2 ^ 16 * d.bulk ≤ 68719476736 := by
    have : 2 ^ 16 * d.bulk ≤ 2 ^ 16 * 1048576 := Nat.mul_le_mul_left _ hb
    omega
  obtain ⟨r, h1', h2, h3, h4⟩ := pass_eq 1048576 d hb (Nat.le_refl _) hw 16 hD (by omega) p m m' (by omega) (by omega)
  have h1 : ∀ x ∈ r, WV x := fun x hx => (h1' x hx).1
  have h5 := h4 [] (by simp; omega)
  rw [List.nil_append] at h5
  have hlr := len_bulk r
  refine ⟨rch r, fun x hx => ?_, ?_, ?_, ?_, ?_⟩
  · unfold rch at hx
    cases h0 : (r.length == 0)
    · rw [h0] at hx; exact h1 x hx
    · rw [h0] at hx
      simp only [cond_true, List.mem_singleton] at hx
      subst hx; exact zero_wv
  · unfold rch
    cases h0 : (r.length == 0)
    · simp only [cond_false]
      refine ⟨by rintro rfl; simp at h0, fun hp _ x hx => ?_⟩
      rcases (h1' x hx).2 with g | ⟨g, _⟩
      · exact g
      · exact absurd g hp
    · exact ⟨by simp, fun _ h => by simp at h⟩
  · unfold rch
    cases h0 : (r.length == 0)
    · simp only [cond_false]; omega
    · simp only [cond_true]
      have : Dt.bulkL [zeroVal] = 6 := by rfl
      omega
  · show Option.bind (ref04_Pass (m' + 1) d p) _ = _
    rw [h3, Option.bind_some]
    have e : ((((r.length : Nat) : Int) == 0) : Bool) = (r.length == 0) := ieq (j := 0)
    simp only [e, ref04_Reach_j0]
    unfold rch
    cases (r.length == 0) <;> rfl
  · show Option.bind (path_pass_i37 (m + 1) d p []) _ = _
    rw [h5, Option.bind_some]
    have e : ((((r.length : Nat) : Int) == 0) : Bool) = (r.length == 0) := ieq (j := 0)
    have hl := reach_loop (m + 1) r (by omega) (fun x hx => clone_eq 137438953472 x (by have := bulk_mem hx; omega) (Nat.le_refl _) (h1 x hx) m (by omega)) (m + 2) 0 (Nat.zero_le _) (by omega)
    have hl' : path_Reach_l2 (m + 1) (Nat.succ (m + 1)) ((r.length : Nat) : Int) 0 r = some r := hl
    simp only [e, path_Reach_j0, path_Reach_j1, hl']
    unfold rch
    cases (r.length == 0) <;> rfl
-- leaves
def lvs (x : Dt) : List Dt := x :: (bif Dt.I x 0 == 6 then Dt.L x 3 else [])
def lv (L : List Dt) : List Dt := L.flatMap lvs
theorem lvs_wv {x : Dt} (hw : WV x) : (∀ y ∈ lvs x, WV y) ∧ (lvs x).length ≤ x.bulk ∧ Dt.bulkL (lvs x) ≤ x.bulk + x.bulk ∧ (∀ y ∈ Dt.L x 3, WV y) ∧ (Dt.L x 3).length + 1 ≤ x.bulk ∧ Dt.bulkL (Dt.L x 3) ≤ x.bulk := by
  have hw0 := hw
  cases hw with
  | @mk k i t l ds hl hd =>
    have h3 := len_bulk l
    have e2 : Dt.L (.agg [.int k, .int i, .str t, .lst l, .lst ds]) 3 = l := rfl
    have e1 : Dt.I (.agg [.int k, .int i, .str t, .lst l, .lst ds]) 0 = k := rfl
    unfold lvs
    rw [e1, e2, bulk_val]
    cases (k == 6)
    · refine ⟨by simpa using hw0, by simp; omega, ?_, hl, by omega, by omega⟩
      simp only [cond_false, Dt.bulkL]
      rw [bulk_val]; omega
    · refine ⟨?_, by simp; omega, ?_, hl, by omega, by omega⟩
      · intro y hy
        simp only [cond_true, List.mem_cons] at hy
        rcases hy with rfl | hy
        · exact hw0
        · exact hl y hy
      · simp only [cond_true, Dt.bulkL]
        rw [bulk_val]; omega
theorem leaves_l4 (m : Nat) (rec1 : List Dt → Int → Int → List Dt → Option (List Dt)) (x0 : List Dt) (x1 x2 : Int) (E : List Dt) (hl : E.length < 9223372036854775807) (hc : ∀ e ∈ E, path_clone m e = some e) : ∀ (M i : Nat) (out : List Dt), i ≤ E.length → E.length - i < M → out.length + (E.length - i) ≤ 137438953472 →
    path_Leaves_l4 m rec1 M x0 x1 x2 E (E.length : Int) (i : Int) out = path_Leaves_j7 m rec1 x0 x1 x2 (out ++ E.drop i)
  | 0, i, _, _, h, _ => by omega
  | M + 1, i, out, hi, h, ho => by
    simp only [path_Leaves_l4, dlt]
    by_cases hlt : i < E.length
    · simp only [hlt, decide_true, cond_true, path_Leaves_j5, path_Leaves_j6, idx_lt hlt, Option.bind_some, hc _ (List.getElem_mem hlt), app_le (show out.length + [E[i]].length ≤ 137438953472 by simp; omega), wrapS (show i < 9223372036854775807 by omega)]
      rw [leaves_l4 m rec1 x0 x1 x2 E hl hc M (i + 1) _ (by omega) (by omega) (by simp; omega), List.drop_eq_getElem_cons hlt, List.append_assoc]
      rfl
    · simp only [hlt, decide_false, cond_false]
      rw [List.drop_eq_nil_of_le (by omega), List.append_nil]
theorem leaves_loop (m : Nat) (hm : 137438953472 ≤ m) (L : List Dt) (hL : ∀ x ∈ L, WV x) (hl : Dt.bulkL L ≤ 68719476736) : ∀ (M i : Nat) (out : List Dt), i ≤ L.length → L.length - i < M → out.length + Dt.bulkL (L.drop i) ≤ 137438953472 →
    path_Leaves_l1 (m + 1) M L (L.length : Int) (i : Int) out = some (out ++ lv (L.drop i)) ∧ ref04_Leaves_l1 (m + 1) M L (i : Int) out = some (out ++ lv (L.drop i))
  | 0, i, _, _, h, _ => by omega
  | M + 1, i, out, hi, h, ho => by
    have hll := len_bulk L
    simp only [path_Leaves_l1, ref04_Leaves_l1, dlt]
    by_cases hlt : i < L.length
    · rw [List.drop_eq_getElem_cons hlt] at ho ⊢
      simp only [Dt.bulkL] at ho
      have hwx := hL _ (List.getElem_mem hlt)
      obtain ⟨h1, h2, h3, h4, h5, h6⟩ := lvs_wv hwx
      have hbx := bulk_mem (List.getElem_mem hlt)
      have hx0 := bulk_pos L[i]
      have ih := leaves_loop m hm L hL hl M (i + 1) (out ++ lvs L[i]) (by omega) (by omega) (by rw [List.length_append]; omega)
      have e1 : lv (L[i] :: L.drop (i + 1)) = lvs L[i] ++ lv (L.drop (i + 1)) := rfl
      rw [e1, ← List.append_assoc]
      have happ : app out [L[i]] = some (out ++ [L[i]]) := app_le (by simp; omega)
      simp only [hlt, decide_true, cond_true, path_Leaves_j2, ref04_Leaves_j2, idx_lt hlt, Option.bind_some, happ]
      unfold lvs at ih ⊢
      cases hk : (Dt.I L[i] 0 == 6)
      · rw [hk] at ih
        simp only [cond_false, path_Leaves_j7, ref04_Leaves_j3, wrapS (show i < 9223372036854775807 by omega)] at ih ⊢
        exact ih
      · rw [hk] at ih
        have hinner := leaves_l4 (m + 1) (path_Leaves_l1 (m + 1) M) L (L.length : Int) (i : Int) (Dt.L L[i] 3) (by omega) (fun e he => clone_eq 137438953472 e (by have := bulk_mem he; omega) (Nat.le_refl _) (h4 e he) m hm) (m + 2) 0 (out ++ [L[i]]) (Nat.zero_le _) (by omega) (by simp; omega)
        have hinner' : path_Leaves_l4 (m + 1) (path_Leaves_l1 (m + 1) M) (Nat.succ (m + 1)) L (L.length : Int) (i : Int) (Dt.L L[i] 3) ((Dt.L L[i] 3).length : Int) 0 (out ++ [L[i]]) = _ := hinner
        rw [List.drop_zero] at hinner'
        have happ2 : app (out ++ [L[i]]) (Dt.L L[i] 3) = some (out ++ [L[i]] ++ Dt.L L[i] 3) := app_le (by simp; omega)
        simp only [cond_true, path_Leaves_j3, hinner', path_Leaves_j7, ref04_Leaves_j3, happ2, Option.bind_some, wrapS (show i < 9223372036854775807 by omega)] at ih ⊢
        have e2 : out ++ [L[i]] ++ Dt.L L[i] 3 = out ++ L[i] :: Dt.L L[i] 3 := by simp
        rw [e2]
        exact ih
    · simp only [hlt, decide_false, cond_false, path_Leaves_j8, ref04_Leaves_j4]
      rw [List.drop_eq_nil_of_le (by omega)]
      simp [lv]
theorem lv_wv : ∀ (L : List Dt), (∀ x ∈ L, WV x) → (∀ y ∈ lv L, WV y) ∧ Dt.bulkL (lv L) ≤ Dt.bulkL L + Dt.bulkL L
  | [], _ => ⟨by simp [lv], by simp [lv, Dt.bulkL]⟩
  | x :: L, h => by
    obtain ⟨h1, h2⟩ := lv_wv L (fun y hy => h y (by simp [hy]))
    obtain ⟨g1, _, g3, _⟩ := lvs_wv (h x (by simp))
    have e1 : lv (x :: L) = lvs x ++ lv L := rfl
    rw [e1, bulkL_app]
    refine ⟨fun y hy => ?_, ?_⟩
    · rcases List.mem_append.1 hy with hy | hy
      · exact g1 y hy
      · exact h1 y hy
    · have e2 : Dt.bulkL (x :: L) = x.bulk + Dt.bulkL L := by simp [Dt.bulkL]
      omega
theorem leaves_eq (d : Dt) (p : List Dt) (r : List Dt) (m : Nat) (hm : 300000000000 ≤ m) (h1 : ∀ x ∈ r, WV x) (h2 : Dt.bulkL r ≤ 68719476736) (h3 : ref04_Reach (m + 1) d p = some r) (h4 : path_Reach (m + 1) d p = some r) :
    ref04_Leaves (m + 2) d p = some (lv r) ∧ path_Leaves (m + 2) d p = some (lv r) := by
  have hlr := len_bulk r
  obtain ⟨k1, k2⟩ := leaves_loop m (by omega) r h1 h2 (m + 2) 0 [] (Nat.zero_le _) (by omega) (by rw [List.drop_zero]; simp; omega)
  rw [List.drop_zero, List.nil_append] at k1 k2
  constructor
  · show Option.bind (ref04_Reach (m + 1) d p) _ = _
    rw [h3, Option.bind_some]
    exact k2
  · show Option.bind (path_Reach (m + 1) d p) _ = _
    rw [h4, Option.bind_some]
    exact k1
theorem law_reaches (d : Dt) (p : List Dt) (hw : WV d) (hb : d.bulk ≤ 1048576) (m : Nat) (hm : 400000000000 ≤ m) : law04_PathReaches (m + 1) d p = some true := by
  obtain ⟨k, rfl⟩ : ∃ k, m = k + 4 := ⟨m - 4, by omega⟩
  obtain ⟨b, hs1, hs2⟩ := small_eq d p hw k (by omega) (by omega)
  show Option.bind (law04_small (k + 4) d p) _ = _
  rw [hs1, Option.bind_some]
  cases b with
  | false => rfl
  | true =>
    obtain ⟨hD, _⟩ := hs2 rfl
    obtain ⟨r, h1, _, h2, h3, h4⟩ := reach_eq d hb hw hD p (k + 3) (k + 3) (by omega) (by omega)
    obtain ⟨r', h1', _, h2', h3', h4'⟩ := reach_eq d hb hw hD p (k + 2) (k + 2) (by omega) (by omega)
    have hl := leaves_eq d p r' (k + 2) (by omega) h1' h2' h3' h4'
    have hv := lv_wv r' h1'
    have hs3 := samelist_refl (68719476736 + 6) r (by omega) (by omega) h1 (k + 2) (by omega)
    have hs4 := samelist_refl (137438953472 + 6) (lv r') (by omega) (by omega) hv.1 (k + 2) (by omega)
    have h3 : ref04_Reach (k + 4) d p = some r := h3
    have h4 : path_Reach (k + 4) d p = some r := h4
    have hl1 : ref04_Leaves (k + 4) d p = some (lv r') := hl.1
    have hl2 : path_Leaves (k + 4) d p = some (lv r') := hl.2
    have hs3 : ref01_SameList (k + 4) r r = some true := hs3
    have hs4 : ref01_SameList (k + 4) (lv r') (lv r') = some true := hs4
    simp only [Bool.not_true, cond_false, law04_PathReaches_j0, h3, h4, hl1, hl2, hs3, hs4, Option.bind_some, cond_true, awakeC]
theorem reaches_fx {ds : List Dt} (h : HasTys Tryd.prog Tryd.f10.params.toList ds) (hb : Dt.bulkL ds ≤ 1048576) : FX Tryd.prog 10 (dats Tryd.f10.params.toList ds) [] (.dat 4 (.bool true)) [] := by
  have h' : HasTys Tryd.prog [36, 23] ds := h
  cases h' with
  | cons h1 r => cases r with
    | cons h2 r =>
      cases r
      rw [(ty_lst Tryd.underlying23 h2).1]
      simp only [Dt.bulkL] at hb
      exact law04_PathReaches_fx 400000000000 (ct_ok 400000000000) _ _ (law_reaches _ _ (wv_of h1) (by omega) 400000000000 (Nat.le_refl _))
end Go.Proofs.YtmjnmiahblaanaaDoor
