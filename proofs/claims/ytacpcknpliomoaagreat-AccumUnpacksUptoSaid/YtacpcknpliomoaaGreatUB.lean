/- Accumulators: states as values; what the reference unpacks. -/
import Derived.Test.YtacpcknpliomoaaGreatUA
import Derived.Test.YtacpcknpliomoaaGreatMSameD
set_option linter.unusedVariables false
set_option linter.unusedSimpArgs false
namespace Go.Proofs.YtacpcknpliomoaaGreat
open Go.Am

def emp : ByteArray := ByteArray.mk (List.toArray [])
def nmOp : ByteArray := ByteArray.mk (List.toArray [111, 112])
def nmSum : ByteArray := ByteArray.mk (List.toArray [115, 117, 109])
def nmCount : ByteArray := ByteArray.mk (List.toArray [99, 111, 117, 110, 116])
def nmValue : ByteArray := ByteArray.mk (List.toArray [118, 97, 108, 117, 101])
def nmList : ByteArray := ByteArray.mk (List.toArray [108, 105, 115, 116])
def nmKeys : ByteArray := ByteArray.mk (List.toArray [107, 101, 121, 115])
theorem tl_mk (l : List UInt8) : (ByteArray.mk (List.toArray l)).toList = l := by rw [ByteArray.toList_eq]
theorem tl_iff (s : ByteArray) (l : List UInt8) : (s.toList == l) = true ↔ s = ByteArray.mk (List.toArray l) := by
  constructor
  · intro h
    have h := eq_of_beq h
    rw [ByteArray.toList_eq] at h
    cases s with
    | mk d =>
      simp only at h
      rw [← h]
  · rintro rfl; rw [tl_mk]; exact beq_self_eq_true _
/-- A state. -/
def PD (a b c : Int) (v : Dt) (l k : List Dt) : Dt := .agg [.int a, .int b, .int c, v, .lst l, .lst k]
def zV : Dt := .agg [.int 0, .int 0, .str emp, .lst [], .lst []]
def zP : Dt := PD 0 0 0 zV [] []
def iV (n : Int) : Dt := .agg [.int 3, .int n, .str emp, .lst [], .lst []]
def lV (l : List Dt) : Dt := .agg [.int 6, .int 0, .str emp, .lst l, .lst []]
def fV (s : ByteArray) (v : Dt) : Dt := .agg [.str s, v]
def oV (v : Dt) : List Dt := if Dt.I v 0 = 0 then [] else [fV nmValue v]
def oL (s : ByteArray) : List Dt → List Dt
  | [] => []
  | e :: r => [fV s (lV (e :: r))]
def pkDoc (a b c : Int) (v : Dt) (l k : List Dt) : List Dt := fV nmOp (iV a) :: fV nmSum (iV b) :: fV nmCount (iV c) :: (oV v ++ (oL nmList l ++ oL nmKeys k))
/-- A state as a value. -/
def pkD (a b c : Int) (v : Dt) (l k : List Dt) : Dt := .agg [.int 5, .int 0, .str emp, .lst [], .lst (pkDoc a b c v l k)]
def nrm (v : Dt) : Dt := if Dt.I v 0 = 0 then zV else v
def keysOK (a : Int) (l k : List Dt) : Prop := (a = 10 → k.length = l.length) ∧ (a ≠ 10 → k = []) ∧ ∀ e ∈ k, Dt.I e 0 = 6
def stepR (p f : Dt) : Dt :=
  bif ((ByteArray.toList (Dt.S f 0)) == [111, 112]) then (Dt.agg [(Dt.int (Dt.I (Dt.fld f 1) 1)), (Dt.int (Dt.I p 1)), (Dt.int (Dt.I p 2)), (Dt.fld p 3), (Dt.lst (Dt.L p 4)), (Dt.lst (Dt.L p 5))])
  else bif ((ByteArray.toList (Dt.S f 0)) == [115, 117, 109]) then (Dt.agg [(Dt.int (Dt.I p 0)), (Dt.int (Dt.I (Dt.fld f 1) 1)), (Dt.int (Dt.I p 2)), (Dt.fld p 3), (Dt.lst (Dt.L p 4)), (Dt.lst (Dt.L p 5))])
  else bif ((ByteArray.toList (Dt.S f 0)) == [99, 111, 117, 110, 116]) then (Dt.agg [(Dt.int (Dt.I p 0)), (Dt.int (Dt.I p 1)), (Dt.int (Dt.I (Dt.fld f 1) 1)), (Dt.fld p 3), (Dt.lst (Dt.L p 4)), (Dt.lst (Dt.L p 5))])
  else bif ((ByteArray.toList (Dt.S f 0)) == [118, 97, 108, 117, 101]) then (Dt.agg [(Dt.int (Dt.I p 0)), (Dt.int (Dt.I p 1)), (Dt.int (Dt.I p 2)), (Dt.fld f 1), (Dt.lst (Dt.L p 4)), (Dt.lst (Dt.L p 5))])
  else bif ((ByteArray.toList (Dt.S f 0)) == [108, 105, 115, 116]) then (Dt.agg [(Dt.int (Dt.I p 0)), (Dt.int (Dt.I p 1)), (Dt.int (Dt.I p 2)), (Dt.fld p 3), (Dt.lst (Dt.L (Dt.fld f 1) 3)), (Dt.lst (Dt.L p 5))])
  else bif ((ByteArray.toList (Dt.S f 0)) == [107, 101, 121, 115]) then (Dt.agg [(Dt.int (Dt.I p 0)), (Dt.int (Dt.I p 1)), (Dt.int (Dt.I p 2)), (Dt.fld p 3), (Dt.lst (Dt.L p 4)), (Dt.lst (Dt.L (Dt.fld f 1) 3))])
  else p
theorem ref_fold (m : Nat) (v z : Dt) (hl : (Dt.L v 4).length < 9223372036854775807) : ∀ (M i : Nat) (p : Dt), i ≤ (Dt.L v 4).length → (Dt.L v 4).length - i < M → ref32_Unpack_l1 m M (i : Int) v z p = ref32_Unpack_j4 m v z (((Dt.L v 4).drop i).foldl stepR p)
  | 0, i, _, _, h => by omega
  | M + 1, i, p, hi, h => by
    simp only [ref32_Unpack_l1, dlt]
    by_cases hlt : i < (Dt.L v 4).length
    · have ih := fun q => ref_fold m v z hl M (i + 1) q (by omega) (by omega)
      simp only [hlt, decide_true, cond_true, ref32_Unpack_j2, ref32_Unpack_j3, idx_lt hlt, Option.bind_some, wrapS (show i < 9223372036854775807 by omega), ih]
      rw [List.drop_eq_getElem_cons hlt, List.foldl_cons]
      unfold stepR
      cases ((Dt.S (Dt.L v 4)[i] 0).toList == [111, 112]) with
      | true => rfl
      | false =>
      cases ((Dt.S (Dt.L v 4)[i] 0).toList == [115, 117, 109]) with
      | true => rfl
      | false =>
      cases ((Dt.S (Dt.L v 4)[i] 0).toList == [99, 111, 117, 110, 116]) with
      | true => rfl
      | false =>
      cases ((Dt.S (Dt.L v 4)[i] 0).toList == [118, 97, 108, 117, 101]) with
      | true => rfl
      | false =>
      cases ((Dt.S (Dt.L v 4)[i] 0).toList == [108, 105, 115, 116]) with
      | true => rfl
      | false =>
      cases ((Dt.S (Dt.L v 4)[i] 0).toList == [107, 101, 121, 115]) with
      | true => rfl
      | false => rfl
    · have e : i = (Dt.L v 4).length := by omega
      subst e
      simp
/-- What holds of a state that is read from a value. -/
structure PI (B : Nat) (p : Dt) (a b c : Int) (v : Dt) (l k : List Dt) : Prop where
  e : p = PD a b c v l k
  hv : WV v
  hl : ∀ e ∈ l, WV e
  hk : ∀ e ∈ k, WV e
  bv : v.bulk ≤ B
  bl : Dt.bulkL l ≤ B
  bk : Dt.bulkL k ≤ B
theorem wv_zV : WV zV := .mk (by simp) (by simp)
theorem step_pi {B : Nat} {p f : Dt} {a b c : Int} {v : Dt} {l k : List Dt} (h : PI B p a b c v l k) (hf : WF f) (hb : f.bulk ≤ B) : ∃ a b c v l k, PI B (stepR p f) a b c v l k := by
  cases hf with
  | @mk s w hw =>
    rw [bulk_fld] at hb
    have h3 : ∀ e ∈ Dt.L w 3, WV e := fun e he => ((wv_parts hw).2.2.1 e he).1
    have h4 := wv_bulk6 hw
    have e := h.e
    subst e
    unfold stepR
    show ∃ a' b' c' v' l' k', PI B (bif (s.toList == [111, 112]) then PD (Dt.I w 1) b c v l k else bif (s.toList == [115, 117, 109]) then PD a (Dt.I w 1) c v l k else bif (s.toList == [99, 111, 117, 110, 116]) then PD a b (Dt.I w 1) v l k else
      bif (s.toList == [118, 97, 108, 117, 101]) then PD a b c w l k else bif (s.toList == [108, 105, 115, 116]) then PD a b c v (Dt.L w 3) k else bif (s.toList == [107, 101, 121, 115]) then PD a b c v l (Dt.L w 3) else PD a b c v l k) a' b' c' v' l' k'
    cases (s.toList == [111, 112]) with
    | true => exact ⟨_, _, _, _, _, _, ⟨rfl, h.hv, h.hl, h.hk, h.bv, h.bl, h.bk⟩⟩
    | false =>
    cases (s.toList == [115, 117, 109]) with
    | true => exact ⟨_, _, _, _, _, _, ⟨rfl, h.hv, h.hl, h.hk, h.bv, h.bl, h.bk⟩⟩
    | false =>
    cases (s.toList == [99, 111, 117, 110, 116]) with
    | true => exact ⟨_, _, _, _, _, _, ⟨rfl, h.hv, h.hl, h.hk, h.bv, h.bl, h.bk⟩⟩
    | false =>
    cases (s.toList == [118, 97, 108, 117, 101]) with
    | true => exact ⟨_, _, _, _, _, _, ⟨rfl, hw, h.hl, h.hk, by omega, h.bl, h.bk⟩⟩
    | false =>
    cases (s.toList == [108, 105, 115, 116]) with
    | true => exact ⟨_, _, _, _, _, _, ⟨rfl, h.hv, h3, h.hk, h.bv, by omega, h.bk⟩⟩
    | false =>
    cases (s.toList == [107, 101, 121, 115]) with
    | true => exact ⟨_, _, _, _, _, _, ⟨rfl, h.hv, h.hl, h3, h.bv, h.bl, by omega⟩⟩
    | false => exact ⟨_, _, _, _, _, _, ⟨rfl, h.hv, h.hl, h.hk, h.bv, h.bl, h.bk⟩⟩
theorem fold_pi {B : Nat} : ∀ {ds : List Dt} {p : Dt} {a b c : Int} {v : Dt} {l k : List Dt}, PI B p a b c v l k → (∀ f ∈ ds, WF f ∧ f.bulk ≤ B) → ∃ a b c v l k, PI B (ds.foldl stepR p) a b c v l k
  | [], _, _, _, _, _, _, _, h, _ => ⟨_, _, _, _, _, _, h⟩
  | f :: ds, p, _, _, _, _, _, _, h, hd => by
    obtain ⟨_, _, _, _, _, _, h'⟩ := step_pi h (hd f (by simp)).1 (hd f (by simp)).2
    rw [List.foldl_cons]
    exact fold_pi h' fun g hg => hd g (by simp [hg])
/-- What is packed is read again. -/
theorem fold_pk (a b c : Int) (v : Dt) (l k : List Dt) : (pkDoc a b c v l k).foldl stepR zP = PD a b c (nrm v) l k := by
  have s1 : ∀ (a b c : Int) (v : Dt) (l k : List Dt) (n : Int), stepR (PD a b c v l k) (fV nmOp (iV n)) = PD n b c v l k := fun a b c v l k n => by
    unfold stepR; show (bif (nmOp.toList == _) then _ else _) = _; rw [nmOp, tl_mk]; rfl
  have s2 : ∀ (a b c : Int) (v : Dt) (l k : List Dt) (n : Int), stepR (PD a b c v l k) (fV nmSum (iV n)) = PD a n c v l k := fun a b c v l k n => by
    unfold stepR; show (bif (nmSum.toList == _) then _ else bif (nmSum.toList == _) then _ else _) = _; rw [nmSum, tl_mk]; rfl
  have s3 : ∀ (a b c : Int) (v : Dt) (l k : List Dt) (n : Int), stepR (PD a b c v l k) (fV nmCount (iV n)) = PD a b n v l k := fun a b c v l k n => by
    unfold stepR; show (bif (nmCount.toList == _) then _ else bif (nmCount.toList == _) then _ else bif (nmCount.toList == _) then _ else _) = _; rw [nmCount, tl_mk]; rfl
  have s4 : ∀ (a b c : Int) (v w : Dt) (l k : List Dt), stepR (PD a b c v l k) (fV nmValue w) = PD a b c w l k := fun a b c v w l k => by
    unfold stepR; show (bif (nmValue.toList == _) then _ else bif (nmValue.toList == _) then _ else bif (nmValue.toList == _) then _ else bif (nmValue.toList == _) then _ else _) = _; rw [nmValue, tl_mk]; rfl
  have s5 : ∀ (a b c : Int) (v : Dt) (l k u : List Dt), stepR (PD a b c v l k) (fV nmList (lV u)) = PD a b c v u k := fun a b c v l k u => by
    unfold stepR; show (bif (nmList.toList == _) then _ else bif (nmList.toList == _) then _ else bif (nmList.toList == _) then _ else bif (nmList.toList == _) then _ else bif (nmList.toList == _) then _ else _) = _; rw [nmList, tl_mk]; rfl
  have s6 : ∀ (a b c : Int) (v : Dt) (l k u : List Dt), stepR (PD a b c v l k) (fV nmKeys (lV u)) = PD a b c v l u := fun a b c v l k u => by
    unfold stepR; show (bif (nmKeys.toList == _) then _ else bif (nmKeys.toList == _) then _ else bif (nmKeys.toList == _) then _ else bif (nmKeys.toList == _) then _ else bif (nmKeys.toList == _) then _ else bif (nmKeys.toList == _) then _ else _) = _; rw [nmKeys, tl_mk]; rfl
  unfold pkDoc zP
  rw [List.foldl_cons, s1, List.foldl_cons, s2, List.foldl_cons, s3, List.foldl_append, List.foldl_append]
  have t1 : (oV v).foldl stepR (PD a b c zV [] []) = PD a b c (nrm v) [] [] := by
    unfold oV nrm
    split
    · rfl
    · rw [List.foldl_cons, s4]; rfl
  have t2 : (oL nmList l).foldl stepR (PD a b c (nrm v) [] []) = PD a b c (nrm v) l [] := by
    cases l with
    | nil => rfl
    | cons e r => show List.foldl stepR (stepR _ _) [] = _; rw [s5]; rfl
  have t3 : (oL nmKeys k).foldl stepR (PD a b c (nrm v) l []) = PD a b c (nrm v) l k := by
    cases k with
    | nil => rfl
    | cons e r => show List.foldl stepR (stepR _ _) [] = _; rw [s6]; rfl
  rw [t1, t2, t3]
theorem pk_nrm (a b c : Int) (v : Dt) (l k : List Dt) : pkD a b c (nrm v) l k = pkD a b c v l k := by
  have : oV (nrm v) = oV v := by
    unfold oV nrm
    by_cases h : Dt.I v 0 = 0
    · rw [if_pos h, if_pos h]; rfl
    · rw [if_neg h, if_neg h]
  unfold pkD pkDoc
  rw [this]
theorem ref_pack (m a : Nat) (x y z : Int) (v : Dt) (l k : List Dt) : ref32_Pack (m + 2) (PD x y z v l k) = some (pkD x y z v l k) := by
  rw [ref32_Pack]
  show (bif (Dt.I v 0 != 0) then ref32_Pack_j0 (m + 1) (PD x y z v l k) kza2373 5 0 emp [] [fV nmOp (iV x), fV nmSum (iV y), fV nmCount (iV z), fV nmValue v] else ref32_Pack_j0 (m + 1) (PD x y z v l k) kza2373 5 0 emp [] [fV nmOp (iV x), fV nmSum (iV y), fV nmCount (iV z)]) = _
  have h0 : ∀ ds : List Dt, ds.length ≤ 4 → ref32_Pack_j0 (m + 1) (PD x y z v l k) kza2373 5 0 emp [] ds = some (.agg [.int 5, .int 0, .str emp, .lst [], .lst (ds ++ (oL nmList l ++ oL nmKeys k))]) := by
    intro ds hds
    have h1 : ∀ ds : List Dt, ds.length ≤ 5 → ref32_Pack_j1 (m + 1) (PD x y z v l k) kza2373 5 0 emp [] ds = some (.agg [.int 5, .int 0, .str emp, .lst [], .lst (ds ++ oL nmKeys k)]) := by
      intro ds hds
      unfold ref32_Pack_j1
      show (bif (decide (0 < (k.length : Int))) then Option.bind (ref01_List (m + 1) k) _ else _) = _
      cases k with
      | nil => simp [ref32_Pack_j2, oL]
      | cons e r =>
        have e0 : decide (0 < ((e :: r).length : Int)) = true := by rw [decide_eq_true_iff]; simp only [List.length_cons]; omega
        rw [e0]
        simp only [cond_true, ref01_List, Option.bind_some]
        rw [app_le (by simp; omega), Option.bind_some]
        rfl
    unfold ref32_Pack_j0
    show (bif (decide (0 < (l.length : Int))) then Option.bind (ref01_List (m + 1) l) _ else _) = _
    cases l with
    | nil => simp [oL]; exact h1 ds (by omega)
    | cons e r =>
      have e0 : decide (0 < ((e :: r).length : Int)) = true := by rw [decide_eq_true_iff]; simp only [List.length_cons]; omega
      rw [e0]
      simp only [cond_true, ref01_List, Option.bind_some]
      rw [app_le (by simp; omega), Option.bind_some, h1 _ (by simp; omega)]
      simp [oL, fV, lV, nmList, emp]
  by_cases h : Dt.I v 0 = 0
  · rw [show (Dt.I v 0 != 0) = false by rw [h]; rfl, cond_false, h0 _ (by simp)]
    simp [pkD, pkDoc, oV, h]
  · rw [show (Dt.I v 0 != 0) = true by simp [h], cond_true, h0 _ (by simp)]
    simp [pkD, pkDoc, oV, h]
end Go.Proofs.YtacpcknpliomoaaGreat
