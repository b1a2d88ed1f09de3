/- Accumulators: the program's Unpack. -/
import Derived.Test.YtacpcknpliomoaaGreatUC
set_option linter.unusedVariables false
set_option linter.unusedSimpArgs false
namespace Go.Proofs.YtacpcknpliomoaaGreat
open Go.Am
def isI (d : Dt) : Bool := (Dt.I d 0 == 3) && (((Dt.S d 2).toList == []) && (((Dt.L d 3).length == 0) && ((Dt.L d 4).length == 0)))
def isL (d : Dt) : Bool := (Dt.I d 0 == 6) && ((Dt.I d 1 == 0) && (((Dt.S d 2).toList == []) && (decide (0 < (Dt.L d 3).length) && ((Dt.L d 4).length == 0))))
theorem inat0 {n : Nat} : (((n : Int) == 0) : Bool) = (n == 0) := by rw [Bool.eq_iff_iff]; simp
theorem ipos {n : Nat} : (decide (0 < (n : Int))) = decide (0 < n) := by rw [Bool.eq_iff_iff]; simp
theorem isI_eq (m : Nat) (d : Dt) : accum_isInteger (m + 1) d = some (isI d) := by
  rw [accum_isInteger, inat0, inat0]
  unfold isI
  cases (Dt.I d 0 == 3) <;> cases ((Dt.S d 2).toList == []) <;> cases ((Dt.L d 3).length == 0) <;> rfl
theorem isL_eq (m : Nat) (d : Dt) : accum_isList (m + 1) d = some (isL d) := by
  rw [accum_isList, inat0, ipos]
  unfold isL
  cases (Dt.I d 0 == 6) <;> cases (Dt.I d 1 == 0) <;> cases ((Dt.S d 2).toList == []) <;> cases (decide (0 < (Dt.L d 3).length)) <;> rfl
theorem tl_nil {s : ByteArray} (h : (s.toList == []) = true) : s = emp := (tl_iff s []).1 h
theorem isI_wv {d : Dt} (hw : WV d) (h : isI d = true) : d = iV (Dt.I d 1) := by
  cases hw with
  | @mk k i t l ds hl hd =>
    simp only [isI, Bool.and_eq_true] at h
    obtain ⟨h1, h2, h3, h4⟩ := h
    have e1 : k = 3 := by simpa using (show (k == 3) = true from h1)
    have e2 : t = emp := tl_nil h2
    have e3 : l = [] := List.length_eq_zero_iff.1 (by simpa using (show (l.length == 0) = true from h3))
    have e4 : ds = [] := List.length_eq_zero_iff.1 (by simpa using (show (ds.length == 0) = true from h4))
    subst e1 e2 e3 e4
    rfl
theorem isL_wv {d : Dt} (hw : WV d) (h : isL d = true) : d = lV (Dt.L d 3) ∧ Dt.L d 3 ≠ [] := by
  cases hw with
  | @mk k i t l ds hl hd =>
    simp only [isL, Bool.and_eq_true] at h
    obtain ⟨h1, h2, h3, h4, h5⟩ := h
    have e1 : k = 6 := by simpa using (show (k == 6) = true from h1)
    have e2 : i = 0 := by simpa using (show (i == 0) = true from h2)
    have e3 : t = emp := tl_nil h3
    have e5 : ds = [] := List.length_eq_zero_iff.1 (by simpa using (show (ds.length == 0) = true from h5))
    subst e1 e2 e3 e5
    refine ⟨rfl, fun e => ?_⟩
    have e' : l = [] := e
    subst e'
    simp [Dt.L, Dt.fld, Dt.toLst] at h4
theorem isL_lV (l : List Dt) : isL (lV l) = decide (0 < l.length) := by
  unfold isL
  show (true && (true && ((emp.toList == []) && (decide (0 < l.length) && true)))) = _
  rw [show emp.toList = [] from tl_mk []]
  simp
theorem isI_iV (n : Int) : isI (iV n) = true := by
  unfold isI
  show (true && ((emp.toList == []) && (true && true))) = _
  rw [show emp.toList = [] from tl_mk []]
  rfl
theorem fit_loop (m : Nat) (p : Dt) (k : List Dt) (hl : k.length < 9223372036854775807) : ∀ (M i : Nat), i ≤ k.length → k.length - i < M →
    accum_keysFit_l2 m M k (k.length : Int) (i : Int) p = bif (k.drop i).all (fun e => Dt.I e 0 == 6) then accum_keysFit_j5 m p else some false
  | 0, i, _, h => by omega
  | M + 1, i, hi, h => by
    rw [accum_keysFit_l2, dlt]
    by_cases hlt : i < k.length
    · rw [show decide (i < k.length) = true by simp [hlt], cond_true, accum_keysFit_j3, idx_lt hlt, Option.bind_some, List.drop_eq_getElem_cons hlt, List.all_cons]
      by_cases h6 : Dt.I k[i] 0 = 6
      · have e1 : (Dt.I k[i] 0 != 6) = false := by rw [h6]; rfl
        have e2 : (Dt.I k[i] 0 == 6) = true := by rw [h6]; rfl
        rw [e1, cond_false, e2, Bool.true_and, accum_keysFit_j4, wrapS (by omega)]
        exact fit_loop m p k hl M (i + 1) (by omega) (by omega)
      · have e1 : (Dt.I k[i] 0 != 6) = true := by simp [h6]
        have e2 : (Dt.I k[i] 0 == 6) = false := by simp [h6]
        rw [e1, cond_true, e2, Bool.false_and, cond_false]
    · have e : i = k.length := by omega
      subst e
      simp
theorem fit_eq (m : Nat) (a b c : Int) (w : Dt) (l k : List Dt) (hl : k.length ≤ m) (hm : m < 9223372036854775807) : accum_keysFit (m + 1) (PD a b c w l k) = some (kOK a l k) := by
  rw [accum_keysFit]
  unfold kOK
  show (bif (a != 10) then some (((k.length : Nat) : Int) == 0) else accum_keysFit_l2 m (m + 1) k (k.length : Int) ((0 : Nat) : Int) (PD a b c w l k)) = _
  by_cases ha : a = 10
  · have e1 : (a == 10) = true := by rw [ha]; rfl
    have e2 : (a != 10) = false := by rw [ha]; rfl
    rw [e1, e2, cond_true, cond_false, fit_loop m _ k (by omega) (m + 1) 0 (by omega) (by omega), List.drop_zero]
    show (bif _ then some (((k.length : Nat) : Int) == ((l.length : Nat) : Int)) else _) = _
    rw [ieq]
    cases (k.all fun e => Dt.I e 0 == 6) <;> simp
  · have e1 : (a == 10) = false := by simp [ha]
    have e2 : (a != 10) = true := by simp [ha]
    rw [e1, e2, cond_true, cond_false, inat0]
    cases k <;> rfl
/-- What is read behind the first three fields. -/
def vS : List Dt → Dt × List Dt
  | [] => (zV, [])
  | f :: r => bif ((Dt.S f 0).toList == [118, 97, 108, 117, 101]) && (Dt.I (Dt.fld f 1) 0 != 0) then (Dt.fld f 1, r) else (zV, f :: r)
def lS (nm : List UInt8) : List Dt → List Dt × List Dt
  | [] => ([], [])
  | f :: r => bif ((Dt.S f 0).toList == nm) && isL (Dt.fld f 1) then (Dt.L (Dt.fld f 1) 3, r) else ([], f :: r)
def fin3 (a b c : Int) (w : Dt) (l k : List Dt) (r : List Dt) : Dt × Int := bif r.isEmpty && kOK a l k then (PD a b c w l k, 0) else (zP, 4)
def spec3 (a b c : Int) (rest : List Dt) : Dt × Int :=
  fin3 a b c (vS rest).1 (lS [108, 105, 115, 116] (vS rest).2).1 (lS [107, 101, 121, 115] (lS [108, 105, 115, 116] (vS rest).2).2).1 (lS [107, 101, 121, 115] (lS [108, 105, 115, 116] (vS rest).2).2).2
theorem cut1 {f : Dt} {r : List Dt} (h : r.length < 9223372036854775807) : cutL (f :: r) 1 (((f :: r).length : Nat) : Int) = some r := by
  have := cutL_nat (l := f :: r) (i := 1) (j := (f :: r).length) (by simp) (Nat.le_refl _)
  have e : ((f :: r).drop 1).take ((f :: r).length - 1) = r := by simp
  rw [e] at this
  exact this
structure Big (m : Nat) : Prop where
  a : 1000000000 ≤ m
  b : m < 1000000000000
theorem u13 {m : Nat} (hm : Big m) (r : List Dt) (z : Dt) (a b c : Int) (w : Dt) (l k : List Dt) (hk : k.length ≤ 1048576) : accum_Unpack_j13 m r z (PD a b c w l k) = some (fin3 a b c w l k r) := by
  obtain ⟨m, rfl⟩ : ∃ q, m = q + 1 := ⟨m - 1, by have := hm.a; omega⟩
  have h1 := hm.a
  have h2 := hm.b
  rw [accum_Unpack_j13, ipos, fit_eq m a b c w l k (by omega) (by omega)]
  unfold fin3
  cases r with
  | nil =>
    show (bif false then _ else _) = _
    cases kOK a l k <;> rfl
  | cons f r => rfl
theorem u11 {m : Nat} (hm : Big m) (r : List Dt) (z : Dt) (a b c : Int) (w : Dt) (l : List Dt) (hr : ∀ f ∈ r, WF f ∧ f.bulk ≤ 1048576) (hrl : r.length ≤ 1048576) : accum_Unpack_j11 m r z (PD a b c w l []) = some (fin3 a b c w l (lS [107, 101, 121, 115] r).1 (lS [107, 101, 121, 115] r).2) := by
  have h1 := hm.a
  have h2 := hm.b
  rw [accum_Unpack_j11, ipos]
  cases r with
  | nil => exact u13 hm [] z a b c w l [] (by simp)
  | cons f r =>
    have e0 : decide (0 < (f :: r).length) = true := by simp
    have e1 : idx (f :: r) 0 = some f := rfl
    rw [e0, cond_true, e1, Option.bind_some]
    have no : accum_Unpack_j12 m (f :: r) false z (PD a b c w l []) = some (fin3 a b c w l [] (f :: r)) := u13 hm _ z a b c w l [] (by simp)
    rw [show lS [107, 101, 121, 115] (f :: r) = bif ((Dt.S f 0).toList == [107, 101, 121, 115]) && isL (Dt.fld f 1) then (Dt.L (Dt.fld f 1) 3, r) else ([], f :: r) from rfl]
    cases hn : ((Dt.S f 0).toList == [107, 101, 121, 115]) with
    | false => rw [cond_false, Bool.false_and, cond_false]; exact no
    | true =>
      obtain ⟨q, rfl⟩ : ∃ q, m = q + 1 := ⟨m - 1, by omega⟩
      rw [cond_true, Option.bind_some, isL_eq, Option.bind_some, Bool.true_and]
      cases hq : isL (Dt.fld f 1) with
      | false => rw [cond_false]; exact no
      | true =>
        rw [cond_true, accum_Unpack_j12, cond_true, e1, Option.bind_some]
        obtain ⟨hf, hfb⟩ := hr f (by simp)
        cases hf with
        | @mk s v hv =>
          rw [bulk_fld] at hfb
          have h6 := wv_bulk6 hv
          have h7 := len_bulk (Dt.L v 3)
          have hc : accum_copyList (q + 1) (Dt.L (Dt.fld (.agg [.str s, v]) 1) 3) = some (Dt.L v 3) := acopy_list 0 _ (by show (Dt.L v 3).length ≤ _; omega) q (by show (Dt.L v 3).length ≤ q; omega) fun e he => by
            obtain ⟨q', rfl⟩ : ∃ q', q = q' + 1 := ⟨q - 1, by omega⟩
            have hp := (wv_parts hv).2.2.1 e he
            exact acopy_eq e.bulk e (Nat.le_refl _) (by omega) hp.1 q' (by omega)
          rw [hc, Option.bind_some, cut1 (by simp at hrl; omega), Option.bind_some]
          exact u13 hm r z a b c w l (Dt.L v 3) (by omega)
theorem u9 {m : Nat} (hm : Big m) (r : List Dt) (z : Dt) (a b c : Int) (w : Dt) (hr : ∀ f ∈ r, WF f ∧ f.bulk ≤ 1048576) (hrl : r.length ≤ 1048576) :
    accum_Unpack_j9 m r z (PD a b c w [] []) = some (fin3 a b c w (lS [108, 105, 115, 116] r).1 (lS [107, 101, 121, 115] (lS [108, 105, 115, 116] r).2).1 (lS [107, 101, 121, 115] (lS [108, 105, 115, 116] r).2).2) := by
  have h1 := hm.a
  have h2 := hm.b
  rw [accum_Unpack_j9, ipos]
  cases r with
  | nil => exact u11 hm [] z a b c w [] (by simp) (by simp)
  | cons f r =>
    have e0 : decide (0 < (f :: r).length) = true := by simp
    have e1 : idx (f :: r) 0 = some f := rfl
    rw [e0, cond_true, e1, Option.bind_some]
    have no : accum_Unpack_j10 m (f :: r) false z (PD a b c w [] []) = some (fin3 a b c w [] (lS [107, 101, 121, 115] (f :: r)).1 (lS [107, 101, 121, 115] (f :: r)).2) := u11 hm _ z a b c w [] hr hrl
    rw [show lS [108, 105, 115, 116] (f :: r) = bif ((Dt.S f 0).toList == [108, 105, 115, 116]) && isL (Dt.fld f 1) then (Dt.L (Dt.fld f 1) 3, r) else ([], f :: r) from rfl]
    cases hn : ((Dt.S f 0).toList == [108, 105, 115, 116]) with
    | false => rw [cond_false, Bool.false_and, cond_false]; exact no
    | true =>
      obtain ⟨q, rfl⟩ : ∃ q, m = q + 1 := ⟨m - 1, by omega⟩
      rw [cond_true, Option.bind_some, isL_eq, Option.bind_some, Bool.true_and]
      cases hq : isL (Dt.fld f 1) with
      | false => rw [cond_false]; exact no
      | true =>
        rw [cond_true, accum_Unpack_j10, cond_true, e1, Option.bind_some]
        obtain ⟨hf, hfb⟩ := hr f (by simp)
        cases hf with
        | @mk s v hv =>
          rw [bulk_fld] at hfb
          have h6 := wv_bulk6 hv
          have h7 := len_bulk (Dt.L v 3)
          have hc : accum_copyList (q + 1) (Dt.L (Dt.fld (.agg [.str s, v]) 1) 3) = some (Dt.L v 3) := acopy_list 0 _ (by show (Dt.L v 3).length ≤ _; omega) q (by show (Dt.L v 3).length ≤ q; omega) fun e he => by
            obtain ⟨q', rfl⟩ : ∃ q', q = q' + 1 := ⟨q - 1, by omega⟩
            have hp := (wv_parts hv).2.2.1 e he
            exact acopy_eq e.bulk e (Nat.le_refl _) (by omega) hp.1 q' (by omega)
          rw [hc, Option.bind_some, cut1 (by simp at hrl; omega), Option.bind_some]
          exact u11 hm r z a b c w (Dt.L v 3) (fun g hg => hr g (by simp [hg])) (by simp at hrl; omega)
theorem u8 {m : Nat} (hm : Big m) (z : Dt) (a b c : Int) (f : Dt) (r : List Dt) (hr : ∀ g ∈ f :: r, WF g ∧ g.bulk ≤ 1048576) (hrl : (f :: r).length ≤ 1048576) (t : Bool) (w : Dt) (q : List Dt)
    (h : t = true ∧ w = Dt.fld f 1 ∧ q = r ∨ t = false ∧ w = zV ∧ q = f :: r) :
    accum_Unpack_j8 m (f :: r) t z (PD a b c zV [] []) = some (fin3 a b c w (lS [108, 105, 115, 116] q).1 (lS [107, 101, 121, 115] (lS [108, 105, 115, 116] q).2).1 (lS [107, 101, 121, 115] (lS [108, 105, 115, 116] q).2).2) := by
  have h1 := hm.a
  have h2 := hm.b
  rcases h with ⟨rfl, rfl, rfl⟩ | ⟨rfl, rfl, rfl⟩
  · have e1 : idx (f :: q) 0 = some f := rfl
    rw [accum_Unpack_j8, cond_true, e1, Option.bind_some]
    obtain ⟨hf, hfb⟩ := hr f (by simp)
    cases hf with
    | @mk s v hv =>
      rw [bulk_fld] at hfb
      obtain ⟨m, rfl⟩ : ∃ q, m = q + 1 := ⟨m - 1, by omega⟩
      have hc : accum_copyValue (m + 1) (Dt.fld (.agg [.str s, v]) 1) = some v := acopy_eq v.bulk v (Nat.le_refl _) (by omega) hv m (by omega)
      rw [hc, Option.bind_some, cut1 (by simp at hrl; omega), Option.bind_some]
      exact u9 hm q z a b c v (fun g hg => hr g (by simp [hg])) (by simp at hrl; omega)
  · exact u9 hm (f :: r) z a b c zV hr hrl
end Go.Proofs.YtacpcknpliomoaaGreat
