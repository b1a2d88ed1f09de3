/- The law AccumUnpacks. -/
import Derived.Test.YtacpcknpliomoaaGreatUD
import Derived.Test.YtacpcknpliomoaaGreatMFew
import Derived.Test.YtacpcknpliomoaaGreatFx
set_option linter.unusedVariables false
set_option linter.unusedSimpArgs false
namespace Go.Proofs.YtacpcknpliomoaaGreat
open Go.Am
/-- What is read came from a state. -/
theorem vS_inv {rest : List Dt} (h : ∀ f ∈ rest, WF f) : rest = oV (vS rest).1 ++ (vS rest).2 := by
  cases rest with
  | nil => rfl
  | cons f r =>
    cases h f (by simp) with
    | @mk s v hv =>
      show _ = oV (bif (s.toList == [118, 97, 108, 117, 101]) && (Dt.I v 0 != 0) then (v, r) else (zV, (.agg [.str s, v]) :: r)).1 ++ (bif (s.toList == [118, 97, 108, 117, 101]) && (Dt.I v 0 != 0) then (v, r) else (zV, (.agg [.str s, v]) :: r)).2
      cases hc : (s.toList == [118, 97, 108, 117, 101]) && (Dt.I v 0 != 0) with
      | false => rfl
      | true =>
        rw [Bool.and_eq_true] at hc
        have e1 := (tl_iff s _).1 hc.1
        have e2 : Dt.I v 0 ≠ 0 := bne_iff_ne.1 hc.2
        subst e1
        show _ = oV v ++ r
        unfold oV
        rw [if_neg e2]
        rfl
theorem vS_wf {rest : List Dt} (h : ∀ f ∈ rest, WF f) : (∀ f ∈ (vS rest).2, f ∈ rest) := by
  cases rest with
  | nil => intro f hf; exact hf
  | cons f r =>
    show ∀ g ∈ (bif ((Dt.S f 0).toList == [118, 97, 108, 117, 101]) && (Dt.I (Dt.fld f 1) 0 != 0) then (Dt.fld f 1, r) else (zV, f :: r)).2, g ∈ f :: r
    cases ((Dt.S f 0).toList == [118, 97, 108, 117, 101]) && (Dt.I (Dt.fld f 1) 0 != 0) with
    | false => intro g hg; exact hg
    | true => intro g hg; exact List.mem_cons_of_mem _ hg
theorem lS_inv {nm : List UInt8} {rest : List Dt} (h : ∀ f ∈ rest, WF f) : rest = oL (ByteArray.mk (List.toArray nm)) (lS nm rest).1 ++ (lS nm rest).2 := by
  cases rest with
  | nil => rfl
  | cons f r =>
    cases h f (by simp) with
    | @mk s v hv =>
      show _ = oL _ (bif (s.toList == nm) && isL v then (Dt.L v 3, r) else ([], (.agg [.str s, v]) :: r)).1 ++ (bif (s.toList == nm) && isL v then (Dt.L v 3, r) else ([], (.agg [.str s, v]) :: r)).2
      cases hc : (s.toList == nm) && isL v with
      | false => rfl
      | true =>
        rw [Bool.and_eq_true] at hc
        have e1 := (tl_iff s _).1 hc.1
        obtain ⟨e2, e3⟩ := isL_wv hv hc.2
        subst e1
        show _ = oL _ (Dt.L v 3) ++ r
        generalize Dt.L v 3 = l at e2 e3
        subst e2
        cases l with
        | nil => exact absurd rfl e3
        | cons x l => rfl
theorem lS_wf {nm : List UInt8} {rest : List Dt} : (∀ f ∈ (lS nm rest).2, f ∈ rest) := by
  cases rest with
  | nil => intro f hf; exact hf
  | cons f r =>
    show ∀ g ∈ (bif ((Dt.S f 0).toList == nm) && isL (Dt.fld f 1) then (Dt.L (Dt.fld f 1) 3, r) else ([], f :: r)).2, g ∈ f :: r
    cases ((Dt.S f 0).toList == nm) && isL (Dt.fld f 1) with
    | false => intro g hg; exact hg
    | true => intro g hg; exact List.mem_cons_of_mem _ hg
/-- If the program accepts, the fields are those of a state. -/
theorem spec_ok {a b c : Int} {rest : List Dt} {p : Dt} (h : ∀ f ∈ rest, WF f) (hs : spec3 a b c rest = (p, 0)) : ∃ w l k, p = PD a b c w l k ∧ kOK a l k = true ∧ rest = oV w ++ (oL nmList l ++ oL nmKeys k) := by
  have h1 : ∀ f ∈ (vS rest).2, WF f := fun f hf => h f (vS_wf h f hf)
  have h2 : ∀ f ∈ (lS [108, 105, 115, 116] (vS rest).2).2, WF f := fun f hf => h1 f (lS_wf f hf)
  have i1 := vS_inv h
  have i2 := lS_inv (nm := [108, 105, 115, 116]) h1
  have i3 := lS_inv (nm := [107, 101, 121, 115]) h2
  unfold spec3 fin3 at hs
  generalize (lS [107, 101, 121, 115] (lS [108, 105, 115, 116] (vS rest).2).2).2 = r3 at hs i3
  generalize (lS [107, 101, 121, 115] (lS [108, 105, 115, 116] (vS rest).2).2).1 = k at hs i3
  generalize (lS [108, 105, 115, 116] (vS rest).2).2 = r2 at hs i3 i2
  generalize (lS [108, 105, 115, 116] (vS rest).2).1 = l at hs i2
  generalize (vS rest).2 = r1 at hs i2 i1
  generalize (vS rest).1 = w at hs i1
  cases hc : r3.isEmpty && kOK a l k with
  | false => rw [hc, cond_false] at hs; cases hs
  | true =>
    rw [hc, cond_true] at hs
    rw [Bool.and_eq_true] at hc
    have e3 : r3 = [] := List.isEmpty_iff.1 hc.1
    subst e3
    refine ⟨w, l, k, (congrArg Prod.fst hs).symm, hc.2, ?_⟩
    rw [i1, i2, i3, List.append_nil]
    rfl
theorem spec_err (a b c : Int) (rest : List Dt) : (spec3 a b c rest).2 = 0 ∨ spec3 a b c rest = (zP, 4) := by
  unfold spec3 fin3
  cases ((lS [107, 101, 121, 115] (lS [108, 105, 115, 116] (vS rest).2).2).2.isEmpty && kOK a (lS [108, 105, 115, 116] (vS rest).2).1 (lS [107, 101, 121, 115] (lS [108, 105, 115, 116] (vS rest).2).2).1) with
  | true => exact .inl rfl
  | false => exact .inr rfl
/-- What is packed is read. -/
theorem spec_pk (a b c : Int) (w : Dt) (l k : List Dt) (h : kOK a l k = true) : spec3 a b c (oV w ++ (oL nmList l ++ oL nmKeys k)) = (PD a b c (nrm w) l k, 0) := by
  have nv : ∀ (s : ByteArray) (x : Dt) (r : List Dt), (s.toList == [118, 97, 108, 117, 101]) = false → vS (fV s x :: r) = (zV, fV s x :: r) := fun s x r hs => by
    show (bif (s.toList == [118, 97, 108, 117, 101]) && (Dt.I x 0 != 0) then _ else _) = _
    rw [hs]; rfl
  have n1 : (nmList.toList == [118, 97, 108, 117, 101]) = false := by rw [nmList, tl_mk]; rfl
  have n2 : (nmKeys.toList == [118, 97, 108, 117, 101]) = false := by rw [nmKeys, tl_mk]; rfl
  have n3 : (nmKeys.toList == [108, 105, 115, 116]) = false := by rw [nmKeys, tl_mk]; rfl
  have n4 : (nmList.toList == [108, 105, 115, 116]) = true := by rw [nmList, tl_mk]; rfl
  have n5 : (nmKeys.toList == [107, 101, 121, 115]) = true := by rw [nmKeys, tl_mk]; rfl
  have n6 : (nmValue.toList == [118, 97, 108, 117, 101]) = true := by rw [nmValue, tl_mk]; rfl
  have s1 : vS (oV w ++ (oL nmList l ++ oL nmKeys k)) = (nrm w, oL nmList l ++ oL nmKeys k) := by
    unfold oV nrm
    by_cases hw : Dt.I w 0 = 0
    · rw [if_pos hw, if_pos hw, List.nil_append]
      cases l with
      | nil =>
        cases k with
        | nil => rfl
        | cons y k => exact nv _ _ _ n2
      | cons x l => exact nv _ _ _ n1
    · rw [if_neg hw, if_neg hw]
      show (bif (nmValue.toList == [118, 97, 108, 117, 101]) && (Dt.I w 0 != 0) then _ else _) = _
      rw [n6, show (Dt.I w 0 != 0) = true from bne_iff_ne.2 hw]
      rfl
  have s2 : lS [108, 105, 115, 116] (oL nmList l ++ oL nmKeys k) = (l, oL nmKeys k) := by
    cases l with
    | nil =>
      cases k with
      | nil => rfl
      | cons y k =>
        show (bif (nmKeys.toList == [108, 105, 115, 116]) && _ then _ else _) = _
        rw [n3]; rfl
    | cons x l =>
      show (bif (nmList.toList == [108, 105, 115, 116]) && isL (lV (x :: l)) then _ else _) = _
      rw [n4, isL_lV]
      rfl
  have s3 : lS [107, 101, 121, 115] (oL nmKeys k) = (k, []) := by
    cases k with
    | nil => rfl
    | cons y k =>
      show (bif (nmKeys.toList == [107, 101, 121, 115]) && isL (lV (y :: k)) then _ else _) = _
      rw [n5, isL_lV]
      rfl
  unfold spec3 fin3
  rw [s1, s2, s3, h]
  rfl
/-- The first three fields. -/
theorem hd_step {m : Nat} {M : Nat} {x v z : Dt} {i : Nat} {nm : ByteArray} (hi : i < 3) (hx : idx (Dt.toLst x) (i : Int) = some (.str nm)) {f : Dt} (hf : (Dt.L v 4)[i]? = some f) :
    accum_Unpack_l3 (m + 1) (M + 1) x (i : Int) v z = bif ((Dt.S f 0).toList == nm.toList) && isI (Dt.fld f 1) then accum_Unpack_l3 (m + 1) M x ((i + 1 : Nat) : Int) v z else some (zP, 4) := by
  rw [accum_Unpack_l3]
  have e0 : decide ((i : Int) < 3) = true := by rw [decide_eq_true_iff]; omega
  have e1 : idx (Dt.L v 4) (i : Int) = some f := by unfold idx; rw [if_pos (by omega)]; simpa using hf
  rw [e0, cond_true, accum_Unpack_j4, hx, Option.bind_some, e1, Option.bind_some]
  show (bif !((Dt.S f 0).toList == nm.toList) then _ else _) = _
  cases ((Dt.S f 0).toList == nm.toList) with
  | false => rfl
  | true =>
    rw [Bool.not_true, cond_false, Option.bind_some, isI_eq, Option.bind_some, Bool.true_and]
    cases isI (Dt.fld f 1) with
    | false => rfl
    | true =>
      rw [cond_true, Bool.not_true, accum_Unpack_j5, cond_false, accum_Unpack_j6, wrapS (by omega)]
theorem u7 {m : Nat} (hm : Big m) (v z : Dt) (a b c : Int) (rest : List Dt) (hv : Dt.L v 4 = fV nmOp (iV a) :: fV nmSum (iV b) :: fV nmCount (iV c) :: rest) (hr : ∀ f ∈ rest, WF f ∧ f.bulk ≤ 1048576) (hrl : rest.length ≤ 1048576) :
    accum_Unpack_j7 m v z = some (spec3 a b c rest) := by
  rw [accum_Unpack_j7, hv]
  have e1 : idx (fV nmOp (iV a) :: fV nmSum (iV b) :: fV nmCount (iV c) :: rest) 0 = some (fV nmOp (iV a)) := rfl
  have e2 : idx (fV nmOp (iV a) :: fV nmSum (iV b) :: fV nmCount (iV c) :: rest) 1 = some (fV nmSum (iV b)) := rfl
  have e3 : idx (fV nmOp (iV a) :: fV nmSum (iV b) :: fV nmCount (iV c) :: rest) 2 = some (fV nmCount (iV c)) := rfl
  have e4 : cutL (fV nmOp (iV a) :: fV nmSum (iV b) :: fV nmCount (iV c) :: rest) 3 (((fV nmOp (iV a) :: fV nmSum (iV b) :: fV nmCount (iV c) :: rest).length : Nat) : Int) = some rest := by
    have := cutL_nat (l := fV nmOp (iV a) :: fV nmSum (iV b) :: fV nmCount (iV c) :: rest) (i := 3) (j := (fV nmOp (iV a) :: fV nmSum (iV b) :: fV nmCount (iV c) :: rest).length) (by simp) (Nat.le_refl _)
    have e : ((fV nmOp (iV a) :: fV nmSum (iV b) :: fV nmCount (iV c) :: rest).drop 3).take ((fV nmOp (iV a) :: fV nmSum (iV b) :: fV nmCount (iV c) :: rest).length - 3) = rest := by simp
    rw [e] at this
    exact this
  rw [e1, Option.bind_some, e2, Option.bind_some, e3, Option.bind_some, e4, Option.bind_some, ipos]
  cases rest with
  | nil => exact u9 hm [] z a b c zV (by simp) (by simp)
  | cons f r =>
    have e0 : decide (0 < (f :: r).length) = true := by simp
    have e5 : idx (f :: r) 0 = some f := rfl
    rw [e0, cond_true, e5, Option.bind_some]
    unfold spec3
    rw [show vS (f :: r) = bif ((Dt.S f 0).toList == [118, 97, 108, 117, 101]) && (Dt.I (Dt.fld f 1) 0 != 0) then (Dt.fld f 1, r) else (zV, f :: r) from rfl]
    cases ((Dt.S f 0).toList == [118, 97, 108, 117, 101]) with
    | false => exact u8 hm z a b c f r hr hrl false zV (f :: r) (.inr ⟨rfl, rfl, rfl⟩)
    | true =>
      rw [cond_true, Option.bind_some, Bool.true_and]
      cases hq : (Dt.I (Dt.fld f 1) 0 != 0) with
      | false => exact u8 hm z a b c f r hr hrl false zV (f :: r) (.inr ⟨rfl, rfl, rfl⟩)
      | true => exact u8 hm z a b c f r hr hrl true (Dt.fld f 1) r (.inl ⟨rfl, rfl, rfl⟩)
/-- The program's Unpack: a state's value, or an error. -/
theorem prog_char {m : Nat} (hm : Big m) (hm2 : m < 200000000000) (v : Dt) (hw : WV v) (hb : v.bulk ≤ 1048576) : (∃ a b c w l k, accum_Unpack (m + 2) v = some (PD a b c w l k, 0) ∧ kOK a l k = true ∧ v = pkD a b c w l k) ∨ accum_Unpack (m + 2) v = some (zP, 4) := by
  cases hw with
  | @mk k i t l ds hl hd =>
    rw [bulk_val] at hb
    have hdl := len_bulk ds
    rw [accum_Unpack]
    show (∃ a b c w l' k', (bif (k != 5) then some (zP, 4) else bif (i != 0) then some (zP, 4) else bif !(t.toList == []) then some (zP, 4) else bif (decide (0 < (l.length : Int))) then some (zP, 4) else accum_Unpack_j0 (m + 1) (decide ((ds.length : Int) < 3)) (.agg [.int k, .int i, .str t, .lst l, .lst ds]) kzc575d) = some (PD a b c w l' k', 0) ∧ _) ∨
      (bif (k != 5) then some (zP, 4) else bif (i != 0) then some (zP, 4) else bif !(t.toList == []) then some (zP, 4) else bif (decide (0 < (l.length : Int))) then some (zP, 4) else accum_Unpack_j0 (m + 1) (decide ((ds.length : Int) < 3)) (.agg [.int k, .int i, .str t, .lst l, .lst ds]) kzc575d) = some (zP, 4)
    cases h1 : (k != 5) with
    | true => exact .inr rfl
    | false =>
    rw [cond_false]
    cases h2 : (i != 0) with
    | true => exact .inr rfl
    | false =>
    rw [cond_false]
    cases h3 : (t.toList == []) with
    | false => exact .inr rfl
    | true =>
    rw [Bool.not_true, cond_false]
    cases h4 : decide (0 < (l.length : Int)) with
    | true => exact .inr rfl
    | false =>
    rw [cond_false]
    cases h5 : decide ((ds.length : Int) < 3) with
    | true => exact .inr rfl
    | false =>
    have e1 : k = 5 := by simpa using h1
    have e2 : i = 0 := by simpa using h2
    have e3 : t = emp := tl_nil h3
    have e4 : l = [] := List.length_eq_zero_iff.1 (by rw [decide_eq_false_iff_not] at h4; omega)
    subst e1 e2 e3 e4
    rw [decide_eq_false_iff_not] at h5
    match ds, h5 with
    | [], h5 => exact absurd (by simp) h5
    | [_], h5 => exact absurd (by simp) h5
    | [_, _], h5 => exact absurd (by simp) h5
    | f0 :: f1 :: f2 :: rest, h5 =>
      have hV : Dt.L (.agg [.int 5, .int 0, .str emp, .lst [], .lst (f0 :: f1 :: f2 :: rest)]) 4 = f0 :: f1 :: f2 :: rest := rfl
      obtain ⟨m, rfl⟩ : ∃ q, m = q + 3 := ⟨m - 3, by have := hm.a; omega⟩
      have hgo : accum_Unpack_j0 (m + 3 + 1) false (.agg [.int 5, .int 0, .str emp, .lst [], .lst (f0 :: f1 :: f2 :: rest)]) kzc575d =
          accum_Unpack_l3 (m + 3 + 1) (m + 2 + 1 + 1 + 1) (Dt.lst [.str nmOp, .str nmSum, .str nmCount]) ((0 : Nat) : Int) (.agg [.int 5, .int 0, .str emp, .lst [], .lst (f0 :: f1 :: f2 :: rest)]) kzc575d := rfl
      rw [hgo, hd_step (nm := nmOp) (f := f0) (by omega) rfl rfl]
      cases hc0 : ((Dt.S f0 0).toList == nmOp.toList) && isI (Dt.fld f0 1) with
      | false => exact .inr rfl
      | true =>
      rw [cond_true, hd_step (nm := nmSum) (f := f1) (by omega) rfl rfl]
      cases hc1 : ((Dt.S f1 0).toList == nmSum.toList) && isI (Dt.fld f1 1) with
      | false => exact .inr rfl
      | true =>
      rw [cond_true, hd_step (nm := nmCount) (f := f2) (by omega) rfl rfl]
      cases hc2 : ((Dt.S f2 0).toList == nmCount.toList) && isI (Dt.fld f2 1) with
      | false => exact .inr rfl
      | true =>
      rw [cond_true]
      have w0 := hd f0 (by simp)
      have w1 := hd f1 (by simp)
      have w2 := hd f2 (by simp)
      have go : ∀ (f : Dt) (nm : ByteArray), WF f → (((Dt.S f 0).toList == nm.toList) && isI (Dt.fld f 1)) = true → ∃ n, f = fV nm (iV n) := by
        intro f nm hf hc
        rw [Bool.and_eq_true] at hc
        cases hf with
        | @mk s v hv =>
          have e1 : s = nm := (eqL_iff s nm).1 hc.1
          have e2 := isI_wv hv hc.2
          exact ⟨Dt.I v 1, by rw [e1]; show Dt.agg [.str nm, v] = .agg [.str nm, iV (Dt.I v 1)]; rw [← e2]⟩
      obtain ⟨a, rfl⟩ := go f0 nmOp w0 hc0
      obtain ⟨b, rfl⟩ := go f1 nmSum w1 hc1
      obtain ⟨c, rfl⟩ := go f2 nmCount w2 hc2
      have hrf : ∀ f ∈ rest, WF f := fun f hf => hd f (by simp [hf])
      have hrb : ∀ f ∈ rest, f.bulk ≤ 1048576 := fun f hf => by
        have := bulk_mem (l := fV nmOp (iV a) :: fV nmSum (iV b) :: fV nmCount (iV c) :: rest) (e := f) (by simp [hf])
        omega
      have hrl : rest.length ≤ 1048576 := by
        have h := len_bulk (fV nmOp (iV a) :: fV nmSum (iV b) :: fV nmCount (iV c) :: rest)
        simp only [List.length_cons] at h
        omega
      have hm' : Big (m + 3 + 1) := ⟨by have := hm.a; omega, by omega⟩
      have h7 := u7 hm' (.agg [.int 5, .int 0, .str emp, .lst [], .lst (fV nmOp (iV a) :: fV nmSum (iV b) :: fV nmCount (iV c) :: rest)]) kzc575d a b c rest rfl (fun f hf => ⟨hrf f hf, hrb f hf⟩) hrl
      have h8 : accum_Unpack_l3 (m + 3 + 1) (m + 2) (Dt.lst [.str nmOp, .str nmSum, .str nmCount]) ((0 + 1 + 1 + 1 : Nat) : Int) (.agg [.int 5, .int 0, .str emp, .lst [], .lst (fV nmOp (iV a) :: fV nmSum (iV b) :: fV nmCount (iV c) :: rest)]) kzc575d = some (spec3 a b c rest) := h7
      rw [h8]
      rcases spec_err a b c rest with h | h
      · obtain ⟨w, l, k, q1, q2, q3⟩ := spec_ok (p := (spec3 a b c rest).1) hrf (by rw [← h])
        refine .inl ⟨a, b, c, w, l, k, ?_, q2, ?_⟩
        · rw [← q1, ← h]
        · rw [q3]; rfl
      · exact .inr (by rw [h])
theorem prog_pk {m : Nat} (hm : Big m) (hm2 : m < 200000000000) (a b c : Int) (w : Dt) (l k : List Dt) (hw : WV (pkD a b c w l k)) (hb : (pkD a b c w l k).bulk ≤ 1048576) (h : kOK a l k = true) : accum_Unpack (m + 2) (pkD a b c w l k) = some (PD a b c (nrm w) l k, 0) := by
  obtain ⟨m, rfl⟩ : ∃ q, m = q + 3 := ⟨m - 3, by have := hm.a; omega⟩
  have hp := wv_parts hw
  have hb6 := wv_bulk6 hw
  have hL : Dt.L (pkD a b c w l k) 4 = fV nmOp (iV a) :: fV nmSum (iV b) :: fV nmCount (iV c) :: (oV w ++ (oL nmList l ++ oL nmKeys k)) := rfl
  have hlen := len_bulk (Dt.L (pkD a b c w l k) 4)
  have hlt : ∀ i, i < 3 → i < (Dt.L (pkD a b c w l k) 4).length := fun i hi => by rw [hL]; simp only [List.length_cons]; omega
  have hgo : accum_Unpack (m + 3 + 2) (pkD a b c w l k) = bif !(emp.toList == []) then some (zP, 4) else accum_Unpack_j0 (m + 3 + 1) (decide (((Dt.L (pkD a b c w l k) 4).length : Int) < 3)) (pkD a b c w l k) kzc575d := rfl
  have h5 : decide (((Dt.L (pkD a b c w l k) 4).length : Int) < 3) = false := by rw [decide_eq_false_iff_not]; have := hlt 2 (by omega); omega
  have hgo2 : accum_Unpack_j0 (m + 3 + 1) false (pkD a b c w l k) kzc575d = accum_Unpack_l3 (m + 3 + 1) (m + 2 + 1 + 1 + 1) (Dt.lst [.str nmOp, .str nmSum, .str nmCount]) ((0 : Nat) : Int) (pkD a b c w l k) kzc575d := rfl
  rw [hgo, show emp.toList = [] from tl_mk [], h5]
  show accum_Unpack_j0 (m + 3 + 1) false (pkD a b c w l k) kzc575d = _
  rw [hgo2, hd_step (nm := nmOp) (f := fV nmOp (iV a)) (by omega) rfl rfl]
  have c0 : (((Dt.S (fV nmOp (iV a)) 0).toList == nmOp.toList) && isI (Dt.fld (fV nmOp (iV a)) 1)) = true := by
    show ((nmOp.toList == nmOp.toList) && isI (iV a)) = true
    rw [isI_iV, beq_self_eq_true]; rfl
  rw [c0, cond_true, hd_step (nm := nmSum) (f := fV nmSum (iV b)) (by omega) rfl rfl]
  have c1 : (((Dt.S (fV nmSum (iV b)) 0).toList == nmSum.toList) && isI (Dt.fld (fV nmSum (iV b)) 1)) = true := by
    show ((nmSum.toList == nmSum.toList) && isI (iV b)) = true
    rw [isI_iV, beq_self_eq_true]; rfl
  rw [c1, cond_true, hd_step (nm := nmCount) (f := fV nmCount (iV c)) (by omega) rfl rfl]
  have c2 : (((Dt.S (fV nmCount (iV c)) 0).toList == nmCount.toList) && isI (Dt.fld (fV nmCount (iV c)) 1)) = true := by
    show ((nmCount.toList == nmCount.toList) && isI (iV c)) = true
    rw [isI_iV, beq_self_eq_true]; rfl
  rw [c2, cond_true]
  have hm' : Big (m + 3 + 1) := ⟨by have := hm.a; omega, by omega⟩
  have hrf : ∀ f ∈ oV w ++ (oL nmList l ++ oL nmKeys k), WF f ∧ f.bulk ≤ 1048576 := fun f hf => by
    have hm : f ∈ Dt.L (pkD a b c w l k) 4 := by rw [hL]; simp only [List.mem_cons]; exact .inr (.inr (.inr hf))
    have := bulk_mem hm
    refine ⟨?_, by omega⟩
    cases hw with
    | mk _ hd => exact hd f hm
  have h7 := u7 hm' (pkD a b c w l k) kzc575d a b c _ hL hrf (by
    have h : (Dt.L (pkD a b c w l k) 4).length = (oV w ++ (oL nmList l ++ oL nmKeys k)).length + 3 := by rw [hL]; simp only [List.length_cons]
    omega)
  rw [spec_pk a b c w l k h] at h7
  exact h7
theorem wv_pd {v : Dt} {a b c : Int} {w : Dt} {l k : List Dt} (hw : WV v) (e : v = pkD a b c w l k) : WV (nrm w) ∧ (∀ e ∈ l, WV e) ∧ (∀ e ∈ k, WV e) := by
  subst e
  cases hw with
  | mk _ hd =>
    have h1 : ∀ (s : ByteArray) (x : List Dt), (∀ f ∈ oL s x, WF f) → ∀ e ∈ x, WV e := by
      intro s x hx e he
      cases x with
      | nil => simp at he
      | cons y r =>
        have hf : WF (fV s (lV (y :: r))) := hx _ (by simp [oL])
        generalize hq : lV (y :: r) = q at hf
        unfold fV at hf
        cases hf with
        | mk hv =>
          unfold lV at hq
          subst hq
          cases hv with
          | mk hl _ => exact hl e he
    refine ⟨?_, h1 nmList l fun f hf => hd f (by simp [pkDoc, hf]), h1 nmKeys k fun f hf => hd f (by simp [pkDoc, hf])⟩
    unfold nrm
    by_cases h0 : Dt.I w 0 = 0
    · rw [if_pos h0]; exact wv_zV
    · rw [if_neg h0]
      have hf : WF (fV nmValue w) := hd _ (by simp [pkDoc, oV, h0])
      unfold fV at hf
      cases hf with
      | mk hv => exact hv
theorem same_pd (m : Nat) (hm : 1000000000 ≤ m) {a b c : Int} {w : Dt} {l k : List Dt} (hw : WV w) (hl : ∀ e ∈ l, WV e) (hk : ∀ e ∈ k, WV e) (b1 : w.bulk ≤ 1048600) (b2 : Dt.bulkL l ≤ 1048600) (b3 : Dt.bulkL k ≤ 1048600) : ref32_Same (m + 3) (PD a b c w l k) (PD a b c w l k) = some true := by
  rw [ref32_Same]
  have h1 : ref01_Same (m + 2) (Dt.fld (PD a b c w l k) 3) (Dt.fld (PD a b c w l k) 3) = some true := same_refl w.bulk w (Nat.le_refl _) (by omega) hw (m + 1) (by omega)
  have h2 : ref01_SameList (m + 2) (Dt.L (PD a b c w l k) 4) (Dt.L (PD a b c w l k) 4) = some true := samelist_refl 1048700 l (by omega) (by omega) hl m (by omega)
  have h3 : ref01_SameList (m + 2) (Dt.L (PD a b c w l k) 5) (Dt.L (PD a b c w l k) 5) = some true := samelist_refl 1048700 k (by omega) (by omega) hk m (by omega)
  simp only [beq_self_eq_true, cond_true, h1, h2, h3, Option.bind_some]
theorem law_unpacks (v : Dt) (hw : WV v) (hb : v.bulk ≤ 1048576) (m : Nat) (hm : 4000000000 ≤ m) (hm2 : m < 100000000000) : law32_AccumUnpacks (m + 4) v = some true := by
  rw [law32_AccumUnpacks]
  obtain ⟨b0, h0⟩ := few_tot hw (by omega) (m + 1) (by omega) 2000
  rw [h0, Option.bind_some]
  cases b0 with
  | false => rfl
  | true =>
    show law32_AccumUnpacks_j0 (m + 3) v = some true
    rw [law32_AccumUnpacks_j0]
    have hB : Big (m + 1) := ⟨by omega, by omega⟩
    obtain ⟨a, b, c, w, l, k, hp, r, r1, r2, r3⟩ := ref_char (m + 2) v hw hb (by omega)
    rw [r1]
    have sz : ref32_Same (m + 3) zP zP = some true := same_pd m (by omega) wv_zV (by simp) (by simp) (by simp [zV, Dt.bulk, Dt.bulkL, show emp.size = 0 from rfl]) (by simp [Dt.bulkL]) (by simp [Dt.bulkL])
    have aw : awakeC = some true := rfl
    rcases prog_char hB (by omega) v hw hb with ⟨a', b', c', w', l', k', h1, h2, h3⟩ | h1
    · have h4 := prog_pk hB (by omega) a' b' c' w' l' k' (by rw [← h3]; exact hw) (by rw [← h3]; exact hb) h2
      rw [← h3, h1] at h4
      have e5 : PD a' b' c' w' l' k' = PD a' b' c' (nrm w') l' k' := congrArg Prod.fst (Option.some.inj h4)
      have e6 : w' = nrm w' := by unfold PD at e5; injection e5 with e5; injection e5 with _ e5; injection e5 with _ e5; injection e5 with _ e5; injection e5 with e5 _
      have e7 : (Dt.L v 4).foldl stepR zP = PD a' b' c' (nrm w') l' k' := by
        rw [h3]; exact fold_pk a' b' c' w' l' k'
      have e8 := hp.e
      rw [e7, ← e6] at e8
      obtain ⟨rfl, rfl, rfl, rfl, rfl, rfl⟩ : a' = a ∧ b' = b ∧ c' = c ∧ w' = w ∧ l' = l ∧ k' = k := by
        unfold PD at e8; simpa using e8
      rw [h1, r2 h2 h3.symm]
      have hs := same_pd m (by omega) hp.hv hp.hl hp.hk (a := a') (b := b') (c := c') (by have := hp.bv; omega) (by have := hp.bl; omega) (by have := hp.bk; omega)
      simp only [Option.bind_some, hs, cond_true, beq_self_eq_true, aw]
    · have e : r = (zP, 4) := by
        cases hk : kOK a l k with
        | false => exact r3 (.inl hk)
        | true =>
          by_cases hv : pkD a b c w l k = v
          · exfalso
            have := prog_pk hB (by omega) a b c w l k (by rw [hv]; exact hw) (by rw [hv]; exact hb) hk
            rw [hv, h1] at this
            have := congrArg Prod.snd (Option.some.inj this)
            simp at this
          · exact r3 (.inr hv)
      rw [h1, e]
      simp only [Option.bind_some, sz, cond_true, beq_self_eq_true, aw]
theorem unpacks_fx {ds : List Dt} (h : HasTys Tryz.prog Tryz.f3.params.toList ds) (hb : Dt.bulkL ds ≤ 1048576) : FX Tryz.prog 3 (dats Tryz.f3.params.toList ds) [] (.dat 4 (.bool true)) [] := by
  have h' : HasTys Tryz.prog [25] ds := h
  cases h' with
  | cons h1 r => cases r with
    | nil =>
      simp only [Dt.bulkL] at hb
      exact law32_AccumUnpacks_fx 4000000003 (ct_ok 4000000003) _ (law_unpacks _ (wv_of h1) (by omega) 4000000000 (by omega) (by omega))
end Go.Proofs.YtacpcknpliomoaaGreat
