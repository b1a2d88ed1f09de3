/- The law AccumMany. -/
import Derived.Test.YtacpcknpliomoaaGreatYMb
import Derived.Test.YtacpcknpliomoaaGreatFx
import Derived.Test.YtacpcknpliomoaaGreatMTy
set_option linter.unusedVariables false
set_option linter.unusedSimpArgs false
namespace Go.Proofs.YtacpcknpliomoaaGreat
open Go.Am
/-- The inverse of an odd number. -/
def inv1 (c x : Nat) : Nat := x * (2050 - c * x % 2048) % 2048
def inv (c : Nat) : Nat := inv1 c (inv1 c c)
set_option maxRecDepth 100000 in
theorem inv_ok : ∀ s, s < 256 → (2 * s + 1) * inv (2 * s + 1) % 2048 = 1 := by decide +kernel
theorem val_inj {s i j : Nat} (hs : s < 256) (hi : i < 2048) (hj : j < 2048) (h : i * (2 * s + 1) % 2048 = j * (2 * s + 1) % 2048) : i = j := by
  have key : ∀ k, k < 2048 → (k * (2 * s + 1) % 2048) * inv (2 * s + 1) % 2048 = k := fun k hk => by
    rw [Nat.mul_mod, Nat.mod_mod, ← Nat.mul_mod, Nat.mul_assoc, Nat.mul_mod, inv_ok s hs, Nat.mul_one, Nat.mod_mod, Nat.mod_eq_of_lt hk]
  rw [← key i hi, ← key j hj, h]
/-- The numbers of the documents. -/
def vals (m s : Nat) : List Int := (List.range m).map fun i => ((i * (2 * s + 1) % 2048 : Nat) : Int)
theorem vals_len (m s : Nat) : (vals m s).length = m := by simp [vals]
theorem vals_get {m s i : Nat} (h : i < (vals m s).length) : (vals m s)[i] = ((i * (2 * s + 1) % 2048 : Nat) : Int) := by simp [vals]
theorem vals_lt {m s : Nat} : ∀ x ∈ vals m s, ∃ t : Nat, x = t ∧ t < 2048 := fun x hx => by
  obtain ⟨i, _, rfl⟩ := List.mem_map.1 hx
  exact ⟨_, rfl, Nat.mod_lt _ (by omega)⟩
theorem vals_ne {m s : Nat} (hm : m ≤ 1200) (hs : s < 256) : (vals m s).Pairwise (· ≠ ·) := by
  rw [List.pairwise_iff_getElem]
  intro i j hi hj hij e
  have h1 := vals_len m s
  rw [vals_get, vals_get] at e
  have := val_inj (s := s) (i := i) (j := j) hs (by omega) (by omega) (by omega)
  omega
theorem val_eq {i s : Nat} (hi : i < 1200) (hs : s < 256) : Int.tmod (IntKind.wrap .i64 ((i : Int) * (IntKind.wrap .i64 ((IntKind.wrap .i64 (2 * (IntKind.wrap .i64 (s : Int)))) + 1)))) 2048 = ((i * (2 * s + 1) % 2048 : Nat) : Int) := by
  have h1 : i * (2 * s + 1) ≤ 1200 * 511 := Nat.mul_le_mul (by omega) (by omega)
  have e1 : IntKind.wrap .i64 (s : Int) = (s : Int) := wrY rfl (by omega)
  have e2 : IntKind.wrap .i64 (2 * (s : Int)) = ((2 * s : Nat) : Int) := wrY (by omega) (by omega)
  have e3 : IntKind.wrap .i64 (((2 * s : Nat) : Int) + 1) = ((2 * s + 1 : Nat) : Int) := wrY (by omega) (by omega)
  have e4 : IntKind.wrap .i64 ((i : Int) * ((2 * s + 1 : Nat) : Int)) = ((i * (2 * s + 1) : Nat) : Int) := wrY (by rw [Int.natCast_mul]) (by omega)
  rw [e1, e2, e3, e4]
  rfl
theorem doc_eq (m : Nat) (n : Int) : law32_doc (m + 2) n = some (doD n) := rfl
theorem doc_loop {q : Nat} (m s : Nat) (hm : m ≤ 1199) (hs : s < 256) (k : Int) (a b : Dt) : ∀ (M i : Nat), i ≤ m → m - i < M →
    law32_AccumMany_l1 (q + 2) M k (s : Int) (m : Int) (i : Int) a b (((vals m s).take i).map doD) = law32_AccumMany_j4 (q + 2) k (m : Int) ((vals m s).map doD) a b
  | 0, i, _, h => by omega
  | M + 1, i, hi, h => by
    have hv := vals_len m s
    rw [law32_AccumMany_l1, dlt]
    by_cases hlt : i < m
    · rw [decide_eq_true hlt, cond_true, law32_AccumMany_j2, val_eq (by omega) hs, doc_eq, Option.bind_some, app_le (by simp; omega), Option.bind_some, law32_AccumMany_j3, wrapS (by omega)]
      have e : ((vals m s).take i).map doD ++ [doD ((i * (2 * s + 1) % 2048 : Nat) : Int)] = ((vals m s).take (i + 1)).map doD := by
        rw [List.take_succ_eq_append_getElem (show i < (vals m s).length by omega), List.map_append, vals_get]
        rfl
      rw [e]
      exact doc_loop m s hm hs k a b M (i + 1) (by omega) (by omega)
    · have e : i = m := by omega
      subst e
      rw [decide_eq_false hlt, cond_false, List.take_of_length_le (by omega)]
/-- Flags. -/
def fl (h : Nat → Bool) : List Dt := (List.range 2048).map fun x => .bool (h x)
theorem fl_len (h : Nat → Bool) : (fl h).length = 2048 := by simp [fl]
theorem fl_get (h : Nat → Bool) {x : Nat} (hx : x < 2048) : (fl h)[x]? = some (.bool (h x)) := by simp [fl, hx]
theorem fl_set (h : Nat → Bool) (v : Nat) : (fl h).set v (.bool true) = fl fun x => h x || x == v := by
  apply List.ext_getElem?
  intro x
  rw [List.getElem?_set]
  by_cases hx : x < 2048
  · rw [fl_get _ hx, fl_get _ hx, fl_len]
    by_cases e : v = x
    · subst e
      rw [if_pos rfl, if_pos hx]
      simp
    · rw [if_neg e, beq_eq_false_iff_ne.2 (Ne.symm e), Bool.or_false]
  · have h1 : (fl h)[x]? = none := List.getElem?_eq_none (by rw [fl_len]; omega)
    have h2 : (fl fun x => h x || x == v)[x]? = none := List.getElem?_eq_none (by rw [fl_len]; omega)
    rw [h1, h2, fl_len]
    split
    · rw [if_neg (by omega)]
    · rfl
theorem offs_fl : offs 2048 = fl fun _ => false := by
  apply List.ext_getElem?
  intro x
  by_cases hx : x < 2048
  · rw [fl_get _ hx, offs, List.getElem?_replicate, if_pos hx]
  · rw [List.getElem?_eq_none (by rw [offs, List.length_replicate]; omega), List.getElem?_eq_none (by rw [fl_len]; omega)]
theorem toLst_lst (es : List Dt) : Dt.toLst (.lst es) = es := rfl
theorem toBool_bool (b : Bool) : Dt.toBool (.bool b) = b := rfl
theorem doD_fld (n : Int) : idx (Dt.L (doD n) 4) 0 = some (.agg [.str (ByteArray.mk (List.toArray [97])), inD n]) := rfl
theorem flag_loop {q : Nat} (ks : List Int) (hk : ks.length ≤ 3000) (hv : ∀ x ∈ ks, ∃ t : Nat, x = t ∧ t < 2048) (x2 : Int) (x4 x5 : Dt) : ∀ (M i : Nat), i ≤ ks.length → ks.length - i < M →
    law32_AccumMany_l9 q M (ks.length : Int) (ks.map doD) x2 (i : Int) x4 x5 (.lst (fl fun x => decide ((x : Int) ∈ ks.take i))) = law32_AccumMany_j12 q (ks.map doD) x2 x4 x5 (.lst (fl fun x => decide ((x : Int) ∈ ks)))
  | 0, i, _, h => by omega
  | M + 1, i, hi, h => by
    rw [law32_AccumMany_l9, dlt]
    by_cases hlt : i < ks.length
    · obtain ⟨t, e, ht⟩ := hv _ (List.getElem_mem hlt)
      have ih := flag_loop (q := q) ks hk hv x2 x4 x5 M (i + 1) (by omega) (by omega)
      have hI : Dt.I (Dt.fld (.agg [.str (ByteArray.mk (List.toArray [97])), inD (t : Int)]) 1) 1 = (t : Int) := rfl
      rw [decide_eq_true hlt, cond_true, law32_AccumMany_j10, idx_lt (by simpa using hlt), Option.bind_some, doD_get hlt, e, doD_fld, Option.bind_some, hI]
      rw [toLst_lst, inL_lt (by rw [fl_len]; exact ht), Option.bind_some, Int.toNat_natCast, fl_get _ ht, Option.bind_some, law32_AccumMany_j11, wrapS (by omega), fl_set]
      have e2 : (fun x : Nat => decide ((x : Int) ∈ ks.take i) || x == t) = fun x : Nat => decide ((x : Int) ∈ ks.take (i + 1)) := by
        funext x
        rw [List.take_succ_eq_append_getElem hlt, e]
        simp only [List.mem_append, List.mem_singleton, Bool.decide_or]
        congr 1
        rw [Bool.eq_iff_iff]
        simp
        omega
      rw [e2]
      exact ih
    · have e : i = ks.length := by omega
      subst e
      rw [decide_eq_false hlt, cond_false, List.take_of_length_le (Nat.le_refl _)]
theorem least_loop {q : Nat} (rec14 : List Dt → Int → Int → Int → Dt → Dt → Dt → Option Bool) (h : Nat → Bool) (x0 : List Dt) (x1 x3 : Int) (x4 x5 : Dt) (t : Nat) (ht : t < 2048) (h1 : h t = true) : ∀ (M L : Nat), L ≤ t → t - L < M → (∀ x, L ≤ x → x < t → h x = false) →
    law32_AccumMany_l16 q rec14 M x0 x1 (L : Int) x3 x4 x5 (.lst (fl h)) = law32_AccumMany_j18 q rec14 x0 x1 (t : Int) x3 x4 x5 (.lst (fl h))
  | 0, L, _, hM, _ => by omega
  | M + 1, L, hL, hM, h0 => by
    rw [law32_AccumMany_l16]
    by_cases hlt : L < 2047
    · rw [decide_eq_true (by omega), cond_true]
      rw [toLst_lst, inL_lt (by rw [fl_len]; omega), Option.bind_some, Int.toNat_natCast, fl_get _ (by omega), Option.bind_some, toBool_bool]
      rcases Nat.lt_or_eq_of_le hL with h2 | h2
      · rw [h0 L (Nat.le_refl _) h2, Bool.not_false, cond_true, law32_AccumMany_j17, wrapS (by omega)]
        exact least_loop rec14 h x0 x1 x3 x4 x5 t ht h1 M (L + 1) (by omega) (by omega) (fun x hx hx2 => h0 x (by omega) hx2)
      · subst h2
        rw [h1, Bool.not_true, cond_false]
    · have e : L = t := by omega
      subst e
      rw [decide_eq_false (by omega), cond_false]
theorem same_in {m : Nat} (hm : 7 ≤ m) (n : Int) : ref01_Same (m + 1) (inD n) (inD n) = some true := same_refl 6 (inD n) (Nat.le_refl _) (by omega) (wv_in n) m (by omega)
theorem check_loop {q : Nat} (hq : 3000 ≤ q) (ks l : List Int) (hk : ks.length ≤ 3000) (hv : ∀ x ∈ ks, ∃ t : Nat, x = t ∧ t < 2048) (hL : Lst l (· ∈ ks)) (hl : l.length = min ks.length 1024) : ∀ (M i L : Nat), i ≤ l.length → l.length - i < M → (∀ (j : Nat) (h : j < l.length), i ≤ j → (L : Int) ≤ l[j]) → (∀ (h : i < l.length), ∀ x ∈ ks, (L : Int) ≤ x → l[i] ≤ x) →
    law32_AccumMany_l14 (q + 1) M (ks.map doD) (l.length : Int) (L : Int) (i : Int) (pL 8 (ks.take 1024)) (pL 9 l) (.lst (fl fun x => decide ((x : Int) ∈ ks))) = some true
  | 0, i, L, _, h, _, _ => by omega
  | M + 1, i, L, hi, hM, h1, h2 => by
    rw [law32_AccumMany_l14, dlt]
    by_cases hlt : i < l.length
    · have hik : i < ks.length := by omega
      obtain ⟨t, e, ht⟩ := hv _ (hL.sub _ (List.getElem_mem hlt))
      have h3 := h1 i hlt (Nat.le_refl _)
      rw [decide_eq_true hlt, cond_true, law32_AccumMany_j15, least_loop (t := t) _ _ _ _ _ _ _ ht (by
        rw [decide_eq_true_iff, ← e]; exact hL.sub _ (List.getElem_mem hlt)) _ L (by omega) (by omega) (fun x hx hx2 => by
        rw [decide_eq_false_iff_not]
        intro hx3
        have := h2 hlt _ hx3 (by omega)
        omega), law32_AccumMany_j18]
      show Option.bind (idx ((ks.take 1024).map inD) (i : Int)) _ = _
      rw [idx_lt (by rw [List.length_map, List.length_take]; omega), Option.bind_some, getL (by rw [List.length_take]; omega), List.getElem_take, idx_lt (by simpa using hik), Option.bind_some, doD_get hik, doD_fld, Option.bind_some]
      show Option.bind (ref01_Same (q + 1) (inD ks[i]) (inD ks[i])) _ = _
      rw [same_in (by omega), Option.bind_some, Bool.not_true, cond_false]
      show Option.bind (idx (l.map inD) (i : Int)) _ = _
      rw [idx_lt (by simpa using hlt), Option.bind_some, getL hlt]
      show Option.bind (idx (l.map inD) (i : Int)) _ = _
      rw [idx_lt (by simpa using hlt), Option.bind_some, getL hlt, law32_AccumMany_j19]
      show (bif (l[i] != (t : Int)) then _ else _) = _
      rw [e, bne_self_eq_false, cond_false, law32_AccumMany_j20, law32_AccumMany_j21, wrapS (by omega), wrapS (by omega)]
      exact check_loop hq ks l hk hv hL hl M (i + 1) (t + 1) (by omega) (by omega) (fun j hj hij => by
        have := List.pairwise_iff_getElem.1 hL.srt i j hlt hj (by omega)
        omega) (fun h x hx hx2 => by
        rcases hL.out x hx with h5 | ⟨_, h5⟩
        · obtain ⟨j, hj, e2⟩ := List.getElem_of_mem h5
          rcases Nat.lt_trichotomy j (i + 1) with h6 | h6 | h6
          · rcases Nat.lt_or_eq_of_le (show j ≤ i by omega) with h7 | h7
            · have := List.pairwise_iff_getElem.1 hL.srt j i hj hlt h7
              omega
            · subst h7; omega
          · subst h6; omega
          · have := List.pairwise_iff_getElem.1 hL.srt (i + 1) j h hj h6
            omega
        · have := h5 _ (List.getElem_mem h)
          omega)
    · rw [decide_eq_false hlt, cond_false]
      rfl
theorem law_many {q : Nat} (hq : 4020 ≤ q) (n k s : Nat) (hn : n < 65536) (hk : k < 65536) (hs : s < 256) : law32_AccumMany (q + 2) (n : Int) (k : Int) (s : Int) = some true := by
  obtain ⟨p, rfl⟩ : ∃ p, q = p + 1 := ⟨q - 1, by omega⟩
  obtain ⟨m, hm⟩ : ∃ m, m = n % 1200 := ⟨_, rfl⟩
  have hm2 : m ≤ 1199 := by omega
  have e0 : Int.tmod (IntKind.wrap .i64 (n : Int)) 1200 = (m : Int) := by rw [wrY (n := n) rfl (by omega), hm]; rfl
  rw [law32_AccumMany, e0]
  show law32_AccumMany_l1 (p + 2) (p + 3) (k : Int) (s : Int) (m : Int) ((0 : Nat) : Int) (aD 8) (aD 9) (((vals m s).take 0).map doD) = _
  rw [doc_loop m s hm2 hs (k : Int) (aD 8) (aD 9) (p + 3) 0 (by omega) (by omega), law32_AccumMany_j4]
  obtain ⟨ks, hks⟩ : ∃ ks, ks = vals m s := ⟨_, rfl⟩
  have hlen : ks.length = m := by rw [hks, vals_len]
  have hne : ks.Pairwise (· ≠ ·) := by rw [hks]; exact vals_ne (by omega) hs
  have hv : ∀ x ∈ ks, ∃ t : Nat, x = t ∧ t < 2048 := by rw [hks]; exact vals_lt
  rw [← hks, wrapS (show m < 9223372036854775807 by omega), decide_eq_false (by omega), cond_false, wrY (n := k) rfl (by omega)]
  obtain ⟨a, ha⟩ : ∃ a, a = k % (m + 1) := ⟨_, rfl⟩
  have ha2 : a ≤ m := by have := Nat.mod_lt k (show m + 1 > 0 by omega); omega
  have e1 : Int.tmod (k : Int) ((m + 1 : Nat) : Int) = (a : Int) := by rw [ha]; rfl
  rw [e1]
  have c1 : cutL (ks.map doD) 0 (a : Int) = some ((ks.take a).map doD) := by rw [cutL_zero (by simp; omega), List.map_take]
  have c2 : cutL (ks.map doD) (a : Int) ((ks.map doD).length : Int) = some ((ks.drop a).map doD) := by
    rw [cutL_nat (by simp; omega) (Nat.le_refl _), List.map_drop, List.take_of_length_le (by simp)]
  have hne1 : (ks.take a).Pairwise (· ≠ ·) := hne.sublist (List.take_sublist _ _)
  have hne2 : (ks.drop a).Pairwise (· ≠ ·) := hne.sublist (List.drop_sublist _ _)
  obtain ⟨l1, r1, L1, z1⟩ := run9 (m := p + 1) (by omega) (ks.take a) (by simp; omega) hne1
  obtain ⟨l2, r2, L2, z2⟩ := run9 (m := p + 1) (by omega) (ks.drop a) (by simp; omega) hne2
  have hdis : ∀ x, x ∈ ks.drop a → ¬ x ∈ ks.take a := fun x hx hx2 => by
    rw [← List.take_append_drop a ks, List.pairwise_append] at hne
    exact hne.2.2 x hx2 x hx rfl
  obtain ⟨l, j1, L0, z0⟩ := join9 (m := p + 1) (by omega) l1 l2 _ _ L1 L2 hdis
  have L3 : Lst l (· ∈ ks) := L0.congr fun x => by
    rw [← List.mem_append, List.take_append_drop]
  have hll : l.length = min ks.length 1024 := by
    rw [z0, z1, z2, List.length_take, List.length_drop]; omega
  have hj8 : accum_Join (p + 2) (aD 8) (pL 8 ((ks.take a).take 1024)) (pL 8 ((ks.drop a).take 1024)) = some (pL 8 (ks.take 1024)) := by
    rw [join8 (m := p + 1) (by omega) _ _ (by simp; omega) (by simp; omega), take_app1, take_app2, List.take_append_drop]
  rw [c1, c2]
  simp only [Option.bind_some]
  rw [run8 (m := p + 1) (by omega) _ (by simp; omega), Option.bind_some, run8 (m := p + 1) (by omega) _ (by simp; omega), Option.bind_some, hj8, Option.bind_some, r1, Option.bind_some, r2, Option.bind_some, j1, Option.bind_some]
  have fin : law32_AccumMany_j5 (p + 2) (m : Int) (ks.map doD) (l.length : Int) (pL 8 (ks.take 1024)) (pL 9 l) = some true := by
    rw [law32_AccumMany_j5]
    show (bif ((((ks.take 1024).map inD).length : Int) != (l.length : Int)) then _ else law32_AccumMany_j6 _ _ _ _ (((l.map inD).length : Int) != (l.length : Int)) _ _) = _
    rw [List.length_map, List.length_map, List.length_take, hll, Nat.min_comm, bne_self_eq_false, cond_false, law32_AccumMany_j6, cond_false, law32_AccumMany_j7, law32_AccumMany_j8, offs_fl, ← hll, ← hlen]
    have e2 : (fun _ : Nat => false) = fun x : Nat => decide ((x : Int) ∈ ks.take 0) := by funext x; simp
    rw [e2]
    show law32_AccumMany_l9 (p + 2) (p + 3) _ _ _ ((0 : Nat) : Int) _ _ _ = _
    rw [flag_loop ks (by omega) hv _ _ _ (p + 3) 0 (by omega) (by omega), law32_AccumMany_j12, law32_AccumMany_j13]
    exact check_loop (q := p + 1) (by omega) ks l (by omega) hv L3 hll (p + 3) 0 0 (by omega) (by omega) (fun j hj _ => by
      obtain ⟨t, e, _⟩ := hv _ (L3.sub _ (List.getElem_mem hj))
      omega) (fun h x hx _ => by
      rcases L3.out x hx with h5 | ⟨_, h5⟩
      · obtain ⟨j, hj, e2⟩ := List.getElem_of_mem h5
        rcases Nat.eq_zero_or_pos j with h6 | h6
        · subst h6; omega
        · have := List.pairwise_iff_getElem.1 L3.srt 0 j h hj h6
          omega
      · have := h5 _ (List.getElem_mem h)
        omega)
  rcases Nat.lt_or_ge 1024 m with h | h
  · rw [decide_eq_true (by omega), cond_true]
    rw [show (l.length : Int) = 1024 by omega] at fin
    exact fin
  · rw [decide_eq_false (by omega), cond_false]
    rw [show (l.length : Int) = (m : Int) by omega] at fin
    exact fin
theorem many_fx {ds : List Dt} (h : HasTys Tryz.prog Tryz.f7.params.toList ds) (hb : Dt.bulkL ds ≤ 1048576) : FX Tryz.prog 7 (dats Tryz.f7.params.toList ds) [] (.dat 4 (.bool true)) [] := by
  have h' : HasTys Tryz.prog [54, 54, 5] ds := h
  cases h' with
  | cons h1 r => cases r with
    | cons h2 r => cases r with
      | cons h3 r => cases r with
        | nil =>
          obtain ⟨e1, a1, b1⟩ := ty_int Tryz.underlying54 h1
          obtain ⟨e2, a2, b2⟩ := ty_int Tryz.underlying54 h2
          obtain ⟨e3, a3, b3⟩ := ty_int Tryz.underlying5 h3
          simp only [IntKind.min, IntKind.max, IntKind.bits, IntKind.signed] at a1 b1 a2 b2 a3 b3
          rw [e1, e2, e3]
          obtain ⟨n, hn⟩ := Int.eq_ofNat_of_zero_le (show 0 ≤ _ from a1)
          obtain ⟨k, hk⟩ := Int.eq_ofNat_of_zero_le (show 0 ≤ _ from a2)
          obtain ⟨s, hs⟩ := Int.eq_ofNat_of_zero_le (show 0 ≤ _ from a3)
          rw [hn, hk, hs]
          exact law32_AccumMany_fx 5002 (ct_ok 5002) _ _ _ (law_many (q := 5001) (by omega) n k s (by omega) (by omega) (by omega))
end Go.Proofs.YtacpcknpliomoaaGreat
