/- Schemas: the first error; the program and the reference agree. -/
import Derived.Test.YtfneddmmeadacaaDoorMDep
import Derived.Test.YtfneddmmeadacaaDoorMBulk
set_option linter.unusedVariables false
set_option linter.unusedSimpArgs false
namespace Go.Proofs.YtfneddmmeadacaaDoor
open Go.Am

/-- Well-typed schemas. -/
inductive WS : Dt → Prop where
  | mk {d : Dt} (h0 : -9223372036854775808 ≤ Dt.I d 0 ∧ Dt.I d 0 ≤ 9223372036854775807) (h2 : WV (Dt.fld d 2)) (h4 : WV (Dt.fld d 4)) (h5 : ∀ e ∈ Dt.L d 5, WV e) (h9 : ∀ p ∈ Dt.L d 9, WS (Dt.fld p 1)) (h11 : ∀ e ∈ Dt.L d 11, WS e) : WS d
theorem ws_of : ∀ (N : Nat) (d : Dt), d.bulk ≤ N → HasTy Tryd.prog 30 d → WS d
  | 0, d, h, _ => by have := bulk_pos d; omega
  | N + 1, d, h, ht => by
    have hs := (ty_agg Tryd.underlying30 ht).2
    have t0 : HasTy Tryd.prog 3 (Dt.fld d 0) := hs 0 _ rfl
    have t2 : HasTy Tryd.prog 25 (Dt.fld d 2) := hs 2 _ rfl
    have t4 : HasTy Tryd.prog 25 (Dt.fld d 4) := hs 4 _ rfl
    have t5 : HasTy Tryd.prog 22 (Dt.fld d 5) := hs 5 _ rfl
    have t9 : HasTy Tryd.prog 27 (Dt.fld d 9) := hs 9 _ rfl
    have t11 : HasTy Tryd.prog 28 (Dt.fld d 11) := hs 11 _ rfl
    have r0 := (ty_int Tryd.underlying3 t0).2
    simp only [IntKind.min, IntKind.max, IntKind.signed, IntKind.bits] at r0
    refine .mk ⟨by have := r0.1; simp at this; exact this, by have := r0.2; simp at this; show (Dt.fld d 0).toInt ≤ _; omega⟩ (wv_of t2) (wv_of t4) (fun e he => wv_of ((ty_lst Tryd.underlying22 t5).2.2 e he)) (fun p hp => ?_) fun e he => ?_
    · have tp := (ty_lst Tryd.underlying27 t9).2.2 p hp
      have tq : HasTy Tryd.prog 30 (Dt.fld p 1) := (ty_agg Tryd.underlying51 tp).2 1 _ rfl
      have h1 := L_mem (d := d) (i := 9) hp
      have h2 := fld_bulk p 1
      exact ws_of N _ (by omega) tq
    · have tp := (ty_lst Tryd.underlying28 t11).2.2 e he
      have h1 := L_mem (d := d) (i := 11) he
      exact ws_of N _ (by omega) tp

-- bits
theorem bic_zero (a : BitVec 64) : (a &&& ~~~(4094#64)) = 0#64 ↔ a.toNat < 4096 ∧ a.toNat % 2 = 0 := by
  have key : (a &&& ~~~(4094#64)) = 0#64 ↔ ∀ i, i < 64 → a.getLsbD i = true → (4094#64).getLsbD i = true := by
    rw [BitVec.eq_of_getLsbD_eq_iff]
    refine ⟨fun h i hi ha => ?_, fun h i hi => ?_⟩
    · have := h i hi
      simp only [BitVec.getLsbD_and, BitVec.getLsbD_not, BitVec.getLsbD_zero, hi, decide_true, Bool.true_and, ha] at this
      simpa using this
    · simp only [BitVec.getLsbD_and, BitVec.getLsbD_not, BitVec.getLsbD_zero, hi, decide_true, Bool.true_and]
      cases ha : a.getLsbD i
      · rfl
      · rw [h i hi ha]; rfl
  rw [key]
  have hm : ∀ i, i < 64 → (4094#64).getLsbD i = (decide (1 ≤ i) && decide (i < 12)) := by decide
  refine ⟨fun h => ⟨?_, ?_⟩, fun ⟨h1, h2⟩ i hi ha => ?_⟩
  · refine Nat.lt_pow_two_of_testBit (n := 12) _ fun i hi => ?_
    rcases Nat.lt_or_ge i 64 with h64 | h64
    · cases ha : a.toNat.testBit i
      · rfl
      · have := h i h64 (by rw [BitVec.getLsbD]; exact ha)
        rw [hm i h64] at this
        simp at this; omega
    · exact Nat.testBit_lt_two_pow (Nat.lt_of_lt_of_le a.isLt (Nat.pow_le_pow_right (by omega) h64))
  · cases ha : a.toNat.testBit 0
    · rw [Nat.testBit_zero] at ha; simp at ha; omega
    · have := h 0 (by omega) (by rw [BitVec.getLsbD]; exact ha)
      rw [hm 0 (by omega)] at this
      simp at this
  · rw [hm i hi]
    rw [BitVec.getLsbD] at ha
    have g1 : 1 ≤ i := by
      rcases Nat.eq_zero_or_pos i with rfl | h0
      · rw [Nat.testBit_zero] at ha; simp at ha; omega
      · exact h0
    have g2 : i < 12 := by
      rcases Nat.lt_or_ge i 12 with g | g
      · exact g
      · have := Nat.testBit_lt_two_pow (Nat.lt_of_lt_of_le h1 (show 4096 ≤ 2 ^ i from Nat.pow_le_pow_right (n := 2) (i := 12) (by omega) g))
        rw [this] at ha; cases ha
    simp [g1, g2]
theorem bic_eq (k : Int) (h1 : -9223372036854775808 ≤ k) (h2 : k ≤ 9223372036854775807) : (bicI .i64 k 4094 != 0) = (decide (k < 0) || Int.tmod k 2 == 1 || decide (4096 ≤ k)) := by
  have hb : BitVec.ofInt 64 (4094 : Int) = 4094#64 := by decide
  have hz := bic_zero (BitVec.ofInt 64 k)
  have hn : (BitVec.ofInt 64 k).toNat = (k % 18446744073709551616).toNat := by simp [BitVec.toNat_ofInt]
  have hw : ∀ x : BitVec 64, (IntKind.wrap .i64 (x.toNat : Int) = 0) ↔ x = 0#64 := fun x => by
    have hx := x.isLt
    rw [← BitVec.toNat_inj]
    unfold IntKind.wrap
    simp only [IntKind.bits, IntKind.signed, Bool.true_and, Nat.add_one_sub_one]
    split <;> rename_i h <;> simp only [ge_iff_le, decide_eq_true_eq] at h <;> simp <;> omega
  have e : (bicI .i64 k 4094 = 0) ↔ (0 ≤ k ∧ k < 4096 ∧ k % 2 = 0) := by
    unfold bicI
    show (IntKind.wrap .i64 (((BitVec.ofInt 64 k &&& ~~~(BitVec.ofInt 64 4094)).toNat : Nat) : Int) = 0) ↔ _
    rw [hb, hw, hz, hn]
    omega
  rw [Bool.eq_iff_iff]
  simp only [bne_iff_ne, ne_eq, e, Bool.or_eq_true, decide_eq_true_eq, beq_iff_eq]
  by_cases h0 : k < 0
  · simp [h0]; omega
  · have : Int.tmod k 2 = k % 2 := Int.tmod_eq_emod_of_nonneg (by omega)
    rw [this]
    omega

-- single schemas
def zeroB (v : Dt) : Bool := Dt.I v 0 == 0 && Dt.I v 1 == 0 && (Dt.S v 2).toList == [] && ((Dt.L v 3).length : Int) == 0 && ((Dt.L v 4).length : Int) == 0
def bndB (has : Bool) (v : Dt) : Bool := bif has then okV v else zeroB v
def badA (s : Dt) : Bool := (decide (Dt.I s 0 < 0) || Int.tmod (Dt.I s 0) 2 == 1 || decide (4096 ≤ Dt.I s 0)) || decide (Dt.I s 6 < 0) || decide (Dt.I s 7 < -1) || decide ((1 : Int) < ((Dt.L s 11).length : Int))
def rest8 (s : Dt) : Int := bif bndB (Dt.B s 1) (Dt.fld s 2) && bndB (Dt.B s 3) (Dt.fld s 4) && (Dt.L s 5).all okV then 0 else 8
def rest1 (s : Dt) : Int := bif badA s then 1 else rest8 s
def sgl (s : Dt) : Int := bif difS nm [] ((Dt.L s 8).map Dt.toStr) && difS nm [] ((Dt.L s 9).map fun p => Dt.S p 0) then rest1 s else 9
theorem bound_eq (has : Bool) {v : Dt} (hw : WV v) (m : Nat) (hm : 3 * v.bulk + 300 ≤ m) (hb : v.bulk ≤ 100000000000) : schema_bound (m + 4) has v = some (bndB has v) := by
  simp only [schema_bound, vValid_eq hw m hm hb, Option.bind_some, bndB, zeroB, schema_bound_j0]
  cases has
  · simp only [cond_false]
    cases (Dt.I v 0 == 0) <;> cases (Dt.I v 1 == 0) <;> cases ((Dt.S v 2).toList == []) <;> cases (((Dt.L v 3).length : Int) == 0) <;> rfl
  · rfl
theorem same_zero (m : Nat) (v : Dt) : ref01_Same (m + 2) v kza2373 = some (zeroB v) := by
  have e0 : Dt.I kza2373 0 = 0 := rfl
  have e1 : Dt.I kza2373 1 = 0 := rfl
  have e2 : (Dt.S kza2373 2).toList = [] := by rw [ByteArray.toList_eq]; rfl
  have e3 : Dt.L kza2373 3 = [] := rfl
  have e4 : Dt.L kza2373 4 = [] := rfl
  rw [ref01_Same, e0, e1, e2, e3, e4]
  simp only [zeroB, bne, List.length_nil]
  cases h0 : (Dt.I v 0 == 0)
  · rfl
  cases h1 : (Dt.I v 1 == 0)
  · rfl
  cases h2 : ((Dt.S v 2).toList == [])
  · rfl
  cases h3 : (((Dt.L v 3).length : Int) == 0)
  · rfl
  cases h4 : (((Dt.L v 4).length : Int) == 0)
  · rfl
  · have l3 : ((Dt.L v 3).length : Int) = 0 := by simpa using h3
    have l4 : ((Dt.L v 4).length : Int) = 0 := by simpa using h4
    simp only [Bool.not_true, cond_false, ref01_Same_j5, ref01_Same_j4, ref01_Same_j11, ref01_Same_j10, ref01_Same_j9, ref01_Same_j12, ref01_Same_j7, ref01_Same_j6, ref01_Same_j2, ref01_Same_j1, ref01_Same_j0, ref01_Same_l3, ref01_Same_l8, l3, l4, Int.lt_irrefl, decide_false, Bool.and_self]
theorem unused_eq (has : Bool) {v : Dt} (hw : WV v) (m : Nat) (hm : 2 * v.bulk + 300 ≤ m) (hm2 : m < 9223372036854775000) (hb : v.bulk ≤ 100000000000) : ref14_unused (m + 5) has v = some (!bndB has v) := by
  simp only [ref14_unused, rValid_eq hw m hm hm2 hb, same_zero (m + 2) v, Option.bind_some, bndB]
  cases has
  · rfl
  · simp only [cond_true, Bool.not_true, cond_false]
    cases okV v <;> rfl
theorem dif_in (m : Nat) (rec1 : List Dt → Int → Option Bool) (L : List Dt) (i : Nat) (hi : i < L.length) (hl : L.length < 9223372036854775807) : ∀ (M k : Nat), k ≤ i → i - k < M →
    ref14_different_l5 m rec1 M L (i : Int) (k : Int) = bif (((L.take i).drop k).map Dt.toStr).any (eqb (L[i]).toStr) then some false else rec1 L ((i + 1 : Nat) : Int)
  | 0, k, _, h => by omega
  | M + 1, k, hk, h => by
    simp only [ref14_different_l5, dlt]
    by_cases hlt : k < i
    · have hk2 : k < (L.take i).length := by rw [List.length_take]; omega
      have ih := dif_in m rec1 L i hi hl M (k + 1) (by omega) (by omega)
      rw [List.drop_eq_getElem_cons hk2, List.map_cons, List.any_cons, List.getElem_take]
      simp only [hlt, decide_true, cond_true, ref14_different_j7, ref14_different_j6, ref14_different_j8, ref14_different_j4, ref14_different_j3, ref14_different_j2, ref14_different_j9, ref14_different_j0, idx_lt (show k < L.length by omega), idx_lt hi, Option.bind_some, wrapS (show k < 9223372036854775807 by omega), ih]
      rw [eqb_comm (L[i]).toStr]
      unfold eqb
      cases ((L[k]).toStr.toList == (L[i]).toStr.toList) <;> rfl
    · have : k = i := by omega
      subst this
      rw [List.drop_eq_nil_of_le (by rw [List.length_take]; omega)]
      simp only [hlt, decide_false, cond_false, ref14_different_j7, ref14_different_j6, ref14_different_j8, ref14_different_j4, ref14_different_j3, ref14_different_j2, ref14_different_j9, ref14_different_j0, wrapS (show k < 9223372036854775807 by omega)]
      rfl
theorem dif_loop (m : Nat) (hm : 34 ≤ m) (L : List Dt) (hl : L.length < m) (hl2 : m < 9223372036854775807) : ∀ (M i : Nat), i ≤ L.length → L.length - i < M →
    ref14_different_l1 m M L (i : Int) = some (difS nm ((L.take i).map Dt.toStr) ((L.drop i).map Dt.toStr))
  | 0, i, _, h => by omega
  | M + 1, i, hi, h => by
    obtain ⟨m, rfl⟩ : ∃ q, m = q + 1 := ⟨m - 1, by omega⟩
    simp only [ref14_different_l1, dlt]
    by_cases hlt : i < L.length
    · have et : (L.take (i + 1)).map Dt.toStr = ((L.take i).map Dt.toStr) ++ [(L[i]).toStr] := by
        rw [List.take_succ_eq_append_getElem hlt, List.map_append]; rfl
      have ih := dif_loop (m + 1) hm L hl hl2 M (i + 1) (by omega) (by omega)
      have hin := dif_in (m + 1) (ref14_different_l1 (m + 1) M) L i hlt (by omega) (m + 2) 0 (by omega) (by omega)
      rw [List.drop_zero, ih] at hin
      have hin' : ref14_different_l5 (m + 1) (ref14_different_l1 (m + 1) M) (Nat.succ (m + 1)) L (i : Int) 0 = _ := hin
      rw [List.drop_eq_getElem_cons hlt, List.map_cons, difS, ← et]
      simp only [hlt, decide_true, cond_true, ref14_different_j7, ref14_different_j6, ref14_different_j8, ref14_different_j4, ref14_different_j3, ref14_different_j2, ref14_different_j9, ref14_different_j0, idx_lt hlt, Option.bind_some, name_eq m (by omega), hin']
      cases nm (L[i]).toStr <;> cases ((L.take i).map Dt.toStr).any (eqb (L[i]).toStr) <;> rfl
    · have : i = L.length := by omega
      subst this
      simp [ref14_different_j7, ref14_different_j6, ref14_different_j8, ref14_different_j4, ref14_different_j3, ref14_different_j2, ref14_different_j9, ref14_different_j0, difS]
theorem different_eq (m : Nat) (hm : 34 ≤ m) (L : List Dt) (hl : L.length < m) (hl2 : m < 9223372036854775807) : ref14_different (m + 1) L = some (difS nm [] (L.map Dt.toStr)) := by
  have := dif_loop m hm L hl hl2 (m + 1) 0 (Nat.zero_le _) (by omega)
  rw [List.drop_zero] at this
  simp only [ref14_different, ref14_different_j7, ref14_different_j6, ref14_different_j8, ref14_different_j4, ref14_different_j3, ref14_different_j2, ref14_different_j9, ref14_different_j0]
  exact this
theorem enum_r (m : Nat) (s : Dt) (hl : (Dt.L s 5).length < 9223372036854775807) (hv : ∀ e ∈ Dt.L s 5, ref01_Valid m e = some (okV e)) : ∀ (M i : Nat), i ≤ (Dt.L s 5).length → (Dt.L s 5).length - i < M → ref14_single_l12 m M (i : Int) s = some (bif ((Dt.L s 5).drop i).all okV then 0 else 8)
  | 0, i, _, h => by omega
  | M + 1, i, hi, h => by
    simp only [ref14_single_l12, dlt]
    by_cases hlt : i < (Dt.L s 5).length
    · rw [List.drop_eq_getElem_cons hlt, List.all_cons]
      simp only [hlt, decide_true, cond_true, ref14_single_j13, ref14_single_j14, idx_lt hlt, Option.bind_some, hv _ (List.getElem_mem hlt), wrapS (show i < 9223372036854775807 by omega), enum_r m s hl hv M (i + 1) (by omega) (by omega)]
      cases okV (Dt.L s 5)[i] <;> rfl
    · have : i = (Dt.L s 5).length := by omega
      subst this
      simp [ref14_single_j15]
theorem names_r (m : Nat) (s : Dt) (hl : (Dt.L s 9).length ≤ 137438953472) : ∀ (M i : Nat), i ≤ (Dt.L s 9).length → (Dt.L s 9).length - i < M → ref14_single_l1 m M (i : Int) s (((Dt.L s 9).take i).map fun p => Dt.str (Dt.S p 0)) = ref14_single_j4 m s ((Dt.L s 9).map fun p => Dt.str (Dt.S p 0))
  | 0, i, _, h => by omega
  | M + 1, i, hi, h => by
    simp only [ref14_single_l1, dlt]
    by_cases hlt : i < (Dt.L s 9).length
    · have happ : app (((Dt.L s 9).take i).map fun p => Dt.str (Dt.S p 0)) [Dt.str (Dt.S (Dt.L s 9)[i] 0)] = some (((Dt.L s 9).take (i + 1)).map fun p => Dt.str (Dt.S p 0)) := by
        rw [app_le (by simp; omega), List.take_succ_eq_append_getElem hlt, List.map_append]
        rfl
      simp only [hlt, decide_true, cond_true, ref14_single_j2, ref14_single_j3, idx_lt hlt, Option.bind_some, happ, wrapS (show i < 9223372036854775807 by omega)]
      exact names_r m s hl M (i + 1) (by omega) (by omega)
    · simp only [hlt, decide_false, cond_false]
      rw [List.take_of_length_le (by omega)]
theorem single_eq {s : Dt} (hw : WS s) (m : Nat) (hm : 2 * s.bulk + 400 ≤ m) (hm2 : m < 9223372036854770000) (hb : s.bulk ≤ 1000000000) : ref14_single (m + 10) s = some (sgl s) := by
  cases hw with
  | mk h0 h2 h4 h5 h9 h11 =>
    have b2 := fld_bulk s 2
    have b4 := fld_bulk s 4
    have l5 := L_len s 5
    have l8 := L_len s 8
    have l9 := L_len s 9
    have u1 : ref14_unused (m + 9) (Dt.B s 1) (Dt.fld s 2) = _ := unused_eq (Dt.B s 1) h2 (m + 4) (by omega) (by omega) (by omega)
    have u2 : ref14_unused (m + 9) (Dt.B s 3) (Dt.fld s 4) = _ := unused_eq (Dt.B s 3) h4 (m + 4) (by omega) (by omega) (by omega)
    have d1 : ref14_different (m + 9) (Dt.L s 8) = _ := different_eq (m + 8) (by omega) (Dt.L s 8) (by omega) (by omega)
    have d2 : ref14_different (m + 9) ((Dt.L s 9).map fun p => Dt.str (Dt.S p 0)) = _ := different_eq (m + 8) (by omega) _ (by rw [List.length_map]; omega) (by omega)
    have e2 : ((Dt.L s 9).map fun p => Dt.str (Dt.S p 0)).map Dt.toStr = (Dt.L s 9).map fun p => Dt.S p 0 := by rw [List.map_map]; rfl
    rw [e2] at d2
    have en := enum_r (m + 9) s (by omega) (fun e he => rValid_eq (h5 e he) (m + 5) (by have := L_mem (d := s) (i := 5) he; omega) (by omega) (by have := L_mem (d := s) (i := 5) he; omega)) (m + 10) 0 (Nat.zero_le _) (by omega)
    rw [List.drop_zero] at en
    have en' : ref14_single_l12 (m + 9) (Nat.succ (m + 9)) 0 s = _ := en
    have nr := names_r (m + 9) s (by omega) (m + 10) 0 (Nat.zero_le _) (by omega)
    have nr' : ref14_single_l1 (m + 9) (Nat.succ (m + 9)) 0 s [] = _ := nr
    have e6 : ref14_single_j6 (m + 9) s = some (rest1 s) := by
      have e8 : ref14_single_j8 (m + 9) s = some (rest8 s) := by
        simp only [ref14_single_j8, ref14_single_j9, ref14_single_j10, ref14_single_j11, u1, u2, en', Option.bind_some, rest8]
        cases bndB (Dt.B s 1) (Dt.fld s 2) <;> cases bndB (Dt.B s 3) (Dt.fld s 4) <;> cases (Dt.L s 5).all okV <;> rfl
      simp only [ref14_single_j6, ref14_single_j7, e8, rest1, badA]
      cases decide (Dt.I s 0 < 0) <;> cases (Int.tmod (Dt.I s 0) 2 == 1) <;> cases decide (4096 ≤ Dt.I s 0) <;> cases decide (Dt.I s 6 < 0) <;> cases decide (Dt.I s 7 < -1) <;> cases decide ((1 : Int) < ((Dt.L s 11).length : Int)) <;> rfl
    simp only [ref14_single, ref14_single_j0, nr', ref14_single_j4, ref14_single_j5, d1, d2, e6, Option.bind_some, sgl]
    cases difS nm [] ((Dt.L s 8).map Dt.toStr) <;> cases difS nm [] ((Dt.L s 9).map fun p => Dt.S p 0) <;> rfl
-- the program's
theorem enum_p (m : Nat) (L : List Dt) (hl : L.length < 9223372036854775807) (hv : ∀ e ∈ L, value_Valid m e = some (okV e)) : ∀ (M i : Nat), i ≤ L.length → L.length - i < M → schema_checkOne_l19 m M L (L.length : Int) (i : Int) = some (bif (L.drop i).all okV then 0 else 8)
  | 0, i, _, h => by omega
  | M + 1, i, hi, h => by
    simp only [schema_checkOne_l19, dlt]
    by_cases hlt : i < L.length
    · rw [List.drop_eq_getElem_cons hlt, List.all_cons]
      simp only [hlt, decide_true, cond_true, schema_checkOne_j20, schema_checkOne_j21, idx_lt hlt, Option.bind_some, hv _ (List.getElem_mem hlt), wrapS (show i < 9223372036854775807 by omega), enum_p m L hl hv M (i + 1) (by omega) (by omega)]
      cases okV L[i] <;> rfl
    · have : i = L.length := by omega
      subst this
      simp [schema_checkOne_j22]
theorem props_p (m : Nat) (hm : 34 ≤ m) (s : Dt) (r : Int) (hr : schema_checkOne_j13 m s = some r) (L : List Dt) (hl : L.length < 9223372036854775807) : ∀ (M i : Nat) (mp : List Dt), i ≤ L.length → L.length - i < M → MapS mp ((L.take i).map fun p => Dt.S p 0) →
    schema_checkOne_l8 m M L (L.length : Int) (i : Int) s mp = some (bif difS nm ((L.take i).map fun p => Dt.S p 0) ((L.drop i).map fun p => Dt.S p 0) then r else 9)
  | 0, i, _, _, h, _ => by omega
  | M + 1, i, mp, hi, h, hmp => by
    obtain ⟨m, rfl⟩ : ∃ q, m = q + 1 := ⟨m - 1, by omega⟩
    simp only [schema_checkOne_l8, dlt]
    by_cases hlt : i < L.length
    · have hp := hmp (Dt.S L[i] 0)
      have hmp' := mapS_put hmp (Dt.S L[i] 0)
      have et : (L.take (i + 1)).map (fun f => Dt.S f 0) = ((L.take i).map fun f => Dt.S f 0) ++ [Dt.S L[i] 0] := by
        rw [List.take_succ_eq_append_getElem hlt, List.map_append]; rfl
      rw [← et] at hmp'
      have ih := props_p (m + 1) hm s r hr L hl M (i + 1) _ (by omega) (by omega) hmp'
      rw [List.drop_eq_getElem_cons hlt, List.map_cons, difS, ← et]
      simp only [hlt, decide_true, cond_true, schema_checkOne_j9, schema_checkOne_j10, schema_checkOne_j11, schema_checkOne_j12, idx_lt hlt, Option.bind_some, hp, schema_isName_nm m (by omega), wrapS (show i < 9223372036854775807 by omega), ih]
      cases nm (Dt.S L[i] 0) <;> cases ((L.take i).map fun f => Dt.S f 0).any (eqb (Dt.S L[i] 0)) <;> rfl
    · have : i = L.length := by omega
      subst this
      simp [hr, difS]
theorem req_p (m : Nat) (hm : 34 ≤ m) (s : Dt) (r : Int) (hr : schema_checkOne_j6 m s = some r) (L : List Dt) (hl : L.length < 9223372036854775807) : ∀ (M i : Nat) (mp : List Dt), i ≤ L.length → L.length - i < M → MapS mp ((L.take i).map Dt.toStr) →
    schema_checkOne_l1 m M L (L.length : Int) (i : Int) s mp = some (bif difS nm ((L.take i).map Dt.toStr) ((L.drop i).map Dt.toStr) then r else 9)
  | 0, i, _, _, h, _ => by omega
  | M + 1, i, mp, hi, h, hmp => by
    obtain ⟨m, rfl⟩ : ∃ q, m = q + 1 := ⟨m - 1, by omega⟩
    simp only [schema_checkOne_l1, dlt]
    by_cases hlt : i < L.length
    · have hp := hmp (L[i]).toStr
      have hmp' := mapS_put hmp (L[i]).toStr
      have et : (L.take (i + 1)).map Dt.toStr = ((L.take i).map Dt.toStr) ++ [(L[i]).toStr] := by
        rw [List.take_succ_eq_append_getElem hlt, List.map_append]; rfl
      rw [← et] at hmp'
      have ih := req_p (m + 1) hm s r hr L hl M (i + 1) _ (by omega) (by omega) hmp'
      rw [List.drop_eq_getElem_cons hlt, List.map_cons, difS, ← et]
      simp only [hlt, decide_true, cond_true, schema_checkOne_j2, schema_checkOne_j3, schema_checkOne_j4, schema_checkOne_j5, idx_lt hlt, Option.bind_some, hp, schema_isName_nm m (by omega), wrapS (show i < 9223372036854775807 by omega), ih]
      cases nm (L[i]).toStr <;> cases ((L.take i).map Dt.toStr).any (eqb (L[i]).toStr) <;> rfl
    · have : i = L.length := by omega
      subst this
      simp [hr, difS]
theorem checkOne_eq {s : Dt} (hw : WS s) (m : Nat) (hm : 3 * s.bulk + 400 ≤ m) (hb : s.bulk ≤ 1000000000) : schema_checkOne (m + 10) s = some (sgl s) := by
  cases hw with
  | mk h0 h2 h4 h5 h9 h11 =>
    have b2 := fld_bulk s 2
    have b4 := fld_bulk s 4
    have l5 := L_len s 5
    have l8 := L_len s 8
    have l9 := L_len s 9
    have u1 : schema_bound (m + 9) (Dt.B s 1) (Dt.fld s 2) = _ := bound_eq (Dt.B s 1) h2 (m + 5) (by omega) (by omega)
    have u2 : schema_bound (m + 9) (Dt.B s 3) (Dt.fld s 4) = _ := bound_eq (Dt.B s 3) h4 (m + 5) (by omega) (by omega)
    have en := enum_p (m + 9) (Dt.L s 5) (by omega) (fun e he => vValid_eq (h5 e he) (m + 6) (by have := L_mem (d := s) (i := 5) he; omega) (by have := L_mem (d := s) (i := 5) he; omega)) (m + 10) 0 (Nat.zero_le _) (by omega)
    rw [List.drop_zero] at en
    have en' : schema_checkOne_l19 (m + 9) (Nat.succ (m + 9)) (Dt.L s 5) ((Dt.L s 5).length : Int) 0 = _ := en
    have e13 : schema_checkOne_j13 (m + 9) s = some (rest1 s) := by
      have e15 : schema_checkOne_j15 (m + 9) s = some (rest8 s) := by
        simp only [schema_checkOne_j15, schema_checkOne_j16, schema_checkOne_j17, schema_checkOne_j18, u1, u2, en', Option.bind_some, rest8]
        cases bndB (Dt.B s 1) (Dt.fld s 2) <;> cases bndB (Dt.B s 3) (Dt.fld s 4) <;> cases (Dt.L s 5).all okV <;> rfl
      simp only [schema_checkOne_j13, schema_checkOne_j14, e15, rest1, badA, bic_eq _ h0.1 h0.2]
      cases (decide (Dt.I s 0 < 0) || Int.tmod (Dt.I s 0) 2 == 1 || decide (4096 ≤ Dt.I s 0)) <;> cases decide (Dt.I s 6 < 0) <;> cases decide (Dt.I s 7 < -1) <;> cases decide ((1 : Int) < ((Dt.L s 11).length : Int)) <;> rfl
    have pp := props_p (m + 9) (by omega) s _ e13 (Dt.L s 9) (by omega) (m + 10) 0 [] (Nat.zero_le _) (by omega) mapS_nil
    have e6 : schema_checkOne_j6 (m + 9) s = some (bif difS nm [] ((Dt.L s 9).map fun p => Dt.S p 0) then rest1 s else 9) := by
      simp only [schema_checkOne_j6, schema_checkOne_j7]
      exact pp
    have rp := req_p (m + 9) (by omega) s _ e6 (Dt.L s 8) (by omega) (m + 10) 0 [] (Nat.zero_le _) (by omega) mapS_nil
    have e : schema_checkOne (m + 10) s = some (bif difS nm [] ((Dt.L s 8).map Dt.toStr) then (bif difS nm [] ((Dt.L s 9).map fun p => Dt.S p 0) then rest1 s else 9) else 9) := by
      simp only [schema_checkOne, schema_checkOne_j0]
      exact rp
    rw [e, sgl]
    cases difS nm [] ((Dt.L s 8).map Dt.toStr) <;> cases difS nm [] ((Dt.L s 9).map fun p => Dt.S p 0) <;> rfl
end Go.Proofs.YtfneddmmeadacaaDoor
