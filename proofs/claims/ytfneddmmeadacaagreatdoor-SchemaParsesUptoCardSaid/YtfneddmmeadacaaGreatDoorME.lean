/- Schemas: the first error; the program and the reference agree.
Schemas: the first error of a tree; the program and the reference agree.
Schemas: words of kinds, lists of words; the program and the reference agree.
Copies of values, by layer 14's function. -/
import Derived.Test.YtfneddmmeadacaaGreatDoorMC
import Derived.Test.YtfneddmmeadacaaGreatDoorMD
set_option linter.unusedVariables false
set_option linter.unusedSimpArgs false
namespace Go.Proofs.YtfneddmmeadacaaGreatDoor
open Go.Am

/-- Well-typed schemas. -/
inductive WS : Dt → Prop where
  | mk {d : Dt} (h0 : -9223372036854775808 ≤ Dt.I d 0 ∧ Dt.I d 0 ≤ 9223372036854775807) (h2 : WV (Dt.fld d 2)) (h4 : WV (Dt.fld d 4)) (h5 : ∀ e ∈ Dt.L d 5, WV e) (h9 : ∀ p ∈ Dt.L d 9, WS (Dt.fld p 1)) (h11 : ∀ e ∈ Dt.L d 11, WS e) : WS d
theorem ws_of : ∀ (N : Nat) (d : Dt), d.bulk ≤ N → HasTy Tryz.prog 32 d → WS d
  | 0, d, h, _ => by have := bulk_pos d; omega
  | N + 1, d, h, ht => by
    have hs := (ty_agg Tryz.underlying32 ht).2
    have t0 : HasTy Tryz.prog 3 (Dt.fld d 0) := hs 0 _ rfl
    have t2 : HasTy Tryz.prog 25 (Dt.fld d 2) := hs 2 _ rfl
    have t4 : HasTy Tryz.prog 25 (Dt.fld d 4) := hs 4 _ rfl
    have t5 : HasTy Tryz.prog 22 (Dt.fld d 5) := hs 5 _ rfl
    have t9 : HasTy Tryz.prog 29 (Dt.fld d 9) := hs 9 _ rfl
    have t11 : HasTy Tryz.prog 30 (Dt.fld d 11) := hs 11 _ rfl
    have r0 := (ty_int Tryz.underlying3 t0).2
    simp only [IntKind.min, IntKind.max, IntKind.signed, IntKind.bits] at r0
    refine .mk ⟨by have := r0.1; simp at this; exact this, by have := r0.2; simp at this; show (Dt.fld d 0).toInt ≤ _; omega⟩ (wv_of t2) (wv_of t4) (fun e he => wv_of ((ty_lst Tryz.underlying22 t5).2.2 e he)) (fun p hp => ?_) fun e he => ?_
    · have tp := (ty_lst Tryz.underlying29 t9).2.2 p hp
      have tq : HasTy Tryz.prog 32 (Dt.fld p 1) := (ty_agg Tryz.underlying64 tp).2 1 _ rfl
      have h1 := L_mem (d := d) (i := 9) hp
      have h2 := fld_bulk p 1
      exact ws_of N _ (by omega) tq
    · have tp := (ty_lst Tryz.underlying30 t11).2.2 e he
      have h1 := L_mem (d := d) (i := 11) he
      exact ws_of N _ (by omega) tp

-- bits
theorem bic_zero (a : BitVec 64) : (a &&& ~~~(4094#64)) = 0#64 ↔ a.toNat < 4096 ∧ a.toNat % 2 = 0 := by
  have key : (a &&& ~~~(4094#64)) = 0#64 ↔ ∀ i, i < 64 → a.getLsbD i = true → (4094#64).getLsbD i = true := by
    rw [BitVec.eq_of_getLsbD_eq_iff]
    refine ⟨fun h i hi ha => ?_, fun h i hi => ?_⟩
    · have := h i hi
      simp only [BitVec.getLsbD_and, BitVec.getLsbD_not, BitVec.getLsbD_zero, hi, decide_true, Bool.true_and, ha] at this
      simpa using this
    · simp only [BitVec.getLsbD_and, BitVec.getLsbD_not, BitVec.getLsbD_zero, hi, decide_true, Bool.true_and]
      cases ha : a.getLsbD i
      · rfl
      · rw [h i hi ha]; rfl
  rw [key]
  have hm : ∀ i, i < 64 → (4094#64).getLsbD i = (decide (1 ≤ i) && decide (i < 12)) := by decide
  refine ⟨fun h => ⟨?_, ?_⟩, fun ⟨h1, h2⟩ i hi ha => ?_⟩
  · refine Nat.lt_pow_two_of_testBit (n := 12) _ fun i hi => ?_
    rcases Nat.lt_or_ge i 64 with h64 | h64
    · cases ha : a.toNat.testBit i
      · rfl
      · have := h i h64 (by rw [BitVec.getLsbD]; exact ha)
        rw [hm i h64] at this
        simp at this; omega
    · exact Nat.testBit_lt_two_pow (Nat.lt_of_lt_of_le a.isLt (Nat.pow_le_pow_right (by omega) h64))
  · cases ha : a.toNat.testBit 0
    · rw [Nat.testBit_zero] at ha; simp at ha; omega
    · have := h 0 (by omega) (by rw [BitVec.getLsbD]; exact ha)
      rw [hm 0 (by omega)] at this
      simp at this
  · rw [hm i hi]
    rw [BitVec.getLsbD] at ha
    have g1 : 1 ≤ i := by
      rcases Nat.eq_zero_or_pos i with rfl | h0
      · rw [Nat.testBit_zero] at ha; simp at ha; omega
      · exact h0
    have g2 : i < 12 := by
      rcases Nat.lt_or_ge i 12 with g | g
      · exact g
      · have := Nat.testBit_lt_two_pow (Nat.lt_of_lt_of_le h1 (show 4096 ≤ 2 ^ i from Nat.pow_le_pow_right (n := 2) (i := 12) (by omega) g))
        rw [this] at ha; cases ha
    simp [g1, g2]
theorem bic_eq (k : Int) (h1 : -9223372036854775808 ≤ k) (h2 : k ≤ 9223372036854775807) : (bicI .i64 k 4094 != 0) = (decide (k < 0) || Int.tmod k 2 == 1 || decide (4096 ≤ k)) := by
  have hb : BitVec.ofInt 64 (4094 : Int) = 4094#64 := by decide
  have hz := bic_zero (BitVec.ofInt 64 k)
  have hn : (BitVec.ofInt 64 k).toNat = (k % 18446744073709551616).toNat := by simp [BitVec.toNat_ofInt]
  have hw : ∀ x : BitVec 64, (IntKind.wrap .i64 (x.toNat : Int) = 0) ↔ x = 0#64 := fun x => by
    have hx := x.isLt
    rw [← BitVec.toNat_inj]
    unfold IntKind.wrap
    simp only [IntKind.bits, IntKind.signed, Bool.true_and, Nat.add_one_sub_one]
    split <;> rename_i h <;> simp only [ge_iff_le, decide_eq_true_eq] at h <;> simp <;> omega
  have e : (bicI .i64 k 4094 = 0) ↔ (0 ≤ k ∧ k < 4096 ∧ k % 2 = 0) := by
    unfold bicI
    show (IntKind.wrap .i64 (((BitVec.ofInt 64 k &&& ~~~(BitVec.ofInt 64 4094)).toNat : Nat) : Int) = 0) ↔ _
    rw [hb, hw, hz, hn]
    omega
  rw [Bool.eq_iff_iff]
  simp only [bne_iff_ne, ne_eq, e, Bool.or_eq_true, decide_eq_true_eq, beq_iff_eq]
  by_cases h0 : k < 0
  · simp [h0]; omega
  · have : Int.tmod k 2 = k % 2 := Int.tmod_eq_emod_of_nonneg (by omega)
    rw [this]
    omega

-- single schemas
def zeroB (v : Dt) : Bool := Dt.I v 0 == 0 && Dt.I v 1 == 0 && (Dt.S v 2).toList == [] && ((Dt.L v 3).length : Int) == 0 && ((Dt.L v 4).length : Int) == 0
def bndB (has : Bool) (v : Dt) : Bool := bif has then okV v else zeroB v
def badA (s : Dt) : Bool := (decide (Dt.I s 0 < 0) || Int.tmod (Dt.I s 0) 2 == 1 || decide (4096 ≤ Dt.I s 0)) || decide (Dt.I s 6 < 0) || decide (Dt.I s 7 < -1) || decide ((1 : Int) < ((Dt.L s 11).length : Int))
def rest8 (s : Dt) : Int := bif bndB (Dt.B s 1) (Dt.fld s 2) && bndB (Dt.B s 3) (Dt.fld s 4) && (Dt.L s 5).all okV then 0 else 8
def rest1 (s : Dt) : Int := bif badA s then 1 else rest8 s
def sgl (s : Dt) : Int := bif difS nm [] ((Dt.L s 8).map Dt.toStr) && difS nm [] ((Dt.L s 9).map fun p => Dt.S p 0) then rest1 s else 9
theorem bound_eq (has : Bool) {v : Dt} (hw : WV v) (m : Nat) (hm : 3 * v.bulk + 300 ≤ m) (hb : v.bulk ≤ 100000000000) : schema_bound (m + 4) has v = some (bndB has v) := by
  simp only [schema_bound, vValid_eq hw m hm hb, Option.bind_some, bndB, zeroB, schema_bound_j0]
  cases has
  · simp only [cond_false]
    cases (Dt.I v 0 == 0) <;> cases (Dt.I v 1 == 0) <;> cases ((Dt.S v 2).toList == []) <;> cases (((Dt.L v 3).length : Int) == 0) <;> rfl
  · rfl
theorem same_zero (m : Nat) (v : Dt) : ref01_Same (m + 2) v kza2373 = some (zeroB v) := by
  have e0 : Dt.I kza2373 0 = 0 := rfl
  have e1 : Dt.I kza2373 1 = 0 := rfl
  have e2 : (Dt.S kza2373 2).toList = [] := by rw [ByteArray.toList_eq]; rfl
  have e3 : Dt.L kza2373 3 = [] := rfl
  have e4 : Dt.L kza2373 4 = [] := rfl
  rw [ref01_Same, e0, e1, e2, e3, e4]
  simp only [zeroB, bne, List.length_nil]
  cases h0 : (Dt.I v 0 == 0)
  · rfl
  cases h1 : (Dt.I v 1 == 0)
  · rfl
  cases h2 : ((Dt.S v 2).toList == [])
  · rfl
  cases h3 : (((Dt.L v 3).length : Int) == 0)
  · rfl
  cases h4 : (((Dt.L v 4).length : Int) == 0)
  · rfl
  · have l3 : ((Dt.L v 3).length : Int) = 0 := by simpa using h3
    have l4 : ((Dt.L v 4).length : Int) = 0 := by simpa using h4
    simp only [Bool.not_true, cond_false, ref01_Same_j5, ref01_Same_j4, ref01_Same_j11, ref01_Same_j10, ref01_Same_j9, ref01_Same_j12, ref01_Same_j7, ref01_Same_j6, ref01_Same_j2, ref01_Same_j1, ref01_Same_j0, ref01_Same_l3, ref01_Same_l8, l3, l4, Int.lt_irrefl, decide_false, Bool.and_self]
theorem unused_eq (has : Bool) {v : Dt} (hw : WV v) (m : Nat) (hm : 2 * v.bulk + 300 ≤ m) (hm2 : m < 9223372036854775000) (hb : v.bulk ≤ 100000000000) : ref14_unused (m + 5) has v = some (!bndB has v) := by
  simp only [ref14_unused, rValid_eq hw m hm hm2 hb, same_zero (m + 2) v, Option.bind_some, bndB]
  cases has
  · rfl
  · simp only [cond_true, Bool.not_true, cond_false]
    cases okV v <;> rfl
theorem dif_in (m : Nat) (rec1 : List Dt → Int → Option Bool) (L : List Dt) (i : Nat) (hi : i < L.length) (hl : L.length < 9223372036854775807) : ∀ (M k : Nat), k ≤ i → i - k < M →
    ref14_different_l5 m rec1 M L (i : Int) (k : Int) = bif (((L.take i).drop k).map Dt.toStr).any (eqb (L[i]).toStr) then some false else rec1 L ((i + 1 : Nat) : Int)
  | 0, k, _, h => by omega
  | M + 1, k, hk, h => by
    simp only [ref14_different_l5, dlt]
    by_cases hlt : k < i
    · have hk2 : k < (L.take i).length := by rw [List.length_take]; omega
      have ih := dif_in m rec1 L i hi hl M (k + 1) (by omega) (by omega)
      rw [List.drop_eq_getElem_cons hk2, List.map_cons, List.any_cons, List.getElem_take]
      simp only [hlt, decide_true, cond_true, ref14_different_j7, ref14_different_j6, ref14_different_j8, ref14_different_j4, ref14_different_j3, ref14_different_j2, ref14_different_j9, ref14_different_j0, idx_lt (show k < L.length by omega), idx_lt hi, Option.bind_some, wrapS (show k < 9223372036854775807 by omega), ih]
      rw [eqb_comm (L[i]).toStr]
      unfold eqb
      cases ((L[k]).toStr.toList == (L[i]).toStr.toList) <;> rfl
    · have : k = i := by omega
      subst this
      rw [List.drop_eq_nil_of_le (by rw [List.length_take]; omega)]
      simp only [hlt, decide_false, cond_false, ref14_different_j7, ref14_different_j6, ref14_different_j8, ref14_different_j4, ref14_different_j3, ref14_different_j2, ref14_different_j9, ref14_different_j0, wrapS (show k < 9223372036854775807 by omega)]
      rfl
theorem dif_loop (m : Nat) (hm : 34 ≤ m) (L : List Dt) (hl : L.length < m) (hl2 : m < 9223372036854775807) : ∀ (M i : Nat), i ≤ L.length → L.length - i < M →
    ref14_different_l1 m M L (i : Int) = some (difS nm ((L.take i).map Dt.toStr) ((L.drop i).map Dt.toStr))
  | 0, i, _, h => by omega
  | M + 1, i, hi, h => by
    obtain ⟨m, rfl⟩ : ∃ q, m = q + 1 := ⟨m - 1, by omega⟩
    simp only [ref14_different_l1, dlt]
    by_cases hlt : i < L.length
    · have et : (L.take (i + 1)).map Dt.toStr = ((L.take i).map Dt.toStr) ++ [(L[i]).toStr] := by
        rw [List.take_succ_eq_append_getElem hlt, List.map_append]; rfl
      have ih := dif_loop (m + 1) hm L hl hl2 M (i + 1) (by omega) (by omega)
      have hin := dif_in (m + 1) (ref14_different_l1 (m + 1) M) L i hlt (by omega) (m + 2) 0 (by omega) (by omega)
      rw [List.drop_zero, ih] at hin
      have hin' : ref14_different_l5 (m + 1) (ref14_different_l1 (m + 1) M) (Nat.succ (m + 1)) L (i : Int) 0 = _ := hin
      rw [List.drop_eq_getElem_cons hlt, List.map_cons, difS, ← et]
      simp only [hlt, decide_true, cond_true, ref14_different_j7, ref14_different_j6, ref14_different_j8, ref14_different_j4, ref14_different_j3, ref14_different_j2, ref14_different_j9, ref14_different_j0, idx_lt hlt, Option.bind_some, name_eq m (by omega), hin']
      cases nm (L[i]).toStr <;> cases ((L.take i).map Dt.toStr).any (eqb (L[i]).toStr) <;> rfl
    · have : i = L.length := by omega
      subst this
      simp [ref14_different_j7, ref14_different_j6, ref14_different_j8, ref14_different_j4, ref14_different_j3, ref14_different_j2, ref14_different_j9, ref14_different_j0, difS]
theorem different_eq (m : Nat) (hm : 34 ≤ m) (L : List Dt) (hl : L.length < m) (hl2 : m < 9223372036854775807) : ref14_different (m + 1) L = some (difS nm [] (L.map Dt.toStr)) := by
  have := dif_loop m hm L hl hl2 (m + 1) 0 (Nat.zero_le _) (by omega)
  rw [List.drop_zero] at this
  simp only [ref14_different, ref14_different_j7, ref14_different_j6, ref14_different_j8, ref14_different_j4, ref14_different_j3, ref14_different_j2, ref14_different_j9, ref14_different_j0]
  exact this
theorem enum_r (m : Nat) (s : Dt) (hl : (Dt.L s 5).length < 9223372036854775807) (hv : ∀ e ∈ Dt.L s 5, ref01_Valid m e = some (okV e)) : ∀ (M i : Nat), i ≤ (Dt.L s 5).length → (Dt.L s 5).length - i < M → ref14_single_l12 m M (i : Int) s = some (bif ((Dt.L s 5).drop i).all okV then 0 else 8)
  | 0, i, _, h => by omega
  | M + 1, i, hi, h => by
    simp only [ref14_single_l12, dlt]
    by_cases hlt : i < (Dt.L s 5).length
    · rw [List.drop_eq_getElem_cons hlt, List.all_cons]
      simp only [hlt, decide_true, cond_true, ref14_single_j13, ref14_single_j14, idx_lt hlt, Option.bind_some, hv _ (List.getElem_mem hlt), wrapS (show i < 9223372036854775807 by omega), enum_r m s hl hv M (i + 1) (by omega) (by omega)]
      cases okV (Dt.L s 5)[i] <;> rfl
    · have : i = (Dt.L s 5).length := by omega
      subst this
      simp [ref14_single_j15]
theorem names_r (m : Nat) (s : Dt) (hl : (Dt.L s 9).length ≤ 137438953472) : ∀ (M i : Nat), i ≤ (Dt.L s 9).length → (Dt.L s 9).length - i < M → ref14_single_l1 m M (i : Int) s (((Dt.L s 9).take i).map fun p => Dt.str (Dt.S p 0)) = ref14_single_j4 m s ((Dt.L s 9).map fun p => Dt.str (Dt.S p 0))
  | 0, i, _, h => by omega
  | M + 1, i, hi, h => by
    simp only [ref14_single_l1, dlt]
    by_cases hlt : i < (Dt.L s 9).length
    · have happ : app (((Dt.L s 9).take i).map fun p => Dt.str (Dt.S p 0)) [Dt.str (Dt.S (Dt.L s 9)[i] 0)] = some (((Dt.L s 9).take (i + 1)).map fun p => Dt.str (Dt.S p 0)) := by
        rw [app_le (by simp; omega), List.take_succ_eq_append_getElem hlt, List.map_append]
        rfl
      simp only [hlt, decide_true, cond_true, ref14_single_j2, ref14_single_j3, idx_lt hlt, Option.bind_some, happ, wrapS (show i < 9223372036854775807 by omega)]
      exact names_r m s hl M (i + 1) (by omega) (by omega)
    · simp only [hlt, decide_false, cond_false]
      rw [List.take_of_length_le (by omega)]
theorem single_eq {s : Dt} (hw : WS s) (m : Nat) (hm : 2 * s.bulk + 400 ≤ m) (hm2 : m < 9223372036854770000) (hb : s.bulk ≤ 1000000000) : ref14_single (m + 10) s = some (sgl s) := by
  cases hw with
  | mk h0 h2 h4 h5 h9 h11 =>
    have b2 := fld_bulk s 2
    have b4 := fld_bulk s 4
    have l5 := L_len s 5
    have l8 := L_len s 8
    have l9 := L_len s 9
    have u1 : ref14_unused (m + 9) (Dt.B s 1) (Dt.fld s 2) = _ := unused_eq (Dt.B s 1) h2 (m + 4) (by omega) (by omega) (by omega)
    have u2 : ref14_unused (m + 9) (Dt.B s 3) (Dt.fld s 4) = _ := unused_eq (Dt.B s 3) h4 (m + 4) (by omega) (by omega) (by omega)
    have d1 : ref14_different (m + 9) (Dt.L s 8) = _ := different_eq (m + 8) (by omega) (Dt.L s 8) (by omega) (by omega)
    have d2 : ref14_different (m + 9) ((Dt.L s 9).map fun p => Dt.str (Dt.S p 0)) = _ := different_eq (m + 8) (by omega) _ (by rw [List.length_map]; omega) (by omega)
    have e2 : ((Dt.L s 9).map fun p => Dt.str (Dt.S p 0)).map Dt.toStr = (Dt.L s 9).map fun p => Dt.S p 0 := by rw [List.map_map]; rfl
    rw [e2] at d2
    have en := enum_r (m + 9) s (by omega) (fun e he => rValid_eq (h5 e he) (m + 5) (by have := L_mem (d := s) (i := 5) he; omega) (by omega) (by have := L_mem (d := s) (i := 5) he; omega)) (m + 10) 0 (Nat.zero_le _) (by omega)
    rw [List.drop_zero] at en
    have en' : ref14_single_l12 (m + 9) (Nat.succ (m + 9)) 0 s = _ := en
    have nr := names_r (m + 9) s (by omega) (m + 10) 0 (Nat.zero_le _) (by omega)
    have nr' : ref14_single_l1 (m + 9) (Nat.succ (m + 9)) 0 s [] = _ := nr
    have e6 : ref14_single_j6 (m + 9) s = some (rest1 s) := by
      have e8 : ref14_single_j8 (m + 9) s = some (rest8 s) := by
        simp only [ref14_single_j8, ref14_single_j9, ref14_single_j10, ref14_single_j11, u1, u2, en', Option.bind_some, rest8]
        cases bndB (Dt.B s 1) (Dt.fld s 2) <;> cases bndB (Dt.B s 3) (Dt.fld s 4) <;> cases (Dt.L s 5).all okV <;> rfl
      simp only [ref14_single_j6, ref14_single_j7, e8, rest1, badA]
      cases decide (Dt.I s 0 < 0) <;> cases (Int.tmod (Dt.I s 0) 2 == 1) <;> cases decide (4096 ≤ Dt.I s 0) <;> cases decide (Dt.I s 6 < 0) <;> cases decide (Dt.I s 7 < -1) <;> cases decide ((1 : Int) < ((Dt.L s 11).length : Int)) <;> rfl
    simp only [ref14_single, ref14_single_j0, nr', ref14_single_j4, ref14_single_j5, d1, d2, e6, Option.bind_some, sgl]
    cases difS nm [] ((Dt.L s 8).map Dt.toStr) <;> cases difS nm [] ((Dt.L s 9).map fun p => Dt.S p 0) <;> rfl
-- the program's
theorem enum_p (m : Nat) (L : List Dt) (hl : L.length < 9223372036854775807) (hv : ∀ e ∈ L, value_Valid m e = some (okV e)) : ∀ (M i : Nat), i ≤ L.length → L.length - i < M → schema_checkOne_l19 m M L (L.length : Int) (i : Int) = some (bif (L.drop i).all okV then 0 else 8)
  | 0, i, _, h => by omega
  | M + 1, i, hi, h => by
    simp only [schema_checkOne_l19, dlt]
    by_cases hlt : i < L.length
    · rw [List.drop_eq_getElem_cons hlt, List.all_cons]
      simp only [hlt, decide_true, cond_true, schema_checkOne_j20, schema_checkOne_j21, idx_lt hlt, Option.bind_some, hv _ (List.getElem_mem hlt), wrapS (show i < 9223372036854775807 by omega), enum_p m L hl hv M (i + 1) (by omega) (by omega)]
      cases okV L[i] <;> rfl
    · have : i = L.length := by omega
      subst this
      simp [schema_checkOne_j22]
theorem props_p (m : Nat) (hm : 34 ≤ m) (s : Dt) (r : Int) (hr : schema_checkOne_j13 m s = some r) (L : List Dt) (hl : L.length < 9223372036854775807) : ∀ (M i : Nat) (mp : List Dt), i ≤ L.length → L.length - i < M → MapS mp ((L.take i).map fun p => Dt.S p 0) →
    schema_checkOne_l8 m M L (L.length : Int) (i : Int) s mp = some (bif difS nm ((L.take i).map fun p => Dt.S p 0) ((L.drop i).map fun p => Dt.S p 0) then r else 9)
  | 0, i, _, _, h, _ => by omega
  | M + 1, i, mp, hi, h, hmp => by
    obtain ⟨m, rfl⟩ : ∃ q, m = q + 1 := ⟨m - 1, by omega⟩
    simp only [schema_checkOne_l8, dlt]
    by_cases hlt : i < L.length
    · have hp := hmp (Dt.S L[i] 0)
      have hmp' := mapS_put hmp (Dt.S L[i] 0)
      have et : (L.take (i + 1)).map (fun f => Dt.S f 0) = ((L.take i).map fun f => Dt.S f 0) ++ [Dt.S L[i] 0] := by
        rw [List.take_succ_eq_append_getElem hlt, List.map_append]; rfl
      rw [← et] at hmp'
      have ih := props_p (m + 1) hm s r hr L hl M (i + 1) _ (by omega) (by omega) hmp'
      rw [List.drop_eq_getElem_cons hlt, List.map_cons, difS, ← et]
      simp only [hlt, decide_true, cond_true, schema_checkOne_j9, schema_checkOne_j10, schema_checkOne_j11, schema_checkOne_j12, idx_lt hlt, Option.bind_some, hp, schema_isName_nm m (by omega), wrapS (show i < 9223372036854775807 by omega), ih]
      cases nm (Dt.S L[i] 0) <;> cases ((L.take i).map fun f => Dt.S f 0).any (eqb (Dt.S L[i] 0)) <;> rfl
    · have : i = L.length := by omega
      subst this
      simp [hr, difS]
theorem req_p (m : Nat) (hm : 34 ≤ m) (s : Dt) (r : Int) (hr : schema_checkOne_j6 m s = some r) (L : List Dt) (hl : L.length < 9223372036854775807) : ∀ (M i : Nat) (mp : List Dt), i ≤ L.length → L.length - i < M → MapS mp ((L.take i).map Dt.toStr) →
    schema_checkOne_l1 m M L (L.length : Int) (i : Int) s mp = some (bif difS nm ((L.take i).map Dt.toStr) ((L.drop i).map Dt.toStr) then r else 9)
  | 0, i, _, _, h, _ => by omega
  | M + 1, i, mp, hi, h, hmp => by
    obtain ⟨m, rfl⟩ : ∃ q, m = q + 1 := ⟨m - 1, by omega⟩
    simp only [schema_checkOne_l1, dlt]
    by_cases hlt : i < L.length
    · have hp := hmp (L[i]).toStr
      have hmp' := mapS_put hmp (L[i]).toStr
      have et : (L.take (i + 1)).map Dt.toStr = ((L.take i).map Dt.toStr) ++ [(L[i]).toStr] := by
        rw [List.take_succ_eq_append_getElem hlt, List.map_append]; rfl
      rw [← et] at hmp'
      have ih := req_p (m + 1) hm s r hr L hl M (i + 1) _ (by omega) (by omega) hmp'
      rw [List.drop_eq_getElem_cons hlt, List.map_cons, difS, ← et]
      simp only [hlt, decide_true, cond_true, schema_checkOne_j2, schema_checkOne_j3, schema_checkOne_j4, schema_checkOne_j5, idx_lt hlt, Option.bind_some, hp, schema_isName_nm m (by omega), wrapS (show i < 9223372036854775807 by omega), ih]
      cases nm (L[i]).toStr <;> cases ((L.take i).map Dt.toStr).any (eqb (L[i]).toStr) <;> rfl
    · have : i = L.length := by omega
      subst this
      simp [hr, difS]
theorem checkOne_eq {s : Dt} (hw : WS s) (m : Nat) (hm : 3 * s.bulk + 400 ≤ m) (hb : s.bulk ≤ 1000000000) : schema_checkOne (m + 10) s = some (sgl s) := by
  cases hw with
  | mk h0 h2 h4 h5 h9 h11 =>
    have b2 := fld_bulk s 2
    have b4 := fld_bulk s 4
    have l5 := L_len s 5
    have l8 := L_len s 8
    have l9 := L_len s 9
    have u1 : schema_bound (m + 9) (Dt.B s 1) (Dt.fld s 2) = _ := bound_eq (Dt.B s 1) h2 (m + 5) (by omega) (by omega)
    have u2 : schema_bound (m + 9) (Dt.B s 3) (Dt.fld s 4) = _ := bound_eq (Dt.B s 3) h4 (m + 5) (by omega) (by omega)
    have en := enum_p (m + 9) (Dt.L s 5) (by omega) (fun e he => vValid_eq (h5 e he) (m + 6) (by have := L_mem (d := s) (i := 5) he; omega) (by have := L_mem (d := s) (i := 5) he; omega)) (m + 10) 0 (Nat.zero_le _) (by omega)
    rw [List.drop_zero] at en
    have en' : schema_checkOne_l19 (m + 9) (Nat.succ (m + 9)) (Dt.L s 5) ((Dt.L s 5).length : Int) 0 = _ := en
    have e13 : schema_checkOne_j13 (m + 9) s = some (rest1 s) := by
      have e15 : schema_checkOne_j15 (m + 9) s = some (rest8 s) := by
        simp only [schema_checkOne_j15, schema_checkOne_j16, schema_checkOne_j17, schema_checkOne_j18, u1, u2, en', Option.bind_some, rest8]
        cases bndB (Dt.B s 1) (Dt.fld s 2) <;> cases bndB (Dt.B s 3) (Dt.fld s 4) <;> cases (Dt.L s 5).all okV <;> rfl
      simp only [schema_checkOne_j13, schema_checkOne_j14, e15, rest1, badA, bic_eq _ h0.1 h0.2]
      cases (decide (Dt.I s 0 < 0) || Int.tmod (Dt.I s 0) 2 == 1 || decide (4096 ≤ Dt.I s 0)) <;> cases decide (Dt.I s 6 < 0) <;> cases decide (Dt.I s 7 < -1) <;> cases decide ((1 : Int) < ((Dt.L s 11).length : Int)) <;> rfl
    have pp := props_p (m + 9) (by omega) s _ e13 (Dt.L s 9) (by omega) (m + 10) 0 [] (Nat.zero_le _) (by omega) mapS_nil
    have e6 : schema_checkOne_j6 (m + 9) s = some (bif difS nm [] ((Dt.L s 9).map fun p => Dt.S p 0) then rest1 s else 9) := by
      simp only [schema_checkOne_j6, schema_checkOne_j7]
      exact pp
    have rp := req_p (m + 9) (by omega) s _ e6 (Dt.L s 8) (by omega) (m + 10) 0 [] (Nat.zero_le _) (by omega) mapS_nil
    have e : schema_checkOne (m + 10) s = some (bif difS nm [] ((Dt.L s 8).map Dt.toStr) then (bif difS nm [] ((Dt.L s 9).map fun p => Dt.S p 0) then rest1 s else 9) else 9) := by
      simp only [schema_checkOne, schema_checkOne_j0]
      exact rp
    rw [e, sgl]
    cases difS nm [] ((Dt.L s 8).map Dt.toStr) <;> cases difS nm [] ((Dt.L s 9).map fun p => Dt.S p 0) <;> rfl
end Go.Proofs.YtfneddmmeadacaaGreatDoor
namespace Go.Proofs.YtfneddmmeadacaaGreatDoor
open Go.Am

/-- What the two checks answer at a schema of which 'seen' others came before. -/
def ChkOK (p : Int → Int → Option (Int × Int)) (q : Int → Int → Option (Int × Int)) : Prop :=
  ∀ level seen : Nat, level ≤ 17 → seen ≤ 64 → ∃ (e n : Int) (k : Int), p (level : Int) (seen : Int) = some (e, n) ∧ q ((seen + 1 : Nat) : Int) (level : Int) = some (k, e) ∧ (e = 0 → k = n ∧ level ≤ 16 ∧ ∃ n' : Nat, n = (n' : Int) ∧ n' ≤ 64)
theorem items_sim (m m' : Nat) (self selfR : Dt → Int → Int → Option (Int × Int)) (s : Dt) (hl : (Dt.L s 9).length + (Dt.L s 11).length < 1000000000000) (level : Nat) (hlv : level ≤ 16)
    (hs : ∀ e ∈ Dt.L s 11, ChkOK (self e) (selfR e)) : ∀ (M M' i seen : Nat), i ≤ (Dt.L s 11).length → (Dt.L s 11).length - i < M → (Dt.L s 11).length - i < M' → seen ≤ 64 →
    ∃ (e n : Int) (k : Int), i21_l9 m self M (level : Int) (Dt.L s 11) ((Dt.L s 11).length : Int) (i : Int) (seen : Int) = some (e, n) ∧ ref14_check_l4 m' selfR M' (seen : Int) (level : Int) (((Dt.L s 9).length + i : Nat) : Int) s = some (k, e) ∧ (e = 0 → k = n ∧ ∃ n' : Nat, n = (n' : Int) ∧ n' ≤ 64)
  | 0, _, i, _, _, h, _, _ => by omega
  | _ + 1, 0, i, _, _, _, h, _ => by omega
  | M + 1, M' + 1, i, seen, hi, h, h', hn => by
    have hw : IntKind.wrap IntKind.i64 (((Dt.L s 9).length : Int) + ((Dt.L s 11).length : Int)) = (((Dt.L s 9).length + (Dt.L s 11).length : Nat) : Int) := by rw [wrap64 (by omega) (by omega)]; omega
    simp only [i21_l9, ref14_check_l4, hw, dlt]
    by_cases hlt : i < (Dt.L s 11).length
    · have h2 : (Dt.L s 9).length + i < (Dt.L s 9).length + (Dt.L s 11).length := by omega
      have h3 : ¬ (Dt.L s 9).length + i < (Dt.L s 9).length := by omega
      have w2 : IntKind.wrap IntKind.i64 ((((Dt.L s 9).length + i : Nat) : Int) - ((Dt.L s 9).length : Int)) = (i : Int) := by rw [wrap64 (by omega) (by omega)]; omega
      obtain ⟨e, n, k, c1, c2, c3⟩ := hs _ (List.getElem_mem hlt) (level + 1) seen (by omega) hn
      have d3 : decide ((((Dt.L s 9).length + i : Nat) : Int) < ((Dt.L s 9).length : Int)) = false := decide_eq_false (by omega)
      simp only [hlt, h2, decide_true, cond_true, i21_j6, i21_j5, i21_j11, i21_j10, i21_j12, i21_j8, i21_j7, i21_j3, i21_j2, i21_j1, i21_j0, ref14_check_j8, ref14_check_j7, ref14_check_j6, ref14_check_j5, ref14_check_j9, ref14_check_j3, ref14_check_j2, ref14_check_j1, ref14_check_j0, d3, cond_false, w2, idx_lt hlt, Option.bind_some, wrapS (show level < 9223372036854775807 by omega), wrapS (show seen < 9223372036854775807 by omega), c1, c2]
      by_cases he : e = 0
      · obtain ⟨hk, _, n', hn1, hn2⟩ := c3 he
        subst hk he hn1
        have := items_sim m m' self selfR s hl level hlv hs M M' (i + 1) n' (by omega) (by omega) (by omega) hn2
        simp only [bne_self_eq_false, cond_false, wrapS (show i < 9223372036854775807 by omega), wrapS (show (Dt.L s 9).length + i < 9223372036854775807 by omega)]
        rw [show (Dt.L s 9).length + i + 1 = (Dt.L s 9).length + (i + 1) by omega]
        exact this
      · have hb : (e != 0) = true := by simpa using he
        simp only [hb, cond_true]
        exact ⟨e, n, k, rfl, rfl, fun h => absurd h he⟩
    · have h2 : ¬ (Dt.L s 9).length + i < (Dt.L s 9).length + (Dt.L s 11).length := by omega
      simp only [hlt, h2, decide_false, cond_false, i21_j6, i21_j5, i21_j11, i21_j10, i21_j12, i21_j8, i21_j7, i21_j3, i21_j2, i21_j1, i21_j0, ref14_check_j8, ref14_check_j7, ref14_check_j6, ref14_check_j5, ref14_check_j9, ref14_check_j3, ref14_check_j2, ref14_check_j1, ref14_check_j0]
      exact ⟨0, _, _, rfl, rfl, fun _ => ⟨rfl, seen, rfl, hn⟩⟩
theorem props_sim (m m' : Nat) (self selfR : Dt → Int → Int → Option (Int × Int)) (s : Dt) (hl : (Dt.L s 9).length + (Dt.L s 11).length < 1000000000000) (level : Nat) (hlv : level ≤ 16) (hm : (Dt.L s 11).length ≤ m)
    (hp : ∀ p ∈ Dt.L s 9, ChkOK (self (Dt.fld p 1)) (selfR (Dt.fld p 1))) (hs : ∀ e ∈ Dt.L s 11, ChkOK (self e) (selfR e)) : ∀ (M M' i seen : Nat), i ≤ (Dt.L s 9).length → (Dt.L s 9).length - i < M → (Dt.L s 9).length + (Dt.L s 11).length - i < M' → seen ≤ 64 →
    ∃ (e n : Int) (k : Int), i21_l4 m self M (level : Int) (Dt.L s 9) ((Dt.L s 9).length : Int) (i : Int) (seen : Int) s = some (e, n) ∧ ref14_check_l4 m' selfR M' (seen : Int) (level : Int) (i : Int) s = some (k, e) ∧ (e = 0 → k = n ∧ ∃ n' : Nat, n = (n' : Int) ∧ n' ≤ 64)
  | 0, _, i, _, _, h, _, _ => by omega
  | _ + 1, 0, i, _, _, _, h, _ => by omega
  | M + 1, M' + 1, i, seen, hi, h, h', hn => by
    have hw : IntKind.wrap IntKind.i64 (((Dt.L s 9).length : Int) + ((Dt.L s 11).length : Int)) = (((Dt.L s 9).length + (Dt.L s 11).length : Nat) : Int) := by rw [wrap64 (by omega) (by omega)]; omega
    by_cases hlt : i < (Dt.L s 9).length
    · simp only [i21_l4, ref14_check_l4, hw, dlt]
      have h2 : i < (Dt.L s 9).length + (Dt.L s 11).length := by omega
      obtain ⟨e, n, k, c1, c2, c3⟩ := hp _ (List.getElem_mem hlt) (level + 1) seen (by omega) hn
      simp only [hlt, h2, decide_true, cond_true, i21_j6, i21_j5, i21_j11, i21_j10, i21_j12, i21_j8, i21_j7, i21_j3, i21_j2, i21_j1, i21_j0, ref14_check_j8, ref14_check_j7, ref14_check_j6, ref14_check_j5, ref14_check_j9, ref14_check_j3, ref14_check_j2, ref14_check_j1, ref14_check_j0, dlt, idx_lt hlt, Option.bind_some, wrapS (show level < 9223372036854775807 by omega), wrapS (show seen < 9223372036854775807 by omega), c1, c2]
      by_cases he : e = 0
      · obtain ⟨hk, _, n', hn1, hn2⟩ := c3 he
        subst hk he hn1
        have := props_sim m m' self selfR s hl level hlv hm hp hs M M' (i + 1) n' (by omega) (by omega) (by omega) hn2
        simp only [bne_self_eq_false, cond_false, wrapS (show i < 9223372036854775807 by omega)]
        exact this
      · have hb : (e != 0) = true := by simpa using he
        simp only [hb, cond_true]
        exact ⟨e, n, k, rfl, rfl, fun h => absurd h he⟩
    · have e0 : i = (Dt.L s 9).length := by omega
      subst e0
      have := items_sim m m' self selfR s hl level hlv hs (m + 1) (M' + 1) 0 seen (Nat.zero_le _) (by omega) (by omega) hn
      rw [Nat.add_zero] at this
      rw [i21_l4]
      simp only [dlt, hlt, decide_false, cond_false, i21_j6, i21_j5, i21_j11, i21_j10, i21_j12, i21_j8, i21_j7, i21_j3, i21_j2, i21_j1, i21_j0]
      exact this
theorem check_sim : ∀ (N : Nat) (s : Dt), s.bulk ≤ N → N ≤ 1000000000 → WS s → ∀ m m' : Nat, 4 * N + 500 ≤ m → 4 * N + 500 ≤ m' → m' < 9223372036854770000 → ChkOK (i21 (m + 10) s) (ref14_check (m' + 10) s)
  | 0, s, h, _, _, _, _, _, _, _ => by have := bulk_pos s; omega
  | N + 1, s, h, hN, hw, m, m', hm, hm', hm2 => by
    intro level seen hlv hn
    have p1 := checkOne_eq hw (m - 1) (by omega) (by omega)
    rw [show m - 1 + 10 = m + 9 by omega] at p1
    have p2 := single_eq hw (m' - 1) (by omega) (by omega) (by omega)
    rw [show m' - 1 + 10 = m' + 9 by omega] at p2
    have l9 := L_bulk s 9
    have l11 := L_bulk s 11
    have n9 := len_bulk (Dt.L s 9)
    have n11 := len_bulk (Dt.L s 11)
    rw [i21, ref14_check]
    by_cases h16 : 16 < level
    · have d1 : decide ((16 : Int) < (level : Int)) = true := decide_eq_true (by omega)
      simp only [d1, cond_true, i21_j6, i21_j5, i21_j11, i21_j10, i21_j12, i21_j8, i21_j7, i21_j3, i21_j2, i21_j1, i21_j0, ref14_check_j8, ref14_check_j7, ref14_check_j6, ref14_check_j5, ref14_check_j9, ref14_check_j3, ref14_check_j2, ref14_check_j1, ref14_check_j0]
      exact ⟨2, _, _, rfl, rfl, fun h => by cases h⟩
    · have d1 : decide ((16 : Int) < (level : Int)) = false := decide_eq_false (by omega)
      by_cases h64 : seen = 64
      · have d2 : (((seen : Nat) : Int) == 64) = true := by rw [beq_iff_eq]; omega
        have d3 : decide ((64 : Int) < ((seen + 1 : Nat) : Int)) = true := decide_eq_true (by omega)
        simp only [d1, d2, d3, cond_true, cond_false, i21_j6, i21_j5, i21_j11, i21_j10, i21_j12, i21_j8, i21_j7, i21_j3, i21_j2, i21_j1, i21_j0, ref14_check_j8, ref14_check_j7, ref14_check_j6, ref14_check_j5, ref14_check_j9, ref14_check_j3, ref14_check_j2, ref14_check_j1, ref14_check_j0]
        exact ⟨2, _, _, rfl, rfl, fun h => by cases h⟩
      · have d2 : (((seen : Nat) : Int) == 64) = false := by rw [beq_eq_false_iff_ne]; omega
        have d3 : decide ((64 : Int) < ((seen + 1 : Nat) : Int)) = false := decide_eq_false (by omega)
        simp only [d1, d2, d3, cond_false, i21_j6, i21_j5, i21_j11, i21_j10, i21_j12, i21_j8, i21_j7, i21_j3, i21_j2, i21_j1, i21_j0, ref14_check_j8, ref14_check_j7, ref14_check_j6, ref14_check_j5, ref14_check_j9, ref14_check_j3, ref14_check_j2, ref14_check_j1, ref14_check_j0, p1, p2, Option.bind_some, wrapS (show seen < 9223372036854775807 by omega)]
        by_cases he : sgl s = 0
        · have hb : (sgl s != 0) = false := by simpa using he
          cases hw with
          | mk h0 h2 h4 h5 h9 h11 =>
            have ih : ∀ x : Dt, WS x → x.bulk ≤ N → ChkOK (i21 (m + 9) x) (ref14_check (m' + 9) x) := fun x hx hbx => by
              have := check_sim N x hbx (by omega) hx (m - 1) (m' - 1) (by omega) (by omega) (by omega)
              rw [show m - 1 + 10 = m + 9 by omega, show m' - 1 + 10 = m' + 9 by omega] at this
              exact this
            obtain ⟨e, n, k, c1, c2, c3⟩ := props_sim (m + 9) (m' + 9) (i21 (m + 9)) (ref14_check (m' + 9)) s (by omega) level (by omega) (by omega)
              (fun p hp => ih _ (h9 p hp) (by have := bulk_memA hp; have := fld_bulk p 1; omega)) (fun x hx => ih _ (h11 x hx) (by have := bulk_memA hx; omega)) (m + 10) (m' + 10) 0 (seen + 1) (Nat.zero_le _) (by omega) (by omega) (by omega)
            simp only [hb, cond_false]
            exact ⟨e, n, k, c1, c2, fun h => ⟨(c3 h).1, by omega, (c3 h).2⟩⟩
        · have hb : (sgl s != 0) = true := by simpa using he
          simp only [hb, cond_true]
          exact ⟨_, _, _, rfl, rfl, fun h => absurd h he⟩
/-- The first error of a schema. -/
theorem sValid_sim {s : Dt} (hw : WS s) (hb : s.bulk ≤ 1000000000) (m m' : Nat) (hm : 5000000000 ≤ m) (hm' : 5000000000 ≤ m') (hm2 : m' < 9223372036854770000) : ∃ e, schema_Valid (m + 11) s = some e ∧ ref14_Valid (m' + 11) s = some e := by
  obtain ⟨e, n, k, c1, c2, _⟩ := check_sim s.bulk s (Nat.le_refl _) hb hw m m' (by omega) (by omega) hm2 1 0 (by omega) (by omega)
  refine ⟨e, ?_, ?_⟩
  · have c1' : i21 (m + 10) s 1 0 = some (e, n) := c1
    rw [schema_Valid, c1']; rfl
  · have c2' : ref14_check (m' + 10) s 1 1 = some (k, e) := c2
    rw [ref14_Valid, c2']; rfl
end Go.Proofs.YtfneddmmeadacaaGreatDoor
namespace Go.Proofs.YtfneddmmeadacaaGreatDoor
open Go.Am

def strOf (l : List UInt8) : Dt := .str ⟨l.toArray⟩
def wordsT : List Dt := [strOf [109, 105, 110], strOf [110, 117, 108, 108], strOf [105, 110, 116], strOf [116, 101, 120, 116], strOf [100, 111, 99], strOf [108, 105, 115, 116], strOf [98, 121, 116, 101, 115], strOf [105, 100], strOf [98, 111, 111, 108], strOf [116, 105, 109, 101], strOf [109, 97, 120]]
def fkW : List Dt → Int → ByteArray → Int
  | [], _, _ => 0
  | w :: r, k, t => bif w.toStr.toList == t.toList then k else fkW r (k + 1) t
def fkO : List Dt → Int → ByteArray → Option Int
  | [], _, _ => some 0
  | w :: r, k, t => bif w.toStr.toList == t.toList then some k else fkO r (k + 1) t
theorem fkO_eq : ∀ (L : List Dt) (k : Int) (t : ByteArray), fkO L k t = some (fkW L k t)
  | [], _, _ => rfl
  | w :: r, k, t => by
    simp only [fkO, fkW, fkO_eq r]
    cases (w.toStr.toList == t.toList) <;> rfl
theorem fkW_rng : ∀ (L : List Dt) (k : Int) (t : ByteArray), fkW L k t = 0 ∨ (k ≤ fkW L k t ∧ fkW L k t < k + L.length)
  | [], _, _ => .inl rfl
  | w :: r, k, t => by
    simp only [fkW, List.length_cons]
    cases (w.toStr.toList == t.toList)
    · simp only [cond_false]
      rcases fkW_rng r (k + 1) t with h | h
      · exact .inl h
      · exact .inr (by omega)
    · exact .inr (by simp only [cond_true]; omega)
def kd (w : Dt) : Int := bif Dt.I w 0 == 4 then fkW wordsT 1 (Dt.S w 2) else 0
theorem kd_rng (w : Dt) : 0 ≤ kd w ∧ kd w ≤ 11 := by
  unfold kd
  cases (Dt.I w 0 == 4)
  · simp
  · simp only [cond_true]
    have h11 : (wordsT.length : Int) = 11 := rfl
    rcases fkW_rng wordsT 1 (Dt.S w 2) with h | h
    · rw [h]; omega
    · omega
theorem kindOf_eq (m : Nat) (w : Dt) : schema_kindOf (m + 14) w = some (kd w) := by
  rw [schema_kindOf]
  unfold kd
  cases h : (Dt.I w 0 == 4)
  · simp only [bne, h, Bool.not_false, cond_true, cond_false]
  · simp only [bne, h, Bool.not_true, cond_true, cond_false]
    rw [← fkO_eq]
    kernel_rfl
theorem rkind_loop (m : Nat) (w : Dt) (L : List Dt) (hl : L.length < 9223372036854775807) : ∀ (M i : Nat), i ≤ L.length → L.length - i < M → ref14_kind_l1 m M L (i : Int) w = some (bif Dt.I w 0 == 4 then fkW (L.drop i) (i : Int) (Dt.S w 2) else 0)
  | 0, i, _, h => by omega
  | M + 1, i, hi, h => by
    simp only [ref14_kind_l1, dlt]
    by_cases hlt : i < L.length
    · have ih := rkind_loop m w L hl M (i + 1) (by omega) (by omega)
      rw [List.drop_eq_getElem_cons hlt]
      simp only [hlt, decide_true, cond_true, ref14_kind_j4, ref14_kind_j3, ref14_kind_j2, ref14_kind_j5, ref14_kind_j0, idx_lt hlt, Option.bind_some, wrapS (show i < 9223372036854775807 by omega), ih, fkW]
      cases (Dt.I w 0 == 4)
      · rfl
      · simp only [cond_true]
        rw [Bool.beq_comm (a := (L[i]).toStr.toList)]
        cases ((Dt.S w 2).toList == (L[i]).toStr.toList)
        · simp only [cond_false]
          rw [show ((i + 1 : Nat) : Int) = (i : Int) + 1 by omega]
        · rfl
    · have : i = L.length := by omega
      subst this
      simp only [hlt, decide_false, cond_false, ref14_kind_j4, ref14_kind_j3, ref14_kind_j2, ref14_kind_j5, ref14_kind_j0, List.drop_length, fkW]
      cases (Dt.I w 0 == 4) <;> rfl
theorem rkind_eq (m : Nat) (hm : 20 ≤ m) (w : Dt) : ref14_kind (m + 1) w = some (kd w) := by
  have hl : (strOf [] :: wordsT).length = 12 := rfl
  have := rkind_loop m w (strOf [] :: wordsT) (by omega) (m + 1) 1 (by omega) (by omega)
  simp only [ref14_kind, ref14_kind_j0]
  exact this
theorem or_nat (a k : Nat) (ha : a < 4096) (hk : 1 ≤ k ∧ k ≤ 11) : orI .i64 (a : Int) (shlI .i64 1 (k : Int)) = ((a ||| 2 ^ k : Nat) : Int) ∧ a ||| 2 ^ k < 4096 ∧ a ||| 2 ^ k ≠ 0 := by
  have hp : 2 ^ k < 4096 := Nat.pow_lt_pow_right (n := 12) (by omega) (by omega)
  have hs : shlI .i64 1 (k : Int) = ((2 ^ k : Nat) : Int) := by
    unfold shlI
    have e1 : Nat.min (k : Int).toNat IntKind.i64.bits = k := by
      show Nat.min k 64 = k
      exact Nat.min_eq_left (by omega)
    rw [e1, Int.one_mul, wrap64]
    · exact (Int.natCast_pow 2 k).symm
    · have : (2 : Int) ^ k = ((2 ^ k : Nat) : Int) := (Int.natCast_pow 2 k).symm
      have h0 : (0 : Int) ≤ ((2 ^ k : Nat) : Int) := Int.natCast_nonneg _
      rw [this]; omega
    · have : (2 : Int) ^ k = ((2 ^ k : Nat) : Int) := (Int.natCast_pow 2 k).symm
      rw [this]; omega
  have hlt : a ||| 2 ^ k < 2 ^ 12 := Nat.or_lt_two_pow ha hp
  refine ⟨?_, hlt, fun h => ?_⟩
  · rw [hs]
    unfold orI
    have e2 : (BitVec.ofInt IntKind.i64.bits (a : Int) ||| BitVec.ofInt IntKind.i64.bits ((2 ^ k : Nat) : Int)).toNat = a ||| 2 ^ k := by
      show (BitVec.ofInt 64 (a : Int) ||| BitVec.ofInt 64 ((2 ^ k : Nat) : Int)).toNat = _
      rw [BitVec.ofInt_natCast, BitVec.ofInt_natCast, BitVec.toNat_or, BitVec.toNat_ofNat, BitVec.toNat_ofNat, Nat.mod_eq_of_lt (by omega), Nat.mod_eq_of_lt (by omega)]
    rw [e2, wrap64 (by omega) (by omega)]
  · have := congrArg (fun x => Nat.testBit x k) h
    simp [Nat.testBit_or, Nat.testBit_two_pow_self] at this
/-- The set of kinds of some words; none: a word that is none. -/
def ksF : List Dt → Int → Option Int
  | [], a => some a
  | w :: r, a => bif kd w == 0 then none else ksF r (orI .i64 a (shlI .i64 1 (kd w)))
theorem ksF_rng : ∀ (L : List Dt) (a : Nat) (x : Int), a < 4096 → ksF L (a : Int) = some x → 0 ≤ x ∧ x < 4096 ∧ ((L ≠ [] ∨ a ≠ 0) → x ≠ 0)
  | [], a, x, ha, h => by
    simp only [ksF, Option.some.injEq] at h
    subst h
    exact ⟨by omega, by omega, fun h => by rcases h with h | h; · exact absurd rfl h
                                           · omega⟩
  | w :: r, a, x, ha, h => by
    simp only [ksF] at h
    have hk := kd_rng w
    cases h0 : (kd w == 0)
    · rw [h0, cond_false] at h
      have hne : kd w ≠ 0 := by simpa using h0
      obtain ⟨k, hk1⟩ : ∃ k : Nat, kd w = (k : Int) := ⟨(kd w).toNat, by omega⟩
      rw [hk1] at h
      obtain ⟨e1, e2, e3⟩ := or_nat a k ha (by omega)
      rw [e1] at h
      obtain ⟨q1, q2, q3⟩ := ksF_rng r _ x e2 h
      exact ⟨q1, q2, fun _ => q3 (.inr e3)⟩
    · rw [h0] at h; cases h
def ksOf (d : Dt) : List Dt := bif Dt.I d 0 == 6 then Dt.L d 3 else [d]
theorem pk_loop (m : Nat) (x0 L : List Dt) (hl : L.length < 9223372036854775807) (hk : ∀ w ∈ L, schema_kindOf m w = some (kd w)) : ∀ (M i : Nat) (a : Int), i ≤ L.length → L.length - i < M → schema_parseKinds_l2 m M x0 a L (L.length : Int) (i : Int) = some (match ksF (L.drop i) a with | some x => (x, decide ((0 : Int) < (x0.length : Int))) | none => (0, false))
  | 0, i, _, _, h => by omega
  | M + 1, i, a, hi, h => by
    simp only [schema_parseKinds_l2, dlt]
    by_cases hlt : i < L.length
    · have hr := kd_rng L[i]
      have d0 : decide ((0 : Int) ≤ kd L[i]) = true := decide_eq_true hr.1
      rw [List.drop_eq_getElem_cons hlt]
      simp only [hlt, decide_true, cond_true, schema_parseKinds_j5, schema_parseKinds_j4, schema_parseKinds_j3, schema_parseKinds_j6, schema_parseKinds_j1, schema_parseKinds_j0, idx_lt hlt, Option.bind_some, hk _ (List.getElem_mem hlt), d0, wrapS (show i < 9223372036854775807 by omega), pk_loop m x0 L hl hk M (i + 1) _ (by omega) (by omega), ksF]
      cases (kd L[i] == 0) <;> rfl
    · have : i = L.length := by omega
      subst this
      simp [schema_parseKinds_j5, schema_parseKinds_j4, schema_parseKinds_j3, schema_parseKinds_j6, schema_parseKinds_j1, schema_parseKinds_j0, ksF]
theorem rk_loop (m : Nat) (L : List Dt) (hl : L.length < 9223372036854775807) (hk : ∀ w ∈ L, ref14_kind m w = some (kd w)) : ∀ (M i : Nat) (a : Int), i ≤ L.length → L.length - i < M → ref14_kinds_l2 m M L a (i : Int) = some (match ksF (L.drop i) a with | some x => x | none => 0)
  | 0, i, _, _, h => by omega
  | M + 1, i, a, hi, h => by
    simp only [ref14_kinds_l2, dlt]
    by_cases hlt : i < L.length
    · have hr := kd_rng L[i]
      have d0 : decide ((0 : Int) ≤ kd L[i]) = true := decide_eq_true hr.1
      rw [List.drop_eq_getElem_cons hlt]
      simp only [hlt, decide_true, cond_true, ref14_kinds_j5, ref14_kinds_j4, ref14_kinds_j3, ref14_kinds_j6, ref14_kinds_j1, ref14_kinds_j0, idx_lt hlt, Option.bind_some, hk _ (List.getElem_mem hlt), d0, wrapS (show i < 9223372036854775807 by omega), rk_loop m L hl hk M (i + 1) _ (by omega) (by omega), ksF]
      cases (kd L[i] == 0) <;> rfl
    · have : i = L.length := by omega
      subst this
      simp [ref14_kinds_j5, ref14_kinds_j4, ref14_kinds_j3, ref14_kinds_j6, ref14_kinds_j1, ref14_kinds_j0, ksF]
theorem kinds_sim (d : Dt) (m m' : Nat) (hm : d.bulk + 20 ≤ m) (hm' : d.bulk + 40 ≤ m') (hb : d.bulk < 1000000000000) : ∃ (k n : Int) (b : Bool), schema_parseKinds (m + 1) d = some (k, b) ∧ ref14_kinds (m' + 1) d = some n ∧ (n != 0) = b ∧ (b = true → k = n ∧ 0 ≤ n ∧ n < 4096) := by
  obtain ⟨m, rfl⟩ : ∃ q, m = q + 14 := ⟨m - 14, by omega⟩
  obtain ⟨m', rfl⟩ : ∃ q, m' = q + 1 := ⟨m' - 1, by omega⟩
  have hlen : (ksOf d).length ≤ d.bulk := by
    unfold ksOf
    have := L_len d 3
    have := bulk_posA d
    cases (Dt.I d 0 == 6)
    · simp only [cond_false, List.length_cons, List.length_nil]; omega
    · simp only [cond_true]; omega
  have p := pk_loop (m + 14) (ksOf d) (ksOf d) (by omega) (fun w _ => kindOf_eq m w) (m + 15) 0 0 (Nat.zero_le _) (by omega)
  have r := rk_loop (m' + 1) (ksOf d) (by omega) (fun w _ => rkind_eq m' (by omega) w) (m' + 2) 0 0 (Nat.zero_le _) (by omega)
  rw [List.drop_zero] at p r
  have ep : schema_parseKinds (m + 14 + 1) d = schema_parseKinds_l2 (m + 14) (m + 15) (ksOf d) 0 (ksOf d) ((ksOf d).length : Int) 0 := by
    simp only [schema_parseKinds, schema_parseKinds_j5, schema_parseKinds_j4, schema_parseKinds_j3, schema_parseKinds_j6, schema_parseKinds_j1, schema_parseKinds_j0, ksOf]
    cases (Dt.I d 0 == 6) <;> rfl
  have er : ref14_kinds (m' + 1 + 1) d = ref14_kinds_l2 (m' + 1) (m' + 2) (ksOf d) 0 0 := by
    simp only [ref14_kinds, ref14_kinds_j5, ref14_kinds_j4, ref14_kinds_j3, ref14_kinds_j6, ref14_kinds_j1, ref14_kinds_j0, ksOf]
    cases (Dt.I d 0 == 6) <;> rfl
  rw [ep, er]
  have p' : schema_parseKinds_l2 (m + 14) (m + 15) (ksOf d) 0 (ksOf d) ((ksOf d).length : Int) 0 = _ := p
  have r' : ref14_kinds_l2 (m' + 1) (m' + 2) (ksOf d) 0 0 = _ := r
  rw [p', r']
  cases hk : ksF (ksOf d) 0 with
  | none => exact ⟨0, 0, false, rfl, rfl, rfl, fun h => by cases h⟩
  | some x =>
    obtain ⟨q1, q2, q3⟩ := ksF_rng (ksOf d) 0 x (by omega) hk
    refine ⟨x, x, _, rfl, rfl, ?_, fun _ => ⟨rfl, q1, q2⟩⟩
    cases hl : ksOf d with
    | nil =>
      rw [hl] at hk
      simp only [ksF, Option.some.injEq] at hk
      subst hk
      rfl
    | cons w r =>
      have hx := q3 (.inl (by rw [hl]; simp))
      have : decide ((0 : Int) < ((w :: r).length : Int)) = true := decide_eq_true (by simp only [List.length_cons]; omega)
      rw [this]
      simpa using hx
end Go.Proofs.YtfneddmmeadacaaGreatDoor
namespace Go.Proofs.YtfneddmmeadacaaGreatDoor
open Go.Am
theorem sclone_l1 (m : Nat) (self : Dt → Option Dt) (l : List Dt) (hl : l.length < 9223372036854775807) (hs : ∀ e ∈ l, self e = some e) (z x3 x4 : Dt) (x5 x6 : Int) (x7 : ByteArray) : ∀ (M i : Nat), i ≤ l.length → l.length - i < M →
    schema_clone_l1 m self M l (l.length : Int) (i : Int) x3 x4 x5 x6 x7 (l.take i ++ List.replicate (l.length - i) z) = schema_clone_j4 m self x3 x4 x5 x6 x7 l
  | 0, i, _, h => by omega
  | M + 1, i, hi, h => by
    simp only [schema_clone_l1, dlt]
    by_cases hlt : i < l.length
    · have hx : i < (l.take i ++ List.replicate (l.length - i) z).length := by rw [row_len l z i hi]; exact hlt
      simp only [hlt, decide_true, cond_true, schema_clone_j2, schema_clone_j3, idx_lt hlt, Option.bind_some, hs _ (List.getElem_mem hlt), inL_lt hx, Int.toNat_natCast, List.getElem?_eq_getElem hx, set_step l z i hlt, wrapS (show i < 9223372036854775807 by omega)]
      exact sclone_l1 m self l hl hs z x3 x4 x5 x6 x7 M (i + 1) (by omega) (by omega)
    · have e : i = l.length := by omega
      subst e
      simp
theorem sclone_l6 (m : Nat) (self : Dt → Option Dt) (l : List Dt) (hl : l.length < 9223372036854775807) (hf : ∀ f ∈ l, ∃ s v, f = .agg [.str s, v] ∧ self v = some v) (z x3 : Dt) (x4 x5 : Int) (x6 : ByteArray) (x7 : List Dt) : ∀ (M i : Nat), i ≤ l.length → l.length - i < M →
    schema_clone_l6 m self M l (l.length : Int) (i : Int) x3 x4 x5 x6 x7 (l.take i ++ List.replicate (l.length - i) z) = some (.agg [.int x4, .int x5, .str x6, .lst x7, .lst l])
  | 0, i, _, h => by omega
  | M + 1, i, hi, h => by
    simp only [schema_clone_l6, dlt]
    by_cases hlt : i < l.length
    · have hx : i < (l.take i ++ List.replicate (l.length - i) z).length := by rw [row_len l z i hi]; exact hlt
      obtain ⟨s, v, e1, e2⟩ := hf _ (List.getElem_mem hlt)
      have e3 : Dt.agg [.str (Dt.S l[i] 0), v] = l[i] := by rw [e1]; rfl
      have e4 : Dt.fld l[i] 1 = v := by rw [e1]; rfl
      simp only [hlt, decide_true, cond_true, schema_clone_j7, schema_clone_j8, idx_lt hlt, Option.bind_some, e4, e2, e3, inL_lt hx, Int.toNat_natCast, List.getElem?_eq_getElem hx, set_step l z i hlt, wrapS (show i < 9223372036854775807 by omega)]
      exact sclone_l6 m self l hl hf z x3 x4 x5 x6 x7 M (i + 1) (by omega) (by omega)
    · have e : i = l.length := by omega
      subst e
      simp [schema_clone_j9]
theorem sclone_l13 (m : Nat) (self : Dt → Option Dt) (l : List Dt) (hl : l.length < 9223372036854775807) (hf : ∀ f ∈ l, ∃ s v, f = .agg [.str s, v] ∧ self v = some v) (z x3 : Dt) (x4 x5 : Int) (x6 : ByteArray) (x7 : List Dt) : ∀ (M i : Nat), i ≤ l.length → l.length - i < M →
    schema_clone_l13 m self M l (l.length : Int) (i : Int) x3 x4 x5 x6 x7 (l.take i ++ List.replicate (l.length - i) z) = some (.agg [.int x4, .int x5, .str x6, .lst x7, .lst l])
  | 0, i, _, h => by omega
  | M + 1, i, hi, h => by
    simp only [schema_clone_l13, dlt]
    by_cases hlt : i < l.length
    · have hx : i < (l.take i ++ List.replicate (l.length - i) z).length := by rw [row_len l z i hi]; exact hlt
      obtain ⟨s, v, e1, e2⟩ := hf _ (List.getElem_mem hlt)
      have e3 : Dt.agg [.str (Dt.S l[i] 0), v] = l[i] := by rw [e1]; rfl
      have e4 : Dt.fld l[i] 1 = v := by rw [e1]; rfl
      simp only [hlt, decide_true, cond_true, schema_clone_j14, schema_clone_j15, idx_lt hlt, Option.bind_some, e4, e2, e3, inL_lt hx, Int.toNat_natCast, List.getElem?_eq_getElem hx, set_step l z i hlt, wrapS (show i < 9223372036854775807 by omega)]
      exact sclone_l13 m self l hl hf z x3 x4 x5 x6 x7 M (i + 1) (by omega) (by omega)
    · have e : i = l.length := by omega
      subst e
      simp [schema_clone_j16]
theorem sclone_eq : ∀ (N : Nat) (d : Dt), d.bulk ≤ N → N ≤ 137438953472 → WV d → ∀ m, N ≤ m → schema_clone (m + 1) d = some d
  | 0, d, h, _, _, _, _ => by have := bulk_pos d; omega
  | N + 1, d, h, hN, hw, m, hm => by
    cases hw with
    | @mk k i t l ds hl hd =>
      rw [bulk_val] at h
      obtain ⟨m, rfl⟩ : ∃ q, m = q + 1 := ⟨m - 1, by omega⟩
      have hself : ∀ e ∈ l, schema_clone (m + 1) e = some e := fun e he => sclone_eq N e (by have := bulk_mem he; omega) (by omega) (hl e he) m (by omega)
      have hfld : ∀ f ∈ ds, ∃ s v, f = .agg [.str s, v] ∧ schema_clone (m + 1) v = some v := fun f hf => by
        have hb := bulk_mem hf
        cases hd f hf with
        | @mk s v hv =>
          rw [bulk_fld] at hb
          exact ⟨s, v, rfl, sclone_eq N v (by omega) (by omega) hv m (by omega)⟩
      have hl1 := len_bulk l
      have hd1 := len_bulk ds
      show (bif (decide ((0 : Int) < ((l.length : Nat) : Int))) then _ else _) = _
      have key6 := fun (x3 : Dt) (x7 : List Dt) (z : Dt) => sclone_l6 (m + 1) (schema_clone (m + 1)) ds (by omega) hfld z x3 k i t x7 (m + 2) 0 (by omega) (by omega)
      have key13 := fun (x3 : Dt) (x7 : List Dt) (z : Dt) => sclone_l13 (m + 1) (schema_clone (m + 1)) ds (by omega) hfld z x3 k i t x7 (m + 2) 0 (by omega) (by omega)
      simp only [List.take_zero, List.nil_append, Nat.sub_zero] at key6 key13
      by_cases h0 : 0 < l.length
      · have e0 : decide ((0 : Int) < ((l.length : Nat) : Int)) = true := by simp; omega
        have key := fun (x3 x4 : Dt) (z : Dt) => sclone_l1 (m + 1) (schema_clone (m + 1)) l (by omega) hself z x3 x4 k i t (m + 2) 0 (by omega) (by omega)
        simp only [List.take_zero, List.nil_append, Nat.sub_zero] at key
        rw [e0]
        simp only [cond_true]
        show Option.bind (mkL ((l.length : Nat) : Int) ((l.length : Nat) : Int) _) _ = _
        rw [mkL_nat (by omega), Option.bind_some]
        show schema_clone_l1 (m + 1) (schema_clone (m + 1)) (m + 2) l ((l.length : Nat) : Int) ((0 : Nat) : Int) _ _ k i t _ = _
        rw [key]
        show (bif (decide ((0 : Int) < ((ds.length : Nat) : Int))) then _ else _) = _
        by_cases h1 : 0 < ds.length
        · have e1 : decide ((0 : Int) < ((ds.length : Nat) : Int)) = true := by simp; omega
          rw [e1]
          simp only [cond_true]
          show Option.bind (mkL ((ds.length : Nat) : Int) ((ds.length : Nat) : Int) _) _ = _
          rw [mkL_nat (by omega), Option.bind_some]
          exact key6 _ _ _
        · have e1 : decide ((0 : Int) < ((ds.length : Nat) : Int)) = false := by rw [decide_eq_false_iff_not]; omega
          have e2 : ds = [] := List.length_eq_zero_iff.1 (by omega)
          subst e2
          rfl
      · have e0 : decide ((0 : Int) < ((l.length : Nat) : Int)) = false := by rw [decide_eq_false_iff_not]; omega
        have e3 : l = [] := List.length_eq_zero_iff.1 (by omega)
        subst e3
        show (bif (decide ((0 : Int) < ((ds.length : Nat) : Int))) then _ else _) = _
        by_cases h1 : 0 < ds.length
        · have e1 : decide ((0 : Int) < ((ds.length : Nat) : Int)) = true := by simp; omega
          rw [e1]
          simp only [cond_true]
          show Option.bind (mkL ((ds.length : Nat) : Int) ((ds.length : Nat) : Int) _) _ = _
          rw [mkL_nat (by omega), Option.bind_some]
          exact key13 _ _ _
        · have e2 : ds = [] := List.length_eq_zero_iff.1 (by omega)
          subst e2
          rfl
end Go.Proofs.YtfneddmmeadacaaGreatDoor
