/- PathParses and PathTexts, in plain Lean. -/
import Derived.Test.YtmjnmiahblaanaaDoorMName
set_option linter.unusedVariables false
set_option linter.unusedSimpArgs false
namespace Go.Proofs.YtmjnmiahblaanaaDoor
open Go.Am

theorem same_self (m : Nat) (l : List Dt) (hl : l.length ≤ m) (hm : m < 9223372036854775807) : ref04_Same (m + 2) l l = some true := by
  simp only [ref04_Same, beq_self_eq_true, cond_true, prefix_eq m l l hl hm, Option.bind_some, pfx_refl]
theorem count_split (c : UInt8) : ∀ l : List UInt8, (splitOn c l).length ≤ l.length + 1
  | [] => by simp [splitOn]
  | b :: l => by
    have ih := count_split c l
    unfold splitOn
    cases b == c
    · simp only [cond_false]
      cases hs : splitOn c l with
      | nil => simp [consHd]
      | cons h t => rw [hs] at ih; simp [consHd] at ih ⊢; omega
    · simp only [cond_true, List.length_cons]; omega
theorem parse_eq (m : Nat) (hm : 50 ≤ m) (s : ByteArray) (hs : s.size < 4294967281) : path_Parse (m + 1) s = some (bif vld ((splitOn 46 s.data.toList).map strD) then ((splitOn 46 s.data.toList).map strD, 0) else ([], 10)) := by
  obtain ⟨k, rfl⟩ : ∃ k, m = k + 3 := ⟨m - 3, by omega⟩
  simp only [path_Parse, split_eq s hs, Option.bind_some, valid_eq k (by omega), path_Parse_j0]
  cases vld ((splitOn 46 s.data.toList).map strD) <;> rfl
theorem refparse_eq (m : Nat) (hm : 50 ≤ m) (s : ByteArray) (hs : s.size + 1 ≤ m) (hm2 : m ≤ 100000000) : ref04_Parse (m + 1) s = some (bif vld ((splitOn 46 s.data.toList).map strD) then ((splitOn 46 s.data.toList).map strD, 0) else ([], 10)) := by
  obtain ⟨k, rfl⟩ : ∃ k, m = k + 1 := ⟨m - 1, by omega⟩
  simp only [ref04_Parse, refsplit_eq k s (by omega) (by omega), Option.bind_some, refvalid_eq k (by omega), ref04_Parse_j0]
  cases vld ((splitOn 46 s.data.toList).map strD) <;> rfl
theorem law_parses (s : ByteArray) : law04_PathParses 3001 s = some true := by
  simp only [law04_PathParses]
  by_cases h1 : 2000 < s.size
  · have : decide ((2000 : Int) < ((s.size : Nat) : Int)) = true := by simp; omega
    simp only [this, cond_true, awakeC, Option.bind_some]
  have e1 : decide ((2000 : Int) < ((s.size : Nat) : Int)) = false := by simp; omega
  have hp := parse_eq 2999 (by omega) s (by omega)
  have hq := refparse_eq 2999 (by omega) s (by omega) (by omega)
  simp only [Nat.reduceAdd] at hp hq
  have hlen := count_split 46 s.data.toList
  rw [lenB] at hlen
  simp only [e1, cond_false, law04_PathParses_j0, hp, hq, Option.bind_some, bne_self_eq_false]
  cases hv : vld ((splitOn 46 s.data.toList).map strD)
  · have h0 := same_self 2998 [] (by simp) (by omega)
    simp only [Nat.reduceAdd] at h0
    simp only [cond_false, h0, Option.bind_some, Bool.not_true, law04_PathParses_j1, awakeC]
    rfl
  · have h0 := same_self 2998 ((splitOn 46 s.data.toList).map strD) (by simp; omega) (by omega)
    simp only [Nat.reduceAdd] at h0
    have ht := text_eq ((splitOn 46 s.data.toList).map strD) (by simp; omega) (by rw [bys_strD, join_split, lenB]; omega) 2999
    rw [bys_strD, join_split, bytes_eta] at ht
    simp only [Nat.reduceAdd] at ht
    have hw := valid_eq 2997 (by omega) ((splitOn 46 s.data.toList).map strD)
    simp only [Nat.reduceAdd, hv] at hw
    simp only [cond_true, h0, Option.bind_some, Bool.not_true, cond_false, beq_self_eq_true, ht, hw, law04_PathParses_j1, awakeC]
theorem parses_fx {ds : List Dt} (h : HasTys Tryd.prog Tryd.f3.params.toList ds) : FX Tryd.prog 3 (dats Tryd.f3.params.toList ds) [] (.dat 4 (.bool true)) [] := by
  have h' : HasTys Tryd.prog [9] ds := h
  cases h' with
  | cons h1 r =>
    cases r
    rw [(ty_str Tryd.underlying9 h1).1]
    exact law04_PathParses_fx 3000 (ct_ok 3000) _ (law_parses _)

-- PathTexts
def tails (l : List (List UInt8)) : List UInt8 := l.flatMap fun x => 46 :: x
theorem join_tails : ∀ (x : List UInt8) (r : List (List UInt8)), joinOn [46] (x :: r) = x ++ tails r
  | x, [] => by simp [joinOn, tails]
  | x, y :: r => by simp [joinOn, join_tails y r, tails]
theorem tails_bys (e : Dt) (r : List Dt) : tails (bys (e :: r)) = 46 :: (e.toStr.data.toList ++ tails (bys r)) := rfl
theorem app_bytes (a b : ByteArray) : (a ++ b).data.toList = a.data.toList ++ b.data.toList := by simp
theorem bytesOf_app (a : List UInt8) (b : ByteArray) : bytesOf a ++ b = bytesOf (a ++ b.data.toList) := by
  apply ByteArray.ext
  apply Array.ext'
  simp [bytesOf]
theorem size_bytesOf (l : List UInt8) : (bytesOf l).size = l.length := by simp [bytesOf, ByteArray.size]
theorem text_loop (m : Nat) (l : List Dt) (hl : l.length ≤ 100) (hz : ∀ e ∈ l, e.toStr.size ≤ 100) : ∀ (M i : Nat) (acc : List UInt8), i ≤ l.length → l.length - i < M → acc.length ≤ 101 * i → ref04_Text_l1 m M l (bytesOf acc) (i : Int) = some (bytesOf (acc ++ (bif i == 0 then joinOn [46] (bys l) else tails (bys (l.drop i)))))
  | 0, i, _, _, h, _ => by omega
  | M + 1, i, acc, hi, h, ha => by
    simp only [ref04_Text_l1, dlt]
    by_cases hlt : i < l.length
    · have hze := hz l[i] (List.getElem_mem hlt)
      have hb1 : Nat.ble ((bytesOf acc).size + 1) 1152921504606846976 = true := Nat.ble_eq_true_of_le (by rw [size_bytesOf]; omega)
      have key : ∀ acc' : List UInt8, acc'.length ≤ 101 * i + 1 → ref04_Text_j3 m (ref04_Text_l1 m M) l (bytesOf acc') (i : Int) = some (bytesOf (acc' ++ (l[i].toStr.data.toList ++ tails (bys (l.drop (i + 1)))))) := by
        intro acc' ha'
        have hb : Nat.ble ((bytesOf acc').size + l[i].toStr.size) 1152921504606846976 = true := Nat.ble_eq_true_of_le (by rw [size_bytesOf]; omega)
        simp only [ref04_Text_j3, idx_lt hlt, Option.bind_some, hb, cond_true, ref04_Text_j4, wrapS (show i < 9223372036854775807 by omega), bytesOf_app]
        rw [text_loop m l hl hz M (i + 1) _ (by omega) (by omega) (by rw [List.length_append, lenB]; omega)]
        simp
      simp only [hlt, decide_true, cond_true, ref04_Text_j2]
      by_cases h0 : i = 0
      · subst h0
        have hk := key acc (by omega)
        have hd : l = l[0] :: l.drop 1 := by
          have := List.drop_eq_getElem_cons hlt
          rwa [List.drop_zero] at this
        have hj : joinOn [46] (bys l) = l[0].toStr.data.toList ++ tails (bys (l.drop 1)) := by
          conv => lhs; rw [hd]
          exact join_tails _ _
        simp only [Int.ofNat_zero, Int.lt_irrefl, decide_false, cond_false, beq_self_eq_true, cond_true, hj]
        exact hk
      · have e0 : decide ((0 : Int) < (i : Int)) = true := by simp; omega
        have e3 : bytesOf acc ++ (Dt.toStr (Dt.str (ByteArray.mk (List.toArray [(46 : UInt8)])))) = bytesOf (acc ++ [46]) := bytesOf_app _ _
        have e4 : (i == 0) = false := by simpa using h0
        simp only [e0, cond_true, hb1, e3, key (acc ++ [46]) (by simp; omega), e4, cond_false]
        rw [List.drop_eq_getElem_cons hlt, tails_bys]
        simp
    · have : i = l.length := by omega
      subst this
      simp only [Nat.lt_irrefl, decide_false, cond_false, ref04_Text_j5, List.drop_length]
      by_cases h0 : l.length = 0
      · have : l = [] := List.length_eq_zero_iff.1 h0
        subst this
        simp [bys, joinOn]
      · have e4 : (l.length == 0) = false := by simpa using h0
        simp [e4, bys, tails]
set_option maxRecDepth 100000 in
theorem reftext_eq (m : Nat) (hm : 100 ≤ m) (l : List Dt) (hl : l.length ≤ 100) (hz : ∀ e ∈ l, e.toStr.size ≤ 100) : ref04_Text (m + 1) l = some (bytesOf (joinOn [46] (bys l))) := by
  have := text_loop m l hl hz (m + 1) 0 [] (by omega) (by omega) (by simp)
  simp only [List.nil_append, beq_self_eq_true, cond_true] at this
  unfold ref04_Text ref04_Text_j0
  exact this
theorem join_len : ∀ (L : List (List UInt8)) (k : Nat), (∀ x ∈ L, x.length ≤ k) → (joinOn [46] L).length ≤ L.length * (k + 1)
  | [], k, _ => by simp [joinOn]
  | [x], k, h => by have := h x (by simp); simp [joinOn]; omega
  | x :: y :: r, k, h => by
    have h1 := h x (by simp)
    have h2 := join_len (y :: r) k (fun z hz => h z (by simp [hz]))
    have e1 : (x :: y :: r).length * (k + 1) = (y :: r).length * (k + 1) + (k + 1) := by simp [Nat.succ_mul]
    rw [e1]
    have e2 : (joinOn [46] (x :: y :: r)).length = x.length + ((joinOn [46] (y :: r)).length + 1) := by simp [joinOn]
    omega
theorem vld_strD (l : List Dt) : vld ((bys l).map strD) = vld l := by
  unfold vld bys
  rw [List.map_map]
  simp only [List.length_map, List.all_map]
  rfl
theorem pfx_strD : ∀ l : List Dt, pfx l ((bys l).map strD) = true
  | [] => rfl
  | e :: r => by
    have ih := pfx_strD r
    simp only [bys, List.map_cons, pfx]
    rw [show eqS e (strD e.toStr.data.toList) = true from by simp [eqS, strD, Dt.toStr, bytes_eta], Bool.true_and]
    exact ih
theorem okB_46 {c : UInt8} (h : okB c = true) : c ≠ 46 := by rintro rfl; revert h; decide
theorem nm_no46 {s : ByteArray} (h : nm s = true) : (46 : UInt8) ∉ s.data.toList := by
  intro hm
  unfold nm at h
  revert h hm
  generalize s.data.toList = l
  intro h hm
  cases l with
  | nil => cases h
  | cons c r =>
    unfold nmL at h
    rw [Bool.and_eq_true] at h
    exact okB_46 (List.all_eq_true.1 h.2 _ hm) rfl
theorem texts_j5 (l : List Dt) (hl : l.length ≤ 100) (hz : ∀ e ∈ l, e.toStr.size ≤ 100) : law04_PathTexts_j5 300 l = some true := by
  have hjl := join_len (bys l) 100 (fun x hx => by
    simp only [bys, List.mem_map] at hx
    obtain ⟨e, he, rfl⟩ := hx
    rw [lenB]; exact hz e he)
  have hbl : (bys l).length = l.length := by simp [bys]
  rw [hbl] at hjl
  have hj2 : (joinOn [46] (bys l)).length ≤ 10100 := Nat.le_trans hjl (by omega)
  have h1 := refvalid_eq 299 (by omega) l
  have h2 := text_eq l (by omega) (by omega) 299
  have h3 := reftext_eq 299 (by omega) l hl hz
  have h4 := valid_eq 297 (by omega) l
  simp only [Nat.reduceAdd] at h1 h2 h3 h4
  simp only [law04_PathTexts_j5, h1, h2, h3, h4, Option.bind_some, beq_self_eq_true, Bool.not_true, cond_false, law04_PathTexts_j6]
  cases hv : vld l
  · simp [law04_PathTexts_j7, awakeC]
  · have hne : bys l ≠ [] := by
      intro e
      have : l.length = 0 := by rw [← hbl, e]; rfl
      simp [vld, this] at hv
    have hno : ∀ x ∈ bys l, (46 : UInt8) ∉ x := by
      intro x hx
      simp only [bys, List.mem_map] at hx
      obtain ⟨e, he, rfl⟩ := hx
      unfold vld at hv
      simp only [Bool.and_eq_true] at hv
      exact nm_no46 (List.all_eq_true.1 hv.2 e he)
    have h5 := parse_eq 299 (by omega) (bytesOf (joinOn [46] (bys l))) (by rw [size_bytesOf]; omega)
    have e5 : (bytesOf (joinOn [46] (bys l))).data.toList = joinOn [46] (bys l) := by simp [bytesOf]
    rw [e5, split_join 46 _ hne hno, vld_strD, hv] at h5
    have h6 : ref04_Same 300 l ((bys l).map strD) = some true := by
      have := prefix_eq 298 l ((bys l).map strD) (by omega) (by omega)
      simp only [ref04_Same]
      rw [show ((bys l).map strD).length = l.length by simp [bys]]
      simp only [beq_self_eq_true, cond_true]
      have e : ref04_prefix 299 l ((bys l).map strD) = some (pfx l ((bys l).map strD)) := this
      rw [e, pfx_strD]
      rfl
    simp only [Nat.reduceAdd, cond_true] at h5
    simp only [cond_true, Option.bind_some, h5, bne_self_eq_false, cond_false, h6, Bool.not_true, law04_PathTexts_j7, awakeC]
theorem texts_loop (l : List Dt) (hl : l.length ≤ 100) : ∀ (M i : Nat), i ≤ l.length → l.length - i < M → (∀ (k : Nat) (h : k < l.length), k < i → (l[k]).toStr.size ≤ 100) → law04_PathTexts_l2 300 M l l (l.length : Int) (i : Int) = some true
  | 0, i, _, h, _ => by omega
  | M + 1, i, hi, h, hk => by
    simp only [law04_PathTexts_l2, dlt]
    by_cases hlt : i < l.length
    · simp only [hlt, decide_true, cond_true, law04_PathTexts_j3, idx_lt hlt, Option.bind_some]
      by_cases hz : 100 < (l[i]).toStr.size
      · have : decide ((100 : Int) < (((l[i]).toStr.size : Nat) : Int)) = true := by simp; omega
        simp only [this, cond_true, awakeC, Option.bind_some]
      · have : decide ((100 : Int) < (((l[i]).toStr.size : Nat) : Int)) = false := by simp; omega
        simp only [this, cond_false, law04_PathTexts_j4, wrapS (show i < 9223372036854775807 by omega)]
        refine texts_loop l hl M (i + 1) (by omega) (by omega) fun k h1 h2 => ?_
        by_cases hki : k = i
        · subst hki; omega
        · exact hk k h1 (by omega)
    · simp only [hlt, decide_false, cond_false]
      refine texts_j5 l hl fun e he => ?_
      obtain ⟨k, h1, rfl⟩ := List.getElem_of_mem he
      exact hk k h1 (by omega)
theorem law_texts (l : List Dt) : law04_PathTexts 301 l = some true := by
  simp only [law04_PathTexts]
  by_cases h1 : 100 < l.length
  · have : decide ((100 : Int) < ((l.length : Nat) : Int)) = true := by simp; omega
    simp only [this, cond_true, awakeC, Option.bind_some]
  have e1 : decide ((100 : Int) < ((l.length : Nat) : Int)) = false := by simp; omega
  simp only [e1, cond_false, law04_PathTexts_j0, law04_PathTexts_j1]
  exact texts_loop l (by omega) 301 0 (by omega) (by omega) fun k _ h => by omega
theorem texts_fx {ds : List Dt} (h : HasTys Tryd.prog Tryd.f4.params.toList ds) : FX Tryd.prog 4 (dats Tryd.f4.params.toList ds) [] (.dat 4 (.bool true)) [] := by
  have h' : HasTys Tryd.prog [23] ds := h
  cases h' with
  | cons h1 r =>
    cases r
    rw [(ty_lst Tryd.underlying23 h1).1]
    exact law04_PathTexts_fx 300 (ct_ok 300) _ (law_texts _)
end Go.Proofs.YtmjnmiahblaanaaDoor
