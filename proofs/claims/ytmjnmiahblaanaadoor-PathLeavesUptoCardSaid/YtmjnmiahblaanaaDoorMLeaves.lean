/- PathLeaves, in plain Lean. -/
import Derived.Test.YtmjnmiahblaanaaDoorMReach
set_option linter.unusedVariables false
set_option linter.unusedSimpArgs false
namespace Go.Proofs.YtmjnmiahblaanaaDoor
open Go.Am

def HH (d : Dt) : Prop := ∃ x, Sub x d ∧ Dt.I x 0 = 0
theorem HH.parts {d : Dt} (h : HH d) : ∃ e ∈ prts d, Dt.I e 0 = 0 ∨ HH e := by
  obtain ⟨x, hs, hx⟩ := h
  cases hs with
  | part h => exact ⟨x, h, .inl hx⟩
  | deep h r => exact ⟨_, h, .inr ⟨x, r, hx⟩⟩
theorem holes_l1 (m : Nat) (self : Dt → Option Bool) (L : List Dt) (hl : L.length < 9223372036854775807) (hs : ∀ e ∈ L, ∃ b, self e = some b ∧ (HH e → b = true)) : ∀ (M i : Nat), i ≤ L.length → L.length - i < M → ∃ b, law04_holes_l1 m self M L (i : Int) = some b ∧ ((∃ e ∈ L.drop i, Dt.I e 0 = 0 ∨ HH e) → b = true)
  | 0, i, _, h => by omega
  | M + 1, i, hi, h => by
    simp only [law04_holes_l1, dlt]
    by_cases hlt : i < L.length
    · rw [List.drop_eq_getElem_cons hlt]
      obtain ⟨b, hb1, hb2⟩ := hs _ (List.getElem_mem hlt)
      simp only [hlt, decide_true, cond_true, law04_holes_j2, idx_lt hlt, Option.bind_some, hb1]
      cases h0 : (Dt.I L[i] 0 == 0)
      · simp only [cond_false]
        cases b with
        | true => exact ⟨true, rfl, fun _ => rfl⟩
        | false =>
          obtain ⟨c, hc1, hc2⟩ := holes_l1 m self L hl hs M (i + 1) (by omega) (by omega)
          refine ⟨c, ?_, fun ⟨e, he, hh⟩ => ?_⟩
          · simp only [cond_false, law04_holes_j3, wrapS (show i < 9223372036854775807 by omega)]
            exact hc1
          · rcases List.mem_cons.1 he with rfl | he
            · rcases hh with hh | hh
              · rw [hh] at h0; cases h0
              · cases hb2 hh
            · exact hc2 ⟨e, he, hh⟩
      · exact ⟨true, rfl, fun _ => rfl⟩
    · simp only [hlt, decide_false, cond_false, law04_holes_j4]
      refine ⟨false, rfl, fun ⟨e, he, _⟩ => ?_⟩
      rw [List.drop_eq_nil_of_le (by omega)] at he
      simp at he
theorem holes_eq : ∀ (N : Nat) (d : Dt), d.bulk ≤ N → N ≤ 137438953472 → WV d → ∀ m, N ≤ m → ∃ b, law04_holes (m + 2) d = some b ∧ (HH d → b = true)
  | 0, d, h, _, _, _, _ => by have := bulk_pos d; omega
  | N + 1, d, h, hN, hw, m, hm => by
    obtain ⟨m, rfl⟩ : ∃ q, m = q + 1 := ⟨m - 1, by omega⟩
    have hpl := prts_len hw
    obtain ⟨b, h1, h2⟩ := holes_l1 (m + 2) (law04_holes (m + 2)) (prts d) (by omega) (fun e he => by
      obtain ⟨hwe, hbe⟩ := prts_wv hw e he
      exact holes_eq N e (by omega) (by omega) hwe m (by omega)) (m + 3) 0 (Nat.zero_le _) (by omega)
    refine ⟨b, ?_, fun hh => h2 (by rw [List.drop_zero]; exact hh.parts)⟩
    show Option.bind (ref01_Parts (m + 1 + 1) d) _ = _
    rw [parts_eq d hw (m + 1) (by omega) (by omega), Option.bind_some]
    exact h1
theorem lv_len : ∀ (L : List Dt), (∀ x ∈ L, WV x) → (lv L).length ≤ Dt.bulkL L
  | [], _ => by simp [lv, Dt.bulkL]
  | x :: L, h => by
    have h1 := lv_len L (fun y hy => h y (by simp [hy]))
    obtain ⟨_, g2, _⟩ := lvs_wv (h x (by simp))
    have e1 : lv (x :: L) = lvs x ++ lv L := rfl
    have e2 : Dt.bulkL (x :: L) = x.bulk + Dt.bulkL L := by simp [Dt.bulkL]
    rw [e1, List.length_append]
    omega
theorem lv_split (L : List Dt) (i : Nat) (h : i < L.length) : lv L = lv (L.take i) ++ (lvs L[i] ++ lv (L.drop (i + 1))) := by
  have e : L = L.take i ++ L[i] :: L.drop (i + 1) := by rw [← List.drop_eq_getElem_cons h, List.take_append_drop]
  conv => lhs; rw [e]
  unfold lv
  rw [List.flatMap_append]
  rfl
theorem lv_take (L : List Dt) (i : Nat) (h : i < L.length) : lv (L.take (i + 1)) = lv (L.take i) ++ lvs L[i] := by
  rw [List.take_succ_eq_append_getElem h]
  unfold lv
  rw [List.flatMap_append]
  simp
theorem cut_mid (A E B : List Dt) (x : Dt) : ((A ++ ((x :: E) ++ B)).drop (A.length + 1)).take E.length = E := by
  rw [List.drop_append, List.drop_eq_nil_of_le (by omega), List.nil_append, show A.length + 1 - A.length = 1 by omega]
  show (E ++ B).take E.length = E
  exact List.take_left
theorem pl_loop (m : Nat) (hm : 200000000000 ≤ m) (p L : List Dt) (v : Dt) (hL : ∀ x ∈ L, WV x) (hbL : Dt.bulkL L ≤ 68719476736) (hne : L ≠ [])
    (hh : p ≠ [] → 1 < L.length → ∀ x ∈ L, Dt.I x 0 = 0 → law04_holes (m + 2) v = some true) : ∀ (M i : Nat), i ≤ L.length → L.length - i < M → law04_PathLeaves_l2 (m + 2) M p L (lv L) (((lv (L.take i)).length : Nat) : Int) (i : Int) v = some true
  | 0, i, _, h => by omega
  | M + 1, i, hi, h => by
    have hll := len_bulk L
    have hlv := lv_len L hL
    simp only [law04_PathLeaves_l2, dlt]
    by_cases hlt : i < L.length
    · have hwx := hL _ (List.getElem_mem hlt)
      obtain ⟨g1, g2, g3, g4, g5, g6⟩ := lvs_wv hwx
      have hbx := bulk_mem (List.getElem_mem hlt)
      have hsp := lv_split L i hlt
      have hslen : (lv L).length = (lv (L.take i)).length + ((lvs L[i]).length + (lv (L.drop (i + 1))).length) := by rw [hsp]; simp only [List.length_append]
      have ih := pl_loop m hm p L v hL hbL hne hh M (i + 1) (by omega) (by omega)
      rw [lv_take L i hlt, List.length_append] at ih
      have hlvs : (lvs L[i]).length = 1 + (bif Dt.I L[i] 0 == 6 then (Dt.L L[i] 3).length else 0) := by
        unfold lvs
        cases (Dt.I L[i] 0 == 6) <;> simp [Nat.add_comm]
      have hat : (lv (L.take i)).length < (lv L).length := by omega
      have hget : (lv L)[(lv (L.take i)).length]'hat = L[i] := by
        have : (lv L)[(lv (L.take i)).length]? = some L[i] := by
          rw [hsp, List.getElem?_append_right (Nat.le_refl _), Nat.sub_self]
          rfl
        exact Option.some.inj ((List.getElem?_eq_getElem hat).symm.trans this)
      have hidx : idx (lv L) (((lv (L.take i)).length : Nat) : Int) = some L[i] := by rw [idx_lt hat, hget]
      have hsame : ref01_Same (m + 2) L[i] L[i] = some true := same_refl 137438953472 _ (by omega) (by omega) hwx (m + 1) (by omega)
      have fin : ∀ k : Nat, k = (lvs L[i]).length → law04_PathLeaves_j5 (m + 2) (law04_PathLeaves_l2 (m + 2) M) p L (lv L) (((lv (L.take i)).length : Nat) : Int) (i : Int) (k : Int) v = some true := by
        intro k hk
        subst hk
        simp only [law04_PathLeaves_j5, law04_PathLeaves_j6, wrapS (show i < 9223372036854775807 by omega)]
        rw [wrap64 (by omega) (by omega)]
        exact ih
      have tail : ∀ k : Nat, k = (lvs L[i]).length → (bif ((Dt.I L[i] 0) == (0 : Int)) then
          (bif (decide ((0 : Int) < (((List.length p) : Nat) : Int))) then
            (bif (decide ((1 : Int) < (((List.length L) : Nat) : Int))) then
              ((law04_holes (m + 2) v).bind fun r13 =>
                (bif (Bool.not r13) then
                  some Bool.false
                else
                  law04_PathLeaves_j5 (m + 2) (law04_PathLeaves_l2 (m + 2) M) p L (lv L) (((lv (L.take i)).length : Nat) : Int) (i : Int) (k : Int) v))
            else
              law04_PathLeaves_j5 (m + 2) (law04_PathLeaves_l2 (m + 2) M) p L (lv L) (((lv (L.take i)).length : Nat) : Int) (i : Int) (k : Int) v)
          else
            law04_PathLeaves_j5 (m + 2) (law04_PathLeaves_l2 (m + 2) M) p L (lv L) (((lv (L.take i)).length : Nat) : Int) (i : Int) (k : Int) v)
        else
          law04_PathLeaves_j5 (m + 2) (law04_PathLeaves_l2 (m + 2) M) p L (lv L) (((lv (L.take i)).length : Nat) : Int) (i : Int) (k : Int) v) = some true := by
        intro k hk
        rw [fin k hk]
        cases h0 : (Dt.I L[i] 0 == 0)
        · rfl
        · simp only [cond_true]
          by_cases hp : 0 < p.length
          · have e1 : decide ((0 : Int) < ((p.length : Nat) : Int)) = true := by simp; omega
            by_cases hl1 : 1 < L.length
            · have e2 : decide ((1 : Int) < ((L.length : Nat) : Int)) = true := by simp; omega
              have hho := hh (by rintro rfl; simp at hp) hl1 _ (List.getElem_mem hlt) (by simpa using h0)
              simp only [e1, e2, cond_true, hho, Option.bind_some, Bool.not_true, cond_false]
            · have e2 : decide ((1 : Int) < ((L.length : Nat) : Int)) = false := by rw [decide_eq_false_iff_not]; omega
              simp only [e1, e2, cond_true, cond_false]
          · have e1 : decide ((0 : Int) < ((p.length : Nat) : Int)) = false := by rw [decide_eq_false_iff_not]; omega
            simp only [e1, cond_false]
      have j4 : ∀ k : Nat, k = (lvs L[i]).length → (1 < k → (Dt.I L[i] 0 == 6) = true) → law04_PathLeaves_j4 (m + 2) (law04_PathLeaves_l2 (m + 2) M) p L (lv L) (((lv (L.take i)).length : Nat) : Int) (i : Int) (k : Int) v = some true := by
        intro k hk hk6
        have hw1 : IntKind.wrap IntKind.i64 ((((lv (L.take i)).length : Nat) : Int) + (k : Int)) = (((lv (L.take i)).length + k : Nat) : Int) := by rw [wrap64 (by omega) (by omega)]; omega
        have hw2 : IntKind.wrap IntKind.i64 ((((lv (L.take i)).length : Nat) : Int) + 1) = (((lv (L.take i)).length + 1 : Nat) : Int) := by rw [wrap64 (by omega) (by omega)]; omega
        have hd : decide ((((lv L).length : Nat) : Int) < (((lv (L.take i)).length + k : Nat) : Int)) = false := by rw [decide_eq_false_iff_not]; omega
        unfold law04_PathLeaves_j4
        rw [hw1, hw2, hd]
        simp only [cond_false, hidx, idx_lt hlt, Option.bind_some, hsame, Bool.not_true]
        by_cases hk1 : 1 < k
        · have e1 : decide ((1 : Int) < (k : Int)) = true := by simp; omega
          have hk6' := hk6 hk1
          have hcut : cutL (lv L) (((lv (L.take i)).length + 1 : Nat) : Int) (((lv (L.take i)).length + k : Nat) : Int) = some (Dt.L L[i] 3) := by
            have e3 : lvs L[i] = L[i] :: Dt.L L[i] 3 := by unfold lvs; rw [hk6']; rfl
            have e4 : k = (Dt.L L[i] 3).length + 1 := by rw [hk, e3]; rfl
            rw [cutL_nat (by omega) (by omega), show (lv (L.take i)).length + k - ((lv (L.take i)).length + 1) = (Dt.L L[i] 3).length by omega]
            congr 1
            rw [hsp, e3]
            exact cut_mid _ _ _ _
          have hsl : ref01_SameList (m + 2) (Dt.L L[i] 3) (Dt.L L[i] 3) = some true := samelist_refl (68719476736 + 6) _ (by omega) (by omega) g4 m (by omega)
          simp only [e1, cond_true, hcut, Option.bind_some, hsl, Bool.not_true, cond_false]
          exact tail k hk
        · have e1 : decide ((1 : Int) < (k : Int)) = false := by rw [decide_eq_false_iff_not]; omega
          simp only [e1, cond_false]
          exact tail k hk
      simp only [hlt, decide_true, cond_true, law04_PathLeaves_j3, idx_lt hlt, Option.bind_some]
      cases hk : (Dt.I L[i] 0 == 6)
      · rw [hk] at hlvs
        exact j4 1 (by rw [hlvs]; rfl) (fun h => by omega)
      · rw [hk] at hlvs
        have hw3 : IntKind.wrap IntKind.i64 ((1 : Int) + (((Dt.L L[i] 3).length : Nat) : Int)) = ((1 + (Dt.L L[i] 3).length : Nat) : Int) := by rw [wrap64 (by omega) (by omega)]; omega
        simp only [cond_true, hw3]
        exact j4 _ (by rw [hlvs]; rfl) (fun _ => hk)
    · have e : i = L.length := by omega
      have e0 : decide ((0 : Int) < ((L.length : Nat) : Int)) = true := by
        have : L.length ≠ 0 := fun h => hne (List.length_eq_zero_iff.1 h)
        simp; omega
      simp only [hlt, decide_false, cond_false, law04_PathLeaves_j7, e0, cond_true]
      rw [List.take_of_length_le (by omega)]
      simp [awakeC]
theorem law_leaves (d : Dt) (p : List Dt) (hw : WV d) (hb : d.bulk ≤ 1048576) (m : Nat) (hm : 400000000000 ≤ m) : law04_PathLeaves (m + 1) d p = some true := by
  obtain ⟨k, rfl⟩ : ∃ k, m = k + 4 := ⟨m - 4, by omega⟩
  obtain ⟨b, hs1, hs2⟩ := small_eq d p hw k (by omega) (by omega)
  show Option.bind (law04_small (k + 4) d p) _ = _
  rw [hs1, Option.bind_some]
  cases b with
  | false => rfl
  | true =>
    obtain ⟨hD, _⟩ := hs2 rfl
    obtain ⟨r, h1, ⟨hne, hsub⟩, h2, h3, h4⟩ := reach_eq d hb hw hD p (k + 2) (k + 2) (by omega) (by omega)
    obtain ⟨r', h1', _, h2', h3', h4'⟩ := reach_eq d hb hw hD p (k + 3) (k + 2) (by omega) (by omega)
    have hl := (leaves_eq d p r (k + 2) (by omega) h1 h2 h3 h4).2
    have hl2 : path_Leaves (k + 4) d p = some (lv r) := hl
    have h4' : path_Reach (k + 4) d p = some r' := h4'
    have hrr : r = r' := Option.some.inj (h3.symm.trans h3')
    subst hrr
    obtain ⟨c, hc1, hc2⟩ := holes_eq 137438953472 d (by omega) (by omega) hw (k + 2) (by omega)
    have hloop := pl_loop (k + 2) (by omega) p r d h1 h2 hne (fun hp hl x hx h0 => by
      have : HH d := ⟨x, hsub hp hl x hx, h0⟩
      rw [hc2 this] at hc1
      exact hc1) (k + 5) 0 (Nat.zero_le _) (by have := len_bulk r; omega)
    simp only [Bool.not_true, cond_false, law04_PathLeaves_j0, h4', hl2, Option.bind_some, law04_PathLeaves_j1]
    exact hloop
theorem leaves_fx {ds : List Dt} (h : HasTys Tryd.prog Tryd.f11.params.toList ds) (hb : Dt.bulkL ds ≤ 1048576) : FX Tryd.prog 11 (dats Tryd.f11.params.toList ds) [] (.dat 4 (.bool true)) [] := by
  have h' : HasTys Tryd.prog [36, 23] ds := h
  cases h' with
  | cons h1 r => cases r with
    | cons h2 r =>
      cases r
      rw [(ty_lst Tryd.underlying23 h2).1]
      simp only [Dt.bulkL] at hb
      exact law04_PathLeaves_fx 400000000000 (ct_ok 400000000000) _ _ (law_leaves _ _ (wv_of h1) (by omega) 400000000000 (Nat.le_refl _))
end Go.Proofs.YtmjnmiahblaanaaDoor
