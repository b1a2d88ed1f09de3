/- Small sort orders and documents. -/
import Derived.Test.YtacchdeihafmnaaDoorMOKey
import Derived.Test.YtacchdeihafmnaaDoorMTot
set_option linter.unusedVariables false
set_option linter.unusedSimpArgs false
namespace Go.Proofs.YtacchdeihafmnaaDoor
open Go.Am
theorem s03_l2 (m : Nat) (self16 : List Dt → List Dt → Option Bool) (self34 : Dt → Dt → Option Bool) (d : Dt) (hl : (Dt.L d 4).length < 1000000000000) (hs : ∀ f ∈ Dt.L d 4, self34 (Dt.fld f 1) (Dt.fld f 1) = some true) (hL : self16 (Dt.L d 3) (Dt.L d 3) = some true) : ∀ (M i : Nat), i ≤ (Dt.L d 4).length → (Dt.L d 4).length - i < M → law03_Same_l2 m self16 self34 M ((Dt.L d 4).length : Int) (i : Int) d d = some true
  | 0, i, _, h => by omega
  | M + 1, i, hi, h => by
    simp only [law03_Same_l2, dlt]
    by_cases hlt : i < (Dt.L d 4).length
    · simp only [hlt, decide_true, cond_true, law03_Same_j3, law03_Same_j4, idx_lt hlt, Option.bind_some, beq_self_eq_true, Bool.not_true, cond_false, hs _ (List.getElem_mem hlt), wrapS (show i < 9223372036854775807 by omega)]
      exact s03_l2 m self16 self34 d hl hs hL M (i + 1) (by omega) (by omega)
    · simp only [hlt, decide_false, cond_false, law03_Same_j5, hL, Option.bind_some]
theorem s03L_l2 (m : Nat) (self34 : Dt → Dt → Option Bool) (l : List Dt) (hl : l.length < 1000000000000) (hs : ∀ e ∈ l, self34 e e = some true) : ∀ (M i : Nat), i ≤ l.length → l.length - i < M → law03_SameList_l2 m self34 M l l (l.length : Int) (i : Int) = some true
  | 0, i, _, h => by omega
  | M + 1, i, hi, h => by
    simp only [law03_SameList_l2, dlt]
    by_cases hlt : i < l.length
    · simp only [hlt, decide_true, cond_true, law03_SameList_j3, law03_SameList_j4, idx_lt hlt, Option.bind_some, Bool.not_true, cond_false, hs _ (List.getElem_mem hlt), wrapS (show i < 9223372036854775807 by omega)]
      exact s03L_l2 m self34 l hl hs M (i + 1) (by omega) (by omega)
    · simp only [hlt, decide_false, cond_false, law03_SameList_j5]
theorem s03_list (m : Nat) (l : List Dt) (hl : l.length ≤ m) (hl2 : l.length < 1000000000000) (hs : ∀ e ∈ l, law03_Same m e e = some true) : law03_SameList (m + 1) l l = some true := by
  show (bif ((((l.length : Nat) : Int) != ((l.length : Nat) : Int)) : Bool) then some false else law03_SameList_j0 m (law03_Same m) l l) = _
  rw [bne_self_eq_false]
  exact s03L_l2 m (law03_Same m) l hl2 hs (m + 1) 0 (Nat.zero_le _) (by omega)
theorem s03_refl : ∀ (N : Nat) (d : Dt), d.bulk ≤ N → N < 1000000000000 → ∀ m, 2 * N ≤ m → law03_Same (m + 1) d d = some true
  | 0, d, h, _, _, _ => by have := bulk_posA d; omega
  | N + 1, d, h, hN, m, hm => by
    obtain ⟨m, rfl⟩ : ∃ k, m = k + 2 := ⟨m - 2, by omega⟩
    have h3 := L_len d 3
    have h4 := L_len d 4
    have hL := s03_list (m + 1) (Dt.L d 3) (by omega) (by omega) fun e he => s03_refl N e (by have := L_mem he; omega) (by omega) m (by omega)
    have key := s03_l2 (m + 2) (law03_SameList (m + 2)) (law03_Same (m + 2)) d (by omega) (fun f hf => s03_refl N (Dt.fld f 1) (by have := L_mem hf; have := fld_bulk f 1; omega) (by omega) (m + 1) (by omega)) hL (m + 3) 0 (Nat.zero_le _) (by omega)
    show (bif (Dt.I d 0 != Dt.I d 0) then some false else bif (Dt.I d 1 != Dt.I d 1) then some false else bif (!(ByteArray.toList (Dt.S d 2) == ByteArray.toList (Dt.S d 2))) then some false else bif ((((Dt.L d 4).length : Nat) : Int) != (((Dt.L d 4).length : Nat) : Int)) then some false else law03_Same_j0 (m + 2) (law03_SameList (m + 2)) (law03_Same (m + 2)) d d) = _
    simp only [bne_self_eq_false, beq_self_eq_true, Bool.not_true, cond_false]
    exact key
theorem small_l7 (m : Nat) (hm : 3000000 ≤ m) (hm2 : m < 900000000000) (D : List Dt) (hl : D.length ≤ 40) (hD : ∀ d ∈ D, WV d ∧ d.bulk ≤ 1048576) : ∀ (M i : Nat), i ≤ D.length → D.length - i < M →
    ∃ b, law12_Small_l7 (m + 1) M D (D.length : Int) (i : Int) = some b ∧ (b = true → ∀ d ∈ D.drop i, DocOK d)
  | 0, i, _, h => by omega
  | M + 1, i, hi, h => by
    simp only [law12_Small_l7, dlt]
    by_cases hlt : i < D.length
    · have hd := hD _ (List.getElem_mem hlt)
      obtain ⟨b, h1, h2⟩ := rvalid_tot D[i] hd.1 hd.2 m hm hm2
      obtain ⟨b', g1, g2⟩ := small_l7 m hm hm2 D hl hD M (i + 1) (by omega) (by omega)
      simp only [hlt, decide_true, cond_true, law12_Small_j8, law12_Small_j9, idx_lt hlt, Option.bind_some, h1, wrapS (show i < 9223372036854775807 by omega)]
      cases b
      · exact ⟨false, rfl, fun h => by cases h⟩
      · refine ⟨b', g1, fun hb d hd' => ?_⟩
        rw [List.drop_eq_getElem_cons hlt] at hd'
        rcases List.mem_cons.1 hd' with rfl | hd'
        · exact ⟨hd.1, hd.2, h2 rfl⟩
        · exact g2 hb d hd'
    · have : i = D.length := by omega
      subst this
      exact ⟨true, by simp [law12_Small_j10], fun _ d hd => by simp at hd⟩
theorem small_l2 (m : Nat) (hm : 3000000 ≤ m) (hm2 : m < 900000000000) (l D : List Dt) (hl8 : l.length ≤ 8) (hl : D.length ≤ 40) (hD : ∀ d ∈ D, WV d ∧ d.bulk ≤ 1048576) : ∀ (M i : Nat), i ≤ l.length → l.length - i < M →
    ∃ b, law12_Small_l2 (m + 1) M l D (l.length : Int) (i : Int) = some b ∧ (b = true → ∀ d ∈ D, DocOK d)
  | 0, i, _, h => by omega
  | M + 1, i, hi, h => by
    simp only [law12_Small_l2, dlt]
    by_cases hlt : i < l.length
    · simp only [hlt, decide_true, cond_true, law12_Small_j3, law12_Small_j4, idx_lt hlt, Option.bind_some, wrapS (show i < 9223372036854775807 by omega)]
      cases decide ((16 : Int) < (((Dt.L l[i] 0).length : Nat) : Int))
      · exact small_l2 m hm hm2 l D hl8 hl hD M (i + 1) (by omega) (by omega)
      · exact ⟨false, rfl, fun h => by cases h⟩
    · obtain ⟨b, h1, h2⟩ := small_l7 m hm hm2 D hl hD (m + 2) 0 (Nat.zero_le _) (by omega)
      refine ⟨b, ?_, fun hb d hd => h2 hb d (by simpa using hd)⟩
      simp only [hlt, decide_false, cond_false, law12_Small_j5, law12_Small_j6]
      exact h1
theorem small_eq (m : Nat) (hm : 3000000 ≤ m) (hm2 : m < 900000000000) (l D : List Dt) (hD : ∀ d ∈ D, WV d ∧ d.bulk ≤ 1048576) : ∃ b, law12_Small (m + 2) l D = some b ∧ (b = true → l.length ≤ 8 ∧ D.length ≤ 40 ∧ ∀ d ∈ D, DocOK d) := by
  simp only [law12_Small]
  by_cases h1 : 8 < l.length
  · have e : decide ((8 : Int) < ((l.length : Nat) : Int)) = true := by simp; omega
    simp only [e, cond_true]
    exact ⟨false, rfl, fun h => by cases h⟩
  · have e : decide ((8 : Int) < ((l.length : Nat) : Int)) = false := by simp; omega
    simp only [e, cond_false]
    by_cases h2 : 40 < D.length
    · have e : decide ((40 : Int) < ((D.length : Nat) : Int)) = true := by simp; omega
      simp only [e, cond_true]
      exact ⟨false, rfl, fun h => by cases h⟩
    · have e : decide ((40 : Int) < ((D.length : Nat) : Int)) = false := by simp; omega
      simp only [e, cond_false]
      obtain ⟨b, g1, g2⟩ := small_l2 m hm hm2 l D (by omega) (by omega) hD (m + 2) 0 (Nat.zero_le _) (by omega)
      exact ⟨b, g1, fun hb => ⟨by omega, by omega, g2 hb⟩⟩
end Go.Proofs.YtacchdeihafmnaaDoor
