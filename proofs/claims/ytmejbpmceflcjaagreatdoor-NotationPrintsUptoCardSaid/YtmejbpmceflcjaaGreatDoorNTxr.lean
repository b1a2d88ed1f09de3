/- The reference's text of a value. -/
import Derived.Test.YtmejbpmceflcjaaGreatDoorNWr
import Derived.Test.YtmejbpmceflcjaaGreatDoorNSp
set_option linter.unusedVariables false
set_option linter.unusedSimpArgs false
namespace Go.Proofs.YtmejbpmceflcjaaGreatDoor
open Go.Am

theorem tl_loop (m : Nat) (self : Dt → Option ByteArray) (g : Dt → List UInt8) (d : Dt) (hl : (Dt.L d 3).length < 9223372036854775807)
    (hs : ∀ e ∈ Dt.L d 3, self e = some ⟨(g e).toArray⟩) (hg : ∀ e ∈ Dt.L d 3, (g e).length + 1 ≤ 40 * e.bulk) :
    ∀ (M i : Nat) (a : List UInt8), i ≤ (Dt.L d 3).length → (Dt.L d 3).length - i < M → a.length + 40 * Dt.bulkL ((Dt.L d 3).drop i) + 5 ≤ 1152921504606846976 →
    ref05_text_l2 m self M (ByteArray.mk (List.toArray a)) (i : Int) d = some ⟨(a ++ (lsF g i ((Dt.L d 3).drop i) ++ [93])).toArray⟩
  | 0, i, _, _, h, _ => by omega
  | M + 1, i, a, hi, h, ha => by
    simp only [ref05_text_l2, dlt]
    by_cases hlt : i < (Dt.L d 3).length
    · have hm := List.getElem_mem hlt
      rw [List.drop_eq_getElem_cons hlt] at ha ⊢
      simp only [Dt.bulkL] at ha
      have hb1 := bulk_pos (Dt.L d 3)[i]
      have hg1 := hg _ hm
      have d0 : decide ((0 : Int) < (i : Int)) = decide (0 < i) := dlt (i := 0)
      have key : ∀ a' : List UInt8, a' = a ++ (bif decide (0 < i) then [44] else []) → ref05_text_j4 m self (ref05_text_l2 m self M) (ByteArray.mk (List.toArray a')) (i : Int) d = some ⟨(a ++ (lsF g i ((Dt.L d 3)[i] :: (Dt.L d 3).drop (i + 1)) ++ [93])).toArray⟩ := fun a' hae => by
        have hal : a'.length ≤ a.length + 1 := by rw [hae]; cases decide (0 < i) <;> simp
        simp only [ref05_text_j4, ref05_text_j5, idx_lt hlt, hs _ hm, Option.bind_some, mkB_size, mkB_app, ble_of (show a'.length + (g (Dt.L d 3)[i]).length ≤ 1152921504606846976 by omega), cond_true, wrapS (show i < 9223372036854775807 by omega)]
        rw [tl_loop m self g d hl hs hg M (i + 1) _ (by omega) (by omega) (by rw [List.length_append]; omega), hae]
        simp only [lsF, List.append_assoc]
      simp only [hlt, decide_true, cond_true, ref05_text_j3, d0]
      by_cases hi0 : 0 < i
      · simp only [hi0, decide_true, cond_true, mkB_size, mkB_app, ble_of (show a.length + 1 ≤ 1152921504606846976 by omega)]
        exact key (a ++ [44]) (by simp [hi0])
      · simp only [hi0, decide_false, cond_false]
        exact key a (by simp [hi0])
    · have : i = (Dt.L d 3).length := by omega
      subst this
      simp only [hlt, decide_false, cond_false, ref05_text_j6, mkB_size, mkB_app, ble_of (show a.length + 1 ≤ 1152921504606846976 by omega), cond_true, List.drop_length, lsF, List.nil_append]
theorem td_loop (m : Nat) (self : Dt → Option ByteArray) (g : Dt → List UInt8) (d : Dt) (hl : (Dt.L d 4).length < 9223372036854775807)
    (hf : ∀ f ∈ Dt.L d 4, f.bulk = (Dt.fld f 1).bulk + (Dt.S f 0).size + 2 ∧ (Dt.S f 0).size + 2 ≤ m ∧ (Dt.S f 0).size < 1000000000000)
    (hs : ∀ f ∈ Dt.L d 4, self (Dt.fld f 1) = some ⟨(g (Dt.fld f 1)).toArray⟩) (hg : ∀ f ∈ Dt.L d 4, (g (Dt.fld f 1)).length + 1 ≤ 40 * (Dt.fld f 1).bulk) :
    ∀ (M i : Nat) (a : List UInt8), i ≤ (Dt.L d 4).length → (Dt.L d 4).length - i < M → a.length + 40 * Dt.bulkL ((Dt.L d 4).drop i) + 5 ≤ 1152921504606846976 →
    ref05_text_l9 m self M (ByteArray.mk (List.toArray a)) (i : Int) d = some ⟨(a ++ (lsF (fun f => qtL (Dt.S f 0).data.toList ++ ([58] ++ g (Dt.fld f 1))) i ((Dt.L d 4).drop i) ++ [125])).toArray⟩
  | 0, i, _, _, h, _ => by omega
  | M + 1, i, a, hi, h, ha => by
    simp only [ref05_text_l9, dlt]
    by_cases hlt : i < (Dt.L d 4).length
    · have hm := List.getElem_mem hlt
      rw [List.drop_eq_getElem_cons hlt] at ha ⊢
      simp only [Dt.bulkL] at ha
      obtain ⟨hf1, hf2, hf3⟩ := hf _ hm
      obtain ⟨m, rfl⟩ : ∃ q, m = q + 2 := ⟨m - 2, by omega⟩
      have hb1 := bulk_pos (Dt.fld (Dt.L d 4)[i] 1)
      have hg1 := hg _ hm
      have hq := qtL_len (Dt.S (Dt.L d 4)[i] 0).data.toList
      rw [lenB] at hq
      have d0 : decide ((0 : Int) < (i : Int)) = decide (0 < i) := dlt (i := 0)
      have key : ∀ a' : List UInt8, a' = a ++ (bif decide (0 < i) then [44] else []) → ref05_text_j11 (m + 2) self (ref05_text_l9 (m + 2) self M) (ByteArray.mk (List.toArray a')) (i : Int) d = some ⟨(a ++ (lsF (fun f => qtL (Dt.S f 0).data.toList ++ ([58] ++ g (Dt.fld f 1))) i ((Dt.L d 4)[i] :: (Dt.L d 4).drop (i + 1)) ++ [125])).toArray⟩ := fun a' hae => by
        have hal : a'.length ≤ a.length + 1 := by rw [hae]; cases decide (0 < i) <;> simp
        simp only [ref05_text_j11, ref05_text_j12, idx_lt hlt, rquote_eq m (Dt.S (Dt.L d 4)[i] 0) (by omega) hf3, hs _ hm, Option.bind_some, mkB_size, mkB_app, List.length_append, List.length_cons, List.length_nil, wrapS (show i < 9223372036854775807 by omega)]
        simp (disch := omega) only [ble_of, cond_true]
        rw [td_loop (m + 2) self g d hl hf hs hg M (i + 1) _ (by omega) (by omega) (by simp; omega), hae]
        simp only [lsF, List.append_assoc]
      simp only [hlt, decide_true, cond_true, ref05_text_j10, d0]
      by_cases hi0 : 0 < i
      · simp only [hi0, decide_true, cond_true, mkB_size, mkB_app, ble_of (show a.length + 1 ≤ 1152921504606846976 by omega)]
        exact key (a ++ [44]) (by simp [hi0])
      · simp only [hi0, decide_false, cond_false]
        exact key a (by simp [hi0])
    · have : i = (Dt.L d 4).length := by omega
      subst this
      simp only [hlt, decide_false, cond_false, ref05_text_j13, mkB_size, mkB_app, ble_of (show a.length + 1 ≤ 1152921504606846976 by omega), cond_true, List.drop_length, lsF, List.nil_append]
theorem rtext_eq : ∀ (N : Nat) (d : Dt), d.bulk ≤ N → N ≤ 1000000000 → WV d → WR d → sndF wd N d = true → ∀ m, 2 * N + 100 ≤ m → ref05_text (m + 1) d = some ⟨(txt N d).toArray⟩
  | 0, d, h, _, _, _, _, _, _ => by have := bulk_pos d; omega
  | N + 1, d, h, hN, hw, hr, hsd, m, hm => by
    obtain ⟨m, rfl⟩ : ∃ q, m = q + 3 := ⟨m - 3, by omega⟩
    obtain ⟨p1, p2, p3, p4⟩ := wv_parts hw
    obtain ⟨r1, r3, r4⟩ := wr_parts hr
    obtain ⟨hk, hs6, hs5⟩ := snd_kind hsd
    have hz := wv_size hw
    have hx := hxL_len (Dt.S d 2).data.toList
    have hil := itoa_len _ r1.1 r1.2
    rw [lenB] at hx
    have ih : ∀ e : Dt, WV e → WR e → e.bulk ≤ N → sndF wd N e = true → ref05_text (m + 3) e = some ⟨(txt N e).toArray⟩ := fun e hwe hre hbe hse => rtext_eq N e hbe (by omega) hwe hre hse (m + 2) (by omega)
    have hde := decimal_eq (m + 1) _ r1.1 r1.2 (by omega)
    have hqe := rquote_eq (m + 1) (Dt.S d 2) (by omega) (by omega)
    have hhe := rhex_eq (m + 1) (Dt.S d 2) (by omega) (by omega)
    rw [ref05_text]
    simp only [txt]
    rcases kcase (Dt.I d 0) with e | e | e | e | e | e | e | e | e | e | e | hk2
    · rw [e]; rfl
    · rw [e]; rfl
    · rw [e]
      show ((ref05_Decimal (m + 3) (Dt.I d 1)).bind fun r0 => some r0) = some ⟨(Lib.itoa (Dt.I d 1)).toArray⟩
      rw [hde]; rfl
    · rw [e]
      show ((ref05_Quote (m + 3) (Dt.S d 2)).bind fun r0 => some r0) = some ⟨(qtL (Dt.S d 2).data.toList).toArray⟩
      rw [hqe]; rfl
    · have hfl : ∀ f ∈ Dt.L d 4, f.bulk = (Dt.fld f 1).bulk + (Dt.S f 0).size + 2 ∧ (Dt.S f 0).size + 2 ≤ m + 3 ∧ (Dt.S f 0).size < 1000000000000 := fun f hf => by
        have := wf_size hw f hf
        have := bulk_mem hf
        exact ⟨by omega, by omega, by omega⟩
      have hlp := td_loop (m + 3) (ref05_text (m + 3)) (txt N) d (by omega) hfl
        (fun f hf => ih _ (p4 f hf).1 (r4 f hf) (by have := (p4 f hf).2; omega) (hs5 e f hf))
        (fun f hf => txt_len N _ (p4 f hf).1 (r4 f hf) (by have := (p4 f hf).2; omega)) (m + 4) 0 [123] (Nat.zero_le _) (by omega) (by simp; omega)
      rw [List.drop_zero] at hlp
      rw [e]
      exact hlp
    · have hlp := tl_loop (m + 3) (ref05_text (m + 3)) (txt N) d (by omega)
        (fun x hx => ih _ (p3 x hx).1 (r3 x hx) (by have := (p3 x hx).2; omega) (hs6 e x hx))
        (fun x hx => txt_len N _ (p3 x hx).1 (r3 x hx) (by have := (p3 x hx).2; omega)) (m + 4) 0 [91] (Nat.zero_le _) (by omega) (by simp; omega)
      rw [List.drop_zero] at hlp
      rw [e]
      exact hlp
    · rw [e]
      show ((ref05_hex (m + 3) (Dt.S d 2)).bind _) = some (ByteArray.mk (litBytes ++ (hxL (Dt.S d 2).data.toList ++ litEnd)).toArray)
      rw [hhe]
      simp only [Option.bind_some, mkB_size, mkB_app, List.length_append, List.length_cons, List.length_nil]
      simp (disch := omega) only [ble_of, cond_true]
      rw [List.append_assoc]; rfl
    · rw [e]
      show ((ref05_hex (m + 3) (Dt.S d 2)).bind _) = some (ByteArray.mk (litId ++ (hxL (Dt.S d 2).data.toList ++ litEnd)).toArray)
      rw [hhe]
      simp only [Option.bind_some, mkB_size, mkB_app, List.length_append, List.length_cons, List.length_nil]
      simp (disch := omega) only [ble_of, cond_true]
      rw [List.append_assoc]; rfl
    · rw [e]
      show (bif Dt.I d 1 == 1 then _ else ref05_text_j0 (m + 3) (ref05_text (m + 3))) = some ⟨(bif Dt.I d 1 == 1 then litTrue else litFalse).toArray⟩
      cases (Dt.I d 1 == 1) <;> rfl
    · rw [e]
      show ((ref05_Decimal (m + 3) (Dt.I d 1)).bind _) = some (ByteArray.mk (litTime ++ (Lib.itoa (Dt.I d 1) ++ [125])).toArray)
      rw [hde]
      simp only [Option.bind_some, mkB_size, mkB_app, List.length_append, List.length_cons, List.length_nil]
      simp (disch := omega) only [ble_of, cond_true]
      rw [List.append_assoc]; rfl
    · rw [e]; rfl
    · omega
theorem pd_loop (m : Nat) (self : Dt → Option Int) (er : Dt → Int) (d : Dt) (hl : (Dt.L d 4).length < 9223372036854775807) (hs : ∀ f ∈ Dt.L d 4, self (Dt.fld f 1) = some (er (Dt.fld f 1))) :
    ∀ (M i : Nat), i ≤ (Dt.L d 4).length → (Dt.L d 4).length - i < M → ref05_printable_l10 m self M (i : Int) d = some (erF (fun f => er (Dt.fld f 1)) ((Dt.L d 4).drop i))
  | 0, i, _, h => by omega
  | M + 1, i, hi, h => by
    simp only [ref05_printable_l10, dlt]
    by_cases hlt : i < (Dt.L d 4).length
    · rw [List.drop_eq_getElem_cons hlt]
      simp only [hlt, decide_true, cond_true, ref05_printable_j11, ref05_printable_j12, idx_lt hlt, hs _ (List.getElem_mem hlt), Option.bind_some, wrapS (show i < 9223372036854775807 by omega), pd_loop m self er d hl hs M (i + 1) (by omega) (by omega), erF, bne]
      cases (er (Dt.fld (Dt.L d 4)[i] 1) == 0) <;> rfl
    · have : i = (Dt.L d 4).length := by omega
      subst this
      simp only [hlt, decide_false, cond_false, ref05_printable_j13, List.drop_length, erF]
theorem pl_loop (m : Nat) (self : Dt → Option Int) (er : Dt → Int) (d : Dt) (hl : (Dt.L d 3).length < 9223372036854775807) (hs : ∀ e ∈ Dt.L d 3, self e = some (er e)) (r : Int) (hr : ref05_printable_l10 m self (Nat.succ m) 0 d = some r) :
    ∀ (M i : Nat), i ≤ (Dt.L d 3).length → (Dt.L d 3).length - i < M → ref05_printable_l5 m self M (i : Int) d = some (bif erF er ((Dt.L d 3).drop i) == 0 then r else erF er ((Dt.L d 3).drop i))
  | 0, i, _, h => by omega
  | M + 1, i, hi, h => by
    simp only [ref05_printable_l5, dlt]
    by_cases hlt : i < (Dt.L d 3).length
    · rw [List.drop_eq_getElem_cons hlt]
      simp only [hlt, decide_true, cond_true, ref05_printable_j6, ref05_printable_j7, idx_lt hlt, hs _ (List.getElem_mem hlt), Option.bind_some, wrapS (show i < 9223372036854775807 by omega), pl_loop m self er d hl hs r hr M (i + 1) (by omega) (by omega), erF, bne]
      cases he : (er (Dt.L d 3)[i] == 0)
      · simp only [Bool.not_false, cond_true, cond_false, he]
      · rfl
    · have : i = (Dt.L d 3).length := by omega
      subst this
      simp only [hlt, decide_false, cond_false, ref05_printable_j8, ref05_printable_j9, hr, List.drop_length, erF, beq_self_eq_true, cond_true]
theorem printable_eq : ∀ (N : Nat) (d : Dt), d.bulk ≤ N → N ≤ 1000000000 → WV d → sndF wd N d = true → ∀ m, 2 * N + 100 ≤ m → ref05_printable (m + 1) d = some (perr N d)
  | 0, d, h, _, _, _, _, _ => by have := bulk_pos d; omega
  | N + 1, d, h, hN, hw, hsd, m, hm => by
    obtain ⟨m, rfl⟩ : ∃ q, m = q + 2 := ⟨m - 2, by omega⟩
    obtain ⟨p1, p2, p3, p4⟩ := wv_parts hw
    obtain ⟨hk, hs6, hs5⟩ := snd_kind hsd
    obtain ⟨n3, n4⟩ := snd_shp hsd
    have ih : ∀ e : Dt, WV e → e.bulk ≤ N → sndF wd N e = true → ref05_printable (m + 2) e = some (perr N e) := fun e hwe hbe hse => printable_eq N e hbe (by omega) hwe hse (m + 1) (by omega)
    obtain ⟨x, hsp, _⟩ := rspecial_eq m (Dt.L d 4) (fun f hf => by have := wv_size (p4 f hf).1; have := (p4 f hf).2; omega) (fun f hf => by have := wv_size (p4 f hf).1; have := (p4 f hf).2; omega)
    have h4 := fun hs => pd_loop (m + 2) (ref05_printable (m + 2)) (perr N) d (by omega) hs (m + 3) 0 (Nat.zero_le _) (by omega)
    have h3 := fun hs r hr => pl_loop (m + 2) (ref05_printable (m + 2)) (perr N) d (by omega) hs r hr (m + 3) 0 (Nat.zero_le _) (by omega)
    simp only [List.drop_zero] at h3 h4
    rw [ref05_printable]
    simp only [perr, ref05_printable_j0, ref05_printable_j1, hsp, Option.bind_some, ref05_printable_j2, ref05_printable_j3, ref05_printable_j4]
    by_cases k6 : Dt.I d 0 = 6
    · have e4 := n4 (by omega)
      have g4 := h4 (fun f hf => by rw [e4] at hf; cases hf)
      have g3 := h3 (fun e he => ih e (p3 e he).1 (by have := (p3 e he).2; omega) (hs6 k6 e he)) _ g4
      have g3' : ref05_printable_l5 (m + 2) (ref05_printable (m + 2)) (Nat.succ (m + 2)) 0 d = _ := g3
      rw [k6, g3', e4]
      show some (bif erF (perr N) (Dt.L d 3) == 0 then 0 else erF (perr N) (Dt.L d 3)) = some (erF (perr N) (Dt.L d 3))
      cases he : (erF (perr N) (Dt.L d 3) == 0)
      · rfl
      · rw [show erF (perr N) (Dt.L d 3) = 0 by simpa using he]; rfl
    have e3 := n3 k6
    by_cases k5 : Dt.I d 0 = 5
    · have g4 := h4 (fun f hf => ih _ (p4 f hf).1 (by have := (p4 f hf).2; omega) (hs5 k5 f hf))
      have g3 := h3 (fun e he => by rw [e3] at he; cases he) _ g4
      have g3' : ref05_printable_l5 (m + 2) (ref05_printable (m + 2)) (Nat.succ (m + 2)) 0 d = _ := g3
      rw [k5, g3', e3]
      show (bif spc (Dt.L d 4) then some 4 else some (erF (fun f => perr N (Dt.fld f 1)) (Dt.L d 4))) = some (bif spc (Dt.L d 4) then 4 else erF (fun f => perr N (Dt.fld f 1)) (Dt.L d 4))
      cases spc (Dt.L d 4) <;> rfl
    have e4 := n4 k5
    have g4 := h4 (fun f hf => by rw [e4] at hf; cases hf)
    have g3 := h3 (fun e he => by rw [e3] at he; cases he) _ g4
    have g3' : ref05_printable_l5 (m + 2) (ref05_printable (m + 2)) (Nat.succ (m + 2)) 0 d = _ := g3
    rw [g3', e3, e4]
    have b5 : (Dt.I d 0 == 5) = false := beq_eq_false_iff_ne.2 k5
    have b6 : (Dt.I d 0 == 6) = false := beq_eq_false_iff_ne.2 k6
    rw [b5, b6]
    cases (Dt.I d 0 == 7)
    · rfl
    · show (bif decide ((2048 : Int) < ((Dt.S d 2).size : Int)) then some 2 else some 0) = some (bif decide ((2048 : Int) < ((Dt.S d 2).size : Int)) then 2 else 0)
      cases decide ((2048 : Int) < ((Dt.S d 2).size : Int)) <;> rfl
end Go.Proofs.YtmejbpmceflcjaaGreatDoor
