/- slices.Insert at []api.Value as the machine sees it. -/
import Derived.Test.YtacpcknpliomoaaGreatOIny
set_option linter.unusedVariables false
set_option linter.unusedSimpArgs false
namespace Go.Proofs.YtacpcknpliomoaaGreat
open Go.RowKit Go.Am
def slices_Insert (i : Int) (s vs : List Dt) : Option (List Dt) := bif decide (0 ≤ i) && (decide (i ≤ (s.length : Int)) && (Nat.beq vs.length 1 && Nat.ble s.length 1000000)) then some (s.take i.toNat ++ vs ++ s.drop i.toNat) else none
set_option maxRecDepth 100000 in
theorem c3i : Tryz.prog.cellsOf 25 = 5 := by kernel_rfl
theorem Insert_fx {i : Int} {s vs r : List Dt} (h : slices_Insert i s vs = some r) : FX Tryz.prog 165 [.row 0, .dat 3 (.int i), .row 1] [.row 22 s, .row 22 vs] (.row 2) [.gone, .gone, .row 22 r] := by
  unfold slices_Insert at h
  obtain ⟨hc, h2⟩ := bif_some h
  cases h2
  have h0 := of_decide_eq_true (and_l hc)
  have h1 := of_decide_eq_true (and_l (and_r hc))
  have h2 := beq_eq (and_l (and_r (and_r hc)))
  have h3 := Nat.le_of_ble_eq_true (and_r (and_r (and_r hc)))
  obtain ⟨p, rfl⟩ : ∃ m : Nat, i = m := ⟨i.toNat, by omega⟩
  rw [Int.toNat_natCast]
  obtain ⟨d0, rfl⟩ : ∃ d, vs = [d] := by
    match vs, h2 with
    | [d], _ => exact ⟨d, rfl⟩
  intro ok w β zs hok hobs hsep hvs _
  obtain ⟨z0, rest, rfl, hz0, hvs⟩ : ∃ z0 rest, zs = z0 :: rest ∧ RV Tryz.prog ok w β (.row 0) z0 ∧ RVsX Tryz.prog ok w β [.dat 3 (.int p), .row 1] rest := by cases hvs with | cons h r => exact ⟨_, _, rfl, h, r⟩
  obtain ⟨zi, rest, rfl, hzi, hvs⟩ : ∃ z0 rest', rest = z0 :: rest' ∧ RV Tryz.prog ok w β (.dat 3 (.int p)) z0 ∧ RVsX Tryz.prog ok w β [.row 1] rest' := by cases hvs with | cons h r => exact ⟨_, _, rfl, h, r⟩
  obtain ⟨z1, rest, rfl, hz1, hvs⟩ : ∃ z0 rest', rest = z0 :: rest' ∧ RV Tryz.prog ok w β (.row 1) z0 ∧ RVsX Tryz.prog ok w β [] rest' := by cases hvs with | cons h r => exact ⟨_, _, rfl, h, r⟩
  cases hvs
  obtain ⟨_, rfl, _⟩ := RV.int Tryz.underlying3 hzi
  have hb0 : β 0 = some z0 := by
    have := hz0.2 rfl
    cases this with
    | row h _ => exact h
  have hb1 : β 1 = some z1 := by
    have := hz1.2 rfl
    cases this with
    | row h _ => exact h
  obtain ⟨E, z, xs, e0, hu, hown, hone, hrd⟩ := hobs 0
  obtain rfl : z0 = z := by rw [hb0] at e0; exact Option.some.inj e0
  obtain rfl : E = 25 := by
    have := hu.symm.trans (Tryz.underlying22)
    simpa using this
  obtain ⟨E, z, ys, e1, hu1, hown1, hone1, hrd1⟩ := hobs 1
  obtain rfl : z1 = z := by rw [hb1] at e1; exact Option.some.inj e1
  obtain rfl : E = 25 := by
    have := hu1.symm.trans (Tryz.underlying22)
    simpa using this
  rw [c3i] at hown hrd hown1 hrd1
  obtain ⟨hl1, hown1⟩ := hown1
  rcases hown1 with ⟨_, h0⟩ | ⟨vb, c1, cu, rfl, _, hh1, hn1, hm1, hcs1, htk1⟩
  · cases h0
  have hn1 : 1 ≤ c1 := hn1
  have hl1 : ys.length = 5 := hl1
  have hvx : cu.toList.take 5 = ys := htk1
  let hs0 : List Ob := [.row 22 s, .row 22 [d0]]
  have ow1 : owns hs0 β 1 vb := ⟨rfl, _, hb1, .inl rfl⟩
  have hne : Am.blk z0 ≠ some vb := fun e => by
    have ow0 : owns hs0 β 0 vb := ⟨rfl, _, hb0, .inl e⟩
    have := hsep 0 1 vb ow0 ow1
    cases this
  have hxl : xs.length = s.length * 5 := hown.1
  have walk := insK_walk z0 s.length p vb c1 cu xs ys w hown hone hone1 hl1 (by omega) h3 hh1 hvx hm1 hn1 hne
  refine walk.mono ?_
  rintro e w' ⟨v', rfl, hI⟩
  have hz0X : ∀ b, Am.blk z0 = some b → XO hs0 β b := fun b hb => ⟨0, rfl, _, hb0, .inl hb⟩
  have hnt : ∀ arr, v' ≠ .tuple arr := fun arr e => by
    rcases hI.own.2 with ⟨h, _⟩ | ⟨_, _, _, h, _⟩
    · rw [h] at e; cases e
    · rw [h] at e; cases e
  have hown' : ∀ l b, owns [Ob.gone, .gone, .row 22 (s.take p ++ [d0] ++ s.drop p)] (upB β 2 (some v')) l b → l = 2 ∧ Am.blk v' = some b := by
    rintro l b ⟨h1, z, h2, h3⟩
    match l, h1, h2 with
    | 0, h1, _ => cases h1
    | 1, h1, _ => cases h1
    | 2, _, h2 => rw [upB_same] at h2; cases h2; exact ⟨rfl, h3.of hnt⟩
    | l + 3, h1, _ => cases l <;> cases h1
  have hfree : ∀ l, 2 ≤ l → β l = none := fun l hl => by
    match l, hl with
    | l + 2, _ =>
      have h1 := hobs (l + 2)
      have e : lk hs0 (l + 2) = .free := by show lk [] l = _; cases l <;> rfl
      have h1 : ObOK Tryz.prog ok w β (lk hs0 (l + 2)) (β (l + 2)) := h1
      rw [e] at h1
      exact h1
  have hvlt : vb < w.heap.size := (Array.getElem?_eq_some_iff.1 hh1).1
  refine ⟨v', upB β 2 (some v'), rfl, ?_, ?_⟩
  · refine ⟨⟨hI.os, hI.tape, hI.output, hI.size, fun b hb hX => hI.block b hb fun e => hX (hz0X b e)⟩, fun l => ?_, fun l l' b h1 h2 => (hown' l b h1).1.trans (hown' l' b h2).1.symm, fun l b h1 => ?_, fun l hl => upB_other _ _ _ _ (by simp at hl; omega)⟩
    · have hk : ∀ b, ok b → okOf ⟨ok, XO hs0 β, β, 2⟩ w w' [Ob.gone, .gone, .row 22 (s.take p ++ [d0] ++ s.drop p)] (upB β 2 (some v')) b ∧ w'.heap[b]? = w.heap[b]? := fun b hb => by
        have hbw := (hok b hb).1
        have hnz : Am.blk z0 ≠ some b := fun e => (hok b hb).2 (hz0X b e)
        refine ⟨⟨Nat.lt_of_lt_of_le hbw hI.size, fun _ => .inl hb, fun l hl => ?_⟩, hI.block b hbw hnz⟩
        have h2 := (hown' l b hl).2
        rcases hI.bk with h | h
        · exact hnz (h ▸ h2)
        · rw [h] at h2; cases h2; omega
      match l with
      | 0 => trivial
      | 1 => trivial
      | 2 =>
        refine ⟨25, v', insK xs (p * 5) ys, upB_same _ _ _, Tryz.underlying22, ?_, ?_, ?_⟩
        · rw [c3i]
          have hl : (s.take p ++ [d0] ++ s.drop p).length = s.length + 1 := by simp; omega
          rw [hl]
          exact hI.own
        · intro c hc
          rcases List.mem_append.1 hc with h | h
          · exact hone c (List.mem_of_mem_take h)
          · rcases List.mem_append.1 h with h | h
            · exact hone1 c h
            · exact hone c (List.mem_of_mem_drop h)
        · rw [c3i]
          intro t d hd
          have hget : ∀ k : Nat, (insK xs (p * 5) ys)[k]? = if k < p * 5 then xs[k]? else if k < p * 5 + 5 then ys[k - p * 5]? else xs[k - 5]? := fun k => by
            rw [insK_get (by omega), hl1]
          have hls : (s.take p).length = p := by rw [List.length_take]; omega
          by_cases h1 : t < p
          · have e : ((insK xs (p * 5) ys).drop (t * 5)).take 5 = (xs.drop (t * 5)).take 5 := by
              apply List.ext_getElem?
              intro k
              rw [Am.seg_get, Am.seg_get]
              split
              · rw [hget, if_pos (by omega)]
              · rfl
            rw [e]
            rw [List.append_assoc, List.getElem?_append_left (by omega), List.getElem?_take, if_pos h1] at hd
            exact (hrd t d hd).mono hk
          · rw [List.append_assoc, List.getElem?_append_right (by omega), hls] at hd
            by_cases h2 : t = p
            · have e : ((insK xs (p * 5) ys).drop (t * 5)).take 5 = (ys.drop (0 * 5)).take 5 := by
                apply List.ext_getElem?
                intro k
                rw [Am.seg_get, Am.seg_get]
                split
                · rw [hget, if_neg (by omega), if_pos (by omega), show t * 5 + k - p * 5 = 0 * 5 + k by omega]
                · rfl
              rw [e]
              rw [h2, Nat.sub_self] at hd
              have hd : d0 = d := by simpa using hd
              exact (hrd1 0 d (by rw [← hd]; rfl)).mono hk
            · have e : ((insK xs (p * 5) ys).drop (t * 5)).take 5 = (xs.drop ((t - 1) * 5)).take 5 := by
                apply List.ext_getElem?
                intro k
                rw [Am.seg_get, Am.seg_get]
                split
                · rw [hget, if_neg (by omega), if_neg (by omega), show t * 5 + k - 5 = (t - 1) * 5 + k by omega]
                · rfl
              rw [e]
              obtain ⟨k, hk2⟩ : ∃ k, t - p = k + 1 := ⟨t - p - 1, by omega⟩
              rw [hk2] at hd
              have hd : (s.drop p)[k]? = some d := hd
              rw [List.getElem?_drop, show p + k = t - 1 by omega] at hd
              exact (hrd (t - 1) d hd).mono hk
      | l + 3 =>
        show ObOK Tryz.prog _ _ _ (lk [] l) (upB β 2 (some v') (l + 3))
        rw [upB_other _ _ _ _ (by omega), hfree (l + 3) (by omega)]
        cases l <;> exact rfl
    · have h2 := (hown' l b h1).2
      rcases hI.bk with h | h
      · exact .inr (hz0X b (h ▸ h2))
      · rw [h] at h2; cases h2; exact .inl (Nat.le_refl _)
  · refine row_rv (upB_same _ _ _) ?_
    rcases hI.own.2 with ⟨h, _⟩ | ⟨_, _, _, h, _⟩ <;> rw [h] <;> rfl
end Go.Proofs.YtacpcknpliomoaaGreat
