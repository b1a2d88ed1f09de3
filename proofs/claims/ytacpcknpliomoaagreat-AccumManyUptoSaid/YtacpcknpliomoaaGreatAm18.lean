/- The abstract machine, part 18: THE SOUNDNESS OF THE MACHINE. -/
import Derived.Test.YtacpcknpliomoaaGreatAmC
set_option linter.unusedVariables false
set_option linter.unusedSimpArgs false
namespace Go.Am
open Go.RowKit

section
variable {P : Program} {n : Nat} {σ τ : St} {R : Type} {E : Env} {call : FuncId → List AV → List Ob → (Res → Option R) → Option R} {r : R} {K : OkX} {w0 w : World} {a : Act} {β : Nat → Option Value}

theorem owns_frz1 {hs : List Ob} {l k b : Nat} (h : owns (frz1 hs l) β k b) : owns hs β k b := by
  unfold frz1 at h
  split at h
  · rename_i T es hl
    obtain ⟨h1, z, h2, h3⟩ := h
    by_cases hkl : k = l
    · subst hkl; rw [lk_same] at h1; cases h1
    · rw [lk_other _ _ _ _ hkl] at h1; exact ⟨h1, z, h2, h3⟩
  · exact h
theorem owns_frzN : ∀ {ls : List Nat} {hs : List Ob} {k b : Nat}, owns (frzN hs ls) β k b → owns hs β k b
  | [], _, _, _, h => h
  | l :: r, hs, k, b, h => owns_frz1 (owns_frzN (ls := r) h)
theorem RelB.frzN : ∀ {ls : List Nat} {σ : St}, RelB P K w0 n σ a w β → RelB P K w0 n ⟨σ.ts, frzN σ.hs ls, σ.k0⟩ a w β
  | [], _, r => r
  | l :: ls, σ, r => by
    have : RelB P K w0 n ⟨σ.ts, frz1 σ.hs l, σ.k0⟩ a w β := by
      unfold frz1
      split
      · rename_i T es hl; exact r.frz hl
      · exact r
    exact RelB.frzN (ls := ls) this
theorem tk_map {f : AV → AV} (hf : f .dead = .dead) : ∀ (ts : List AV) (k : Nat), tk (ts.map f) k = f (tk ts k)
  | [], k => by simp [tk, hf]
  | v :: r, 0 => rfl
  | v :: r, k + 1 => by simp [tk, tk_map hf r k]
theorem pkC_dead {hs : List Ob} : pkC P hs .dead = .dead := rfl
theorem RV.pkC {ok : Nat → Prop} {w : World} {β : Nat → Option Value} {hs : List Ob} {v : AV} {z : Value} (hf : FrzOK P ok w β hs) (hfa : ∀ l T es, lk hs l = .frz T es → aggT P T = false) (h : RV P ok w β v z) : RV P ok w β (pkC P hs v) z := by
  unfold Am.pkC
  split
  · rename_i T d hp; exact (h.pk hf hfa hp).can
  · exact h
theorem lk_packOb {q : TypeId → Bool} {hs : List Ob} : ∀ {os : List Ob} {k l : Nat}, lk (packOb P q hs k os) l = lk os l ∨ ∃ T c d, lk os l = .box T c ∧ pk P hs c = some (T, d) ∧ lk (packOb P q hs k os) l = .box T (.dat T (canD P T d))
  | [], k, l => by cases k <;> exact .inl rfl
  | o :: os, k + 1, 0 => .inl (by cases o <;> rfl)
  | o :: os, k + 1, l + 1 => by
    have := lk_packOb (q := q) (hs := hs) (os := os) (k := k) (l := l)
    cases o <;> simpa [packOb, lk] using this
  | o :: os, 0, l + 1 => by
    have := lk_packOb (q := q) (hs := hs) (os := os) (k := 0) (l := l)
    cases o <;> simpa [packOb, lk] using this
  | o :: os, 0, 0 => by
    cases o with
    | box T c =>
      simp only [packOb, lk]
      cases hq : q T with
      | true => exact .inl rfl
      | false =>
      rw [cond_false]
      split
      · rename_i T' d hp
        cases hb : Nat.beq T' T with
        | true =>
          have e := beq_eq hb
          subst e
          exact .inr ⟨T', c, d, rfl, hp, rfl⟩
        | false => exact .inl rfl
      · exact .inl rfl
    | row T es => exact .inl rfl
    | rowA T vs => exact .inl rfl
    | frz T es => exact .inl rfl
    | map T es => exact .inl rfl
    | rowD => exact .inl rfl
    | tok => exact .inl rfl
    | gone => exact .inl rfl
    | free => exact .inl rfl
theorem RelB.packAll {q : TypeId → Bool} (r : RelB P K w0 n σ a w β) (k : Nat) : RelB P K w0 n ⟨σ.ts.map (pkC P σ.hs), packOb P q σ.hs k σ.hs, σ.k0⟩ a w β := by
  have hown : ∀ l b, owns (packOb P q σ.hs k σ.hs) β l b → owns σ.hs β l b := by
    rintro l b ⟨h1, z, h2, h3⟩
    rcases lk_packOb (P := P) (q := q) (hs := σ.hs) (os := σ.hs) (k := k) (l := l) with e | ⟨T, c, d, e1, _, e3⟩
    · rw [e] at h1; exact ⟨h1, z, h2, h3⟩
    · exact ⟨by rw [e1]; rfl, z, h2, h3⟩
  have hk : ∀ b, okOf K w0 w σ.hs β b → okOf K w0 w (packOb P q σ.hs k σ.hs) β b ∧ w.heap[b]? = w.heap[b]? := fun b hb => ⟨⟨hb.1, hb.2.1, fun l hl => hb.2.2 l (hown l b hl)⟩, rfl⟩
  refine ⟨r.size, r.defers, r.below, fun t => ?_, fun l => ?_, fun l l' b h1 h2 => r.sep l l' b (hown _ _ h1) (hown _ _ h2), fun l b h1 => r.own l b (hown _ _ h1), r.ext, r.kk, r.tab.mono hk⟩
  · show RV P _ w β (tk (σ.ts.map (pkC P σ.hs)) t) _
    rw [tk_map pkC_dead]
    exact ((r.ts t).pkC r.frzOK r.frzAgg).mono hk (Ext.refl _)
  · show ObOK P _ w β (lk (packOb P q σ.hs k σ.hs) l) _
    rcases lk_packOb (P := P) (q := q) (hs := σ.hs) (os := σ.hs) (k := k) (l := l) with e | ⟨T, c, d, e1, e2, e3⟩
    · rw [e]; exact (r.hs l).mono hk (fun _ _ _ _ _ => rfl) (Ext.refl _)
    · rw [e3]
      have hob := r.hs l
      rw [e1] at hob
      obtain ⟨b, cs, q1, q2, q3, q4⟩ := hob
      have hrd := pk_sound r.frzOK q4 e2
      exact ⟨b, cs, q1, q2, q3, .dat (by rw [canD_eq hrd]; exact hrd.mono hk)⟩
theorem upto_get : ∀ {m k i : Nat}, i < m → (upto k m)[i]? = some (k + i)
  | 0, k, i, h => by omega
  | m + 1, k, 0, h => rfl
  | m + 1, k, i + 1, h => by
    simp only [upto, List.getElem?_cons_succ]
    rw [upto_get (by omega)]
    congr 1
    omega
theorem upto_len : ∀ {m k : Nat}, (upto k m).length = m
  | 0, _ => rfl
  | m + 1, k => by simp [upto, upto_len]
theorem srcOf_get {hs : List Ob} {k0 : Nat} {vs : List AV} {i : Nat} (h : i < k0) : (srcOf hs k0 vs)[i]? = some i := by
  unfold srcOf
  rw [List.getElem?_append_left (by rw [upto_len]; exact h), upto_get h, Nat.zero_add]
theorem Imp.relab : Imp P n σ (relab σ) := by
  rintro K w0 a w ⟨β, r⟩
  unfold Am.relab
  simp only
  cases hb : nodupB (srcOf σ.hs σ.k0 σ.ts) with
  | false => exact ⟨β, r⟩
  | true => exact ⟨_, r.relabel _ (nodupB_nodup hb) (fun i hi => srcOf_get hi) _ fun k => .inr (tk_renL _ _ _)⟩
theorem Imp.nilAll : ∀ (ls : List Nat) (σ : St), Imp P n σ (nilAll P σ ls)
  | [], _ => Imp.refl
  | s :: ls, σ => by
    unfold Am.nilAll
    refine Imp.trans ?_ (Imp.nilAll ls _)
    split
    · exact Imp.nilBox _
    · exact Imp.nilSlot _
theorem lk_map {f : Ob → Ob} (hf : f .free = .free) : ∀ (hs : List Ob) (k : Nat), lk (hs.map f) k = f (lk hs k)
  | [], k => by simp [lk, hf]
  | v :: r, 0 => rfl
  | v :: r, k + 1 => by simp [lk, lk_map hf r k]
theorem mvO_own (l nm : Nat) (o : Ob) : (mvO l nm o).isOwn = o.isOwn := by cases o <;> rfl
theorem RA.mv {ok : Nat → Prop} {w : World} {β : Nat → Option Value} {l nm : Nat} {z : Value} {c : AV} {cs : List Value} (h1 : β l = some z) (h2 : β nm = some z) (h : RA P ok w β c cs) : RA P ok w β (mvV l nm c) cs := by
  unfold mvV
  split
  · rename_i k
    cases hb : Nat.beq k l with
    | false => exact h
    | true =>
      have e := beq_eq hb
      subst e
      cases h with
      | row h3 h4 =>
        rw [h1] at h3
        cases h3
        exact .row h2 h4
  · exact h
theorem RV.mv {ok : Nat → Prop} {w : World} {β : Nat → Option Value} {l nm : Nat} {z : Value} {c : AV} {x : Value} (h1 : β l = some z) (h2 : β nm = some z) (h : RV P ok w β c x) : RV P ok w β (mvV l nm c) x := by
  have e : ∀ k, c = .row k → RV P ok w β (mvV l nm (.row k)) x := fun k hk => by
    subst hk
    have h' := RA.mv h1 h2 (h.2 rfl)
    cases hb : Nat.beq k l with
    | false => simp only [mvV, hb, cond_false]; exact h
    | true =>
      simp only [mvV, hb, cond_true] at h' ⊢
      exact ⟨fun hi => by simp [AV.isAgg] at hi, fun _ => h'⟩
  cases c with
  | row k => exact e k rfl
  | _ => exact h
theorem RelB.mvAll (r : RelB P K w0 n σ a w β) {l nm : Nat} {z : Value} (h1 : β l = some z) (h2 : β nm = some z) : RelB P K w0 n ⟨σ.ts.map (mvV l nm), σ.hs.map (mvO l nm), σ.k0⟩ a w β := by
  have hlk : ∀ k, lk (σ.hs.map (mvO l nm)) k = mvO l nm (lk σ.hs k) := fun k => lk_map rfl _ _
  have hown : ∀ k b, owns (σ.hs.map (mvO l nm)) β k b ↔ owns σ.hs β k b := fun k b => by simp only [owns, hlk, mvO_own]
  have hk : ∀ b, okOf K w0 w σ.hs β b → okOf K w0 w (σ.hs.map (mvO l nm)) β b ∧ w.heap[b]? = w.heap[b]? := fun b hb => ⟨⟨hb.1, hb.2.1, fun k hk => hb.2.2 k ((hown k b).1 hk)⟩, rfl⟩
  refine ⟨r.size, r.defers, r.below, fun k => ?_, fun k => ?_, fun k k' b q1 q2 => r.sep k k' b ((hown _ _).1 q1) ((hown _ _).1 q2), fun k b q1 => r.own k b ((hown _ _).1 q1), r.ext, r.kk, r.tab.mono hk⟩
  · show RV P _ w β (tk (σ.ts.map (mvV l nm)) k) _
    rw [tk_map rfl]
    exact RV.mv h1 h2 ((r.ts k).mono hk (Ext.refl _))
  · show ObOK P _ w β (lk (σ.hs.map (mvO l nm)) k) _
    rw [hlk]
    have h3 := (r.hs k).mono hk (fun _ _ _ _ _ => rfl) (Ext.refl _)
    cases ho : lk σ.hs k with
    | box T c =>
      rw [ho] at h3
      obtain ⟨b, cs, q1, q2, q3, q4⟩ := h3
      exact ⟨b, cs, q1, q2, q3, RA.mv h1 h2 q4⟩
    | row T es => rw [ho] at h3; exact h3
    | rowA T vs => rw [ho] at h3; exact h3
    | frz T es => rw [ho] at h3; exact h3
    | map T es => rw [ho] at h3; exact h3
    | rowD => rw [ho] at h3; exact h3
    | tok => rw [ho] at h3; exact h3
    | gone => trivial
    | free => rw [ho] at h3; exact h3
theorem Imp.mvAt (l : Nat) : Imp P n σ (mvAt σ l) := by
  rintro K w0 a w ⟨β, r⟩
  unfold Am.mvAt
  cases hb : (Nat.blt l σ.k0 && Nat.ble σ.k0 σ.hs.length) with
  | false => exact ⟨β, r⟩
  | true =>
    simp only [cond_true]
    split
    · rename_i T es hl
      have hk0 : σ.k0 ≤ σ.hs.length := Nat.le_of_ble_eq_true (and_r hb)
      have hob := r.hs l
      rw [hl] at hob
      have hob0 := hob
      obtain ⟨E, z, xs, hz, _⟩ := hob0
      rw [hz] at hob
      have r2 := r.take l σ.hs.length (.row T es) z w (by rw [hl]; simp) (lk_end _ _ (Nat.le_refl _)) hk0 rfl rfl rfl (Nat.le_refl _) (fun _ _ _ => rfl) (fun b hb' => .inr ⟨by rw [hl]; rfl, z, hz, hb'⟩) (fun hext hk => hob.mono hk (fun _ _ _ _ _ => rfl) hext)
      have hne : l ≠ σ.hs.length := by
        have h5 : l < σ.k0 := Nat.le_of_ble_eq_true (and_l hb)
        omega
      exact ⟨_, r2.mvAll (l := l) (nm := σ.hs.length) (z := z) (by rw [upB_other _ _ _ _ hne]; exact hz) (upB_same _ _ _)⟩
    · exact ⟨β, r⟩
theorem Imp.mvSlot (t : Nat) : Imp P n σ (mvSlot σ t) := by
  unfold Am.mvSlot
  split
  · exact Imp.mvAt _
  · split
    · exact Imp.mvAt _
    · exact Imp.refl
  · exact Imp.refl
theorem RelB.renAll (r : RelB P K w0 n σ a w β) {ρ : Nat → Option Nat} (hr : RenOK ρ β β) : RelB P K w0 n ⟨AV.renL ρ σ.ts, σ.hs.map (Ob.ren ρ), σ.k0⟩ a w β := by
  have hlk : ∀ k, lk (σ.hs.map (Ob.ren ρ)) k = (lk σ.hs k).ren ρ := fun k => lk_map rfl _ _
  have hown : ∀ k b, owns (σ.hs.map (Ob.ren ρ)) β k b → owns σ.hs β k b := fun k b h => by
    obtain ⟨h1, h2⟩ := h
    rw [hlk] at h1
    exact ⟨Ob.ren_own h1, h2⟩
  have hk : ∀ b, okOf K w0 w σ.hs β b → okOf K w0 w (σ.hs.map (Ob.ren ρ)) β b ∧ w.heap[b]? = w.heap[b]? := fun b hb => ⟨⟨hb.1, hb.2.1, fun k hk => hb.2.2 k (hown k b hk)⟩, rfl⟩
  refine ⟨r.size, r.defers, r.below, fun k => ?_, fun k => ?_, fun k k' b q1 q2 => r.sep k k' b (hown _ _ q1) (hown _ _ q2), fun k b q1 => r.own k b (hown _ _ q1), r.ext, r.kk, r.tab.mono hk⟩
  · show RV P _ w β (tk (AV.renL ρ σ.ts) k) _
    rw [tk_renL]
    exact ((r.ts k).mono hk (Ext.refl _)).ren hr
  · show ObOK P _ w β (lk (σ.hs.map (Ob.ren ρ)) k) _
    rw [hlk]
    exact ((r.hs k).mono hk (fun _ _ _ _ _ => rfl) (Ext.refl _)).ren hr
theorem Imp.mvAtR (l : Nat) : Imp P n σ (mvAtR σ l) := by
  rintro K w0 a w ⟨β, r⟩
  unfold Am.mvAtR
  cases hb : (Nat.blt l σ.k0 && (Nat.ble σ.k0 σ.hs.length && mvOb (lk σ.hs l))) with
  | false => exact ⟨β, r⟩
  | true =>
    simp only [cond_true]
    have hk0 : σ.k0 ≤ σ.hs.length := Nat.le_of_ble_eq_true (and_l (and_r hb))
    have hm := and_r (and_r hb)
    have hob := r.hs l
    obtain ⟨z, hz, hown, hfr⟩ : ∃ z, β l = some z ∧ (lk σ.hs l).isOwn = true ∧ lk σ.hs l ≠ .free := by
      cases ho : lk σ.hs l with
      | row T es => rw [ho] at hob; obtain ⟨_, z, _, e, _⟩ := hob; exact ⟨z, e, rfl, nofun⟩
      | rowD T T2 c k es h => rw [ho] at hob; obtain ⟨_, _, _, z, _, _, e, _⟩ := hob; exact ⟨z, e, rfl, nofun⟩
      | tok T ls => rw [ho] at hob; obtain ⟨_, arr, e, _⟩ := hob; exact ⟨_, e, rfl, nofun⟩
      | _ => rw [ho] at hm; cases hm
    rw [hz] at hob
    have r2 := r.take l σ.hs.length (lk σ.hs l) z w hfr (lk_end _ _ (Nat.le_refl _)) hk0 rfl rfl rfl (Nat.le_refl _) (fun _ _ _ => rfl) (fun b hb' => .inr ⟨hown, z, hz, hb'⟩) (fun hext hk => hob.mono hk (fun _ _ _ _ _ => rfl) hext)
    have hne : l ≠ σ.hs.length := by
      have h5 : l < σ.k0 := Nat.le_of_ble_eq_true (and_l hb)
      omega
    refine ⟨_, r2.renAll (ρ := mvρ l σ.hs.length) fun k k' z' h1 h2 => ?_⟩
    unfold mvρ at h1
    cases hbe : Nat.beq k l with
    | true =>
      rw [hbe] at h1
      cases h1
      have e := beq_eq hbe
      subst e
      rw [upB_other _ _ _ _ hne, hz] at h2
      cases h2
      exact upB_same _ _ _
    | false =>
      rw [hbe] at h1
      cases h1
      exact h2
theorem Imp.mvRL : ∀ (ls : List Nat) (σ : St), Imp P n σ (mvRL σ ls)
  | [], _ => Imp.refl
  | l :: ls, σ => (Imp.mvAtR l).trans (Imp.mvRL ls _)
theorem Imp.mvBoxR (s : Nat) : Imp P n σ (mvBoxR σ s) := by
  unfold Am.mvBoxR
  split
  · split
    · exact Imp.mvRL _ _
    · exact Imp.refl
  · exact Imp.refl
theorem Imp.mvL : ∀ (ts : List Nat) (σ : St), Imp P n σ (mvL σ ts)
  | [], _ => Imp.refl
  | t :: ts, σ => by
    refine Imp.trans ?_ (Imp.mvL ts _)
    cases (Nat.ble 4000000 t && Nat.blt t 100000000)
    · exact Imp.mvSlot t
    · exact Imp.mvBoxR _
theorem Imp.unfAt (l : Nat) : Imp P n σ (unfAt σ l) := by
  unfold Am.unfAt
  split
  · rename_i T5 T2 c k es i m hl
    split
    · rename_i T3 ls T4 ds hk hm
      cases hb : (Nat.beq T3 T2 && (Nat.beq T4 T2 && Nat.ble σ.k0 σ.hs.length)) with
      | false => exact Imp.refl
      | true =>
        have e1 := beq_eq (and_l hb)
        have e2 := beq_eq (and_l (and_r hb))
        subst e1 e2
        rintro K w0 a w ⟨β, r⟩
        exact r.unfocus hl hk hm (lk_end _ _ (Nat.le_refl _)) (Nat.le_of_ble_eq_true (and_r (and_r hb)))
    · exact Imp.refl
  · exact Imp.refl
theorem Imp.unfL : ∀ (ls : List Nat) (σ : St), Imp P n σ (unfL σ ls)
  | [], _ => Imp.refl
  | l :: ls, σ => (Imp.unfAt l).trans (Imp.unfL ls _)
theorem Imp.frzDAt (l : Nat) : Imp P n σ (frzDAt σ l) := by
  unfold Am.frzDAt
  split
  · rename_i T5 T2 c k es hl
    split
    · rename_i T3 ls hk
      cases hb : Nat.beq T3 T2 with
      | false => exact Imp.refl
      | true =>
        have e1 := beq_eq hb
        subst e1
        exact Imp.freezeD hl hk
    · exact Imp.refl
  · exact Imp.refl
theorem Imp.toDAt (c : Option Nat) (l : Nat) : Imp P n σ (toDAt P c σ l) := by
  unfold Am.toDAt
  split
  · rename_i T5 hl
    split
    · rename_i Te h1
      split
      · rename_i T2 fo hf
        split
        · rename_i E2 h2
          cases hb : Nat.ble σ.k0 σ.hs.length with
          | false => exact Imp.refl
          | true =>
            rintro K w0 a w ⟨β, r⟩
            exact r.toD hl (slE_some h1) (holeF_at hf) (slE_some h2) (lk_end _ _ (Nat.le_refl _)) (Nat.le_of_ble_eq_true hb)
        · exact Imp.refl
      · exact Imp.refl
    · exact Imp.refl
  · exact Imp.refl
theorem Imp.deepC (cc l : Nat) : Imp P n σ (deepC P σ cc l) := by
  unfold Am.deepC
  cases Nat.beq cc 99
  · exact Imp.toDAt _ _
  · exact Imp.frzDAt _
theorem Imp.deep1 (s cc : Nat) : Imp P n σ (deep1 P σ s cc) := by
  unfold Am.deep1
  split
  · exact Imp.deepC _ _
  · split
    · exact Imp.deepC _ _
    · exact Imp.refl
  · exact Imp.refl
theorem Imp.deep2 (f s cc : Nat) : Imp P n σ (deep2 P σ f s cc) := by
  unfold Am.deep2
  split
  · split
    · split
      · exact Imp.deepC _ _
      · exact Imp.refl
    · exact Imp.refl
  · exact Imp.refl
theorem Imp.deepL : ∀ (ts : List Nat) (σ : St), Imp P n σ (deepL P σ ts)
  | [], _ => Imp.refl
  | t :: ts, σ => by
    refine Imp.trans ?_ (Imp.deepL ts _)
    cases Nat.ble 100000000 t
    · cases Nat.ble 2000000 t
      · exact Imp.refl
      · exact Imp.deep1 _ _
    · exact Imp.deep2 _ _ _
theorem Imp.norm (f : FuncId) (key : Nat) : Imp P n σ (normAt P E f key σ) := by
  unfold normAt
  split
  · exact Imp.refl
  · rename_i kp fz rw _
    simp only
    refine Imp.trans (Rel.congr (τ := ⟨keepT kp (topL kp) σ.ts 0, σ.hs, σ.k0⟩) (fun k => tk_keep kp (topL kp) σ.ts 0 k) (fun _ => rfl) rfl) ?_
    refine Imp.trans (Imp.frzN (fzNames ⟨keepT kp (topL kp) σ.ts 0, σ.hs, σ.k0⟩ fz) ⟨keepT kp (topL kp) σ.ts 0, σ.hs, σ.k0⟩) ?_
    refine Imp.trans (Imp.gonN (drpNames ⟨keepT kp (topL kp) σ.ts 0, σ.hs, σ.k0⟩ fz) ⟨keepT kp (topL kp) σ.ts 0, Am.frzN σ.hs (fzNames ⟨keepT kp (topL kp) σ.ts 0, σ.hs, σ.k0⟩ fz), σ.k0⟩) ?_
    refine Imp.trans (Imp.unfL (upto 0 (St.mk (keepT kp (topL kp) σ.ts 0) (Am.gonN (Am.frzN σ.hs (fzNames ⟨keepT kp (topL kp) σ.ts 0, σ.hs, σ.k0⟩ fz)) (drpNames ⟨keepT kp (topL kp) σ.ts 0, σ.hs, σ.k0⟩ fz)) σ.k0).hs.length) _) ?_
    refine Imp.trans (Imp.nilAll rw _) ?_
    refine Imp.trans (Imp.mvL rw _) ?_
    refine Imp.trans (Imp.deepL rw _) ?_
    refine Imp.trans ?_ Imp.relab
    rintro K w0 a w ⟨β, r⟩
    exact ⟨β, r.packAll _⟩

def Post (P : Program) (n : Nat) (k : Exit → St → Option R) (r : R) : Exit → St → Prop := fun e τ => ∃ τ0, Imp P n τ τ0 ∧ k e τ0 = some r

def JOK (J : Nat → Nat → Nat → St → Option R → Option R) : Prop := ∀ a b c s x r, J a b c s x = some r → x = some r
theorem jn_ok : JOK (R := R) jn := fun _ _ _ _ _ _ h => h
theorem loop_sound {J : Nat → Nat → Nat → St → Option R → Option R} (hJ : JOK J) {c : Code} {key : Nat} {head : St → St} {body : St → (Exit → St → Option R) → Option R} (hh : ∀ σ, Imp P n σ (head σ)) (hb : ∀ σ k, body σ k = some r → CW P n c σ (Post P n k r)) : ∀ {m : Nat} {σ : St} {k : Exit → St → Option R}, loopR J key head body m σ k = some r → CR P n c m σ (Post P n k r)
  | 0, _, _, h => by simp [loopR] at h
  | m + 1, σ, k, h => by
    unfold loopR at h
    refine CR.step ((hb _ _ h).mono ?_)
    rintro e τ ⟨τ0, hi, hk⟩
    cases e with
    | normal => exact (loop_sound hJ hh hb (hJ _ _ _ _ _ _ hk)).imp (hi.trans (hh _))
    | exit id => exact ⟨τ0, hi, hk⟩
    | goto l => exact ⟨τ0, hi, hk⟩
    | ret => exact ⟨τ0, hi, hk⟩
    | panic ch => exact ⟨τ0, hi, hk⟩
    | outgrown => exact ⟨τ0, hi, hk⟩

theorem focK_some {fc : Option (Nat × Nat × Nat)} {k : St → Option R} (h : focK fc σ k = some r) : ∃ τ, Imp P n σ τ ∧ k τ = some r := by
  unfold focK at h
  split at h
  · exact ⟨σ, Imp.refl, h⟩
  · split at h
    · rename_i l i _ _
      split at h
      · rename_i T5 T2 c kk es hl
        split at h
        · rename_i T4 ls hk
          obtain ⟨hc, h⟩ := bif_some h
          have e := beq_eq hc
          subst e
          obtain ⟨hk0, h⟩ := new_some h
          obtain ⟨e, he, h⟩ := Option.bind_eq_some_iff.1 h
          obtain ⟨hd, h⟩ := bif_some h
          obtain ⟨e2, he2, h⟩ := Option.bind_eq_some_iff.1 h
          refine ⟨_, fun K w0 a w ⟨β, r'⟩ => ?_, h⟩
          obtain ⟨β', r2, _⟩ := r'.focus (p := σ.hs.length) (q := σ.hs.length + 1) hl hk he hd (r'.tok_lst hk he2) (free_end σ) (lk_end _ _ (by omega)) (by omega) hk0 (by omega)
          exact ⟨β', r2⟩
        · cases h
      · cases h
    · cases h
theorem ev0_sound {J : Nat → Nat → Nat → St → Option R → Option R} (hJ : JOK J) (hcall : CallOK P call) (hmix : P.follows .mixedOrders = true) (m : Nat) (f : FuncId) : ∀ (c : Code) (σ : St) (k : Exit → St → Option R), ev0 P E call J m f n c σ k = some r → CW P n c σ (Post P n k r) := by
  intro c
  induction c with
  | skip => intro σ k h; exact CW.skip ⟨σ, Imp.refl, by simpa [ev0] using h⟩
  | region id ops draw =>
    intro σ k h
    have ea : ops = ops.toList.toArray := by simp
    cases draw with
    | false =>
      simp only [ev0] at h
      obtain ⟨ds, τ, ht, hk⟩ := evOps_tr hcall h
      rw [ea]
      exact CW.region ht.lw fun s e => by rw [e]; exact ⟨τ, Imp.refl, hk⟩
    | true =>
      simp only [ev0] at h
      obtain ⟨σ2, hi2, h⟩ := focK_some (P := P) (n := n) h
      refine CW.imp hi2 ?_
      obtain ⟨ds, τ, ht, hk⟩ := evOps_tr hcall h
      obtain ⟨hc, hk⟩ := bif_some hk
      rw [ea]
      refine draw_sound hmix ht (and_l hc) (by simpa using and_r hc) fun τ' he => ⟨τ, ?_, hk⟩
      exact StEq.imp ⟨fun t => (he.ts t).symm, fun l => (he.hs l).symm, he.k0.symm⟩
  | seq c1 c2 ih1 ih2 =>
    intro σ k h
    simp only [ev0] at h
    refine CW.seq ((ih1 σ _ h).mono ?_)
    rintro e τ ⟨τ0, hi, hk⟩
    cases e with
    | normal =>
      have hk' : nextK P E J f (firstId c2) τ0 (fun s => ev0 P E call J m f n c2 s k) = some r := hk
      unfold nextK at hk'
      split at hk'
      · exact (ih2 _ _ hk').imp hi
      · exact (ih2 _ _ (hJ _ _ _ _ _ _ hk')).imp (hi.trans (Imp.norm _ _))
    | exit id => exact ⟨τ0, hi, hk⟩
    | goto l => exact ⟨τ0, hi, hk⟩
    | ret => exact ⟨τ0, hi, hk⟩
    | panic ch => exact ⟨τ0, hi, hk⟩
    | outgrown => exact ⟨τ0, hi, hk⟩
  | cond x c1 c2 ih1 ih2 =>
    intro σ k h
    simp only [ev0] at h
    split at h
    · rename_i t ht
      obtain ⟨T, d, e1, hu, rfl⟩ := bval_some ht
      have hev := opd_ev (P := P) (σ := σ) (x := x) (T := 0) (D := E.dt)
      rw [e1] at hev
      rcases bset_some h with ⟨hb, h1⟩ | ⟨hb, h1⟩
      · exact CW.condT hu (hev.cbool hu) hb (ih1 σ k h1)
      · exact CW.condF hu (hev.cbool hu) hb (ih2 σ k h1)
    · cases h
  | block id c ih =>
    intro σ k h
    simp only [ev0] at h
    refine CW.block ((ih σ _ h).mono ?_)
    rintro e τ ⟨τ0, hi, hk⟩
    cases e with
    | exit id' =>
      simp only [BlkP]
      replace hk : (bif Nat.beq id' id then k .normal τ0 else k (.exit id') τ0) = some r := hk
      cases hb : Nat.beq id' id with
      | true => rw [hb] at hk; exact ⟨τ0, hi, hk⟩
      | false => rw [hb] at hk; exact ⟨τ0, hi, hk⟩
    | normal => exact ⟨τ0, hi, hk⟩
    | goto l => exact ⟨τ0, hi, hk⟩
    | ret => exact ⟨τ0, hi, hk⟩
    | panic ch => exact ⟨τ0, hi, hk⟩
    | outgrown => exact ⟨τ0, hi, hk⟩
  | loop c ih =>
    intro σ k h
    simp only [ev0] at h
    exact CW.loop ((loop_sound hJ (fun σ => Imp.norm f (firstId c)) (fun σ k h => ih σ k h) (hJ _ _ _ _ _ _ h)).imp (Imp.norm f (firstId c)))
  | rangeFunc => intro σ k h; simp [ev0] at h
  | exit id => intro σ k h; exact CW.exit ⟨σ, Imp.refl, by simpa [ev0] using h⟩
  | scope c ih =>
    intro σ k h
    simp only [ev0] at h
    have h1 := ih σ _ h
    have h2 : CW P n c σ (fun e τ => (∀ l, e ≠ .goto l) ∧ Post P n k r e τ) := h1.mono (by
      rintro e τ ⟨τ0, hi, hk⟩
      cases e with
      | goto l => cases hk
      | normal => exact ⟨(fun l e => by cases e), τ0, hi, hk⟩
      | exit id => exact ⟨(fun l e => by cases e), τ0, hi, hk⟩
      | ret => exact ⟨(fun l e => by cases e), τ0, hi, hk⟩
      | panic ch => exact ⟨(fun l e => by cases e), τ0, hi, hk⟩
      | outgrown => exact ⟨(fun l e => by cases e), τ0, hi, hk⟩)
    exact (CW.scope h2 fun l τ hc => hc.1 l rfl).mono fun e τ hc => hc.2
  | label l => intro σ k h; exact CW.label ⟨σ, Imp.refl, by simpa [ev0] using h⟩
  | goto l => intro σ k h; simp [ev0] at h
  | ret => intro σ k h; exact CW.ret ⟨σ, Imp.refl, by simpa [ev0] using h⟩
  | refuse w => intro σ k h; simp [ev0] at h

theorem ch_some {c1 c2 : Code} {q : Oper × Oper × Oper × Oper} (h : chOf c1 c2 = some q) : (∃ id, c1 = .region id #[q.1, q.2.1, q.2.2.1, q.2.2.2] true) ∧ chkD q.1 q.2.1 q.2.2.1 q.2.2.2 = true ∧ q.1.guard = none ∧ q.2.1.guard = none ∧ q.2.2.1.guard = none ∧ q.2.2.2.guard = none := by
  have hg : ∀ o : Oper, noG o = true → o.guard = none := fun o h => by
    unfold noG at h
    split at h
    · assumption
    · cases h
  unfold chOf at h
  split at h
  · rename_i id ops _ _ _
    split at h
    · rename_i o0 o1 o2 o3
      obtain ⟨hb, h⟩ := bif_some h
      cases h
      simp only [Bool.and_eq_true] at hb
      obtain ⟨_, _, _, h4, h5, h6, h7, h8⟩ := hb
      exact ⟨⟨id, rfl⟩, h4, hg _ h5, hg _ h6, hg _ h7, hg _ h8⟩
    · cases h
  · cases h
theorem avsL_eq {a b : St} (h : stEqB a b = true) : a = b := by
  have hob : ∀ {x y : List Ob}, obsEq x y = true → x = y := by
    intro x
    induction x with
    | nil => intro y h; cases y with | nil => rfl | cons => cases h
    | cons o r ih =>
      intro y h
      cases y with
      | nil => cases h
      | cons p s =>
        rw [obsEq, Bool.and_eq_true, Bool.or_eq_true] at h
        rw [ih h.2]
        rcases h.1 with h1 | h1
        · rw [obEq_ok h1]
        · cases o <;> cases p <;> first | rfl | (unfold frEq at h1; cases h1)
  unfold stEqB at h
  simp only [Bool.and_eq_true] at h
  obtain ⟨h1, h2, h3⟩ := h
  obtain ⟨ts, hs, k0⟩ := a
  obtain ⟨ts', hs', k0'⟩ := b
  have e1 : ts = ts' := avsEq_ok h1
  have e2 : hs = hs' := hob h2
  have e3 : k0 = k0' := Nat.eq_of_beq_eq_true h3
  rw [e1, e2, e3]
theorem inn_sound (hmix : P.follows .mixedOrders = true) {m : Nat} {f : FuncId} {c : Code} {e : Exit} {s : St} (h : inn P E m f n c σ = some (e, s)) : CW P n c σ fun e' τ => e' = e ∧ Imp P n τ s := by
  have hJ : JOK (R := Exit × St) fun _ _ _ _ x => x := fun _ _ _ _ _ _ h => h
  have hcall : CallOK (R := Exit × St) P fun _ _ _ _ => none := by
    intro f args objs K r h
    cases h
  refine (ev0_sound hJ hcall hmix m f c σ _ h).mono ?_
  rintro e' τ ⟨τ0, hi, hk⟩
  cases hk
  exact ⟨rfl, hi⟩
theorem ch_sound2 (hcall : CallOK P call) (hmix : P.follows .mixedOrders = true) {J : Nat → Nat → Nat → St → Option R → Option R} {m : Nat} {f : FuncId} {c1 c2 : Code} {q : Oper × Oper × Oper × Oper} {k : Exit → St → Option R} (hq : chOf c1 c2 = some q)
    (ih2 : ∀ (σ : St) (k : Exit → St → Option R), ev P E call J m f n c2 σ k = some r → CW P n c2 σ (Post P n k r))
    (h : (evCh P E call n q.1 q.2.1 q.2.2.1 q.2.2.2 σ fun σA σB => same (ev P E call J m f n c2 σA k) (ev P E call J m f n c2 σB k)) = some r) : CW P n (.seq c1 c2) σ (Post P n k r) := by
  obtain ⟨⟨id, rfl⟩, hc, g0, g1, g2, g3⟩ := ch_some hq
  obtain ⟨o0, o1, o2, o3⟩ := q
  simp only at h hc g0 g1 g2 g3 ⊢
  unfold evCh at h
  have refl : ∀ (o : Oper) (s : St) (rd : List Nat), Agr o s s rd := fun o s rd => ⟨fun _ _ => rfl, fun _ _ => rfl, rfl⟩
  obtain ⟨d0, h, t0⟩ := evO_sound hcall h
  obtain ⟨d1, h, t1⟩ := evO_sound hcall h
  obtain ⟨d2, h, t2⟩ := evO_sound hcall h
  obtain ⟨d3, h, t3⟩ := evO_sound hcall h
  obtain ⟨e2, h, u2⟩ := evO_sound hcall h
  obtain ⟨e1, h, u1⟩ := evO_sound hcall h
  obtain ⟨e3, h, u3⟩ := evO_sound hcall h
  obtain ⟨hA, hB⟩ := same_some h
  exact CW.seq (choice_sound hmix (Ψ := fun e τ => _) hc (.plain g0 (t0 _ (refl _ _ _))) (.plain g1 (t1 _ (refl _ _ _))) (.plain g2 (t2 _ (refl _ _ _))) (.plain g3 (t3 _ (refl _ _ _))) (.plain g2 (u2 _ (refl _ _ _))) (.plain g1 (u1 _ (refl _ _ _))) (.plain g3 (u3 _ (refl _ _ _))) (ih2 _ _ hA) (ih2 _ _ hB))
theorem ch_sound (hcall : CallOK P call) (hmix : P.follows .mixedOrders = true) {m : Nat} {f : FuncId} {c1 c2 : Code} {q : Oper × Oper × Oper × Oper} {k : Exit → St → Option R} (hq : chOf c1 c2 = some q)
    (h : (evCh P E call n q.1 q.2.1 q.2.2.1 q.2.2.2 σ fun σA σB => match inn P E m f n c2 σA, inn P E m f n c2 σB with
      | some (.normal, s1), some (.normal, s2) => (match mrg P E f q.1.dst s1 s2 with
        | some s => k .normal s
        | none => none)
      | _, _ => none) = some r) : CW P n (.seq c1 c2) σ (Post P n k r) := by
  obtain ⟨⟨id, rfl⟩, hc, g0, g1, g2, g3⟩ := ch_some hq
  obtain ⟨o0, o1, o2, o3⟩ := q
  simp only at h hc g0 g1 g2 g3 ⊢
  unfold evCh at h
  have refl : ∀ (o : Oper) (s : St) (rd : List Nat), Agr o s s rd := fun o s rd => ⟨fun _ _ => rfl, fun _ _ => rfl, rfl⟩
  obtain ⟨d0, h, t0⟩ := evO_sound hcall h
  obtain ⟨d1, h, t1⟩ := evO_sound hcall h
  obtain ⟨d2, h, t2⟩ := evO_sound hcall h
  obtain ⟨d3, h, t3⟩ := evO_sound hcall h
  obtain ⟨e2, h, u2⟩ := evO_sound hcall h
  obtain ⟨e1, h, u1⟩ := evO_sound hcall h
  obtain ⟨e3, h, u3⟩ := evO_sound hcall h
  dsimp only at h
  split at h
  · rename_i s1 s2 hA hB
    split at h
    · rename_i s hs
      unfold mrg at hs
      obtain ⟨hb, hs⟩ := bif_some hs
      have he := avsL_eq hb
      cases hs
      have pA := inn_sound hmix hA
      have pB := inn_sound hmix hB
      refine CW.seq (choice_sound hmix (Ψ := fun e τ => _) hc (.plain g0 (t0 _ (refl _ _ _))) (.plain g1 (t1 _ (refl _ _ _))) (.plain g2 (t2 _ (refl _ _ _))) (.plain g3 (t3 _ (refl _ _ _))) (.plain g2 (u2 _ (refl _ _ _))) (.plain g1 (u1 _ (refl _ _ _))) (.plain g3 (u3 _ (refl _ _ _))) ?_ ?_)
      · refine pA.mono ?_
        rintro e' τ ⟨rfl, hi⟩
        exact ⟨_, hi.trans (Imp.norm _ _), h⟩
      · refine pB.mono ?_
        rintro e' τ ⟨rfl, hi⟩
        refine ⟨_, hi.trans (Imp.norm (E := { E with keep := fun _ _ => some (rmD o0.dst (eqIx 0 s1.ts s2.ts), [], []) }) f 1), ?_⟩
        rw [← he]
        exact h
    · cases h
  · cases h
theorem ev_sound {J : Nat → Nat → Nat → St → Option R → Option R} (hJ : JOK J) (hcall : CallOK P call) (hmix : P.follows .mixedOrders = true) (m : Nat) (f : FuncId) : ∀ (c : Code) (σ : St) (k : Exit → St → Option R), ev P E call J m f n c σ k = some r → CW P n c σ (Post P n k r) := by
  intro c
  induction c with
  | skip => intro σ k h; exact CW.skip ⟨σ, Imp.refl, by simpa [ev] using h⟩
  | region id ops draw =>
    intro σ k h
    have ea : ops = ops.toList.toArray := by simp
    cases draw with
    | false =>
      simp only [ev] at h
      obtain ⟨ds, τ, ht, hk⟩ := evOps_tr hcall h
      rw [ea]
      exact CW.region ht.lw fun s e => by rw [e]; exact ⟨τ, Imp.refl, hk⟩
    | true =>
      simp only [ev] at h
      obtain ⟨σ2, hi2, h⟩ := focK_some (P := P) (n := n) h
      refine CW.imp hi2 ?_
      obtain ⟨ds, τ, ht, hk⟩ := evOps_tr hcall h
      obtain ⟨hc, hk⟩ := bif_some hk
      rw [ea]
      refine draw_sound hmix ht (and_l hc) (by simpa using and_r hc) fun τ' he => ⟨τ, ?_, hk⟩
      exact StEq.imp ⟨fun t => (he.ts t).symm, fun l => (he.hs l).symm, he.k0.symm⟩
  | seq c1 c2 ih1 ih2 =>
    intro σ k h
    simp only [ev] at h
    split at h
    rotate_left
    · rename_i q hq
      rcases bset_some h with ⟨_, h⟩ | ⟨_, h⟩
      · exact ch_sound2 hcall hmix hq ih2 h
      · exact ch_sound hcall hmix hq h
    refine CW.seq ((ih1 σ _ h).mono ?_)
    rintro e τ ⟨τ0, hi, hk⟩
    cases e with
    | normal =>
      have hk' : nextK P E J f (firstId c2) τ0 (fun s => ev P E call J m f n c2 s k) = some r := hk
      unfold nextK at hk'
      split at hk'
      · exact (ih2 _ _ hk').imp hi
      · exact (ih2 _ _ (hJ _ _ _ _ _ _ hk')).imp (hi.trans (Imp.norm _ _))
    | exit id => exact ⟨τ0, hi, hk⟩
    | goto l => exact ⟨τ0, hi, hk⟩
    | ret => exact ⟨τ0, hi, hk⟩
    | panic ch => exact ⟨τ0, hi, hk⟩
    | outgrown => exact ⟨τ0, hi, hk⟩
  | cond x c1 c2 ih1 ih2 =>
    intro σ k h
    simp only [ev] at h
    split at h
    · rename_i t ht
      obtain ⟨T, d, e1, hu, rfl⟩ := bval_some ht
      have hev := opd_ev (P := P) (σ := σ) (x := x) (T := 0) (D := E.dt)
      rw [e1] at hev
      rcases bset_some h with ⟨hb, h1⟩ | ⟨hb, h1⟩
      · exact CW.condT hu (hev.cbool hu) hb (ih1 σ k h1)
      · exact CW.condF hu (hev.cbool hu) hb (ih2 σ k h1)
    · cases h
  | block id c ih =>
    intro σ k h
    simp only [ev] at h
    refine CW.block ((ih σ _ h).mono ?_)
    rintro e τ ⟨τ0, hi, hk⟩
    cases e with
    | exit id' =>
      simp only [BlkP]
      replace hk : (bif Nat.beq id' id then k .normal τ0 else k (.exit id') τ0) = some r := hk
      cases hb : Nat.beq id' id with
      | true => rw [hb] at hk; exact ⟨τ0, hi, hk⟩
      | false => rw [hb] at hk; exact ⟨τ0, hi, hk⟩
    | normal => exact ⟨τ0, hi, hk⟩
    | goto l => exact ⟨τ0, hi, hk⟩
    | ret => exact ⟨τ0, hi, hk⟩
    | panic ch => exact ⟨τ0, hi, hk⟩
    | outgrown => exact ⟨τ0, hi, hk⟩
  | loop c ih =>
    intro σ k h
    simp only [ev] at h
    exact CW.loop ((loop_sound hJ (fun σ => Imp.norm f (firstId c)) (fun σ k h => ih σ k h) (hJ _ _ _ _ _ _ h)).imp (Imp.norm f (firstId c)))
  | rangeFunc => intro σ k h; simp [ev] at h
  | exit id => intro σ k h; exact CW.exit ⟨σ, Imp.refl, by simpa [ev] using h⟩
  | scope c ih =>
    intro σ k h
    simp only [ev] at h
    have h1 := ih σ _ h
    have h2 : CW P n c σ (fun e τ => (∀ l, e ≠ .goto l) ∧ Post P n k r e τ) := h1.mono (by
      rintro e τ ⟨τ0, hi, hk⟩
      cases e with
      | goto l => cases hk
      | normal => exact ⟨(fun l e => by cases e), τ0, hi, hk⟩
      | exit id => exact ⟨(fun l e => by cases e), τ0, hi, hk⟩
      | ret => exact ⟨(fun l e => by cases e), τ0, hi, hk⟩
      | panic ch => exact ⟨(fun l e => by cases e), τ0, hi, hk⟩
      | outgrown => exact ⟨(fun l e => by cases e), τ0, hi, hk⟩)
    exact (CW.scope h2 fun l τ hc => hc.1 l rfl).mono fun e τ hc => hc.2
  | label l => intro σ k h; exact CW.label ⟨σ, Imp.refl, by simpa [ev] using h⟩
  | goto l => intro σ k h; simp [ev] at h
  | ret => intro σ k h; exact CW.ret ⟨σ, Imp.refl, by simpa [ev] using h⟩
  | refuse w => intro σ k h; simp [ev] at h

def resFun (tmps : Array Value) : ResultVar → Sem Value
  | .tmp t => pure (tmps.getD t undef)
  | .cell a t => do loadVar t (← asAddr (tmps.getD a undef))
theorem resV_run (r : RelB P K w0 n σ a w β) : ∀ {rs : List ResultVar} {vs : List AV}, resV P σ rs = some vs →
    ∃ zs : List Value, (rs.mapM (resFun a.tmps)).run P w = .ok zs w ∧ RVsX P (okOf K w0 w σ.hs β) w β vs zs ∧ ∀ v ∈ vs, v ≠ .dead ∧ ∀ us, v ≠ .tup us
  | [], vs, h => by
    have h' : some [] = some vs := by simpa [resV] using h
    cases h'
    exact ⟨[], rfl, .nil, by simp⟩
  | .tmp t :: rs, vs, h => by
    unfold resV at h
    split at h
    · cases h
    · cases h
    · rename_i h3 h4
      split at h
      · rename_i us hus
        cases h
        obtain ⟨zs, q1, q2, q3⟩ := resV_run r hus
        refine ⟨a.tmps.getD t undef :: zs, by simp [List.mapM_cons, resFun, q1], .cons (r.ts t) q2, fun v hv => ?_⟩
        rcases List.mem_cons.1 hv with e | hv
        · subst e; exact ⟨h3, fun us e => h4 us e⟩
        · exact q3 v hv
      · cases h
  | .cell p T :: rs, vs, h => by
    unfold resV at h
    split at h
    · rename_i l hp
      split at h
      · rename_i T' c hl
        obtain ⟨hc, h2⟩ := bif_some h
        clear h
        have e := beq_eq (and_l hc)
        subst e
        obtain ⟨s1, s2, ⟨D, hD⟩, s4, s5⟩ := szB_some (and_l (and_r hc))
        have hag : c.isAgg P = aggT P T' := by simpa using and_r (and_r hc)
        split at h2
        · rename_i us hus
          cases h2
          obtain ⟨zs, q1, q2, q3⟩ := resV_run r hus
          have hr := r.ts p
          rw [hp] at hr
          have hr' := hr.2 rfl
          generalize hz : a.tmps.getD p undef = z at hr'
          cases hr' with
          | @ptr _ b _ _ hb =>
            have hob := r.hs l
            rw [hl, hb] at hob
            obtain ⟨b', cs, e, hblk, hsz, hra⟩ := hob
            cases e
            obtain ⟨zv, hrun, hrv⟩ := load_rv (P := P) (T := T') (v := c) (ok := okOf K w0 w σ.hs β) (w := w) (β := β) (ad := ⟨b, 0, none⟩) (cs := cs.toList) hD (by simpa using hsz)
              (fun j u hj => by rw [add_mk, Nat.zero_add, cell_of_row w b j cs T' (0, 0) hblk]; simpa using hj) (fun hf => s4 (by rw [hag]; exact hf)) hag hra s2
            refine ⟨zv :: zs, ?_, .cons hrv q2, fun v hv => ?_⟩
            · simp only [Instr.loadAt, Instr.sureAddr, Sem.run_bind, Sem.run_pure, Result.andThen_ok] at hrun
              simp [List.mapM_cons, resFun, hz, asAddr, hrun, q1]
            · rcases List.mem_cons.1 hv with e | hv
              · subst e; exact ⟨s1, s2⟩
              · exact q3 v hv
        · cases h2
      · cases h
    · cases h
theorem results_eq {fn : Func} {zs : List Value} (hm : (fn.results.toList.mapM (resFun a.tmps)).run P w = .ok zs w) : (results fn a.tmps).run P w = .ok (if h : zs.toArray.size = 1 then zs.toArray[0] else .tuple zs.toArray) w := by
  have hm : (fn.results.mapM (resFun a.tmps)).run P w = .ok zs.toArray w := by
    have : fn.results.mapM (resFun a.tmps) = (fn.results.toList.mapM (resFun a.tmps)) >>= fun l => pure l.toArray := by
      rw [Array.mapM_eq_mapM_toList]
      rfl
    rw [this, Sem.run_bind, hm]
    rfl
  have : results fn a.tmps = (fn.results.mapM (resFun a.tmps)) >>= fun vs => pure (if h : vs.size = 1 then vs[0] else .tuple vs) := by
    unfold results
    have hf : (fun x => match x with | .tmp t => pure (a.tmps.getD t undef) | .cell a_1 t => do loadVar t (← asAddr (a.tmps.getD a_1 undef)) : ResultVar → Sem Value) = resFun a.tmps := by
      funext x
      cases x <;> rfl
    rw [← hf]
    rfl
  rw [this, Sem.run_bind, hm]
  rfl
theorem RVsX.pack {ok : Nat → Prop} {vs : List AV} {zs : List Value} (h : RVsX P ok w β vs zs) (hv : ∀ v ∈ vs, v ≠ .dead ∧ ∀ us, v ≠ .tup us) : RV P ok w β (packRes vs) (if h : zs.toArray.size = 1 then zs.toArray[0] else .tuple zs.toArray) := by
  match vs, zs, h, hv with
  | [v], [z], .cons h .nil, _ => simpa [packRes] using h
  | [], [], .nil, _ => exact ⟨#[], by simp, rfl, fun i av hv => by simp at hv⟩
  | v1 :: v2 :: vr, z1 :: z2 :: zr, h, hv =>
    refine ⟨(z1 :: z2 :: zr).toArray, by simp, by simpa using h.len, fun i av hav => ?_⟩
    obtain ⟨z, q1, q2⟩ := h.get i av hav
    obtain ⟨q3, q4⟩ := hv av (List.mem_of_getElem? hav)
    have e : (z1 :: z2 :: zr).toArray.getD i undef = z := by
      simp only [Array.getD_eq_getD_getElem?, List.getElem?_toArray, q1, Option.getD_some]
    rw [e]
    exact RV.to1 q3 q4 q2
theorem RVsX.mapC {ok : Nat → Prop} {hs : List Ob} {vs : List AV} {zs : List Value} (hf : FrzOK P ok w β hs) (hfa : ∀ l T es, lk hs l = .frz T es → aggT P T = false) (h : RVsX P ok w β vs zs) : RVsX P ok w β (vs.map (pkC P hs)) zs := by
  induction h with
  | nil => exact .nil
  | cons h _ ih => exact .cons (h.pkC hf hfa) ih
theorem ok_relabel {src : List Nat} {ρ : Nat → Option Nat} {hs : List Ob} : ∀ b, okOf K w0 w hs β b → okOf K w0 w (pickO ρ hs src) (srcB src β) b ∧ w.heap[b]? = w.heap[b]? := by
  rintro b ⟨h1, h2, h3⟩
  refine ⟨⟨h1, h2, fun k hk => ?_⟩, rfl⟩
  obtain ⟨l, _, h5⟩ := owns_pick hk
  exact h3 l h5
theorem renL_ne {ρ : Nat → Option Nat} {vs : List AV} (h : ∀ v ∈ vs, ∀ us, v ≠ .tup us) : ∀ v ∈ AV.renL ρ vs, ∀ us, v ≠ .tup us := by
  intro v hv us
  obtain ⟨i, hi⟩ := List.getElem?_of_mem hv
  rw [AV.renL_get] at hi
  simp only [Option.map_eq_some_iff] at hi
  obtain ⟨u, hu, rfl⟩ := hi
  have := h u (List.mem_of_getElem? hu)
  cases u with
  | tup ws => exact absurd rfl (this ws)
  | row l => simp only [AV.ren]; split <;> simp
  | ptr l p o => simp only [AV.ren]; split <;> simp
  | eptr l i z p o => simp only [AV.ren]; split <;> simp
  | _ => simp [AV.ren]
theorem packRes_ren {ρ : Nat → Option Nat} : ∀ vs : List AV, (packRes vs).ren ρ = packRes (AV.renL ρ vs)
  | [] => rfl
  | [v] => rfl
  | _ :: _ :: _ => rfl
theorem pkC_ne {hs : List Ob} {v : AV} (h : v ≠ .dead ∧ ∀ us, v ≠ .tup us) : pkC P hs v ≠ .dead ∧ ∀ us, pkC P hs v ≠ .tup us := by
  unfold pkC
  split
  · exact ⟨by simp, by simp⟩
  · exact h
theorem n2r_ne {v : AV} {k : Nat} (h : v ≠ .dead ∧ ∀ us, v ≠ .tup us) : (AV.n2r P v k).1 ≠ .dead ∧ ∀ us, (AV.n2r P v k).1 ≠ .tup us := by
  refine ⟨?_, fun us e => h.2 us (n2r_tup e)⟩
  cases v with
  | nils T => simp only [AV.n2r]; split <;> simp
  | agg T vs => simp [AV.n2r]
  | dead => exact absurd rfl h.1
  | _ => simp [AV.n2r]

theorem fin_sound {f : FuncId} {fn : Func} {q : Res} (r : RelB P K w0 n σ a w β) (h : fin P E f fn σ = some q) : ∃ z β', (results fn a.tmps).run P w = .ok z w ∧ RelB P K w0 n ⟨[], q.2, σ.k0⟩ a w β' ∧ RV P (okOf K w0 w q.2 β') w β' q.1 z := by
  unfold fin at h
  split at h
  · rename_i vs hvs
    obtain ⟨zs, q1, q2, q3⟩ := resV_run r hvs
    have hres := results_eq (fn := fn) q1
    cases hraw : E.raw f with
    | true =>
      rw [hraw] at h
      simp only [cond_true] at h
      obtain ⟨src, hsrc⟩ : ∃ src, srcOf (layN σ.hs σ.hs.length (AV.n2rL P vs σ.hs.length).2) σ.k0 (AV.n2rL P vs σ.hs.length).1 = src := ⟨_, rfl⟩
      rw [hsrc] at h
      obtain ⟨hc, h3⟩ := bif_some h
      clear h
      obtain ⟨hc2, h4⟩ := bif_some h3
      clear h3
      cases h4
      have hk0 : σ.k0 ≤ σ.hs.length := Nat.le_of_ble_eq_true (and_r hc)
      obtain ⟨β1, r1, ex1, nb1, ok1⟩ := lay_nil' (P := P) (n := n) _ σ K w0 w a β σ.hs.length r (n2rL_sl P vs σ.hs.length) (fun i h3 h4 => lk_end _ _ h3) hk0
      have r2 := r1.relabel src (nodupB_nodup (and_l hc)) (fun i hi => by rw [← hsrc]; exact srcOf_get hi) [] (fun k => .inl rfl)
      have hv1 := (q2.mono (fun b hb => ⟨ok1 b hb, rfl⟩) ex1).n2r _ nb1
      have hv2 := (hv1.mono (ok_relabel (src := src) (ρ := ix src)) (Ext.refl _)).ren (src_ren src β1)
      refine ⟨_, _, hres, r2, ?_⟩
      show RV P _ w _ ((packRes _).ren _) _
      rw [packRes_ren]
      exact hv2.pack (noDead_get hc2)
    | false =>
      rw [hraw] at h
      simp only [cond_false] at h
      obtain ⟨src, hsrc⟩ : ∃ src, srcOf (frzN σ.hs (AV.rwsL vs)) σ.k0 (vs.map (pkC P (frzN σ.hs (AV.rwsL vs)))) = src := ⟨_, rfl⟩
      rw [hsrc] at h
      obtain ⟨hc, h3⟩ := bif_some h
      clear h
      obtain ⟨hc2, h4⟩ := bif_some h3
      clear h3
      cases h4
      have r1 := r.frzN (ls := AV.rwsL vs)
      have r2 := r1.relabel src (nodupB_nodup hc) (fun i hi => by rw [← hsrc]; exact srcOf_get hi) [] (fun k => .inl rfl)
      have hv1 := (q2.mono (fun b hb => ⟨⟨hb.1, hb.2.1, fun l hl => hb.2.2 l (owns_frzN hl)⟩, rfl⟩) (Ext.refl _)).mapC r1.frzOK r1.frzAgg
      have hv2 := (hv1.mono (ok_relabel (src := src) (ρ := ix src)) (Ext.refl _)).ren (src_ren src β)
      refine ⟨_, _, hres, r2, ?_⟩
      show RV P _ w _ ((packRes _).ren _) _
      rw [packRes_ren]
      exact hv2.pack (noDead_get hc2)
  · cases h
where noDead_get : ∀ {vs : List AV}, noDead vs = true → ∀ v ∈ vs, v ≠ .dead ∧ ∀ us, v ≠ .tup us
  | [], _, v, hv => by simp at hv
  | u :: r, h, v, hv => by
    unfold noDead at h
    rcases List.mem_cons.1 hv with e | hv
    · subst e
      have := and_l h
      split at this
      · cases this
      · cases this
      · rename_i h3 h4; exact ⟨h3, fun us e => h4 us e⟩
    · exact noDead_get (and_r h) v hv

structure EnvOK (P : Program) (E : Env) : Prop where
  fns : ∀ f fn, E.fns f = some fn → P.funcs[f]? = some fn ∧ (fn.name == "runtime.NumGoroutine") = false
  orc : ∀ f oc args objs (q : Res), E.orc f = some oc → oc args objs = some q → FX P f args objs q.1 q.2 ∧ HasBody P f
  mix : P.follows .mixedOrders = true

theorem tk_end : ∀ (vs : List AV) (k : Nat), vs.length ≤ k → tk vs k = .dead
  | [], _, _ => rfl
  | _ :: r, 0, h => by simp at h
  | _ :: r, k + 1, h => by simp only [tk]; exact tk_end r k (by simpa using h)
theorem Imp.mvAll : ∀ (rs : List ResultVar) (σ : St), Imp P n σ (mvAll σ rs)
  | [], _ => Imp.refl
  | .tmp t :: rs, σ => (Imp.mvSlot t).trans (Imp.mvAll rs _)
  | .cell _ _ :: rs, σ => Imp.mvAll rs σ
theorem frzN_not : ∀ (ls : List Nat) (hs : List Ob) (l : Nat), (∀ T es, lk hs l ≠ .row T es) → lk (Am.frzN hs ls) l = lk hs l
  | [], _, _, _ => rfl
  | k :: ls, hs, l, h => by
    have h1 : lk (frz1 hs k) l = lk hs l := by
      unfold frz1
      split
      · rename_i T es hk
        refine lk_other _ _ _ _ fun e => ?_
        subst e
        exact h _ _ hk
      · rfl
    show lk (Am.frzN (frz1 hs k) ls) l = lk hs l
    rw [frzN_not ls (frz1 hs k) l (by rw [h1]; exact h), h1]
theorem datL_sound {Te : TypeId} {hs : List Ob} {ok : Nat → Prop} {w : World} {β : Nat → Option Value} (hf : FrzOK P ok w β hs) : ∀ {vs : List AV} {ds : List Dt}, datL P hs Te vs = some ds → vs.length = ds.length ∧ ∀ (i : Nat) (d : Dt), ds[i]? = some d → ∃ v, vs[i]? = some v ∧ ∀ cs, RA P ok w β v cs → RD P ok w Te d cs
  | [], ds, h => by
    have h' : some [] = some ds := by simpa [datL] using h
    cases h'
    exact ⟨rfl, fun i d hd => by simp at hd⟩
  | v :: vs, ds, h => by
    unfold datL at h
    split at h
    · rename_i T d hp
      obtain ⟨hc, h2⟩ := bif_some h
      split at h2
      · rename_i ds' hds
        cases h2
        obtain ⟨q1, q2⟩ := datL_sound hf hds
        refine ⟨by simp [q1], fun i d' hd => ?_⟩
        cases i with
        | zero =>
          simp only [List.getElem?_cons_zero, Option.some.injEq] at hd
          subst hd
          exact ⟨v, rfl, fun cs hr => (pk_sound hf hr hp).compat (and_l hc)⟩
        | succ i =>
          simp only [List.getElem?_cons_succ] at hd
          obtain ⟨v', h1, h2⟩ := q2 i d' hd
          exact ⟨v', by simpa using h1, h2⟩
      · cases h2
    · cases h
theorem Imp.flat1 (l : Nat) : Imp P n σ (flat1 P σ l) := by
  unfold Am.flat1
  split
  · rename_i T vs hl
    split
    · rename_i Te hTe
      split
      · rename_i ds hds
        refine Imp.trans (Imp.frzN (AV.rwsL vs) σ) ?_
        rintro K w0 a w ⟨β, r⟩
        have hl2 : lk (Am.frzN σ.hs (AV.rwsL vs)) l = .rowA T vs := by
          rw [frzN_not _ _ _ (by intro T' es; rw [hl]; simp)]; exact hl
        have hob := r.hs l
        have hl3 : lk (St.mk σ.ts (Am.frzN σ.hs (AV.rwsL vs)) σ.k0).hs l = .rowA T vs := hl2
        rw [hl3] at hob
        obtain ⟨E', z, xs, hz, hu, hown, hone, hr⟩ := hob
        obtain rfl : Te = E' := by have := slE_some hTe; rw [this] at hu; cases hu; rfl
        obtain ⟨q1, q2⟩ := datL_sound r.frzOK hds
        refine ⟨_, r.upd l (.row T ds) (β l) w (.inl rfl) rfl rfl rfl (Nat.le_refl _) (fun _ _ _ => rfl) (fun z2 b2 _ hz2 hb2 => .inr ⟨by rw [hl3]; rfl, z2, hz2, hb2⟩) fun hx hk => ?_⟩
        refine ⟨Te, z, xs, hz, hu, by rw [← q1]; exact hown, hone, fun i d hd => ?_⟩
        obtain ⟨v, h1, h2⟩ := q2 i d hd
        exact (h2 _ (hr i v h1)).mono hk
      · exact Imp.refl
    · exact Imp.refl
  · exact Imp.refl
theorem Imp.flatL : ∀ (ls : List Nat) (σ : St), Imp P n σ (flatL P σ ls)
  | [], _ => Imp.refl
  | l :: ls, σ => (Imp.flat1 l).trans (Imp.flatL ls _)
theorem Imp.exitSt (f : FuncId) (fn : Func) : Imp P n σ (exitSt P E f fn σ) := by
  unfold Am.exitSt
  cases E.raw f with
  | true => exact (Imp.norm f 1000000).trans (Imp.mvAll _ _)
  | false => exact (Imp.norm f 1000000).trans (Imp.flatL _ _)
/-- What is known of 'b' says as much as 'q'. -/
structure Sim (P : Program) (b q : Res) : Prop where
  val : ∀ (ok : Nat → Prop) (w : World) (β : Nat → Option Value) (z : Value), RV P ok w β b.1 z → RV P ok w β q.1 z
  own : ∀ l, (lk q.2 l).isOwn = (lk b.2 l).isOwn
  obs : ∀ l (ok : Nat → Prop) (w : World) (β : Nat → Option Value) (v : Option Value), ObOK P ok w β (lk b.2 l) v → ObOK P ok w β (lk q.2 l) v
theorem Sim.refl (q : Res) : Sim P q q := ⟨fun _ _ _ _ h => h, fun _ => rfl, fun _ _ _ _ _ h => h⟩
/-- A function's run, with its callees known by contracts. -/
theorem FX_of {f : FuncId} {fn : Func} {c : Code} {args : List AV} {objs : List Ob} {m : Nat} {q : Res} {J : Nat → Nat → Nat → St → Option R → Option R} (hJ : JOK J) (hcall : CallOK P call) (hmix : P.follows .mixedOrders = true) (hf : P.funcs[f]? = some fn) (hc : fn.body = some c) (hlen' : args.length ≤ fn.ntmps) {dec : Res → Option R}
    (hd : ∀ (b : Res), dec b = some r → Sim P b q)
    (h : ev P E call J m f fn.ntmps c ⟨args, objs, objs.length⟩ (fun e σ => (finE P E f fn e σ).bind dec) = some r) : FX P f args objs q.1 q.2 := by
  have hcw := ev_sound hJ hcall hmix m f c _ _ h
  intro ok w β xs hok hobs hsep hxs htab
  refine calls_of_wp hf hc ?_
  have hxl := hxs.len
  have hkk : ∀ b, ok b → okOf ⟨ok, XO objs β, β, objs.length⟩ w w objs β b ∧ w.heap[b]? = w.heap[b]? := fun b hb' => ⟨⟨(hok b hb').1, fun _ => .inl hb', fun l ho => (hok b hb').2 ⟨l, ho⟩⟩, rfl⟩
  have hrel : Rel P ⟨ok, XO objs β, β, objs.length⟩ w fn.ntmps ⟨args, objs, objs.length⟩ { tmps := xs.toArray ++ Array.replicate (fn.ntmps - xs.toArray.size) undef, defers := [] } w := by
    refine ⟨β, ⟨by simp; omega, rfl, BelowX.refl _ _, fun k => ?_, fun l => (hobs l).mono hkk (fun _ _ _ _ _ => rfl) (Ext.refl _), hsep, fun l b ho => .inr ⟨l, ho⟩, fun l _ => rfl, rfl, htab.mono hkk⟩⟩
    rcases Nat.lt_or_ge k xs.length with hlt | hge
    · have e : (xs.toArray ++ Array.replicate (fn.ntmps - xs.toArray.size) undef).getD k undef = xs.getD k undef := by
        rw [Array.getD_eq_getD_getElem?, Array.getElem?_append_left (by simpa using hlt)]
        simp [List.getD]
      rw [e]
      exact (hxs.tk k).mono hkk (Ext.refl _)
    · have e : tk args k = .dead := tk_end _ _ (by omega)
      show RV P _ w β (tk args k) _
      rw [e]
      trivial
  refine hcw _ w _ w hrel _ ?_
  rintro e τ a' w' ⟨τ0, himp, hfin⟩ rr
  obtain ⟨β', r'⟩ := (himp.trans (Imp.exitSt (E := E) f fn)) _ _ _ _ rr
  obtain ⟨b, hfin, hdec⟩ := Option.bind_eq_some_iff.1 hfin
  have hsim := hd b hdec
  have key : (e = .ret ∨ e = .normal) ∧ fin P E f fn (exitSt P E f fn τ0) = some b := by
    unfold finE at hfin
    split at hfin
    · exact ⟨.inl rfl, hfin⟩
    · exact ⟨.inr rfl, hfin⟩
    · cases hfin
  obtain ⟨hek, hfin⟩ := key
  obtain ⟨z, β2, hrun, r2, hz⟩ := fin_sound r' hfin
  have hown : ∀ l b2, owns q.2 β2 l b2 ↔ owns b.2 β2 l b2 := fun l b2 => by simp only [owns, hsim.own]
  have hoks : ∀ b2, okOf ⟨ok, XO objs β, β, objs.length⟩ w w' b.2 β2 b2 → okOf ⟨ok, XO objs β, β, objs.length⟩ w w' q.2 β2 b2 ∧ w'.heap[b2]? = w'.heap[b2]? := fun b2 hb => ⟨⟨hb.1, hb.2.1, fun l hl => hb.2.2 l ((hown l b2).1 hl)⟩, rfl⟩
  have hF : FinX P ok w w' β β2 objs q.2 := ⟨r2.below, fun l => hsim.obs l _ _ _ _ ((r2.hs l).mono hoks (fun _ _ _ _ _ => rfl) (Ext.refl _)), fun l l' b2 h1 h2 => r2.sep l l' b2 ((hown _ _).1 h1) ((hown _ _).1 h2), fun l b2 h1 => r2.own l b2 ((hown _ _).1 h1), fun l hl => r2.ext l hl⟩
  have hz2 := hsim.val _ _ _ _ (hz.mono hoks (Ext.refl _))
  rcases hek with rfl | rfl
  · exact ⟨r'.defers, z, hrun, z, β2, rfl, hF, hz2⟩
  · exact ⟨r'.defers, z, hrun, z, β2, rfl, hF, hz2⟩

/-- WHAT THE MACHINE COMPUTES IS WHAT THE MODEL DOES. -/
theorem run_sound (he : EnvOK P E) : ∀ (m : Nat) (f : FuncId) (args : List AV) (objs : List Ob) (q : Res), run P E m f args objs = some q → FX P f args objs q.1 q.2 ∧ HasBody P f
  | 0, _, _, _, _, h => by simp [run] at h
  | m + 1, f, args, objs, q, h => by
    unfold run at h
    split at h
    · rename_i oc hoc
      exact he.orc f oc args objs q hoc h
    · split at h
      · rename_i fn hfn
        obtain ⟨hf, hname⟩ := he.fns f fn hfn
        split at h
        · rename_i c hc
          obtain ⟨hlen, h⟩ := bif_some h
          refine ⟨?_, ⟨fn, hf, by rw [hc]; rfl, hname⟩⟩
          refine FX_of (r := q) (dec := some) jn_ok (fun f args objs K r hr => by
            obtain ⟨q', h1, h2⟩ := Option.bind_eq_some_iff.1 hr
            exact ⟨q', h2, run_sound he m f args objs q' h1⟩) he.mix hf hc (Nat.le_of_ble_eq_true hlen) (fun b hb => by cases hb; exact Sim.refl _) (E := E) (m := m + 1) ?_
          have e : (fun e σ => (finE P E f fn e σ).bind some) = finE P E f fn := by funext e σ; cases finE P E f fn e σ <;> rfl
          rw [e]
          exact h
        · cases h
      · cases h
end
end Go.Am
