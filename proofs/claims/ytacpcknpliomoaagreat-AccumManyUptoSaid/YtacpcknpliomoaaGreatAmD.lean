/- The abstract machine, part D: rows whose elements own a slice each. -/
import Derived.Test.YtacpcknpliomoaaGreatAmP
set_option linter.unusedVariables false
set_option linter.unusedSimpArgs false
namespace Go.Am
open Go.RowKit

section
variable {P : Program} {n : Nat} {o : Oper} {σ σ' : St} {x y : Operand} {v : AV} {T : TypeId} {K : OkX} {w0 w : World} {a : Act} {β : Nat → Option Value}

/-- Names are dealt anew; the memory stays. -/
theorem RelB.re (h : RelB P K w0 n σ a w β) (hs' : List Ob) (β' : Nat → Option Value) (hE : Ext β β') (ho : ∀ l b, owns hs' β' l b → ∃ l0, owns σ.hs β l0 b) (hs : ∀ l l' b, owns hs' β' l b → owns hs' β' l' b → l = l')
    (hob : (∀ b, okOf K w0 w σ.hs β b → okOf K w0 w hs' β' b) → ∀ l, ObOK P (okOf K w0 w hs' β') w β' (lk hs' l) (β' l)) (hx : ∀ l, l < K.k0 → β' l = β l) : RelB P K w0 n ⟨σ.ts, hs', σ.k0⟩ a w β' := by
  have hk : ∀ b, okOf K w0 w σ.hs β b → okOf K w0 w hs' β' b := fun b hb => ⟨hb.1, hb.2.1, fun l hl => let ⟨l0, h0⟩ := ho l b hl; hb.2.2 l0 h0⟩
  have hk' : ∀ b, okOf K w0 w σ.hs β b → okOf K w0 w hs' β' b ∧ w.heap[b]? = w.heap[b]? := fun b hb => ⟨hk b hb, rfl⟩
  exact ⟨h.size, h.defers, h.below, fun k => (h.ts k).mono hk' hE, hob hk, hs, fun l b hl => let ⟨l0, h0⟩ := ho l b hl; h.own l0 b h0, fun l hl => (hx l hl).trans (h.ext l hl), h.kk, h.tab.mono hk'⟩
theorem RelB.okU (h : RelB P K w0 n σ a w β) {l b : Nat} {hs' : List Ob} {β' : Nat → Option Value} (ho : owns σ.hs β l b) (hn : ∀ l', ¬ owns hs' β' l' b) : okOf K w0 w hs' β' b := by
  refine ⟨h.blk_lt ho, fun hb => ?_, hn⟩
  rcases h.own l b ho with h1 | h1
  · omega
  · exact .inr h1

/-- The token and the row out of it: what the names own. -/
theorem tok_blk {arr : Array Value} {b : Nat} (h : Blk (.tuple arr) b) : ∃ (i : Nat) (z : Value), arr[i]? = some z ∧ blk z = some b := by
  rcases h with h | ⟨arr', e, h⟩
  · cases h
  · cases e; exact h

/-- One element's slice comes to be a row of its own: 'p' the row, 'q' the new token. -/
theorem RelB.focus (h : RelB P K w0 n σ a w β) {T5 T2 k l i p q : Nat} {c : Option Nat} {es ls ds : List Dt} {d : Dt} (hl : lk σ.hs l = .rowD T5 T2 c k es none) (hk : lk σ.hs k = .tok T2 ls) (hi : es[i]? = some d) (hd : lkd c d = true) (hls : ls[i]? = some (.lst ds))
    (hp : lk σ.hs p = .free) (hq : lk σ.hs q = .free) (hpq : p ≠ q) (hp0 : σ.k0 ≤ p) (hq0 : σ.k0 ≤ q) :
    ∃ β', RelB P K w0 n ⟨σ.ts, setO (setO (setO (setO σ.hs l (.rowD T5 T2 c q es (some (i, p)))) k .gone) p (.row T2 ds)) q (.tok T2 (ls.set i (.lst []))), σ.k0⟩ a w β' ∧ Ext β β' ∧
      ∃ (E E2 fo : TypeId) (z : Value) (xs : List Value), P.underlying T5 = some (.slice E) ∧ HoleAt P E c T2 fo ∧ P.underlying T2 = some (.slice E2) ∧ β l = some z ∧ w.ownsRow 0 E (P.cellsOf E) z es.length xs ∧ xs[i * P.cellsOf E + fo]? = β' p := by
  have hol := h.hs l
  rw [hl] at hol
  obtain ⟨E, E2, fo, z, xs, arr, e1, hu, hh, hu2, hown, hone, hβk, hsz, hr⟩ := hol
  have hok := h.hs k
  rw [hk, hβk] at hok
  obtain ⟨E2', arr', e2, hu2', hasz, hsep, hrl⟩ := hok
  cases e2
  obtain ⟨ds', zi, ys, e3, hzi, hyo, hy1, hyr⟩ := hrl i _ hls
  cases e3
  obtain ⟨_, zi', hz1, hz2, _⟩ := (hr i d hi).2 hd
  have hz3 := hz2 (fun _ => nofun)
  rw [hzi] at hz3; cases hz3
  have fp : β p = none := by have := h.hs p; rw [hp] at this; exact this
  have fq : β q = none := by have := h.hs q; rw [hq] at this; exact this
  have hlp : l ≠ p := fun e => by rw [e, hp] at hl; cases hl
  have hlq : l ≠ q := fun e => by rw [e, hq] at hl; cases hl
  have hlk : l ≠ k := fun e => by rw [e, hk] at hl; cases hl
  have hkp : k ≠ p := fun e => by rw [e, hp] at hk; cases hk
  have hkq : k ≠ q := fun e => by rw [e, hq] at hk; cases hk
  have hilt : i < arr.size := (Array.getElem?_eq_some_iff.1 hzi).1
  let β' := upB (upB β p (some zi)) q (some (.tuple (arr.set i (.slice none 0 0) hilt)))
  have bp : β' p = some zi := by show upB _ q _ p = _; rw [upB_other _ _ _ _ hpq, upB_same]
  have bq : β' q = some (.tuple (arr.set i (.slice none 0 0) hilt)) := upB_same _ _ _
  have bo : ∀ j, j ≠ p → j ≠ q → β' j = β j := fun j h1 h2 => by show upB _ q _ j = _; rw [upB_other _ _ _ _ h2, upB_other _ _ _ _ h1]
  have hE : Ext β β' := fun j u hj => by
    by_cases j1 : j = p
    · subst j1; rw [fp] at hj; cases hj
    · by_cases j2 : j = q
      · subst j2; rw [fq] at hj; cases hj
      · rw [bo j j1 j2]; exact hj
  let hs' := setO (setO (setO (setO σ.hs l (.rowD T5 T2 c q es (some (i, p)))) k .gone) p (.row T2 ds)) q (.tok T2 (ls.set i (.lst [])))
  have lq : lk hs' q = .tok T2 (ls.set i (.lst [])) := lk_same _ _ _
  have lp : lk hs' p = .row T2 ds := by show lk (setO _ q _) p = _; rw [lk_other _ _ _ _ hpq, lk_same]
  have lkk : lk hs' k = .gone := by show lk (setO _ q _) k = _; rw [lk_other _ _ _ _ hkq, lk_other _ _ _ _ hkp, lk_same]
  have ll : lk hs' l = .rowD T5 T2 c q es (some (i, p)) := by show lk (setO _ q _) l = _; rw [lk_other _ _ _ _ hlq, lk_other _ _ _ _ hlp, lk_other _ _ _ _ hlk, lk_same]
  have lo : ∀ j, j ≠ p → j ≠ q → j ≠ k → j ≠ l → lk hs' j = lk σ.hs j := fun j h1 h2 h3 h4 => by show lk (setO _ q _) j = _; rw [lk_other _ _ _ _ h2, lk_other _ _ _ _ h1, lk_other _ _ _ _ h3, lk_other _ _ _ _ h4]
  have kown : ∀ (j : Nat) (u : Value) (b : Nat), arr[j]? = some u → blk u = some b → owns σ.hs β k b := fun j u b h1 h2 => ⟨by rw [hk]; rfl, _, hβk, .inr ⟨arr, rfl, j, u, h1, h2⟩⟩
  have hw : ∀ j b, owns hs' β' j b → (j = p ∧ blk zi = some b) ∨ (j = q ∧ ∃ (m : Nat) (u : Value), m ≠ i ∧ arr[m]? = some u ∧ blk u = some b) ∨ (j ≠ p ∧ j ≠ q ∧ j ≠ k ∧ owns σ.hs β j b) := by
    rintro j b ⟨h1, u, h2, h3⟩
    by_cases jp : j = p
    · subst jp; rw [bp] at h2; cases h2; exact .inl ⟨rfl, h3.of hyo.notup⟩
    by_cases jq : j = q
    · subst jq; rw [bq] at h2; cases h2
      obtain ⟨m, u, hm, hb⟩ := tok_blk h3
      rw [Array.getElem?_set] at hm
      by_cases hmi : i = m
      · rw [if_pos hmi] at hm; cases hm; cases hb
      · rw [if_neg hmi] at hm; exact .inr (.inl ⟨rfl, m, u, fun e => hmi e.symm, hm, hb⟩)
    by_cases jk : j = k
    · subst jk; rw [lkk] at h1; cases h1
    rw [bo j jp jq] at h2
    refine .inr (.inr ⟨jp, jq, jk, ?_, u, h2, h3⟩)
    by_cases jl : j = l
    · subst jl; rw [hl]; rfl
    · rw [lo j jp jq jk jl] at h1; exact h1
  refine ⟨β', h.re hs' β' hE ?_ ?_ ?_ ?_, hE, E, E2, fo, z, xs, hu, hh, hu2, e1, hown, by rw [bp]; exact hz1⟩
  · intro j b hj
    rcases hw j b hj with ⟨_, hb⟩ | ⟨_, m, u, _, hm, hb⟩ | ⟨_, _, _, hb⟩
    · exact ⟨k, kown i zi b hzi hb⟩
    · exact ⟨k, kown m u b hm hb⟩
    · exact ⟨j, hb⟩
  · intro j j' b hj hj'
    rcases hw j b hj with ⟨e, hb⟩ | ⟨e, m, u, hmi, hm, hb⟩ | ⟨_, _, e3, hb⟩
    · rcases hw j' b hj' with ⟨e', hb'⟩ | ⟨e', m', u', hmi', hm', hb'⟩ | ⟨_, _, e3', hb'⟩
      · rw [e, e']
      · exact absurd (hsep m' i u' zi b hm' hzi hb' hb) hmi'
      · exact absurd (h.sep _ _ _ hb' (kown i zi b hzi hb)) e3'
    · rcases hw j' b hj' with ⟨e', hb'⟩ | ⟨e', m', u', hmi', hm', hb'⟩ | ⟨_, _, e3', hb'⟩
      · exact absurd (hsep m i u zi b hm hzi hb hb') hmi
      · rw [e, e']
      · exact absurd (h.sep _ _ _ hb' (kown m u b hm hb)) e3'
    · rcases hw j' b hj' with ⟨e', hb'⟩ | ⟨e', m', u', hmi', hm', hb'⟩ | ⟨_, _, e3', hb'⟩
      · exact absurd (h.sep _ _ _ hb (kown i zi b hzi hb')) e3
      · exact absurd (h.sep _ _ _ hb (kown m' u' b hm' hb')) e3
      · exact h.sep _ _ _ hb hb'
  · intro hkk j
    have hkk' : ∀ b, okOf K w0 w σ.hs β b → okOf K w0 w hs' β' b ∧ w.heap[b]? = w.heap[b]? := fun b hb => ⟨hkk b hb, rfl⟩
    by_cases jp : j = p
    · subst jp; rw [lp, bp]; exact ⟨E2', zi, ys, rfl, hu2', hyo, hy1, fun m d' hd' => (hyr m d' hd').mono hkk'⟩
    by_cases jq : j = q
    · subst jq; rw [lq, bq]
      refine ⟨E2', _, rfl, hu2', by rw [Array.size_set, List.length_set]; exact hasz, fun m m' u u' b h1 h2 h3 h4 => ?_, fun m d' hd' => ?_⟩
      · rw [Array.getElem?_set] at h1 h2
        by_cases hmi : i = m
        · rw [if_pos hmi] at h1; cases h1; cases h3
        · by_cases hmi' : i = m'
          · rw [if_pos hmi'] at h2; cases h2; cases h4
          · rw [if_neg hmi] at h1; rw [if_neg hmi'] at h2; exact hsep m m' u u' b h1 h2 h3 h4
      · rw [List.getElem?_set] at hd'
        by_cases hmi : i = m
        · subst hmi
          rw [if_pos rfl, if_pos (by rw [← hasz]; exact hilt)] at hd'
          cases hd'
          exact ⟨[], .slice none 0 0, [], rfl, by rw [Array.getElem?_set, if_pos rfl], World.ownsRow_nil _ _ _ _, fun c hc => by simp at hc, fun j d hd => by simp at hd⟩
        · rw [if_neg hmi] at hd'
          obtain ⟨es', u, us, q1, q2, q3, q4, q5⟩ := hrl m d' hd'
          exact ⟨es', u, us, q1, by rw [Array.getElem?_set, if_neg hmi]; exact q2, q3, q4, fun j d hd => (q5 j d hd).mono hkk'⟩
    by_cases jk : j = k
    · subst jk; rw [lkk]; trivial
    by_cases jl : j = l
    · subst jl; rw [ll, bo j jp jq]
      refine ⟨E, E2, fo, z, xs, _, e1, hu, hh, hu2, hown, hone, bq, by rw [Array.size_set]; exact hsz, fun m d' hd' => ⟨fun e => ((hr m d' hd').1 e).mono hkk', fun e => ?_⟩⟩
      obtain ⟨q1, u, q2, q3, _⟩ := (hr m d' hd').2 e
      refine ⟨q1.mono hkk', u, q2, fun hn => ?_, fun l3 e3 => ?_⟩
      · have hmi : i ≠ m := fun e => hn p (by rw [e])
        rw [Array.getElem?_set, if_neg hmi]
        exact q3 (fun _ => nofun)
      · cases e3
        have := q3 (fun _ => nofun)
        rw [hzi] at this
        rw [bp]; exact this
    · rw [lo j jp jq jk jl, bo j jp jq]
      exact (h.hs j).mono hkk' (fun _ _ _ _ _ => rfl) hE
  · intro j hj
    have := h.kk
    exact bo j (by omega) (by omega)

theorem bifS {A : Type} {b : Bool} {u : Option A} {r : A} (h : (bif b then u else none) = some r) : b = true ∧ u = some r := by
  cases b
  · cases h
  · exact ⟨rfl, h⟩
/-- Where the slice of an element lies, by the types. -/
def holeF (P : Program) (E : TypeId) (c : Option Nat) : Option (TypeId × Nat) := match c with
  | none => bif Nat.beq (P.cellsOf E) 1 then some (E, 0) else none
  | some i => match P.underlying E with
    | some (.struct fs) => match fs[i]? with
      | some f => bif (layB P E fs && Nat.beq (P.cellsOf f.type) 1) then some (f.type, f.offset) else none
      | none => none
    | _ => none
theorem holeF_at {E T2 fo : TypeId} {c : Option Nat} (h : holeF P E c = some (T2, fo)) : HoleAt P E c T2 fo := by
  cases c with
  | none =>
    obtain ⟨h1, h2⟩ := bifS h
    cases h2
    have h1 := Nat.eq_of_beq_eq_true h1
    exact ⟨h1, by omega, .inl ⟨rfl, rfl, rfl⟩⟩
  | some i =>
    simp only [holeF] at h
    split at h
    · rename_i fs hu
      split at h
      · rename_i f hf
        obtain ⟨h1, h2⟩ := bifS h
        cases h2
        rw [Bool.and_eq_true] at h1
        have h3 := Nat.eq_of_beq_eq_true h1.2
        have h4 := lay_in h1.1 hf
        refine ⟨h3, by omega, .inr ⟨i, fs, f, rfl, hu, hf, rfl, rfl, fun j g hg hij => ?_⟩⟩
        rcases lay_apart h1.1 hf hg (fun e => hij e.symm) with h5 | h5
        · left; omega
        · exact .inr h5
      · cases h
    · cases h
theorem hole_det {E T2 fo T3 fo3 : TypeId} {c : Option Nat} (h : HoleAt P E c T2 fo) (h' : HoleAt P E c T3 fo3) : T2 = T3 ∧ fo = fo3 := by
  obtain ⟨_, _, h⟩ := h
  obtain ⟨_, _, h'⟩ := h'
  rcases h with ⟨rfl, rfl, rfl⟩ | ⟨i, fs, f, rfl, h1, h2, rfl, rfl, _⟩
  · rcases h' with ⟨_, rfl, rfl⟩ | ⟨i, _, _, e, _⟩
    · exact ⟨rfl, rfl⟩
    · cases e
  · rcases h' with ⟨e, _⟩ | ⟨i', fs', f', e, h1', h2', rfl, rfl, _⟩
    · cases e
    · cases e
      rw [h1] at h1'; cases h1'
      rw [h2] at h2'; cases h2'
      exact ⟨rfl, rfl⟩
/-- The slice of an element is loaded: it comes to be a row of its own. -/
theorem op_load_hole {T5 T2 E Te k l i p q off d' : Nat} {c : Option Nat} {path : List Nat} {es ls ds : List Dt} {d : Dt} (ho : o.op = .load T x) (hdst : o.dst = some d') (hn : d' < n) (hT : P.underlying T = some (.slice Te)) (hu5 : P.underlying T5 = some (.slice E))
    (hx : Ev P σ x (.eptr l i (P.cellsOf E) path off)) (hf : holeF P E c = some (T, off)) (hl : lk σ.hs l = .rowD T5 T2 c k es none) (hk : lk σ.hs k = .tok T2 ls) (hi : es[i]? = some d) (hd : lkd c d = true) (hls : ls[i]? = some (.lst ds))
    (hp : lk σ.hs p = .free) (hq : lk σ.hs q = .free) (hpq : p ≠ q) (hp0 : σ.k0 ≤ p) (hq0 : σ.k0 ≤ q) :
    OpOK P n o σ ((⟨σ.ts, setO (setO (setO (setO σ.hs l (.rowD T5 T2 c q es (some (i, p)))) k .gone) p (.row T2 ds)) q (.tok T2 (ls.set i (.lst []))), σ.k0⟩ : St).put d' (.row p)) := by
  rintro ok0 w0 a w ⟨β, r⟩ K Q hK
  obtain ⟨β', r', hE, E', E2, fo, z, xs, g1, g2, g3, g4, g5, g6⟩ := r.focus hl hk hi hd hls hp hq hpq hp0 hq0
  obtain rfl : E = E' := by rw [hu5] at g1; cases g1; rfl
  obtain ⟨rfl, rfl⟩ : T = T2 ∧ off = fo := hole_det (holeF_at hf) g2
  have h1 := g2.1
  have hfit := g2.2.1
  have h := (hx _ _ _ _ _ _ r).2 rfl
  generalize hz : a.eval x = zx at h
  cases h with
  | @eptrB _ _ _ _ _ _ hb => exact (ObOK.np (r.hs l) (.inr (.inr ⟨_, _, _, _, _, _, hl⟩)) hb).elim
  | @eptr _ _ _ b m cap _ _ hb =>
    rw [hb] at g4
    cases g4
    have hlen := g5.1
    have hlt : i < es.length := (List.getElem?_eq_some_iff.1 hi).1
    have hmul : (i + 1) * P.cellsOf E ≤ es.length * P.cellsOf E := Nat.mul_le_mul_right _ hlt
    rw [Nat.add_mul, Nat.one_mul] at hmul
    rcases g5.2 with ⟨h2, _⟩ | ⟨g, cap', cur, h2, hg2, hh, hnc, hcm, hsz, htk⟩
    · cases h2
    · cases h2
      have hxi : i * P.cellsOf E + off < xs.length := by omega
      obtain ⟨zi, hzi⟩ : ∃ zi, xs[i * P.cellsOf E + off]? = some zi := ⟨_, List.getElem?_eq_getElem hxi⟩
      have hbp : β' p = some zi := by rw [← g6]; exact hzi
      have hone : zi.oneCell' = true := by
        have hob := r'.hs p
        have hlp : lk (setO (setO (setO (setO σ.hs l (.rowD T5 T c q es (some (i, p)))) k .gone) p (.row T ds)) q (.tok T (ls.set i (.lst [])))) p = .row T ds := by rw [lk_other _ _ _ _ hpq, lk_same]
        rw [hlp, hbp] at hob
        obtain ⟨E3, xs3, _, ho3, _⟩ := ob_row hob
        rcases ho3.2 with ⟨rfl, _⟩ | ⟨g', cap2, cur2, rfl, _⟩ <;> rfl
      obtain ⟨zz, hrun, hrv⟩ := load_rv (P := P) (T := T) (w := w) (β := β') (v := .row p) (ok := okOf ok0 w0 w (setO (setO (setO (setO σ.hs l (.rowD T5 T c q es (some (i, p)))) k .gone) p (.row T ds)) q (.tok T (ls.set i (.lst [])))) β') (ad := ⟨b, i * P.cellsOf E + off, none⟩) (cs := [zi]) hT (by rw [h1]; rfl) (fun j u hj => by
        cases j with
        | zero =>
          cases hj
          rw [add_mk, cell_of_row w b _ cur E (0, 0) hh]
          rw [← htk, List.getElem?_take] at hzi
          split at hzi
          · simpa using hzi
          · cases hzi
        | succ j => cases hj) (fun _ => h1) (by simp [AV.isAgg, aggT, hT]) (.row hbp hone) (fun _ => nofun)
      unfold Oper.wp execOp
      simp only [ho, hz, Sem.run_bind, hrun, Result.andThen_ok, Sem.run_pure]
      refine hK _ _ ?_
      rw [hdst]
      exact ⟨β', r'.put hn hrv⟩
/-- The slice of the element that is out of its row is loaded again. -/
theorem op_load_out {T5 T2 E Te k l i m off d' : Nat} {c : Option Nat} {path : List Nat} {es : List Dt} {d : Dt} (ho : o.op = .load T x) (hdst : o.dst = some d') (hn : d' < n) (hT : P.underlying T = some (.slice Te)) (hu5 : P.underlying T5 = some (.slice E))
    (hx : Ev P σ x (.eptr l i (P.cellsOf E) path off)) (hf : holeF P E c = some (T, off)) (hl : lk σ.hs l = .rowD T5 T2 c k es (some (i, m))) (hi : es[i]? = some d) (hd : lkd c d = true) : OpOK P n o σ (σ.put d' (.row m)) := by
  rintro ok0 w0 a w ⟨β, r⟩ K Q hK
  have hob := r.hs l
  rw [hl] at hob
  obtain ⟨E', E2, fo, z, xs, arr, e1, g1, g2, _, g5, hone, _, _, hrd⟩ := hob
  obtain rfl : E = E' := by rw [hu5] at g1; cases g1; rfl
  obtain ⟨rfl, rfl⟩ : T = T2 ∧ off = fo := hole_det (holeF_at hf) g2
  obtain ⟨_, zi, hzi, _, q4⟩ := (hrd i d hi).2 hd
  have hbm : β m = some zi := q4 m rfl
  have h1 := g2.1
  have h := (hx _ _ _ _ _ _ r).2 rfl
  generalize hz : a.eval x = zx at h
  cases h with
  | @eptrB _ _ _ _ _ _ hb => exact (ObOK.np (r.hs l) (.inr (.inr ⟨_, _, _, _, _, _, hl⟩)) hb).elim
  | @eptr _ _ _ b m' cap _ _ hb =>
    rw [hb] at e1
    cases e1
    rcases g5.2 with ⟨h2, _⟩ | ⟨g, cap', cur, h2, hg2, hh, hnc, hcm, hsz, htk⟩
    · cases h2
    · cases h2
      have hzo : zi.oneCell' = true := hone zi (List.mem_of_getElem? hzi)
      obtain ⟨zz, hrun, hrv⟩ := load_rv (P := P) (T := T) (w := w) (β := β) (v := .row m) (ok := okOf ok0 w0 w σ.hs β) (ad := ⟨b, i * P.cellsOf E + off, none⟩) (cs := [zi]) hT (by rw [h1]; rfl) (fun j u hj => by
        cases j with
        | zero =>
          cases hj
          rw [add_mk, cell_of_row w b _ cur E (0, 0) hh]
          rw [← htk, List.getElem?_take] at hzi
          split at hzi
          · simpa using hzi
          · cases hzi
        | succ j => cases hj) (fun _ => h1) (by simp [AV.isAgg, aggT, hT]) (.row hbm hzo) (fun _ => nofun)
      unfold Oper.wp execOp
      simp only [ho, hz, Sem.run_bind, hrun, Result.andThen_ok, Sem.run_pure]
      refine hK _ _ ?_
      rw [hdst]
      exact ⟨β, r.put hn hrv⟩
theorem seg_set {cs : List Value} {fo o1 m : Nat} {u : Value} (h : fo < o1 ∨ o1 + m ≤ fo) : (((cs.set fo u).drop o1).take m) = (cs.drop o1).take m := by
  apply List.ext_getElem?
  intro k
  rw [seg_get, seg_get]
  split
  · rw [List.getElem?_set, if_neg (by omega)]
  · rfl
theorem seg_one {cs : List Value} {fo : Nat} {u : Value} (h : cs[fo]? = some u) : (cs.drop fo).take 1 = [u] := by
  have hl := (List.getElem?_eq_some_iff.1 h).1
  rw [List.drop_eq_getElem_cons hl, List.take_succ_cons, List.take_zero]
  have := List.getElem?_eq_getElem hl
  rw [h] at this; cases this; rfl
theorem lkd_agg {i : Nat} {d : Dt} (h : lkd (some i) d = true) : ∃ ds b, d = .agg ds ∧ ds[i]? = some (.bool b) := by
  cases d with
  | agg ds =>
    simp only [lkd] at h
    split at h
    · rename_i b hb; exact ⟨ds, b, rfl, hb⟩
    · cases h
  | _ => simp [lkd] at h
/-- An element and the slice that it owns are plain data when the slice's block may be read. -/
theorem hole_fill {ok : Nat → Prop} {E T2 E2 fo : TypeId} {c : Option Nat} {d : Dt} {ds : List Dt} {zi : Value} {seg : List Value} (hh : HoleAt P E c T2 fo) (hu2 : P.underlying T2 = some (.slice E2))
    (hr : RD P ok w E (hol c d (.lst [])) (seg.set fo (.slice none 0 0))) (hz : seg[fo]? = some zi) (hz1 : zi.oneCell' = true) (hzr : RD P ok w T2 (.lst ds) [zi]) (hlk : lkd c d = true) : RD P ok w E (hol c d (.lst ds)) seg := by
  obtain ⟨h1, _, hh⟩ := hh
  rcases hh with ⟨rfl, rfl, rfl⟩ | ⟨i, fs, f, rfl, hu, hf, rfl, rfl, hap⟩
  · obtain ⟨_, a, cap, ad, g, e2, _⟩ := hr.lst_inv hu2
    have hl := congrArg List.length e2
    rw [List.length_set] at hl
    match seg, hl, hz with
    | [u], _, hz => cases hz; exact hzr
  · obtain ⟨ds0, b, rfl, hb⟩ := lkd_agg hlk
    have hil := (List.getElem?_eq_some_iff.1 hb).1
    obtain ⟨⟨dd, e, hl⟩, hc, hone, hfl⟩ := hr.agg_inv hu
    have e : Dt.agg (ds0.set i (.lst [])) = .agg dd := e
    cases e
    rw [List.length_set] at hl hc
    refine .agg hu (by rw [List.length_set]; exact hl) hc (fun u hu' => ?_) fun j g d' hg hd' => ?_
    · obtain ⟨k, hk⟩ := List.getElem?_of_mem hu'
      by_cases hkf : f.offset = k
      · subst hkf; rw [hz] at hk; cases hk; exact hz1
      · exact hone u (List.mem_of_getElem? (i := k) (by rw [List.getElem?_set, if_neg hkf]; exact hk))
    · rw [List.getElem?_set] at hd'
      by_cases hij : i = j
      · subst hij
        rw [hf] at hg; cases hg
        rw [if_pos rfl, if_pos hil] at hd'
        cases hd'
        rw [h1, seg_one hz]
        exact hzr
      · rw [if_neg hij] at hd'
        have := hfl j g hg
        rw [seg_set (hap j g hg fun e => hij e.symm)] at this
        have e : (Dt.agg (ds0.set i (.lst []))).fld j = d' := by
          show (ds0.set i (.lst [])).getD j _ = d'
          rw [List.getD, List.getElem?_set, if_neg hij, hd']
          rfl
        have this' : RD P ok w g.type ((Dt.agg (ds0.set i (.lst []))).fld j) ((seg.drop g.offset).take (P.cellsOf g.type)) := this
        rw [e] at this'
        exact this'
/-- The row of its own goes back into its element; 'q' the new token. -/
theorem RelB.unfocus (h : RelB P K w0 n σ a w β) {T5 T2 k l i m q : Nat} {c : Option Nat} {es ls ds : List Dt} (hl : lk σ.hs l = .rowD T5 T2 c k es (some (i, m))) (hk : lk σ.hs k = .tok T2 ls) (hm : lk σ.hs m = .row T2 ds) (hq : lk σ.hs q = .free) (hq0 : σ.k0 ≤ q) :
    ∃ β', RelB P K w0 n ⟨σ.ts, setO (setO (setO (setO σ.hs l (.rowD T5 T2 c q es none)) k .gone) m .gone) q (.tok T2 (ls.set i (.lst ds))), σ.k0⟩ a w β' := by
  have hol := h.hs l
  rw [hl] at hol
  obtain ⟨E, E2, fo, z, xs, arr, e1, hu, hh, hu2, hown, hone, hβk, hsz, hr⟩ := hol
  have hok := h.hs k
  rw [hk, hβk] at hok
  obtain ⟨E2', arr', e2, hu2', hasz, hsep, hrl⟩ := hok
  cases e2
  have hom := h.hs m
  rw [hm] at hom
  obtain ⟨E3, zm, ys, e3, hu3, hyo, hy1, hyr⟩ := hom
  obtain rfl : E2' = E3 := by rw [hu2'] at hu3; cases hu3; rfl
  have fq : β q = none := by have := h.hs q; rw [hq] at this; exact this
  have hlq : l ≠ q := fun e => by rw [e, hq] at hl; cases hl
  have hlk : l ≠ k := fun e => by rw [e, hk] at hl; cases hl
  have hlm : l ≠ m := fun e => by rw [e, hm] at hl; cases hl
  have hkm : k ≠ m := fun e => by rw [e, hm] at hk; cases hk
  have hkq : k ≠ q := fun e => by rw [e, hq] at hk; cases hk
  have hmq : m ≠ q := fun e => by rw [e, hq] at hm; cases hm
  let β' := upB β q (some (.tuple (arr.setIfInBounds i zm)))
  have bq : β' q = some (.tuple (arr.setIfInBounds i zm)) := upB_same _ _ _
  have bo : ∀ j, j ≠ q → β' j = β j := fun j h1 => upB_other _ _ _ _ h1
  have hE : Ext β β' := fun j u hj => by
    by_cases j2 : j = q
    · subst j2; rw [fq] at hj; cases hj
    · rw [bo j j2]; exact hj
  let hs' := setO (setO (setO (setO σ.hs l (.rowD T5 T2 c q es none)) k .gone) m .gone) q (.tok T2 (ls.set i (.lst ds)))
  have lq : lk hs' q = .tok T2 (ls.set i (.lst ds)) := lk_same _ _ _
  have lm : lk hs' m = .gone := by show lk (setO _ q _) m = _; rw [lk_other _ _ _ _ hmq, lk_same]
  have lkk : lk hs' k = .gone := by show lk (setO _ q _) k = _; rw [lk_other _ _ _ _ hkq, lk_other _ _ _ _ hkm, lk_same]
  have ll : lk hs' l = .rowD T5 T2 c q es none := by show lk (setO _ q _) l = _; rw [lk_other _ _ _ _ hlq, lk_other _ _ _ _ hlm, lk_other _ _ _ _ hlk, lk_same]
  have lo : ∀ j, j ≠ m → j ≠ q → j ≠ k → j ≠ l → lk hs' j = lk σ.hs j := fun j h1 h2 h3 h4 => by show lk (setO _ q _) j = _; rw [lk_other _ _ _ _ h2, lk_other _ _ _ _ h1, lk_other _ _ _ _ h3, lk_other _ _ _ _ h4]
  have kown : ∀ (j : Nat) (u : Value) (b : Nat), arr[j]? = some u → blk u = some b → owns σ.hs β k b := fun j u b h1 h2 => ⟨by rw [hk]; rfl, _, hβk, .inr ⟨arr, rfl, j, u, h1, h2⟩⟩
  have mown : ∀ b, blk zm = some b → owns σ.hs β m b := fun b h1 => ⟨by rw [hm]; rfl, _, e3, .inl h1⟩
  have hw : ∀ j b, owns hs' β' j b → (j = q ∧ (owns σ.hs β m b ∨ owns σ.hs β k b)) ∨ (j ≠ m ∧ j ≠ q ∧ j ≠ k ∧ owns σ.hs β j b) := by
    rintro j b ⟨h1, u, h2, h3⟩
    by_cases jq : j = q
    · subst jq; rw [bq] at h2; cases h2
      obtain ⟨x, u, hx, hb⟩ := tok_blk h3
      rw [Array.getElem?_setIfInBounds] at hx
      by_cases hxi : i = x
      · rw [if_pos hxi] at hx
        split at hx
        · cases hx; exact .inl ⟨rfl, .inl (mown b hb)⟩
        · cases hx
      · rw [if_neg hxi] at hx; exact .inl ⟨rfl, .inr (kown x u b hx hb)⟩
    by_cases jk : j = k
    · subst jk; rw [lkk] at h1; cases h1
    by_cases jm : j = m
    · subst jm; rw [lm] at h1; cases h1
    rw [bo j jq] at h2
    refine .inr ⟨jm, jq, jk, ?_, u, h2, h3⟩
    by_cases jl : j = l
    · subst jl; rw [hl]; rfl
    · rw [lo j jm jq jk jl] at h1; exact h1
  refine ⟨β', h.re hs' β' hE ?_ ?_ ?_ ?_⟩
  · intro j b hj
    rcases hw j b hj with ⟨_, hb | hb⟩ | ⟨_, _, _, hb⟩
    · exact ⟨m, hb⟩
    · exact ⟨k, hb⟩
    · exact ⟨j, hb⟩
  · intro j j' b hj hj'
    rcases hw j b hj with ⟨e, hb⟩ | ⟨f1, _, f3, hb⟩
    · rcases hw j' b hj' with ⟨e', hb'⟩ | ⟨f1', _, f3', hb'⟩
      · rw [e, e']
      · rcases hb with hb | hb
        · exact absurd (h.sep _ _ _ hb' hb) f1'
        · exact absurd (h.sep _ _ _ hb' hb) f3'
    · rcases hw j' b hj' with ⟨e', hb'⟩ | ⟨_, _, _, hb'⟩
      · rcases hb' with hb' | hb'
        · exact absurd (h.sep _ _ _ hb hb') f1
        · exact absurd (h.sep _ _ _ hb hb') f3
      · exact h.sep _ _ _ hb hb'
  · intro hkk j
    have hkk' : ∀ b, okOf K w0 w σ.hs β b → okOf K w0 w hs' β' b ∧ w.heap[b]? = w.heap[b]? := fun b hb => ⟨hkk b hb, rfl⟩
    by_cases jq : j = q
    · subst jq; rw [lq, bq]
      refine ⟨E2', _, rfl, hu2', by rw [Array.size_setIfInBounds, List.length_set]; exact hasz, fun x x' u u' b h1 h2 h3 h4 => ?_, fun x d' hd' => ?_⟩
      · rw [Array.getElem?_setIfInBounds] at h1 h2
        by_cases hxi : i = x
        · by_cases hxi' : i = x'
          · omega
          · rw [if_pos hxi] at h1; rw [if_neg hxi'] at h2
            split at h1
            · cases h1; exact absurd (h.sep _ _ _ (kown x' u' b h2 h4) (mown b h3)) hkm
            · cases h1
        · by_cases hxi' : i = x'
          · rw [if_neg hxi] at h1; rw [if_pos hxi'] at h2
            split at h2
            · cases h2; exact absurd (h.sep _ _ _ (kown x u b h1 h3) (mown b h4)) hkm
            · cases h2
          · rw [if_neg hxi] at h1; rw [if_neg hxi'] at h2; exact hsep x x' u u' b h1 h2 h3 h4
      · rw [List.getElem?_set] at hd'
        by_cases hxi : i = x
        · subst hxi
          rw [if_pos rfl] at hd'
          split at hd'
          · rename_i hi
            cases hd'
            exact ⟨ds, zm, ys, rfl, by rw [Array.getElem?_setIfInBounds, if_pos rfl, if_pos (by omega)], hyo, hy1, fun j d hd => (hyr j d hd).mono hkk'⟩
          · cases hd'
        · rw [if_neg hxi] at hd'
          obtain ⟨es', u, us, q1, q2, q3, q4, q5⟩ := hrl x d' hd'
          exact ⟨es', u, us, q1, by rw [Array.getElem?_setIfInBounds, if_neg hxi]; exact q2, q3, q4, fun j d hd => (q5 j d hd).mono hkk'⟩
    by_cases jk : j = k
    · subst jk; rw [lkk]; trivial
    by_cases jm : j = m
    · subst jm; rw [lm]; trivial
    by_cases jl : j = l
    · subst jl; rw [ll, bo j jq]
      refine ⟨E, E2, fo, z, xs, _, e1, hu, hh, hu2, hown, hone, bq, by rw [Array.size_setIfInBounds]; exact hsz, fun x d' hd' => ⟨fun e => ((hr x d' hd').1 e).mono hkk', fun e => ?_⟩⟩
      obtain ⟨q1, u, q2, q3, q4⟩ := (hr x d' hd').2 e
      refine ⟨q1.mono hkk', u, q2, fun _ => ?_, nofun⟩
      rw [Array.getElem?_setIfInBounds]
      by_cases hxi : i = x
      · have hxl : x < es.length := (List.getElem?_eq_some_iff.1 hd').1
        rw [if_pos hxi, if_pos (by omega)]
        have := q4 m (by rw [hxi])
        rw [e3] at this
        exact this
      · rw [if_neg hxi]
        exact q3 fun l3 e => hxi (by cases e; rfl)
    · rw [lo j jm jq jk jl, bo j jq]
      exact (h.hs j).mono hkk' (fun _ _ _ _ _ => rfl) hE
  · intro j hj
    have := h.kk
    exact bo j (by omega)
/-- An empty row may hold elements that own slices. -/
theorem RelB.toD (h : RelB P K w0 n σ a w β) {T5 E T2 E2 fo l q : Nat} {c : Option Nat} (hl : lk σ.hs l = .row T5 []) (hu : P.underlying T5 = some (.slice E)) (hh : HoleAt P E c T2 fo) (hu2 : P.underlying T2 = some (.slice E2)) (hq : lk σ.hs q = .free) (hq0 : σ.k0 ≤ q) :
    ∃ β', RelB P K w0 n ⟨σ.ts, setO (setO σ.hs l (.rowD T5 T2 c q [] none)) q (.tok T2 []), σ.k0⟩ a w β' := by
  have fq : β q = none := by have := h.hs q; rw [hq] at this; exact this
  have hlq : l ≠ q := fun e => by rw [e, hq] at hl; cases hl
  have hol := h.hs l
  rw [hl] at hol
  obtain ⟨E', z, xs, e1, hu', hown, hone, _⟩ := hol
  obtain rfl : E = E' := by rw [hu] at hu'; cases hu'; rfl
  let β' := upB β q (some (.tuple #[]))
  have bo : ∀ j, j ≠ q → β' j = β j := fun j h1 => upB_other _ _ _ _ h1
  have bq : β' q = some (.tuple #[]) := upB_same _ _ _
  have hE : Ext β β' := fun j u hj => by
    by_cases j2 : j = q
    · subst j2; rw [fq] at hj; cases hj
    · rw [bo j j2]; exact hj
  have ll : lk (setO (setO σ.hs l (.rowD T5 T2 c q [] none)) q (.tok T2 [])) l = .rowD T5 T2 c q [] none := by rw [lk_other _ _ _ _ hlq, lk_same]
  have lo : ∀ j, j ≠ q → j ≠ l → lk (setO (setO σ.hs l (.rowD T5 T2 c q [] none)) q (.tok T2 [])) j = lk σ.hs j := fun j h1 h2 => by rw [lk_other _ _ _ _ h1, lk_other _ _ _ _ h2]
  have hw : ∀ j b, owns (setO (setO σ.hs l (.rowD T5 T2 c q [] none)) q (.tok T2 [])) β' j b → owns σ.hs β j b := by
    rintro j b ⟨h1, u, h2, h3⟩
    by_cases jq : j = q
    · subst jq; rw [bq] at h2; cases h2
      obtain ⟨x, u, hx, _⟩ := tok_blk h3
      simp at hx
    · rw [bo j jq] at h2
      refine ⟨?_, u, h2, h3⟩
      by_cases jl : j = l
      · subst jl; rw [hl]; rfl
      · rw [lo j jq jl] at h1; exact h1
  refine ⟨β', h.re _ β' hE (fun j b hj => ⟨j, hw j b hj⟩) (fun j j' b h1 h2 => h.sep _ _ _ (hw j b h1) (hw j' b h2)) (fun hkk j => ?_) fun j hj => ?_⟩
  · have hkk' : ∀ b, okOf K w0 w σ.hs β b → okOf K w0 w _ β' b ∧ w.heap[b]? = w.heap[b]? := fun b hb => ⟨hkk b hb, rfl⟩
    by_cases jq : j = q
    · subst jq; rw [lk_same, bq]; exact ⟨E2, #[], rfl, hu2, rfl, fun i j zi zj b h => by simp at h, fun i d hd => by simp at hd⟩
    by_cases jl : j = l
    · subst jl; rw [ll, bo j jq]; exact ⟨E, E2, fo, z, xs, #[], e1, hu, hh, hu2, hown, hone, bq, Nat.zero_le _, fun i d hd => by simp at hd⟩
    · rw [lo j jq jl, bo j jq]; exact (h.hs j).mono hkk' (fun _ _ _ _ _ => rfl) hE
  · have := h.kk
    exact bo j (by omega)
/-- The elements with their slices. -/
def frzD (c : Option Nat) : List Dt → List Dt → List Dt
  | [], _ => []
  | d :: es, ls => (bif lkd c d then hol c d (ls.headD (.lst [])) else d) :: frzD c es ls.tail
theorem frzD_len (c : Option Nat) : ∀ es ls : List Dt, (frzD c es ls).length = es.length
  | [], _ => rfl
  | _ :: es, ls => by rw [frzD, List.length_cons, frzD_len c es, List.length_cons]
theorem frzD_get (c : Option Nat) : ∀ (es ls : List Dt) (i : Nat) (d : Dt), (frzD c es ls)[i]? = some d → ∃ e, es[i]? = some e ∧ d = bif lkd c e then hol c e (ls.getD i (.lst [])) else e
  | [], _, _, _, h => by simp [frzD] at h
  | e :: es, ls, 0, d, h => by
    simp only [frzD, List.getElem?_cons_zero, Option.some.injEq] at h
    refine ⟨e, rfl, ?_⟩
    rw [← h]
    cases ls <;> rfl
  | e :: es, ls, i + 1, d, h => by
    simp only [frzD, List.getElem?_cons_succ] at h
    obtain ⟨e', h1, h2⟩ := frzD_get c es ls.tail i d h
    refine ⟨e', h1, ?_⟩
    rw [h2]
    cases ls <;> rfl
/-- The row is plain from now on: its elements' slices may be read. -/
theorem RelB.freezeD (h : RelB P K w0 n σ a w β) {T5 T2 k l : Nat} {c : Option Nat} {es ls : List Dt} (hl : lk σ.hs l = .rowD T5 T2 c k es none) (hk : lk σ.hs k = .tok T2 ls) : RelB P K w0 n ⟨σ.ts, setO (setO σ.hs l (.row T5 (frzD c es ls))) k .gone, σ.k0⟩ a w β := by
  have hol := h.hs l
  rw [hl] at hol
  obtain ⟨E, E2, fo, z, xs, arr, e1, hu, hh, hu2, hown, hone, hβk, hsz, hr⟩ := hol
  have hok := h.hs k
  rw [hk, hβk] at hok
  obtain ⟨E2', arr', e2, hu2', hasz, hsep, hrl⟩ := hok
  cases e2
  obtain rfl : E2 = E2' := by rw [hu2] at hu2'; cases hu2'; rfl
  have hlk : l ≠ k := fun e => by rw [e, hk] at hl; cases hl
  have lkk : lk (setO (setO σ.hs l (.row T5 (frzD c es ls))) k .gone) k = .gone := lk_same _ _ _
  have ll : lk (setO (setO σ.hs l (.row T5 (frzD c es ls))) k .gone) l = .row T5 (frzD c es ls) := by rw [lk_other _ _ _ _ hlk, lk_same]
  have lo : ∀ j, j ≠ k → j ≠ l → lk (setO (setO σ.hs l (.row T5 (frzD c es ls))) k .gone) j = lk σ.hs j := fun j h1 h2 => by rw [lk_other _ _ _ _ h1, lk_other _ _ _ _ h2]
  have kown : ∀ (j : Nat) (u : Value) (b : Nat), arr[j]? = some u → blk u = some b → owns σ.hs β k b := fun j u b h1 h2 => ⟨by rw [hk]; rfl, _, hβk, .inr ⟨arr, rfl, j, u, h1, h2⟩⟩
  have hw : ∀ j b, owns (setO (setO σ.hs l (.row T5 (frzD c es ls))) k .gone) β j b → j ≠ k ∧ owns σ.hs β j b := by
    rintro j b ⟨h1, u, h2, h3⟩
    by_cases jk : j = k
    · subst jk; rw [lkk] at h1; cases h1
    refine ⟨jk, ?_, u, h2, h3⟩
    by_cases jl : j = l
    · subst jl; rw [hl]; rfl
    · rw [lo j jk jl] at h1; exact h1
  refine h.re _ β (Ext.refl _) (fun j b hj => ⟨j, (hw j b hj).2⟩) (fun j j' b h1 h2 => h.sep _ _ _ (hw j b h1).2 (hw j' b h2).2) (fun hkk j => ?_) fun j hj => rfl
  have hkk' : ∀ b, okOf K w0 w σ.hs β b → okOf K w0 w (setO (setO σ.hs l (.row T5 (frzD c es ls))) k .gone) β b ∧ w.heap[b]? = w.heap[b]? := fun b hb => ⟨hkk b hb, rfl⟩
  have hkb : ∀ b, owns σ.hs β k b → okOf K w0 w (setO (setO σ.hs l (.row T5 (frzD c es ls))) k .gone) β b := fun b hb => h.okU hb fun j hj => (hw j b hj).1 (h.sep _ _ _ (hw j b hj).2 hb)
  by_cases jk : j = k
  · subst jk; rw [lkk]; trivial
  by_cases jl : j = l
  · subst jl; rw [ll]
    refine ⟨E, z, xs, e1, hu, by rw [frzD_len]; exact hown, hone, fun i d hd => ?_⟩
    obtain ⟨e, he, rfl⟩ := frzD_get c es ls i d hd
    obtain ⟨q0, q1⟩ := hr i e he
    cases hlk' : lkd c e with
    | false => exact (q0 hlk').mono hkk'
    | true =>
      obtain ⟨r1, zi, r2, r3, _⟩ := q1 hlk'
      have r3 := r3 (fun _ => nofun)
      have hil : i < ls.length := by rw [← hasz]; exact (Array.getElem?_eq_some_iff.1 r3).1
      obtain ⟨es', zi', ys, s1, s2, s3, s4, s5⟩ := hrl i _ (List.getElem?_eq_getElem hil)
      rw [r3] at s2; cases s2
      rw [cond_true, List.getD, List.getElem?_eq_getElem hil, s1]
      have hlen := hown.1
      have hlt : i < es.length := (List.getElem?_eq_some_iff.1 he).1
      have hmul : (i + 1) * P.cellsOf E ≤ es.length * P.cellsOf E := Nat.mul_le_mul_right _ hlt
      rw [Nat.add_mul, Nat.one_mul] at hmul
      have hfo := hh.2.1
      refine hole_fill hh hu2 (r1.mono hkk') (by rw [seg_get, if_pos hfo]; exact r2) ?_ (row_rd hu2 s3 s4 s5 hkk fun b hb => hkb b (kown i zi b r3 hb)) hlk'
      rcases s3.2 with ⟨rfl, _⟩ | ⟨g', cap2, cur2, rfl, _⟩ <;> rfl
  · rw [lo j jk jl]; exact (h.hs j).mono hkk' (fun _ _ _ _ _ => rfl) (Ext.refl _)
theorem op_len_rowD {d l : Nat} {TI T4 E' T3 T2 k E : TypeId} {c : Option Nat} {es : List Dt} {h : Option (Nat × Nat)} (ho : o.op = .call { callee := .builtin .len, args := #[x], argTypes := #[T4] }) (hd : o.dst = some d) (hn : d < n)
    (hi : P.underlying TI = some (.int .i64)) (hu4 : P.underlying T4 = some (.slice E')) (hx : Ev P σ x (.row l)) (hl : lk σ.hs l = .rowD T3 T2 c k es h) : OpOK P n o σ (σ.put d (.dat TI (.int (es.length : Int)))) :=
  opOK_val hd hn fun ok0 w0 a w β r => by
    have e1 := row_eval (hx _ _ _ _ _ _ r)
    have hob := r.hs l
    rw [hl, e1] at hob
    obtain ⟨E2, _, _, z, xs, _, ez, _, _, _, hown, _⟩ := hob
    cases ez
    have hz : ∃ a0 cap, a.eval x = .slice a0 es.length cap ∧ es.length ≤ maxLen := by
      rcases hown.2 with ⟨h1, h2⟩ | ⟨g, cap, cur, h1, _, _, h3, h4, _⟩
      · exact ⟨none, 0, by rw [h1, h2], by rw [h2]; exact Nat.zero_le _⟩
      · exact ⟨_, cap, h1, by omega⟩
    obtain ⟨a0, cap, e2, b⟩ := hz
    exact ⟨.int .i64 (es.length : Int), by simp [execOp, ho, e2, resolve, invoke, builtin, Builtin.len_, run_underlying hu4, goInt], RV.mk_int hi (i64_len b).1 (i64_len b).2⟩
theorem op_index_rowD {d l : Nat} {E TI T5 T2 k : TypeId} {c : Option Nat} {es : List Dt} {h : Option (Nat × Nat)} {i : Int} {kk : IntKind} (ho : o.op = .indexAddr T x y) (hd : o.dst = some d) (hn : d < n) (hu : P.underlying T = some (.slice E)) (h0 : P.cellsOf E ≠ 0)
    (hi : P.underlying TI = some (.int kk)) (hx : Ev P σ x (.row l)) (hy : Ev P σ y (.dat TI (.int i))) (hl : lk σ.hs l = .rowD T5 T2 c k es h) (hi0 : 0 ≤ i) (he : i < es.length) : OpOK P n o σ (σ.put d (.eptr l i.toNat (P.cellsOf E) [] 0)) :=
  opOK_val hd hn fun ok0 w0 a w β r => by
    obtain ⟨_, e2, _⟩ := RV.int hi (hy _ _ _ _ _ _ r)
    simp only [Dt.toInt] at e2
    have ex := row_eval (hx _ _ _ _ _ _ r)
    have hob := r.hs l
    rw [hl, ex] at hob
    obtain ⟨E', _, _, z, xs, _, ez, _, _, _, hown, _⟩ := hob
    cases ez
    rcases hown.2 with ⟨h2, h3⟩ | ⟨g, cap, cur, h2, _⟩
    · omega
    · refine ⟨_, ?_, eptr_rv (by rw [ex, h2])⟩
      simp only [execOp, ho, h2, e2, Sem.run_bind, run_indexAt w hu h0 hi0 he, Result.andThen_ok, Sem.run_pure, add_mk, Nat.zero_add, Nat.add_zero]
/-- What is put into an element: plain data around the row 'm'. -/
def ElemOK (P : Program) (hs : List Ob) (E : TypeId) (c : Option Nat) (fo : Nat) (v : AV) (d' : Dt) (m : Nat) : Prop := lkd c d' = true ∧ ∀ (ok : Nat → Prop) (w : World) (β : Nat → Option Value) (us : List Value), FrzOK P ok w β hs → RA P ok w β v us → us.length = P.cellsOf E →
  RD P ok w E (hol c d' (.lst [])) (us.set fo (.slice none 0 0)) ∧ ∃ zi, us[fo]? = some zi ∧ β m = some zi
theorem op_storeD {l i m k fo : Nat} {E T5 T2 : TypeId} {c : Option Nat} {es : List Dt} {d' : Dt} {h : Option (Nat × Nat)} (ho : o.op = .store E x y) (hd : o.dst = none) (h0 : P.cellsOf E ≠ 0)
    (hx : Ev P σ x (.eptr l i (P.cellsOf E) [] 0)) (hy : Ev P σ y v) (hv0 : v ≠ .dead) (hv1 : ∀ vs, v ≠ .tup vs)
    (hs : ∀ (ok : Nat → Prop) (w : World) (β : Nat → Option Value) (cs : List Value), RA P ok w β v cs → (v.isAgg P = false → cs.length = 1) → cs.length = P.cellsOf E)
    (hl : lk σ.hs l = .rowD T5 T2 c k es h) (hu5 : P.underlying T5 = some (.slice E)) (hi : i < es.length) (hh : HoleAt P E c T2 fo) (hho : ∀ j m', h = some (j, m') → j = i) (hel : ElemOK P σ.hs E c fo v d' m) : OpOK P n o σ (σ.lay l (.rowD T5 T2 c k (es.set i d') (some (i, m)))) := by
  rintro ok0 w0 a w ⟨β, r⟩ K Q hK
  have h' := (hx _ _ _ _ _ _ r).2 rfl
  generalize hz : a.eval x = z at h'
  cases h' with
  | @eptrB _ _ _ _ _ _ hb => exact (ObOK.np (r.hs l) (.inr (.inr ⟨_, _, _, _, _, _, hl⟩)) hb).elim
  | @eptr _ _ _ b mm cap _ _ hb =>
    have hv := RV.to1 hv0 hv1 (hy _ _ _ _ _ _ r)
    have hc := hv.cells
    have hsz : (a.eval y).cells.size = P.cellsOf E := by
      have := hs _ _ _ _ hc (fun hi => by
        have hr := hv.2 hi
        have h1' := hr.oneCell (a.eval y) (by simp)
        generalize a.eval y = z at h1'
        cases z <;> simp_all [Value.cells, Value.oneCell'])
      simpa using this
    have hob := r.hs l
    rw [hl, hb] at hob
    obtain ⟨E', E2, fo', z', xs, arr, e1, hu', hh', hu2, hown, hone, hβk, hasz, hrd⟩ := hob
    cases e1
    obtain rfl : E = E' := by rw [hu5] at hu'; cases hu'; rfl
    obtain rfl := (hole_det hh hh').2
    have hfo := hh.2.1
    have hlen := hown.1
    rcases hown.2 with ⟨h2, _⟩ | ⟨g, cap', cur, h2, hg2, hheap, hnc, hcm, hcsz, htk⟩
    · cases h2
    · obtain ⟨rfl, rfl, rfl⟩ : b = g ∧ mm = es.length ∧ cap = cap' := by cases h2; exact ⟨rfl, rfl, rfl⟩
      have how : owns σ.hs β l b := ⟨by rw [hl]; rfl, _, hb, .inl rfl⟩
      have hmul : (i + 1) * P.cellsOf E ≤ es.length * P.cellsOf E := Nat.mul_le_mul_right _ hi
      have hmul2 : es.length * P.cellsOf E ≤ cap * P.cellsOf E := Nat.mul_le_mul_right _ hnc
      rw [Nat.add_mul, Nat.one_mul] at hmul
      have hul : (a.eval y).cells.toList.length = P.cellsOf E := by simpa using hsz
      have hrun := run_storeAt_block (P := P) (T := E) (off := i * P.cellsOf E + 0) w hheap hsz h0 (by omega) (fun u hu => hc.oneCell u hu)
      unfold Oper.wp execOp
      simp only [ho, hz, Sem.run_bind, hrun, Result.andThen_ok, Sem.run_pure]
      refine hK _ _ ?_
      rw [hd]
      have hfit : i * P.cellsOf E + 0 + (a.eval y).cells.toList.length ≤ cur.toList.length := by simp; omega
      have hslen := splice_len hfit
      refine ⟨_, r.upd l (.rowD T5 T2 c k (es.set i d') (some (i, m))) (β l) _ (.inl rfl) rfl rfl rfl (by simp) (fun b2 hb2 hne => setRow_other w _ _ _ fun e => hne (by rw [e]; exact how)) (fun z2 b2 _ hz2 hb2 => .inr ⟨by rw [hl]; rfl, z2, hz2, hb2⟩) fun hx hk => ?_⟩
      have hfx : i * P.cellsOf E + 0 + (a.eval y).cells.toList.length ≤ xs.length := by simp; omega
      obtain ⟨g1, g2⟩ := hel
      refine ⟨E, E2, fo, _, splice xs (i * P.cellsOf E + 0) (a.eval y).cells.toList, arr, hb, hu5, hh, hu2, ⟨?_, .inr ⟨b, cap, (splice cur.toList (i * P.cellsOf E + 0) (a.eval y).cells.toList).toArray, ?_, hg2, setRow_heap w b cur _ E _ hheap, by simpa using hnc, hcm, ?_, ?_⟩⟩, ?_, hx _ _ hβk, by rw [List.length_set]; exact hasz, ?_⟩
      · rw [splice_len hfx]; simpa using hlen
      · simp
      · rw [List.size_toArray, hslen]; simpa using hcsz
      · apply List.ext_getElem?
        intro j
        simp only [List.length_set]
        rw [List.getElem?_take, splice_get hfx]
        split
        · rw [splice_get hfit]
          split
          · rfl
          · rw [← htk, List.getElem?_take, if_pos (by assumption)]
        · rw [if_neg (by omega), List.getElem?_eq_none (by omega)]
      · intro u hu2
        obtain ⟨j, hj⟩ := List.getElem?_of_mem hu2
        rw [splice_get hfx] at hj
        split at hj
        · exact hc.oneCell u (List.mem_of_getElem? hj)
        · exact hone u (List.mem_of_getElem? hj)
      · intro j u hj
        rw [List.getElem?_set] at hj
        by_cases hij : i = j
        · subst hij
          simp only [if_true, hi, Option.some.injEq] at hj
          subst hj
          refine ⟨fun e => (by rw [g1] at e; cases e), fun _ => ?_⟩
          obtain ⟨q1, zi, q2, q3⟩ := g2 _ _ _ _ r.frzOK hc hul
          rw [splice_in (by omega) (by omega), splice_all (by simp only [List.length_take, List.length_drop]; omega)]
          refine ⟨q1.mono hk, zi, ?_, fun hn => absurd rfl (hn m), fun l3 e => ?_⟩
          · rw [splice_get hfx, if_pos (by omega)]
            rw [← q2]; congr 1; omega
          · cases e; exact hx _ _ q3
        · simp only [hij, if_false] at hj
          have hjlt : j < es.length := (List.getElem?_eq_some_iff.1 hj).1
          have hmulj : (j + 1) * P.cellsOf E ≤ es.length * P.cellsOf E := Nat.mul_le_mul_right _ hjlt
          rw [Nat.add_mul, Nat.one_mul] at hmulj
          have hap : j * P.cellsOf E + P.cellsOf E ≤ i * P.cellsOf E + 0 ∨ i * P.cellsOf E + 0 + (a.eval y).cells.toList.length ≤ j * P.cellsOf E := by
            rcases Nat.lt_or_gt_of_ne hij with h | h
            · right
              have := Nat.mul_le_mul_right (P.cellsOf E) (show i + 1 ≤ j from h)
              rw [Nat.add_mul, Nat.one_mul] at this
              omega
            · left
              have := Nat.mul_le_mul_right (P.cellsOf E) (show j + 1 ≤ i from h)
              rw [Nat.add_mul, Nat.one_mul] at this
              omega
          rw [splice_far hfx hap, splice_get hfx, if_neg (by omega)]
          obtain ⟨q0, q1⟩ := hrd j u hj
          refine ⟨fun e => (q0 e).mono hk, fun e => ?_⟩
          obtain ⟨q1, zi, q2, q3, q4⟩ := q1 e
          refine ⟨q1.mono hk, zi, q2, fun _ => q3 fun l3 e3 => hij (hho _ _ e3).symm, fun l3 e3 => ?_⟩
          cases e3; exact absurd rfl hij
/-- An element that is the slice itself. -/
theorem elem_none {E E2 : TypeId} {m : Nat} {hs : List Ob} (hu : P.underlying E = some (.slice E2)) (h1 : P.cellsOf E = 1) : ElemOK P hs E none 0 (.row m) (.bool true) m := by
  refine ⟨rfl, fun ok w β us _ h hl => ?_⟩
  cases h with
  | row h _ => exact ⟨RD.nil hu, _, rfl, h⟩
/-- An element with a field that is a row. -/
theorem elem_some {E T2 E2 fo : TypeId} {f m : Nat} {hs : List Ob} {vs : List AV} {e' : Dt} (hh : HoleAt P E (some f) T2 fo) (hu2 : P.underlying T2 = some (.slice E2)) (hv : vs[f]? = some (.row m)) (hp : pk P hs (.agg E (vs.set f (.nils T2))) = some (E, e')) : ElemOK P hs E (some f) fo (.agg E vs) (hol (some f) e' (.bool true)) m := by
  obtain ⟨hc1, _, ⟨e, _⟩ | ⟨i, fs, g, e, hu, hf, rfl, rfl, hap⟩⟩ := hh
  · cases e
  cases e
  have hfl : f < vs.length := (List.getElem?_eq_some_iff.1 hv).1
  simp only [pk, hu] at hp
  split at hp
  · rename_i ds hds
    cases hp
    obtain ⟨n1, n2, n3⟩ := pkL_get hds
    rw [List.length_set] at n2
    have hfd : f < ds.length := by omega
    have hdf : ds[f]? = some (.lst []) := by
      obtain ⟨d0, hd0⟩ : ∃ d0, ds[f]? = some d0 := ⟨_, List.getElem?_eq_getElem hfd⟩
      obtain ⟨v', T', w1, w2, _⟩ := n3 f g d0 (by simpa using hf) hd0
      rw [List.getElem?_set, if_pos rfl, if_pos hfl] at w1
      cases w1
      simp only [pk, hu2] at w2
      cases w2
      exact hd0
    refine ⟨by simp [hol, lkd, hfd], fun ok w β us hfz h hl => ?_⟩
    cases h with
    | agg hu' hl' hc hone hel =>
      rw [hu] at hu'; cases hu'
      have hsf := hel f g _ hf hv
      rw [hc1] at hsf
      cases hq : us[g.offset]? with
      | none =>
        have : (us.drop g.offset).take 1 = [] := by rw [List.drop_eq_nil_of_le (List.getElem?_eq_none_iff.1 hq)]; rfl
        rw [this] at hsf; cases hsf
      | some zi =>
        rw [seg_one hq] at hsf
        have hm : β m = some zi := by cases hsf with | row h _ => exact h
        refine ⟨?_, zi, rfl, hm⟩
        have e : hol (some f) (hol (some f) (.agg ds) (.bool true)) (.lst []) = .agg ds := by
          show Dt.agg ((ds.set f (.bool true)).set f (.lst [])) = _
          rw [List.set_set]
          congr 1
          apply List.ext_getElem?
          intro j
          rw [List.getElem?_set]
          split
          · rename_i hj; subst hj; first | rw [hdf] | rw [if_pos hfd, hdf]
          · rfl
        rw [e]
        refine pk_sound (β := β) (hs := hs) (T := E) (v := .agg E (vs.set f (.nils g.type))) hfz (.agg hu (by rw [List.length_set]; exact hl') (by rw [List.length_set]; exact hc) (fun u hu' => ?_) fun j g' v' hg' hv' => ?_) (by simp only [pk, hu, hds])
        · rcases List.mem_or_eq_of_mem_set hu' with h | rfl
          · exact hone u h
          · rfl
        · rw [List.getElem?_set] at hv'
          by_cases hij : f = j
          · subst hij
            rw [hf] at hg'; cases hg'
            rw [if_pos rfl, if_pos hfl] at hv'
            cases hv'
            rw [hc1, seg_one (u := .slice none 0 0) (by rw [List.getElem?_set, if_pos rfl, if_pos (List.getElem?_eq_some_iff.1 hq).1])]
            exact .nils
          · rw [if_neg hij] at hv'
            rw [seg_set (hap j g' hg' fun e => hij e.symm)]
            exact hel j g' v' hg' hv'
  · cases hp
/-- Room for more elements in the token. -/
theorem RelB.tokExt (h : RelB P K w0 n σ a w β) {T5 T2 k l q : Nat} {c : Option Nat} {es ls : List Dt} (m : Nat) (hl : lk σ.hs l = .rowD T5 T2 c k es none) (hk : lk σ.hs k = .tok T2 ls) (hq : lk σ.hs q = .free) (hq0 : σ.k0 ≤ q) :
    ∃ β', RelB P K w0 n ⟨σ.ts, setO (setO (setO σ.hs l (.rowD T5 T2 c q es none)) k .gone) q (.tok T2 (ls ++ List.replicate m (.lst []))), σ.k0⟩ a w β' ∧ Ext β β' ∧ (∀ b, okOf K w0 w σ.hs β b → okOf K w0 w (setO (setO (setO σ.hs l (.rowD T5 T2 c q es none)) k .gone) q (.tok T2 (ls ++ List.replicate m (.lst [])))) β' b) ∧ ∃ arr : Array Value, β' q = some (.tuple arr) ∧ arr.size = ls.length + m ∧
      ∀ (b : Nat), Blk (.tuple arr) b → owns σ.hs β k b := by
  have hol := h.hs l
  rw [hl] at hol
  obtain ⟨E, E2, fo, z, xs, arr, e1, hu, hh, hu2, hown, hone, hβk, hsz, hr⟩ := hol
  have hok := h.hs k
  rw [hk, hβk] at hok
  obtain ⟨E2', arr', e2, hu2', hasz, hsep, hrl⟩ := hok
  cases e2
  have fq : β q = none := by have := h.hs q; rw [hq] at this; exact this
  have hlq : l ≠ q := fun e => by rw [e, hq] at hl; cases hl
  have hlk : l ≠ k := fun e => by rw [e, hk] at hl; cases hl
  have hkq : k ≠ q := fun e => by rw [e, hq] at hk; cases hk
  let ar2 := arr ++ Array.replicate m (.slice none 0 0)
  have ar_get : ∀ (j : Nat) (u : Value), ar2[j]? = some u → arr[j]? = some u ∨ (arr.size ≤ j ∧ u = .slice none 0 0) := fun j u hj => by
    simp only [ar2, Array.getElem?_append] at hj
    split at hj
    · exact .inl hj
    · rw [Array.getElem?_replicate] at hj
      split at hj
      · cases hj; exact .inr ⟨by omega, rfl⟩
      · cases hj
  let β' := upB β q (some (.tuple ar2))
  have bq : β' q = some (.tuple ar2) := upB_same _ _ _
  have bo : ∀ j, j ≠ q → β' j = β j := fun j h1 => upB_other _ _ _ _ h1
  have hE : Ext β β' := fun j u hj => by
    by_cases j2 : j = q
    · subst j2; rw [fq] at hj; cases hj
    · rw [bo j j2]; exact hj
  let hs' := setO (setO (setO σ.hs l (.rowD T5 T2 c q es none)) k .gone) q (.tok T2 (ls ++ List.replicate m (.lst [])))
  have lq : lk hs' q = .tok T2 (ls ++ List.replicate m (.lst [])) := lk_same _ _ _
  have lkk : lk hs' k = .gone := by show lk (setO _ q _) k = _; rw [lk_other _ _ _ _ hkq, lk_same]
  have ll : lk hs' l = .rowD T5 T2 c q es none := by show lk (setO _ q _) l = _; rw [lk_other _ _ _ _ hlq, lk_other _ _ _ _ hlk, lk_same]
  have lo : ∀ j, j ≠ q → j ≠ k → j ≠ l → lk hs' j = lk σ.hs j := fun j h2 h3 h4 => by show lk (setO _ q _) j = _; rw [lk_other _ _ _ _ h2, lk_other _ _ _ _ h3, lk_other _ _ _ _ h4]
  have qown : ∀ b, Blk (.tuple ar2) b → owns σ.hs β k b := fun b hb => by
    obtain ⟨x, u, hx, hb⟩ := tok_blk hb
    rcases ar_get x u hx with hx | ⟨_, rfl⟩
    · exact ⟨by rw [hk]; rfl, _, hβk, .inr ⟨arr, rfl, x, u, hx, hb⟩⟩
    · cases hb
  have hw : ∀ j b, owns hs' β' j b → (j = q ∧ owns σ.hs β k b) ∨ (j ≠ q ∧ j ≠ k ∧ owns σ.hs β j b) := by
    rintro j b ⟨h1, u, h2, h3⟩
    by_cases jq : j = q
    · subst jq; rw [bq] at h2; cases h2; exact .inl ⟨rfl, qown b h3⟩
    by_cases jk : j = k
    · subst jk; rw [lkk] at h1; cases h1
    rw [bo j jq] at h2
    refine .inr ⟨jq, jk, ?_, u, h2, h3⟩
    by_cases jl : j = l
    · subst jl; rw [hl]; rfl
    · rw [lo j jq jk jl] at h1; exact h1
  have ho : ∀ j b, owns hs' β' j b → ∃ l0, owns σ.hs β l0 b := fun j b hj => by
    rcases hw j b hj with ⟨_, hb⟩ | ⟨_, _, hb⟩
    · exact ⟨k, hb⟩
    · exact ⟨j, hb⟩
  refine ⟨β', h.re hs' β' hE ho ?_ ?_ ?_, hE, fun b hb => ⟨hb.1, hb.2.1, fun l hl => let ⟨l0, h0⟩ := ho l b hl; hb.2.2 l0 h0⟩, ar2, bq, by simp [ar2, hasz], qown⟩
  · intro j j' b hj hj'
    rcases hw j b hj with ⟨e, hb⟩ | ⟨_, f3, hb⟩
    · rcases hw j' b hj' with ⟨e', hb'⟩ | ⟨_, f3', hb'⟩
      · rw [e, e']
      · exact absurd (h.sep _ _ _ hb' hb) f3'
    · rcases hw j' b hj' with ⟨e', hb'⟩ | ⟨_, _, hb'⟩
      · exact absurd (h.sep _ _ _ hb hb') f3
      · exact h.sep _ _ _ hb hb'
  · intro hkk j
    have hkk' : ∀ b, okOf K w0 w σ.hs β b → okOf K w0 w hs' β' b ∧ w.heap[b]? = w.heap[b]? := fun b hb => ⟨hkk b hb, rfl⟩
    by_cases jq : j = q
    · subst jq; rw [lq, bq]
      refine ⟨E2', ar2, rfl, hu2', by simp [ar2, hasz], fun x x' u u' b h1 h2 h3 h4 => ?_, fun x d' hd' => ?_⟩
      · rcases ar_get x u h1 with h1 | ⟨_, rfl⟩
        · rcases ar_get x' u' h2 with h2 | ⟨_, rfl⟩
          · exact hsep x x' u u' b h1 h2 h3 h4
          · cases h4
        · cases h3
      · by_cases hx : x < ls.length
        · rw [List.getElem?_append_left hx] at hd'
          obtain ⟨es', u, us, q1, q2, q3, q4, q5⟩ := hrl x d' hd'
          exact ⟨es', u, us, q1, by simp only [ar2]; rw [Array.getElem?_append_left (by omega)]; exact q2, q3, q4, fun j d hd => (q5 j d hd).mono hkk'⟩
        · rw [List.getElem?_append_right (by omega), List.getElem?_replicate] at hd'
          split at hd'
          · rename_i hlt
            cases hd'
            exact ⟨[], .slice none 0 0, [], rfl, by simp only [ar2]; rw [Array.getElem?_append_right (by omega), Array.getElem?_replicate, if_pos (by omega)], World.ownsRow_nil _ _ _ _, fun c hc => by simp at hc, fun j d hd => by simp at hd⟩
          · cases hd'
    by_cases jk : j = k
    · subst jk; rw [lkk]; trivial
    by_cases jl : j = l
    · subst jl; rw [ll, bo j jq]
      refine ⟨E, E2, fo, z, xs, _, e1, hu, hh, hu2, hown, hone, bq, by simp only [ar2, Array.size_append]; omega, fun x d' hd' => ⟨fun e => ((hr x d' hd').1 e).mono hkk', fun e => ?_⟩⟩
      obtain ⟨q1, u, q2, q3, q4⟩ := (hr x d' hd').2 e
      refine ⟨q1.mono hkk', u, q2, fun hn => ?_, nofun⟩
      have := q3 (fun _ => nofun)
      simp only [ar2]
      rw [Array.getElem?_append_left (Array.getElem?_eq_some_iff.1 this).1]
      exact this
    · rw [lo j jq jk jl, bo j jq]
      exact (h.hs j).mono hkk' (fun _ _ _ _ _ => rfl) hE
  · intro j hj
    have := h.kk
    exact bo j (by omega)
theorem RelB.tok_len (r : RelB P K w0 n σ a w β) {T5 T2 k l : Nat} {c : Option Nat} {es ls : List Dt} {h : Option (Nat × Nat)} (hl : lk σ.hs l = .rowD T5 T2 c k es h) (hk : lk σ.hs k = .tok T2 ls) : es.length ≤ ls.length := by
  have h1 := r.hs l
  rw [hl] at h1
  obtain ⟨_, _, _, _, _, arr, _, _, _, _, _, _, hβk, hsz, _⟩ := h1
  have h2 := r.hs k
  rw [hk, hβk] at h2
  obtain ⟨_, _, e2, _, h3, _⟩ := h2
  cases e2
  omega
theorem RelB.tok_lst (r : RelB P K w0 n σ a w β) {T2 k i : Nat} {ls : List Dt} {e : Dt} (hk : lk σ.hs k = .tok T2 ls) (hi : ls[i]? = some e) : ls[i]? = some (.lst e.toLst) := by
  have h2 := r.hs k
  rw [hk] at h2
  obtain ⟨_, _, _, _, _, _, h3⟩ := h2
  obtain ⟨ds, _, _, h4, _⟩ := h3 i e hi
  subst h4
  exact hi
/-- Plain elements are appended. -/
theorem op_appendD {d l k l' q : Nat} {E T5 T2 : TypeId} {c0 : Option Nat} {es ls ds : List Dt} {z : Dt} (ho : o.op = .call { callee := .builtin .append, args := #[x, y], argTypes := #[T, T] }) (hd : o.dst = some d) (hn : d < n) (hu : P.underlying T = some (.slice E)) (hu5 : P.underlying T5 = some (.slice E))
    (hz : Zero P E z) (h0 : P.cellsOf E ≠ 0) (hbd : (es.length + ds.length) * P.bytesOf E ≤ 140737488355328) (hx : Ev P σ x (.row l)) (hl : lk σ.hs l = .rowD T5 T2 c0 k es none) (hk : lk σ.hs k = .tok T2 ls) (hf : lk σ.hs l' = .free) (hk0 : σ.k0 ≤ l') (hq : lk σ.hs q = .free) (hq0 : σ.k0 ≤ q) (hlq : l' ≠ q) (hy : SrcOK P σ y E ds)
    (hpl : ∀ e ∈ ds, lkd c0 e = false) (hlim : es.length + ds.length ≤ 137438953472) :
    OpOK P n o σ ((((⟨σ.ts, setO (setO (setO σ.hs l (.rowD T5 T2 c0 q es none)) k .gone) q (.tok T2 (ls ++ List.replicate ds.length (.lst []))), σ.k0⟩ : St).lay l .gone).lay l' (.rowD T5 T2 c0 q (es ++ ds) none)).put d (.row l')) := by
  rintro ok0 w0 a w ⟨β, r⟩ K Q hK
  obtain ⟨A, c, ys, ey, hyl, hyone, hyc, hynone, hyrd⟩ := hy _ _ _ _ _ _ r
  have ex0 := row_eval (hx _ _ _ _ _ _ r)
  have hlen : es.length ≤ ls.length := r.tok_len hl hk
  obtain ⟨β', r', hE, hok, arr, hβq, harr, hqo⟩ := r.tokExt ds.length hl hk hq hq0
  have ex : β' l = some (a.eval x) := hE _ _ ex0
  have hlk : l ≠ k := fun e => by rw [e, hk] at hl; cases hl
  have hlq' : l ≠ q := fun e => by rw [e, hq] at hl; cases hl
  have hll : l ≠ l' := fun e => by rw [e, hf] at hl; cases hl
  have hkl : l' ≠ k := fun e => by rw [e, hk] at hf; cases hf
  let τ : St := ⟨σ.ts, setO (setO (setO σ.hs l (.rowD T5 T2 c0 q es none)) k .gone) q (.tok T2 (ls ++ List.replicate ds.length (.lst []))), σ.k0⟩
  have ll : lk τ.hs l = .rowD T5 T2 c0 q es none := by show lk (setO _ q _) l = _; rw [lk_other _ _ _ _ hlq', lk_other _ _ _ _ hlk, lk_same]
  have lf : lk τ.hs l' = .free := by show lk (setO _ q _) l' = _; rw [lk_other _ _ _ _ hlq, lk_other _ _ _ _ hkl, lk_other _ _ _ _ (fun e => hll e.symm)]; exact hf
  have hob0 := r'.hs l
  rw [show lk (setO (setO (setO σ.hs l (.rowD T5 T2 c0 q es none)) k .gone) q (.tok T2 (ls ++ List.replicate ds.length (.lst [])))) l = _ from ll, ex] at hob0
  obtain ⟨E', E2, fo, z', xs, arr', e1, hu', hh, hu2, hown, hone, hβk, hasz, hrd⟩ := hob0
  cases e1
  obtain rfl : E = E' := by rw [hu5] at hu'; cases hu'; rfl
  rw [hβq] at hβk; cases hβk
  obtain ⟨v', w', hrun, hown', hgr, hblk'⟩ := append_key (o := o) (c := c) hu hz h0 hbd hyl hyone hyc hynone hlim hown
  obtain ⟨bl, ebl⟩ : ∃ bl, a.eval x = bl := ⟨_, rfl⟩
  rw [ebl] at ex hown hgr hblk' hrun
  have hob' : v'.ownBlock = blk v' := by
    rcases hown'.2 with ⟨rfl, _⟩ | ⟨g, cap, cur, rfl, _⟩ <;> rfl
  have hbl : bl.ownBlock = blk bl := by
    rcases hown.2 with ⟨rfl, _⟩ | ⟨g, cap, cur, rfl, _⟩ <;> rfl
  unfold Oper.wp execOp
  simp only [ho, resolve, invoke, builtin, Sem.run_bind, Sem.run_pure, Result.andThen_ok, List.map_toArray, List.map_cons, List.map_nil, ebl, ey, hrun]
  refine hK _ _ ?_
  rw [hd]
  have hlown : ∀ b, blk bl = some b → owns τ.hs β' l b := fun b hb => ⟨by rw [ll]; rfl, bl, ex, .inl hb⟩
  have hnew := r'.take l l' (.rowD T5 T2 c0 q (es ++ ds) none) v' w' (by show lk τ.hs l ≠ _; rw [ll]; simp) lf hk0 hgr.os hgr.tape hgr.output hgr.size
    (fun b hb hne => hgr.block b hb fun e => hne (hlown b (by rw [← hbl, ← e])))
    (fun b hb => by
      have hb := hb.of hown'.notup
      rw [← hob'] at hb
      rcases hblk' with h | h
      · right; exact hlown b (by rw [← hbl, ← h, hb])
      · left; rw [h] at hb; cases hb; exact Nat.le_refl _)
    (fun hex hk => by
      refine ⟨E, E2, fo, v', xs ++ ys, arr, rfl, hu5, hh, hu2, by simpa using hown', ?_, hex _ _ hβq, by rw [List.length_append, harr]; omega, ?_⟩
      · intro u hu2
        rcases List.mem_append.1 hu2 with h | h
        · exact hone u h
        · exact hyone u h
      · intro i' d' hd'
        have hxl := hown.1
        have hfo := hh.2.1
        by_cases hlt : i' < es.length
        · rw [List.getElem?_append_left hlt] at hd'
          have hmul : (i' + 1) * P.cellsOf E ≤ es.length * P.cellsOf E := Nat.mul_le_mul_right _ hlt
          rw [Nat.add_mul, Nat.one_mul] at hmul
          rw [seg_app_left (by omega), List.getElem?_append_left (by omega)]
          obtain ⟨q0, q1⟩ := hrd i' d' hd'
          refine ⟨fun e => (q0 e).mono hk, fun e => ?_⟩
          obtain ⟨q1, zi, q2, q3, q4⟩ := q1 e
          exact ⟨q1.mono hk, zi, q2, q3, nofun⟩
        · rw [List.getElem?_append_right (by omega)] at hd'
          have hmul : es.length * P.cellsOf E ≤ i' * P.cellsOf E := Nat.mul_le_mul_right _ (by omega)
          rw [seg_app_right (by omega), hxl, ← Nat.sub_mul]
          have hpd := hpl d' (List.mem_of_getElem? hd')
          exact ⟨fun _ => (hyrd _ d' hd').mono fun b hb => hk b (hok b hb), fun e => by rw [hpd] at e; cases e⟩)
  refine Rel.put hnew hn (row_rv (upB_same _ _ _) ?_)
  rcases hown'.2 with ⟨rfl, _⟩ | ⟨g, cap, cur, rfl, _⟩ <;> rfl
/-- An element that holds a row is appended: the row stays out of it, under its own name. -/
theorem op_appendR {d l l2 k l' q m fo : Nat} {E E2 T5 T2 Tr : TypeId} {c0 : Option Nat} {es ls : List Dt} {d' z : Dt} {v : AV} (ho : o.op = .call { callee := .builtin .append, args := #[x, y], argTypes := #[T, T] }) (hd : o.dst = some d) (hn : d < n) (hu : P.underlying T = some (.slice E)) (hu5 : P.underlying T5 = some (.slice E))
    (hh : HoleAt P E c0 T2 fo) (hu2 : P.underlying T2 = some (.slice E2)) (hz : Zero P E z) (h0 : P.cellsOf E ≠ 0) (hbd : (es.length + 1) * P.bytesOf E ≤ 140737488355328) (hx : Ev P σ x (.row l)) (hl : lk σ.hs l = .rowD T5 T2 c0 k es none) (hk : lk σ.hs k = .tok T2 ls) (hf : lk σ.hs l' = .free) (hk0 : σ.k0 ≤ l') (hq : lk σ.hs q = .free) (hq0 : σ.k0 ≤ q) (hlq : l' ≠ q)
    (hy : Ev P σ y (.row l2)) (hl2 : lk σ.hs l2 = .rowA Tr [v]) (hur : P.underlying Tr = some (.slice E)) (he : ElemOK P σ.hs E c0 fo v d' m) (hlim : es.length + 1 ≤ 137438953472) :
    OpOK P n o σ ((((⟨σ.ts, setO (setO (setO σ.hs l (.rowD T5 T2 c0 q es none)) k .gone) q (.tok T2 (ls ++ List.replicate 1 (.lst []))), σ.k0⟩ : St).lay l .gone).lay l' (.rowD T5 T2 c0 q (es ++ [d']) (some (es.length, m)))).put d (.row l')) := by
  rintro ok0 w0 a w ⟨β, r⟩ K Q hK
  have ey0 := row_eval (hy _ _ _ _ _ _ r)
  have hob2 := r.hs l2
  rw [hl2, ey0] at hob2
  obtain ⟨E', z2, ys, e2, hu', hown2, hyone, hyrd⟩ := hob2
  obtain rfl : E = E' := by rw [hur] at hu'; cases hu'; rfl
  cases e2
  have hyl : ys.length = 1 * P.cellsOf E := hown2.1
  have hyl1 : ys.length = P.cellsOf E := by rw [hyl, Nat.one_mul]
  obtain ⟨p1, zi, p2, p3⟩ := he.2 _ _ _ ys r.frzOK (by
    have := hyrd 0 v rfl
    rw [Nat.zero_mul, List.drop_zero, ← hyl1, List.take_length] at this
    exact this) hyl1
  rcases hown2.2 with ⟨_, h3⟩ | ⟨g, c, cur, ey, _⟩
  · exact absurd h3 (by simp)
  have hyc : 0 < 1 → ∃ ad, some (⟨g, 0, none⟩ : Addr) = some ad ∧ ∀ j u, ys[j]? = some u → w.cell? (ad.add j) = some u := fun _ => ⟨_, rfl, hown2.cells (g := g) (by rw [ey]; rfl)⟩
  have ex0 := row_eval (hx _ _ _ _ _ _ r)
  have hlen : es.length ≤ ls.length := r.tok_len hl hk
  obtain ⟨β', r', hE, hok, arr, hβq, harr, hqo⟩ := r.tokExt 1 hl hk hq hq0
  have ex : β' l = some (a.eval x) := hE _ _ ex0
  have hlk : l ≠ k := fun e => by rw [e, hk] at hl; cases hl
  have hlq' : l ≠ q := fun e => by rw [e, hq] at hl; cases hl
  have hll : l ≠ l' := fun e => by rw [e, hf] at hl; cases hl
  have hkl : l' ≠ k := fun e => by rw [e, hk] at hf; cases hf
  let τ : St := ⟨σ.ts, setO (setO (setO σ.hs l (.rowD T5 T2 c0 q es none)) k .gone) q (.tok T2 (ls ++ List.replicate 1 (.lst []))), σ.k0⟩
  have ll : lk τ.hs l = .rowD T5 T2 c0 q es none := by show lk (setO _ q _) l = _; rw [lk_other _ _ _ _ hlq', lk_other _ _ _ _ hlk, lk_same]
  have lf : lk τ.hs l' = .free := by show lk (setO _ q _) l' = _; rw [lk_other _ _ _ _ hlq, lk_other _ _ _ _ hkl, lk_other _ _ _ _ (fun e => hll e.symm)]; exact hf
  have hob0 := r'.hs l
  rw [show lk (setO (setO (setO σ.hs l (.rowD T5 T2 c0 q es none)) k .gone) q (.tok T2 (ls ++ List.replicate 1 (.lst [])))) l = _ from ll, ex] at hob0
  obtain ⟨E', E3, fo', z', xs, arr', e1, hu', hh', hu3, hown, hone, hβk, hasz, hrd⟩ := hob0
  cases e1
  obtain rfl : E = E' := by rw [hu5] at hu'; cases hu'; rfl
  obtain ⟨_, rfl⟩ := hole_det hh hh'
  rw [hβq] at hβk; cases hβk
  obtain ⟨v', w', hrun, hown', hgr, hblk'⟩ := append_key (o := o) (c := c) (nd := 1) hu hz h0 hbd hyl hyone hyc nofun hlim hown
  obtain ⟨bl, ebl⟩ : ∃ bl, a.eval x = bl := ⟨_, rfl⟩
  rw [ebl] at ex hown hgr hblk' hrun
  have hob' : v'.ownBlock = blk v' := by
    rcases hown'.2 with ⟨rfl, _⟩ | ⟨g, cap, cur, rfl, _⟩ <;> rfl
  have hbl : bl.ownBlock = blk bl := by
    rcases hown.2 with ⟨rfl, _⟩ | ⟨g, cap, cur, rfl, _⟩ <;> rfl
  unfold Oper.wp execOp
  simp only [ho, resolve, invoke, builtin, Sem.run_bind, Sem.run_pure, Result.andThen_ok, List.map_toArray, List.map_cons, List.map_nil, ebl, ey]
  have hrun' : (Builtin.append_ #[T, T] o.type #[bl, .slice (some ⟨g, 0, none⟩) [v].length c]).run P w = .ok v' w' := hrun
  simp only [hrun']
  refine hK _ _ ?_
  rw [hd]
  have hlown : ∀ b, blk bl = some b → owns τ.hs β' l b := fun b hb => ⟨by rw [ll]; rfl, bl, ex, .inl hb⟩
  have hnew := r'.take l l' (.rowD T5 T2 c0 q (es ++ [d']) (some (es.length, m))) v' w' (by show lk τ.hs l ≠ _; rw [ll]; simp) lf hk0 hgr.os hgr.tape hgr.output hgr.size
    (fun b hb hne => hgr.block b hb fun e => hne (hlown b (by rw [← hbl, ← e])))
    (fun b hb => by
      have hb := hb.of hown'.notup
      rw [← hob'] at hb
      rcases hblk' with h | h
      · right; exact hlown b (by rw [← hbl, ← h, hb])
      · left; rw [h] at hb; cases hb; exact Nat.le_refl _)
    (fun hex hk => by
      refine ⟨E, E3, fo, v', xs ++ ys, arr, rfl, hu5, hh, hu3, by simpa using hown', ?_, hex _ _ hβq, by rw [List.length_append, harr, List.length_singleton]; omega, ?_⟩
      · intro u hu2
        rcases List.mem_append.1 hu2 with h | h
        · exact hone u h
        · exact hyone u h
      · intro i' d0 hd'
        have hxl := hown.1
        have hfo := hh.2.1
        by_cases hlt : i' < es.length
        · rw [List.getElem?_append_left hlt] at hd'
          have hmul : (i' + 1) * P.cellsOf E ≤ es.length * P.cellsOf E := Nat.mul_le_mul_right _ hlt
          rw [Nat.add_mul, Nat.one_mul] at hmul
          rw [seg_app_left (by omega), List.getElem?_append_left (by omega)]
          obtain ⟨q0, q1⟩ := hrd i' d0 hd'
          refine ⟨fun e => (q0 e).mono hk, fun e => ?_⟩
          obtain ⟨q1, zi, q2, q3, q4⟩ := q1 e
          exact ⟨q1.mono hk, zi, q2, fun _ => q3 nofun, fun l3 e => by cases e; omega⟩
        · have hi2 : i' = es.length := by
            have := (List.getElem?_eq_some_iff.1 hd').1
            rw [List.length_append, List.length_singleton] at this
            omega
          subst hi2
          rw [List.getElem?_append_right (Nat.le_refl _), Nat.sub_self] at hd'
          cases hd'
          have hsg : ((xs ++ ys).drop (es.length * P.cellsOf E)).take (P.cellsOf E) = ys := by
            rw [seg_app_right (by omega), hxl, Nat.sub_self, List.drop_zero, ← hyl1, List.take_length]
          rw [hsg]
          refine ⟨fun e => (by rw [he.1] at e; cases e), fun _ => ⟨p1.mono fun b hb => hk b (hok b hb), zi, ?_, fun hn => absurd rfl (hn m), fun l3 e => ?_⟩⟩
          · rw [List.getElem?_append_right (by omega), ← p2]; congr 1; omega
          · cases e; exact hex _ _ (hE _ _ p3))
  refine Rel.put hnew hn (row_rv (upB_same _ _ _) ?_)
  rcases hown'.2 with ⟨rfl, _⟩ | ⟨g, cap, cur, rfl, _⟩ <;> rfl
end
end Go.Am
