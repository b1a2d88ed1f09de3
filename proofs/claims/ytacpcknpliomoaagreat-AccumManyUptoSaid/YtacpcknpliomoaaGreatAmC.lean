/- The abstract machine: a region of four operations whose two stores may come in either order. -/
import Derived.Test.YtacpcknpliomoaaGreatAm17
set_option linter.unusedVariables false
set_option linter.unusedSimpArgs false
namespace Go.Am
open Go.RowKit

section
variable {P : Program} {n : Nat} {c c1 c2 : Code} {σ τ : St} {Ψ Ψ' : Exit → St → Prop} {o : Oper}
inductive DrawI (P : Program) (n : Nat) (ops : Array Oper) (I : (Nat → Bool) → St → Prop) : Nat → List Oper → Prop where
  | nil {i : Nat} : DrawI P n ops I i []
  | cons {i : Nat} {o : Oper} {r : List Oper} (h : ∀ (L : Nat → Bool) (σ : St), I L σ → L i = false → DepsL L o.after.toList → Closed ops L → ∃ σ', StepOK P n ops o σ σ' ∧ I (upL L i) σ') (hr : DrawI P n ops I (i + 1) r) : DrawI P n ops I i (o :: r)
theorem DrawI.get {ops : Array Oper} {I : (Nat → Bool) → St → Prop} {k : Nat} {l : List Oper} (h : DrawI P n ops I k l) : ∀ (j : Nat) (o : Oper), l[j]? = some o → ∀ (L : Nat → Bool) (σ : St), I L σ → L (k + j) = false → DepsL L o.after.toList → Closed ops L → ∃ σ', StepOK P n ops o σ σ' ∧ I (upL L (k + j)) σ' := by
  induction h with
  | nil => intro j o h; simp at h
  | @cons i o r h _ ih =>
    intro j o' hj
    cases j with
    | zero => simp only [List.getElem?_cons_zero, Option.some.injEq] at hj; subst hj; exact h
    | succ j =>
      simp only [List.getElem?_cons_succ] at hj
      have := ih j o' hj
      rw [show i + 1 + j = i + (j + 1) by omega] at this
      exact this
theorem draw_anyI {l : List Oper} {I : (Nat → Bool) → St → Prop} (hback : backGo 0 l = true) (hd : DrawI P n l.toArray I 0 l) {ok0 : OkX} {w0 : World} {Q : Exit → Act → World → Prop}
    (hfin : ∀ (L : Nat → Bool) (σ : St), I L σ → (∀ i, i < l.length → L i = true) → ∀ a w, Rel P ok0 w0 n σ a w → Q .normal a w) :
    ∀ (fuel : Nat) (listed : Array Bool) (σ : St) (a : Act) (w : World), I (fun j => listed.getD j false) σ → listed.size = l.length → listed.toList.count false ≤ fuel → Closed l.toArray (fun j => listed.getD j false) → Rel P ok0 w0 n σ a w → wpAny P .any l.toArray Q fuel listed a w := by
  have hall : ∀ listed : Array Bool, listed.size = l.length → Region.ready .any l.toArray listed = [] → ∀ i, i < l.length → listed.getD i false = true := by
    intro listed hsz hr
    intro i
    induction i using Nat.strongRecOn with
    | _ i ih =>
      intro hi
      cases hc : listed.getD i false with
      | true => rfl
      | false =>
        exfalso
        have hne : i ∈ Region.ready .any l.toArray listed := by
          refine mem_ready.2 ⟨by simpa using hi, ?_, l[i], by simp [hi], fun e he hb => ?_⟩
          · have hlt : i < listed.size := by omega
            simp only [Array.getD, hlt, dif_pos] at hc ⊢
            exact hc
          · have := backGo_get hback i l[i] (by simp [hi]) e he hb
            exact ih e.on (by omega) (by omega)
        rw [hr] at hne
        simp at hne
  intro fuel
  induction fuel with
  | zero =>
    intro listed σ a w hI hsz hcnt hcl r
    have hnil : Region.ready .any l.toArray listed = [] := by
      rw [List.eq_nil_iff_forall_not_mem]
      intro i hi
      obtain ⟨h1, h2, _⟩ := mem_ready.1 hi
      have hlt : i < listed.size := by rw [hsz]; simpa using h1
      have h3 : listed[i] = false := by simpa [Array.getD, hlt] using h2
      have h4 : List.count false listed.toList = 0 := by omega
      rw [List.count_eq_zero] at h4
      exact h4 (by rw [← h3]; simp)
    exact ⟨hnil, hfin _ σ hI (hall listed hsz hnil) a w r⟩
  | succ fuel ih =>
    intro listed σ a w hI hsz hcnt hcl r
    refine ⟨fun hnil => hfin _ σ hI (hall listed hsz hnil) a w r, fun i hi => ?_⟩
    obtain ⟨h1, h2, o, ho, h3⟩ := mem_ready.1 hi
    have hil : i < l.length := by simpa using h1
    have hlt : i < listed.size := by omega
    have hLi : listed.getD i false = false := by
      have h2' : listed[i] = false := by simpa [Array.getD, hlt] using h2
      simp [Array.getD, hlt, h2']
    have ho' : l[i]? = some o := by simpa using ho
    obtain ⟨σ', hstep, himp⟩ := hd.get i o ho' (fun j => listed.getD j false) σ hI (by rw [Nat.zero_add]; exact hLi) (DepsL.of h3) hcl
    rw [Nat.zero_add] at himp
    have hL : (fun j => (listed.setIfInBounds i true).getD j false) = upL (fun j => listed.getD j false) i := by
      funext j
      rw [getD_set _ _ _ _ _ hlt]
      simp only [upL]
      by_cases hj : j = i
      · subst hj; simp
      · have : Nat.beq j i = false := by
          cases hb : Nat.beq j i with
          | true => exact absurd (Nat.eq_of_beq_eq_true hb) hj
          | false => rfl
        rw [if_neg hj, this]
        rfl
    have hcl' : Closed l.toArray (fun j => (listed.setIfInBounds i true).getD j false) := by
      rw [hL]
      intro j oj hoj hLj
      simp only [upL] at hLj
      refine DepsL.of fun e he hb => ?_
      have hold : listed.getD e.on false = true := by
        cases hb2 : Nat.beq j i with
        | true =>
          have := Nat.eq_of_beq_eq_true hb2
          subst this
          have : oj = o := by rw [ho] at hoj; cases hoj; rfl
          subst this
          exact h3 e he hb
        | false =>
          rw [hb2] at hLj
          exact (hcl j oj hoj hLj).mem e he hb
      simp only [upL]
      cases Nat.beq e.on i with
      | true => rfl
      | false => exact hold
    have hcnt' : (listed.setIfInBounds i true).toList.count false ≤ fuel := by
      have h5 : listed.toList[i]? = some false := by
        have h2' : listed[i] = false := by simpa [Array.getD, hlt] using h2
        simp [hlt, h2']
      have h6 : (listed.setIfInBounds i true).toList = listed.toList.set i true := by simp
      rw [h6]
      have h7 := List.count_set (a := true) (b := false) (l := listed.toList) (i := i) (by simpa using hlt)
      have h8 : listed.toList[i]'(by simpa using hlt) = false := by
        have := List.getElem?_eq_some_iff.1 h5
        exact this.2
      have hpos : 0 < listed.toList.count false := List.count_pos_iff.2 (List.mem_of_getElem? h5)
      rw [h7, h8]
      show (List.count false listed.toList - 1) + 0 ≤ fuel
      omega
    have hK := fun a' w' (r' : Rel P ok0 w0 n σ' a' w') => ih (listed.setIfInBounds i true) σ' a' w' (by rw [hL]; exact himp) (by simpa using hsz) hcnt' hcl' r'
    have := hstep ok0 w0 a w r _ Q hK
    unfold wpOp
    rw [ho]
    simp only
    split
    · rename_i hw; rw [if_pos hw] at this; exact .inl this
    · rename_i hw; rw [if_neg hw] at this; exact this

theorem CW.drawI {id : Nat} {l : List Oper} (I : (Nat → Bool) → St → Prop) (hm : P.follows .mixedOrders = true) (hback : backGo 0 l = true) (h0 : I (fun _ => false) σ) (hd : DrawI P n l.toArray I 0 l)
    (hfin : ∀ (L : Nat → Bool) (τ : St), I L τ → (∀ i, i < l.length → L i = true) → Ψ .normal τ) : CW P n (.region id l.toArray true) σ Ψ := fun ok0 w0 a w r Q hQ => by
  refine wp_region_any hm ?_
  have hrep : ∀ j, (Array.replicate l.toArray.size false).getD j false = false := by
    intro j
    simp only [Array.getD]
    split
    · simp
    · rfl
  have hf : (fun j => (Array.replicate l.toArray.size false).getD j false) = fun _ => false := funext hrep
  refine draw_anyI hback hd (fun L τ hI hL a' w' r' => hQ _ _ _ _ (hfin L τ hI hL) r') _ _ σ a _ ?_ (by simp) ?_ ?_ r.drew
  · rw [hf]; exact h0
  · refine Nat.le_trans (List.count_le_length) (by simp)
  · rw [hf]
    intro j oj _ hc
    cases hc

theorem bnd_dep {o : Oper} {j : Nat} {L : Nat → Bool} (h : bnd o j = true) (hd : DepsL L o.after.toList) : L j = true := by
  unfold bnd at h
  obtain ⟨e, he, h1⟩ := List.any_eq_true.1 h
  obtain ⟨h2, h3⟩ := Bool.and_eq_true _ _ ▸ h1
  have := hd.mem e he h2
  rw [Nat.eq_of_beq_eq_true h3] at this
  exact this
/-- The states in between. -/
def chI (σ σ0 σ1 σ2 σ12 σ21 σA σB : St) (L : Nat → Bool) (τ : St) : Prop :=
  (L 0 = false → τ = σ) ∧ (L 0 = true → L 1 = false → L 2 = false → τ = σ0) ∧ (L 1 = true → L 2 = false → τ = σ1) ∧ (L 1 = false → L 2 = true → τ = σ2) ∧ (L 1 = true → L 2 = true → L 3 = false → τ = σ12 ∨ τ = σ21) ∧ (L 3 = true → τ = σA ∨ τ = σB)
theorem choice_sound (hm : P.follows .mixedOrders = true) {id : Nat} {o0 o1 o2 o3 : Oper} {σ0 σ1 σ2 σ12 σ21 σA σB : St} (hc : chkD o0 o1 o2 o3 = true)
    (s0 : StepOK P n #[o0, o1, o2, o3] o0 σ σ0) (s1 : StepOK P n #[o0, o1, o2, o3] o1 σ0 σ1) (s12 : StepOK P n #[o0, o1, o2, o3] o2 σ1 σ12) (s3 : StepOK P n #[o0, o1, o2, o3] o3 σ12 σA)
    (s2 : StepOK P n #[o0, o1, o2, o3] o2 σ0 σ2) (s21 : StepOK P n #[o0, o1, o2, o3] o1 σ2 σ21) (s3' : StepOK P n #[o0, o1, o2, o3] o3 σ21 σB) (hA : Ψ .normal σA) (hB : Ψ .normal σB) : CW P n (.region id #[o0, o1, o2, o3] true) σ Ψ := by
  unfold chkD at hc
  simp only [Bool.and_eq_true] at hc
  obtain ⟨⟨⟨⟨hb, c1⟩, c2⟩, c31⟩, c32⟩ := hc
  have key : ∀ L : Nat → Bool, Closed #[o0, o1, o2, o3] L → (L 1 = true → L 0 = true) ∧ (L 2 = true → L 0 = true) ∧ (L 3 = true → L 1 = true ∧ L 2 = true) := fun L h =>
    ⟨fun h1 => bnd_dep c1 (h 1 o1 rfl h1), fun h2 => bnd_dep c2 (h 2 o2 rfl h2), fun h3 => ⟨bnd_dep c31 (h 3 o3 rfl h3), bnd_dep c32 (h 3 o3 rfl h3)⟩⟩
  refine CW.drawI (l := [o0, o1, o2, o3]) (chI σ σ0 σ1 σ2 σ12 σ21 σA σB) hm hb ⟨fun _ => rfl, fun h => (by cases h), fun h => (by cases h), fun _ h => (by cases h), fun h => (by cases h), fun h => (by cases h)⟩ ?_ ?_
  · refine .cons (fun L τ hI h0 hd hcl => ?_) (.cons (fun L τ hI h1 hd hcl => ?_) (.cons (fun L τ hI h2 hd hcl => ?_) (.cons (fun L τ hI h3 hd hcl => ?_) .nil)))
    · obtain ⟨k1, k2, k3⟩ := key L hcl
      obtain rfl := hI.1 h0
      have n1 : L 1 = false := by cases h : L 1 with | false => rfl | true => rw [k1 h] at h0; cases h0
      have n2 : L 2 = false := by cases h : L 2 with | false => rfl | true => rw [k2 h] at h0; cases h0
      have n3 : L 3 = false := by cases h : L 3 with | false => rfl | true => rw [(k3 h).1] at n1; cases n1
      refine ⟨σ0, s0, fun h => (by cases h), fun _ _ _ => rfl, fun h => ?_, fun _ h => ?_, fun h => ?_, fun h => ?_⟩
      · have h : L 1 = true := h; rw [n1] at h; cases h
      · have h : L 2 = true := h; rw [n2] at h; cases h
      · have h : L 1 = true := h; rw [n1] at h; cases h
      · have h : L 3 = true := h; rw [n3] at h; cases h
    · obtain ⟨k1, k2, k3⟩ := key L hcl
      have h0 : L 0 = true := bnd_dep c1 hd
      have n3 : L 3 = false := by cases h : L 3 with | false => rfl | true => rw [(k3 h).1] at h1; cases h1
      cases h2 : L 2 with
      | false =>
        obtain rfl := hI.2.1 h0 h1 h2
        refine ⟨σ1, s1, fun h => ?_, fun _ h => (by cases h), fun _ _ => rfl, fun h => (by cases h), fun _ h => ?_, fun h => ?_⟩
        · have h : L 0 = false := h; rw [h0] at h; cases h
        · have h : L 2 = true := h; rw [h2] at h; cases h
        · have h : L 3 = true := h; rw [n3] at h; cases h
      | true =>
        obtain rfl := hI.2.2.2.1 h1 h2
        refine ⟨σ21, s21, fun h => ?_, fun _ h => (by cases h), fun _ h => ?_, fun h => (by cases h), fun _ _ _ => .inr rfl, fun h => ?_⟩
        · have h : L 0 = false := h; rw [h0] at h; cases h
        · have h : L 2 = false := h; rw [h2] at h; cases h
        · have h : L 3 = true := h; rw [n3] at h; cases h
    · obtain ⟨k1, k2, k3⟩ := key L hcl
      have h0 : L 0 = true := bnd_dep c2 hd
      have n3 : L 3 = false := by cases h : L 3 with | false => rfl | true => rw [(k3 h).2] at h2; cases h2
      cases h1 : L 1 with
      | false =>
        obtain rfl := hI.2.1 h0 h1 h2
        refine ⟨σ2, s2, fun h => ?_, fun _ _ h => (by cases h), fun h => ?_, fun _ _ => rfl, fun h => ?_, fun h => ?_⟩
        · have h : L 0 = false := h; rw [h0] at h; cases h
        · have h : L 1 = true := h; rw [h1] at h; cases h
        · have h : L 1 = true := h; rw [h1] at h; cases h
        · have h : L 3 = true := h; rw [n3] at h; cases h
      | true =>
        obtain rfl := hI.2.2.1 h1 h2
        refine ⟨σ12, s12, fun h => ?_, fun _ _ h => (by cases h), fun _ h => (by cases h), fun h => ?_, fun _ _ _ => .inl rfl, fun h => ?_⟩
        · have h : L 0 = false := h; rw [h0] at h; cases h
        · have h : L 1 = false := h; rw [h1] at h; cases h
        · have h : L 3 = true := h; rw [n3] at h; cases h
    · have h1 : L 1 = true := bnd_dep c31 hd
      have h2 : L 2 = true := bnd_dep c32 hd
      obtain ⟨k1, k2, k3⟩ := key L hcl
      have h0 := k1 h1
      have fin : ∀ τ', (τ' = σA ∨ τ' = σB) → chI σ σ0 σ1 σ2 σ12 σ21 σA σB (upL L 3) τ' := fun τ' ht => by
        refine ⟨fun h => ?_, fun _ h => ?_, fun _ h => ?_, fun h => ?_, fun _ _ h => (by cases h), fun _ => ht⟩
        · have h : L 0 = false := h; rw [h0] at h; cases h
        · have h : L 1 = false := h; rw [h1] at h; cases h
        · have h : L 2 = false := h; rw [h2] at h; cases h
        · have h : L 1 = false := h; rw [h1] at h; cases h
      rcases hI.2.2.2.2.1 h1 h2 h3 with rfl | rfl
      · exact ⟨σA, s3, fin _ (.inl rfl)⟩
      · exact ⟨σB, s3', fin _ (.inr rfl)⟩
  · intro L τ hI hL
    rcases hI.2.2.2.2.2 (hL 3 (by simp)) with rfl | rfl
    · exact hA
    · exact hB
end
end Go.Am
