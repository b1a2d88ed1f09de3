/- The abstract machine, part 8: names are changed, slots are forgotten, rows become plain data.
The abstract machine, part 9: contracts of functions; calls.
The abstract machine: maps from strings. -/
import Derived.Test.YtfneddmmeadacaaGreatDoorAmB
import Derived.MapKept
set_option linter.unusedVariables false
set_option linter.unusedSimpArgs false
namespace Go.Am
open Go.RowKit

mutual
/-- Names are changed; what a name is lost of is no longer known. -/
def AV.ren (ρ : Nat → Option Nat) : AV → AV
  | .dat T d => .dat T d
  | .agg T vs => .agg T (AV.renL ρ vs)
  | .row l => match ρ l with
    | some k => .row k
    | none => .dead
  | .ptr l p o => match ρ l with
    | some k => .ptr k p o
    | none => .dead
  | .eptr l i z p o => match ρ l with
    | some k => .eptr k i z p o
    | none => .dead
  | .rptr T d => .rptr T d
  | .fn f caps => .fn f (AV.renL ρ caps)
  | .tup vs => .tup (AV.renL ρ vs)
  | .nils T => .nils T
  | .ifc T v => .ifc T (AV.ren ρ v)
  | .dead => .dead
def AV.renL (ρ : Nat → Option Nat) : List AV → List AV
  | [] => []
  | v :: r => AV.ren ρ v :: AV.renL ρ r
end
def Ob.ren (ρ : Nat → Option Nat) : Ob → Ob
  | .box T c => .box T (c.ren ρ)
  | .row T es => .row T es
  | .frz T es => .frz T es
  | .map T es => .map T es
  | .gone => .gone
  | .free => .free
theorem Ob.ren_own (ρ : Nat → Option Nat) (o : Ob) : (o.ren ρ).isOwn = o.isOwn := by cases o <;> rfl
theorem AV.renL_len (ρ : Nat → Option Nat) : ∀ vs : List AV, (AV.renL ρ vs).length = vs.length
  | [] => rfl
  | _ :: r => by simp [AV.renL, AV.renL_len ρ r]
theorem AV.renL_get (ρ : Nat → Option Nat) : ∀ (vs : List AV) (i : Nat), (AV.renL ρ vs)[i]? = (vs[i]?).map (AV.ren ρ)
  | [], i => by simp [AV.renL]
  | v :: r, 0 => by simp [AV.renL]
  | v :: r, i + 1 => by simp [AV.renL, AV.renL_get ρ r i]
theorem tk_renL (ρ : Nat → Option Nat) : ∀ (vs : List AV) (i : Nat), tk (AV.renL ρ vs) i = (tk vs i).ren ρ
  | [], i => by simp [AV.renL, tk, AV.ren]
  | v :: r, 0 => by simp [AV.renL, tk]
  | v :: r, i + 1 => by simp [AV.renL, tk, tk_renL ρ r i]

section
variable {P : Program} {ok : Nat → Prop} {w : World} {β β' : Nat → Option Value} {ρ : Nat → Option Nat} {v : AV} {cs : List Value} {z : Value}

def RenOK (ρ : Nat → Option Nat) (β β' : Nat → Option Value) : Prop := ∀ l k z, ρ l = some k → β l = some z → β' k = some z

theorem AV.isAgg_ren_false (v : AV) (h : v.isAgg P = false) : (v.ren ρ).isAgg P = false := by
  cases v with
  | row l => simp only [AV.ren]; split <;> rfl
  | ptr l p o => simp only [AV.ren]; split <;> rfl
  | eptr l i z p o => simp only [AV.ren]; split <;> rfl
  | _ => exact h
theorem AV.isAgg_ren_true (v : AV) (h : v.isAgg P = true) : (v.ren ρ).isAgg P = true := by
  cases v with
  | dat => exact h
  | agg => exact h
  | _ => simp [AV.isAgg] at h
theorem RA.ren (hr : RenOK ρ β β') (h : RA P ok w β v cs) : RA P ok w β' (v.ren ρ) cs := by
  induction h with
  | dat h => exact .dat h
  | agg hu hl hc h1 _ ih =>
    refine .agg hu (by rw [AV.renL_len]; exact hl) hc h1 fun i f v hf hv => ?_
    rw [AV.renL_get] at hv
    simp only [Option.map_eq_some_iff] at hv
    obtain ⟨v0, hv0, rfl⟩ := hv
    exact ih i f v0 hf hv0
  | row h h1 =>
    simp only [AV.ren]
    split
    · rename_i k e; exact .row (hr _ _ _ e h) h1
    · exact .dead (by simpa using h1)
  | ptr h =>
    simp only [AV.ren]
    split
    · rename_i k e; exact .ptr (hr _ _ _ e h)
    · exact .dead (by simp [Value.oneCell'])
  | eptr h =>
    simp only [AV.ren]
    split
    · rename_i k e; exact .eptr (hr _ _ _ e h)
    · exact .dead (by simp [Value.oneCell'])
  | rptr ho hl hc h => exact .rptr ho hl hc h
  | fn hl _ ih =>
    refine .fn (by rw [AV.renL_len]; exact hl) fun i av hv => ?_
    rw [AV.renL_get] at hv
    simp only [Option.map_eq_some_iff] at hv
    obtain ⟨v0, hv0, rfl⟩ := hv
    exact ih i v0 hv0
  | nils => exact .nils
  | @ifc1 T v z hi _ ih => exact .ifc1 (AV.isAgg_ren_false v hi) ih
  | @ifcA T v cs hi _ ih => exact .ifcA (AV.isAgg_ren_true v hi) ih
  | dead h => exact .dead h
theorem RV1.ren (hr : RenOK ρ β β') (h : RV1 P ok w β v z) : RV1 P ok w β' (v.ren ρ) z := by
  refine ⟨fun hi => ?_, fun hi => ?_⟩
  · cases hv : v.isAgg P with
    | true => obtain ⟨cs, e, q⟩ := h.1 hv; exact ⟨cs, e, q.ren hr⟩
    | false => rw [AV.isAgg_ren_false v hv] at hi; cases hi
  · cases hv : v.isAgg P with
    | true => rw [AV.isAgg_ren_true v hv] at hi; cases hi
    | false => exact (h.2 hv).ren hr
theorem RV.ren (hr : RenOK ρ β β') (h : RV P ok w β v z) : RV P ok w β' (v.ren ρ) z := by
  cases v with
  | dead => trivial
  | tup vs =>
    obtain ⟨arr, e, hs, h⟩ := h
    refine ⟨arr, e, by rw [AV.renL_len]; exact hs, fun i av hv => ?_⟩
    rw [AV.renL_get] at hv
    simp only [Option.map_eq_some_iff] at hv
    obtain ⟨v0, hv0, rfl⟩ := hv
    exact (h i v0 hv0).ren hr
  | row l =>
    refine RV1.toRV (RV1.ren hr h) fun us => ?_
    simp only [AV.ren]; split <;> simp
  | ptr l p o =>
    refine RV1.toRV (RV1.ren hr h) fun us => ?_
    simp only [AV.ren]; split <;> simp
  | eptr l i z p o =>
    refine RV1.toRV (RV1.ren hr h) fun us => ?_
    simp only [AV.ren]; split <;> simp
  | dat T d => exact RV1.ren hr h
  | agg T d => exact RV1.ren hr h
  | rptr T d => exact RV1.ren hr h
  | fn T d => exact RV1.ren hr h
  | nils T => exact RV1.ren hr h
  | ifc T v => exact RV1.ren hr h
theorem ObOK.ren {o : Ob} {x : Option Value} (hr : RenOK ρ β β') (h : ObOK P ok w β o x) : ObOK P ok w β' (o.ren ρ) x := by
  cases o with
  | box T c => obtain ⟨b, cs, h1, h2, h3, h4⟩ := h; exact ⟨b, cs, h1, h2, h3, h4.ren hr⟩
  | row E es => exact h
  | frz E es => exact h
  | map E es => exact h
  | gone => exact h
  | free => exact h
end

/-- The place of a name in a list. -/
def ix : List Nat → Nat → Option Nat
  | [], _ => none
  | a :: r, l => bif Nat.beq a l then some 0 else (ix r l).map (· + 1)
theorem ix_get : ∀ {src : List Nat} {l k : Nat}, ix src l = some k → src[k]? = some l
  | [], _, _, h => by simp [ix] at h
  | a :: r, l, k, h => by
    simp only [ix] at h
    cases hb : Nat.beq a l with
    | true =>
      rw [hb] at h
      have := Nat.eq_of_beq_eq_true hb
      subst this
      simp only [cond_true, Option.some.injEq] at h
      subst h; rfl
    | false =>
      rw [hb] at h
      simp only [cond_false, Option.map_eq_some_iff] at h
      obtain ⟨k', h1, rfl⟩ := h
      simpa using ix_get h1
def memB : Nat → List Nat → Bool
  | _, [] => false
  | a, b :: r => Nat.beq a b || memB a r
theorem memB_iff {a : Nat} : ∀ {l : List Nat}, memB a l = true ↔ a ∈ l
  | [] => by simp [memB]
  | b :: r => by simp [memB, memB_iff (l := r), Nat.beq_eq]
theorem memB_not {a : Nat} {l : List Nat} (h : memB a l = false) : a ∉ l := fun hm => by rw [memB_iff.2 hm] at h; cases h
def nodupB : List Nat → Bool
  | [] => true
  | a :: r => !memB a r && nodupB r
theorem nodupB_nodup : ∀ {l : List Nat}, nodupB l = true → l.Nodup
  | [], _ => List.nodup_nil
  | a :: r, h => by
    simp only [nodupB, Bool.and_eq_true, Bool.not_eq_true'] at h
    exact List.nodup_cons.2 ⟨memB_not h.1, nodupB_nodup h.2⟩
def pickO (ρ : Nat → Option Nat) (hs : List Ob) : List Nat → List Ob
  | [] => []
  | l :: r => (lk hs l).ren ρ :: pickO ρ hs r
def pickAt (ρ : Nat → Option Nat) (hs : List Ob) : Option Nat → Ob
  | some l => (lk hs l).ren ρ
  | none => .free
theorem lk_pick (ρ : Nat → Option Nat) (hs : List Ob) : ∀ (src : List Nat) (k : Nat), lk (pickO ρ hs src) k = pickAt ρ hs src[k]?
  | [], k => by simp [pickO, lk, pickAt]
  | l :: r, 0 => by simp [pickO, lk, pickAt]
  | l :: r, k + 1 => by simp [pickO, lk, lk_pick ρ hs r k]
def srcB (src : List Nat) (β : Nat → Option Value) (k : Nat) : Option Value := match src[k]? with
  | some l => β l
  | none => none
theorem src_ren (src : List Nat) (β : Nat → Option Value) : RenOK (ix src) β (srcB src β) := fun l k z h1 h2 => by
  simp only [srcB, ix_get h1]
  exact h2
theorem owns_pick {src : List Nat} {ρ : Nat → Option Nat} {hs : List Ob} {β : Nat → Option Value} {k b : Nat} (h : owns (pickO ρ hs src) (srcB src β) k b) : ∃ l, src[k]? = some l ∧ owns hs β l b := by
  obtain ⟨h1, z, h2, h3⟩ := h
  rw [lk_pick] at h1
  simp only [srcB] at h2
  cases hk : src[k]? with
  | none => rw [hk] at h1; cases h1
  | some l =>
    rw [hk] at h1 h2
    simp only [pickAt, Ob.ren_own] at h1
    exact ⟨l, rfl, h1, z, h2, h3⟩

section
variable {P : Program} {n : Nat} {σ τ : St} {K : OkX} {w0 w : World} {a : Act} {β : Nat → Option Value}

/-- The names 'src' become 0, 1, ..; the first 'k0' stay. -/
theorem RelB.relabel (r : RelB P K w0 n σ a w β) (src : List Nat) (hnd : src.Nodup) (h0 : ∀ i, i < σ.k0 → src[i]? = some i) (ts' : List AV) (ht : ∀ k, tk ts' k = .dead ∨ tk ts' k = (tk σ.ts k).ren (ix src)) :
    RelB P K w0 n ⟨ts', pickO (ix src) σ.hs src, σ.k0⟩ a w (srcB src β) := by
  have hk : ∀ b, okOf K w0 w σ.hs β b → okOf K w0 w (pickO (ix src) σ.hs src) (srcB src β) b ∧ w.heap[b]? = w.heap[b]? := by
    rintro b ⟨h1, h2, h3⟩
    refine ⟨⟨h1, h2, fun k hk => ?_⟩, rfl⟩
    obtain ⟨l, _, h5⟩ := owns_pick hk
    exact h3 l h5
  refine ⟨r.size, r.defers, r.below, fun k => ?_, fun k => ?_, fun k k' b h1 h2 => ?_, fun k b h1 => ?_, fun k hk0 => ?_, r.kk, r.tab.mono hk⟩
  · rcases ht k with e | e
    · show RV P _ w _ (tk ts' k) _
      rw [e]; trivial
    · show RV P _ w _ (tk ts' k) _
      rw [e]
      exact RV.ren (src_ren src β) ((r.ts k).mono hk (Ext.refl _))
  · show ObOK P _ w _ (lk (pickO (ix src) σ.hs src) k) _
    rw [lk_pick]
    simp only [srcB]
    cases hs : src[k]? with
    | none => rfl
    | some l => exact ObOK.ren (src_ren src β) ((r.hs l).mono hk (fun _ _ _ _ _ => rfl) (Ext.refl _))
  · obtain ⟨l, e1, h3⟩ := owns_pick h1
    obtain ⟨l', e2, h4⟩ := owns_pick h2
    have e := r.sep l l' b h3 h4
    subst e
    have hlt := (List.getElem?_eq_some_iff.1 e1).1
    exact (List.getElem?_inj hlt hnd).1 (e1.trans e2.symm)
  · obtain ⟨l, _, h3⟩ := owns_pick h1
    exact r.own l b h3
  · rw [r.kk] at hk0
    simp only [srcB, h0 k hk0]
    exact r.ext k (by rw [r.kk]; exact hk0)

theorem Rel.congr (h1 : ∀ k, tk τ.ts k = .dead ∨ tk τ.ts k = tk σ.ts k) (h2 : ∀ l, lk τ.hs l = lk σ.hs l) (h3 : τ.k0 = σ.k0) : Imp P n σ τ := by
  rintro K w0 a w ⟨β, r⟩
  have ho : ∀ l b, owns τ.hs β l b ↔ owns σ.hs β l b := fun l b => by simp only [owns, h2]
  have hk : ∀ b, okOf K w0 w σ.hs β b → okOf K w0 w τ.hs β b ∧ w.heap[b]? = w.heap[b]? := fun b hb => ⟨⟨hb.1, hb.2.1, fun l hl => hb.2.2 l ((ho l b).1 hl)⟩, rfl⟩
  refine ⟨β, r.size, r.defers, r.below, fun k => ?_, fun l => ?_, fun l l' b q1 q2 => r.sep l l' b ((ho _ _).1 q1) ((ho _ _).1 q2), fun l b q1 => r.own l b ((ho _ _).1 q1), r.ext, by rw [h3]; exact r.kk, r.tab.mono hk⟩
  · rcases h1 k with e | e
    · rw [e]; trivial
    · rw [e]; exact (r.ts k).mono hk (Ext.refl _)
  · rw [h2]; exact (r.hs l).mono hk (fun _ _ _ _ _ => rfl) (Ext.refl _)

/-- Forget all slots but those of a list. -/
def topL : List Nat → Nat
  | [] => 0
  | a :: r => bif Nat.blt a (topL r) then topL r else a + 1
def keepT (keep : List Nat) (b : Nat) : List AV → Nat → List AV
  | [], _ => []
  | v :: r, k => bif Nat.blt k b then (bif memB k keep then v else .dead) :: keepT keep b r (k + 1) else []
theorem tk_keep (keep : List Nat) (b : Nat) : ∀ (ts : List AV) (j k : Nat), tk (keepT keep b ts j) k = .dead ∨ tk (keepT keep b ts j) k = tk ts k
  | [], j, k => .inl rfl
  | v :: r, j, k => by
    simp only [keepT]
    cases Nat.blt j b with
    | false => exact .inl rfl
    | true =>
      cases k with
      | zero =>
        simp only [cond_true, tk]
        cases memB j keep with
        | true => exact .inr rfl
        | false => exact .inl rfl
      | succ k => simpa [tk] using tk_keep keep b r (j + 1) k

/-- The row 'l', if it is one, becomes plain data. -/
def frz1 (hs : List Ob) (l : Nat) : List Ob := match lk hs l with
  | .row T es => setO hs l (.frz T es)
  | _ => hs
def frzN (hs : List Ob) : List Nat → List Ob
  | [] => hs
  | l :: r => frzN (frz1 hs l) r
theorem Imp.frz1 (l : Nat) : Imp P n σ ⟨σ.ts, frz1 σ.hs l, σ.k0⟩ := by
  rintro K w0 a w ⟨β, r⟩
  unfold Am.frz1
  split
  · rename_i T es hl; exact ⟨β, r.frz hl⟩
  · exact ⟨β, r⟩
theorem Imp.frzN : ∀ (ls : List Nat) (σ : St), Imp P n σ ⟨σ.ts, frzN σ.hs ls, σ.k0⟩
  | [], σ => Imp.refl
  | l :: r, σ => (Imp.frz1 l).trans (Imp.frzN r ⟨σ.ts, Am.frz1 σ.hs l, σ.k0⟩)

/-- A nil slice becomes a row of its own, of the name 'l'. -/
theorem RelB.nilrow (r : RelB P K w0 n σ a w β) {l : Nat} {T E : TypeId} (hu : P.underlying T = some (.slice E)) (hf : lk σ.hs l = .free) (hk0 : σ.k0 ≤ l) : RelB P K w0 n (σ.lay l (.row T [])) a w (upB β l (some (.slice none 0 0))) := by
  have hfree := r.hs l
  rw [hf] at hfree
  exact r.upd l (.row T []) (some (.slice none 0 0)) w (.inr ⟨hfree, hk0⟩) rfl rfl rfl (Nat.le_refl _) (fun _ _ _ => rfl) (fun z b _ hz hb => by cases hz; simp [blk] at hb) fun _ _ => ⟨E, _, [], rfl, hu, World.ownsRow_nil _ _ _ _, fun c hc => by simp at hc, fun i d hd => by simp at hd⟩
mutual
/-- Nil slices become rows: the value, and the rows' types, named from 'k' on. -/
def AV.n2r (P : Program) : AV → Nat → AV × List TypeId
  | .nils T, k => match P.underlying T with
    | some (.slice _) => (.row k, [T])
    | _ => (.nils T, [])
  | .agg T vs, k => let r := AV.n2rL P vs k; (.agg T r.1, r.2)
  | v, _ => (v, [])
def AV.n2rL (P : Program) : List AV → Nat → List AV × List TypeId
  | [], _ => ([], [])
  | v :: vs, k => let r := AV.n2r P v k; let q := AV.n2rL P vs (k + r.2.length); (r.1 :: q.1, r.2 ++ q.2)
end
def layN (hs : List Ob) (k : Nat) : List TypeId → List Ob
  | [] => hs
  | T :: r => layN (setO hs k (.row T [])) (k + 1) r
def NilB (β : Nat → Option Value) (k m : Nat) : Prop := ∀ i, k ≤ i → i < k + m → β i = some (.slice none 0 0)
theorem NilB.left {β : Nat → Option Value} {k m q : Nat} (h : NilB β k (m + q)) : NilB β k m := fun i h1 h2 => h i h1 (by omega)
theorem NilB.right {β : Nat → Option Value} {k m q : Nat} (h : NilB β k (m + q)) : NilB β (k + m) q := fun i h1 h2 => h i (by omega) (by omega)
theorem n2rL_get (P : Program) : ∀ (vs : List AV) (k i : Nat) (u : AV), (AV.n2rL P vs k).1[i]? = some u → ∃ v j, vs[i]? = some v ∧ u = (AV.n2r P v j).1 ∧ ∀ β : Nat → Option Value, NilB β k (AV.n2rL P vs k).2.length → NilB β j (AV.n2r P v j).2.length
  | [], k, i, u, h => by simp [AV.n2rL] at h
  | v :: vs, k, 0, u, h => by
    simp only [AV.n2rL, List.getElem?_cons_zero, Option.some.injEq] at h
    exact ⟨v, k, rfl, h.symm, fun β hb => by simp only [AV.n2rL, List.length_append] at hb; exact hb.left⟩
  | v :: vs, k, i + 1, u, h => by
    simp only [AV.n2rL, List.getElem?_cons_succ] at h
    obtain ⟨v', j, h1, h2, h3⟩ := n2rL_get P vs _ i u h
    exact ⟨v', j, by simpa using h1, h2, fun β hb => h3 β (by simp only [AV.n2rL, List.length_append] at hb; exact hb.right)⟩
theorem n2rL_len (P : Program) : ∀ (vs : List AV) (k : Nat), (AV.n2rL P vs k).1.length = vs.length
  | [], k => rfl
  | v :: vs, k => by simp [AV.n2rL, n2rL_len P vs]
theorem RA.n2r {ok : Nat → Prop} {w : World} {β : Nat → Option Value} {v : AV} {cs : List Value} (h : RA P ok w β v cs) : ∀ k, NilB β k (AV.n2r P v k).2.length → RA P ok w β (AV.n2r P v k).1 cs := by
  induction h with
  | nils =>
    intro k hb
    simp only [AV.n2r] at hb ⊢
    split at hb
    · exact .row (hb k (Nat.le_refl _) (by simp)) rfl
    · exact .nils
  | agg hu hl hc h1 _ ih =>
    intro k hb
    simp only [AV.n2r] at hb ⊢
    refine .agg hu (by rw [n2rL_len]; exact hl) hc h1 fun i f u hf hu2 => ?_
    obtain ⟨v, j, q1, q2, q3⟩ := n2rL_get P _ k i u hu2
    subst q2
    exact ih i f v hf q1 j (q3 β hb)
  | dat h => intro k hb; exact .dat h
  | row h h1 => intro k hb; exact .row h h1
  | ptr h => intro k hb; exact .ptr h
  | eptr h => intro k hb; exact .eptr h
  | rptr h1 h2 h3 h4 => intro k hb; exact .rptr h1 h2 h3 h4
  | fn h1 h2 => intro k hb; exact .fn h1 h2
  | ifc1 h1 h2 => intro k hb; exact .ifc1 h1 h2
  | ifcA h1 h2 => intro k hb; exact .ifcA h1 h2
  | dead h => intro k hb; exact .dead h
theorem n2r_agg (v : AV) (k : Nat) : (AV.n2r P v k).1.isAgg P = v.isAgg P := by
  cases v with
  | nils T => simp only [AV.n2r]; split <;> rfl
  | agg T vs => rfl
  | _ => rfl
theorem n2r_tup {v : AV} {k : Nat} {us : List AV} (h : (AV.n2r P v k).1 = .tup us) : v = .tup us := by
  cases v with
  | nils T => simp only [AV.n2r] at h; split at h <;> cases h
  | agg T vs => simp [AV.n2r] at h
  | tup vs => simpa [AV.n2r] using h
  | _ => simp [AV.n2r] at h
theorem RV.n2r {ok : Nat → Prop} {w : World} {β : Nat → Option Value} {v : AV} {z : Value} (h : RV P ok w β v z) (k : Nat) (hb : NilB β k (AV.n2r P v k).2.length) : RV P ok w β (AV.n2r P v k).1 z := by
  by_cases hd : v = .dead
  · subst hd; trivial
  · by_cases ht : ∃ us, v = .tup us
    · obtain ⟨us, rfl⟩ := ht
      exact h
    · have h1 := RV.to1 hd (fun us e => ht ⟨us, e⟩) h
      refine RV1.toRV ⟨fun hi => ?_, fun hi => ?_⟩ fun us e => ht ⟨us, n2r_tup e⟩
      · rw [n2r_agg] at hi
        obtain ⟨cs, e, q⟩ := h1.1 hi
        exact ⟨cs, e, q.n2r k hb⟩
      · rw [n2r_agg] at hi
        exact (h1.2 hi).n2r k hb
theorem n2r_sl (P : Program) (v : AV) (k : Nat) : ∀ T ∈ (AV.n2r P v k).2, ∃ E, P.underlying T = some (.slice E) := by
  refine AV.rec (motive_1 := fun v => ∀ k, ∀ T ∈ (AV.n2r P v k).2, ∃ E, P.underlying T = some (.slice E)) (motive_2 := fun vs => ∀ k, ∀ T ∈ (AV.n2rL P vs k).2, ∃ E, P.underlying T = some (.slice E)) ?_ ?_ ?_ ?_ ?_ ?_ ?_ ?_ ?_ ?_ ?_ ?_ ?_ v k
  · intro T d k T' h; simp [AV.n2r] at h
  · intro T vs ih k T' h; exact ih k T' h
  · intro l k T' h; simp [AV.n2r] at h
  · intro l p o k T' h; simp [AV.n2r] at h
  · intro l i z p o k T' h; simp [AV.n2r] at h
  · intro T d k T' h; simp [AV.n2r] at h
  · intro f c _ k T' h; simp [AV.n2r] at h
  · intro vs _ k T' h; simp [AV.n2r] at h
  · intro T k T' h
    simp only [AV.n2r] at h
    split at h
    · rename_i E hu
      simp only [List.mem_singleton] at h
      subst h
      exact ⟨E, hu⟩
    · simp at h
  · intro T v _ k T' h; simp [AV.n2r] at h
  · intro k T' h; simp [AV.n2r] at h
  · intro k T' h; simp [AV.n2rL] at h
  · intro v vs h1 h2 k T' h
    simp only [AV.n2rL, List.mem_append] at h
    rcases h with h | h
    · exact h1 _ T' h
    · exact h2 _ T' h
theorem lay_nil (hs : List Ob) : ∀ (Ts : List TypeId) (σ : St) (K : OkX) (w0 w : World) (a : Act) (β : Nat → Option Value) (k : Nat), RelB P K w0 n σ a w β → (∀ T ∈ Ts, ∃ E, P.underlying T = some (.slice E)) → (∀ i, k ≤ i → lk σ.hs i = .free) → σ.k0 ≤ k →
    ∃ β', RelB P K w0 n ⟨σ.ts, layN σ.hs k Ts, σ.k0⟩ a w β' ∧ Ext β β' ∧ NilB β' k Ts.length
  | [], σ, K, w0, w, a, β, k, r, _, _, _ => ⟨β, r, Ext.refl _, fun i h1 h2 => by simp at h2; omega⟩
  | T :: Ts, σ, K, w0, w, a, β, k, r, hT, hf, hk => by
    obtain ⟨E, hu⟩ := hT T (by simp)
    have hfk := hf k (Nat.le_refl _)
    have r1 := r.nilrow hu hfk hk
    obtain ⟨β', r2, e2, n2⟩ := lay_nil hs Ts (σ.lay k (.row T [])) K w0 w a _ (k + 1) r1 (fun T' h => hT T' (by simp [h])) (fun i hi => by
      show lk (setO σ.hs k _) i = .free
      rw [lk_other _ _ _ _ (by omega)]; exact hf i (by omega)) (by show σ.k0 ≤ k + 1; omega)
    have hb : β k = none := by have := r.hs k; rw [hfk] at this; exact this
    have e1 : Ext β (upB β k (some (.slice none 0 0))) := fun i z hz => by
      by_cases hik : i = k
      · subst hik; rw [hb] at hz; cases hz
      · rw [upB_other _ _ _ _ hik]; exact hz
    refine ⟨β', r2, e1.trans e2, fun i h1 h2 => ?_⟩
    by_cases hik : i = k
    · subst hik; exact e2 _ _ (upB_same _ _ _)
    · exact n2 i (by omega) (by simp at h2 ⊢; omega)
theorem lk_end : ∀ (hs : List Ob) (i : Nat), hs.length ≤ i → lk hs i = .free
  | [], _, _ => rfl
  | _ :: r, 0, h => by simp at h
  | _ :: r, i + 1, h => by simp only [lk]; exact lk_end r i (by simpa using h)
/-- Nil slices in slot 's' become rows. -/
def nilSlot (P : Program) (σ : St) (s : Nat) : St :=
  let r := AV.n2r P (tk σ.ts s) σ.hs.length
  match r.2 with
  | [] => σ
  | _ :: _ => bif Nat.ble σ.k0 σ.hs.length then ⟨setT σ.ts s r.1, layN σ.hs σ.hs.length r.2, σ.k0⟩ else σ
theorem Imp.nilSlot (s : Nat) : Imp P n σ (nilSlot P σ s) := by
  rintro K w0 a w ⟨β, r⟩
  unfold Am.nilSlot
  simp only
  split
  · exact ⟨β, r⟩
  · rename_i x y hxy
    cases hb : Nat.ble σ.k0 σ.hs.length with
    | false => exact ⟨β, r⟩
    | true =>
      obtain ⟨β', r2, e2, n2⟩ := lay_nil σ.hs _ σ K w0 w a β σ.hs.length r (n2r_sl P (tk σ.ts s) σ.hs.length) (fun i hi => lk_end _ _ hi) (Nat.le_of_ble_eq_true hb)
      refine ⟨β', r2.size, r2.defers, r2.below, fun k => ?_, r2.hs, r2.sep, r2.own, r2.ext, r2.kk, r2.tab⟩
      show RV P _ w β' (tk (setT σ.ts s _) k) _
      rw [tk_set]
      by_cases hk : k = s
      · subst hk; rw [if_pos rfl]; exact (r2.ts k).n2r _ n2
      · rw [if_neg hk]; exact r2.ts k
/-- Nil slices in box 'b' become rows. -/
def nilBox (P : Program) (σ : St) (b : Nat) : St :=
  match lk σ.hs b with
  | .box T c =>
    let r := AV.n2r P c σ.hs.length
    match r.2 with
    | [] => σ
    | _ :: _ => bif Nat.ble σ.k0 σ.hs.length then ⟨σ.ts, setO (layN σ.hs σ.hs.length r.2) b (.box T r.1), σ.k0⟩ else σ
  | _ => σ
theorem lk_layN : ∀ (Ts : List TypeId) (hs : List Ob) (k i : Nat), i < k → lk (layN hs k Ts) i = lk hs i
  | [], hs, k, i, h => rfl
  | T :: Ts, hs, k, i, h => by rw [layN, lk_layN Ts _ (k + 1) i (by omega), lk_other _ _ _ _ (by omega)]
theorem Imp.nilBox (b : Nat) : Imp P n σ (nilBox P σ b) := by
  rintro K w0 a w ⟨β, r⟩
  unfold Am.nilBox
  split
  · rename_i T c hl
    simp only
    split
    · exact ⟨β, r⟩
    · rename_i x y hxy
      cases hb : Nat.ble σ.k0 σ.hs.length with
      | false => exact ⟨β, r⟩
      | true =>
        obtain ⟨β', r2, e2, n2⟩ := lay_nil σ.hs _ σ K w0 w a β σ.hs.length r (n2r_sl P c σ.hs.length) (fun i hi => lk_end _ _ hi) (Nat.le_of_ble_eq_true hb)
        have hlt : b < σ.hs.length := by
          rcases Nat.lt_or_ge b σ.hs.length with h | h
          · exact h
          · rw [lk_end _ _ h] at hl; cases hl
        have hl2 : lk (layN σ.hs σ.hs.length (AV.n2r P c σ.hs.length).2) b = .box T c := by rw [lk_layN _ _ _ _ hlt]; exact hl
        refine ⟨_, r2.upd b (.box T (AV.n2r P c σ.hs.length).1) (β' b) w (.inl rfl) rfl rfl rfl (Nat.le_refl _) (fun _ _ _ => rfl) (fun z b2 _ hz hb2 => .inr ⟨by show (lk (layN _ _ _) b).isOwn = true; rw [hl2]; rfl, z, hz, hb2⟩) fun hx hk => ?_⟩
        have hob := r2.hs b
        have hl3 : lk (St.mk σ.ts (layN σ.hs σ.hs.length (AV.n2r P c σ.hs.length).2) σ.k0).hs b = .box T c := hl2
        rw [hl3] at hob
        obtain ⟨g, cs, h1, h3, h4, h5⟩ := hob
        exact ⟨g, cs, h1, h3, h4, (h5.n2r _ n2).mono hk hx⟩
  · exact ⟨β, r⟩
end
end Go.Am
namespace Go.Am
open Go.RowKit

inductive RVsX (P : Program) (ok : Nat → Prop) (w : World) (β : Nat → Option Value) : List AV → List Value → Prop where
  | nil : RVsX P ok w β [] []
  | cons {v : AV} {x : Value} {vs : List AV} {xs : List Value} (h : RV P ok w β v x) (r : RVsX P ok w β vs xs) : RVsX P ok w β (v :: vs) (x :: xs)

def XO (hs : List Ob) (β : Nat → Option Value) (b : Nat) : Prop := ∃ l, owns hs β l b

structure FinX (P : Program) (ok : Nat → Prop) (w w' : World) (β β' : Nat → Option Value) (hs hs' : List Ob) : Prop where
  below : BelowX (XO hs β) w w'
  obs : ∀ l, ObOK P (okOf ⟨ok, XO hs β, β, hs.length⟩ w w' hs' β') w' β' (lk hs' l) (β' l)
  sep : ∀ l l' b, owns hs' β' l b → owns hs' β' l' b → l = l'
  own : ∀ l b, owns hs' β' l b → w.heap.size ≤ b ∨ XO hs β b
  ext : ∀ l, l < hs.length → β' l = β l

/-- THE CONTRACT of a function: with arguments that represent 'args' and objects 'hs' it returns a value that represents 'res', and the objects are then 'hs''. -/
def FX (P : Program) (f : FuncId) (args : List AV) (hs : List Ob) (res : AV) (hs' : List Ob) : Prop :=
  ∀ (ok : Nat → Prop) (w : World) (β : Nat → Option Value) (vs : List Value),
    (∀ b, ok b → b < w.heap.size ∧ ¬ XO hs β b) →
    (∀ l, ObOK P ok w β (lk hs l) (β l)) →
    (∀ l l' b, owns hs β l b → owns hs β l' b → l = l') →
    RVsX P ok w β args vs →
    TabOK ok w →
    Calls P f vs.toArray w fun e w' => ∃ v β', e = .returned v ∧ FinX P ok w w' β β' hs hs' ∧ RV P (okOf ⟨ok, XO hs β, β, hs.length⟩ w w' hs' β') w' β' res v

section
variable {P : Program} {n : Nat} {o : Oper} {σ τ : St} {x y : Operand} {v res : AV} {T : TypeId} {ok : Nat → Prop} {w w0 : World} {β β' : Nat → Option Value} {K : OkX} {a : Act}

theorem RVsX.len {vs : List AV} {xs : List Value} (h : RVsX P ok w β vs xs) : xs.length = vs.length := by
  induction h with
  | nil => rfl
  | cons _ _ ih => simp [ih]
theorem RVsX.get {vs : List AV} {xs : List Value} (h : RVsX P ok w β vs xs) : ∀ (i : Nat) (v : AV), vs[i]? = some v → ∃ x, xs[i]? = some x ∧ RV P ok w β v x := by
  induction h with
  | nil => intro i v hv; simp at hv
  | @cons v x vs xs h _ ih =>
    intro i v' hv
    cases i with
    | zero => simp only [List.getElem?_cons_zero, Option.some.injEq] at hv; subst hv; exact ⟨x, rfl, h⟩
    | succ i => simp only [List.getElem?_cons_succ] at hv; obtain ⟨x', h1, h2⟩ := ih i v' hv; exact ⟨x', by simpa using h1, h2⟩
theorem RVsX.tk {vs : List AV} {xs : List Value} (h : RVsX P ok w β vs xs) (k : Nat) : RV P ok w β (tk vs k) (xs.getD k undef) := by
  induction h generalizing k with
  | nil => exact trivial
  | cons h _ ih =>
    cases k with
    | zero => exact h
    | succ k => simpa [Am.tk] using ih k
theorem RVsX.app {vs us : List AV} {xs ys : List Value} (h : RVsX P ok w β vs xs) (h2 : RVsX P ok w β us ys) : RVsX P ok w β (vs ++ us) (xs ++ ys) := by
  induction h with
  | nil => exact h2
  | cons h _ ih => exact .cons h ih
theorem RVsX.ren {ρ : Nat → Option Nat} {vs : List AV} {xs : List Value} (hr : RenOK ρ β β') (h : RVsX P ok w β vs xs) : RVsX P ok w β' (AV.renL ρ vs) xs := by
  induction h with
  | nil => exact .nil
  | cons h _ ih => exact .cons (h.ren hr) ih
theorem RVsX.of_get : ∀ {vs : List AV} {xs : List Value}, xs.length = vs.length → (∀ (i : Nat) (v : AV), vs[i]? = some v → RV P ok w β v (xs.getD i undef)) → RVsX P ok w β vs xs
  | [], [], _, _ => .nil
  | v :: vs, x :: xs, hl, h => .cons (by simpa using h 0 v rfl) (RVsX.of_get (by simpa using hl) fun i v' hv => by simpa using h (i + 1) v' (by simpa using hv))

structure HasBody (P : Program) (f : FuncId) : Prop where
  ex : ∃ fn, P.funcs[f]? = some fn ∧ fn.body.isNone = false ∧ (fn.name == "runtime.NumGoroutine") = false
theorem run_callFunc {f : FuncId} (hb : HasBody P f) (w : World) (args : Array Value) : (callFunc f args).run P w = .ok (.enter f args) w := by
  obtain ⟨fn, h1, h2, h3⟩ := hb.ex
  simp only [callFunc, Sem.run_bind, program]
  simp only [Sem.run, Result.andThen_ok, h1, h3, h2, Bool.false_eq_true, if_false, Sem.run_pure]
theorem run_callC {xs : List Operand} {ts : Array TypeId} {g : Operand} {f : FuncId} {cv : Array Value} (ho : o.op = .call { callee := .value g, args := xs.toArray, argTypes := ts }) (hb : HasBody P f) (a : Act) (w : World) (hg : a.eval g = .func (.func f) #[] cv) :
    (execOp a.eval o).run P w = .ok (.enter f (xs.map a.eval ++ cv.toList).toArray) w := by
  simp only [execOp, ho, resolve, Sem.run_bind, Deferred.ofValue, hg, Sem.run_pure, Result.andThen_ok, invoke, Array.empty_append, List.map_toArray, run_callFunc hb]
  congr 2
  apply Array.ext'
  simp
theorem fn_evalC {f : FuncId} {caps : List AV} {z : Value} (h : RV P ok w β (.fn f caps) z) (hc : ∀ v ∈ caps, v.isAgg P = false ∧ ∀ us, v ≠ .tup us) : ∃ cv : Array Value, z = .func (.func f) #[] cv ∧ RVsX P ok w β caps cv.toList := by
  have h' := h.2 rfl
  cases h' with
  | @fn _ _ cv hl hr =>
    refine ⟨cv, rfl, RVsX.of_get (by simpa using hl) fun i v hv => ?_⟩
    have hm := hc v (List.mem_of_getElem? hv)
    have hri := hr i v hv
    have e : cv.toList.getD i undef = cv.getD i undef := by simp [List.getD, Array.getD_eq_getD_getElem?]
    rw [e]
    exact RV1.toRV ⟨(fun hi => by rw [hm.1] at hi; cases hi), fun _ => hri⟩ hm.2

inductive EvXs (P : Program) (σ : St) : List Operand → List AV → Prop where
  | nil : EvXs P σ [] []
  | cons {x : Operand} {v : AV} {xs : List Operand} {vs : List AV} (h : Ev P σ x v) (r : EvXs P σ xs vs) : EvXs P σ (x :: xs) (v :: vs)
theorem EvXs.rvs {xs : List Operand} {vs : List AV} (h : EvXs P σ xs vs) (r : RelB P K w0 n σ a w β) : RVsX P (okOf K w0 w σ.hs β) w β vs (xs.map a.eval) := by
  induction h with
  | nil => exact .nil
  | cons h _ ih => exact .cons (h _ _ _ _ _ _ r) ih

/-- The callee's names, as the caller's. -/
def bkN (src : List Nat) (nm j : Nat) : Option Nat := match src[j]? with
  | some l => some l
  | none => some (nm + (j - src.length))
def bkB (src : List Nat) (nm m : Nat) (β β' : Nat → Option Value) (c : Nat) : Option Value := if nm ≤ c ∧ c < nm + m then β' (src.length + (c - nm)) else β c
/-- The objects behind a call. -/
structure BackH (src : List Nat) (nm : Nat) (hs objs' hs'' : List Ob) : Prop where
  old : ∀ i l, src[i]? = some l → lk hs'' l = (lk objs' i).ren (bkN src nm)
  new : ∀ j, src.length ≤ j → j < objs'.length → lk hs'' (nm + (j - src.length)) = (lk objs' j).ren (bkN src nm)
  rest : ∀ c, c ∉ src → ¬ (nm ≤ c ∧ c < nm + (objs'.length - src.length)) → lk hs'' c = lk hs c

theorem callX_rel {src : List Nat} {nm : Nat} {objs objs' hs'' : List Ob} (r : RelB P K w0 n σ a w β) (hnd : src.Nodup) (hol : objs.length = src.length) (hobj : ∀ i l, src[i]? = some l → lk objs i = (lk σ.hs l).ren (ix src))
    (hfree : ∀ j, j < objs'.length - src.length → lk σ.hs (nm + j) = .free) (hk0 : σ.k0 ≤ nm) (hsf : ∀ l ∈ src, lk σ.hs l ≠ .free) (hback : BackH src nm σ.hs objs' hs'') {w' : World} {β' : Nat → Option Value}
    (fin : FinX P (okOf K w0 w σ.hs β) w w' (srcB src β) β' objs objs') {z : Value} (hz : RV P (okOf ⟨okOf K w0 w σ.hs β, XO objs (srcB src β), srcB src β, objs.length⟩ w w' objs' β') w' β' res z) :
    ∃ β'', RelB P K w0 n ⟨σ.ts, hs'', σ.k0⟩ a w' β'' ∧ RV P (okOf K w0 w' hs'' β'') w' β'' (res.ren (bkN src nm)) z := by
  have hβnew : ∀ j, j < objs'.length - src.length → β (nm + j) = none := fun j hj => by
    have := r.hs (nm + j)
    rw [hfree j hj] at this
    exact this
  have hsrcnew : ∀ l ∈ src, ¬ (nm ≤ l ∧ l < nm + (objs'.length - src.length)) := fun l hl hc => hsf l hl (by
    have := hfree (l - nm) (by omega)
    rwa [show nm + (l - nm) = l by omega] at this)
  have hob : ∀ i l, src[i]? = some l → β' i = β l := fun i l hi => by
    have hlt := (List.getElem?_eq_some_iff.1 hi).1
    rw [fin.ext i (by omega)]
    simp only [srcB, hi]
  have hext : Ext β (bkB src nm (objs'.length - src.length) β β') := fun l z' hl => by
    unfold bkB
    split
    · rename_i hc
      have := hβnew (l - nm) (by omega)
      rw [show nm + (l - nm) = l by omega, hl] at this
      cases this
    · exact hl
  have hren : RenOK (bkN src nm) β' (bkB src nm (objs'.length - src.length) β β') := fun j c z' hj hz' => by
    unfold bkN at hj
    split at hj
    · rename_i l hl
      cases hj
      rw [hob j c hl] at hz'
      exact hext _ _ hz'
    · rename_i hl
      cases hj
      have hjl : src.length ≤ j := List.getElem?_eq_none_iff.1 hl
      have hj2 : j < objs'.length := by
        rcases Nat.lt_or_ge j objs'.length with h | h
        · exact h
        · have := fin.obs j
          rw [lk_end _ _ h] at this
          have e : β' j = none := this
          rw [e] at hz'; cases hz'
      unfold bkB
      rw [if_pos (by omega), show src.length + (nm + (j - src.length) - nm) = j by omega]
      exact hz'
  -- who owns what
  have hXO : ∀ b, XO objs (srcB src β) b → ∃ l, l ∈ src ∧ owns σ.hs β l b := by
    rintro b ⟨i, h1, z', h2, h3⟩
    simp only [srcB] at h2
    cases hs : src[i]? with
    | none => rw [hs] at h2; cases h2
    | some l =>
      rw [hs] at h2
      rw [hobj i l hs, Ob.ren_own] at h1
      exact ⟨l, List.mem_of_getElem? hs, h1, z', h2, h3⟩
  have hcls : ∀ c b, owns hs'' (bkB src nm (objs'.length - src.length) β β') c b → (∃ j, bkN src nm j = some c ∧ owns objs' β' j b) ∨ (c ∉ src ∧ owns σ.hs β c b) := by
    rintro c b ⟨h1, z', h2, h3⟩
    by_cases hc : nm ≤ c ∧ c < nm + (objs'.length - src.length)
    · left
      unfold bkB at h2
      rw [if_pos hc] at h2
      have hnw := hback.new (src.length + (c - nm)) (by omega) (by omega)
      rw [show nm + (src.length + (c - nm) - src.length) = c by omega] at hnw
      rw [hnw, Ob.ren_own] at h1
      refine ⟨src.length + (c - nm), ?_, h1, z', h2, h3⟩
      unfold bkN
      rw [List.getElem?_eq_none (by omega)]
      simp only
      congr 1
      omega
    · unfold bkB at h2
      rw [if_neg hc] at h2
      by_cases hm : c ∈ src
      · left
        obtain ⟨i, hi⟩ := List.getElem?_of_mem hm
        rw [hback.old i c hi, Ob.ren_own] at h1
        exact ⟨i, by unfold bkN; rw [hi], h1, z', by rw [hob i c hi]; exact h2, h3⟩
      · right
        rw [hback.rest c hm hc] at h1
        exact ⟨hm, h1, z', h2, h3⟩
  have hunch : ∀ b, b < w.heap.size → ¬ XO objs (srcB src β) b → w'.heap[b]? = w.heap[b]? := fun b h1 h2 => fin.below.block b h1 h2
  have hnXO : ∀ b, okOf K w0 w σ.hs β b → ¬ XO objs (srcB src β) b := fun b hb hx => by
    obtain ⟨l, _, hl⟩ := hXO b hx
    exact hb.2.2 l hl
  have hk : ∀ b, okOf K w0 w σ.hs β b → okOf K w0 w' hs'' (bkB src nm (objs'.length - src.length) β β') b ∧ w'.heap[b]? = w.heap[b]? := by
    intro b hb
    refine ⟨⟨Nat.lt_of_lt_of_le hb.1 fin.below.size, hb.2.1, fun c hc => ?_⟩, hunch b hb.1 (hnXO b hb)⟩
    rcases hcls c b hc with ⟨j, _, hj⟩ | ⟨_, hc2⟩
    · rcases fin.own j b hj with h1 | h1
      · have := hb.1; omega
      · exact hnXO b hb h1
    · exact hb.2.2 c hc2
  have hk2 : ∀ b, okOf ⟨okOf K w0 w σ.hs β, XO objs (srcB src β), srcB src β, objs.length⟩ w w' objs' β' b → okOf K w0 w' hs'' (bkB src nm (objs'.length - src.length) β β') b ∧ w'.heap[b]? = w'.heap[b]? := by
    rintro b ⟨h1, h2, h3⟩
    refine ⟨⟨h1, fun hlt => ?_, fun c hc => ?_⟩, rfl⟩
    · rcases h2 (Nat.lt_of_lt_of_le hlt r.below.size) with h4 | h4
      · exact h4.2.1 hlt
      · obtain ⟨l, _, hl⟩ := hXO b h4
        rcases r.own l b hl with h5 | h5
        · omega
        · exact .inr h5
    · rcases hcls c b hc with ⟨j, _, hj⟩ | ⟨hm, hc2⟩
      · exact h3 j hj
      · rcases h2 (r.blk_lt hc2) with h4 | h4
        · exact h4.2.2 c hc2
        · obtain ⟨l, hl1, hl⟩ := hXO b h4
          have := r.sep c l b hc2 hl
          subst this
          exact hm hl1
  refine ⟨_, ⟨r.size, r.defers, ?_, fun k => (r.ts k).mono hk hext, fun c => ?_, fun c c' b h1 h2 => ?_, fun c b h1 => ?_, fun l hl => ?_, r.kk, r.tab.mono hk⟩, (hz.mono hk2 (Ext.refl _)).ren hren⟩
  · refine ⟨fin.below.os.trans r.below.os, fin.below.tape.trans r.below.tape, fin.below.output.trans r.below.output, Nat.le_trans r.below.size fin.below.size, fun b hb hx => (hunch b (Nat.lt_of_lt_of_le hb r.below.size) fun h => ?_).trans (r.below.block b hb hx)⟩
    obtain ⟨l, _, hl⟩ := hXO b h
    rcases r.own l b hl with h1 | h1
    · omega
    · exact hx h1
  · show ObOK P _ w' _ (lk hs'' c) _
    by_cases hc : nm ≤ c ∧ c < nm + (objs'.length - src.length)
    · have hnw := hback.new (src.length + (c - nm)) (by omega) (by omega)
      rw [show nm + (src.length + (c - nm) - src.length) = c by omega] at hnw
      rw [hnw]
      have e : bkB src nm (objs'.length - src.length) β β' c = β' (src.length + (c - nm)) := by unfold bkB; rw [if_pos hc]
      rw [e]
      exact ObOK.ren hren ((fin.obs _).mono hk2 (fun _ _ _ _ _ => rfl) (Ext.refl _))
    · have e : bkB src nm (objs'.length - src.length) β β' c = β c := by unfold bkB; rw [if_neg hc]
      rw [e]
      by_cases hm : c ∈ src
      · obtain ⟨i, hi⟩ := List.getElem?_of_mem hm
        rw [hback.old i c hi, ← hob i c hi]
        exact ObOK.ren hren ((fin.obs _).mono hk2 (fun _ _ _ _ _ => rfl) (Ext.refl _))
      · rw [hback.rest c hm hc]
        refine (r.hs c).mono hk (fun z' b h1 h2 h3 => hunch b (r.blk_lt ⟨h1, z', h2, h3⟩) fun hx => ?_) hext
        obtain ⟨l, hl1, hl⟩ := hXO b hx
        have := r.sep c l b ⟨h1, z', h2, h3⟩ hl
        subst this
        exact hm hl1
  · have hinj : ∀ j j' c, bkN src nm j = some c → bkN src nm j' = some c → owns objs' β' j b → owns objs' β' j' b → True := fun _ _ _ _ _ _ _ => trivial
    rcases hcls c b h1 with ⟨j, e1, hj⟩ | ⟨hm, hc2⟩
    · rcases hcls c' b h2 with ⟨j', e2, hj'⟩ | ⟨hm', hc2'⟩
      · have := fin.sep j j' b hj hj'
        subst this
        rw [e1] at e2; cases e2; rfl
      · exfalso
        rcases fin.own j b hj with h3 | h3
        · have := r.blk_lt hc2'; omega
        · obtain ⟨l, hl1, hl⟩ := hXO b h3
          have := r.sep c' l b hc2' hl
          subst this
          exact hm' hl1
    · rcases hcls c' b h2 with ⟨j', e2, hj'⟩ | ⟨hm', hc2'⟩
      · exfalso
        rcases fin.own j' b hj' with h3 | h3
        · have := r.blk_lt hc2; omega
        · obtain ⟨l, hl1, hl⟩ := hXO b h3
          have := r.sep c l b hc2 hl
          subst this
          exact hm hl1
      · exact r.sep c c' b hc2 hc2'
  · rcases hcls c b h1 with ⟨j, _, hj⟩ | ⟨_, hc2⟩
    · rcases fin.own j b hj with h3 | h3
      · exact .inl (Nat.le_trans r.below.size h3)
      · obtain ⟨l, _, hl⟩ := hXO b h3
        exact r.own l b hl
    · exact r.own c b hc2
  · have hlt : l < nm := by have := r.kk; omega
    unfold bkB
    rw [if_neg (by omega)]
    exact r.ext l hl

theorem callX_wp {xs : List Operand} {ts : Array TypeId} {g : Operand} {f : FuncId} {as caps : List AV} {src : List Nat} {nm : Nat} {objs objs' hs'' : List Ob}
    (ho : o.op = .call { callee := .value g, args := xs.toArray, argTypes := ts }) (hb : HasBody P f) (hcap : ∀ v ∈ caps, v.isAgg P = false ∧ ∀ us, v ≠ .tup us)
    (hnd : src.Nodup) (hol : objs.length = src.length) (hobj : ∀ i l, src[i]? = some l → lk objs i = (lk σ.hs l).ren (ix src)) (hf : FX P f (AV.renL (ix src) (as ++ caps)) objs res objs')
    (hfree : ∀ j, j < objs'.length - src.length → lk σ.hs (nm + j) = .free) (hk0 : σ.k0 ≤ nm) (hsf : ∀ l ∈ src, lk σ.hs l ≠ .free) (hback : BackH src nm σ.hs objs' hs'')
    (r : RelB P K w0 n σ a w β) (hg : RV P (okOf K w0 w σ.hs β) w β (.fn f caps) (a.eval g)) (ha : RVsX P (okOf K w0 w σ.hs β) w β as (xs.map a.eval)) (Kt : Act → World → Prop) (Q : Exit → Act → World → Prop)
    (hK : ∀ z w' β'', RelB P K w0 n ⟨σ.ts, hs'', σ.k0⟩ a w' β'' → RV P (okOf K w0 w' hs'' β'') w' β'' (res.ren (bkN src nm)) z → Kt (a.put o.dst z) w') : o.wp P a w Kt Q := by
  obtain ⟨cv, ecv, hcv⟩ := fn_evalC hg hcap
  have hargs := (ha.app hcv).ren (src_ren src β)
  have hXO : ∀ b, XO objs (srcB src β) b → ∃ l, l ∈ src ∧ owns σ.hs β l b := by
    rintro b ⟨i, h1, z', h2, h3⟩
    simp only [srcB] at h2
    cases hs : src[i]? with
    | none => rw [hs] at h2; cases h2
    | some l =>
      rw [hs] at h2
      rw [hobj i l hs, Ob.ren_own] at h1
      exact ⟨l, List.mem_of_getElem? hs, h1, z', h2, h3⟩
  have hcall := hf (okOf K w0 w σ.hs β) w (srcB src β) _ (fun b hb => ⟨hb.1, fun hx => by obtain ⟨l, _, hl⟩ := hXO b hx; exact hb.2.2 l hl⟩) (fun i => by
      simp only [srcB]
      cases hs : src[i]? with
      | none =>
        rw [lk_end _ _ (by rw [hol]; exact List.getElem?_eq_none_iff.1 hs)]
        rfl
      | some l =>
        rw [hobj i l hs]
        exact ObOK.ren (src_ren src β) (r.hs l)) (fun i i' b h1 h2 => by
      have key : ∀ i, owns objs (srcB src β) i b → ∃ l, src[i]? = some l ∧ owns σ.hs β l b := by
        rintro i ⟨h1, z', h2, h3⟩
        simp only [srcB] at h2
        cases hs : src[i]? with
        | none => rw [hs] at h2; cases h2
        | some l =>
          rw [hs] at h2
          rw [hobj i l hs, Ob.ren_own] at h1
          exact ⟨l, rfl, h1, z', h2, h3⟩
      obtain ⟨l, e1, q1⟩ := key i h1
      obtain ⟨l', e2, q2⟩ := key i' h2
      have e := r.sep l l' b q1 q2
      subst e
      have hlt := (List.getElem?_eq_some_iff.1 e1).1
      exact (List.getElem?_inj hlt hnd).1 (e1.trans e2.symm)) hargs r.tab
  unfold Oper.wp
  rw [run_callC ho hb a w ecv, Oper.upon_enter]
  refine hcall.mono ?_
  rintro e w' ⟨z, β', rfl, hfin, hz⟩
  obtain ⟨β'', h1, h2⟩ := callX_rel r hnd hol hobj hfree hk0 hsf hback hfin hz
  exact hK z w' β'' h1 h2
end
end Go.Am
namespace Go.Am
open Go.RowKit

theorem ba_beq_iff (a b : ByteArray) : (a == b) = true ↔ a = b := by
  cases a with | mk x => cases b with | mk y =>
  show (x == y) = true ↔ _
  simp
theorem ba_beq_self (a : ByteArray) : (a == a) = true := (ba_beq_iff a a).2 rfl
theorem ba_beq_ne {a b : ByteArray} (h : a ≠ b) : (a == b) = false := by
  cases e : (a == b) with
  | false => rfl
  | true => exact absurd ((ba_beq_iff a b).1 e) h

def mget : List Dt → ByteArray → Option Dt
  | [], _ => none
  | e :: r, s => bif (e.S 0) == s then some (e.fld 1) else mget r s
def mgetD (es : List Dt) (s : ByteArray) (z : Dt) : Dt := (mget es s).getD z
def mhas (es : List Dt) (s : ByteArray) : Bool := (mget es s).isSome
def mput : List Dt → ByteArray → Dt → List Dt
  | [], s, v => [.agg [.str s, v]]
  | e :: r, s, v => bif (e.S 0) == s then .agg [.str s, v] :: r else e :: mput r s v

section
variable {P : Program} {n : Nat} {o : Oper} {σ τ : St} {x y : Operand} {v res : AV} {T : TypeId}

/-- An entry of the map as a datum. -/
def EnOK (P : Program) (ok : Nat → Prop) (w : World) (VT : TypeId) (e : MapEntry) (d : Dt) : Prop := ∃ (s : ByteArray) (x : Dt), d = .agg [.str s, x] ∧ s.size ≤ maxLen ∧ e.key = .string s ∧ RD P ok w VT x [e.val]

theorem find_map {ok : Nat → Prop} {w : World} {VT : TypeId} (s : ByteArray) : ∀ (arr : List MapEntry) (es : List Dt) (i : Nat), arr.length = es.length → (∀ (j : Nat) (e : MapEntry) (d : Dt), arr[j]? = some e → es[j]? = some d → EnOK P ok w VT e d) →
    (Instr.findNow .string (.string s) arr i = some none ∧ mget es s = none ∧ ∀ v, mput es s v = es ++ [.agg [.str s, v]]) ∨
    ∃ (j : Nat) (e : MapEntry) (x : Dt), Instr.findNow .string (.string s) arr i = some (some (i + j, e.val)) ∧ arr[j]? = some e ∧ e.key = .string s ∧ es[j]? = some (.agg [.str s, x]) ∧ RD P ok w VT x [e.val] ∧ mget es s = some x ∧ ∀ v, mput es s v = es.set j (.agg [.str s, v])
  | [], [], i, _, _ => .inl ⟨rfl, rfl, fun v => rfl⟩
  | [], d :: es, i, hl, _ => by simp at hl
  | e :: arr, [], i, hl, _ => by simp at hl
  | e :: arr, d :: es, i, hl, h => by
    obtain ⟨s', x, rfl, hs, hk, hr⟩ := h 0 e d rfl rfl
    have ih := find_map s arr es (i + 1) (by simpa using hl) (fun j e d h1 h2 => h (j + 1) e d (by simpa using h1) (by simpa using h2))
    by_cases hb : s = s'
    · subst hb
      refine .inr ⟨0, e, x, ?_, rfl, hk, rfl, hr, ?_, fun v => ?_⟩
      · simp [Instr.findNow, hk, Instr.sameNow, ba_beq_self]
      · simp [mget, Dt.S, Dt.fld, Dt.toStr, ba_beq_self]
      · simp [mput, Dt.S, Dt.fld, Dt.toStr, ba_beq_self]
    · have h1 : (s == s') = false := ba_beq_ne hb
      have h2 : (s' == s) = false := ba_beq_ne (Ne.symm hb)
      have e1 : Instr.findNow .string (.string s) (e :: arr) i = Instr.findNow .string (.string s) arr (i + 1) := by simp [Instr.findNow, hk, Instr.sameNow, h1]
      have e2 : mget (Dt.agg [.str s', x] :: es) s = mget es s := by simp [mget, Dt.S, Dt.fld, Dt.toStr, h2]
      have e3 : ∀ v, mput (Dt.agg [.str s', x] :: es) s v = Dt.agg [.str s', x] :: mput es s v := fun v => by simp [mput, Dt.S, Dt.fld, Dt.toStr, h2]
      rcases ih with ⟨q1, q2, q3⟩ | ⟨j, e', x', q1, q2, q3, q4, q5, q6, q7⟩
      · exact .inl ⟨e1.trans q1, e2.trans q2, fun v => by rw [e3, q3]; rfl⟩
      · refine .inr ⟨j + 1, e', x', ?_, by simpa using q2, q3, by simpa using q4, q5, e2.trans q6, fun v => by rw [e3, q7]; rfl⟩
        rw [e1, q1]
        congr 3
        omega

/-- What a name of a map stands for. -/
theorem row_map {K : OkX} {w0 w : World} {a : Act} {β : Nat → Option Value} {l : Nat} {T5 : TypeId} {es : List Dt} (r : RelB P K w0 n σ a w β) (hx : Ev P σ x (.row l)) (hl : lk σ.hs l = .map T5 es) :
    ∃ (b : Nat) (KT VT : TypeId) (arr : List MapEntry) (clock : Nat), a.eval x = .map (some b) ∧ β l = some (.map (some b)) ∧ P.underlying T5 = some (.map KT VT) ∧ P.underlying KT = some .string ∧ w.heap[b]? = some (.map arr.toArray clock) ∧ arr.length = es.length ∧
      ∀ (i : Nat) (e : MapEntry) (d : Dt), arr[i]? = some e → es[i]? = some d → EnOK P (okOf K w0 w σ.hs β) w VT e d := by
  have h := (hx _ _ _ _ _ _ r).2 rfl
  generalize hz : a.eval x = z at h
  cases h with
  | row h1 h2 =>
    have hob := r.hs l
    rw [hl, h1] at hob
    obtain ⟨b, KT, VT, arr, clock, e, q1, q2, q3, q4, q5⟩ := hob
    cases e
    exact ⟨b, KT, VT, arr, clock, rfl, h1, q1, q2, q3, q4, q5⟩

theorem run_lookup {w : World} {b : Nat} {KT VT : TypeId} {arr : Array MapEntry} {clock : Nat} {s : ByteArray} {ok2 : Bool} {r : Option (Nat × Value)} {z : Value} (hu : P.underlying T = some (.map KT VT)) (hk : P.underlying KT = some .string) (hb : w.heap[b]? = some (.map arr clock))
    (hf : Instr.findNow .string (.string s) arr.toList 0 = some r) (hz : (zeroValue VT).run P w = .ok z w) :
    (Instr.lookup T (.map (some b)) (.string s) ok2).run P w = .ok (if ok2 then .tuple #[(match r with | some (_, v) => v | none => z), .bool r.isSome] else (match r with | some (_, v) => v | none => z)) w := by
  have h1 := MapKept.run_getObj_map (P := P) hb
  have h2 : ∀ e, (Instr.checkKey e 10000 KT (.string s)).run P w = .ok () w := fun e => by
    unfold Instr.checkKey
    simp [run_underlying hk]
  have h3 := MapKept.run_findKey (w := w) hk hf
  unfold Instr.lookup
  cases r with
  | none => cases ok2 <;> simp [run_underlying hu, h1, h2, h3, hz]
  | some p => cases ok2 <;> simp [run_underlying hu, h1, h2, h3]

theorem op_lookup {d l : Nat} {KT VT T5 TS : TypeId} {es : List Dt} {s : ByteArray} {z : Dt} (ho : o.op = .lookup T x y false) (hd : o.dst = some d) (hn : d < n) (hu : P.underlying T = some (.map KT VT)) (hk : P.underlying KT = some .string) (ha : aggT P VT = false)
    (hz : ∃ (i : TypeInfo) (zv : Value), P.info? VT = some i ∧ i.zero = some zv ∧ ∀ (ok : Nat → Prop) (w : World), RD P ok w VT z [zv])
    (hs : P.underlying TS = some .string) (hx : Ev P σ x (.row l)) (hy : Ev P σ y (.dat TS (.str s))) (hl : lk σ.hs l = .map T5 es) (h5 : P.underlying T5 = some (.map KT VT)) : OpOK P n o σ (σ.put d (.dat VT (mgetD es s z))) := by
  refine opOK_val hd hn fun ok0 w0 a w β r => ?_
  obtain ⟨b, KT', VT', arr, clock, e1, e2, e3, e4, e5, e6, e7⟩ := row_map r hx hl
  rw [h5] at e3; cases e3
  obtain ⟨i, zv, hi, hzv, hzr⟩ := hz
  have ey := (RV.str hs (hy _ _ _ _ _ _ r)).2.1
  simp only [Dt.toStr] at ey
  have hzr0 : (zeroValue VT).run P w = .ok zv w := by simp [zeroValue, typeInfo, hi, hzv]
  rcases find_map s arr es 0 e6 e7 with ⟨q1, q2, _⟩ | ⟨j, e, x', q1, q2, q3, q4, q5, q6, _⟩
  · refine ⟨zv, ?_, (RV.dat_one ha).2 (by rw [mgetD, q2]; exact hzr _ _)⟩
    unfold execOp
    simp only [ho, e1, ey, Sem.run_bind, run_lookup hu hk e5 q1 hzr0]
    simp
  · refine ⟨e.val, ?_, (RV.dat_one ha).2 (by rw [mgetD, q6]; exact q5)⟩
    unfold execOp
    simp only [ho, e1, ey, Sem.run_bind, run_lookup hu hk e5 q1 hzr0]
    simp
theorem op_lookup2 {d l : Nat} {KT VT T5 TS TB : TypeId} {es : List Dt} {s : ByteArray} {z : Dt} (ho : o.op = .lookup T x y true) (hd : o.dst = some d) (hn : d < n) (hu : P.underlying T = some (.map KT VT)) (hk : P.underlying KT = some .string) (ha : aggT P VT = false) (hB : P.underlying TB = some .bool)
    (hz : ∃ (i : TypeInfo) (zv : Value), P.info? VT = some i ∧ i.zero = some zv ∧ ∀ (ok : Nat → Prop) (w : World), RD P ok w VT z [zv])
    (hs : P.underlying TS = some .string) (hx : Ev P σ x (.row l)) (hy : Ev P σ y (.dat TS (.str s))) (hl : lk σ.hs l = .map T5 es) (h5 : P.underlying T5 = some (.map KT VT)) : OpOK P n o σ (σ.put d (.tup [.dat VT (mgetD es s z), .dat TB (.bool (mhas es s))])) := by
  refine opOK_val hd hn fun ok0 w0 a w β r => ?_
  obtain ⟨b, KT', VT', arr, clock, e1, e2, e3, e4, e5, e6, e7⟩ := row_map r hx hl
  rw [h5] at e3; cases e3
  obtain ⟨i, zv, hi, hzv, hzr⟩ := hz
  have ey := (RV.str hs (hy _ _ _ _ _ _ r)).2.1
  simp only [Dt.toStr] at ey
  have hzr0 : (zeroValue VT).run P w = .ok zv w := by simp [zeroValue, typeInfo, hi, hzv]
  have hbA : aggT P TB = false := aggT_of_not hB rfl
  have key : ∀ (u : Value) (x' : Dt) (q : Bool), RD P (okOf ok0 w0 w σ.hs β) w VT x' [u] → RV P (okOf ok0 w0 w σ.hs β) w β (.tup [.dat VT x', .dat TB (.bool q)]) (.tuple #[u, .bool q]) := fun u x' q hr => by
    refine ⟨_, rfl, rfl, fun i av hv => ?_⟩
    match i with
    | 0 => simp only [List.getElem?_cons_zero, Option.some.injEq] at hv; subst hv; exact (RV.dat_one ha).2 hr
    | 1 => simp only [List.getElem?_cons_succ, List.getElem?_cons_zero, Option.some.injEq] at hv; subst hv; exact (RV.dat_one hbA).2 (.bool hB)
    | i + 2 => simp at hv
  rcases find_map s arr es 0 e6 e7 with ⟨q1, q2, _⟩ | ⟨j, e, x', q1, q2, q3, q4, q5, q6, _⟩
  · refine ⟨.tuple #[zv, .bool false], ?_, ?_⟩
    · unfold execOp
      simp only [ho, e1, ey, Sem.run_bind, run_lookup hu hk e5 q1 hzr0]
      simp
    · rw [mgetD, mhas, q2]; exact key _ _ _ (hzr _ _)
  · refine ⟨.tuple #[e.val, .bool true], ?_, ?_⟩
    · unfold execOp
      simp only [ho, e1, ey, Sem.run_bind, run_lookup hu hk e5 q1 hzr0]
      simp
    · rw [mgetD, mhas, q6]; exact key _ _ _ q5

theorem map_rv {ok : Nat → Prop} {w : World} {β : Nat → Option Value} {l b : Nat} (h : β l = some (.map (some b))) : RV P ok w β (.row l) (.map (some b)) :=
  ⟨fun hi => by simp [AV.isAgg] at hi, fun _ => .row h rfl⟩

theorem op_makeMap {d l : Nat} {KT VT : TypeId} (ho : o.op = .makeMap T none) (hd : o.dst = some d) (hn : d < n) (hu : P.underlying T = some (.map KT VT)) (hk : P.underlying KT = some .string) (hf : lk σ.hs l = .free) (hk0 : σ.k0 ≤ l) :
    OpOK P n o σ ((σ.lay l (.map T [])).put d (.row l)) := by
  rintro ok0 w0 a w ⟨β, r⟩ K Q hK
  have hrun : (Instr.makeMap T none).run P w = .ok (.map (some w.heap.size)) (w.alloc (.map #[] 0)) := by
    unfold Instr.makeMap newObj
    rfl
  unfold Oper.wp execOp
  simp only [ho, Option.map_none, Sem.run_bind, hrun, Result.andThen_ok, Sem.run_pure]
  refine hK _ _ ?_
  rw [hd]
  have hfree := r.hs l
  rw [hf] at hfree
  refine Rel.put (r.upd l (.map T []) (some (.map (some w.heap.size))) (w.alloc (.map #[] 0)) (.inr ⟨hfree, hk0⟩) rfl rfl rfl (by simp) (fun b hb _ => Below.heap_alloc w _ b hb) (fun z b _ hz hb => .inl (by cases hz; simp [blk] at hb; omega)) fun hx hk' => ?_) hn (map_rv (upB_same _ _ _))
  exact ⟨w.heap.size, KT, VT, [], 0, rfl, hu, hk, (MapKept.heap_alloc w _).1, rfl, fun i e d he => by simp at he⟩

theorem op_mapUpdate {l : Nat} {u : Operand} {KT VT K5 V5 T5 TS TV : TypeId} {es : List Dt} {s : ByteArray} {x' : Dt} (ho : o.op = .mapUpdate T x y u) (hd : o.dst = none) (hu : P.underlying T = some (.map KT VT)) (hk : P.underlying KT = some .string) (h5 : P.underlying T5 = some (.map K5 V5)) (ha : aggT P TV = false) (hcm : compat P TV V5 = true)
    (hs : P.underlying TS = some .string) (hx : Ev P σ x (.row l)) (hy : Ev P σ y (.dat TS (.str s))) (hv : Ev P σ u (.dat TV x')) (hl : lk σ.hs l = .map T5 es) : OpOK P n o σ (σ.lay l (.map T5 (mput es s x'))) := by
  rintro ok0 w0 a w ⟨β, r⟩ K Q hK
  obtain ⟨b, KT', VT', arr, clock, e1, e2, e3, e4, e5, e6, e7⟩ := row_map r hx hl
  rw [h5] at e3; cases e3
  have ey0 := RV.str hs (hy _ _ _ _ _ _ r)
  have ey := ey0.2.1
  have es' := ey0.2.2
  simp only [Dt.toStr] at ey es'
  have hrd := ((RV.dat_one ha).1 (hv _ _ _ _ _ _ r)).compat hcm
  generalize hz : a.eval u = z at hrd
  have h1 := MapKept.run_getObj_map (P := P) e5
  have h2 : ∀ e, (Instr.checkKey e 10000 KT (.string s)).run P w = .ok () w := fun e => by
    unfold Instr.checkKey
    simp [run_underlying hk]
  have h4 := fun o' => MapKept.run_setObj_map (P := P) o' e5
  have hblt : b < w.heap.size := (Array.getElem?_eq_some_iff.1 e5).1
  have how : owns σ.hs β l b := ⟨by rw [hl]; rfl, _, e2, rfl⟩
  have fin : ∀ (arr' : List MapEntry) (clock' : Nat) (es2 : List Dt), arr'.length = es2.length → (∀ (ok : Nat → Prop) (w' : World), (∀ c, okOf ok0 w0 w σ.hs β c → ok c ∧ w'.heap[c]? = w.heap[c]?) → ∀ (i : Nat) (e : MapEntry) (d : Dt), arr'[i]? = some e → es2[i]? = some d → EnOK P ok w' V5 e d) →
      Rel P ok0 w0 n (σ.lay l (.map T5 es2)) a { w with heap := w.heap.setIfInBounds b (.map arr'.toArray clock') } := fun arr' clock' es2 hlen hen => by
    refine ⟨_, r.upd l (.map T5 es2) (β l) _ (.inl rfl) rfl rfl rfl (by simp) (fun b2 hb2 hne => ?_) (fun z2 b2 _ hz2 hb2 => .inr ⟨by rw [hl]; rfl, z2, hz2, hb2⟩) fun hx hk' => ?_⟩
    · exact (MapKept.heap_set e5 (o' := .map arr'.toArray clock')).2 b2 fun e => hne (by rw [e]; exact how)
    · exact ⟨b, K5, V5, arr', clock', e2, h5, e4, (MapKept.heap_set e5).1, hlen, fun i e d he hd => hen _ _ hk' i e d he hd⟩
  have old : ∀ (ok : Nat → Prop) (w' : World), (∀ c, okOf ok0 w0 w σ.hs β c → ok c ∧ w'.heap[c]? = w.heap[c]?) → ∀ (i : Nat) (e : MapEntry) (d : Dt), arr[i]? = some e → es[i]? = some d → EnOK P ok w' V5 e d := fun ok w' hk' i e d he hd => by
    obtain ⟨s2, x2, p1, p2, p3, p4⟩ := e7 i e d he hd
    exact ⟨s2, x2, p1, p2, p3, p4.mono hk'⟩
  rcases find_map s arr es 0 e6 e7 with ⟨q1, q2, q7⟩ | ⟨j, e, x2, q1, q2, q3, q4, q5, q6, q7⟩
  · have h3 := MapKept.run_findKey (w := w) hk q1
    have hrun : (Instr.mapUpdate T (.map (some b)) (.string s) z).run P w = .ok () { w with heap := w.heap.setIfInBounds b (.map (arr ++ [({ key := .string s, val := z, born := clock } : MapEntry)]).toArray (clock + 1)) } := by
      unfold Instr.mapUpdate
      simp [run_underlying hu, h1, h2, h3, h4]
    unfold Oper.wp execOp
    simp only [ho, e1, ey, hz, Sem.run_bind, hrun, Result.andThen_ok, Sem.run_pure]
    refine hK _ _ ?_
    rw [hd, q7]
    refine fin _ _ _ (by simp [e6]) fun ok w' hk' i e d he hd => ?_
    rcases Nat.lt_or_ge i arr.length with hlt | hge
    · rw [List.getElem?_append_left hlt] at he
      rw [List.getElem?_append_left (by omega)] at hd
      exact old ok w' hk' i e d he hd
    · rw [List.getElem?_append_right hge] at he
      rw [List.getElem?_append_right (by omega)] at hd
      have e0 : i - arr.length = 0 := by
        have := (List.getElem?_eq_some_iff.1 he).1
        simp at this; omega
      rw [e0] at he
      rw [← e6, e0] at hd
      cases he
      cases hd
      exact ⟨s, x', rfl, es', rfl, hrd.mono hk'⟩
  · have h3 := MapKept.run_findKey (w := w) hk q1
    simp only [Nat.zero_add] at h3
    have hj : j < arr.length := (List.getElem?_eq_some_iff.1 q2).1
    have hgk : (((arr.toArray)[j]?.map (·.key)).getD (.string s)) = .string s := by simp [q2, q3]
    have hks : (Instr.keyThatStays (.string s) (.string s)).run P w = .ok (.string s) w := by
      unfold Instr.keyThatStays
      simp [Instr.sameBits, ba_beq_self]
    have hrun : (Instr.mapUpdate T (.map (some b)) (.string s) z).run P w = .ok () { w with heap := w.heap.setIfInBounds b (.map (arr.set j { e with key := .string s, val := z }).toArray clock) } := by
      unfold Instr.mapUpdate
      have em : (arr.toArray.modify j fun e0 => { e0 with key := .string s, val := z }) = (arr.set j { e with key := .string s, val := z }).toArray := by
        apply Array.ext_getElem?
        intro k
        simp only [Array.getElem?_modify, List.getElem?_toArray, List.getElem?_set]
        by_cases hk2 : j = k
        · subst hk2
          have e9 := (List.getElem?_eq_some_iff.1 q2).2
          simp [hj, e9]
        · simp [hk2]
      simp only [Sem.run_bind, run_underlying hu, Result.andThen_ok, h1, h2, h3, hgk, hks, h4, em]
    unfold Oper.wp execOp
    simp only [ho, e1, ey, hz, Sem.run_bind, hrun, Result.andThen_ok, Sem.run_pure]
    refine hK _ _ ?_
    rw [hd, q7]
    refine fin _ _ _ (by simp [e6]) fun ok w' hk' i e1 d he hd => ?_
    rw [List.getElem?_set] at he hd
    by_cases hk2 : j = i
    · subst hk2
      simp [hj] at he
      simp [show j < es.length by omega] at hd
      subst he; subst hd
      exact ⟨s, x', rfl, es', rfl, hrd.mono hk'⟩
    · simp only [hk2, if_false] at he hd
      exact old ok w' hk' i e1 d he hd
end
end Go.Am
