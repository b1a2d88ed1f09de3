/- The abstract machine, part 8: names are changed, slots are forgotten, rows become plain data. -/
import Derived.Test.YtacpcknpliomoaaGreatAm7
set_option linter.unusedVariables false
set_option linter.unusedSimpArgs false
namespace Go.Am
open Go.RowKit

mutual
/-- Names are changed; what a name is lost of is no longer known. -/
def AV.ren (ρ : Nat → Option Nat) : AV → AV
  | .dat T d => .dat T d
  | .agg T vs => .agg T (AV.renL ρ vs)
  | .row l => match ρ l with
    | some k => .row k
    | none => .dead
  | .ptr l p o => match ρ l with
    | some k => .ptr k p o
    | none => .dead
  | .eptr l i z p o => match ρ l with
    | some k => .eptr k i z p o
    | none => .dead
  | .rptr T d => .rptr T d
  | .fn f caps => .fn f (AV.renL ρ caps)
  | .tup vs => .tup (AV.renL ρ vs)
  | .nils T => .nils T
  | .nif b => .nif b
  | .ifc T v => .ifc T (AV.ren ρ v)
  | .mth T m => .mth T m
  | .dead => .dead
def AV.renL (ρ : Nat → Option Nat) : List AV → List AV
  | [] => []
  | v :: r => AV.ren ρ v :: AV.renL ρ r
end
def Ob.ren (ρ : Nat → Option Nat) : Ob → Ob
  | .box T c => .box T (c.ren ρ)
  | .row T es => .row T es
  | .rowA T vs => .rowA T (AV.renL ρ vs)
  | .frz T es => .frz T es
  | .map T es => .map T es
  | .rowD T T2 c k es h => match ρ k, h with
    | some k', none => .rowD T T2 c k' es none
    | some k', some (i, l) => (match ρ l with
      | some l' => .rowD T T2 c k' es (some (i, l'))
      | none => .gone)
    | none, _ => .gone
  | .tok T ls => .tok T ls
  | .gone => .gone
  | .free => .free
theorem Ob.ren_own {ρ : Nat → Option Nat} {o : Ob} (h : (o.ren ρ).isOwn = true) : o.isOwn = true := by
  cases o <;> first | exact h | rfl
theorem AV.renL_len (ρ : Nat → Option Nat) : ∀ vs : List AV, (AV.renL ρ vs).length = vs.length
  | [] => rfl
  | _ :: r => by simp [AV.renL, AV.renL_len ρ r]
theorem AV.renL_get (ρ : Nat → Option Nat) : ∀ (vs : List AV) (i : Nat), (AV.renL ρ vs)[i]? = (vs[i]?).map (AV.ren ρ)
  | [], i => by simp [AV.renL]
  | v :: r, 0 => by simp [AV.renL]
  | v :: r, i + 1 => by simp [AV.renL, AV.renL_get ρ r i]
theorem tk_renL (ρ : Nat → Option Nat) : ∀ (vs : List AV) (i : Nat), tk (AV.renL ρ vs) i = (tk vs i).ren ρ
  | [], i => by simp [AV.renL, tk, AV.ren]
  | v :: r, 0 => by simp [AV.renL, tk]
  | v :: r, i + 1 => by simp [AV.renL, tk, tk_renL ρ r i]

section
variable {P : Program} {ok : Nat → Prop} {w : World} {β β' : Nat → Option Value} {ρ : Nat → Option Nat} {v : AV} {cs : List Value} {z : Value}

def RenOK (ρ : Nat → Option Nat) (β β' : Nat → Option Value) : Prop := ∀ l k z, ρ l = some k → β l = some z → β' k = some z

theorem AV.isAgg_ren_false (v : AV) (h : v.isAgg P = false) : (v.ren ρ).isAgg P = false := by
  cases v with
  | row l => simp only [AV.ren]; split <;> rfl
  | ptr l p o => simp only [AV.ren]; split <;> rfl
  | eptr l i z p o => simp only [AV.ren]; split <;> rfl
  | _ => exact h
theorem AV.isAgg_ren_true (v : AV) (h : v.isAgg P = true) : (v.ren ρ).isAgg P = true := by
  cases v with
  | dat => exact h
  | agg => exact h
  | _ => simp [AV.isAgg] at h
theorem RA.ren (hr : RenOK ρ β β') (h : RA P ok w β v cs) : RA P ok w β' (v.ren ρ) cs := by
  induction h with
  | dat h => exact .dat h
  | agg hu hl hc h1 _ ih =>
    refine .agg hu (by rw [AV.renL_len]; exact hl) hc h1 fun i f v hf hv => ?_
    rw [AV.renL_get] at hv
    simp only [Option.map_eq_some_iff] at hv
    obtain ⟨v0, hv0, rfl⟩ := hv
    exact ih i f v0 hf hv0
  | row h h1 =>
    simp only [AV.ren]
    split
    · rename_i k e; exact .row (hr _ _ _ e h) h1
    · exact .dead (by simpa using h1)
  | ptr h =>
    simp only [AV.ren]
    split
    · rename_i k e; exact .ptr (hr _ _ _ e h)
    · exact .dead (by simp [Value.oneCell'])
  | eptr h =>
    simp only [AV.ren]
    split
    · rename_i k e; exact .eptr (hr _ _ _ e h)
    · exact .dead (by simp [Value.oneCell'])
  | eptrB h =>
    simp only [AV.ren]
    split
    · rename_i k e; exact .eptrB (hr _ _ _ e h)
    · exact .dead (by simp [Value.oneCell'])
  | rptr ho hl hc h => exact .rptr ho hl hc h
  | fn hl _ ih =>
    refine .fn (by rw [AV.renL_len]; exact hl) fun i av hv => ?_
    rw [AV.renL_get] at hv
    simp only [Option.map_eq_some_iff] at hv
    obtain ⟨v0, hv0, rfl⟩ := hv
    exact ih i v0 hv0
  | nils => exact .nils
  | nif => exact .nif
  | nni => exact .nni
  | mth => exact .mth
  | @ifc1 T v z hi _ ih => exact .ifc1 (AV.isAgg_ren_false v hi) ih
  | @ifcA T v cs hi _ ih => exact .ifcA (AV.isAgg_ren_true v hi) ih
  | dead h => exact .dead h
theorem RV1.ren (hr : RenOK ρ β β') (h : RV1 P ok w β v z) : RV1 P ok w β' (v.ren ρ) z := by
  refine ⟨fun hi => ?_, fun hi => ?_⟩
  · cases hv : v.isAgg P with
    | true => obtain ⟨cs, e, q⟩ := h.1 hv; exact ⟨cs, e, q.ren hr⟩
    | false => rw [AV.isAgg_ren_false v hv] at hi; cases hi
  · cases hv : v.isAgg P with
    | true => rw [AV.isAgg_ren_true v hv] at hi; cases hi
    | false => exact (h.2 hv).ren hr
theorem RV.ren (hr : RenOK ρ β β') (h : RV P ok w β v z) : RV P ok w β' (v.ren ρ) z := by
  cases v with
  | dead => trivial
  | tup vs =>
    obtain ⟨arr, e, hs, h⟩ := h
    refine ⟨arr, e, by rw [AV.renL_len]; exact hs, fun i av hv => ?_⟩
    rw [AV.renL_get] at hv
    simp only [Option.map_eq_some_iff] at hv
    obtain ⟨v0, hv0, rfl⟩ := hv
    exact (h i v0 hv0).ren hr
  | row l =>
    refine RV1.toRV (RV1.ren hr h) fun us => ?_
    simp only [AV.ren]; split <;> simp
  | ptr l p o =>
    refine RV1.toRV (RV1.ren hr h) fun us => ?_
    simp only [AV.ren]; split <;> simp
  | eptr l i z p o =>
    refine RV1.toRV (RV1.ren hr h) fun us => ?_
    simp only [AV.ren]; split <;> simp
  | dat T d => exact RV1.ren hr h
  | agg T d => exact RV1.ren hr h
  | rptr T d => exact RV1.ren hr h
  | fn T d => exact RV1.ren hr h
  | nils T => exact RV1.ren hr h
  | nif b => exact RV1.ren hr h
  | mth T m => exact RV1.ren hr h
  | ifc T v => exact RV1.ren hr h
theorem ObOK.ren {o : Ob} {x : Option Value} (hr : RenOK ρ β β') (h : ObOK P ok w β o x) : ObOK P ok w β' (o.ren ρ) x := by
  cases o with
  | box T c => obtain ⟨b, cs, h1, h2, h3, h4⟩ := h; exact ⟨b, cs, h1, h2, h3, h4.ren hr⟩
  | row E es => exact h
  | rowA E vs =>
    obtain ⟨E', z, xs, h1, h2, h3, h4, h5⟩ := h
    refine ⟨E', z, xs, h1, h2, by rw [AV.renL_len]; exact h3, h4, fun i u hu => ?_⟩
    rw [AV.renL_get] at hu
    obtain ⟨v, hv, rfl⟩ := Option.map_eq_some_iff.1 hu
    exact (h5 i v hv).ren hr
  | rowD T T2 c k es h' =>
    obtain ⟨E, E2, fo, z, xs, arr, q1, q2, q3, q4, q5, q6, q7, q8, q9⟩ := h
    simp only [Ob.ren]
    cases hk : ρ k with
    | none => cases h' <;> trivial
    | some k' =>
      cases h' with
      | none => exact ⟨E, E2, fo, z, xs, arr, q1, q2, q3, q4, q5, q6, hr _ _ _ hk q7, q8, fun i d hd => ⟨(q9 i d hd).1, fun e => let ⟨a1, zi, a2, a3, _⟩ := (q9 i d hd).2 e; ⟨a1, zi, a2, fun _ => a3 (fun _ => nofun), nofun⟩⟩⟩
      | some p =>
        obtain ⟨i0, l⟩ := p
        simp only
        cases hl : ρ l with
        | none => trivial
        | some l' =>
          refine ⟨E, E2, fo, z, xs, arr, q1, q2, q3, q4, q5, q6, hr _ _ _ hk q7, q8, fun i d hd => ?_⟩
          refine ⟨(q9 i d hd).1, fun e0 => ?_⟩
          obtain ⟨a1, zi, a2, a3, a4⟩ := (q9 i d hd).2 e0
          refine ⟨a1, zi, a2, fun h => a3 fun l3 e => ?_, fun l3 e => ?_⟩
          · cases e; exact h l' rfl
          · cases e; exact hr _ _ _ hl (a4 l rfl)
  | tok T ls => exact h
  | frz E es => exact h
  | map E es => exact h
  | gone => exact h
  | free => exact h
end

/-- The place of a name in a list. -/
def ix : List Nat → Nat → Option Nat
  | [], _ => none
  | a :: r, l => bif Nat.beq a l then some 0 else (ix r l).map (· + 1)
theorem ix_get : ∀ {src : List Nat} {l k : Nat}, ix src l = some k → src[k]? = some l
  | [], _, _, h => by simp [ix] at h
  | a :: r, l, k, h => by
    simp only [ix] at h
    cases hb : Nat.beq a l with
    | true =>
      rw [hb] at h
      have := Nat.eq_of_beq_eq_true hb
      subst this
      simp only [cond_true, Option.some.injEq] at h
      subst h; rfl
    | false =>
      rw [hb] at h
      simp only [cond_false, Option.map_eq_some_iff] at h
      obtain ⟨k', h1, rfl⟩ := h
      simpa using ix_get h1
def memB : Nat → List Nat → Bool
  | _, [] => false
  | a, b :: r => Nat.beq a b || memB a r
theorem memB_iff {a : Nat} : ∀ {l : List Nat}, memB a l = true ↔ a ∈ l
  | [] => by simp [memB]
  | b :: r => by simp [memB, memB_iff (l := r), Nat.beq_eq]
theorem memB_not {a : Nat} {l : List Nat} (h : memB a l = false) : a ∉ l := fun hm => by rw [memB_iff.2 hm] at h; cases h
def nodupB : List Nat → Bool
  | [] => true
  | a :: r => !memB a r && nodupB r
theorem nodupB_nodup : ∀ {l : List Nat}, nodupB l = true → l.Nodup
  | [], _ => List.nodup_nil
  | a :: r, h => by
    simp only [nodupB, Bool.and_eq_true, Bool.not_eq_true'] at h
    exact List.nodup_cons.2 ⟨memB_not h.1, nodupB_nodup h.2⟩
def pickO (ρ : Nat → Option Nat) (hs : List Ob) : List Nat → List Ob
  | [] => []
  | l :: r => (lk hs l).ren ρ :: pickO ρ hs r
def pickAt (ρ : Nat → Option Nat) (hs : List Ob) : Option Nat → Ob
  | some l => (lk hs l).ren ρ
  | none => .free
theorem lk_pick (ρ : Nat → Option Nat) (hs : List Ob) : ∀ (src : List Nat) (k : Nat), lk (pickO ρ hs src) k = pickAt ρ hs src[k]?
  | [], k => by simp [pickO, lk, pickAt]
  | l :: r, 0 => by simp [pickO, lk, pickAt]
  | l :: r, k + 1 => by simp [pickO, lk, lk_pick ρ hs r k]
def srcB (src : List Nat) (β : Nat → Option Value) (k : Nat) : Option Value := match src[k]? with
  | some l => β l
  | none => none
theorem src_ren (src : List Nat) (β : Nat → Option Value) : RenOK (ix src) β (srcB src β) := fun l k z h1 h2 => by
  simp only [srcB, ix_get h1]
  exact h2
theorem owns_pick {src : List Nat} {ρ : Nat → Option Nat} {hs : List Ob} {β : Nat → Option Value} {k b : Nat} (h : owns (pickO ρ hs src) (srcB src β) k b) : ∃ l, src[k]? = some l ∧ owns hs β l b := by
  obtain ⟨h1, z, h2, h3⟩ := h
  rw [lk_pick] at h1
  simp only [srcB] at h2
  cases hk : src[k]? with
  | none => rw [hk] at h1; cases h1
  | some l =>
    rw [hk] at h1 h2
    exact ⟨l, rfl, Ob.ren_own h1, z, h2, h3⟩

section
variable {P : Program} {n : Nat} {σ τ : St} {K : OkX} {w0 w : World} {a : Act} {β : Nat → Option Value}

/-- The names 'src' become 0, 1, ..; the first 'k0' stay. -/
theorem RelB.relabel (r : RelB P K w0 n σ a w β) (src : List Nat) (hnd : src.Nodup) (h0 : ∀ i, i < σ.k0 → src[i]? = some i) (ts' : List AV) (ht : ∀ k, tk ts' k = .dead ∨ tk ts' k = (tk σ.ts k).ren (ix src)) :
    RelB P K w0 n ⟨ts', pickO (ix src) σ.hs src, σ.k0⟩ a w (srcB src β) := by
  have hk : ∀ b, okOf K w0 w σ.hs β b → okOf K w0 w (pickO (ix src) σ.hs src) (srcB src β) b ∧ w.heap[b]? = w.heap[b]? := by
    rintro b ⟨h1, h2, h3⟩
    refine ⟨⟨h1, h2, fun k hk => ?_⟩, rfl⟩
    obtain ⟨l, _, h5⟩ := owns_pick hk
    exact h3 l h5
  refine ⟨r.size, r.defers, r.below, fun k => ?_, fun k => ?_, fun k k' b h1 h2 => ?_, fun k b h1 => ?_, fun k hk0 => ?_, r.kk, r.tab.mono hk⟩
  · rcases ht k with e | e
    · show RV P _ w _ (tk ts' k) _
      rw [e]; trivial
    · show RV P _ w _ (tk ts' k) _
      rw [e]
      exact RV.ren (src_ren src β) ((r.ts k).mono hk (Ext.refl _))
  · show ObOK P _ w _ (lk (pickO (ix src) σ.hs src) k) _
    rw [lk_pick]
    simp only [srcB]
    cases hs : src[k]? with
    | none => rfl
    | some l => exact ObOK.ren (src_ren src β) ((r.hs l).mono hk (fun _ _ _ _ _ => rfl) (Ext.refl _))
  · obtain ⟨l, e1, h3⟩ := owns_pick h1
    obtain ⟨l', e2, h4⟩ := owns_pick h2
    have e := r.sep l l' b h3 h4
    subst e
    have hlt := (List.getElem?_eq_some_iff.1 e1).1
    exact (List.getElem?_inj hlt hnd).1 (e1.trans e2.symm)
  · obtain ⟨l, _, h3⟩ := owns_pick h1
    exact r.own l b h3
  · rw [r.kk] at hk0
    simp only [srcB, h0 k hk0]
    exact r.ext k (by rw [r.kk]; exact hk0)

theorem Rel.congr (h1 : ∀ k, tk τ.ts k = .dead ∨ tk τ.ts k = tk σ.ts k) (h2 : ∀ l, lk τ.hs l = lk σ.hs l) (h3 : τ.k0 = σ.k0) : Imp P n σ τ := by
  rintro K w0 a w ⟨β, r⟩
  have ho : ∀ l b, owns τ.hs β l b ↔ owns σ.hs β l b := fun l b => by simp only [owns, h2]
  have hk : ∀ b, okOf K w0 w σ.hs β b → okOf K w0 w τ.hs β b ∧ w.heap[b]? = w.heap[b]? := fun b hb => ⟨⟨hb.1, hb.2.1, fun l hl => hb.2.2 l ((ho l b).1 hl)⟩, rfl⟩
  refine ⟨β, r.size, r.defers, r.below, fun k => ?_, fun l => ?_, fun l l' b q1 q2 => r.sep l l' b ((ho _ _).1 q1) ((ho _ _).1 q2), fun l b q1 => r.own l b ((ho _ _).1 q1), r.ext, by rw [h3]; exact r.kk, r.tab.mono hk⟩
  · rcases h1 k with e | e
    · rw [e]; trivial
    · rw [e]; exact (r.ts k).mono hk (Ext.refl _)
  · rw [h2]; exact (r.hs l).mono hk (fun _ _ _ _ _ => rfl) (Ext.refl _)

/-- Forget all slots but those of a list. -/
def topL : List Nat → Nat
  | [] => 0
  | a :: r => bif Nat.blt a (topL r) then topL r else a + 1
def keepT (keep : List Nat) (b : Nat) : List AV → Nat → List AV
  | [], _ => []
  | v :: r, k => bif Nat.blt k b then (bif memB k keep then v else .dead) :: keepT keep b r (k + 1) else []
theorem tk_keep (keep : List Nat) (b : Nat) : ∀ (ts : List AV) (j k : Nat), tk (keepT keep b ts j) k = .dead ∨ tk (keepT keep b ts j) k = tk ts k
  | [], j, k => .inl rfl
  | v :: r, j, k => by
    simp only [keepT]
    cases Nat.blt j b with
    | false => exact .inl rfl
    | true =>
      cases k with
      | zero =>
        simp only [cond_true, tk]
        cases memB j keep with
        | true => exact .inr rfl
        | false => exact .inl rfl
      | succ k => simpa [tk] using tk_keep keep b r (j + 1) k

/-- The row 'l', if it is one, becomes plain data. -/
def frz1 (hs : List Ob) (l : Nat) : List Ob := match lk hs l with
  | .row T es => setO hs l (.frz T es)
  | _ => hs
def frzN (hs : List Ob) : List Nat → List Ob
  | [] => hs
  | l :: r => frzN (frz1 hs l) r
theorem Imp.frz1 (l : Nat) : Imp P n σ ⟨σ.ts, frz1 σ.hs l, σ.k0⟩ := by
  rintro K w0 a w ⟨β, r⟩
  unfold Am.frz1
  split
  · rename_i T es hl; exact ⟨β, r.frz hl⟩
  · exact ⟨β, r⟩
theorem Imp.frzN : ∀ (ls : List Nat) (σ : St), Imp P n σ ⟨σ.ts, frzN σ.hs ls, σ.k0⟩
  | [], σ => Imp.refl
  | l :: r, σ => (Imp.frz1 l).trans (Imp.frzN r ⟨σ.ts, Am.frz1 σ.hs l, σ.k0⟩)
/-- Rows that nobody looks at any more. -/
def gon1 (hs : List Ob) (l : Nat) : List Ob := match lk hs l with
  | .row _ _ => setO hs l .gone
  | _ => hs
def gonN (hs : List Ob) : List Nat → List Ob
  | [] => hs
  | l :: r => gonN (gon1 hs l) r
theorem Imp.gon1 (l : Nat) : Imp P n σ ⟨σ.ts, gon1 σ.hs l, σ.k0⟩ := by
  rintro K w0 a w ⟨β, r⟩
  unfold Am.gon1
  split
  · rename_i T es hl; exact ⟨β, r.drop l (by rw [hl]; simp)⟩
  · exact ⟨β, r⟩
theorem Imp.gonN : ∀ (ls : List Nat) (σ : St), Imp P n σ ⟨σ.ts, gonN σ.hs ls, σ.k0⟩
  | [], σ => Imp.refl
  | l :: r, σ => (Imp.gon1 l).trans (Imp.gonN r ⟨σ.ts, Am.gon1 σ.hs l, σ.k0⟩)

/-- A nil slice becomes a row of its own, of the name 'l'. -/
theorem RelB.nilrow (r : RelB P K w0 n σ a w β) {l : Nat} {T E : TypeId} (hu : P.underlying T = some (.slice E)) (hf : lk σ.hs l = .free) (hk0 : σ.k0 ≤ l) : RelB P K w0 n (σ.lay l (.row T [])) a w (upB β l (some (.slice none 0 0))) := by
  have hfree := r.hs l
  rw [hf] at hfree
  exact r.upd l (.row T []) (some (.slice none 0 0)) w (.inr ⟨hfree, hk0⟩) rfl rfl rfl (Nat.le_refl _) (fun _ _ _ => rfl) (fun z b _ hz hb => by cases hz; simp [Blk, blk] at hb) fun _ _ => ⟨E, _, [], rfl, hu, World.ownsRow_nil _ _ _ _, fun c hc => by simp at hc, fun i d hd => by simp at hd⟩
mutual
/-- Nil slices become rows: the value, and the rows' types, named from 'k' on. -/
def AV.n2r (P : Program) : AV → Nat → AV × List TypeId
  | .nils T, k => match P.underlying T with
    | some (.slice _) => (.row k, [T])
    | _ => (.nils T, [])
  | .agg T vs, k => let r := AV.n2rL P vs k; (.agg T r.1, r.2)
  | v, _ => (v, [])
def AV.n2rL (P : Program) : List AV → Nat → List AV × List TypeId
  | [], _ => ([], [])
  | v :: vs, k => let r := AV.n2r P v k; let q := AV.n2rL P vs (k + r.2.length); (r.1 :: q.1, r.2 ++ q.2)
end
def layN (hs : List Ob) (k : Nat) : List TypeId → List Ob
  | [] => hs
  | T :: r => layN (setO hs k (.row T [])) (k + 1) r
def NilB (β : Nat → Option Value) (k m : Nat) : Prop := ∀ i, k ≤ i → i < k + m → β i = some (.slice none 0 0)
theorem NilB.left {β : Nat → Option Value} {k m q : Nat} (h : NilB β k (m + q)) : NilB β k m := fun i h1 h2 => h i h1 (by omega)
theorem NilB.right {β : Nat → Option Value} {k m q : Nat} (h : NilB β k (m + q)) : NilB β (k + m) q := fun i h1 h2 => h i (by omega) (by omega)
theorem n2rL_get (P : Program) : ∀ (vs : List AV) (k i : Nat) (u : AV), (AV.n2rL P vs k).1[i]? = some u → ∃ v j, vs[i]? = some v ∧ u = (AV.n2r P v j).1 ∧ ∀ β : Nat → Option Value, NilB β k (AV.n2rL P vs k).2.length → NilB β j (AV.n2r P v j).2.length
  | [], k, i, u, h => by simp [AV.n2rL] at h
  | v :: vs, k, 0, u, h => by
    simp only [AV.n2rL, List.getElem?_cons_zero, Option.some.injEq] at h
    exact ⟨v, k, rfl, h.symm, fun β hb => by simp only [AV.n2rL, List.length_append] at hb; exact hb.left⟩
  | v :: vs, k, i + 1, u, h => by
    simp only [AV.n2rL, List.getElem?_cons_succ] at h
    obtain ⟨v', j, h1, h2, h3⟩ := n2rL_get P vs _ i u h
    exact ⟨v', j, by simpa using h1, h2, fun β hb => h3 β (by simp only [AV.n2rL, List.length_append] at hb; exact hb.right)⟩
theorem n2rL_len (P : Program) : ∀ (vs : List AV) (k : Nat), (AV.n2rL P vs k).1.length = vs.length
  | [], k => rfl
  | v :: vs, k => by simp [AV.n2rL, n2rL_len P vs]
theorem RA.n2r {ok : Nat → Prop} {w : World} {β : Nat → Option Value} {v : AV} {cs : List Value} (h : RA P ok w β v cs) : ∀ k, NilB β k (AV.n2r P v k).2.length → RA P ok w β (AV.n2r P v k).1 cs := by
  induction h with
  | nils =>
    intro k hb
    simp only [AV.n2r] at hb ⊢
    split at hb
    · exact .row (hb k (Nat.le_refl _) (by simp)) rfl
    · exact .nils
  | agg hu hl hc h1 _ ih =>
    intro k hb
    simp only [AV.n2r] at hb ⊢
    refine .agg hu (by rw [n2rL_len]; exact hl) hc h1 fun i f u hf hu2 => ?_
    obtain ⟨v, j, q1, q2, q3⟩ := n2rL_get P _ k i u hu2
    subst q2
    exact ih i f v hf q1 j (q3 β hb)
  | dat h => intro k hb; exact .dat h
  | nif => intro k hb; exact .nif
  | nni => intro k hb; exact .nni
  | mth => intro k hb; exact .mth
  | row h h1 => intro k hb; exact .row h h1
  | ptr h => intro k hb; exact .ptr h
  | eptr h => intro k hb; exact .eptr h
  | eptrB h => intro k hb; exact .eptrB h
  | rptr h1 h2 h3 h4 => intro k hb; exact .rptr h1 h2 h3 h4
  | fn h1 h2 => intro k hb; exact .fn h1 h2
  | ifc1 h1 h2 => intro k hb; exact .ifc1 h1 h2
  | ifcA h1 h2 => intro k hb; exact .ifcA h1 h2
  | dead h => intro k hb; exact .dead h
theorem n2r_agg (v : AV) (k : Nat) : (AV.n2r P v k).1.isAgg P = v.isAgg P := by
  cases v with
  | nils T => simp only [AV.n2r]; split <;> rfl
  | agg T vs => rfl
  | _ => rfl
theorem n2r_tup {v : AV} {k : Nat} {us : List AV} (h : (AV.n2r P v k).1 = .tup us) : v = .tup us := by
  cases v with
  | nils T => simp only [AV.n2r] at h; split at h <;> cases h
  | agg T vs => simp [AV.n2r] at h
  | tup vs => simpa [AV.n2r] using h
  | _ => simp [AV.n2r] at h
theorem RV.n2r {ok : Nat → Prop} {w : World} {β : Nat → Option Value} {v : AV} {z : Value} (h : RV P ok w β v z) (k : Nat) (hb : NilB β k (AV.n2r P v k).2.length) : RV P ok w β (AV.n2r P v k).1 z := by
  by_cases hd : v = .dead
  · subst hd; trivial
  · by_cases ht : ∃ us, v = .tup us
    · obtain ⟨us, rfl⟩ := ht
      exact h
    · have h1 := RV.to1 hd (fun us e => ht ⟨us, e⟩) h
      refine RV1.toRV ⟨fun hi => ?_, fun hi => ?_⟩ fun us e => ht ⟨us, n2r_tup e⟩
      · rw [n2r_agg] at hi
        obtain ⟨cs, e, q⟩ := h1.1 hi
        exact ⟨cs, e, q.n2r k hb⟩
      · rw [n2r_agg] at hi
        exact (h1.2 hi).n2r k hb
theorem n2r_sl (P : Program) (v : AV) (k : Nat) : ∀ T ∈ (AV.n2r P v k).2, ∃ E, P.underlying T = some (.slice E) := by
  refine AV.rec (motive_1 := fun v => ∀ k, ∀ T ∈ (AV.n2r P v k).2, ∃ E, P.underlying T = some (.slice E)) (motive_2 := fun vs => ∀ k, ∀ T ∈ (AV.n2rL P vs k).2, ∃ E, P.underlying T = some (.slice E)) ?_ ?_ ?_ ?_ ?_ ?_ ?_ ?_ ?_ ?_ ?_ ?_ ?_ ?_ ?_ v k
  · intro T d k T' h; simp [AV.n2r] at h
  · intro T vs ih k T' h; exact ih k T' h
  · intro l k T' h; simp [AV.n2r] at h
  · intro l p o k T' h; simp [AV.n2r] at h
  · intro l i z p o k T' h; simp [AV.n2r] at h
  · intro T d k T' h; simp [AV.n2r] at h
  · intro f c _ k T' h; simp [AV.n2r] at h
  · intro vs _ k T' h; simp [AV.n2r] at h
  · intro T k T' h
    simp only [AV.n2r] at h
    split at h
    · rename_i E hu
      simp only [List.mem_singleton] at h
      subst h
      exact ⟨E, hu⟩
    · simp at h
  · intro b k T' h; simp [AV.n2r] at h
  · intro T v _ k T' h; simp [AV.n2r] at h
  · intro T m k T' h; simp [AV.n2r] at h
  · intro k T' h; simp [AV.n2r] at h
  · intro k T' h; simp [AV.n2rL] at h
  · intro v vs h1 h2 k T' h
    simp only [AV.n2rL, List.mem_append] at h
    rcases h with h | h
    · exact h1 _ T' h
    · exact h2 _ T' h
theorem lay_nil (hs : List Ob) : ∀ (Ts : List TypeId) (σ : St) (K : OkX) (w0 w : World) (a : Act) (β : Nat → Option Value) (k : Nat), RelB P K w0 n σ a w β → (∀ T ∈ Ts, ∃ E, P.underlying T = some (.slice E)) → (∀ i, k ≤ i → lk σ.hs i = .free) → σ.k0 ≤ k →
    ∃ β', RelB P K w0 n ⟨σ.ts, layN σ.hs k Ts, σ.k0⟩ a w β' ∧ Ext β β' ∧ NilB β' k Ts.length
  | [], σ, K, w0, w, a, β, k, r, _, _, _ => ⟨β, r, Ext.refl _, fun i h1 h2 => by simp at h2; omega⟩
  | T :: Ts, σ, K, w0, w, a, β, k, r, hT, hf, hk => by
    obtain ⟨E, hu⟩ := hT T (by simp)
    have hfk := hf k (Nat.le_refl _)
    have r1 := r.nilrow hu hfk hk
    obtain ⟨β', r2, e2, n2⟩ := lay_nil hs Ts (σ.lay k (.row T [])) K w0 w a _ (k + 1) r1 (fun T' h => hT T' (by simp [h])) (fun i hi => by
      show lk (setO σ.hs k _) i = .free
      rw [lk_other _ _ _ _ (by omega)]; exact hf i (by omega)) (by show σ.k0 ≤ k + 1; omega)
    have hb : β k = none := by have := r.hs k; rw [hfk] at this; exact this
    have e1 : Ext β (upB β k (some (.slice none 0 0))) := fun i z hz => by
      by_cases hik : i = k
      · subst hik; rw [hb] at hz; cases hz
      · rw [upB_other _ _ _ _ hik]; exact hz
    refine ⟨β', r2, e1.trans e2, fun i h1 h2 => ?_⟩
    by_cases hik : i = k
    · subst hik; exact e2 _ _ (upB_same _ _ _)
    · exact n2 i (by omega) (by simp at h2 ⊢; omega)
theorem lk_end : ∀ (hs : List Ob) (i : Nat), hs.length ≤ i → lk hs i = .free
  | [], _, _ => rfl
  | _ :: r, 0, h => by simp at h
  | _ :: r, i + 1, h => by simp only [lk]; exact lk_end r i (by simpa using h)
/-- Nil slices in slot 's' become rows. -/
def nilSlot (P : Program) (σ : St) (s : Nat) : St :=
  let r := AV.n2r P (tk σ.ts s) σ.hs.length
  match r.2 with
  | [] => σ
  | _ :: _ => bif Nat.ble σ.k0 σ.hs.length then ⟨setT σ.ts s r.1, layN σ.hs σ.hs.length r.2, σ.k0⟩ else σ
theorem Imp.nilSlot (s : Nat) : Imp P n σ (nilSlot P σ s) := by
  rintro K w0 a w ⟨β, r⟩
  unfold Am.nilSlot
  simp only
  split
  · exact ⟨β, r⟩
  · rename_i x y hxy
    cases hb : Nat.ble σ.k0 σ.hs.length with
    | false => exact ⟨β, r⟩
    | true =>
      obtain ⟨β', r2, e2, n2⟩ := lay_nil σ.hs _ σ K w0 w a β σ.hs.length r (n2r_sl P (tk σ.ts s) σ.hs.length) (fun i hi => lk_end _ _ hi) (Nat.le_of_ble_eq_true hb)
      refine ⟨β', r2.size, r2.defers, r2.below, fun k => ?_, r2.hs, r2.sep, r2.own, r2.ext, r2.kk, r2.tab⟩
      show RV P _ w β' (tk (setT σ.ts s _) k) _
      rw [tk_set]
      by_cases hk : k = s
      · subst hk; rw [if_pos rfl]; exact (r2.ts k).n2r _ n2
      · rw [if_neg hk]; exact r2.ts k
/-- Nil slices in box 'b' become rows. -/
def nilBox (P : Program) (σ : St) (b : Nat) : St :=
  match lk σ.hs b with
  | .box T c =>
    let r := AV.n2r P c σ.hs.length
    match r.2 with
    | [] => σ
    | _ :: _ => bif Nat.ble σ.k0 σ.hs.length then ⟨σ.ts, setO (layN σ.hs σ.hs.length r.2) b (.box T r.1), σ.k0⟩ else σ
  | _ => σ
theorem lk_layN : ∀ (Ts : List TypeId) (hs : List Ob) (k i : Nat), i < k → lk (layN hs k Ts) i = lk hs i
  | [], hs, k, i, h => rfl
  | T :: Ts, hs, k, i, h => by rw [layN, lk_layN Ts _ (k + 1) i (by omega), lk_other _ _ _ _ (by omega)]
theorem Imp.nilBox (b : Nat) : Imp P n σ (nilBox P σ b) := by
  rintro K w0 a w ⟨β, r⟩
  unfold Am.nilBox
  split
  · rename_i T c hl
    simp only
    split
    · exact ⟨β, r⟩
    · rename_i x y hxy
      cases hb : Nat.ble σ.k0 σ.hs.length with
      | false => exact ⟨β, r⟩
      | true =>
        obtain ⟨β', r2, e2, n2⟩ := lay_nil σ.hs _ σ K w0 w a β σ.hs.length r (n2r_sl P c σ.hs.length) (fun i hi => lk_end _ _ hi) (Nat.le_of_ble_eq_true hb)
        have hlt : b < σ.hs.length := by
          rcases Nat.lt_or_ge b σ.hs.length with h | h
          · exact h
          · rw [lk_end _ _ h] at hl; cases hl
        have hl2 : lk (layN σ.hs σ.hs.length (AV.n2r P c σ.hs.length).2) b = .box T c := by rw [lk_layN _ _ _ _ hlt]; exact hl
        refine ⟨_, r2.upd b (.box T (AV.n2r P c σ.hs.length).1) (β' b) w (.inl rfl) rfl rfl rfl (Nat.le_refl _) (fun _ _ _ => rfl) (fun z b2 _ hz hb2 => .inr ⟨by show (lk (layN _ _ _) b).isOwn = true; rw [hl2]; rfl, z, hz, hb2⟩) fun hx hk => ?_⟩
        have hob := r2.hs b
        have hl3 : lk (St.mk σ.ts (layN σ.hs σ.hs.length (AV.n2r P c σ.hs.length).2) σ.k0).hs b = .box T c := hl2
        rw [hl3] at hob
        obtain ⟨g, cs, h1, h3, h4, h5⟩ := hob
        exact ⟨g, cs, h1, h3, h4, (h5.n2r _ n2).mono hk hx⟩
  · exact ⟨β, r⟩
end
end Go.Am
