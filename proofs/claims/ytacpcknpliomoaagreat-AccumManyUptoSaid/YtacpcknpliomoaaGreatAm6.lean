/- The abstract machine, part 6: values as plain data; struct literals; cuts of strings and lists. -/
import Derived.Test.YtacpcknpliomoaaGreatAm5
set_option linter.unusedVariables false
set_option linter.unusedSimpArgs false
namespace Go.Am
open Go.RowKit

/-- Partial operations of shallow functions. -/
def idx (l : List Dt) (i : Int) : Option Dt := if 0 ≤ i then l[i.toNat]? else none
def idxS (s : ByteArray) (i : Int) : Option Int := if 0 ≤ i then (s[i.toNat]?).map fun c => (c.toNat : Int) else none
def cutS (s : ByteArray) (i j : Int) : Option ByteArray := if 0 ≤ i ∧ i ≤ j ∧ j ≤ s.size then some (s.extract i.toNat j.toNat) else none
def cutL (l : List Dt) (i j : Int) : Option (List Dt) := if 0 ≤ i ∧ i ≤ j ∧ j ≤ l.length then some ((l.drop i.toNat).take (j.toNat - i.toNat)) else none
def app (l r : List Dt) : Option (List Dt) := if l.length + r.length ≤ 137438953472 then some (l ++ r) else none
/-- Rows joined; the elements have 'b' bytes. -/
def appB (b : Nat) (l r : List Dt) : Option (List Dt) := bif Nat.ble b 1024 then app l r else bif Nat.ble b 65536 then (if l.length + r.length ≤ 2147483648 then some (l ++ r) else none) else none
def appK {R : Type} (b : Nat) (l r : List Dt) (k : List Dt → Option R) : Option R := bif Nat.ble b 1024 then (app l r).bind k else (appB b l r).bind k
def mkL (len cap : Int) (z : Dt) : Option (List Dt) := if 0 ≤ len ∧ len ≤ cap ∧ cap ≤ 137438953472 then some (List.replicate len.toNat z) else none
/-- A made row of larger elements ('b' bytes). -/
def mkB (len cap : Int) (z : Dt) : Option (List Dt) := if 0 ≤ len ∧ len ≤ cap ∧ cap ≤ 2147483648 then some (List.replicate len.toNat z) else none
def mkK {R : Type} (b : Nat) (len cap : Int) (z : Dt) (k : List Dt → Option R) : Option R := bif Nat.ble b 1024 then (mkL len cap z).bind k else bif Nat.ble b 65536 then (mkB len cap z).bind k else none
def setL (l : List Dt) (i : Int) (x : Dt) : Option (List Dt) := if 0 ≤ i ∧ i < l.length then some (l.set i.toNat x) else none
def inL (l : List Dt) (i : Int) : Option Unit := if 0 ≤ i ∧ i < l.length then some () else none
def quo (k : IntKind) (a b : Int) : Option Int := if b ≠ 0 then some (k.wrap (a.tdiv b)) else none
def rem (a b : Int) : Option Int := if b ≠ 0 then some (a.tmod b) else none
def cat (a b : ByteArray) : Option ByteArray := if a.size + b.size ≤ 1152921504606846976 then some (a ++ b) else none

theorem idx_some {l : List Dt} {i : Int} {e : Dt} (h : idx l i = some e) : 0 ≤ i ∧ l[i.toNat]? = some e := by
  unfold idx at h
  split at h
  · exact ⟨by assumption, h⟩
  · cases h
theorem idxS_some {s : ByteArray} {i c : Int} (h : idxS s i = some c) : 0 ≤ i ∧ ∃ u : UInt8, s[i.toNat]? = some u ∧ (u.toNat : Int) = c := by
  unfold idxS at h
  split at h
  · refine ⟨by assumption, ?_⟩
    simp only [Option.map_eq_some_iff] at h
    exact h
  · cases h
theorem cutS_some {s r : ByteArray} {i j : Int} (h : cutS s i j = some r) : 0 ≤ i ∧ i ≤ j ∧ j ≤ s.size ∧ s.extract i.toNat j.toNat = r := by
  unfold cutS at h
  split at h
  · rename_i hc; exact ⟨hc.1, hc.2.1, hc.2.2, by simpa using h⟩
  · cases h
theorem cutL_some {l r : List Dt} {i j : Int} (h : cutL l i j = some r) : 0 ≤ i ∧ i ≤ j ∧ j ≤ l.length ∧ (l.drop i.toNat).take (j.toNat - i.toNat) = r := by
  unfold cutL at h
  split at h
  · rename_i hc; exact ⟨hc.1, hc.2.1, hc.2.2, by simpa using h⟩
  · cases h
theorem app_some {l r s : List Dt} (h : app l r = some s) : l.length + r.length ≤ 137438953472 ∧ l ++ r = s := by
  unfold app at h
  split at h
  · exact ⟨by assumption, by simpa using h⟩
  · cases h
theorem appK_some {R : Type} {b : Nat} {l r : List Dt} {k : List Dt → Option R} {x : R} (h : appK b l r k = some x) : ∃ rs, appB b l r = some rs ∧ k rs = some x := by
  unfold appK at h
  cases h1 : Nat.ble b 1024 with
  | true =>
    rw [h1, cond_true] at h
    have e : appB b l r = app l r := by unfold appB; rw [h1]; rfl
    rw [e]
    exact Option.bind_eq_some_iff.1 h
  | false =>
    rw [h1, cond_false] at h
    exact Option.bind_eq_some_iff.1 h
theorem appB_some {b : Nat} {l r s : List Dt} (h : appB b l r = some s) : l.length + r.length ≤ 137438953472 ∧ l ++ r = s ∧ (l.length + r.length) * b ≤ 140737488355328 := by
  unfold appB at h
  cases h1 : Nat.ble b 1024 with
  | true =>
    rw [h1, cond_true] at h
    obtain ⟨p1, p2⟩ := app_some h
    have := Nat.mul_le_mul p1 (Nat.le_of_ble_eq_true h1)
    exact ⟨p1, p2, by omega⟩
  | false =>
    rw [h1, cond_false] at h
    cases h2 : Nat.ble b 65536 with
    | false => rw [h2, cond_false] at h; cases h
    | true =>
      rw [h2, cond_true] at h
      split at h
      · next h3 =>
        cases h
        have := Nat.mul_le_mul h3 (Nat.le_of_ble_eq_true h2)
        exact ⟨by omega, rfl, by omega⟩
      · cases h
theorem mkL_some {len cap : Int} {z : Dt} {s : List Dt} (h : mkL len cap z = some s) : 0 ≤ len ∧ len ≤ cap ∧ cap ≤ 137438953472 ∧ List.replicate len.toNat z = s := by
  unfold mkL at h
  split at h
  · rename_i hc; exact ⟨hc.1, hc.2.1, hc.2.2, by simpa using h⟩
  · cases h
theorem mkK_some {R : Type} {b : Nat} {len cap : Int} {z : Dt} {k : List Dt → Option R} {x : R} (h : mkK b len cap z k = some x) : ∃ s, 0 ≤ len ∧ len ≤ cap ∧ cap ≤ 137438953472 ∧ List.replicate len.toNat z = s ∧ b * cap.toNat ≤ 140737488355328 ∧ k s = some x := by
  unfold mkK at h
  cases h1 : Nat.ble b 1024 with
  | true =>
    rw [h1, cond_true] at h
    obtain ⟨s, h2, h3⟩ := Option.bind_eq_some_iff.1 h
    obtain ⟨p1, p2, p3, p4⟩ := mkL_some h2
    have hc : cap.toNat ≤ 137438953472 := by omega
    have := Nat.mul_le_mul (Nat.le_of_ble_eq_true h1) hc
    exact ⟨s, p1, p2, p3, p4, by omega, h3⟩
  | false =>
    rw [h1, cond_false] at h
    cases h2 : Nat.ble b 65536 with
    | false => rw [h2, cond_false] at h; cases h
    | true =>
      rw [h2, cond_true] at h
      obtain ⟨s, h4, h3⟩ := Option.bind_eq_some_iff.1 h
      unfold mkB at h4
      split at h4
      · next hc =>
        have hc' : cap.toNat ≤ 2147483648 := by omega
        have := Nat.mul_le_mul (Nat.le_of_ble_eq_true h2) hc'
        exact ⟨s, hc.1, hc.2.1, by omega, by simpa using h4, by omega, h3⟩
      · cases h4
theorem setL_some {l s : List Dt} {i : Int} {x : Dt} (h : setL l i x = some s) : 0 ≤ i ∧ i < l.length ∧ l.set i.toNat x = s := by
  unfold setL at h
  split at h
  · rename_i hc; exact ⟨hc.1, hc.2, by simpa using h⟩
  · cases h
theorem inL_some {l : List Dt} {i : Int} {x : Unit} (h : inL l i = some x) : 0 ≤ i ∧ i < l.length := by
  unfold inL at h
  split at h
  · assumption
  · cases h
theorem quo_some {k : IntKind} {a b c : Int} (h : quo k a b = some c) : b ≠ 0 ∧ k.wrap (a.tdiv b) = c := by
  unfold quo at h
  split at h
  · exact ⟨by assumption, by simpa using h⟩
  · cases h
theorem rem_some {a b c : Int} (h : rem a b = some c) : b ≠ 0 ∧ a.tmod b = c := by
  unfold rem at h
  split at h
  · exact ⟨by assumption, by simpa using h⟩
  · cases h
theorem cat_some {a b c : ByteArray} (h : cat a b = some c) : a.size + b.size ≤ maxLen ∧ a ++ b = c := by
  unfold cat at h
  split at h
  · exact ⟨by unfold maxLen; omega, by simpa using h⟩
  · cases h

section
variable {P : Program} {n : Nat} {o : Oper} {σ σ' : St} {x y : Operand} {v : AV} {T : TypeId}

/-- Types of one form. -/
def compat (P : Program) (T T' : TypeId) : Bool :=
  Nat.beq T T' || match P.underlying T, P.underlying T' with
  | some (.int k), some (.int k') => decide (k = k')
  | some .bool, some .bool => true
  | some .string, some .string => true
  | some (.slice E), some (.slice E') => Nat.beq E E'
  | _, _ => false
theorem RD.compat {ok : Nat → Prop} {w : World} {d : Dt} {cs : List Value} {T' : TypeId} (h : RD P ok w T d cs) (hc : Am.compat P T T' = true) : RD P ok w T' d cs := by
  unfold Am.compat at hc
  rw [Bool.or_eq_true] at hc
  rcases hc with hc | hc
  · have := Nat.eq_of_beq_eq_true hc
    subst this
    exact h
  · split at hc
    · rename_i k k' h1 h2
      have e : k = k' := by simpa using hc
      subst e
      obtain ⟨e1, e2, e3, e4⟩ := h.int_inv h1
      rw [e1, e2]; exact .int h2 e3 e4
    · rename_i h1 h2
      obtain ⟨e1, e2⟩ := h.bool_inv h1
      rw [e1, e2]; exact .bool h2
    · rename_i h1 h2
      obtain ⟨e1, e2, e3⟩ := h.str_inv h1
      rw [e1, e2]; exact .str h2 e3
    · rename_i E E' h1 h2
      have e := Nat.eq_of_beq_eq_true hc
      subst e
      obtain ⟨e1, a, cap, ad, g, e2, q1, q2, q3, q4, q5⟩ := h.lst_inv h1
      rw [e1, e2]; exact .lst ad g h2 rfl q1 q2 q3 q4 q5
    · cases hc

mutual
/-- A value as plain data. -/
def pk (P : Program) (hs : List Ob) : AV → Option (TypeId × Dt)
  | .dat T d => some (T, d)
  | .nils T => match P.underlying T with
    | some (.slice _) => some (T, .lst [])
    | _ => none
  | .row l => match lk hs l with
    | .frz T es => some (T, .lst es)
    | _ => none
  | .agg T vs => match P.underlying T with
    | some (.struct fs) => match pkL P hs fs.toList vs with
      | some ds => some (T, .agg ds)
      | none => none
    | _ => none
  | _ => none
def pkL (P : Program) (hs : List Ob) : List Field → List AV → Option (List Dt)
  | [], [] => some []
  | f :: fs, v :: vs => match pk P hs v with
    | some (T, d) => bif compat P T f.type then (match pkL P hs fs vs with
      | some ds => some (d :: ds)
      | none => none) else none
    | none => none
  | _, _ => none
end
theorem pkL_get {hs : List Ob} : ∀ {fs : List Field} {vs : List AV} {ds : List Dt}, pkL P hs fs vs = some ds → ds.length = fs.length ∧ vs.length = fs.length ∧ ∀ (i : Nat) (f : Field) (d : Dt), fs[i]? = some f → ds[i]? = some d → ∃ v T, vs[i]? = some v ∧ pk P hs v = some (T, d) ∧ compat P T f.type = true
  | [], [], ds, h => by
    simp only [pkL, Option.some.injEq] at h
    subst h
    exact ⟨rfl, rfl, fun i f d hf => by simp at hf⟩
  | [], _ :: _, ds, h => by simp [pkL] at h
  | _ :: _, [], ds, h => by simp [pkL] at h
  | f :: fs, v :: vs, ds, h => by
    unfold pkL at h
    split at h
    · rename_i T d hv
      cases hc : compat P T f.type with
      | false => rw [hc] at h; cases h
      | true =>
        rw [hc] at h
        simp only [cond_true] at h
        split at h
        · rename_i ds' hr
          cases h
          obtain ⟨h1, h2, h3⟩ := pkL_get hr
          refine ⟨by simp [h1], by simp [h2], fun i f' d' hf hd => ?_⟩
          cases i with
          | zero =>
            simp only [List.getElem?_cons_zero, Option.some.injEq] at hf hd
            subst hf hd
            exact ⟨v, T, rfl, hv, hc⟩
          | succ i =>
            simp only [List.getElem?_cons_succ] at hf hd
            obtain ⟨v', T', q1, q2, q3⟩ := h3 i f' d' hf hd
            exact ⟨v', T', by simpa using q1, q2, q3⟩
        · cases h
    · cases h
def FrzOK (P : Program) (ok : Nat → Prop) (w : World) (β : Nat → Option Value) (hs : List Ob) : Prop := ∀ l T es, lk hs l = .frz T es → ∃ z, β l = some z ∧ RD P ok w T (.lst es) [z]
theorem RelB.frzOK {K : OkX} {w0 w : World} {a : Act} {β : Nat → Option Value} (r : RelB P K w0 n σ a w β) : FrzOK P (okOf K w0 w σ.hs β) w β σ.hs := fun l T es hl => by
  have := r.hs l
  rw [hl] at this
  obtain ⟨z, h1, _, h2⟩ := this
  exact ⟨z, h1, h2⟩
theorem pk_sound {ok : Nat → Prop} {w : World} {β : Nat → Option Value} {cs : List Value} {hs : List Ob} (hf : FrzOK P ok w β hs) (h : RA P ok w β v cs) : ∀ {T : TypeId} {d : Dt}, pk P hs v = some (T, d) → RD P ok w T d cs := by
  induction h with
  | dat h => intro T d hp; simp only [pk, Option.some.injEq, Prod.mk.injEq] at hp; obtain ⟨rfl, rfl⟩ := hp; exact h
  | @agg T fs vs cs hu hl hc h1 _ ih =>
    intro T' d hp
    simp only [pk, hu] at hp
    split at hp
    · rename_i ds hpl
      simp only [Option.some.injEq, Prod.mk.injEq] at hp
      obtain ⟨rfl, rfl⟩ := hp
      obtain ⟨q1, q2, q3⟩ := pkL_get hpl
      refine .agg hu (by rw [q1]; simp) hc h1 fun i f d hf hd => ?_
      obtain ⟨u, T'', q4, q5, q6⟩ := q3 i f d (by simpa using hf) hd
      exact (ih i f u hf q4 q5).compat q6
    · cases hp
  | @row l z h h1 =>
    intro T d hp
    simp only [pk] at hp
    split at hp
    · rename_i T' es hl
      simp only [Option.some.injEq, Prod.mk.injEq] at hp
      obtain ⟨rfl, rfl⟩ := hp
      obtain ⟨z', e, hr⟩ := hf l _ _ hl
      rw [h] at e; cases e
      exact hr
    · cases hp
  | nils =>
    intro T d hp
    simp only [pk] at hp
    split at hp
    · rename_i hu
      simp only [Option.some.injEq, Prod.mk.injEq] at hp
      obtain ⟨rfl, rfl⟩ := hp
      exact RD.nil hu
    · cases hp
  | _ => intro T d hp; simp [pk] at hp
theorem pk_agg {hs : List Ob} {d : Dt} (h : pk P hs v = some (T, d)) (hnr : ∀ l, v ≠ .row l) : v.isAgg P = aggT P T ∧ v ≠ .dead ∧ ∀ us, v ≠ .tup us := by
  cases v with
  | dat T' d' => simp only [pk, Option.some.injEq, Prod.mk.injEq] at h; obtain ⟨rfl, rfl⟩ := h; exact ⟨rfl, by simp, by simp⟩
  | agg T' vs =>
    simp only [pk] at h
    split at h
    · split at h
      · simp only [Option.some.injEq, Prod.mk.injEq] at h; obtain ⟨rfl, rfl⟩ := h; exact ⟨rfl, by simp, by simp⟩
      · cases h
    · cases h
  | nils T' =>
    simp only [pk] at h
    split at h
    · rename_i hu
      simp only [Option.some.injEq, Prod.mk.injEq] at h
      obtain ⟨rfl, rfl⟩ := h
      exact ⟨by simp [AV.isAgg, aggT, hu], by simp, by simp⟩
    · cases h
  | row l => exact absurd rfl (hnr l)
  | _ => simp [pk] at h
theorem RV.pk {ok : Nat → Prop} {w : World} {β : Nat → Option Value} {hs : List Ob} {z : Value} {d : Dt} (hf : FrzOK P ok w β hs) (hfs : ∀ l T es, lk hs l = .frz T es → aggT P T = false) (h : RV P ok w β v z) (hp : Am.pk P hs v = some (T, d)) : RV P ok w β (.dat T d) z := by
  cases v with
  | row l =>
    simp only [Am.pk] at hp
    split at hp
    · rename_i T' es hl
      simp only [Option.some.injEq, Prod.mk.injEq] at hp
      obtain ⟨rfl, rfl⟩ := hp
      obtain ⟨z', e, hr⟩ := hf l _ _ hl
      have e2 := row_eval h
      rw [e2] at e; cases e
      exact (RV.dat_one (hfs l _ _ hl)).2 hr
    · cases hp
  | dat T' d' =>
    obtain ⟨h1, h2, h3⟩ := pk_agg hp (by simp)
    have hr := RV.to1 h2 h3 h
    exact ⟨fun hi => let ⟨cs, e, q⟩ := hr.1 (by rw [h1]; exact hi); ⟨cs, e, .dat (pk_sound hf q hp)⟩, fun hi => .dat (pk_sound hf (hr.2 (by rw [h1]; exact hi)) hp)⟩
  | agg T' d' =>
    obtain ⟨h1, h2, h3⟩ := pk_agg hp (by simp)
    have hr := RV.to1 h2 h3 h
    exact ⟨fun hi => let ⟨cs, e, q⟩ := hr.1 (by rw [h1]; exact hi); ⟨cs, e, .dat (pk_sound hf q hp)⟩, fun hi => .dat (pk_sound hf (hr.2 (by rw [h1]; exact hi)) hp)⟩
  | nils T' =>
    obtain ⟨h1, h2, h3⟩ := pk_agg hp (by simp)
    have hr := RV.to1 h2 h3 h
    exact ⟨fun hi => let ⟨cs, e, q⟩ := hr.1 (by rw [h1]; exact hi); ⟨cs, e, .dat (pk_sound hf q hp)⟩, fun hi => .dat (pk_sound hf (hr.2 (by rw [h1]; exact hi)) hp)⟩
  | _ => simp [Am.pk] at hp
theorem RelB.frzAgg {K : OkX} {w0 w : World} {a : Act} {β : Nat → Option Value} (r : RelB P K w0 n σ a w β) : ∀ l T es, lk σ.hs l = .frz T es → aggT P T = false := fun l T es hl => by
  have := r.hs l
  rw [hl] at this
  obtain ⟨z, h1, hu, h2⟩ := this
  exact hu
theorem Ev.pk {d : Dt} (h : Ev P σ x v) (hp : Am.pk P σ.hs v = some (T, d)) : Ev P σ x (.dat T d) := fun ok0 w0 n a w β r =>
  (h _ _ _ _ _ _ r).pk r.frzOK r.frzAgg hp
theorem RV.can {ok : Nat → Prop} {w : World} {β : Nat → Option Value} {z : Value} {d : Dt} (h : RV P ok w β (.dat T d) z) : RV P ok w β (.dat T (canD P T d)) z := by
  have h1 : RV1 P ok w β (.dat T d) z := h
  refine ⟨fun hi => ?_, fun hi => ?_⟩
  · obtain ⟨cs, e, q⟩ := h1.1 hi
    cases q with
    | dat q => exact ⟨cs, e, .dat (by rw [canD_eq q]; exact q)⟩
  · have q := h1.2 hi
    cases q with
    | dat q => exact .dat (by rw [canD_eq q]; exact q)
theorem Ev.can {d : Dt} (h : Ev P σ x (.dat T d)) : Ev P σ x (.dat T (canD P T d)) := fun ok0 w0 n a w β r => (h _ _ _ _ _ _ r).can

/-- A weaker fact on the value that an operation has put into a slot. -/
theorem OpOK.weak {d : Nat} {v' : AV} {τ : St} (h : OpOK P n o σ (τ.put d v)) (hv : ∀ (ok : Nat → Prop) (w : World) (β : Nat → Option Value) (z : Value), RV P ok w β v z → RV P ok w β v' z) : OpOK P n o σ (τ.put d v') := by
  intro ok0 w0 a w r K Q hK
  refine h ok0 w0 a w r K Q fun a' w' r' => hK a' w' ?_
  obtain ⟨β, r'⟩ := r'
  refine ⟨β, r'.size, r'.defers, r'.below, fun k => ?_, r'.hs, r'.sep, r'.own, r'.ext, r'.kk, r'.tab⟩
  have := r'.ts k
  simp only [St.put, tk_set] at this ⊢
  by_cases hb : k = d
  · rw [if_pos hb] at this ⊢; exact hv _ _ _ _ this
  · rw [if_neg hb] at this ⊢; exact this
theorem OpOK.can {d : Nat} {e : Dt} {τ : St} (h : OpOK P n o σ (τ.put d (.dat T e))) : OpOK P n o σ (τ.put d (.dat T (canD P T e))) :=
  h.weak fun ok w β z hz => hz.can
/-- A struct literal: the parts one by one. -/
inductive BldL (P : Program) (σ : St) (fs : Array Field) : List (Nat × Operand) → List AV → List AV → Prop where
  | nil {vs : List AV} : BldL P σ fs [] vs vs
  | cons {i : Nat} {f : Field} {x : Operand} {v : AV} {r : List (Nat × Operand)} {vs out : List AV} (hf : fs[i]? = some f) (hx : Ev P σ x v) (hv0 : v ≠ .dead) (hv1 : ∀ us, v ≠ .tup us)
      (hs : ∀ (ok : Nat → Prop) (w : World) (β : Nat → Option Value) (cs : List Value), RA P ok w β v cs → (v.isAgg P = false → cs.length = 1) → cs.length = P.cellsOf f.type)
      (h : BldL P σ fs r (vs.set i v) out) : BldL P σ fs ((i, x) :: r) vs out

def okFields (P : Program) (fs : Array Field) : Bool := fs.toList.all fun f => P.cellsOf f.type != 0
theorem okFields_places : ∀ fs : List Field, (fs.all fun f => P.cellsOf f.type != 0) = true → fs.mapM (fun f => (P.info? f.type).map fun i => (f.offset, i.size)) = some (fs.map fun f => (f.offset, P.cellsOf f.type))
  | [], _ => rfl
  | f :: r, h => by
    simp only [List.all_cons, Bool.and_eq_true, bne_iff_ne, ne_eq] at h
    cases hi : P.info? f.type with
    | none => simp [Program.cellsOf, hi] at h
    | some i =>
      simp [List.mapM_cons, hi, okFields_places r h.2, Program.cellsOf]

theorem fold_splice (off : Nat) (us cells : Array Value) (h : off + us.size ≤ cells.size) : (us.zipIdx.foldl (fun cs (x : Value × Nat) => cs.setIfInBounds (off + x.2) x.1) cells) = (splice cells.toList off us.toList).toArray := by
  have hf := Great.foldl_set off us.toList 0 cells
  rw [← Array.foldl_toList, Array.toList_zipIdx]
  apply Array.ext'
  apply List.ext_getElem?
  intro k
  rw [Array.getElem?_toList, hf.2 k, List.toList_toArray, splice_get (by simpa using h)]
  simp only [Nat.add_zero, Array.length_toList, Array.getElem?_toList]
  by_cases h1 : off ≤ k ∧ k < off + us.size
  · rw [if_pos ⟨h1.1, h1.2, by omega⟩, if_pos h1]
  · rw [if_neg (by omega), if_neg h1]

theorem BldL.sound {fs : Array Field} (hu : P.underlying T = some (.struct fs)) (hlay : layB P T fs = true) {parts : List (Nat × Operand)} {vs out : List AV} (h : BldL P σ fs parts vs out) {ok0 : OkX} {w0 w : World} {a : Act} {β : Nat → Option Value} (r : RelB P ok0 w0 n σ a w β) :
    ∀ (cells : Array Value), RA P (okOf ok0 w0 w σ.hs β) w β (.agg T vs) cells.toList →
      ∃ c', Instr.fill ((fs.toList.map fun f => (f.offset, P.cellsOf f.type)).toArray[·]?) cells (parts.map fun p => (p.1, a.eval p.2)) = some c' ∧ RA P (okOf ok0 w0 w σ.hs β) w β (.agg T out) c'.toList := by
  induction h with
  | nil => intro cells hc; exact ⟨cells, rfl, hc⟩
  | @cons i f x v r' vs out hf hx hv0 hv1 hs _ ih =>
    intro cells hc
    have hv := RV.to1 hv0 hv1 (hx _ _ _ _ _ _ r)
    have hvc := hv.cells
    have hsz : (a.eval x).cells.size = P.cellsOf f.type := by
      have := hs _ _ _ _ hvc (fun hi => by
        have hr := hv.2 hi
        have h1' := hr.oneCell (a.eval x) (by simp)
        generalize a.eval x = z at h1'
        cases z <;> simp_all [Value.cells, Value.oneCell'])
      simpa using this
    have hlen : cells.size = P.cellsOf T := by cases hc with | agg _ _ hc _ _ => simpa using hc
    have hold : ∃ old, vs[i]? = some old := by
      cases hc with
      | agg hu' hl _ _ _ =>
        rw [hu] at hu'; cases hu'
        have : i < vs.length := by rw [hl]; exact (Array.getElem?_eq_some_iff.1 hf).1
        exact ⟨_, List.getElem?_eq_getElem this⟩
    obtain ⟨old, hold⟩ := hold
    obtain ⟨h2, h3⟩ := (SetAt.agg (v := v) (T' := f.type) hu hlay hf hold (.nil (c := old))).sound hvc (by simpa using hsz) hc (by simpa using hlen)
    rw [Nat.add_zero] at h2 h3
    obtain ⟨c', h4, h5⟩ := ih (splice cells.toList f.offset (a.eval x).cells.toList).toArray (by simpa using h3)
    refine ⟨c', ?_, h5⟩
    simp only [List.map_cons]
    unfold Instr.fill
    have hpl : ((fs.toList.map fun f => (f.offset, P.cellsOf f.type)).toArray)[i]? = some (f.offset, P.cellsOf f.type) := by simp [hf]
    simp only [hpl]
    rw [if_neg (by simp [hsz]; omega), fold_splice f.offset _ _ (by omega)]
    exact h4

theorem op_build {d : Nat} {fs : Array Field} {parts : Array (Nat × Operand)} {vs out : List AV} (ho : o.op = .build T parts) (hd : o.dst = some d) (hn : d < n) (hu : P.underlying T = some (.struct fs)) (hlay : layB P T fs = true) (hof : okFields P fs = true)
    (hz : ZeroA P T (.agg T vs)) (hb : BldL P σ fs parts.toList vs out) : OpOK P n o σ (σ.put d (.agg T out)) :=
  opOK_val hd hn fun ok0 w0 a w β r => by
    obtain ⟨i, zv, hinf, hzv, hzs, hzrd⟩ := hz.ex
    have hra : RA P (okOf ok0 w0 w σ.hs β) w β (.agg T vs) zv.cells.toList := hzrd _ _ _
    obtain ⟨c', h4, h5⟩ := hb.sound hu hlay r zv.cells hra
    have hbuilt : P.built T (parts.map fun (p : Nat × Operand) => (p.1, a.eval p.2)).toList = some c' := by
      unfold Program.built
      simp only [hinf, hu, hzv, okFields_places fs.toList hof]
      rw [Array.toList_map]
      exact h4
    have hrun := run_build (P := P) w T _ c' hbuilt
    refine ⟨.agg c', ?_, ⟨fun _ => ⟨c'.toList, by simp, h5⟩, fun hi => by simp [AV.isAgg, aggT_struct hu] at hi⟩⟩
    simp only [execOp, ho, Sem.run_bind, hrun, Result.andThen_ok, Sem.run_pure]

/-- A struct's field, out of a value. -/
theorem op_field {d i : Nat} {S : TypeId} {fs : Array Field} {f : Field} {e : Dt} {D : TypeDesc} (ho : o.op = .field S x i) (hd : o.dst = some d) (hn : d < n) (hu : P.underlying S = some (.struct fs)) (hf : fs[i]? = some f) (huf : P.underlying f.type = some D)
    (h1 : aggT P f.type = false → P.cellsOf f.type = 1) (hb : f.offset + P.cellsOf f.type ≤ P.cellsOf S) (hx : Ev P σ x (.dat S e)) : OpOK P n o σ (σ.put d (.dat f.type (e.fld i))) :=
  opOK_val hd hn fun ok0 w0 a w β r => by
    obtain ⟨cs, ex, hrd⟩ := (RV.dat_agg (aggT_struct hu)).1 (hx _ _ _ _ _ _ r)
    obtain ⟨_, hlen, _, hfld⟩ := hrd.agg_inv hu
    have hfr := hfld i f hf
    cases hT : aggT P f.type with
    | true =>
      have hag : (isAgg f.type).run P w = .ok true w := by
        unfold isAgg
        rw [Sem.run_bind, run_underlying huf w]
        unfold aggT at hT
        rw [huf] at hT
        cases D <;> simp_all
      have hinf : ∃ i, P.info? f.type = some i := by
        unfold Program.underlying at huf
        cases hi : P.info? f.type with
        | none => simp [hi] at huf
        | some i => exact ⟨i, rfl⟩
      obtain ⟨inf, hinf⟩ := hinf
      refine ⟨.agg ((cs.drop f.offset).take (P.cellsOf f.type)).toArray, ?_, (RV.dat_agg hT).2 ⟨_, rfl, hfr⟩⟩
      have hs : (sizeOf f.type).run P w = .ok (P.cellsOf f.type) w := by simp [sizeOf, typeInfo, hinf, Program.cellsOf]
      have hext : cs.toArray.extract f.offset (f.offset + P.cellsOf f.type) = ((cs.drop f.offset).take (P.cellsOf f.type)).toArray := by
        apply Array.ext'
        simp
      simp only [execOp, ho, ex, Instr.field, Sem.run_bind, run_underlying hu, Result.andThen_ok, hf, asAgg, Sem.run_pure, part, hag, hs, if_true, hext]
    | false =>
      have hag : (isAgg f.type).run P w = .ok false w := by
        unfold isAgg
        rw [Sem.run_bind, run_underlying huf w]
        unfold aggT at hT
        rw [huf] at hT
        cases D <;> simp_all
      have h1' := h1 hT
      have hlt : f.offset < cs.length := by omega
      have hone : (cs.drop f.offset).take (P.cellsOf f.type) = [cs[f.offset]] := by
        rw [h1', List.drop_eq_getElem_cons hlt]; rfl
      rw [hone] at hfr
      refine ⟨cs[f.offset], ?_, (RV.dat_one hT).2 hfr⟩
      simp [execOp, ho, ex, Instr.field, run_underlying hu, hf, asAgg, part, hag, hlt]

theorem run_isAgg {D : TypeDesc} (w : World) (hu : P.underlying T = some D) : (isAgg T).run P w = .ok (aggT P T) w := by
  unfold isAgg aggT
  rw [Sem.run_bind, run_underlying hu w, hu]
  cases D <;> simp
/-- An array's element. -/
theorem op_indexArr {d len : Nat} {E TI : TypeId} {k : IntKind} {i : Int} {e q : Dt} {D : TypeDesc} (ho : o.op = .index T x y) (hd : o.dst = some d) (hn : d < n) (hu : P.underlying T = some (.array len E)) (huE : P.underlying E = some D)
    (h1 : aggT P E = false → P.cellsOf E = 1) (hT : P.cellsOf T = len * P.cellsOf E) (hi : P.underlying TI = some (.int k)) (hx : Ev P σ x (.dat T e)) (hy : Ev P σ y (.dat TI (.int i))) (h0 : 0 ≤ i) (hq : e.toLst[i.toNat]? = some q) : OpOK P n o σ (σ.put d (.dat E q)) :=
  opOK_val hd hn fun ok0 w0 a w β r => by
    obtain ⟨cs, ex, hrd⟩ := (RV.dat_agg (aggT_array hu)).1 (hx _ _ _ _ _ _ r)
    obtain ⟨_, hl, hlen, _, hel⟩ := hrd.arr_inv hu
    obtain ⟨_, ey, _⟩ := RV.int hi (hy _ _ _ _ _ _ r)
    simp only [Dt.toInt] at ey
    have hfr := hel i.toNat q hq
    have hlt : i.toNat < len := by rw [← hl]; exact (List.getElem?_eq_some_iff.1 hq).1
    have hb : 0 ≤ i ∧ i < (len : Int) := ⟨h0, by omega⟩
    obtain ⟨inf, hinf⟩ : ∃ i, P.info? E = some i := by
      unfold Program.underlying at huE
      cases hi : P.info? E with
      | none => simp [hi] at huE
      | some i => exact ⟨i, rfl⟩
    have hs : (sizeOf E).run P w = .ok (P.cellsOf E) w := by simp [sizeOf, typeInfo, hinf, Program.cellsOf]
    have hmul : (i.toNat + 1) * P.cellsOf E ≤ len * P.cellsOf E := Nat.mul_le_mul_right _ hlt
    rw [Nat.add_mul, Nat.one_mul] at hmul
    cases hTE : aggT P E with
    | true =>
      have hag : (isAgg E).run P w = .ok true w := by
        rw [run_isAgg w huE, hTE]
      refine ⟨.agg ((cs.drop (i.toNat * P.cellsOf E)).take (P.cellsOf E)).toArray, ?_, (RV.dat_agg hTE).2 ⟨_, rfl, hfr⟩⟩
      have hext : cs.toArray.extract (i.toNat * P.cellsOf E) (i.toNat * P.cellsOf E + P.cellsOf E) = ((cs.drop (i.toNat * P.cellsOf E)).take (P.cellsOf E)).toArray := by
        apply Array.ext'
        simp
      simp only [execOp, ho, ex, ey, Instr.index, asIntOf, Sem.run_bind, Sem.run_pure, run_underlying hu, Result.andThen_ok, if_pos hb, hs, part, hag, if_true, hext]
    | false =>
      have hag : (isAgg E).run P w = .ok false w := by
        rw [run_isAgg w huE, hTE]
      have h1' := h1 hTE
      obtain ⟨off, hoff⟩ : ∃ off, i.toNat * P.cellsOf E = off := ⟨_, rfl⟩
      rw [hoff, h1'] at hfr
      have hlt2 : off < cs.length := by omega
      have hone : (cs.drop off).take 1 = [cs[off]] := by
        rw [List.drop_eq_getElem_cons hlt2]; rfl
      rw [hone] at hfr
      refine ⟨cs[off], ?_, (RV.dat_one hTE).2 hfr⟩
      have hget : cs[off]? = some cs[off] := List.getElem?_eq_getElem hlt2
      simp [execOp, ho, ex, ey, Instr.index, asIntOf, run_underlying hu, hb, hs, part, hag, hoff, hget]

/-- A cut's bounds. -/
def EvLo (P : Program) (σ : St) : Option Operand → Int → Prop
  | none, i => i = 0
  | some x, i => ∃ TI k, P.underlying TI = some (.int k) ∧ Ev P σ x (.dat TI (.int i))
def EvHi (P : Program) (σ : St) (m : Nat) : Option Operand → Int → Prop
  | none, i => i = m
  | some x, i => ∃ TI k, P.underlying TI = some (.int k) ∧ Ev P σ x (.dat TI (.int i))

theorem run_sliceBound (w : World) {k : IntKind} {i : Int} {m : Nat} (c : BoundsCode) (h0 : 0 ≤ i) (h : i ≤ m) : (Instr.sliceBound (.int k i) m c).run P w = .ok i.toNat w := by
  simp only [Instr.sliceBound, asIntOf, Sem.run_bind, Sem.run_pure, Result.andThen_ok]
  rw [if_pos ⟨h0, h⟩]
  rfl
theorem run_bounds {ok0 : OkX} {w0 w : World} {a : Act} {β : Nat → Option Value} (r : RelB P ok0 w0 n σ a w β) {lo hi : Option Operand} {i j : Int} {len cap : Nat} (s : Bool) (hlo : EvLo P σ lo i) (hhi : EvHi P σ len hi j) (h0 : 0 ≤ i) (hij : i ≤ j) (hj : j ≤ len) (hc : len ≤ cap) :
    (Instr.sliceBounds s len cap (lo.map a.eval) (hi.map a.eval) none).run P w = .ok (i.toNat, j.toNat, cap) w := by
  cases hi with
  | none =>
    have e : j = len := hhi
    subst e
    cases lo with
    | none => have e : i = 0 := hlo; subst e; simp [Instr.sliceBounds]
    | some x =>
      obtain ⟨TI, k, hu, hx⟩ := hlo
      obtain ⟨_, e, _⟩ := RV.int hu (hx _ _ _ _ _ _ r)
      simp only [Dt.toInt] at e
      simp [Instr.sliceBounds, e, run_sliceBound w _ h0 hij]
  | some y =>
    obtain ⟨TJ, k', hu', hy⟩ := hhi
    obtain ⟨_, e', _⟩ := RV.int hu' (hy _ _ _ _ _ _ r)
    simp only [Dt.toInt] at e'
    have hjc : j ≤ (cap : Int) := by omega
    have hj0 : 0 ≤ j := by omega
    cases lo with
    | none => have e : i = 0 := hlo; subst e; simp [Instr.sliceBounds, e', run_sliceBound w _ hj0 hjc]
    | some x =>
      obtain ⟨TI, k, hu, hx⟩ := hlo
      obtain ⟨_, e, _⟩ := RV.int hu (hx _ _ _ _ _ _ r)
      simp only [Dt.toInt] at e
      have hij' : i ≤ (j.toNat : Int) := by omega
      simp [Instr.sliceBounds, e, e', run_sliceBound w _ hj0 hjc, run_sliceBound w _ h0 hij']

theorem op_slice_str {d : Nat} {T3 : TypeId} {lo hi : Option Operand} {i j : Int} {p : ByteArray} (ho : o.op = .slice T x lo hi none) (hd : o.dst = some d) (hn : d < n) (hu : P.underlying T = some .string) (hu3 : P.underlying T3 = some .string) (hx : Ev P σ x (.dat T3 (.str p)))
    (hlo : EvLo P σ lo i) (hhi : EvHi P σ p.size hi j) (h0 : 0 ≤ i) (hij : i ≤ j) (hj : j ≤ p.size) : OpOK P n o σ (σ.put d (.dat T3 (.str (p.extract i.toNat j.toNat)))) :=
  opOK_val hd hn fun ok0 w0 a w β r => by
    obtain ⟨_, e1, b1⟩ := RV.str hu3 (hx _ _ _ _ _ _ r)
    simp only [Dt.toStr] at e1 b1
    have hb := run_bounds (cap := p.size) r false hlo hhi h0 hij hj (Nat.le_refl _)
    refine ⟨.string (p.extract i.toNat j.toNat), ?_, RV.mk_str hu3 (by rw [ByteArray.size_extract]; omega)⟩
    simp [execOp, ho, e1, Instr.sliceAt, Instr.slice, run_underlying hu, hb]

theorem op_slice_lst {d : Nat} {T3 E : TypeId} {lo hi : Option Operand} {i j : Int} {es : List Dt} (ho : o.op = .slice T x lo hi none) (hd : o.dst = some d) (hn : d < n) (hu : P.underlying T = some (.slice E)) (hu3 : P.underlying T3 = some (.slice E)) (h0c : P.cellsOf E ≠ 0)
    (hx : Ev P σ x (.dat T3 (.lst es))) (hlo : EvLo P σ lo i) (hhi : EvHi P σ es.length hi j) (h0 : 0 ≤ i) (hij : i ≤ j) (hj : j ≤ es.length) : OpOK P n o σ (σ.put d (.dat T3 (.lst ((es.drop i.toNat).take (j.toNat - i.toNat))))) :=
  opOK_val hd hn fun ok0 w0 a w β r => by
    have hrd := (RV.dat_one (aggT_of_not hu3 rfl)).1 (hx _ _ _ _ _ _ r)
    obtain ⟨_, ao, cap, ad, g, hcs, hlc, hm, ha, hg, hr⟩ := hrd.lst_inv hu3
    simp only [Dt.toLst] at hcs hlc ha hg hr
    have ex : a.eval x = .slice ao es.length cap := by simpa using hcs
    have hb := run_bounds (cap := cap) r true hlo hhi h0 hij hj hlc
    cases hinf : P.info? E with
    | none => simp [Program.cellsOf, hinf] at h0c
    | some inf =>
      have hs : inf.size = P.cellsOf E := by simp [Program.cellsOf, hinf]
      refine ⟨.slice (if cap = i.toNat then ao else ao.map (·.add (i.toNat * P.cellsOf E))) (j.toNat - i.toNat) (cap - i.toNat), ?_, (RV.dat_one (aggT_of_not hu3 rfl)).2 ?_⟩
      · simp [execOp, ho, ex, Instr.sliceAt, Instr.slice, run_underlying hu, hb, sizeOf, typeInfo, hinf, hs]
      · refine .lst (ad.add (i.toNat * P.cellsOf E)) (fun k => g (i.toNat + k)) hu3 ?_ (by omega) (by omega) (fun hp => ?_) (fun k hk => ?_) (fun k d' hd' => ?_)
        · simp only [List.length_take, List.length_drop]; omega
        · obtain ⟨h1, h2⟩ := ha (by omega)
          rw [if_neg (by omega), h1, block_add]
          exact ⟨rfl, h2⟩
        · obtain ⟨h1, h2, h3⟩ := hg (i.toNat + k) (by omega)
          refine ⟨h1, h2, fun q u hq => ?_⟩
          rw [add_add]
          have := h3 q u hq
          rw [Nat.add_mul] at this
          rw [← Nat.add_assoc]
          exact this
        · rw [List.getElem?_take] at hd'
          split at hd'
          · rw [List.getElem?_drop] at hd'
            exact hr _ _ hd'
          · cases hd'
end
end Go.Am
