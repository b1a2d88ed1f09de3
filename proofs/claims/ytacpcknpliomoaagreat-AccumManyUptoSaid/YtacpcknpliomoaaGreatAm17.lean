/- The abstract machine, part 17: regions. -/
import Derived.Test.YtacpcknpliomoaaGreatAm16
set_option linter.unusedVariables false
set_option linter.unusedSimpArgs false
namespace Go.Am
open Go.RowKit

structure StEq (σ σ' : St) : Prop where
  ts : ∀ t, tk σ'.ts t = tk σ.ts t
  hs : ∀ l, lk σ'.hs l = lk σ.hs l
  k0 : σ'.k0 = σ.k0
structure AgrG (ops : List Oper) (o : Oper) (σ σ' : St) (rd : List Nat) : Prop where
  ts : ∀ t ∈ Oper.reads ops o, tk σ'.ts t = tk σ.ts t
  hs : ∀ l ∈ rd, lk σ'.hs l = lk σ.hs l
  k0 : σ'.k0 = σ.k0
def StepAgr (P : Program) (n : Nat) (ops : List Oper) (o : Oper) (σ : St) (δ : Dl) : Prop := ∀ σ', AgrG ops o σ σ' δ.rd → StepOK P n ops.toArray o σ' (σ'.app o.dst δ)
/-- A run over the operations in the order of the text, each with what it changes. -/
inductive Tr (P : Program) (n : Nat) (ops : List Oper) : List Oper → St → List (Oper × Dl) → St → Prop where
  | nil {σ : St} : Tr P n ops [] σ [] σ
  | cons {o : Oper} {r : List Oper} {σ τ : St} {δ : Dl} {ds : List (Oper × Dl)} (h : StepAgr P n ops o σ δ) (t : Tr P n ops r (σ.app o.dst δ) ds τ) : Tr P n ops (o :: r) σ ((o, δ) :: ds) τ
  | eq {r : List Oper} {σ σ1 τ : St} {ds : List (Oper × Dl)} (h : StEq σ σ1) (t : Tr P n ops r σ1 ds τ) : Tr P n ops r σ ds τ

theorem bset_some {A : Type} {b : Bool} {x y : Option A} {r : A} (h : (bif b then x else y) = some r) : (b = true ∧ x = some r) ∨ (b = false ∧ y = some r) := by
  cases b with
  | true => exact .inl ⟨rfl, h⟩
  | false => exact .inr ⟨rfl, h⟩
section
variable {P : Program} {n : Nat} {o : Oper} {σ τ : St} {R : Type} {E : Env} {call : FuncId → List AV → List Ob → (Res → Option R) → Option R} {r : R} {ops : List Oper}

theorem StEq.put {T : TypeId} {b : Bool} {d : Nat} (h : tk σ.ts d = .dat T (.bool b)) : StEq σ (σ.put d (.dat T (.bool b))) :=
  ⟨fun t => by
    show tk (setT σ.ts d _) t = _
    rw [tk_set]
    split
    · rename_i e; rw [e, h]
    · rfl, fun _ => rfl, rfl⟩
theorem StEq.imp (h : StEq σ τ) : Imp P n σ τ := Rel.congr (fun t => .inr (h.ts t)) h.hs h.k0
theorem gval_some {v : AV} {T : TypeId} {b : Bool} (h : gval P v = some (some (T, b))) : v = .dat T (.bool b) ∧ P.underlying T = some .bool := by
  unfold gval at h
  split at h
  · cases h
  · split at h
    · rename_i hu; cases h; exact ⟨rfl, hu⟩
    · cases h
  · cases h
theorem gval_none {v : AV} (h : gval P v = some none) : v = .tup [] := by
  unfold gval at h
  split at h
  · rfl
  · split at h <;> cases h
  · cases h
theorem gslot_some {j d : Nat} (h : gslot ops j = some d) : ∃ oj, ops.toArray[j]? = some oj ∧ oj.dst = some d := by
  unfold gslot at h
  split at h
  · rename_i oj hj; exact ⟨oj, by simpa using hj, h⟩
  · cases h
theorem reads_ops {t : Nat} (h : t ∈ tmpsOf o.op.operands.toList) : t ∈ Oper.reads ops o := by
  unfold Oper.reads
  exact List.mem_append_right _ h
theorem reads_guard {j d : Nat} {want : Bool} (hg : o.guard = some (j, want)) (h : gslot ops j = some d) : d ∈ Oper.reads ops o := by
  unfold Oper.reads
  refine List.mem_append_left _ ?_
  rw [hg]
  simp [h]
theorem AgrG.toAgr {σ' : St} {rd : List Nat} (h : AgrG ops o σ σ' rd) : Agr o σ σ' rd := ⟨fun t ht => h.ts t (reads_ops ht), h.hs, h.k0⟩
theorem skip_some {k : Dl → Option R} (h : skipD n o k = some r) : ∃ δ, k δ = some r ∧ δ.rd = [] ∧ δ.wr = [] ∧ ((∃ d, o.dst = some d ∧ d < n ∧ δ.v = some (.tup [])) ∨ (o.dst = none ∧ δ.v = none)) := by
  unfold skipD at h
  split at h
  · rename_i d hd
    obtain ⟨h1, h2⟩ := bif_some h
    exact ⟨_, h2, rfl, rfl, .inl ⟨d, hd, Nat.le_of_ble_eq_true h1, rfl⟩⟩
  · rename_i hd; exact ⟨_, h, rfl, rfl, .inr ⟨hd, rfl⟩⟩
theorem app_skip {δ : Dl} {d : Nat} {v : AV} (σ' : St) (hw : δ.wr = []) (hd : o.dst = some d) (hv : δ.v = some v) : σ'.app o.dst δ = σ'.put d v := by
  unfold St.app
  rw [hw, hd, hv]
  rfl
theorem app_none {δ : Dl} (σ' : St) (hw : δ.wr = []) (hv : δ.v = none) : σ'.app o.dst δ = σ' := by
  unfold St.app
  rw [hw, hv]
  cases o.dst <;> rfl

theorem evOps_tr (hcall : CallOK P call) : ∀ {l : List Oper} {σ : St} {tr : List (Oper × Dl)} {k : St → List (Oper × Dl) → Option R}, evOps P E call n ops l σ tr k = some r → ∃ ds τ, Tr P n ops l σ ds τ ∧ k τ (ds.reverse ++ tr) = some r
  | [], σ, tr, k, h => ⟨[], σ, .nil, by simpa [evOps] using h⟩
  | o :: l, σ, tr, k, h => by
    have fin : ∀ {σ1 : St} {δ : Dl}, StEq σ σ1 → StepAgr P n ops o σ1 δ → evOps P E call n ops l (σ1.app o.dst δ) ((o, δ) :: tr) k = some r → ∃ ds τ, Tr P n ops (o :: l) σ ds τ ∧ k τ (ds.reverse ++ tr) = some r := by
      intro σ1 δ h1 h2 h3
      obtain ⟨ds, τ, ht, hk⟩ := evOps_tr hcall h3
      exact ⟨(o, δ) :: ds, τ, .eq h1 (.cons h2 ht), by simpa using hk⟩
    have refl : StEq σ σ := ⟨fun _ => rfl, fun _ => rfl, rfl⟩
    unfold evOps at h
    split at h
    · rename_i hg
      obtain ⟨δ, hk, hs⟩ := evO_sound hcall h
      exact fin refl (fun σ' ag => .plain hg (hs σ' ag.toAgr)) hk
    · rename_i j want hg
      split at h
      · rename_i d hd
        obtain ⟨oj, hj, hdj⟩ := gslot_some hd
        have hread := reads_guard hg hd
        split at h
        · rename_i hv
          have hv' := gval_none hv
          obtain ⟨δ, hk, hr, hw, hc⟩ := skip_some h
          refine fin refl (fun σ' ag => ?_) hk
          have ht : tk σ'.ts d = .tup [] := by rw [ag.ts d hread]; exact hv'
          rcases hc with ⟨d', e1, e2, e3⟩ | ⟨e1, e3⟩
          · rw [app_skip σ' hw e1 e3]
            exact .skipU hg hj hdj ht e1 e2
          · rw [app_none σ' hw e3]
            exact .skipU' hg hj hdj ht e1
        · rename_i T b hv
          obtain ⟨hv', hu⟩ := gval_some hv
          rcases bset_some h with ⟨hb, h1⟩ | ⟨hb, h1⟩
          · subst hb
            have heq : StEq σ (σ.put d (.dat T (.bool true))) := StEq.put hv'
            rcases bset_some h1 with ⟨hw1, h2⟩ | ⟨hw1, h2⟩
            · subst hw1
              obtain ⟨δ, hk, hs⟩ := evO_sound hcall h2
              exact fin heq (fun σ' ag => .run hg hj hdj hu (by rw [ag.ts d hread]; show tk (setT _ _ _) d = _; rw [tk_set]; simp) rfl (hs σ' ag.toAgr)) hk
            · subst hw1
              obtain ⟨δ, hk, hr, hw, hc⟩ := skip_some h2
              refine fin heq (fun σ' ag => ?_) hk
              have ht : tk σ'.ts d = .dat T (.bool true) := by rw [ag.ts d hread]; show tk (setT _ _ _) d = _; rw [tk_set]; simp
              rcases hc with ⟨d', e1, e2, e3⟩ | ⟨e1, e3⟩
              · rw [app_skip σ' hw e1 e3]
                exact .skip hg hj hdj hu ht rfl e1 e2
              · rw [app_none σ' hw e3]
                exact .skip' hg hj hdj hu ht rfl e1
          · subst hb
            have heq : StEq σ (σ.put d (.dat T (.bool false))) := StEq.put hv'
            rcases bset_some h1 with ⟨hw1, h2⟩ | ⟨hw1, h2⟩
            · subst hw1
              obtain ⟨δ, hk, hr, hw, hc⟩ := skip_some h2
              refine fin heq (fun σ' ag => ?_) hk
              have ht : tk σ'.ts d = .dat T (.bool false) := by rw [ag.ts d hread]; show tk (setT _ _ _) d = _; rw [tk_set]; simp
              rcases hc with ⟨d', e1, e2, e3⟩ | ⟨e1, e3⟩
              · rw [app_skip σ' hw e1 e3]
                exact .skip hg hj hdj hu ht rfl e1 e2
              · rw [app_none σ' hw e3]
                exact .skip' hg hj hdj hu ht rfl e1
            · subst hw1
              obtain ⟨δ, hk, hs⟩ := evO_sound hcall h2
              exact fin heq (fun σ' ag => .run hg hj hdj hu (by rw [ag.ts d hread]; show tk (setT _ _ _) d = _; rw [tk_set]; simp) rfl (hs σ' ag.toAgr)) hk
        · cases h
      · cases h

theorem Tr.lw {l : List Oper} {ds : List (Oper × Dl)} (h : Tr P n ops l σ ds τ) : LW P n ops.toArray l σ (fun s => s = τ) := by
  induction h with
  | nil => exact LW.nil rfl
  | cons h _ ih => exact LW.cons (h _ ⟨fun _ _ => rfl, fun _ _ => rfl, rfl⟩) ih
  | eq h _ ih => exact fun ok0 w0 a w r Q hQ => ih ok0 w0 a w (h.imp ok0 w0 a w r) Q hQ

/-- Writes, one after the other, of those that are done. -/
def foldU {A B : Type} (u : B → A → A) (L : Nat → Bool) : Nat → List B → A → A
  | _, [], c => c
  | i, x :: r, c => foldU u L (i + 1) r (bif L i then u x c else c)
theorem foldU_congr {A B : Type} {u : B → A → A} {L L' : Nat → Bool} : ∀ {r : List B} {i : Nat} {c : A}, (∀ j x, r[j]? = some x → L (i + j) = L' (i + j) ∨ ∀ c, u x c = c) → foldU u L i r c = foldU u L' i r c
  | [], _, _, _ => rfl
  | x :: r, i, c, h => by
    simp only [foldU]
    have h0 := h 0 x rfl
    have hr : ∀ c, foldU u L (i + 1) r c = foldU u L' (i + 1) r c := fun c => foldU_congr fun j y hy => by
      have := h (j + 1) y (by simpa using hy)
      rwa [show i + 1 + j = i + (j + 1) by omega]
    rcases h0 with e | e
    · rw [Nat.add_zero] at e; rw [e]; exact hr _
    · rw [e]
      cases L i <;> cases L' i <;> exact hr _
theorem foldU_id {A B : Type} {u : B → A → A} {L : Nat → Bool} : ∀ {r : List B} {i : Nat} {c : A}, (∀ j x, r[j]? = some x → L (i + j) = true → ∀ c, u x c = c) → foldU u L i r c = c
  | [], _, _, _ => rfl
  | x :: r, i, c, h => by
    simp only [foldU]
    have h0 := h 0 x rfl
    rw [Nat.add_zero] at h0
    have : (bif L i then u x c else c) = c := by
      cases hL : L i with
      | true => exact h0 hL c
      | false => rfl
    rw [this]
    exact foldU_id fun j y hy hL => h (j + 1) y (by simpa using hy) (by rwa [show i + (j + 1) = i + 1 + j by omega])
theorem upL_other {L : Nat → Bool} {i j : Nat} (h : j ≠ i) : upL L i j = L j := by
  unfold upL
  cases hb : Nat.beq j i with
  | true => exact absurd (beq_eq hb) h
  | false => rfl
theorem upL_same {L : Nat → Bool} {i : Nat} : upL L i i = true := by simp [upL]
theorem foldU_up {A B : Type} {u : B → A → A} {L : Nat → Bool} : ∀ {r : List B} {k j : Nat} {x : B} {c : A}, r[j]? = some x → L (k + j) = false → ((∀ c, u x c = c) ∨ ∀ j' y, j < j' → r[j']? = some y → L (k + j') = true → ∀ c, u y c = c) → foldU u (upL L (k + j)) k r c = u x (foldU u L k r c)
  | [], _, _, _, _, h, _, _ => by simp at h
  | y :: r, k, 0, x, c, h, hL, hh => by
    simp only [List.getElem?_cons_zero, Option.some.injEq] at h
    subst h
    simp only [Nat.add_zero] at hL ⊢
    simp only [foldU, upL_same, cond_true, hL, cond_false]
    have e1 : foldU u (upL L k) (k + 1) r (u y c) = foldU u L (k + 1) r (u y c) := foldU_congr fun j z hz => .inl (upL_other (by omega))
    rw [e1]
    rcases hh with hh | hh
    · rw [hh, hh]
    · rw [foldU_id, foldU_id]
      · intro j z hz hLz
        exact hh (j + 1) z (by omega) (by simpa using hz) (by rwa [show k + (j + 1) = k + 1 + j by omega])
      · intro j z hz hLz
        exact hh (j + 1) z (by omega) (by simpa using hz) (by rwa [show k + (j + 1) = k + 1 + j by omega])
  | y :: r, k, j + 1, x, c, h, hL, hh => by
    simp only [List.getElem?_cons_succ] at h
    simp only [foldU]
    rw [upL_other (by omega), show k + (j + 1) = k + 1 + j by omega]
    exact foldU_up h (by rwa [show k + (j + 1) = k + 1 + j by omega] at hL) (hh.imp id fun hh j' z hj hz hLz => hh (j' + 1) z (by omega) (by simpa using hz) (by rwa [show k + (j' + 1) = k + 1 + j' by omega]))

def uT (t : Nat) (p : Oper × Dl) (c : AV) : AV := match p.1.dst, p.2.v with
  | some d, some v => if t = d then v else c
  | _, _ => c
def uWl (l : Nat) : List (Nat × Ob) → Ob → Ob
  | [], c => c
  | (k, ob) :: r, c => uWl l r (if l = k then ob else c)
def uH (l : Nat) (p : Oper × Dl) (c : Ob) : Ob := uWl l p.2.wr c
def SL (L : Nat → Bool) : Nat → List (Oper × Dl) → St → St
  | _, [], σ => σ
  | i, p :: r, σ => SL L (i + 1) r (bif L i then σ.app p.1.dst p.2 else σ)
theorem tk_app (t : Nat) (p : Oper × Dl) (σ : St) : tk (σ.app p.1.dst p.2).ts t = uT t p (tk σ.ts t) := by
  unfold St.app uT putD
  simp only
  split
  · rename_i d v h1 h2
    simp only [h1, h2]
    rw [tk_set]
  · rename_i h1
    split
    · rename_i d v h2 h3; exact absurd h3 (h1 d v h2)
    · rfl
theorem lk_wr (l : Nat) : ∀ (ws : List (Nat × Ob)) (hs : List Ob), lk (wrO hs ws) l = uWl l ws (lk hs l)
  | [], _ => rfl
  | (k, ob) :: r, hs => by
    simp only [wrO, uWl]
    rw [lk_wr l r, lk_set]
theorem lk_app (l : Nat) (p : Oper × Dl) (σ : St) : lk (σ.app p.1.dst p.2).hs l = uH l p (lk σ.hs l) := lk_wr l _ _
theorem tk_SL (t : Nat) (L : Nat → Bool) : ∀ (r : List (Oper × Dl)) (i : Nat) (σ : St), tk (SL L i r σ).ts t = foldU (uT t) L i r (tk σ.ts t)
  | [], _, _ => rfl
  | p :: r, i, σ => by
    simp only [SL, foldU]
    rw [tk_SL t L r]
    cases L i with
    | true => simp only [cond_true]; rw [tk_app]
    | false => rfl
theorem lk_SL (l : Nat) (L : Nat → Bool) : ∀ (r : List (Oper × Dl)) (i : Nat) (σ : St), lk (SL L i r σ).hs l = foldU (uH l) L i r (lk σ.hs l)
  | [], _, _ => rfl
  | p :: r, i, σ => by
    simp only [SL, foldU]
    rw [lk_SL l L r]
    cases L i with
    | true => simp only [cond_true]; rw [lk_app]
    | false => rfl
theorem k0_SL (L : Nat → Bool) : ∀ (r : List (Oper × Dl)) (i : Nat) (σ : St), (SL L i r σ).k0 = σ.k0
  | [], _, _ => rfl
  | p :: r, i, σ => by
    simp only [SL]
    rw [k0_SL L r]
    cases L i <;> rfl
theorem uT_id {t : Nat} {p : Oper × Dl} (h : t ∉ p.1.dst.toList) (c : AV) : uT t p c = c := by
  unfold uT
  split
  · rename_i d v h1 h2
    rw [if_neg]
    intro e; subst e
    rw [h1] at h
    simp at h
  · rfl
theorem uWl_id {l : Nat} : ∀ {ws : List (Nat × Ob)}, l ∉ ws.map (·.1) → ∀ c, uWl l ws c = c
  | [], _, _ => rfl
  | (k, ob) :: r, h, c => by
    simp only [List.map_cons, List.mem_cons, not_or] at h
    simp only [uWl]
    rw [if_neg h.1]
    exact uWl_id h.2 c
theorem disj_not {a b : List Nat} (h : disj a b = true) {x : Nat} (hx : x ∈ a) : x ∉ b := by
  unfold disj at h
  have := List.all_eq_true.1 h x hx
  exact memB_not (by simpa using this)

/-- Of each two operations the one comes always first, or they do not meet. -/
def PairOK (ops : List Oper) (all : List (Oper × Dl)) : Prop := ∀ i j p q, i < j → all[i]? = some p → all[j]? = some q → (∀ L : Nat → Bool, Closed ops.toArray L → DepsL L q.1.after.toList → L i = true) ∨ indep ops p q = true
def AncOK (ops : List Oper) (ancs : List Nat) : Prop := ∀ (j m : Nat), ancs[j]? = some m → ∃ oj : Oper, ops[j]? = some oj ∧ ∀ i : Nat, m.testBit i = true → ∀ L : Nat → Bool, Closed ops.toArray L → DepsL L oj.after.toList → L i = true
theorem ancOf_sound {ancs : List Nat} (ha : AncOK ops ancs) : ∀ {es : List Edge} {i : Nat}, (ancOf ancs es).testBit i = true → ∀ L : Nat → Bool, Closed ops.toArray L → DepsL L es → L i = true
  | [], i, h, L, _, _ => by simp [ancOf] at h
  | e :: r, i, h, L, hc, hd => by
    unfold ancOf at h
    cases hb : Region.binds .any e with
    | false =>
      rw [hb] at h
      exact ancOf_sound ha (by simpa using h) L hc hd.2
    | true =>
      rw [hb] at h
      have hLe := hd.1 hb
      have h' : Nat.testBit ((2 ^ e.on ||| ancs.getD e.on 0) ||| ancOf ancs r) i = true := h
      rw [Nat.testBit_or, Nat.testBit_or, Bool.or_eq_true, Bool.or_eq_true] at h'
      rcases h' with (h1 | h1) | h1
      · rw [Nat.testBit_two_pow] at h1
        have : e.on = i := by simpa using h1
        subst this
        exact hLe
      · cases hg : ancs[e.on]? with
        | none => simp [List.getD, hg] at h1
        | some m =>
          obtain ⟨oj, h2, h3⟩ := ha e.on m hg
          have h4 : m.testBit i = true := by simpa [List.getD, hg] using h1
          exact h3 i h4 L hc (hc e.on oj (by simpa using h2) hLe)
      · exact ancOf_sound ha h1 L hc hd.2
theorem chkGo_get {q : Oper × Dl} {m : Nat} : ∀ {pre : List (Oper × Dl)} {k : Nat}, chkGo ops q m k pre = true → ∀ i p, pre[i]? = some p → m.testBit (k + i) = true ∨ indep ops p q = true
  | [], _, _, i, p, h => by simp at h
  | x :: r, k, h, 0, p, hp => by
    simp only [List.getElem?_cons_zero, Option.some.injEq] at hp
    subst hp
    simp only [chkGo] at h
    have := and_l h
    rw [Bool.or_eq_true] at this
    exact this
  | x :: r, k, h, i + 1, p, hp => by
    simp only [List.getElem?_cons_succ] at hp
    simp only [chkGo] at h
    have := chkGo_get (and_r h) i p hp
    rwa [show k + 1 + i = k + (i + 1) by omega] at this
theorem drawGo_pairs : ∀ {rest pre : List (Oper × Dl)} {ancs : List Nat}, drawGo ops pre ancs rest = true → AncOK ops ancs → ancs.length = pre.length → (pre ++ rest).map (·.1) = ops → ∀ i j p q, i < j → pre.length ≤ j → (pre ++ rest)[i]? = some p → (pre ++ rest)[j]? = some q → (∀ L : Nat → Bool, Closed ops.toArray L → DepsL L q.1.after.toList → L i = true) ∨ indep ops p q = true
  | [], pre, ancs, _, _, _, _, i, j, p, q, _, hj, _, hq => by
    rw [List.append_nil] at hq
    rw [List.getElem?_eq_none hj] at hq
    cases hq
  | x :: rest, pre, ancs, h, ha, hl, hm, i, j, p, q, hij, hj, hp, hq => by
    simp only [drawGo] at h
    by_cases hje : j = pre.length
    · subst hje
      rw [List.getElem?_append_right (Nat.le_refl _), Nat.sub_self] at hq
      simp only [List.getElem?_cons_zero, Option.some.injEq] at hq
      subst hq
      rw [List.getElem?_append_left hij] at hp
      rcases chkGo_get (and_l h) i p hp with h1 | h1
      · rw [Nat.zero_add] at h1
        exact .inl fun L hc hd => ancOf_sound ha h1 L hc hd
      · exact .inr h1
    · have hx : ops[pre.length]? = some x.1 := by
        rw [← hm, List.getElem?_map, List.getElem?_append_right (Nat.le_refl _), Nat.sub_self]
        rfl
      have ha' : AncOK ops (ancs ++ [ancOf ancs x.1.after.toList]) := by
        intro k m hk
        by_cases hkl : k < ancs.length
        · rw [List.getElem?_append_left hkl] at hk
          exact ha k m hk
        · rw [List.getElem?_append_right (by omega)] at hk
          have hk0 : k = pre.length := by
            have := (List.getElem?_eq_some_iff.1 hk).1
            simp at this
            omega
          subst hk0
          rw [show pre.length - ancs.length = 0 by omega] at hk
          simp only [List.getElem?_cons_zero, Option.some.injEq] at hk
          subst hk
          exact ⟨x.1, hx, fun i hi L hc hd => ancOf_sound ha hi L hc hd⟩
      have e : pre ++ x :: rest = (pre ++ [x]) ++ rest := by simp
      rw [e] at hp hq hm
      exact drawGo_pairs (and_r h) ha' (by simp [hl]) hm i j p q hij (by simp; omega) hp hq

theorem Tr.len {l : List Oper} {ds : List (Oper × Dl)} (h : Tr P n ops l σ ds τ) : ds.map (·.1) = l := by
  induction h with
  | nil => rfl
  | cons _ _ ih => simp [ih]
  | eq _ _ ih => exact ih
theorem Tr.fin {l : List Oper} {ds : List (Oper × Dl)} (h : Tr P n ops l σ ds τ) (L : Nat → Bool) : ∀ k, (∀ j, j < ds.length → L (k + j) = true) → ∀ σ0, StEq σ0 σ → StEq (SL L k ds σ0) τ := by
  induction h with
  | nil => intro k _ σ0 h0; exact h0
  | @cons o r σ τ δ ds _ _ ih =>
    intro k hL σ0 h0
    simp only [SL]
    have := hL 0 (by simp)
    rw [Nat.add_zero] at this
    rw [this, cond_true]
    refine ih (k + 1) (fun j hj => by have := hL (j + 1) (by simp; omega); rwa [show k + 1 + j = k + (j + 1) by omega]) _ ?_
    exact ⟨fun t => by rw [tk_app t (o, δ), tk_app t (o, δ), h0.ts], fun l => by rw [lk_app l (o, δ), lk_app l (o, δ), h0.hs], h0.k0⟩
  | eq h _ ih =>
    intro k hL σ0 h0
    exact ih k hL σ0 ⟨fun t => (h.ts t).trans (h0.ts t), fun l => (h.hs l).trans (h0.hs l), h.k0.trans h0.k0⟩
/-- Each operation's step, at the state that the operations before it in the text have made. -/
theorem Tr.step {l : List Oper} {ds : List (Oper × Dl)} (h : Tr P n ops l σ ds τ) : ∀ (k j : Nat) (p : Oper × Dl) (σ0 : St), StEq σ0 σ → ds[j]? = some p → ∃ σ1, StepAgr P n ops p.1 σ1 p.2 ∧ StEq (SL (fun i => decide (i < k + j)) k ds σ0) σ1 := by
  induction h with
  | nil => intro k j p σ0 _ hp; simp at hp
  | @cons o r σ τ δ ds hs _ ih =>
    intro k j p σ0 h0 hp
    cases j with
    | zero =>
      simp only [List.getElem?_cons_zero, Option.some.injEq] at hp
      subst hp
      refine ⟨σ, hs, ?_⟩
      have hno : ∀ (r : List (Oper × Dl)) (i : Nat) (s : St), k ≤ i → SL (fun i => decide (i < k + 0)) i r s = s := by
        intro r
        induction r with
        | nil => intro i s _; rfl
        | cons p r ih => intro i s hi; simp only [SL]; rw [show decide (i < k + 0) = false by simp; omega]; exact ih (i + 1) s (by omega)
      rw [hno _ k σ0 (Nat.le_refl _)]
      exact h0
    | succ j =>
      simp only [List.getElem?_cons_succ] at hp
      simp only [SL]
      rw [show decide (k < k + (j + 1)) = true by simp, cond_true, show k + (j + 1) = k + 1 + j by omega]
      exact ih (k + 1) j p _ ⟨fun t => by rw [tk_app t (o, δ), tk_app t (o, δ), h0.ts], fun l => by rw [lk_app l (o, δ), lk_app l (o, δ), h0.hs], h0.k0⟩ hp
  | eq h _ ih =>
    intro k j p σ0 h0 hp
    exact ih k j p σ0 ⟨fun t => (h.ts t).trans (h0.ts t), fun l => (h.hs l).trans (h0.hs l), h.k0.trans h0.k0⟩ hp

theorem draw_list {ds : List (Oper × Dl)} (hm : ds.map (·.1) = ops) (S : (Nat → Bool) → St) : ∀ (l : List Oper) (k : Nat), ops.drop k = l →
    (∀ i p, k ≤ i → ds[i]? = some p → ∀ L : Nat → Bool, L i = false → DepsL L p.1.after.toList → Closed ops.toArray L → ∃ σ', StepOK P n ops.toArray p.1 (S L) σ' ∧ Imp P n σ' (S (upL L i))) → DrawL P n ops.toArray S k l
  | [], _, _, _ => .nil
  | o :: l, k, hd, h => by
    have hk : k < ops.length := by
      rcases Nat.lt_or_ge k ops.length with h1 | h1
      · exact h1
      · rw [List.drop_eq_nil_of_le h1] at hd; cases hd
    rw [List.drop_eq_getElem_cons hk] at hd
    obtain ⟨e1, e2⟩ := List.cons.inj hd
    have hkd : k < ds.length := by rw [← List.length_map (f := (·.1)), hm]; exact hk
    have hp : ds[k]? = some ds[k] := List.getElem?_eq_getElem hkd
    have ho : ds[k].1 = o := by
      rw [← e1]
      have : (ds.map (·.1))[k]? = ops[k]? := by rw [hm]
      rw [List.getElem?_map, hp, List.getElem?_eq_getElem hk] at this
      simpa using this
    refine .cons (fun L h1 h2 h3 => ?_) (draw_list hm S l (k + 1) e2 fun i p hi => h i p (by omega))
    have := h k ds[k] (Nat.le_refl _) hp L h1 (by rw [ho]; exact h2) h3
    rw [ho] at this
    exact this

theorem draw_sound (hmix : P.follows .mixedOrders = true) {id : Nat} {ds : List (Oper × Dl)} {Ψ : Exit → St → Prop} (h : Tr P n ops ops σ ds τ) (hb : backGo 0 ops = true) (hg : drawGo ops [] [] ds = true) (hp : ∀ τ', StEq τ τ' → Ψ .normal τ') : CW P n (.region id ops.toArray true) σ Ψ := by
  have hm := h.len
  have hpairs : PairOK ops ds := fun i j p q hij h1 h2 => drawGo_pairs (pre := []) hg (fun j m hj => by simp at hj) rfl (by simpa using hm) i j p q hij (Nat.zero_le _) (by simpa using h1) (by simpa using h2)
  have hlen : ds.length = ops.length := by rw [← hm]; simp
  have refl : StEq σ σ := ⟨fun _ => rfl, fun _ => rfl, rfl⟩
  refine CW.draw (fun L => SL L 0 ds σ) hmix hb ?_ ?_ ?_
  · have : ∀ (r : List (Oper × Dl)) (i : Nat) (s : St), SL (fun _ => false) i r s = s := by
      intro r
      induction r with
      | nil => intro i s; rfl
      | cons p r ih => intro i s; simp only [SL, cond_false]; exact ih (i + 1) s
    rw [this]
    exact Imp.refl
  · refine draw_list hm _ ops 0 (by simp) fun i p _ hpi L hLi hdep hcl => ?_
    obtain ⟨σ1, hstep, heq⟩ := h.step 0 i p σ refl hpi
    rw [Nat.zero_add] at heq
    -- the state agrees with the text's
    have hmem : ∀ j q, ds[j]? = some q → L j = true → DepsL L q.1.after.toList := fun j q hq hLj => by
      have : ops[j]? = some q.1 := by rw [← hm, List.getElem?_map, hq]; rfl
      exact hcl j q.1 (by simpa using this) hLj
    have hdiff : ∀ j q, ds[j]? = some q → L j ≠ decide (j < i) → (j < i ∧ indep ops q p = true) ∨ (i < j ∧ indep ops p q = true) := by
      intro j q hq hne
      rcases Nat.lt_trichotomy j i with hlt | heq2 | hgt
      · left
        refine ⟨hlt, ?_⟩
        rcases hpairs j i q p hlt hq hpi with h1 | h1
        · exfalso
          rw [h1 L hcl hdep] at hne
          simp [hlt] at hne
        · exact h1
      · subst heq2
        rw [hLi] at hne
        simp at hne
      · right
        refine ⟨hgt, ?_⟩
        have hLj : L j = true := by
          cases hL : L j with
          | true => rfl
          | false => rw [hL] at hne; simp at hne; omega
        rcases hpairs i j p q hgt hpi hq with h1 | h1
        · exfalso
          rw [h1 L hcl (hmem j q hq hLj)] at hLi
          cases hLi
        · exact h1
    have hagr : AgrG ops p.1 σ1 (SL L 0 ds σ) p.2.rd := by
      refine ⟨fun t ht => ?_, fun l hl => ?_, ?_⟩
      · rw [heq.ts t, tk_SL, tk_SL]
        refine foldU_congr fun j q hq => ?_
        rw [Nat.zero_add]
        by_cases hne : L j = decide (j < i)
        · exact .inl hne
        · right
          refine fun c => uT_id (fun htq => ?_) c
          rcases hdiff j q hq hne with ⟨_, h1⟩ | ⟨_, h1⟩
          · exact disj_not (and_l h1) htq (List.mem_append_right _ ht)
          · exact disj_not (and_l (and_r h1)) htq ht
      · rw [heq.hs l, lk_SL, lk_SL]
        refine foldU_congr fun j q hq => ?_
        rw [Nat.zero_add]
        by_cases hne : L j = decide (j < i)
        · exact .inl hne
        · right
          refine fun c => uWl_id (fun htq => ?_) c
          rcases hdiff j q hq hne with ⟨_, h1⟩ | ⟨_, h1⟩
          · exact disj_not (and_l (and_r (and_r h1))) htq (List.mem_append_left _ hl)
          · exact disj_not (and_r (and_r (and_r h1))) htq hl
      · rw [heq.k0, k0_SL, k0_SL]
    refine ⟨_, hstep _ hagr, ?_⟩
    -- what is done later does not meet it
    have hlater : ∀ j q, i < j → ds[j]? = some q → L j = true → indep ops p q = true := by
      intro j q hij hq hLj
      rcases hpairs i j p q hij hpi hq with h1 | h1
      · exfalso
        rw [h1 L hcl (hmem j q hq hLj)] at hLi
        cases hLi
      · exact h1
    refine StEq.imp ⟨fun t => ?_, fun l => ?_, ?_⟩
    · rw [tk_app t p, tk_SL, tk_SL]
      have := foldU_up (u := uT t) (L := L) (k := 0) (c := tk σ.ts t) hpi (by rw [Nat.zero_add]; exact hLi) (by
        by_cases ht : t ∈ p.1.dst.toList
        · right
          intro j q hij hq hLj c
          rw [Nat.zero_add] at hLj
          refine uT_id (fun htq => ?_) c
          exact disj_not (and_l (hlater j q hij hq hLj)) ht (List.mem_append_left _ htq)
        · exact .inl fun c => uT_id ht c)
      rwa [Nat.zero_add] at this
    · rw [lk_app l p, lk_SL, lk_SL]
      have := foldU_up (u := uH l) (L := L) (k := 0) (c := lk σ.hs l) hpi (by rw [Nat.zero_add]; exact hLi) (by
        by_cases ht : l ∈ p.2.wr.map (·.1)
        · right
          intro j q hij hq hLj c
          rw [Nat.zero_add] at hLj
          refine uWl_id (fun htq => ?_) c
          exact disj_not (and_l (and_r (and_r (hlater j q hij hq hLj)))) ht (List.mem_append_right _ htq)
        · exact .inl fun c => uWl_id ht c)
      rwa [Nat.zero_add] at this
    · rw [k0_SL, app_k0, k0_SL]
  · intro L hL
    have := h.fin L 0 (fun j hj => by rw [Nat.zero_add]; exact hL j (by omega)) σ refl
    exact hp _ ⟨fun t => (this.ts t).symm, fun l => (this.hs l).symm, this.k0.symm⟩
end
end Go.Am
