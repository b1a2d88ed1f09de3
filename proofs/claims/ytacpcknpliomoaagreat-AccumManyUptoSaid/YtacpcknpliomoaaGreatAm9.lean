/- The abstract machine, part 9: contracts of functions; calls. -/
import Derived.Test.YtacpcknpliomoaaGreatAm8
set_option linter.unusedVariables false
set_option linter.unusedSimpArgs false
namespace Go.Am
open Go.RowKit

inductive RVsX (P : Program) (ok : Nat → Prop) (w : World) (β : Nat → Option Value) : List AV → List Value → Prop where
  | nil : RVsX P ok w β [] []
  | cons {v : AV} {x : Value} {vs : List AV} {xs : List Value} (h : RV P ok w β v x) (r : RVsX P ok w β vs xs) : RVsX P ok w β (v :: vs) (x :: xs)

def XO (hs : List Ob) (β : Nat → Option Value) (b : Nat) : Prop := ∃ l, owns hs β l b

structure FinX (P : Program) (ok : Nat → Prop) (w w' : World) (β β' : Nat → Option Value) (hs hs' : List Ob) : Prop where
  below : BelowX (XO hs β) w w'
  obs : ∀ l, ObOK P (okOf ⟨ok, XO hs β, β, hs.length⟩ w w' hs' β') w' β' (lk hs' l) (β' l)
  sep : ∀ l l' b, owns hs' β' l b → owns hs' β' l' b → l = l'
  own : ∀ l b, owns hs' β' l b → w.heap.size ≤ b ∨ XO hs β b
  ext : ∀ l, l < hs.length → β' l = β l

/-- THE CONTRACT of a function: with arguments that represent 'args' and objects 'hs' it returns a value that represents 'res', and the objects are then 'hs''. -/
def FX (P : Program) (f : FuncId) (args : List AV) (hs : List Ob) (res : AV) (hs' : List Ob) : Prop :=
  ∀ (ok : Nat → Prop) (w : World) (β : Nat → Option Value) (vs : List Value),
    (∀ b, ok b → b < w.heap.size ∧ ¬ XO hs β b) →
    (∀ l, ObOK P ok w β (lk hs l) (β l)) →
    (∀ l l' b, owns hs β l b → owns hs β l' b → l = l') →
    RVsX P ok w β args vs →
    TabOK ok w →
    Calls P f vs.toArray w fun e w' => ∃ v β', e = .returned v ∧ FinX P ok w w' β β' hs hs' ∧ RV P (okOf ⟨ok, XO hs β, β, hs.length⟩ w w' hs' β') w' β' res v

/-- A type whose values an interface holds as they are. -/
def concB (P : Program) (T : TypeId) : Bool := match P.underlying T with
  | some (.interface _) => false
  | some (.pointer _) => false
  | some _ => true
  | none => false
def mthOf (P : Program) (T : TypeId) (name : String) : Option FuncId := bif concB P T then (match P.info? T with
  | some i => match i.methods.find? (·.name == name) with
    | some m => match m.path.toList with
      | [] => match m.func with
        | some (f, false) => some f
        | _ => none
      | _ => none
    | none => none
  | none => none) else none
section
variable {P : Program} {n : Nat} {o : Oper} {σ τ : St} {x y : Operand} {v res : AV} {T : TypeId} {ok : Nat → Prop} {w w0 : World} {β β' : Nat → Option Value} {K : OkX} {a : Act}

theorem RVsX.len {vs : List AV} {xs : List Value} (h : RVsX P ok w β vs xs) : xs.length = vs.length := by
  induction h with
  | nil => rfl
  | cons _ _ ih => simp [ih]
theorem RVsX.get {vs : List AV} {xs : List Value} (h : RVsX P ok w β vs xs) : ∀ (i : Nat) (v : AV), vs[i]? = some v → ∃ x, xs[i]? = some x ∧ RV P ok w β v x := by
  induction h with
  | nil => intro i v hv; simp at hv
  | @cons v x vs xs h _ ih =>
    intro i v' hv
    cases i with
    | zero => simp only [List.getElem?_cons_zero, Option.some.injEq] at hv; subst hv; exact ⟨x, rfl, h⟩
    | succ i => simp only [List.getElem?_cons_succ] at hv; obtain ⟨x', h1, h2⟩ := ih i v' hv; exact ⟨x', by simpa using h1, h2⟩
theorem RVsX.tk {vs : List AV} {xs : List Value} (h : RVsX P ok w β vs xs) (k : Nat) : RV P ok w β (tk vs k) (xs.getD k undef) := by
  induction h generalizing k with
  | nil => exact trivial
  | cons h _ ih =>
    cases k with
    | zero => exact h
    | succ k => simpa [Am.tk] using ih k
theorem RVsX.app {vs us : List AV} {xs ys : List Value} (h : RVsX P ok w β vs xs) (h2 : RVsX P ok w β us ys) : RVsX P ok w β (vs ++ us) (xs ++ ys) := by
  induction h with
  | nil => exact h2
  | cons h _ ih => exact .cons h ih
theorem RVsX.ren {ρ : Nat → Option Nat} {vs : List AV} {xs : List Value} (hr : RenOK ρ β β') (h : RVsX P ok w β vs xs) : RVsX P ok w β' (AV.renL ρ vs) xs := by
  induction h with
  | nil => exact .nil
  | cons h _ ih => exact .cons (h.ren hr) ih
theorem RVsX.of_get : ∀ {vs : List AV} {xs : List Value}, xs.length = vs.length → (∀ (i : Nat) (v : AV), vs[i]? = some v → RV P ok w β v (xs.getD i undef)) → RVsX P ok w β vs xs
  | [], [], _, _ => .nil
  | v :: vs, x :: xs, hl, h => .cons (by simpa using h 0 v rfl) (RVsX.of_get (by simpa using hl) fun i v' hv => by simpa using h (i + 1) v' (by simpa using hv))

structure HasBody (P : Program) (f : FuncId) : Prop where
  ex : ∃ fn, P.funcs[f]? = some fn ∧ fn.body.isNone = false ∧ (fn.name == "runtime.NumGoroutine") = false
theorem run_callFunc {f : FuncId} (hb : HasBody P f) (w : World) (args : Array Value) : (callFunc f args).run P w = .ok (.enter f args) w := by
  obtain ⟨fn, h1, h2, h3⟩ := hb.ex
  simp only [callFunc, Sem.run_bind, program]
  simp only [Sem.run, Result.andThen_ok, h1, h3, h2, Bool.false_eq_true, if_false, Sem.run_pure]
theorem run_callC {xs : List Operand} {ts : Array TypeId} {g : Operand} {f : FuncId} {cv : Array Value} (ho : o.op = .call { callee := .value g, args := xs.toArray, argTypes := ts }) (hb : HasBody P f) (a : Act) (w : World) (hg : a.eval g = .func (.func f) #[] cv) :
    (execOp a.eval o).run P w = .ok (.enter f (xs.map a.eval ++ cv.toList).toArray) w := by
  simp only [execOp, ho, resolve, Sem.run_bind, Deferred.ofValue, hg, Sem.run_pure, Result.andThen_ok, invoke, Array.empty_append, List.map_toArray, run_callFunc hb]
  congr 2
  apply Array.ext'
  simp
theorem fn_evalC {f : FuncId} {caps : List AV} {z : Value} (h : RV P ok w β (.fn f caps) z) (hc : ∀ v ∈ caps, v.isAgg P = false ∧ ∀ us, v ≠ .tup us) : ∃ cv : Array Value, z = .func (.func f) #[] cv ∧ RVsX P ok w β caps cv.toList := by
  have h' := h.2 rfl
  cases h' with
  | @fn _ _ cv hl hr =>
    refine ⟨cv, rfl, RVsX.of_get (by simpa using hl) fun i v hv => ?_⟩
    have hm := hc v (List.mem_of_getElem? hv)
    have hri := hr i v hv
    have e : cv.toList.getD i undef = cv.getD i undef := by simp [List.getD, Array.getD_eq_getD_getElem?]
    rw [e]
    exact RV1.toRV ⟨(fun hi => by rw [hm.1] at hi; cases hi), fun _ => hri⟩ hm.2

inductive EvXs (P : Program) (σ : St) : List Operand → List AV → Prop where
  | nil : EvXs P σ [] []
  | cons {x : Operand} {v : AV} {xs : List Operand} {vs : List AV} (h : Ev P σ x v) (r : EvXs P σ xs vs) : EvXs P σ (x :: xs) (v :: vs)
theorem EvXs.rvs {xs : List Operand} {vs : List AV} (h : EvXs P σ xs vs) (r : RelB P K w0 n σ a w β) : RVsX P (okOf K w0 w σ.hs β) w β vs (xs.map a.eval) := by
  induction h with
  | nil => exact .nil
  | cons h _ ih => exact .cons (h _ _ _ _ _ _ r) ih

/-- The callee's names, as the caller's. -/
def bkN (src : List Nat) (nm j : Nat) : Option Nat := match src[j]? with
  | some l => some l
  | none => some (nm + (j - src.length))
def bkB (src : List Nat) (nm m : Nat) (β β' : Nat → Option Value) (c : Nat) : Option Value := if nm ≤ c ∧ c < nm + m then β' (src.length + (c - nm)) else β c
/-- The objects behind a call. -/
structure BackH (src : List Nat) (nm : Nat) (hs objs' hs'' : List Ob) : Prop where
  old : ∀ i l, src[i]? = some l → lk hs'' l = (lk objs' i).ren (bkN src nm)
  new : ∀ j, src.length ≤ j → j < objs'.length → lk hs'' (nm + (j - src.length)) = (lk objs' j).ren (bkN src nm)
  rest : ∀ c, c ∉ src → ¬ (nm ≤ c ∧ c < nm + (objs'.length - src.length)) → lk hs'' c = lk hs c

theorem callX_rel {src : List Nat} {nm : Nat} {objs objs' hs'' : List Ob} (r : RelB P K w0 n σ a w β) (hnd : src.Nodup) (hol : objs.length = src.length) (hobj : ∀ i l, src[i]? = some l → lk objs i = (lk σ.hs l).ren (ix src))
    (hfree : ∀ j, j < objs'.length - src.length → lk σ.hs (nm + j) = .free) (hk0 : σ.k0 ≤ nm) (hsf : ∀ l ∈ src, lk σ.hs l ≠ .free) (hback : BackH src nm σ.hs objs' hs'') {w' : World} {β' : Nat → Option Value}
    (fin : FinX P (okOf K w0 w σ.hs β) w w' (srcB src β) β' objs objs') {z : Value} (hz : RV P (okOf ⟨okOf K w0 w σ.hs β, XO objs (srcB src β), srcB src β, objs.length⟩ w w' objs' β') w' β' res z) :
    ∃ β'', RelB P K w0 n ⟨σ.ts, hs'', σ.k0⟩ a w' β'' ∧ RV P (okOf K w0 w' hs'' β'') w' β'' (res.ren (bkN src nm)) z := by
  have hβnew : ∀ j, j < objs'.length - src.length → β (nm + j) = none := fun j hj => by
    have := r.hs (nm + j)
    rw [hfree j hj] at this
    exact this
  have hsrcnew : ∀ l ∈ src, ¬ (nm ≤ l ∧ l < nm + (objs'.length - src.length)) := fun l hl hc => hsf l hl (by
    have := hfree (l - nm) (by omega)
    rwa [show nm + (l - nm) = l by omega] at this)
  have hob : ∀ i l, src[i]? = some l → β' i = β l := fun i l hi => by
    have hlt := (List.getElem?_eq_some_iff.1 hi).1
    rw [fin.ext i (by omega)]
    simp only [srcB, hi]
  have hext : Ext β (bkB src nm (objs'.length - src.length) β β') := fun l z' hl => by
    unfold bkB
    split
    · rename_i hc
      have := hβnew (l - nm) (by omega)
      rw [show nm + (l - nm) = l by omega, hl] at this
      cases this
    · exact hl
  have hren : RenOK (bkN src nm) β' (bkB src nm (objs'.length - src.length) β β') := fun j c z' hj hz' => by
    unfold bkN at hj
    split at hj
    · rename_i l hl
      cases hj
      rw [hob j c hl] at hz'
      exact hext _ _ hz'
    · rename_i hl
      cases hj
      have hjl : src.length ≤ j := List.getElem?_eq_none_iff.1 hl
      have hj2 : j < objs'.length := by
        rcases Nat.lt_or_ge j objs'.length with h | h
        · exact h
        · have := fin.obs j
          rw [lk_end _ _ h] at this
          have e : β' j = none := this
          rw [e] at hz'; cases hz'
      unfold bkB
      rw [if_pos (by omega), show src.length + (nm + (j - src.length) - nm) = j by omega]
      exact hz'
  -- who owns what
  have hXO : ∀ b, XO objs (srcB src β) b → ∃ l, l ∈ src ∧ owns σ.hs β l b := by
    rintro b ⟨i, h1, z', h2, h3⟩
    simp only [srcB] at h2
    cases hs : src[i]? with
    | none => rw [hs] at h2; cases h2
    | some l =>
      rw [hs] at h2
      rw [hobj i l hs] at h1; replace h1 := Ob.ren_own h1
      exact ⟨l, List.mem_of_getElem? hs, h1, z', h2, h3⟩
  have hcls : ∀ c b, owns hs'' (bkB src nm (objs'.length - src.length) β β') c b → (∃ j, bkN src nm j = some c ∧ owns objs' β' j b) ∨ (c ∉ src ∧ owns σ.hs β c b) := by
    rintro c b ⟨h1, z', h2, h3⟩
    by_cases hc : nm ≤ c ∧ c < nm + (objs'.length - src.length)
    · left
      unfold bkB at h2
      rw [if_pos hc] at h2
      have hnw := hback.new (src.length + (c - nm)) (by omega) (by omega)
      rw [show nm + (src.length + (c - nm) - src.length) = c by omega] at hnw
      rw [hnw] at h1; replace h1 := Ob.ren_own h1
      refine ⟨src.length + (c - nm), ?_, h1, z', h2, h3⟩
      unfold bkN
      rw [List.getElem?_eq_none (by omega)]
      simp only
      congr 1
      omega
    · unfold bkB at h2
      rw [if_neg hc] at h2
      by_cases hm : c ∈ src
      · left
        obtain ⟨i, hi⟩ := List.getElem?_of_mem hm
        rw [hback.old i c hi] at h1; replace h1 := Ob.ren_own h1
        exact ⟨i, by unfold bkN; rw [hi], h1, z', by rw [hob i c hi]; exact h2, h3⟩
      · right
        rw [hback.rest c hm hc] at h1
        exact ⟨hm, h1, z', h2, h3⟩
  have hunch : ∀ b, b < w.heap.size → ¬ XO objs (srcB src β) b → w'.heap[b]? = w.heap[b]? := fun b h1 h2 => fin.below.block b h1 h2
  have hnXO : ∀ b, okOf K w0 w σ.hs β b → ¬ XO objs (srcB src β) b := fun b hb hx => by
    obtain ⟨l, _, hl⟩ := hXO b hx
    exact hb.2.2 l hl
  have hk : ∀ b, okOf K w0 w σ.hs β b → okOf K w0 w' hs'' (bkB src nm (objs'.length - src.length) β β') b ∧ w'.heap[b]? = w.heap[b]? := by
    intro b hb
    refine ⟨⟨Nat.lt_of_lt_of_le hb.1 fin.below.size, hb.2.1, fun c hc => ?_⟩, hunch b hb.1 (hnXO b hb)⟩
    rcases hcls c b hc with ⟨j, _, hj⟩ | ⟨_, hc2⟩
    · rcases fin.own j b hj with h1 | h1
      · have := hb.1; omega
      · exact hnXO b hb h1
    · exact hb.2.2 c hc2
  have hk2 : ∀ b, okOf ⟨okOf K w0 w σ.hs β, XO objs (srcB src β), srcB src β, objs.length⟩ w w' objs' β' b → okOf K w0 w' hs'' (bkB src nm (objs'.length - src.length) β β') b ∧ w'.heap[b]? = w'.heap[b]? := by
    rintro b ⟨h1, h2, h3⟩
    refine ⟨⟨h1, fun hlt => ?_, fun c hc => ?_⟩, rfl⟩
    · rcases h2 (Nat.lt_of_lt_of_le hlt r.below.size) with h4 | h4
      · exact h4.2.1 hlt
      · obtain ⟨l, _, hl⟩ := hXO b h4
        rcases r.own l b hl with h5 | h5
        · omega
        · exact .inr h5
    · rcases hcls c b hc with ⟨j, _, hj⟩ | ⟨hm, hc2⟩
      · exact h3 j hj
      · rcases h2 (r.blk_lt hc2) with h4 | h4
        · exact h4.2.2 c hc2
        · obtain ⟨l, hl1, hl⟩ := hXO b h4
          have := r.sep c l b hc2 hl
          subst this
          exact hm hl1
  refine ⟨_, ⟨r.size, r.defers, ?_, fun k => (r.ts k).mono hk hext, fun c => ?_, fun c c' b h1 h2 => ?_, fun c b h1 => ?_, fun l hl => ?_, r.kk, r.tab.mono hk⟩, (hz.mono hk2 (Ext.refl _)).ren hren⟩
  · refine ⟨fin.below.os.trans r.below.os, fin.below.tape.trans r.below.tape, fin.below.output.trans r.below.output, Nat.le_trans r.below.size fin.below.size, fun b hb hx => (hunch b (Nat.lt_of_lt_of_le hb r.below.size) fun h => ?_).trans (r.below.block b hb hx)⟩
    obtain ⟨l, _, hl⟩ := hXO b h
    rcases r.own l b hl with h1 | h1
    · omega
    · exact hx h1
  · show ObOK P _ w' _ (lk hs'' c) _
    by_cases hc : nm ≤ c ∧ c < nm + (objs'.length - src.length)
    · have hnw := hback.new (src.length + (c - nm)) (by omega) (by omega)
      rw [show nm + (src.length + (c - nm) - src.length) = c by omega] at hnw
      rw [hnw]
      have e : bkB src nm (objs'.length - src.length) β β' c = β' (src.length + (c - nm)) := by unfold bkB; rw [if_pos hc]
      rw [e]
      exact ObOK.ren hren ((fin.obs _).mono hk2 (fun _ _ _ _ _ => rfl) (Ext.refl _))
    · have e : bkB src nm (objs'.length - src.length) β β' c = β c := by unfold bkB; rw [if_neg hc]
      rw [e]
      by_cases hm : c ∈ src
      · obtain ⟨i, hi⟩ := List.getElem?_of_mem hm
        rw [hback.old i c hi, ← hob i c hi]
        exact ObOK.ren hren ((fin.obs _).mono hk2 (fun _ _ _ _ _ => rfl) (Ext.refl _))
      · rw [hback.rest c hm hc]
        refine (r.hs c).mono hk (fun z' b h1 h2 h3 => hunch b (r.blk_lt ⟨h1, z', h2, h3⟩) fun hx => ?_) hext
        obtain ⟨l, hl1, hl⟩ := hXO b hx
        have := r.sep c l b ⟨h1, z', h2, h3⟩ hl
        subst this
        exact hm hl1
  · have hinj : ∀ j j' c, bkN src nm j = some c → bkN src nm j' = some c → owns objs' β' j b → owns objs' β' j' b → True := fun _ _ _ _ _ _ _ => trivial
    rcases hcls c b h1 with ⟨j, e1, hj⟩ | ⟨hm, hc2⟩
    · rcases hcls c' b h2 with ⟨j', e2, hj'⟩ | ⟨hm', hc2'⟩
      · have := fin.sep j j' b hj hj'
        subst this
        rw [e1] at e2; cases e2; rfl
      · exfalso
        rcases fin.own j b hj with h3 | h3
        · have := r.blk_lt hc2'; omega
        · obtain ⟨l, hl1, hl⟩ := hXO b h3
          have := r.sep c' l b hc2' hl
          subst this
          exact hm' hl1
    · rcases hcls c' b h2 with ⟨j', e2, hj'⟩ | ⟨hm', hc2'⟩
      · exfalso
        rcases fin.own j' b hj' with h3 | h3
        · have := r.blk_lt hc2; omega
        · obtain ⟨l, hl1, hl⟩ := hXO b h3
          have := r.sep c l b hc2 hl
          subst this
          exact hm hl1
      · exact r.sep c c' b hc2 hc2'
  · rcases hcls c b h1 with ⟨j, _, hj⟩ | ⟨_, hc2⟩
    · rcases fin.own j b hj with h3 | h3
      · exact .inl (Nat.le_trans r.below.size h3)
      · obtain ⟨l, _, hl⟩ := hXO b h3
        exact r.own l b hl
    · exact r.own c b hc2
  · have hlt : l < nm := by have := r.kk; omega
    unfold bkB
    rw [if_neg (by omega)]
    exact r.ext l hl

theorem concB_some {T : TypeId} (h : concB P T = true) : ∃ D, P.underlying T = some D ∧ (∀ ms, D ≠ .interface ms) ∧ ∀ e, D ≠ .pointer e := by
  unfold concB at h
  cases hu : P.underlying T with
  | none => rw [hu] at h; cases h
  | some D =>
    rw [hu] at h
    refine ⟨D, rfl, ?_, ?_⟩ <;> (intro q e; subst e; cases h)
theorem run_method {T : TypeId} {name : String} {f : FuncId} (hm : mthOf P T name = some f) (k : Nat) (z : Value) (w : World) : (method (k + 1) T z name).run P w = .ok (f, z) w := by
  unfold mthOf at hm
  cases hc : concB P T with
  | false => rw [hc] at hm; cases hm
  | true =>
    rw [hc, cond_true] at hm
    obtain ⟨D, hu, h1, h2⟩ := concB_some hc
    cases hi : P.info? T with
    | none => rw [hi] at hm; cases hm
    | some i =>
      rw [hi] at hm
      simp only at hm
      cases hf : i.methods.find? (·.name == name) with
      | none => rw [hf] at hm; cases hm
      | some m =>
        rw [hf] at hm
        simp only at hm
        cases hp : m.path.toList with
        | cons a r => rw [hp] at hm; cases hm
        | nil =>
          rw [hp] at hm
          simp only at hm
          cases hg : m.func with
          | none => rw [hg] at hm; cases hm
          | some q =>
            obtain ⟨f', b⟩ := q
            rw [hg] at hm
            cases b with
            | true => cases hm
            | false =>
              cases hm
              have hti : (typeInfo T).run P w = .ok i w := by
                unfold typeInfo
                rw [Sem.run_bind, show (program).run P w = .ok P w from rfl, Result.andThen_ok, hi]
                rfl
              unfold method
              rw [Sem.run_bind, hti, Result.andThen_ok, hf]
              simp only
              rw [hp, Sem.run_bind, show (follow [] T (.val z)).run P w = .ok (T, .val z) w from rfl, Result.andThen_ok]
              simp only [hg]
              rw [Sem.run_bind]
              unfold receiverAt
              rw [Sem.run_bind, run_underlying hu, Result.andThen_ok]
              cases D with
              | interface ms => exact absurd rfl (h1 ms)
              | pointer e => exact absurd rfl (h2 e)
              | _ => rfl
theorem run_nilAhead {T : TypeId} {name : String} {f : FuncId} (hm : mthOf P T name = some f) (k : Nat) (z : Value) (w : World) : (nilAhead (k + 1) T z name).run P w = .ok (some false) w := by
  unfold mthOf at hm
  cases hc : concB P T with
  | false => rw [hc] at hm; cases hm
  | true =>
    rw [hc, cond_true] at hm
    obtain ⟨D, hu, h1, h2⟩ := concB_some hc
    cases hi : P.info? T with
    | none => rw [hi] at hm; cases hm
    | some i =>
      rw [hi] at hm
      simp only at hm
      cases hf : i.methods.find? (·.name == name) with
      | none => rw [hf] at hm; cases hm
      | some m =>
        rw [hf] at hm
        simp only at hm
        cases hp : m.path.toList with
        | cons a r => rw [hp] at hm; cases hm
        | nil =>
          rw [hp] at hm
          simp only at hm
          cases hg : m.func with
          | none => rw [hg] at hm; cases hm
          | some q =>
            obtain ⟨f', b⟩ := q
            rw [hg] at hm
            cases b with
            | true => cases hm
            | false =>
              cases hm
              have hti : (typeInfo T).run P w = .ok i w := by
                unfold typeInfo
                rw [Sem.run_bind, show (program).run P w = .ok P w from rfl, Result.andThen_ok, hi]
                rfl
              unfold nilAhead
              rw [Sem.run_bind, hti, Result.andThen_ok, hf]
              simp only
              rw [hp, Sem.run_bind, show (followBlind [] T (some z)).run P w = .ok (.ok (T, some z)) w from rfl, Result.andThen_ok]
              simp only [hg]
              rw [Sem.run_bind, run_underlying hu, Result.andThen_ok]
              cases D with
              | interface ms => exact absurd rfl (h1 ms)
              | pointer e => exact absurd rfl (h2 e)
              | _ => rfl
theorem run_invoke {xs : List Operand} {ts : Array TypeId} {g : Operand} {name : String} {f : FuncId} {T : TypeId} {z : Value} (ho : o.op = .call { callee := .invoke g name, args := xs.toArray, argTypes := ts }) (hb : HasBody P f) (hm : mthOf P T name = some f) (a : Act) (w : World) (hg : a.eval g = .iface T z) : (execOp a.eval o).run P w = .ok (.enter f (z :: xs.map a.eval).toArray) w := by
  have e0 : (#[Value.iface T z] ++ Array.map a.eval xs.toArray)[0]? = some (.iface T z) := by simp
  have e1 : (#[Value.iface T z] ++ Array.map a.eval xs.toArray).extract 1 (#[Value.iface T z] ++ Array.map a.eval xs.toArray).size = (xs.map a.eval).toArray := by
    apply Array.ext'
    simp
    exact List.take_of_length_le (by simp)
  simp only [execOp, ho, resolve, Sem.run_bind, Sem.run_pure, Result.andThen_ok, invoke, hg, callMethod, e0, e1, program]
  simp only [Sem.run, Result.andThen_ok]
  rw [show P.types.size + Made.depth = (P.types.size + (Made.depth - 1)) + 1 from rfl, run_method hm, Result.andThen_ok, run_callFunc hb]
  congr 2
  apply Array.ext'
  simp
theorem ifc_inv {T : TypeId} {z : Value} (h : RV P ok w β (.ifc T v) z) (ht : ∀ us, v ≠ .tup us) : ∃ z', z = .iface T z' ∧ RV P ok w β v z' := by
  have h' := h.2 rfl
  cases h' with
  | @ifc1 _ _ z' hi h1 => exact ⟨z', rfl, RV1.toRV ⟨fun hi' => (by rw [hi] at hi'; cases hi'), fun _ => h1⟩ ht⟩
  | @ifcA _ _ cs hi h1 => exact ⟨_, rfl, RV1.toRV ⟨fun _ => ⟨cs, rfl, h1⟩, fun hi' => by rw [hi] at hi'; cases hi'⟩ ht⟩
theorem ifc_mk {z : Value} (hn : v ≠ .dead) (ht : ∀ us, v ≠ .tup us) (h : RV P ok w β v z) : RV P ok w β (.ifc T v) (.iface T z) := by
  have h1 := RV.to1 hn ht h
  refine ⟨fun hi => (by cases hi), fun _ => ?_⟩
  cases hv : v.isAgg P with
  | true =>
    obtain ⟨cs, rfl, h2⟩ := h1.1 hv
    exact .ifcA hv h2
  | false => exact .ifc1 hv (h1.2 hv)
theorem op_makeI {d : Nat} (ho : o.op = .makeInterface T x) (hd : o.dst = some d) (hn : d < n) (hc : concB P T = true) (hx : Ev P σ x v) (h1 : v ≠ .dead) (h2 : ∀ us, v ≠ .tup us) : OpOK P n o σ (σ.put d (.ifc T v)) :=
  opOK_val hd hn fun ok0 w0 a w β r => by
    obtain ⟨D, hu, hi, _⟩ := concB_some hc
    refine ⟨.iface T (a.eval x), ?_, ifc_mk h1 h2 (hx _ _ _ _ _ _ r)⟩
    simp only [execOp, ho, Instr.makeInterface, Sem.run_bind, run_underlying hu, Result.andThen_ok]
    cases D with
    | interface ms => exact absurd rfl (hi ms)
    | _ => rfl
theorem callG_wp {f : FuncId} {as : List AV} {zs : List Value} {src : List Nat} {nm : Nat} {objs objs' hs'' : List Ob}
    (hrun : (execOp a.eval o).run P w = .ok (.enter f zs.toArray) w)
    (hnd : src.Nodup) (hol : objs.length = src.length) (hobj : ∀ i l, src[i]? = some l → lk objs i = (lk σ.hs l).ren (ix src)) (hf : FX P f (AV.renL (ix src) as) objs res objs')
    (hfree : ∀ j, j < objs'.length - src.length → lk σ.hs (nm + j) = .free) (hk0 : σ.k0 ≤ nm) (hsf : ∀ l ∈ src, lk σ.hs l ≠ .free) (hback : BackH src nm σ.hs objs' hs'')
    (r : RelB P K w0 n σ a w β) (ha : RVsX P (okOf K w0 w σ.hs β) w β as zs) (Kt : Act → World → Prop) (Q : Exit → Act → World → Prop)
    (hK : ∀ z w' β'', RelB P K w0 n ⟨σ.ts, hs'', σ.k0⟩ a w' β'' → RV P (okOf K w0 w' hs'' β'') w' β'' (res.ren (bkN src nm)) z → Kt (a.put o.dst z) w') : o.wp P a w Kt Q := by
  have hargs := ha.ren (src_ren src β)
  have hXO : ∀ b, XO objs (srcB src β) b → ∃ l, l ∈ src ∧ owns σ.hs β l b := by
    rintro b ⟨i, h1, z', h2, h3⟩
    simp only [srcB] at h2
    cases hs : src[i]? with
    | none => rw [hs] at h2; cases h2
    | some l =>
      rw [hs] at h2
      rw [hobj i l hs] at h1; replace h1 := Ob.ren_own h1
      exact ⟨l, List.mem_of_getElem? hs, h1, z', h2, h3⟩
  have hcall := hf (okOf K w0 w σ.hs β) w (srcB src β) _ (fun b hb => ⟨hb.1, fun hx => by obtain ⟨l, _, hl⟩ := hXO b hx; exact hb.2.2 l hl⟩) (fun i => by
      simp only [srcB]
      cases hs : src[i]? with
      | none =>
        rw [lk_end _ _ (by rw [hol]; exact List.getElem?_eq_none_iff.1 hs)]
        rfl
      | some l =>
        rw [hobj i l hs]
        exact ObOK.ren (src_ren src β) (r.hs l)) (fun i i' b h1 h2 => by
      have key : ∀ i, owns objs (srcB src β) i b → ∃ l, src[i]? = some l ∧ owns σ.hs β l b := by
        rintro i ⟨h1, z', h2, h3⟩
        simp only [srcB] at h2
        cases hs : src[i]? with
        | none => rw [hs] at h2; cases h2
        | some l =>
          rw [hs] at h2
          rw [hobj i l hs] at h1; replace h1 := Ob.ren_own h1
          exact ⟨l, rfl, h1, z', h2, h3⟩
      obtain ⟨l, e1, q1⟩ := key i h1
      obtain ⟨l', e2, q2⟩ := key i' h2
      have e := r.sep l l' b q1 q2
      subst e
      have hlt := (List.getElem?_eq_some_iff.1 e1).1
      exact (List.getElem?_inj hlt hnd).1 (e1.trans e2.symm)) hargs r.tab
  unfold Oper.wp
  rw [hrun, Oper.upon_enter]
  refine hcall.mono ?_
  rintro e w' ⟨z, β', rfl, hfin, hz⟩
  obtain ⟨β'', h1, h2⟩ := callX_rel r hnd hol hobj hfree hk0 hsf hback hfin hz
  exact hK z w' β'' h1 h2
end
end Go.Am
