/- The abstract machine, part 7: code: sequences, tests, blocks, loops, regions. -/
import Derived.Test.YtacpcknpliomoaaGreatAm6
import Derived.Orders
set_option linter.unusedVariables false
set_option linter.unusedSimpArgs false
namespace Go.Am
open Go.RowKit

def CW (P : Program) (n : Nat) (c : Code) (σ : St) (Ψ : Exit → St → Prop) : Prop :=
  ∀ (ok0 : OkX) (w0 : World) (a : Act) (w : World), Rel P ok0 w0 n σ a w → ∀ Q : Exit → Act → World → Prop, (∀ e σ' a' w', Ψ e σ' → Rel P ok0 w0 n σ' a' w' → Q e a' w') → c.wp P Q a w
def CR (P : Program) (n : Nat) (c : Code) (k : Nat) (σ : St) (Ψ : Exit → St → Prop) : Prop :=
  ∀ (ok0 : OkX) (w0 : World) (a : Act) (w : World), Rel P ok0 w0 n σ a w → ∀ Q : Exit → Act → World → Prop, (∀ e σ' a' w', Ψ e σ' → Rel P ok0 w0 n σ' a' w' → Q e a' w') → Code.rounds P c Q k a w
def Imp (P : Program) (n : Nat) (σ σ' : St) : Prop := ∀ (ok0 : OkX) (w0 : World) (a : Act) (w : World), Rel P ok0 w0 n σ a w → Rel P ok0 w0 n σ' a w

def SeqP (K : St → Prop) (Ψ : Exit → St → Prop) : Exit → St → Prop
  | .normal, τ => K τ
  | e, τ => Ψ e τ
def BlkP (id : Nat) (Ψ : Exit → St → Prop) : Exit → St → Prop
  | .exit id', τ => bif Nat.beq id' id then Ψ .normal τ else Ψ (.exit id') τ
  | e, τ => Ψ e τ
section
variable {P : Program} {n : Nat} {c c1 c2 : Code} {σ τ : St} {Ψ Ψ' : Exit → St → Prop} {x y : Operand} {v : AV} {T : TypeId} {o : Oper}

theorem CW.skip (h : Ψ .normal σ) : CW P n .skip σ Ψ := fun _ _ _ _ r _ hQ => wp_skip (hQ _ _ _ _ h r)
theorem CW.label {l : Nat} (h : Ψ .normal σ) : CW P n (.label l) σ Ψ := fun _ _ _ _ r _ hQ => wp_label (hQ _ _ _ _ h r)
theorem CW.ret (h : Ψ .ret σ) : CW P n .ret σ Ψ := fun _ _ _ _ r _ hQ => wp_ret (hQ _ _ _ _ h r)
theorem CW.exit {id : Nat} (h : Ψ (.exit id) σ) : CW P n (.exit id) σ Ψ := fun _ _ _ _ r _ hQ => wp_exit (hQ _ _ _ _ h r)
theorem CW.mono (h : CW P n c σ Ψ) (hp : ∀ e τ, Ψ e τ → Ψ' e τ) : CW P n c σ Ψ' := fun ok0 w0 a w r Q hQ => h ok0 w0 a w r Q fun e s a' w' hs => hQ e s a' w' (hp e s hs)
theorem CW.imp (hi : Imp P n σ τ) (h : CW P n c τ Ψ) : CW P n c σ Ψ := fun ok0 w0 a w r Q hQ => h ok0 w0 a w (hi ok0 w0 a w r) Q hQ
theorem CW.seq (h : CW P n c1 σ (SeqP (fun τ => CW P n c2 τ Ψ) Ψ)) : CW P n (.seq c1 c2) σ Ψ := fun ok0 w0 a w r Q hQ => wp_seq (h ok0 w0 a w r _ fun e s a' w' hs r' => by
  cases e with
  | normal => exact hs ok0 w0 a' w' r' Q hQ
  | exit id => exact hQ _ _ _ _ hs r'
  | goto l => exact hQ _ _ _ _ hs r'
  | ret => exact hQ _ _ _ _ hs r'
  | panic ch => exact hQ _ _ _ _ hs r'
  | outgrown => exact hQ _ _ _ _ hs r')
theorem CW.condT {TB : TypeId} {b : Bool} (hu : P.underlying TB = some .bool) (hx : Ev P σ x (.dat TB (.bool b))) (hb : b = true) (h : CW P n c1 σ Ψ) : CW P n (.cond x c1 c2) σ Ψ := fun ok0 w0 a w r Q hQ => by
  obtain ⟨β, r'⟩ := r
  have e := (RV.bool hu (hx _ _ _ _ _ _ r')).2
  simp only [Dt.toBool, hb] at e
  exact wp_cond_true e (h ok0 w0 a w ⟨β, r'⟩ Q hQ)
theorem CW.condF {TB : TypeId} {b : Bool} (hu : P.underlying TB = some .bool) (hx : Ev P σ x (.dat TB (.bool b))) (hb : b = false) (h : CW P n c2 σ Ψ) : CW P n (.cond x c1 c2) σ Ψ := fun ok0 w0 a w r Q hQ => by
  obtain ⟨β, r'⟩ := r
  have e := (RV.bool hu (hx _ _ _ _ _ _ r')).2
  simp only [Dt.toBool, hb] at e
  exact wp_cond_false e (h ok0 w0 a w ⟨β, r'⟩ Q hQ)
theorem CW.block {id : Nat} (h : CW P n c σ (BlkP id Ψ)) : CW P n (.block id c) σ Ψ := fun ok0 w0 a w r Q hQ => wp_block (h ok0 w0 a w r _ fun e s a' w' hs r' => by
  cases e with
  | normal => exact hQ _ _ _ _ hs r'
  | exit id' =>
    simp only [BlkP] at hs
    simp only [Exit.inBlock]
    cases hb : Nat.beq id' id with
    | true =>
      have := Nat.eq_of_beq_eq_true hb
      rw [hb] at hs
      rw [if_pos this]
      exact hQ _ _ _ _ hs r'
    | false =>
      rw [hb] at hs
      rw [if_neg (fun e => by subst e; simp at hb)]
      exact hQ _ _ _ _ hs r'
  | goto l => exact hQ _ _ _ _ hs r'
  | ret => exact hQ _ _ _ _ hs r'
  | panic ch => exact hQ _ _ _ _ hs r'
  | outgrown => exact hQ _ _ _ _ hs r')
theorem CR.step {k : Nat} (h : CW P n c σ (SeqP (fun τ => CR P n c k τ Ψ) Ψ)) : CR P n c (k + 1) σ Ψ := fun ok0 w0 a w r Q hQ => by
  rw [rounds_succ]
  exact h ok0 w0 a w r _ fun e s a' w' hs r' => by
    cases e with
    | normal => exact hs ok0 w0 a' w' r' Q hQ
    | exit id => exact hQ _ _ _ _ hs r'
    | goto l => exact hQ _ _ _ _ hs r'
    | ret => exact hQ _ _ _ _ hs r'
    | panic ch => exact hQ _ _ _ _ hs r'
    | outgrown => exact hQ _ _ _ _ hs r'
theorem CW.loop {k : Nat} (h : CR P n c k σ Ψ) : CW P n (.loop c) σ Ψ := fun ok0 w0 a w r Q hQ => wp_loop_rounds k (h ok0 w0 a w r Q hQ)
theorem CW.scope (h : CW P n c σ Ψ) (hg : ∀ l τ, ¬ Ψ (.goto l) τ) : CW P n (.scope c) σ Ψ := fun ok0 w0 a w r Q hQ => wp_scope_straight (h ok0 w0 a w r _ fun e s a' w' hs r' => by
  cases e with
  | goto l => exact absurd hs (hg l s)
  | normal => exact hQ _ _ _ _ hs r'
  | exit id => exact hQ _ _ _ _ hs r'
  | ret => exact hQ _ _ _ _ hs r'
  | panic ch => exact hQ _ _ _ _ hs r'
  | outgrown => exact hQ _ _ _ _ hs r')

/-- The guard of an operation. -/
theorem wanted_none (hg : o.guard = none) (f : Nat → Option Bool) : Region.wanted o f = true := by simp [Region.wanted, hg]
theorem wanted_some {ops : Array Oper} {oj : Oper} {j dj : Nat} {want b : Bool} {TB : TypeId} (hg : o.guard = some (j, want)) (hj : ops[j]? = some oj) (hdj : oj.dst = some dj) (hu : P.underlying TB = some .bool) (ht : tk σ.ts dj = .dat TB (.bool b))
    {ok0 : OkX} {w0 w : World} {a : Act} {β : Nat → Option Value} (r : RelB P ok0 w0 n σ a w β) : Region.wanted o (yielded ops a.tmps) = (b == want) := by
  have h := r.ts dj
  rw [ht] at h
  have e := (RV.bool hu h).2
  simp only [Dt.toBool] at e
  have hlt : dj < a.tmps.size := by
    rcases Nat.lt_or_ge dj a.tmps.size with h1 | h1
    · exact h1
    · rw [Array.getD_eq_getD_getElem?, Array.getElem?_eq_none h1] at e
      simp [undef] at e
  have e2 : a.tmps[dj]? = some (.bool b) := by
    rw [Array.getD_eq_getD_getElem?, Array.getElem?_eq_getElem hlt] at e
    rw [Array.getElem?_eq_getElem hlt]
    simpa using e
  simp only [Region.wanted, hg, yielded, hj, Option.bind_some, hdj, e2]
  cases b <;> cases want <;> rfl

def StepOK (P : Program) (n : Nat) (ops : Array Oper) (o : Oper) (σ σ' : St) : Prop :=
  ∀ (ok0 : OkX) (w0 : World) (a : Act) (w : World), Rel P ok0 w0 n σ a w → ∀ (K : Act → World → Prop) (Q : Exit → Act → World → Prop),
    (∀ a' w', Rel P ok0 w0 n σ' a' w' → K a' w') → if Region.wanted o (yielded ops a.tmps) then o.wp P a w K Q else K (a.put o.dst undef) w
theorem StepOK.plain {ops : Array Oper} {σ' : St} (hg : o.guard = none) (h : OpOK P n o σ σ') : StepOK P n ops o σ σ' := fun ok0 w0 a w r K Q hK => by
  rw [if_pos (wanted_none hg _)]
  exact h ok0 w0 a w r K Q hK
theorem StepOK.run {ops : Array Oper} {σ' : St} {oj : Oper} {j dj : Nat} {want b : Bool} {TB : TypeId} (hg : o.guard = some (j, want)) (hj : ops[j]? = some oj) (hdj : oj.dst = some dj) (hu : P.underlying TB = some .bool) (ht : tk σ.ts dj = .dat TB (.bool b)) (hb : b = want)
    (h : OpOK P n o σ σ') : StepOK P n ops o σ σ' := fun ok0 w0 a w r K Q hK => by
  obtain ⟨β, r'⟩ := r
  rw [if_pos (by rw [wanted_some hg hj hdj hu ht r']; simp [hb])]
  exact h ok0 w0 a w ⟨β, r'⟩ K Q hK
theorem StepOK.skip {ops : Array Oper} {oj : Oper} {d j dj : Nat} {want b : Bool} {TB : TypeId} (hg : o.guard = some (j, want)) (hj : ops[j]? = some oj) (hdj : oj.dst = some dj) (hu : P.underlying TB = some .bool) (ht : tk σ.ts dj = .dat TB (.bool b)) (hb : b = !want)
    (hd : o.dst = some d) (hn : d < n) : StepOK P n ops o σ (σ.put d (.tup [])) := fun ok0 w0 a w r K Q hK => by
  obtain ⟨β, r'⟩ := r
  rw [if_neg (by rw [wanted_some hg hj hdj hu ht r']; cases want <;> simp [hb]), hd]
  exact hK _ _ ⟨β, r'.put hn ⟨#[], rfl, rfl, fun i av hv => by simp at hv⟩⟩
theorem wanted_undef {ops : Array Oper} {oj : Oper} {j dj : Nat} {want : Bool} (hg : o.guard = some (j, want)) (hj : ops[j]? = some oj) (hdj : oj.dst = some dj) (ht : tk σ.ts dj = .tup [])
    {ok0 : OkX} {w0 w : World} {a : Act} {β : Nat → Option Value} (r : RelB P ok0 w0 n σ a w β) : Region.wanted o (yielded ops a.tmps) = false := by
  have h := r.ts dj
  rw [ht] at h
  obtain ⟨arr, e, hs, _⟩ := h
  have e2 : yielded ops a.tmps j = none := by
    simp only [yielded, hj, Option.bind_some, hdj]
    rcases Nat.lt_or_ge dj a.tmps.size with h1 | h1
    · rw [Array.getD_eq_getD_getElem?, Array.getElem?_eq_getElem h1] at e
      rw [Array.getElem?_eq_getElem h1]
      simp only [Option.getD_some] at e
      rw [e]
    · rw [Array.getElem?_eq_none h1]
  simp only [Region.wanted, hg, e2]
  rfl
theorem StepOK.skipU {ops : Array Oper} {oj : Oper} {d j dj : Nat} {want : Bool} (hg : o.guard = some (j, want)) (hj : ops[j]? = some oj) (hdj : oj.dst = some dj) (ht : tk σ.ts dj = .tup [])
    (hd : o.dst = some d) (hn : d < n) : StepOK P n ops o σ (σ.put d (.tup [])) := fun ok0 w0 a w r K Q hK => by
  obtain ⟨β, r'⟩ := r
  rw [if_neg (by rw [wanted_undef hg hj hdj ht r']; simp), hd]
  exact hK _ _ ⟨β, r'.put hn ⟨#[], rfl, rfl, fun i av hv => by simp at hv⟩⟩
theorem StepOK.skipU' {ops : Array Oper} {oj : Oper} {j dj : Nat} {want : Bool} (hg : o.guard = some (j, want)) (hj : ops[j]? = some oj) (hdj : oj.dst = some dj) (ht : tk σ.ts dj = .tup [])
    (hd : o.dst = none) : StepOK P n ops o σ σ := fun ok0 w0 a w r K Q hK => by
  obtain ⟨β, r'⟩ := r
  rw [if_neg (by rw [wanted_undef hg hj hdj ht r']; simp), hd]
  exact hK _ _ ⟨β, r'⟩
theorem StepOK.skip' {ops : Array Oper} {oj : Oper} {j dj : Nat} {want b : Bool} {TB : TypeId} (hg : o.guard = some (j, want)) (hj : ops[j]? = some oj) (hdj : oj.dst = some dj) (hu : P.underlying TB = some .bool) (ht : tk σ.ts dj = .dat TB (.bool b)) (hb : b = !want)
    (hd : o.dst = none) : StepOK P n ops o σ σ := fun ok0 w0 a w r K Q hK => by
  obtain ⟨β, r'⟩ := r
  rw [if_neg (by rw [wanted_some hg hj hdj hu ht r']; cases want <;> simp [hb]), hd]
  exact hK _ _ ⟨β, r'⟩

theorem Imp.refl : Imp P n σ σ := fun _ _ _ _ r => r
theorem Imp.trans {σ' : St} (h : Imp P n σ τ) (k : Imp P n τ σ') : Imp P n σ σ' := fun _ _ _ _ r => k _ _ _ _ (h _ _ _ _ r)
theorem OpOK.pre {σ' : St} (hi : Imp P n σ τ) (h : OpOK P n o τ σ') : OpOK P n o σ σ' := fun ok0 w0 a w r K Q hK => h ok0 w0 a w (hi _ _ _ _ r) K Q hK
theorem OpOK.post {σ' : St} (h : OpOK P n o σ τ) (hi : Imp P n τ σ') : OpOK P n o σ σ' := fun ok0 w0 a w r K Q hK => h ok0 w0 a w r K Q fun a' w' r' => hK a' w' (hi _ _ _ _ r')
theorem StepOK.post {ops : Array Oper} {σ' : St} (h : StepOK P n ops o σ τ) (hi : Imp P n τ σ') : StepOK P n ops o σ σ' := fun ok0 w0 a w r K Q hK => h ok0 w0 a w r K Q fun a' w' r' => hK a' w' (hi _ _ _ _ r')
theorem CR.imp {k : Nat} (hi : Imp P n σ τ) (h : CR P n c k τ Ψ) : CR P n c k σ Ψ := fun ok0 w0 a w r Q hQ => h ok0 w0 a w (hi ok0 w0 a w r) Q hQ
theorem CR.mono {k : Nat} (h : CR P n c k σ Ψ) (hp : ∀ e τ, Ψ e τ → Ψ' e τ) : CR P n c k σ Ψ' := fun ok0 w0 a w r Q hQ => h ok0 w0 a w r Q fun e s a' w' hs => hQ e s a' w' (hp e s hs)
/-- The operations of a region, in the order of the text. -/
def LW (P : Program) (n : Nat) (ops : Array Oper) (l : List Oper) (σ : St) (Ψ : St → Prop) : Prop :=
  ∀ (ok0 : OkX) (w0 : World) (a : Act) (w : World), Rel P ok0 w0 n σ a w → ∀ Q : Exit → Act → World → Prop, (∀ τ a' w', Ψ τ → Rel P ok0 w0 n τ a' w' → Q .normal a' w') → wpList P ops Q l a w
theorem LW.nil {ops : Array Oper} {Φ : St → Prop} (h : Φ σ) : LW P n ops [] σ Φ := fun _ _ a w r Q hQ => wpList_nil (hQ σ a w h r)
theorem LW.cons {ops : Array Oper} {l : List Oper} {Φ : St → Prop} (h : StepOK P n ops o σ τ) (r : LW P n ops l τ Φ) : LW P n ops (o :: l) σ Φ := fun ok0 w0 a w r0 Q hQ =>
  wpList_step fun K hK => h ok0 w0 a w r0 K Q fun a' w' r' => hK a' w' (r ok0 w0 a' w' r' Q hQ)
theorem CW.region {id : Nat} {l : List Oper} {Φ : St → Prop} (h : LW P n l.toArray l σ Φ) (hp : ∀ τ, Φ τ → Ψ .normal τ) : CW P n (.region id l.toArray false) σ Ψ := fun ok0 w0 a w r Q hQ =>
  wp_region_lit (h ok0 w0 a w r Q fun τ a' w' h1 r' => hQ _ _ _ _ (hp τ h1) r')

/-- A region that draws its order. -/
def DepsL (L : Nat → Bool) : List Edge → Prop
  | [] => True
  | e :: r => (Region.binds .any e = true → L e.on = true) ∧ DepsL L r
def upL (L : Nat → Bool) (i : Nat) : Nat → Bool := fun k => bif Nat.beq k i then true else L k
def Closed (ops : Array Oper) (L : Nat → Bool) : Prop := ∀ (j : Nat) (oj : Oper), ops[j]? = some oj → L j = true → DepsL L oj.after.toList
inductive DrawL (P : Program) (n : Nat) (ops : Array Oper) (S : (Nat → Bool) → St) : Nat → List Oper → Prop where
  | nil {i : Nat} : DrawL P n ops S i []
  | cons {i : Nat} {o : Oper} {r : List Oper} (h : ∀ L : Nat → Bool, L i = false → DepsL L o.after.toList → Closed ops L → ∃ σ', StepOK P n ops o (S L) σ' ∧ Imp P n σ' (S (upL L i))) (hr : DrawL P n ops S (i + 1) r) : DrawL P n ops S i (o :: r)
theorem DrawL.get {ops : Array Oper} {S : (Nat → Bool) → St} {k : Nat} {l : List Oper} (h : DrawL P n ops S k l) : ∀ (j : Nat) (o : Oper), l[j]? = some o → ∀ L : Nat → Bool, L (k + j) = false → DepsL L o.after.toList → Closed ops L → ∃ σ', StepOK P n ops o (S L) σ' ∧ Imp P n σ' (S (upL L (k + j))) := by
  induction h with
  | nil => intro j o h; simp at h
  | @cons i o r h _ ih =>
    intro j o' hj
    cases j with
    | zero => simp only [List.getElem?_cons_zero, Option.some.injEq] at hj; subst hj; exact h
    | succ j =>
      simp only [List.getElem?_cons_succ] at hj
      have := ih j o' hj
      rw [show i + 1 + j = i + (j + 1) by omega] at this
      exact this
def backGo : Nat → List Oper → Bool
  | _, [] => true
  | i, o :: r => (o.after.toList.all fun e => !Region.binds .any e || Nat.blt e.on i) && backGo (i + 1) r
theorem backGo_get : ∀ {l : List Oper} {k : Nat}, backGo k l = true → ∀ (j : Nat) (o : Oper), l[j]? = some o → ∀ e ∈ o.after.toList, Region.binds .any e = true → e.on < k + j
  | [], _, _, _, _, h => by simp at h
  | o :: r, k, h, 0, o', hj => by
    simp only [List.getElem?_cons_zero, Option.some.injEq] at hj
    subst hj
    simp only [backGo, Bool.and_eq_true, List.all_eq_true, Bool.or_eq_true, Bool.not_eq_true'] at h
    intro e he hb
    rcases h.1 e he with h1 | h1
    · rw [hb] at h1; cases h1
    · have : e.on < k := by simp [Nat.blt] at h1; omega
      omega
  | o :: r, k, h, j + 1, o', hj => by
    simp only [List.getElem?_cons_succ] at hj
    simp only [backGo, Bool.and_eq_true] at h
    intro e he hb
    have := backGo_get h.2 j o' hj e he hb
    omega
theorem DepsL.of {L : Nat → Bool} : ∀ {l : List Edge}, (∀ e ∈ l, Region.binds .any e = true → L e.on = true) → DepsL L l
  | [], _ => trivial
  | e :: r, h => ⟨h e (by simp), DepsL.of fun e' he' => h e' (by simp [he'])⟩
theorem DepsL.mem {L : Nat → Bool} : ∀ {l : List Edge}, DepsL L l → ∀ e ∈ l, Region.binds .any e = true → L e.on = true
  | [], _, e, he => by simp at he
  | e :: r, h, e', he' => by
    rcases List.mem_cons.1 he' with rfl | he'
    · exact h.1
    · exact DepsL.mem h.2 e' he'

theorem mem_ready {ops : Array Oper} {listed : Array Bool} {i : Nat} : i ∈ Region.ready .any ops listed ↔ i < ops.size ∧ listed.getD i true = false ∧ ∃ o, ops[i]? = some o ∧ ∀ e ∈ o.after.toList, Region.binds .any e = true → listed.getD e.on false = true := by
  unfold Region.ready
  simp only [List.mem_filter, List.mem_range, Bool.and_eq_true, Bool.not_eq_true']
  constructor
  · rintro ⟨h1, h2, h3⟩
    refine ⟨h1, h2, ops[i], by simp [h1], ?_⟩
    rw [Array.getElem?_eq_getElem h1] at h3
    simp only [Option.map_some, Option.getD_some, Array.all_eq_true_iff_forall_mem] at h3
    intro e he hb
    have := h3 e (by simpa using he)
    simp only [Bool.or_eq_true, Bool.not_eq_true'] at this
    rcases this with h4 | h4
    · rw [hb] at h4; cases h4
    · exact h4
  · rintro ⟨h1, h2, o, ho, h3⟩
    refine ⟨h1, h2, ?_⟩
    rw [ho]
    simp only [Option.map_some, Option.getD_some, Array.all_eq_true_iff_forall_mem]
    intro e he
    simp only [Bool.or_eq_true, Bool.not_eq_true']
    cases hb : Region.binds .any e with
    | false => exact .inl rfl
    | true => exact .inr (h3 e (by simpa using he) hb)

theorem draw_any {l : List Oper} {S : (Nat → Bool) → St} (hback : backGo 0 l = true) (hd : DrawL P n l.toArray S 0 l) {ok0 : OkX} {w0 : World} {Q : Exit → Act → World → Prop}
    (hfin : ∀ (L : Nat → Bool), (∀ i, i < l.length → L i = true) → ∀ a w, Rel P ok0 w0 n (S L) a w → Q .normal a w) :
    ∀ (fuel : Nat) (listed : Array Bool) (a : Act) (w : World), listed.size = l.length → listed.toList.count false ≤ fuel → Closed l.toArray (fun j => listed.getD j false) → Rel P ok0 w0 n (S fun j => listed.getD j false) a w → wpAny P .any l.toArray Q fuel listed a w := by
  have hall : ∀ listed : Array Bool, listed.size = l.length → Region.ready .any l.toArray listed = [] → ∀ i, i < l.length → listed.getD i false = true := by
    intro listed hsz hr
    intro i
    induction i using Nat.strongRecOn with
    | _ i ih =>
      intro hi
      cases hc : listed.getD i false with
      | true => rfl
      | false =>
        exfalso
        have hne : i ∈ Region.ready .any l.toArray listed := by
          refine mem_ready.2 ⟨by simpa using hi, ?_, l[i], by simp [hi], fun e he hb => ?_⟩
          · have hlt : i < listed.size := by omega
            simp only [Array.getD, hlt, dif_pos] at hc ⊢
            exact hc
          · have := backGo_get hback i l[i] (by simp [hi]) e he hb
            exact ih e.on (by omega) (by omega)
        rw [hr] at hne
        simp at hne
  intro fuel
  induction fuel with
  | zero =>
    intro listed a w hsz hcnt hcl r
    have hnil : Region.ready .any l.toArray listed = [] := by
      rw [List.eq_nil_iff_forall_not_mem]
      intro i hi
      obtain ⟨h1, h2, _⟩ := mem_ready.1 hi
      have hlt : i < listed.size := by rw [hsz]; simpa using h1
      have h3 : listed[i] = false := by simpa [Array.getD, hlt] using h2
      have h4 : List.count false listed.toList = 0 := by omega
      rw [List.count_eq_zero] at h4
      exact h4 (by rw [← h3]; simp)
    exact ⟨hnil, hfin _ (hall listed hsz hnil) a w r⟩
  | succ fuel ih =>
    intro listed a w hsz hcnt hcl r
    refine ⟨fun hnil => hfin _ (hall listed hsz hnil) a w r, fun i hi => ?_⟩
    obtain ⟨h1, h2, o, ho, h3⟩ := mem_ready.1 hi
    have hil : i < l.length := by simpa using h1
    have hlt : i < listed.size := by omega
    have hLi : listed.getD i false = false := by
      have h2' : listed[i] = false := by simpa [Array.getD, hlt] using h2
      simp [Array.getD, hlt, h2']
    have ho' : l[i]? = some o := by simpa using ho
    obtain ⟨σ', hstep, himp⟩ := hd.get i o ho' (fun j => listed.getD j false) (by rw [Nat.zero_add]; exact hLi) (DepsL.of h3) hcl
    rw [Nat.zero_add] at himp
    have hL : (fun j => (listed.setIfInBounds i true).getD j false) = upL (fun j => listed.getD j false) i := by
      funext j
      rw [getD_set _ _ _ _ _ hlt]
      simp only [upL]
      by_cases hj : j = i
      · subst hj; simp
      · have : Nat.beq j i = false := by
          cases hb : Nat.beq j i with
          | true => exact absurd (Nat.eq_of_beq_eq_true hb) hj
          | false => rfl
        rw [if_neg hj, this]
        rfl
    have hcl' : Closed l.toArray (fun j => (listed.setIfInBounds i true).getD j false) := by
      rw [hL]
      intro j oj hoj hLj
      simp only [upL] at hLj
      refine DepsL.of fun e he hb => ?_
      have hold : listed.getD e.on false = true := by
        cases hb2 : Nat.beq j i with
        | true =>
          have := Nat.eq_of_beq_eq_true hb2
          subst this
          have : oj = o := by rw [ho] at hoj; cases hoj; rfl
          subst this
          exact h3 e he hb
        | false =>
          rw [hb2] at hLj
          exact (hcl j oj hoj hLj).mem e he hb
      simp only [upL]
      cases Nat.beq e.on i with
      | true => rfl
      | false => exact hold
    have hcnt' : (listed.setIfInBounds i true).toList.count false ≤ fuel := by
      have h5 : listed.toList[i]? = some false := by
        have h2' : listed[i] = false := by simpa [Array.getD, hlt] using h2
        simp [hlt, h2']
      have h6 : (listed.setIfInBounds i true).toList = listed.toList.set i true := by simp
      rw [h6]
      have h7 := List.count_set (a := true) (b := false) (l := listed.toList) (i := i) (by simpa using hlt)
      have h8 : listed.toList[i]'(by simpa using hlt) = false := by
        have := List.getElem?_eq_some_iff.1 h5
        exact this.2
      have hpos : 0 < listed.toList.count false := List.count_pos_iff.2 (List.mem_of_getElem? h5)
      rw [h7, h8]
      show (List.count false listed.toList - 1) + 0 ≤ fuel
      omega
    have hK := fun a' w' (r' : Rel P ok0 w0 n σ' a' w') => ih (listed.setIfInBounds i true) a' w' (by simpa using hsz) hcnt' hcl' (by rw [hL]; exact himp _ _ _ _ r')
    have := hstep ok0 w0 a w r _ Q hK
    unfold wpOp
    rw [ho]
    simp only
    split
    · rename_i hw; rw [if_pos hw] at this; exact .inl this
    · rename_i hw; rw [if_neg hw] at this; exact this

theorem Rel.drew {ok0 : OkX} {w0 w : World} {a : Act} (r : Rel P ok0 w0 n σ a w) : Rel P ok0 w0 n σ a { w with drawn := w.drawn + 1 } := by
  obtain ⟨β, r⟩ := r
  exact ⟨β, (r.grow (w' := { w with drawn := w.drawn + 1 }) ⟨rfl, rfl, rfl, Nat.le_refl _, fun _ _ => rfl⟩).1⟩

theorem CW.draw {id : Nat} {l : List Oper} (S : (Nat → Bool) → St) (hm : P.follows .mixedOrders = true) (hback : backGo 0 l = true) (h0 : Imp P n σ (S fun _ => false)) (hd : DrawL P n l.toArray S 0 l)
    (hfin : ∀ L : Nat → Bool, (∀ i, i < l.length → L i = true) → Ψ .normal (S L)) : CW P n (.region id l.toArray true) σ Ψ := fun ok0 w0 a w r Q hQ => by
  refine wp_region_any hm ?_
  have hrep : ∀ j, (Array.replicate l.toArray.size false).getD j false = false := by
    intro j
    simp only [Array.getD]
    split
    · simp
    · rfl
  have hf : (fun j => (Array.replicate l.toArray.size false).getD j false) = fun _ => false := funext hrep
  refine draw_any hback hd (fun L hL a' w' r' => hQ _ _ _ _ (hfin L hL) r') _ _ a _ (by simp) ?_ ?_ ?_
  · refine Nat.le_trans (List.count_le_length) (by simp)
  · rw [hf]
    intro j oj _ hc
    cases hc
  · rw [hf]
    exact h0 _ _ _ _ r.drew
end
end Go.Am
