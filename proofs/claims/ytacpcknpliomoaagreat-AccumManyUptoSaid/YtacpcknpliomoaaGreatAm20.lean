/- The abstract machine, part 20: values in their plain forms (a type's data as Lean values). -/
import Derived.Test.YtacpcknpliomoaaGreatAm19
set_option linter.unusedVariables false
set_option linter.unusedSimpArgs false
namespace Go.Am
open Go.RowKit
section
variable {P : Program} {T : TypeId} {A : Type} {u v : AV} {us vs : List AV}
/-- A type's data as Lean values. -/
structure Cv (P : Program) (T : TypeId) (f : Dt → A) (g : A → Dt) : Prop where
  rd : ∀ (ok : Nat → Prop) (w : World) (cs : List Value) (d : Dt), RD P ok w T d cs → RD P ok w T (g (f d)) cs
theorem Cv.int {k : IntKind} (hu : P.underlying T = some (.int k)) : Cv P T Dt.toInt Dt.int := ⟨fun _ _ _ _ h => by have := (h.int_inv hu).1; rw [← this]; exact h⟩
theorem Cv.bool (hu : P.underlying T = some .bool) : Cv P T Dt.toBool Dt.bool := ⟨fun _ _ _ _ h => by have := (h.bool_inv hu).1; rw [← this]; exact h⟩
theorem Cv.str (hu : P.underlying T = some .string) : Cv P T Dt.toStr Dt.str := ⟨fun _ _ _ _ h => by have := (h.str_inv hu).1; rw [← this]; exact h⟩
theorem Cv.lst {E : TypeId} (hu : P.underlying T = some (.slice E)) : Cv P T Dt.toLst Dt.lst := ⟨fun _ _ _ _ h => by have := (h.lst_inv hu).1; rw [← this]; exact h⟩
theorem Cv.dt : Cv P T (fun d : Dt => d) (fun d => d) := ⟨fun _ _ _ _ h => h⟩

/-- 'v' is what 'u' is, in plainer form. -/
structure Cn (P : Program) (u v : AV) : Prop where
  ra : ∀ (ok : Nat → Prop) (w : World) (β : Nat → Option Value) (cs : List Value), RA P ok w β u cs → RA P ok w β v cs
  ag : v.isAgg P = u.isAgg P
theorem Cn.same : Cn P u u := ⟨fun _ _ _ _ h => h, rfl⟩
theorem Cn.dat {f : Dt → A} {g : A → Dt} {d : Dt} (h : Cv P T f g) : Cn P (.dat T d) (.dat T (g (f d))) :=
  ⟨fun ok w β cs hr => by cases hr with | dat hr => exact .dat (h.rd ok w cs d hr), rfl⟩
structure CnL (P : Program) (us vs : List AV) : Prop where
  len : vs.length = us.length
  get : ∀ (i : Nat) (v : AV), vs[i]? = some v → ∃ u, us[i]? = some u ∧ Cn P u v
theorem CnL.nil : CnL P [] [] := ⟨rfl, fun i v h => by simp at h⟩
theorem CnL.cons (h : Cn P u v) (r : CnL P us vs) : CnL P (u :: us) (v :: vs) := ⟨by simp [r.len], fun i x hx => by
  cases i with
  | zero => simp only [List.getElem?_cons_zero, Option.some.injEq] at hx; subst hx; exact ⟨u, rfl, h⟩
  | succ i => simpa using r.get i x (by simpa using hx)⟩
theorem Cn.agg (h : CnL P us vs) : Cn P (.agg T us) (.agg T vs) := ⟨fun ok w β cs hr => by
  cases hr with
  | agg hu hl hc h1 hh =>
    refine .agg hu (by rw [h.len]; exact hl) hc h1 fun i f v hf hv => ?_
    obtain ⟨u, h2, h3⟩ := h.get i v hv
    exact h3.ra _ _ _ _ (hh i f u hf h2), rfl⟩
theorem Cn.fn {f : FuncId} (h : CnL P us vs) : Cn P (.fn f us) (.fn f vs) := ⟨fun ok w β cs hr => by
  cases hr with
  | fn hl hh =>
    refine .fn (by rw [h.len]; exact hl) fun i v hv => ?_
    obtain ⟨u, h2, h3⟩ := h.get i v hv
    exact h3.ra _ _ _ _ (hh i u h2), rfl⟩
theorem Cn.ifc (h : Cn P u v) : Cn P (.ifc T u) (.ifc T v) := ⟨fun ok w β cs hr => by
  cases hr with
  | ifc1 hi hh => exact .ifc1 (by rw [h.ag]; exact hi) (h.ra _ _ _ _ hh)
  | ifcA hi hh => exact .ifcA (by rw [h.ag]; exact hi) (h.ra _ _ _ _ hh), rfl⟩
theorem Cn.rv1 (h : Cn P u v) {ok : Nat → Prop} {w : World} {β : Nat → Option Value} {z : Value} (hr : RV1 P ok w β u z) : RV1 P ok w β v z :=
  ⟨fun hi => by obtain ⟨cs, e, q⟩ := hr.1 (by rw [← h.ag]; exact hi); exact ⟨cs, e, h.ra _ _ _ _ q⟩, fun hi => h.ra _ _ _ _ (hr.2 (by rw [← h.ag]; exact hi))⟩
/-- The same, of results and arguments. -/
structure CnR (P : Program) (u v : AV) : Prop where
  rv : ∀ (ok : Nat → Prop) (w : World) (β : Nat → Option Value) (z : Value), RV P ok w β u z → RV P ok w β v z
def AV.plainB : AV → Bool
  | .tup _ => false
  | .dead => false
  | _ => true
theorem CnR.of (h : Cn P u v) (hu : u.plainB = true) (hv : v.plainB = true) : CnR P u v := ⟨fun ok w β z hz => by
  have h1 : RV1 P ok w β u z := RV.to1 (by rintro rfl; cases hu) (by rintro us rfl; cases hu) hz
  exact (h.rv1 h1).toRV (by rintro us rfl; cases hv)⟩
theorem CnR.same : CnR P u u := ⟨fun _ _ _ _ h => h⟩
theorem CnR.tup (h : CnL P us vs) : CnR P (.tup us) (.tup vs) := ⟨fun ok w β z hz => by
  obtain ⟨arr, e, hs, hr⟩ := hz
  refine ⟨arr, e, by rw [h.len]; exact hs, fun i v hv => ?_⟩
  obtain ⟨u, h2, h3⟩ := h.get i v hv
  exact h3.rv1 (hr i u h2)⟩
inductive CnA (P : Program) : List AV → List AV → Prop where
  | nil : CnA P [] []
  | cons {u v : AV} {us vs : List AV} (h : CnR P u v) (r : CnA P us vs) : CnA P (u :: us) (v :: vs)
theorem CnA.rvs (h : CnA P us vs) {ok : Nat → Prop} {w : World} {β : Nat → Option Value} : ∀ {zs : List Value}, RVsX P ok w β us zs → RVsX P ok w β vs zs := by
  induction h with
  | nil => intro zs h; exact h
  | cons hc _ ih =>
    intro zs hz
    cases hz with
    | cons h1 h2 => exact .cons (hc.rv _ _ _ _ h1) (ih h2)
/-- The same, of objects. -/
structure CnO (P : Program) (o o' : Ob) : Prop where
  own : o'.isOwn = o.isOwn
  obs : ∀ (ok : Nat → Prop) (w : World) (β : Nat → Option Value) (v : Option Value), ObOK P ok w β o v → ObOK P ok w β o' v
theorem CnO.same {o : Ob} : CnO P o o := ⟨rfl, fun _ _ _ _ h => h⟩
theorem CnO.box (h : Cn P u v) : CnO P (.box T u) (.box T v) := ⟨rfl, fun ok w β x ⟨b, cs, h1, h2, h3, h4⟩ => ⟨b, cs, h1, h2, h3, h.ra _ _ _ _ h4⟩⟩
inductive CnOL (P : Program) : List Ob → List Ob → Prop where
  | nil : CnOL P [] []
  | cons {o o' : Ob} {os os' : List Ob} (h : CnO P o o') (r : CnOL P os os') : CnOL P (o :: os) (o' :: os')
theorem CnOL.len {os os' : List Ob} (h : CnOL P os os') : os'.length = os.length := by
  induction h with
  | nil => rfl
  | cons _ _ ih => simp [ih]
theorem CnOL.get {os os' : List Ob} (h : CnOL P os os') : ∀ l, CnO P (lk os l) (lk os' l) := by
  induction h with
  | nil => intro l; exact .same
  | cons h _ ih =>
    intro l
    cases l with
    | zero => exact h
    | succ l => exact ih l
theorem Sim.of {a b : AV} {os os' : List Ob} (h : CnR P a b) (ho : CnOL P os os') : Sim P (a, os) (b, os') :=
  ⟨h.rv, fun l => (ho.get l).own, fun l => (ho.get l).obs⟩
theorem FX.conv {f : FuncId} {args args' : List AV} {objs objs' hs' : List Ob} {res : AV} (h : FX P f args' objs' res hs') (ha : CnA P args args') (ho : CnOL P objs objs') : FX P f args objs res hs' := by
  intro ok w β zs h1 h2 h3 h4 h5
  have hown : ∀ l b, owns objs' β l b ↔ owns objs β l b := fun l b => by simp only [owns, (ho.get l).own]
  have hX : XO objs' β = XO objs β := by
    funext b
    apply propext
    exact ⟨fun ⟨l, hl⟩ => ⟨l, (hown l b).1 hl⟩, fun ⟨l, hl⟩ => ⟨l, (hown l b).2 hl⟩⟩
  have hc := h ok w β zs (fun b hb => by rw [hX]; exact h1 b hb) (fun l => (ho.get l).obs _ _ _ _ (h2 l)) (fun l l' b q1 q2 => h3 l l' b ((hown _ _).1 q1) ((hown _ _).1 q2)) (ha.rvs h4) h5
  refine hc.mono ?_
  rintro e w' ⟨v, β', rfl, hf, hr⟩
  obtain ⟨f1, f2, f3, f4, f5⟩ := hf
  rw [hX, ho.len] at f2 hr
  rw [hX] at f1
  exact ⟨v, β', rfl, ⟨f1, f2, f3, fun l b q => by have := f4 l b q; rwa [hX] at this, fun l hl => f5 l (by rw [ho.len]; exact hl)⟩, hr⟩
def natsB : List Nat → List Nat → Bool
  | [], [] => true
  | a :: r, b :: s => Nat.beq a b && natsB r s
  | _, _ => false
theorem natsB_eq : ∀ {a b : List Nat}, natsB a b = true → a = b
  | [], [], _ => rfl
  | a :: r, b :: s, h => by
    have h1 := beq_eq (and_l h)
    have h2 := natsB_eq (and_r h)
    rw [h1, h2]
  | [], _ :: _, h => by cases h
  | _ :: _, [], h => by cases h
end
end Go.Am
