/- The abstract machine, part 2: operations that leave memory as it is. -/
import Derived.Test.YtacpcknpliomoaaGreatAm1
set_option linter.unusedVariables false
set_option linter.unusedSimpArgs false
namespace Go.Am
open Go.RowKit

def OpOK (P : Program) (n : Nat) (o : Oper) (σ σ' : St) : Prop :=
  ∀ (ok0 : OkX) (w0 : World) (a : Act) (w : World), Rel P ok0 w0 n σ a w → ∀ (K : Act → World → Prop) (Q : Exit → Act → World → Prop),
    (∀ a' w', Rel P ok0 w0 n σ' a' w' → K a' w') → o.wp P a w K Q

def Ev (P : Program) (σ : St) (x : Operand) (v : AV) : Prop :=
  ∀ (ok0 : OkX) (w0 : World) (n : Nat) (a : Act) (w : World) (β : Nat → Option Value), RelB P ok0 w0 n σ a w β → RV P (okOf ok0 w0 w σ.hs β) w β v (a.eval x)

section
variable {P : Program} {n : Nat} {o : Oper} {σ σ' : St} {x y : Operand} {v : AV} {T : TypeId}

theorem Ev.tmp {t : Nat} (h : tk σ.ts t = v) : Ev P σ (.tmp t) v := fun _ _ _ _ _ _ r => h ▸ r.ts t

theorem aggT_of_not {d : TypeDesc} (hu : P.underlying T = some d) (hd : d.isRow = false) : aggT P T = false := by
  unfold aggT
  rw [hu]
  cases d <;> simp_all
theorem aggT_struct {fs : Array Field} (hu : P.underlying T = some (.struct fs)) : aggT P T = true := by
  unfold aggT
  rw [hu]

theorem aggT_array {m : Nat} {E : TypeId} (hu : P.underlying T = some (.array m E)) : aggT P T = true := by
  unfold aggT
  rw [hu]

theorem RV.dat_one {ok : Nat → Prop} {w : World} {β : Nat → Option Value} {d : Dt} {x : Value} (hu : aggT P T = false) : RV P ok w β (.dat T d) x ↔ RD P ok w T d [x] := by
  constructor
  · intro h
    have := h.2 (by simpa [AV.isAgg] using hu)
    cases this with
    | dat h => exact h
  · intro h
    exact ⟨fun hi => by simp [AV.isAgg, hu] at hi, fun _ => .dat h⟩
theorem RV.dat_agg {ok : Nat → Prop} {w : World} {β : Nat → Option Value} {d : Dt} {x : Value} (hu : aggT P T = true) : RV P ok w β (.dat T d) x ↔ ∃ cs : List Value, x = .agg cs.toArray ∧ RD P ok w T d cs := by
  constructor
  · intro h
    obtain ⟨cs, e, h⟩ := h.1 (by simpa [AV.isAgg] using hu)
    cases h with
    | dat h => exact ⟨cs, e, h⟩
  · rintro ⟨cs, e, h⟩
    exact ⟨fun _ => ⟨cs, e, .dat h⟩, fun hi => by simp [AV.isAgg, hu] at hi⟩

section
variable {ok : Nat → Prop} {w : World} {β : Nat → Option Value} {d : Dt} {x : Value}
theorem RV.int {k : IntKind} (hu : P.underlying T = some (.int k)) (h : RV P ok w β (.dat T d) x) : d = .int d.toInt ∧ x = .int k d.toInt ∧ k.min ≤ d.toInt ∧ d.toInt ≤ k.max := by
  have h' := (RV.dat_one (aggT_of_not hu rfl)).1 h
  obtain ⟨h1, h2, h3⟩ := h'.int_inv hu
  exact ⟨h1, by simpa using h2, h3⟩
theorem RV.bool (hu : P.underlying T = some .bool) (h : RV P ok w β (.dat T d) x) : d = .bool d.toBool ∧ x = .bool d.toBool := by
  have h' := (RV.dat_one (aggT_of_not hu rfl)).1 h
  obtain ⟨h1, h2⟩ := h'.bool_inv hu
  exact ⟨h1, by simpa using h2⟩
theorem RV.str (hu : P.underlying T = some .string) (h : RV P ok w β (.dat T d) x) : d = .str d.toStr ∧ x = .string d.toStr ∧ d.toStr.size ≤ maxLen := by
  have h' := (RV.dat_one (aggT_of_not hu rfl)).1 h
  obtain ⟨h1, h2, h3⟩ := h'.str_inv hu
  exact ⟨h1, by simpa using h2, h3⟩
theorem RV.mk_int {k : IntKind} {m : Int} (hu : P.underlying T = some (.int k)) (h1 : k.min ≤ m) (h2 : m ≤ k.max) : RV P ok w β (.dat T (.int m)) (.int k m) :=
  (RV.dat_one (aggT_of_not hu rfl)).2 (.int hu h1 h2)
theorem RV.mk_bool {b : Bool} (hu : P.underlying T = some .bool) : RV P ok w β (.dat T (.bool b)) (.bool b) :=
  (RV.dat_one (aggT_of_not hu rfl)).2 (.bool hu)
theorem RV.mk_str {s : ByteArray} (hu : P.underlying T = some .string) (hs : s.size ≤ maxLen) : RV P ok w β (.dat T (.str s)) (.string s) :=
  (RV.dat_one (aggT_of_not hu rfl)).2 (.str hu hs)
theorem RV.lst {E : TypeId} (hu : P.underlying T = some (.slice E)) (h : RV P ok w β (.dat T d) x) : d = .lst d.toLst ∧ RD P ok w T d [x] ∧ ∃ (a : Option Addr) (cap : Nat), x = .slice a d.toLst.length cap ∧ d.toLst.length ≤ cap ∧ cap ≤ maxLen := by
  have h' := (RV.dat_one (aggT_of_not hu rfl)).1 h
  obtain ⟨h1, a, cap, ad, g, h2, h3, h4, _⟩ := h'.lst_inv hu
  exact ⟨h1, h', a, cap, by simpa using h2, h3, h4⟩
end

theorem Ev.int {k : IntKind} {m : Int} (hu : P.underlying T = some (.int k)) (h1 : k.min ≤ m) (h2 : m ≤ k.max) : Ev P σ (.const (.int k m)) (.dat T (.int m)) :=
  fun _ _ _ _ _ _ _ => RV.mk_int hu h1 h2
theorem Ev.bool {b : Bool} (hu : P.underlying T = some .bool) : Ev P σ (.const (.bool b)) (.dat T (.bool b)) := fun _ _ _ _ _ _ _ => RV.mk_bool hu
theorem Ev.str {s : ByteArray} (hu : P.underlying T = some .string) (hs : s.size ≤ maxLen) : Ev P σ (.const (.string s)) (.dat T (.str s)) := fun _ _ _ _ _ _ _ => RV.mk_str hu hs
theorem Ev.fn {f : FuncId} : Ev P σ (.func f) (.fn f []) := fun _ _ _ _ _ _ _ => ⟨fun h => by simp [AV.isAgg] at h, fun _ => .fn (cv := #[]) rfl fun i av h => by simp at h⟩
theorem RD.nil {ok : Nat → Prop} {w : World} {E : TypeId} (hu : P.underlying T = some (.slice E)) : RD P ok w T (.lst []) [.slice none 0 0] :=
  .lst ⟨0, 0, none⟩ (fun _ => []) hu rfl (Nat.le_refl _) (by unfold maxLen; omega) (fun h => by omega) (fun i h => by omega) (fun i d h => by simp at h)
theorem Ev.nil {E : TypeId} (hu : P.underlying T = some (.slice E)) : Ev P σ (.const (.slice none 0 0)) (.dat T (.lst [])) :=
  fun _ _ _ _ _ _ _ => (RV.dat_one (aggT_of_not hu rfl)).2 (RD.nil hu)
theorem Ev.nils : Ev P σ (.const (.slice none 0 0)) (.nils T) := fun _ _ _ _ _ _ _ => ⟨fun hi => by simp [AV.isAgg] at hi, fun _ => .nils⟩
theorem Ev.unnil {E : TypeId} (h : Ev P σ x (.nils T)) (hu : P.underlying T = some (.slice E)) : Ev P σ x (.dat T (.lst [])) := fun ok0 w0 n a w β r => by
  have h1 := (h _ _ _ _ _ _ r).2 rfl
  generalize a.eval x = z at h1
  cases h1 with
  | nils => exact (RV.dat_one (aggT_of_not hu rfl)).2 (RD.nil hu)
/-- A constant struct: its cells are known. -/
theorem Ev.zero {d : Dt} {fs : Array Field} {cs : List Value} (hu : P.underlying T = some (.struct fs)) (h : ∀ (ok : Nat → Prop) (w : World), RD P ok w T d cs) : Ev P σ (.const (.agg cs.toArray)) (.dat T d) :=
  fun _ _ _ _ _ _ _ => (RV.dat_agg (aggT_struct hu)).2 ⟨cs, rfl, h _ _⟩

/-- Canonical forms. -/
theorem Ev.cint {k : IntKind} {d : Dt} (h : Ev P σ x (.dat T d)) (hu : P.underlying T = some (.int k)) : Ev P σ x (.dat T (.int d.toInt)) := fun ok0 w0 n a w β r => by
  have := h ok0 w0 n a w β r
  have e := (RV.int hu this).1
  rw [e] at this
  exact this
theorem Ev.cbool {d : Dt} (h : Ev P σ x (.dat T d)) (hu : P.underlying T = some .bool) : Ev P σ x (.dat T (.bool d.toBool)) := fun ok0 w0 n a w β r => by
  have := h ok0 w0 n a w β r
  have e := (RV.bool hu this).1
  rw [e] at this
  exact this
theorem Ev.cstr {d : Dt} (h : Ev P σ x (.dat T d)) (hu : P.underlying T = some .string) : Ev P σ x (.dat T (.str d.toStr)) := fun ok0 w0 n a w β r => by
  have := h ok0 w0 n a w β r
  have e := (RV.str hu this).1
  rw [e] at this
  exact this
theorem Ev.clst {E : TypeId} {d : Dt} (h : Ev P σ x (.dat T d)) (hu : P.underlying T = some (.slice E)) : Ev P σ x (.dat T (.lst d.toLst)) := fun ok0 w0 n a w β r => by
  have := h ok0 w0 n a w β r
  have e := (RV.lst hu this).1
  rw [e] at this
  exact this

/-- An operation that yields a value and leaves the world. -/
theorem opOK_val {d : Nat} (hd : o.dst = some d) (hn : d < n)
    (h : ∀ (ok0 : OkX) (w0 : World) (a : Act) (w : World) (β : Nat → Option Value), RelB P ok0 w0 n σ a w β → ∃ z, (execOp a.eval o).run P w = .ok (.value z) w ∧ RV P (okOf ok0 w0 w σ.hs β) w β v z) :
    OpOK P n o σ (σ.put d v) := by
  rintro ok0 w0 a w ⟨β, r⟩ K Q hK
  obtain ⟨z, hz, hv⟩ := h ok0 w0 a w β r
  unfold Oper.wp
  rw [hz, Oper.upon_value, hd]
  exact hK _ _ (Rel.put r hn hv)

theorem op_move {d : Nat} (ho : o.op = .move x) (hd : o.dst = some d) (hn : d < n) (hx : Ev P σ x v) : OpOK P n o σ (σ.put d v) :=
  opOK_val hd hn fun ok0 w0 a w β r => ⟨a.eval x, by simp [execOp, ho], hx _ _ _ _ _ _ r⟩
theorem op_assign {d : Nat} (ho : o.op = .assign x) (hd : o.dst = some d) (hn : d < n) (hx : Ev P σ x v) : OpOK P n o σ (σ.put d v) :=
  opOK_val hd hn fun ok0 w0 a w β r => ⟨a.eval x, by simp [execOp, ho], hx _ _ _ _ _ _ r⟩
theorem op_pick_true {c z : Operand} {d : Nat} {TB : TypeId} (ho : o.op = .pick c x z) (hd : o.dst = some d) (hn : d < n) (hu : P.underlying TB = some .bool) (hc : Ev P σ c (.dat TB (.bool true))) (hx : Ev P σ x v) : OpOK P n o σ (σ.put d v) :=
  opOK_val hd hn fun ok0 w0 a w β r => ⟨a.eval x, by
    have e := (RV.bool hu (hc _ _ _ _ _ _ r)).2
    simp [execOp, ho, e, Dt.toBool, asBool], hx _ _ _ _ _ _ r⟩
theorem op_pick_false {c z : Operand} {d : Nat} {TB : TypeId} (ho : o.op = .pick c z x) (hd : o.dst = some d) (hn : d < n) (hu : P.underlying TB = some .bool) (hc : Ev P σ c (.dat TB (.bool false))) (hx : Ev P σ x v) : OpOK P n o σ (σ.put d v) :=
  opOK_val hd hn fun ok0 w0 a w β r => ⟨a.eval x, by
    have e := (RV.bool hu (hc _ _ _ _ _ _ r)).2
    simp [execOp, ho, e, Dt.toBool, asBool], hx _ _ _ _ _ _ r⟩
theorem op_not {d : Nat} {b : Bool} {T' : TypeId} (ho : o.op = .unOp .not T' x) (hd : o.dst = some d) (hn : d < n) (hu : P.underlying T = some .bool) (hx : Ev P σ x (.dat T (.bool b))) : OpOK P n o σ (σ.put d (.dat T (.bool (!b)))) :=
  opOK_val hd hn fun ok0 w0 a w β r => ⟨.bool (!b), by
    have e := (RV.bool hu (hx _ _ _ _ _ _ r)).2
    simp [execOp, ho, e, Dt.toBool, Op.unary], RV.mk_bool hu⟩

theorem wrap_in (k : IntKind) (m : Int) : k.min ≤ k.wrap m ∧ k.wrap m ≤ k.max := by
  cases k <;> simp only [IntKind.wrap, IntKind.min, IntKind.max, IntKind.bits, IntKind.signed] <;> simp <;> (try split) <;> omega

/-- Two numbers of one kind. -/
theorem opOK_int2 {d : Nat} {k : IntKind} {op : BinOp} {T1 T2 T3 T4 : TypeId} {p q : Int} {z : Value} (ho : o.op = .binOp op T1 x y T2) (hd : o.dst = some d) (hn : d < n)
    (hu : P.underlying T3 = some (.int k)) (hu' : P.underlying T4 = some (.int k)) (hx : Ev P σ x (.dat T3 (.int p))) (hy : Ev P σ y (.dat T4 (.int q)))
    (hz : ∀ w, k.min ≤ p → p ≤ k.max → k.min ≤ q → q ≤ k.max → (binOp op T1 (.int k p) (.int k q)).run P w = .ok z w) (hv : ∀ (ok : Nat → Prop) (w : World) (β : Nat → Option Value), RV P ok w β v z) : OpOK P n o σ (σ.put d v) :=
  opOK_val hd hn fun ok0 w0 a w β r => by
    obtain ⟨_, e1, b1, b2⟩ := RV.int hu (hx _ _ _ _ _ _ r)
    obtain ⟨_, e2, b3, b4⟩ := RV.int hu' (hy _ _ _ _ _ _ r)
    simp only [Dt.toInt] at e1 e2 b1 b2 b3 b4
    refine ⟨z, ?_, hv _ _ _⟩
    have := hz w b1 b2 b3 b4
    unfold execOp
    simp only [ho, e1, e2]
    rw [Sem.run_bind]
    have hg : (eqGuard op T1 x y (.int k p) (.int k q)).run P w = .ok () w := by
      unfold eqGuard
      cases op <;> simp
    simp [Sem.run_bind, hg, this]
theorem op_add {d : Nat} {k : IntKind} {T1 T2 T3 T4 : TypeId} {p q : Int} (ho : o.op = .binOp .add T1 x y T2) (hd : o.dst = some d) (hn : d < n)
    (hu : P.underlying T3 = some (.int k)) (hu' : P.underlying T4 = some (.int k)) (hx : Ev P σ x (.dat T3 (.int p))) (hy : Ev P σ y (.dat T4 (.int q))) : OpOK P n o σ (σ.put d (.dat T3 (.int (k.wrap (p + q))))) :=
  opOK_int2 ho hd hn hu hu' hx hy (fun w _ _ _ _ => by simp [binOp, Op.intArith]) fun _ _ _ => RV.mk_int hu (wrap_in k _).1 (wrap_in k _).2
theorem op_sub {d : Nat} {k : IntKind} {T1 T2 T3 T4 : TypeId} {p q : Int} (ho : o.op = .binOp .sub T1 x y T2) (hd : o.dst = some d) (hn : d < n)
    (hu : P.underlying T3 = some (.int k)) (hu' : P.underlying T4 = some (.int k)) (hx : Ev P σ x (.dat T3 (.int p))) (hy : Ev P σ y (.dat T4 (.int q))) : OpOK P n o σ (σ.put d (.dat T3 (.int (k.wrap (p - q))))) :=
  opOK_int2 ho hd hn hu hu' hx hy (fun w _ _ _ _ => by simp [binOp, Op.intArith]) fun _ _ _ => RV.mk_int hu (wrap_in k _).1 (wrap_in k _).2
theorem op_mul {d : Nat} {k : IntKind} {T1 T2 T3 T4 : TypeId} {p q : Int} (ho : o.op = .binOp .mul T1 x y T2) (hd : o.dst = some d) (hn : d < n)
    (hu : P.underlying T3 = some (.int k)) (hu' : P.underlying T4 = some (.int k)) (hx : Ev P σ x (.dat T3 (.int p))) (hy : Ev P σ y (.dat T4 (.int q))) : OpOK P n o σ (σ.put d (.dat T3 (.int (k.wrap (p * q))))) :=
  opOK_int2 ho hd hn hu hu' hx hy (fun w _ _ _ _ => by simp [binOp, Op.intArith]) fun _ _ _ => RV.mk_int hu (wrap_in k _).1 (wrap_in k _).2
theorem op_quo {d : Nat} {k : IntKind} {T1 T2 T3 T4 : TypeId} {p q : Int} (ho : o.op = .binOp .quo T1 x y T2) (hd : o.dst = some d) (hn : d < n)
    (hu : P.underlying T3 = some (.int k)) (hu' : P.underlying T4 = some (.int k)) (hx : Ev P σ x (.dat T3 (.int p))) (hy : Ev P σ y (.dat T4 (.int q))) (hq : q ≠ 0) : OpOK P n o σ (σ.put d (.dat T3 (.int (k.wrap (p.tdiv q))))) :=
  opOK_int2 ho hd hn hu hu' hx hy (fun w _ _ _ _ => by simp [binOp, Op.intDiv, hq]) fun _ _ _ => RV.mk_int hu (wrap_in k _).1 (wrap_in k _).2
theorem tmod_in (k : IntKind) (p q : Int) (h1 : k.min ≤ p) (h2 : p ≤ k.max) : k.min ≤ p.tmod q ∧ p.tmod q ≤ k.max := by
  have h0 : k.min ≤ 0 ∧ 0 ≤ k.max := by cases k <;> simp [IntKind.min, IntKind.max, IntKind.signed, IntKind.bits]
  rcases Int.le_total 0 p with hp | hp
  · have a1 := Int.tmod_nonneg q hp
    have a2 : p.tmod q ≤ p := by
      have := Int.natAbs_tmod p q
      have h3 : p.natAbs % q.natAbs ≤ p.natAbs := Nat.mod_le _ _
      omega
    omega
  · have a1 : p.tmod q ≤ 0 := by
      have := Int.tmod_nonneg q (a := -p) (by omega)
      rw [Int.neg_tmod] at this
      omega
    have a2 : p ≤ p.tmod q := by
      have := Int.natAbs_tmod p q
      have h3 : p.natAbs % q.natAbs ≤ p.natAbs := Nat.mod_le _ _
      omega
    omega
theorem op_rem {d : Nat} {k : IntKind} {T1 T2 T3 T4 : TypeId} {p q : Int} (ho : o.op = .binOp .rem T1 x y T2) (hd : o.dst = some d) (hn : d < n)
    (hu : P.underlying T3 = some (.int k)) (hu' : P.underlying T4 = some (.int k)) (hx : Ev P σ x (.dat T3 (.int p))) (hy : Ev P σ y (.dat T4 (.int q))) (hq : q ≠ 0) : OpOK P n o σ (σ.put d (.dat T3 (.int (p.tmod q)))) :=
  opOK_val hd hn fun ok0 w0 a w β r => by
    obtain ⟨_, e1, b1, b2⟩ := RV.int hu (hx _ _ _ _ _ _ r)
    obtain ⟨_, e2, b3, b4⟩ := RV.int hu' (hy _ _ _ _ _ _ r)
    simp only [Dt.toInt] at e1 e2 b1 b2 b3 b4
    refine ⟨.int k (p.tmod q), ?_, RV.mk_int hu (tmod_in k p q b1 b2).1 (tmod_in k p q b1 b2).2⟩
    simp [execOp, ho, e1, e2, eqGuard, binOp, Op.intDiv, hq]
/-- Bits and shifts. -/
def andI (k : IntKind) (a b : Int) : Int := k.wrap (BitVec.ofInt k.bits a &&& BitVec.ofInt k.bits b).toNat
def orI (k : IntKind) (a b : Int) : Int := k.wrap (BitVec.ofInt k.bits a ||| BitVec.ofInt k.bits b).toNat
def xorI (k : IntKind) (a b : Int) : Int := k.wrap (BitVec.ofInt k.bits a ^^^ BitVec.ofInt k.bits b).toNat
def bicI (k : IntKind) (a b : Int) : Int := k.wrap (BitVec.ofInt k.bits a &&& ~~~BitVec.ofInt k.bits b).toNat
def shlI (k : IntKind) (a : Int) (n : Int) : Int := k.wrap (a * 2 ^ (Nat.min n.toNat k.bits))
def shrI (k : IntKind) (a : Int) (n : Int) : Int := a.fdiv (2 ^ (Nat.min n.toNat k.bits))
theorem op_and {d : Nat} {k : IntKind} {T1 T2 T3 T4 : TypeId} {p q : Int} (ho : o.op = .binOp .and T1 x y T2) (hd : o.dst = some d) (hn : d < n)
    (hu : P.underlying T3 = some (.int k)) (hu' : P.underlying T4 = some (.int k)) (hx : Ev P σ x (.dat T3 (.int p))) (hy : Ev P σ y (.dat T4 (.int q))) : OpOK P n o σ (σ.put d (.dat T3 (.int (andI k p q)))) :=
  opOK_int2 ho hd hn hu hu' hx hy (fun w _ _ _ _ => by simp [binOp, Op.intBits, andI]) fun _ _ _ => RV.mk_int hu (wrap_in k _).1 (wrap_in k _).2
theorem op_or {d : Nat} {k : IntKind} {T1 T2 T3 T4 : TypeId} {p q : Int} (ho : o.op = .binOp .or T1 x y T2) (hd : o.dst = some d) (hn : d < n)
    (hu : P.underlying T3 = some (.int k)) (hu' : P.underlying T4 = some (.int k)) (hx : Ev P σ x (.dat T3 (.int p))) (hy : Ev P σ y (.dat T4 (.int q))) : OpOK P n o σ (σ.put d (.dat T3 (.int (orI k p q)))) :=
  opOK_int2 ho hd hn hu hu' hx hy (fun w _ _ _ _ => by simp [binOp, Op.intBits, orI]) fun _ _ _ => RV.mk_int hu (wrap_in k _).1 (wrap_in k _).2
theorem op_xor {d : Nat} {k : IntKind} {T1 T2 T3 T4 : TypeId} {p q : Int} (ho : o.op = .binOp .xor T1 x y T2) (hd : o.dst = some d) (hn : d < n)
    (hu : P.underlying T3 = some (.int k)) (hu' : P.underlying T4 = some (.int k)) (hx : Ev P σ x (.dat T3 (.int p))) (hy : Ev P σ y (.dat T4 (.int q))) : OpOK P n o σ (σ.put d (.dat T3 (.int (xorI k p q)))) :=
  opOK_int2 ho hd hn hu hu' hx hy (fun w _ _ _ _ => by simp [binOp, Op.intBits, xorI]) fun _ _ _ => RV.mk_int hu (wrap_in k _).1 (wrap_in k _).2
theorem op_bic {d : Nat} {k : IntKind} {T1 T2 T3 T4 : TypeId} {p q : Int} (ho : o.op = .binOp .andNot T1 x y T2) (hd : o.dst = some d) (hn : d < n)
    (hu : P.underlying T3 = some (.int k)) (hu' : P.underlying T4 = some (.int k)) (hx : Ev P σ x (.dat T3 (.int p))) (hy : Ev P σ y (.dat T4 (.int q))) : OpOK P n o σ (σ.put d (.dat T3 (.int (bicI k p q)))) :=
  opOK_int2 ho hd hn hu hu' hx hy (fun w _ _ _ _ => by simp [binOp, Op.intBits, bicI]) fun _ _ _ => RV.mk_int hu (wrap_in k _).1 (wrap_in k _).2
theorem shr_in (k : IntKind) (a n : Int) (h1 : k.min ≤ a) (h2 : a ≤ k.max) : k.min ≤ shrI k a n ∧ shrI k a n ≤ k.max := by
  have h0 : k.min ≤ 0 ∧ 0 ≤ k.max := by cases k <;> simp [IntKind.min, IntKind.max, IntKind.signed, IntKind.bits]
  unfold shrI
  have hp : (1 : Int) ≤ 2 ^ (Nat.min n.toNat k.bits) := by
    have : 0 < 2 ^ (Nat.min n.toNat k.bits) := Nat.pow_pos (by omega)
    have h : ((2 ^ (Nat.min n.toNat k.bits) : Nat) : Int) = (2 : Int) ^ (Nat.min n.toNat k.bits) := by simp
    omega
  generalize (2 : Int) ^ (Nat.min n.toNat k.bits) = c at hp
  have hd := Int.mul_fdiv_add_fmod a c
  have hm := Int.fmod_nonneg_of_pos a (b := c) (by omega)
  have hm2 := Int.fmod_lt_of_pos a (b := c) (by omega)
  generalize a.fdiv c = t at hd
  generalize a.fmod c = u at *
  rcases Int.le_total 0 a with ha | ha
  · have ht : 0 ≤ t := by
      rcases Int.le_total 0 t with h | h
      · exact h
      · rcases Int.lt_or_le t 0 with h4 | h4
        · have := Int.mul_le_mul_of_nonneg_left (show t ≤ -1 by omega) (show (0 : Int) ≤ c by omega)
          omega
        · exact h4
    have := Int.mul_le_mul_of_nonneg_right hp ht
    omega
  · have ht : t ≤ 0 := by
      rcases Int.le_total t 0 with h | h
      · exact h
      · rcases Int.lt_or_le 0 t with h4 | h4
        · have := Int.mul_le_mul_of_nonneg_left (show 1 ≤ t by omega) (show (0 : Int) ≤ c by omega)
          omega
        · exact h4
    have h3 := Int.mul_le_mul_of_nonpos_right hp ht
    refine ⟨?_, by omega⟩
    rcases Int.lt_or_le t a with h | h
    · exfalso
      have := Int.mul_le_mul_of_nonneg_left (show t ≤ a - 1 by omega) (show (0 : Int) ≤ c by omega)
      have h5 := Int.mul_le_mul_of_nonpos_right hp ha
      rw [Int.mul_sub, Int.mul_one] at this
      omega
    · omega
theorem op_sh {d : Nat} {k k' : IntKind} {T1 T2 T3 T4 : TypeId} {p q : Int} {op : BinOp} {z : Int} (ho : o.op = .binOp op T1 x y T2) (hd : o.dst = some d) (hn : d < n)
    (hu : P.underlying T3 = some (.int k)) (hu' : P.underlying T4 = some (.int k')) (hx : Ev P σ x (.dat T3 (.int p))) (hy : Ev P σ y (.dat T4 (.int q))) (hq : 0 ≤ q) (hop : (op = .shl ∧ z = shlI k p q) ∨ (op = .shr ∧ z = shrI k p q)) : OpOK P n o σ (σ.put d (.dat T3 (.int z))) :=
  opOK_val hd hn fun ok0 w0 a w β r => by
    obtain ⟨_, e1, b1, b2⟩ := RV.int hu (hx _ _ _ _ _ _ r)
    obtain ⟨_, e2, b3, b4⟩ := RV.int hu' (hy _ _ _ _ _ _ r)
    simp only [Dt.toInt] at e1 e2 b1 b2 b3 b4
    have hq' : ¬ q < 0 := by omega
    rcases hop with ⟨rfl, rfl⟩ | ⟨rfl, rfl⟩
    · exact ⟨.int k (shlI k p q), by simp [execOp, ho, e1, e2, eqGuard, binOp, Op.shift, hq', shlI], RV.mk_int hu (wrap_in k _).1 (wrap_in k _).2⟩
    · exact ⟨.int k (shrI k p q), by simp [execOp, ho, e1, e2, eqGuard, binOp, Op.shift, hq', shrI], RV.mk_int hu (shr_in k p q b1 b2).1 (shr_in k p q b1 b2).2⟩
theorem op_lss {d : Nat} {k : IntKind} {T1 T2 T3 T4 TB : TypeId} {p q : Int} (ho : o.op = .binOp .lss T1 x y T2) (hd : o.dst = some d) (hn : d < n) (hb : P.underlying TB = some .bool)
    (hu : P.underlying T3 = some (.int k)) (hu' : P.underlying T4 = some (.int k)) (hx : Ev P σ x (.dat T3 (.int p))) (hy : Ev P σ y (.dat T4 (.int q))) : OpOK P n o σ (σ.put d (.dat TB (.bool (decide (p < q))))) :=
  opOK_int2 ho hd hn hu hu' hx hy (fun w _ _ _ _ => by simp [binOp, Op.intCmp]) fun _ _ _ => RV.mk_bool hb
theorem op_leq {d : Nat} {k : IntKind} {T1 T2 T3 T4 TB : TypeId} {p q : Int} (ho : o.op = .binOp .leq T1 x y T2) (hd : o.dst = some d) (hn : d < n) (hb : P.underlying TB = some .bool)
    (hu : P.underlying T3 = some (.int k)) (hu' : P.underlying T4 = some (.int k)) (hx : Ev P σ x (.dat T3 (.int p))) (hy : Ev P σ y (.dat T4 (.int q))) : OpOK P n o σ (σ.put d (.dat TB (.bool (decide (p ≤ q))))) :=
  opOK_int2 ho hd hn hu hu' hx hy (fun w _ _ _ _ => by simp [binOp, Op.intCmp]) fun _ _ _ => RV.mk_bool hb
theorem op_gtr {d : Nat} {k : IntKind} {T1 T2 T3 T4 TB : TypeId} {p q : Int} (ho : o.op = .binOp .gtr T1 x y T2) (hd : o.dst = some d) (hn : d < n) (hb : P.underlying TB = some .bool)
    (hu : P.underlying T3 = some (.int k)) (hu' : P.underlying T4 = some (.int k)) (hx : Ev P σ x (.dat T3 (.int p))) (hy : Ev P σ y (.dat T4 (.int q))) : OpOK P n o σ (σ.put d (.dat TB (.bool (decide (q < p))))) :=
  opOK_int2 ho hd hn hu hu' hx hy (fun w _ _ _ _ => by simp [binOp, Op.intCmp]) fun _ _ _ => RV.mk_bool hb
theorem op_geq {d : Nat} {k : IntKind} {T1 T2 T3 T4 TB : TypeId} {p q : Int} (ho : o.op = .binOp .geq T1 x y T2) (hd : o.dst = some d) (hn : d < n) (hb : P.underlying TB = some .bool)
    (hu : P.underlying T3 = some (.int k)) (hu' : P.underlying T4 = some (.int k)) (hx : Ev P σ x (.dat T3 (.int p))) (hy : Ev P σ y (.dat T4 (.int q))) : OpOK P n o σ (σ.put d (.dat TB (.bool (decide (q ≤ p))))) :=
  opOK_int2 ho hd hn hu hu' hx hy (fun w _ _ _ _ => by simp [binOp, Op.intCmp]) fun _ _ _ => RV.mk_bool hb
theorem op_eql {d : Nat} {k : IntKind} {T1 T2 T3 T4 TB : TypeId} {p q : Int} (ho : o.op = .binOp .eql T1 x y T2) (hd : o.dst = some d) (hn : d < n) (hb : P.underlying TB = some .bool)
    (hu : P.underlying T3 = some (.int k)) (hu' : P.underlying T4 = some (.int k)) (hx : Ev P σ x (.dat T3 (.int p))) (hy : Ev P σ y (.dat T4 (.int q))) : OpOK P n o σ (σ.put d (.dat TB (.bool (p == q)))) :=
  opOK_int2 ho hd hn hu hu' hx hy (fun w _ _ _ _ => by simp [binOp, Op.intCmp]) fun _ _ _ => RV.mk_bool hb
theorem op_neq {d : Nat} {k : IntKind} {T1 T2 T3 T4 TB : TypeId} {p q : Int} (ho : o.op = .binOp .neq T1 x y T2) (hd : o.dst = some d) (hn : d < n) (hb : P.underlying TB = some .bool)
    (hu : P.underlying T3 = some (.int k)) (hu' : P.underlying T4 = some (.int k)) (hx : Ev P σ x (.dat T3 (.int p))) (hy : Ev P σ y (.dat T4 (.int q))) : OpOK P n o σ (σ.put d (.dat TB (.bool (p != q)))) :=
  opOK_int2 ho hd hn hu hu' hx hy (fun w _ _ _ _ => by simp [binOp, Op.intCmp]) fun _ _ _ => RV.mk_bool hb

/-- Two strings. -/
theorem opOK_str2 {d : Nat} {op : BinOp} {T1 T2 T3 T4 : TypeId} {p q : ByteArray} {z : Value} (ho : o.op = .binOp op T1 x y T2) (hd : o.dst = some d) (hn : d < n)
    (hu : P.underlying T3 = some .string) (hu' : P.underlying T4 = some .string) (hx : Ev P σ x (.dat T3 (.str p))) (hy : Ev P σ y (.dat T4 (.str q)))
    (hz : ∀ w, p.size ≤ maxLen → q.size ≤ maxLen → (binOp op T1 (.string p) (.string q)).run P w = .ok z w) (hv : ∀ (ok : Nat → Prop) (w : World) (β : Nat → Option Value), RV P ok w β v z) : OpOK P n o σ (σ.put d v) :=
  opOK_val hd hn fun ok0 w0 a w β r => by
    obtain ⟨_, e1, b1⟩ := RV.str hu (hx _ _ _ _ _ _ r)
    obtain ⟨_, e2, b2⟩ := RV.str hu' (hy _ _ _ _ _ _ r)
    simp only [Dt.toStr] at e1 e2 b1 b2
    refine ⟨z, ?_, hv _ _ _⟩
    have := hz w b1 b2
    unfold execOp
    simp only [ho, e1, e2]
    rw [Sem.run_bind]
    have hg : (eqGuard op T1 x y (.string p) (.string q)).run P w = .ok () w := by
      unfold eqGuard
      cases op <;> simp
    simp [Sem.run_bind, hg, this]
theorem op_seq {d : Nat} {T1 T2 T3 T4 TB : TypeId} {p q : ByteArray} (ho : o.op = .binOp .eql T1 x y T2) (hd : o.dst = some d) (hn : d < n) (hb : P.underlying TB = some .bool)
    (hu : P.underlying T3 = some .string) (hu' : P.underlying T4 = some .string) (hx : Ev P σ x (.dat T3 (.str p))) (hy : Ev P σ y (.dat T4 (.str q))) : OpOK P n o σ (σ.put d (.dat TB (.bool (p.toList == q.toList)))) :=
  opOK_str2 ho hd hn hu hu' hx hy (fun w _ _ => by simp [binOp, Op.stringOp]) fun _ _ _ => RV.mk_bool hb
theorem op_sne {d : Nat} {T1 T2 T3 T4 TB : TypeId} {p q : ByteArray} (ho : o.op = .binOp .neq T1 x y T2) (hd : o.dst = some d) (hn : d < n) (hb : P.underlying TB = some .bool)
    (hu : P.underlying T3 = some .string) (hu' : P.underlying T4 = some .string) (hx : Ev P σ x (.dat T3 (.str p))) (hy : Ev P σ y (.dat T4 (.str q))) : OpOK P n o σ (σ.put d (.dat TB (.bool (!(p.toList == q.toList))))) :=
  opOK_str2 ho hd hn hu hu' hx hy (fun w _ _ => by simp [binOp, Op.stringOp]) fun _ _ _ => RV.mk_bool hb
theorem op_slt {d : Nat} {T1 T2 T3 T4 TB : TypeId} {p q : ByteArray} (ho : o.op = .binOp .lss T1 x y T2) (hd : o.dst = some d) (hn : d < n) (hb : P.underlying TB = some .bool)
    (hu : P.underlying T3 = some .string) (hu' : P.underlying T4 = some .string) (hx : Ev P σ x (.dat T3 (.str p))) (hy : Ev P σ y (.dat T4 (.str q))) : OpOK P n o σ (σ.put d (.dat TB (.bool (Op.bytesLess p.toList q.toList)))) :=
  opOK_str2 ho hd hn hu hu' hx hy (fun w _ _ => by simp [binOp, Op.stringOp]) fun _ _ _ => RV.mk_bool hb
theorem op_cat {d : Nat} {T1 T2 T3 T4 : TypeId} {p q : ByteArray} (ho : o.op = .binOp .add T1 x y T2) (hd : o.dst = some d) (hn : d < n)
    (hu : P.underlying T3 = some .string) (hu' : P.underlying T4 = some .string) (hx : Ev P σ x (.dat T3 (.str p))) (hy : Ev P σ y (.dat T4 (.str q))) (hs : p.size + q.size ≤ maxLen) : OpOK P n o σ (σ.put d (.dat T3 (.str (p ++ q)))) :=
  opOK_str2 ho hd hn hu hu' hx hy (fun w _ _ => by
    have h63 : ¬ (((p.size + q.size : Nat) : Int) > IntKind.i64.max) := by
      unfold maxLen at hs
      simp only [IntKind.max, IntKind.signed, IntKind.bits]
      simp
      omega
    simp only [binOp, Op.stringOp, h63, if_false, Sem.run_pure]) fun _ _ _ => RV.mk_str hu (by rw [ByteArray.size_append]; exact hs)

theorem run_equalIn_bool (w : World) {T1 : TypeId} (h1 : P.underlying T1 = some .bool) (d : Nat) (p q : Bool) : (Op.equalIn (d + 1) T1 (.bool p) (.bool q)).run P w = .ok (p == q) w := by
  simp [Op.equalIn, run_underlying h1]
theorem run_beq (w : World) {T1 : TypeId} (h1 : P.underlying T1 = some .bool) (p q : Bool) : (binOp .eql T1 (.bool p) (.bool q)).run P w = .ok (.bool (p == q)) w := by
  simp only [binOp]
  simp [Op.equal, Op.maxDepth, run_equalIn_bool w h1 9999]
theorem run_bne (w : World) {T1 : TypeId} (h1 : P.underlying T1 = some .bool) (p q : Bool) : (binOp .neq T1 (.bool p) (.bool q)).run P w = .ok (.bool (!(p == q))) w := by
  simp only [binOp]
  simp [Op.equal, Op.maxDepth, run_equalIn_bool w h1 9999]
theorem run_eqGuard_bool (w : World) (op : BinOp) (T1 : TypeId) (x y : Operand) (p q : Bool) : (eqGuard op T1 x y (.bool p) (.bool q)).run P w = .ok () w := by
  unfold eqGuard
  cases op <;> simp
/-- Two bools. -/
theorem op_beq {d : Nat} {T1 T2 T3 T4 TB : TypeId} {p q : Bool} (ho : o.op = .binOp .eql T1 x y T2) (hd : o.dst = some d) (hn : d < n) (hb : P.underlying TB = some .bool) (h1 : P.underlying T1 = some .bool)
    (hu : P.underlying T3 = some .bool) (hu' : P.underlying T4 = some .bool) (hx : Ev P σ x (.dat T3 (.bool p))) (hy : Ev P σ y (.dat T4 (.bool q))) : OpOK P n o σ (σ.put d (.dat TB (.bool (p == q)))) :=
  opOK_val hd hn fun ok0 w0 a w β r => by
    have e1 := (RV.bool hu (hx _ _ _ _ _ _ r)).2
    have e2 := (RV.bool hu' (hy _ _ _ _ _ _ r)).2
    simp only [Dt.toBool] at e1 e2
    refine ⟨.bool (p == q), ?_, RV.mk_bool hb⟩
    simp only [execOp, ho, e1, e2, Sem.run_bind, run_eqGuard_bool, Result.andThen_ok, run_beq w h1, Sem.run_pure]
theorem op_bne {d : Nat} {T1 T2 T3 T4 TB : TypeId} {p q : Bool} (ho : o.op = .binOp .neq T1 x y T2) (hd : o.dst = some d) (hn : d < n) (hb : P.underlying TB = some .bool) (h1 : P.underlying T1 = some .bool)
    (hu : P.underlying T3 = some .bool) (hu' : P.underlying T4 = some .bool) (hx : Ev P σ x (.dat T3 (.bool p))) (hy : Ev P σ y (.dat T4 (.bool q))) : OpOK P n o σ (σ.put d (.dat TB (.bool (!(p == q))))) :=
  opOK_val hd hn fun ok0 w0 a w β r => by
    have e1 := (RV.bool hu (hx _ _ _ _ _ _ r)).2
    have e2 := (RV.bool hu' (hy _ _ _ _ _ _ r)).2
    simp only [Dt.toBool] at e1 e2
    refine ⟨.bool (!(p == q)), ?_, RV.mk_bool hb⟩
    simp only [execOp, ho, e1, e2, Sem.run_bind, run_eqGuard_bool, Result.andThen_ok, run_bne w h1, Sem.run_pure]

theorem op_neg {d : Nat} {k : IntKind} {T1 T3 : TypeId} {p : Int} (ho : o.op = .unOp .neg T1 x) (hd : o.dst = some d) (hn : d < n)
    (hu : P.underlying T3 = some (.int k)) (hx : Ev P σ x (.dat T3 (.int p))) : OpOK P n o σ (σ.put d (.dat T3 (.int (k.wrap (0 - p))))) :=
  opOK_val hd hn fun ok0 w0 a w β r => by
    obtain ⟨_, e1, _⟩ := RV.int hu (hx _ _ _ _ _ _ r)
    simp only [Dt.toInt] at e1
    exact ⟨_, by simp [execOp, ho, e1, Op.unary, Op.intArith], RV.mk_int hu (wrap_in k _).1 (wrap_in k _).2⟩
/-- The complement of all bits. -/
def complI (k : IntKind) (a : Int) : Int := xorI k (if k.signed then -1 else k.max) a
theorem op_compl {d : Nat} {k : IntKind} {T1 T3 : TypeId} {p : Int} (ho : o.op = .unOp .xor T1 x) (hd : o.dst = some d) (hn : d < n)
    (hu : P.underlying T3 = some (.int k)) (hx : Ev P σ x (.dat T3 (.int p))) : OpOK P n o σ (σ.put d (.dat T3 (.int (complI k p)))) :=
  opOK_val hd hn fun ok0 w0 a w β r => by
    obtain ⟨_, e1, _⟩ := RV.int hu (hx _ _ _ _ _ _ r)
    simp only [Dt.toInt] at e1
    exact ⟨_, by simp [execOp, ho, e1, Op.unary, Op.intBits, complI, xorI], RV.mk_int hu (wrap_in k _).1 (wrap_in k _).2⟩
theorem op_conv_int {d : Nat} {k k' : IntKind} {S1 S2 T3 : TypeId} {p : Int} (ho : o.op = .convert S1 S2 x) (hd : o.dst = some d) (hn : d < n) (h1 : P.underlying S1 = some (.int k)) (h2 : P.underlying S2 = some (.int k'))
    (hu : P.underlying T3 = some (.int k)) (hx : Ev P σ x (.dat T3 (.int p))) : OpOK P n o σ (σ.put d (.dat S2 (.int (k'.wrap p)))) :=
  opOK_val hd hn fun ok0 w0 a w β r => by
    obtain ⟨_, e1, _⟩ := RV.int hu (hx _ _ _ _ _ _ r)
    simp only [Dt.toInt] at e1
    exact ⟨_, by simp [execOp, ho, e1, convert, run_underlying h1, run_underlying h2, Conv.intToInt], RV.mk_int h2 (wrap_in k' _).1 (wrap_in k' _).2⟩
theorem op_conv_str {d : Nat} {S1 S2 T3 : TypeId} {p : ByteArray} (ho : o.op = .convert S1 S2 x) (hd : o.dst = some d) (hn : d < n) (h1 : P.underlying S1 = some .string) (h2 : P.underlying S2 = some .string)
    (hu : P.underlying T3 = some .string) (hx : Ev P σ x (.dat T3 (.str p))) : OpOK P n o σ (σ.put d (.dat S2 (.str p))) :=
  opOK_val hd hn fun ok0 w0 a w β r => by
    obtain ⟨_, e1, b1⟩ := RV.str hu (hx _ _ _ _ _ _ r)
    simp only [Dt.toStr] at e1 b1
    exact ⟨_, by simp [execOp, ho, e1, convert, run_underlying h1, run_underlying h2], RV.mk_str h2 b1⟩

theorem i64_len {m : Nat} (h : m ≤ maxLen) : IntKind.i64.min ≤ (m : Int) ∧ (m : Int) ≤ IntKind.i64.max := by
  unfold maxLen at h
  simp only [IntKind.min, IntKind.max, IntKind.signed, IntKind.bits]
  simp
  omega
theorem op_len_str {d : Nat} {T3 TI T4 : TypeId} {p : ByteArray} (ho : o.op = .call { callee := .builtin .len, args := #[x], argTypes := #[T4] }) (hd : o.dst = some d) (hn : d < n)
    (hi : P.underlying TI = some (.int .i64)) (hu4 : P.underlying T4 = some .string) (hu : P.underlying T3 = some .string) (hx : Ev P σ x (.dat T3 (.str p))) : OpOK P n o σ (σ.put d (.dat TI (.int (p.size : Int)))) :=
  opOK_val hd hn fun ok0 w0 a w β r => by
    obtain ⟨_, e1, b1⟩ := RV.str hu (hx _ _ _ _ _ _ r)
    simp only [Dt.toStr] at e1 b1
    exact ⟨.int .i64 (p.size : Int), by simp [execOp, ho, e1, resolve, invoke, builtin, Builtin.len_, run_underlying hu4, goInt], RV.mk_int hi (i64_len b1).1 (i64_len b1).2⟩
theorem op_len_lst {d : Nat} {T3 TI T4 E E' : TypeId} {es : List Dt} (ho : o.op = .call { callee := .builtin .len, args := #[x], argTypes := #[T4] }) (hd : o.dst = some d) (hn : d < n)
    (hi : P.underlying TI = some (.int .i64)) (hu4 : P.underlying T4 = some (.slice E')) (hu : P.underlying T3 = some (.slice E)) (hx : Ev P σ x (.dat T3 (.lst es))) : OpOK P n o σ (σ.put d (.dat TI (.int (es.length : Int)))) :=
  opOK_val hd hn fun ok0 w0 a w β r => by
    obtain ⟨_, _, a0, cap, e1, b1, b2⟩ := RV.lst hu (hx _ _ _ _ _ _ r)
    simp only [Dt.toLst] at e1 b1 b2
    exact ⟨.int .i64 (es.length : Int), by simp [execOp, ho, e1, resolve, invoke, builtin, Builtin.len_, run_underlying hu4, goInt], RV.mk_int hi (i64_len (by omega)).1 (i64_len (by omega)).2⟩
theorem row_eval {ok : Nat → Prop} {w : World} {β : Nat → Option Value} {l : Nat} {z : Value} (h : RV P ok w β (.row l) z) : β l = some z := by
  have h' := h.2 rfl
  cases h' with
  | row h => exact h
theorem ob_row {ok : Nat → Prop} {w : World} {β : Nat → Option Value} {es : List Dt} {z : Value} (h : ObOK P ok w β (.row T es) (some z)) : ∃ (E : TypeId) (xs : List Value), P.underlying T = some (.slice E) ∧ w.ownsRow 0 E (P.cellsOf E) z es.length xs ∧ (∀ c ∈ xs, c.oneCell' = true) ∧
      ∀ (i : Nat) (d : Dt), es[i]? = some d → RD P ok w E d ((xs.drop (i * P.cellsOf E)).take (P.cellsOf E)) := by
  obtain ⟨E, z', xs, e, h⟩ := h
  cases e
  exact ⟨E, xs, h⟩
theorem op_len_row {d l : Nat} {TI T4 E' T3 : TypeId} {es : List Dt} (ho : o.op = .call { callee := .builtin .len, args := #[x], argTypes := #[T4] }) (hd : o.dst = some d) (hn : d < n)
    (hi : P.underlying TI = some (.int .i64)) (hu4 : P.underlying T4 = some (.slice E')) (hx : Ev P σ x (.row l)) (hl : lk σ.hs l = .row T3 es) : OpOK P n o σ (σ.put d (.dat TI (.int (es.length : Int)))) :=
  opOK_val hd hn fun ok0 w0 a w β r => by
    have e1 := row_eval (hx _ _ _ _ _ _ r)
    have hob := r.hs l
    rw [hl, e1] at hob
    obtain ⟨E, xs, _, hown, _⟩ := ob_row hob
    have hz : ∃ a0 cap, a.eval x = .slice a0 es.length cap ∧ es.length ≤ maxLen := by
      rcases hown.2 with ⟨h1, h2⟩ | ⟨g, cap, cur, h1, _, _, h3, h4, _⟩
      · exact ⟨none, 0, by rw [h1, h2], by rw [h2]; exact Nat.zero_le _⟩
      · exact ⟨_, cap, h1, by omega⟩
    obtain ⟨a0, cap, e2, b⟩ := hz
    exact ⟨.int .i64 (es.length : Int), by simp [execOp, ho, e2, resolve, invoke, builtin, Builtin.len_, run_underlying hu4, goInt], RV.mk_int hi (i64_len b).1 (i64_len b).2⟩
/-- A row that has become plain data. -/
theorem Ev.frz {l : Nat} {es : List Dt} (h : Ev P σ x (.row l)) (hl : lk σ.hs l = .frz T es) : Ev P σ x (.dat T (.lst es)) := fun ok0 w0 n a w β r => by
  have e := row_eval (h _ _ _ _ _ _ r)
  have hob := r.hs l
  rw [hl, e] at hob
  obtain ⟨z, e2, hu, hr⟩ := hob
  cases e2
  exact (RV.dat_one hu).2 hr

/-- A byte of a string. -/
theorem op_index_str {d : Nat} {T3 T4 TI TU : TypeId} {p : ByteArray} {i : Int} {k : IntKind} (ho : o.op = .index T4 x y) (hd : o.dst = some d) (hn : d < n) (hi : P.underlying TI = some (.int k)) (hub : P.underlying TU = some (.int .u8))
    (hu4 : P.underlying T4 = some .string) (hu : P.underlying T3 = some .string) (hx : Ev P σ x (.dat T3 (.str p))) (hy : Ev P σ y (.dat TI (.int i))) {c : UInt8} (h0 : 0 ≤ i) (hc : p[i.toNat]? = some c) :
    OpOK P n o σ (σ.put d (.dat TU (.int (c.toNat : Int)))) :=
  opOK_val hd hn fun ok0 w0 a w β r => by
    obtain ⟨_, e1, b1⟩ := RV.str hu (hx _ _ _ _ _ _ r)
    obtain ⟨_, e2, _⟩ := RV.int hi (hy _ _ _ _ _ _ r)
    simp only [Dt.toStr, Dt.toInt] at e1 e2 b1
    refine ⟨.int .u8 (c.toNat : Int), by simp [execOp, ho, e1, e2, Instr.index, asIntOf, run_underlying hu4, h0, hc], RV.mk_int hub ?_ ?_⟩
    · simp [IntKind.min, IntKind.signed]
    · have := c.toNat_lt
      simp [IntKind.max, IntKind.signed, IntKind.bits]
      omega

/-- A component of several results. -/
theorem op_extract {d i : Nat} {vs : List AV} (ho : o.op = .extract x i) (hd : o.dst = some d) (hn : d < n) (hx : Ev P σ x (.tup vs)) (hv : vs[i]? = some v) (ht : ∀ us, v ≠ .tup us) : OpOK P n o σ (σ.put d v) :=
  opOK_val hd hn fun ok0 w0 a w β r => by
    obtain ⟨arr, e, hs, h⟩ := hx _ _ _ _ _ _ r
    have hi : i < arr.size := by rw [hs]; exact (List.getElem?_eq_some_iff.1 hv).1
    refine ⟨arr.getD i undef, ?_, (h i v hv).toRV ht⟩
    simp [execOp, ho, e, Instr.extract, Array.getD, hi]
end
end Go.Am
