/- The abstract machine: equality of structs of two integers. -/
import Derived.Test.YtacpcknpliomoaaGreatAm2
import Derived.Laws.StructEq
import Derived.ChangeKeysEq
set_option linter.unusedVariables false
set_option linter.unusedSimpArgs false
namespace Go.Am
open Go.RowKit
/-- A struct type of two integers. -/
def ptOK (P : Program) (T : TypeId) : Bool := match P.underlying T with
  | some (.struct fs) => match fs.toList with
    | [f, g] => match P.underlying f.type with
      | some (.int _) => (f.name != "_" && (g.name != "_" && (Nat.beq g.type f.type && (Nat.beq f.offset 0 && (Nat.beq g.offset 1 && (Nat.beq (P.cellsOf T) 2 && (Nat.beq (P.cellsOf f.type) 1 && (!(P.stoodInHeld T) && !(P.eqGuardType P.depth T)))))))))
      | _ => false
    | _ => false
  | _ => false
def ptE (p q : Dt) : Bool := ((p.fld 0).toInt == (q.fld 0).toInt) && ((p.fld 1).toInt == (q.fld 1).toInt)
structure PtOK (P : Program) (T : TypeId) (fs : Array Field) (f g : Field) (k : IntKind) : Prop where
  hu : P.underlying T = some (.struct fs)
  hl : fs.toList = [f, g]
  hi : P.underlying f.type = some (.int k)
  n1 : f.name ≠ "_"
  n2 : g.name ≠ "_"
  ty : g.type = f.type
  o1 : f.offset = 0
  o2 : g.offset = 1
  c2 : P.cellsOf T = 2
  c1 : P.cellsOf f.type = 1
  st : P.stoodInHeld T = false
  eg : P.eqGuardType P.depth T = false
theorem ptOK_some {P : Program} {T : TypeId} (h : ptOK P T = true) : ∃ fs f g k, PtOK P T fs f g k := by
  unfold ptOK at h
  split at h
  · rename_i fs hu
    split at h
    · rename_i f g hl
      split at h
      · rename_i k hi
        simp only [Bool.and_eq_true, bne_iff_ne, ne_eq, Bool.not_eq_true'] at h
        obtain ⟨h1, h2, h3, h4, h5, h6, h7, h8, h9⟩ := h
        exact ⟨fs, f, g, k, hu, hl, hi, h1, h2, Nat.eq_of_beq_eq_true h3, Nat.eq_of_beq_eq_true h4, Nat.eq_of_beq_eq_true h5, Nat.eq_of_beq_eq_true h6, Nat.eq_of_beq_eq_true h7, h8, h9⟩
      · cases h
    · cases h
  · cases h
section
variable {P : Program} {n : Nat} {o : Oper} {σ σ' : St} {x y : Operand} {v : AV} {T : TypeId}
theorem PtOK.cells {fs : Array Field} {f g : Field} {k : IntKind} {ok : Nat → Prop} {w : World} {d : Dt} {cs : List Value} (h : PtOK P T fs f g k) (hr : RD P ok w T d cs) : cs = [.int k (d.fld 0).toInt, .int k (d.fld 1).toInt] := by
  obtain ⟨_, hc, _, hf⟩ := hr.agg_inv h.hu
  have hs : fs = #[f, g] := by
    have := h.hl
    obtain ⟨l⟩ := fs
    simp only at this
    rw [this]
  subst hs
  have r0 := hf 0 f rfl
  have r1 := hf 1 g rfl
  rw [h.ty] at r1
  rw [h.o1, h.c1] at r0
  rw [h.o2, h.c1] at r1
  rw [h.c2] at hc
  obtain ⟨_, e0, _⟩ := r0.int_inv h.hi
  obtain ⟨_, e1, _⟩ := r1.int_inv h.hi
  match cs, hc, e0, e1 with
  | [a, b], _, e0, e1 =>
    simp only [List.drop_zero, List.take_succ_cons, List.take_zero, List.cons.injEq, and_true, List.drop_succ_cons] at e0 e1
    rw [e0, e1]
theorem run_partInt {k : IntKind} {e : TypeId} (he : P.underlying e = some (.int k)) {xs : Array Value} {off : Nat} {z : Value} (hx : xs[off]? = some z) (w : World) : (part e xs off).run P w = .ok z w := by
  have ha : (isAgg e).run P w = .ok false w := by
    unfold isAgg
    simp [Sem.run_bind, run_underlying he]
  unfold part
  simp [Sem.run_bind, ha, hx]
theorem PtOK.run {fs : Array Field} {f g : Field} {k : IntKind} (h : PtOK P T fs f g k) (a b c d : Int) (w : World) : (Op.equalIn 10000 T (.agg #[.int k a, .int k b]) (.agg #[.int k c, .int k d])).run P w = .ok (a == c && b == d) w := by
  have hF : P.fieldsOf T = fs := by unfold Program.fieldsOf; rw [h.hu]
  rw [show (10000 : Nat) = 9999 + 1 from rfl, run_equalIn_struct w 9999 T _ _ (by rw [hF]; exact h.hu) h.st, hF, h.hl]
  have hi2 : P.underlying g.type = some (.int k) := by rw [h.ty]; exact h.hi
  have p1 : ∀ p q : Int, (part f.type #[.int k p, .int k q] f.offset).run P w = .ok (.int k p) w := fun p q => run_partInt h.hi (by rw [h.o1]; rfl) w
  have p2 : ∀ p q : Int, (part g.type #[.int k p, .int k q] g.offset).run P w = .ok (.int k q) w := fun p q => run_partInt hi2 (by rw [h.o2]; rfl) w
  have q1 := run_equalIn_int w 9998 f.type k k a c h.hi
  have q2 := run_equalIn_int w 9998 g.type k k b d hi2
  simp only [Op.eqFields, h.n1, h.n2, ne_eq, not_false_eq_true, if_true, Sem.run_bind, p1, p2, Result.andThen_ok, q1, q2, Sem.run_ite, Sem.run_pure]
  cases (a == c) <;> cases (b == d) <;> rfl
theorem op_pt {d : Nat} {op : BinOp} {T1 T2 TB : TypeId} {p q : Dt} {b : Bool} (ho : o.op = .binOp op T1 x y T2) (hd : o.dst = some d) (hn : d < n) (hb : P.underlying TB = some .bool) (hT : ptOK P T1 = true)
    (hx : Ev P σ x (.dat T1 p)) (hy : Ev P σ y (.dat T1 q)) (hop : (op = .eql ∧ b = ptE p q) ∨ (op = .neq ∧ b = !ptE p q)) : OpOK P n o σ (σ.put d (.dat TB (.bool b))) :=
  opOK_val hd hn fun ok0 w0 a w β r => by
    obtain ⟨fs, f, g, k, h⟩ := ptOK_some hT
    obtain ⟨c1, e1, r1⟩ := (RV.dat_agg (aggT_struct h.hu)).1 (hx _ _ _ _ _ _ r)
    obtain ⟨c2, e2, r2⟩ := (RV.dat_agg (aggT_struct h.hu)).1 (hy _ _ _ _ _ _ r)
    rw [h.cells r1] at e1
    rw [h.cells r2] at e2
    refine ⟨.bool b, ?_, RV.mk_bool hb⟩
    unfold execOp
    simp only [ho, e1, e2]
    rw [Sem.run_bind]
    have hg := run_eqGuard_agg w op T1 x y [.int k (p.fld 0).toInt, .int k (p.fld 1).toInt].toArray [.int k (q.fld 0).toInt, .int k (q.fld 1).toInt].toArray h.eg
    have hr := h.run (p.fld 0).toInt (p.fld 1).toInt (q.fld 0).toInt (q.fld 1).toInt w
    rcases hop with ⟨rfl, rfl⟩ | ⟨rfl, rfl⟩
    · have := run_eql_struct (P := P) w T1 #[.int k (p.fld 0).toInt, .int k (p.fld 1).toInt] #[.int k (q.fld 0).toInt, .int k (q.fld 1).toInt]
      rw [hr] at this
      simp [Sem.run_bind, hg, this, ptE]
    · have := run_neq_struct (P := P) w T1 #[.int k (p.fld 0).toInt, .int k (p.fld 1).toInt] #[.int k (q.fld 0).toInt, .int k (q.fld 1).toInt]
      rw [hr] at this
      simp [Sem.run_bind, hg, this, ptE]
end
end Go.Am
