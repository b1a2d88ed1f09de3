/- Data of the seat's types, taken apart. -/
import Derived.Test.YtacpcknpliomoaaGreatAm21
import Derived.Test.YtacpcknpliomoaaGreatProg
set_option linter.unusedVariables false
set_option linter.unusedSimpArgs false
namespace Go.Proofs.YtacpcknpliomoaaGreat
open Go.Am
theorem ty_int {T : TypeId} {k : IntKind} {P : Program} {d : Dt} (hu : P.underlying T = some (.int k)) (h : HasTy P T d) : d = .int d.toInt ∧ k.min ≤ d.toInt ∧ d.toInt ≤ k.max := by
  obtain ⟨_, _, _, h⟩ := h
  obtain ⟨h1, _, h2, h3⟩ := h.int_inv hu
  exact ⟨h1, h2, h3⟩
theorem ty_bool {T : TypeId} {P : Program} {d : Dt} (hu : P.underlying T = some .bool) (h : HasTy P T d) : d = .bool d.toBool := by
  obtain ⟨_, _, _, h⟩ := h
  exact (h.bool_inv hu).1
theorem ty_str {T : TypeId} {P : Program} {d : Dt} (hu : P.underlying T = some .string) (h : HasTy P T d) : d = .str d.toStr ∧ d.toStr.size ≤ maxLen := by
  obtain ⟨_, _, _, h⟩ := h
  exact ⟨(h.str_inv hu).1, (h.str_inv hu).2.2⟩
theorem ty_lst {T E : TypeId} {P : Program} {d : Dt} (hu : P.underlying T = some (.slice E)) (h : HasTy P T d) : d = .lst d.toLst ∧ d.toLst.length ≤ maxLen ∧ ∀ e ∈ d.toLst, HasTy P E e := by
  obtain ⟨ok, w, _, h⟩ := h
  obtain ⟨h1, a, cap, ad, g, _, h2, h3, _, _, h4⟩ := h.lst_inv hu
  refine ⟨h1, Nat.le_trans h2 h3, fun e he => ?_⟩
  obtain ⟨i, hi⟩ := List.getElem?_of_mem he
  exact ⟨ok, w, _, h4 i e hi⟩
theorem ty_agg {T : TypeId} {fs : Array Field} {P : Program} {d : Dt} (hu : P.underlying T = some (.struct fs)) (h : HasTy P T d) : (∃ ds, d = .agg ds ∧ ds.length = fs.size) ∧ ∀ i f, fs[i]? = some f → HasTy P f.type (d.fld i) := by
  obtain ⟨ok, w, _, h⟩ := h
  obtain ⟨h1, _, _, h2⟩ := h.agg_inv hu
  exact ⟨h1, fun i f hf => ⟨ok, w, _, h2 i f hf⟩⟩
end Go.Proofs.YtacpcknpliomoaaGreat
