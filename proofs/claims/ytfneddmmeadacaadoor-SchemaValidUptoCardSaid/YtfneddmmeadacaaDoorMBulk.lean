/- How much the parts of a datum hold. -/
import Derived.Test.YtfneddmmeadacaaDoorMTy
set_option linter.unusedVariables false
set_option linter.unusedSimpArgs false
namespace Go.Proofs.YtfneddmmeadacaaDoor
open Go.Am
theorem bulk_posA (d : Dt) : 1 ≤ d.bulk := by cases d <;> simp [Dt.bulk]
theorem bulk_memA {e : Dt} : ∀ {l : List Dt}, e ∈ l → e.bulk ≤ Dt.bulkL l
  | a :: r, h => by
    simp only [Dt.bulkL]
    rcases List.mem_cons.1 h with rfl | h
    · omega
    · have := bulk_memA h; omega
theorem len_bulkA : ∀ l : List Dt, l.length ≤ Dt.bulkL l
  | [] => by simp [Dt.bulkL]
  | a :: r => by have := len_bulkA r; have := bulk_posA a; simp only [Dt.bulkL, List.length_cons]; omega
theorem fld_bulk (d : Dt) (i : Nat) : (Dt.fld d i).bulk ≤ d.bulk := by
  cases d with
  | agg ds =>
    simp only [Dt.fld, Dt.bulk, List.getD]
    cases h : ds[i]? with
    | none => simp [Dt.bulk]
    | some e => have := bulk_memA (List.mem_of_getElem? h); simp; omega
  | _ => simp only [Dt.fld, Dt.bulk]; omega
theorem L_bulk (d : Dt) (i : Nat) : Dt.bulkL (Dt.L d i) < d.bulk := by
  have h := fld_bulk d i
  unfold Dt.L
  cases e : Dt.fld d i with
  | lst es => rw [e] at h; simp only [Dt.bulk] at h; simp only [Dt.toLst]; omega
  | _ => have := bulk_posA d; simp only [Dt.toLst, Dt.bulkL]; omega
theorem L_mem {d e : Dt} {i : Nat} (h : e ∈ Dt.L d i) : e.bulk < d.bulk := by
  have := L_bulk d i
  have := bulk_memA h
  omega
theorem L_len (d : Dt) (i : Nat) : (Dt.L d i).length < d.bulk := by
  have := L_bulk d i
  have := len_bulkA (Dt.L d i)
  omega
theorem S_size (d : Dt) (i : Nat) : (Dt.S d i).size < d.bulk := by
  have h := fld_bulk d i
  unfold Dt.S
  cases e : Dt.fld d i with
  | str s => rw [e] at h; simp only [Dt.bulk] at h; simp only [Dt.toStr]; omega
  | _ => have := bulk_posA d; simp only [Dt.toStr]; exact Nat.lt_of_lt_of_le (by decide) this
end Go.Proofs.YtfneddmmeadacaaDoor
