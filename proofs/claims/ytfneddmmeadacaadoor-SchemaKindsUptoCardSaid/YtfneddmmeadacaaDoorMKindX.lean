/- The law on schemas of one kind, as a contract. -/
import Derived.Test.YtfneddmmeadacaaDoorMKindL
import Derived.Test.YtfneddmmeadacaaDoorFx
set_option linter.unusedVariables false
set_option linter.unusedSimpArgs false
namespace Go.Proofs.YtfneddmmeadacaaDoor
open Go.Am
theorem skinds_fx {ds : List Dt} (h : HasTys Tryd.prog Tryd.f6.params.toList ds) (hb : Dt.bulkL ds ≤ 1048576) : FX Tryd.prog 6 (dats Tryd.f6.params.toList ds) [] (.dat 4 (.bool true)) [] := by
  have h' : HasTys Tryd.prog [5, 25] ds := h
  cases h' with
  | @cons _ n _ _ h1 r =>
    cases r with
    | @cons _ d _ _ h2 r =>
      cases r
      simp only [Dt.bulkL] at hb
      obtain ⟨e, r1, r2⟩ := ty_int Tryd.underlying5 h1
      simp only [IntKind.min, IntKind.max, IntKind.signed, IntKind.bits] at r1 r2
      rw [e]
      exact law14_SchemaKinds_fx 400000000000 (ct_ok 400000000000) _ _ (law_skinds _ ⟨by simpa using r1, by simp at r2; omega⟩ d (wv_of h2) (by omega))
end Go.Proofs.YtfneddmmeadacaaDoor
