/- The table of the abstract machine for the fixed example, and its run. -/
import Derived.Test.YtacpcknpliomoaaGreatAm20
import Derived.Test.YtacpcknpliomoaaGreatAmEnv
import Derived.KernelRfl
set_option linter.unusedVariables false
set_option linter.unusedSimpArgs false
namespace Go.Proofs.YtacpcknpliomoaaGreat.Aw
open Go.Am Go.RowKit
set_option maxRecDepth 100000
noncomputable def env : Env := {
  dt := dtL
  fns := fun f => fnsL[f]?
  keep := fun f k => match keepL[f]? with
    | some l => assocK l k
    | none => none
  raw := fun f => memB f rawL
  own := fun f => memB f ownL
  lnd := fun f => memB f lndL
  nest := fun o => match o.dst with
    | some d => memB d [] && memB o.type []
    | none => false
  rdo := fun f => memB f []
  sld := fun o => match o.dst with
    | some d => memB d [] && memB o.type []
    | none => false
  npk := fun T => memB T []
  orc := fun f => none }
theorem bset {A : Type} {b : Bool} {x y z : A} (h : (bif b then x else y) = z) : (b = true ∧ x = z) ∨ (b = false ∧ y = z) := by cases b <;> simp_all
theorem fns_ok : (Tryz.prog.funcs.toList.take fnsL.length = fnsL) ∧ (fnsL.all fun fn => !(fn.name == "runtime.NumGoroutine")) = true := ⟨by kernel_rfl, by kernel_rfl⟩
theorem env_ok : EnvOK Tryz.prog env := {
  fns := fun f fn h => by
    have h : fnsL[f]? = some fn := h
    refine ⟨?_, ?_⟩
    · rw [← fns_ok.1, List.getElem?_take] at h
      split at h
      · rw [Array.getElem?_toList] at h; exact h
      · cases h
    · have := List.all_eq_true.1 fns_ok.2 fn (List.mem_of_getElem? h)
      simpa using this
  orc := fun f oc args objs q h1 h2 => by
    have h1 : (none) = some oc := h1
    cases h1
  mix := by kernel_rfl }
end Go.Proofs.YtacpcknpliomoaaGreat.Aw
