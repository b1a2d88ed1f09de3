/- The fixed example of the package: awake() answers true. -/
import Derived.Test.YtacpcknpliomoaaGreatAwEnv
set_option linter.unusedVariables false
set_option linter.unusedSimpArgs false
namespace Go.Proofs.YtacpcknpliomoaaGreat
open Go.RowKit Go.Am
set_option maxRecDepth 1000000 in
theorem awake_run : run Tryz.prog Aw.env 60 9 [] [] = some (.dat 4 (.bool true), []) := by kernel_rfl
theorem awake_fx : FX Tryz.prog 9 [] [] (.dat 4 (.bool true)) [] := (run_sound Aw.env_ok 60 9 [] [] _ awake_run).1
theorem awake_body : HasBody Tryz.prog 9 := (run_sound Aw.env_ok 60 9 [] [] _ awake_run).2
def awakeC : Option Bool := some true
theorem awakeC_fx {r : Bool} (h : awakeC = some r) : FX Tryz.prog 9 [] [] (.dat 4 (.bool r)) [] := by
  cases h
  exact awake_fx
end Go.Proofs.YtacpcknpliomoaaGreat
