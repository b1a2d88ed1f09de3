/- Accumulators: the rules of two operators (push, set); the value of the expression of a path, for a document with an integer. -/
import Derived.Test.YtacpcknpliomoaaGreatAwEnv
set_option linter.unusedVariables false
set_option linter.unusedSimpArgs false
namespace Go.Proofs.YtacpcknpliomoaaGreat
open Go.RowKit Go.Am
def ruleOfM {R : Type} (args : List AV) (objs : List Ob) (K : Res → Option R) : Option R := match args, objs with
  | [.dat T0 d], [] => bif Nat.beq T0 3 then
      (bif d.toInt == 8 then K (.tup [.ifc 92 (.agg 92 []), .dat 4 (.bool true)], []) else
      bif d.toInt == 9 then K (.tup [.ifc 93 (.agg 93 []), .dat 4 (.bool true)], []) else none) else none
  | _, _ => none
set_option maxRecDepth 1000000 in
theorem rule8_run : run Tryz.prog Aw.env 60 37 [.dat 3 (.int 8)] [] = some (.tup [.ifc 92 (.agg 92 []), .dat 4 (.bool true)], []) := by kernel_rfl
set_option maxRecDepth 1000000 in
theorem rule9_run : run Tryz.prog Aw.env 60 37 [.dat 3 (.int 9)] [] = some (.tup [.ifc 93 (.agg 93 []), .dat 4 (.bool true)], []) := by kernel_rfl
theorem ruleOfM_ok {R : Type} {args : List AV} {objs : List Ob} {K : Res → Option R} {r : R} (h : ruleOfM args objs K = some r) : ∃ q : Res, K q = some r ∧ FX Tryz.prog 37 args objs q.1 q.2 ∧ HasBody Tryz.prog 37 := by
  unfold ruleOfM at h
  split at h
  · rename_i T0 d
    obtain ⟨h1, h2⟩ := bif_some h
    have e := beq_eq h1
    subst e
    have go : ∀ (x : Int) q, (d.toInt == x) = true → run Tryz.prog Aw.env 60 37 [.dat 3 (.int x)] [] = some q → K q = some r → ∃ q : Res, K q = some r ∧ FX Tryz.prog 37 [.dat 3 d] [] q.1 q.2 ∧ HasBody Tryz.prog 37 := fun x q hx hq hk => by
      have hx : d.toInt = x := by simpa using hx
      subst hx
      exact ⟨q, hk, (run_sound Aw.env_ok 60 37 _ _ q hq).1.conv (.cons (.of (.dat (.int Tryz.underlying3)) rfl rfl) .nil) .nil, (run_sound Aw.env_ok 60 37 _ _ q hq).2⟩
    rcases Aw.bset h2 with ⟨hb, h2⟩ | ⟨hb, h2⟩
    · exact go 8 _ hb rule8_run h2
    rcases Aw.bset h2 with ⟨hb, h2⟩ | ⟨hb, h2⟩
    · exact go 9 _ hb rule9_run h2
    · cases h2
  · cases h
/-- The expression of the path a. -/
def exA : Dt := .agg [.int 2, .lst [.str (ByteArray.mk (List.toArray [97]))], .str (ByteArray.mk (List.toArray [])), .lst [], .agg [.int 0, .int 0, .str (ByteArray.mk (List.toArray [])), .lst [], .lst []], .int 0, .lst []]
def inD (n : Int) : Dt := .agg [.int 3, .int n, .str (ByteArray.mk (List.toArray [])), .lst [], .lst []]
/-- The document with the integer n in the field a. -/
def doD (n : Int) : Dt := .agg [.int 5, .int 0, .str (ByteArray.mk (List.toArray [])), .lst [], .lst [.agg [.str (ByteArray.mk (List.toArray [97])), inD n]]]
set_option maxRecDepth 1000000 in
theorem eval_run (n : Int) : run Tryz.prog Aw.env 60 79 [.dat 38 exA, .dat 25 (doD n)] [] = some (.dat 25 (inD n), []) := by kernel_rfl
noncomputable def expr_EvalC (e d : Dt) : Option Dt := open Classical in if e = exA ∧ ∃ n, d = doD n then some (inD (Dt.I (Dt.fld ((Dt.L d 4).getD 0 (.int 0)) 1) 1)) else none
theorem expr_EvalC_eq (n : Int) : expr_EvalC exA (doD n) = some (inD n) := by
  unfold expr_EvalC
  rw [if_pos ⟨rfl, n, rfl⟩]
  rfl
theorem expr_EvalC_fx {e d r : Dt} (h : expr_EvalC e d = some r) : FX Tryz.prog 79 [.dat 38 e, .dat 25 d] [] (.dat 25 r) [] := by
  by_cases hc : e = exA ∧ ∃ n, d = doD n
  · obtain ⟨rfl, n, rfl⟩ := hc
    rw [expr_EvalC_eq] at h
    cases h
    exact (run_sound Aw.env_ok 60 79 _ _ _ (eval_run n)).1
  · unfold expr_EvalC at h
    rw [if_neg hc] at h
    cases h
/- Functions that are not needed: contracts that say nothing. -/
def strings_CompareN (_ _ : ByteArray) : Option Int := none
theorem strings_CompareN_fx {s t : ByteArray} {r : Int} (h : strings_CompareN s t = some r) : FX Tryz.prog 113 [.dat 9 (.str s), .dat 9 (.str t)] [] (.dat 3 (.int r)) [] := by cases h
end Go.Proofs.YtacpcknpliomoaaGreat
