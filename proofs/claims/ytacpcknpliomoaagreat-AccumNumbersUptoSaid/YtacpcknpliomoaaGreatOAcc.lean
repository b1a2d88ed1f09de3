/- Accumulators: the rule of an operator; the value of the expression of a path, for a document with an integer. -/
import Derived.Test.YtacpcknpliomoaaGreatAwEnv
set_option linter.unusedVariables false
set_option linter.unusedSimpArgs false
namespace Go.Proofs.YtacpcknpliomoaaGreat
open Go.RowKit Go.Am
def ruleOfM {R : Type} (args : List AV) (objs : List Ob) (K : Res → Option R) : Option R := match args, objs with
  | [.dat T0 d], [] => bif Nat.beq T0 3 then
      (bif d.toInt == 1 then K (.tup [.ifc 85 (.agg 85 []), .dat 4 (.bool true)], []) else
      bif d.toInt == 2 then K (.tup [.ifc 86 (.agg 86 []), .dat 4 (.bool true)], []) else
      bif d.toInt == 3 then K (.tup [.ifc 87 (.agg 87 []), .dat 4 (.bool true)], []) else
      bif d.toInt == 4 then K (.tup [.ifc 89 (.agg 89 [.dat 3 (.int 1)]), .dat 4 (.bool true)], []) else
      bif d.toInt == 5 then K (.tup [.ifc 89 (.agg 89 [.dat 3 (.int (-1))]), .dat 4 (.bool true)], []) else
      bif d.toInt == 6 then K (.tup [.ifc 90 (.agg 90 []), .dat 4 (.bool true)], []) else
      bif d.toInt == 7 then K (.tup [.ifc 91 (.agg 91 []), .dat 4 (.bool true)], []) else
      bif d.toInt == 8 then K (.tup [.ifc 92 (.agg 92 []), .dat 4 (.bool true)], []) else
      bif d.toInt == 9 then K (.tup [.ifc 93 (.agg 93 []), .dat 4 (.bool true)], []) else
      bif d.toInt == 10 then K (.tup [.ifc 94 (.agg 94 []), .dat 4 (.bool true)], []) else
      K (.tup [.nif true, .dat 4 (.bool false)], [])) else none
  | _, _ => none
set_option maxRecDepth 1000000 in
theorem ruleOf_run (x : Int) : run Tryz.prog Aw.env 60 37 [.dat 3 (.int x)] [] =
      (bif x == 1 then some (.tup [.ifc 85 (.agg 85 []), .dat 4 (.bool true)], []) else
      bif x == 2 then some (.tup [.ifc 86 (.agg 86 []), .dat 4 (.bool true)], []) else
      bif x == 3 then some (.tup [.ifc 87 (.agg 87 []), .dat 4 (.bool true)], []) else
      bif x == 4 then some (.tup [.ifc 89 (.agg 89 [.dat 3 (.int 1)]), .dat 4 (.bool true)], []) else
      bif x == 5 then some (.tup [.ifc 89 (.agg 89 [.dat 3 (.int (-1))]), .dat 4 (.bool true)], []) else
      bif x == 6 then some (.tup [.ifc 90 (.agg 90 []), .dat 4 (.bool true)], []) else
      bif x == 7 then some (.tup [.ifc 91 (.agg 91 []), .dat 4 (.bool true)], []) else
      bif x == 8 then some (.tup [.ifc 92 (.agg 92 []), .dat 4 (.bool true)], []) else
      bif x == 9 then some (.tup [.ifc 93 (.agg 93 []), .dat 4 (.bool true)], []) else
      bif x == 10 then some (.tup [.ifc 94 (.agg 94 []), .dat 4 (.bool true)], []) else
      some (.tup [.nif true, .dat 4 (.bool false)], [])) := by kernel_rfl
theorem ruleOfM_ok {R : Type} {args : List AV} {objs : List Ob} {K : Res → Option R} {r : R} (h : ruleOfM args objs K = some r) : ∃ q : Res, K q = some r ∧ FX Tryz.prog 37 args objs q.1 q.2 ∧ HasBody Tryz.prog 37 := by
  unfold ruleOfM at h
  split at h
  · rename_i T0 d
    obtain ⟨h1, h2⟩ := bif_some h
    have e := beq_eq h1
    subst e
    have hr := ruleOf_run d.toInt
    have go : ∀ q, run Tryz.prog Aw.env 60 37 [.dat 3 (.int d.toInt)] [] = some q → K q = some r → ∃ q : Res, K q = some r ∧ FX Tryz.prog 37 [.dat 3 d] [] q.1 q.2 ∧ HasBody Tryz.prog 37 := fun q hq hk =>
      ⟨q, hk, (run_sound Aw.env_ok 60 37 _ _ q hq).1.conv (.cons (.of (.dat (.int Tryz.underlying3)) rfl rfl) .nil) .nil, (run_sound Aw.env_ok 60 37 _ _ q hq).2⟩
    rcases Aw.bset h2 with ⟨hb, h2⟩ | ⟨hb, h2⟩
    · rw [hb] at hr; exact go _ hr h2
    rw [hb, cond_false] at hr
    rcases Aw.bset h2 with ⟨hb, h2⟩ | ⟨hb, h2⟩
    · rw [hb] at hr; exact go _ hr h2
    rw [hb, cond_false] at hr
    rcases Aw.bset h2 with ⟨hb, h2⟩ | ⟨hb, h2⟩
    · rw [hb] at hr; exact go _ hr h2
    rw [hb, cond_false] at hr
    rcases Aw.bset h2 with ⟨hb, h2⟩ | ⟨hb, h2⟩
    · rw [hb] at hr; exact go _ hr h2
    rw [hb, cond_false] at hr
    rcases Aw.bset h2 with ⟨hb, h2⟩ | ⟨hb, h2⟩
    · rw [hb] at hr; exact go _ hr h2
    rw [hb, cond_false] at hr
    rcases Aw.bset h2 with ⟨hb, h2⟩ | ⟨hb, h2⟩
    · rw [hb] at hr; exact go _ hr h2
    rw [hb, cond_false] at hr
    rcases Aw.bset h2 with ⟨hb, h2⟩ | ⟨hb, h2⟩
    · rw [hb] at hr; exact go _ hr h2
    rw [hb, cond_false] at hr
    rcases Aw.bset h2 with ⟨hb, h2⟩ | ⟨hb, h2⟩
    · rw [hb] at hr; exact go _ hr h2
    rw [hb, cond_false] at hr
    rcases Aw.bset h2 with ⟨hb, h2⟩ | ⟨hb, h2⟩
    · rw [hb] at hr; exact go _ hr h2
    rw [hb, cond_false] at hr
    rcases Aw.bset h2 with ⟨hb, h2⟩ | ⟨hb, h2⟩
    · rw [hb] at hr; exact go _ hr h2
    rw [hb, cond_false] at hr
    exact go _ hr h2
  · cases h
/-- The expression of the path a. -/
def exA : Dt := .agg [.int 2, .lst [.str (ByteArray.mk (List.toArray [97]))], .str (ByteArray.mk (List.toArray [])), .lst [], .agg [.int 0, .int 0, .str (ByteArray.mk (List.toArray [])), .lst [], .lst []], .int 0, .lst []]
def inD (n : Int) : Dt := .agg [.int 3, .int n, .str (ByteArray.mk (List.toArray [])), .lst [], .lst []]
/-- The document with the integer n in the field a. -/
def doD (n : Int) : Dt := .agg [.int 5, .int 0, .str (ByteArray.mk (List.toArray [])), .lst [], .lst [.agg [.str (ByteArray.mk (List.toArray [97])), inD n]]]
set_option maxRecDepth 1000000 in
theorem eval_run (n : Int) : run Tryz.prog Aw.env 60 79 [.dat 38 exA, .dat 25 (doD n)] [] = some (.dat 25 (inD n), []) := by kernel_rfl
noncomputable def expr_EvalC (e d : Dt) : Option Dt := open Classical in if e = exA ∧ ∃ n, d = doD n then some (inD (Dt.I (Dt.fld ((Dt.L d 4).getD 0 (.int 0)) 1) 1)) else none
theorem expr_EvalC_eq (n : Int) : expr_EvalC exA (doD n) = some (inD n) := by
  unfold expr_EvalC
  rw [if_pos ⟨rfl, n, rfl⟩]
  rfl
theorem expr_EvalC_fx {e d r : Dt} (h : expr_EvalC e d = some r) : FX Tryz.prog 79 [.dat 38 e, .dat 25 d] [] (.dat 25 r) [] := by
  by_cases hc : e = exA ∧ ∃ n, d = doD n
  · obtain ⟨rfl, n, rfl⟩ := hc
    rw [expr_EvalC_eq] at h
    cases h
    exact (run_sound Aw.env_ok 60 79 _ _ _ (eval_run n)).1
  · unfold expr_EvalC at h
    rw [if_neg hc] at h
    cases h
/- Functions that are not needed: contracts that say nothing. -/
def strings_CompareN (_ _ : ByteArray) : Option Int := none
theorem strings_CompareN_fx {s t : ByteArray} {r : Int} (h : strings_CompareN s t = some r) : FX Tryz.prog 113 [.dat 9 (.str s), .dat 9 (.str t)] [] (.dat 3 (.int r)) [] := by cases h
def addN157 (_ _ _ _ : Dt) : Option Dt := none
theorem addN157_fx {a b c d r : Dt} (h : addN157 a b c d = some r) : FX Tryz.prog 157 [.dat 92 a, .dat 41 b, .dat 29 c, .dat 25 d] [] (.dat 29 r) [] := by cases h
def addN160 (_ _ _ _ : Dt) : Option Dt := none
theorem addN160_fx {a b c d r : Dt} (h : addN160 a b c d = some r) : FX Tryz.prog 160 [.dat 93 a, .dat 41 b, .dat 29 c, .dat 25 d] [] (.dat 29 r) [] := by cases h
def addN170 (_ _ _ _ : Dt) : Option Dt := none
theorem addN170_fx {a b c d r : Dt} (h : addN170 a b c d = some r) : FX Tryz.prog 170 [.dat 94 a, .dat 41 b, .dat 29 c, .dat 25 d] [] (.dat 29 r) [] := by cases h
def resN159 (_ _ : Dt) : Option Dt := none
theorem resN159_fx {a b r : Dt} (h : resN159 a b = some r) : FX Tryz.prog 159 [.dat 92 a, .dat 29 b] [] (.dat 25 r) [] := by cases h
def resN162 (_ _ : Dt) : Option Dt := none
theorem resN162_fx {a b r : Dt} (h : resN162 a b = some r) : FX Tryz.prog 162 [.dat 93 a, .dat 29 b] [] (.dat 25 r) [] := by cases h
def resN172 (_ _ : Dt) : Option Dt := none
theorem resN172_fx {a b r : Dt} (h : resN172 a b = some r) : FX Tryz.prog 172 [.dat 94 a, .dat 29 b] [] (.dat 25 r) [] := by cases h
end Go.Proofs.YtacpcknpliomoaaGreat
