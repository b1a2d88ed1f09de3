/- path.Number and the reference's, in plain Lean: they are one function, and it always answers. -/
import Derived.Test.YtacchdeihafmnaaDoorSh
import Derived.Test.YtacchdeihafmnaaDoorMBase
set_option linter.unusedVariables false
set_option linter.unusedSimpArgs false
namespace Go.Proofs.YtacchdeihafmnaaDoor
open Go.Am


theorem num_l2 (m : Nat) : ∀ (M : Nat) (s : ByteArray) (a i : Int), path_Number_l2 m M s a (s.size : Int) i = ref04_Number_l2 m M s a i
  | 0, _, _, _ => rfl
  | M + 1, s, a, i => by
    simp only [path_Number_l2, ref04_Number_l2, path_Number_j3, ref04_Number_j3, path_Number_j4, ref04_Number_j4, path_Number_j5, ref04_Number_j5, path_Number_j6, ref04_Number_j6, num_l2 m M, Int.mul_comm 10 a]
theorem num_eq (m : Nat) (s : ByteArray) : path_Number m s = ref04_Number m s := by
  cases m with
  | zero => rfl
  | succ m => simp only [path_Number, ref04_Number, path_Number_j0, ref04_Number_j0, path_Number_j1, ref04_Number_j1, num_l2]
theorem num_tot (m : Nat) (s : ByteArray) (hs : s.size ≤ 4) : ∀ (M i : Nat) (a : Int), i ≤ s.size → s.size - i < M → ∃ r, ref04_Number_l2 m M s a i = some r
  | 0, i, a, hi, h => by omega
  | M + 1, i, a, hi', h => by
    simp only [ref04_Number_l2]
    by_cases hi : i < s.size
    · have : decide ((i : Int) < (s.size : Int)) = true := by simp; omega
      simp only [this, cond_true, ref04_Number_j3, idxS_lt hi, Option.bind_some]
      have hw : IntKind.wrap IntKind.i64 ((i : Int) + 1) = ((i + 1 : Nat) : Int) := by rw [wrap64 (by omega) (by omega)]; omega
      cases decide (((s[i]).toNat : Int) < 48)
      · simp only [cond_false]
        cases decide ((57 : Int) < ((s[i]).toNat : Int))
        · simp only [cond_false, ref04_Number_j4, idxS_lt hi, Option.bind_some, ref04_Number_j5, hw]
          exact num_tot m s hs M (i + 1) _ (by omega) (by omega)
        · exact ⟨_, rfl⟩
      · exact ⟨_, rfl⟩
    · have : decide ((i : Int) < (s.size : Int)) = false := by simp; omega
      simp only [this, cond_false]
      exact ⟨_, rfl⟩
theorem num_some (m : Nat) (s : ByteArray) (hm : 4 ≤ m) : ∃ r, ref04_Number (m + 1) s = some r := by
  simp only [ref04_Number]
  by_cases h1 : s.size < 1
  · have : decide ((s.size : Int) < 1) = true := by simp; omega
    simp only [this, cond_true]
    exact ⟨_, rfl⟩
  have e1 : decide ((s.size : Int) < 1) = false := by simp; omega
  by_cases h2 : 4 < s.size
  · have : decide ((4 : Int) < (s.size : Int)) = true := by simp; omega
    simp only [e1, this, cond_true, cond_false]
    exact ⟨_, rfl⟩
  have e2 : decide ((4 : Int) < (s.size : Int)) = false := by simp; omega
  obtain ⟨r, hr⟩ := num_tot m s (by omega) (m + 1) 0 0 (by omega) (by omega)
  have hj : ref04_Number_j0 m s = some r := hr
  have hx := idxS_lt (s := s) (i := 0) (by omega)
  simp only [e1, e2, cond_false, hj, show idxS s 0 = _ from hx, Option.bind_some]
  cases (((s[0]).toNat : Int) == 48) <;> cases decide ((1 : Int) < (s.size : Int)) <;> exact ⟨_, rfl⟩
end Go.Proofs.YtacchdeihafmnaaDoor
