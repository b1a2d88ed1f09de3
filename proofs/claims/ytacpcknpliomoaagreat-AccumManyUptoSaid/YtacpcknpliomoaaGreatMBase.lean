/- Small facts on the primitive functions of the shallow texts. -/
import Derived.Test.YtacpcknpliomoaaGreatAm20
set_option linter.unusedVariables false
set_option linter.unusedSimpArgs false
namespace Go.Am
theorem wrap64 {n : Int} (h1 : -9223372036854775808 ≤ n) (h2 : n ≤ 9223372036854775807) : IntKind.wrap IntKind.i64 n = n := by
  unfold IntKind.wrap
  simp only [IntKind.bits, IntKind.signed, Bool.true_and, Nat.add_one_sub_one]
  split <;> rename_i h <;> simp only [ge_iff_le, decide_eq_true_eq] at h <;> omega
theorem wrapS {i : Nat} (h : i < 9223372036854775807) : IntKind.wrap IntKind.i64 ((i : Int) + 1) = ((i + 1 : Nat) : Int) := by rw [wrap64 (by omega) (by omega)]; omega
theorem idx_lt {l : List Dt} {i : Nat} (h : i < l.length) : idx l (i : Int) = some l[i] := by
  unfold idx
  rw [if_pos (by omega)]
  simp [h]
theorem idxS_lt {s : ByteArray} {i : Nat} (h : i < s.size) : idxS s (i : Int) = some ((s[i]).toNat : Int) := by
  unfold idxS
  rw [if_pos (by omega)]
  simp [h]
theorem cutL_nat {l : List Dt} {i j : Nat} (h1 : i ≤ j) (h2 : j ≤ l.length) : cutL l (i : Int) (j : Int) = some ((l.drop i).take (j - i)) := by
  unfold cutL
  rw [if_pos (by omega)]
  simp
theorem cutL_zero {l : List Dt} {j : Nat} (h2 : j ≤ l.length) : cutL l 0 (j : Int) = some (l.take j) := by
  have := cutL_nat (l := l) (i := 0) (j := j) (by omega) h2
  simpa using this
theorem cutS_nat {s : ByteArray} {i j : Nat} (h1 : i ≤ j) (h2 : j ≤ s.size) : cutS s (i : Int) (j : Int) = some (s.extract i j) := by
  unfold cutS
  rw [if_pos (by omega)]
  simp
theorem app_le {l r : List Dt} (h : l.length + r.length ≤ 137438953472) : app l r = some (l ++ r) := by unfold app; rw [if_pos h]
theorem dlt {i j : Nat} : decide ((i : Int) < (j : Int)) = decide (i < j) := by simp
theorem dle {i j : Nat} : decide ((i : Int) ≤ (j : Int)) = decide (i ≤ j) := by simp
theorem ieq {i j : Nat} : (((i : Int) == (j : Int)) : Bool) = (i == j) := by
  rw [Bool.eq_iff_iff]; simp; omega
end Go.Am
