/- Names, in plain Lean. -/
import Derived.Test.YtfneddmmeadacaaDoorSh
import Derived.Test.YtfneddmmeadacaaDoorMBase
import Derived.Test.YtfneddmmeadacaaDoorMTy
set_option linter.unusedVariables false
set_option linter.unusedSimpArgs false
namespace Go.Proofs.YtfneddmmeadacaaDoor
open Go.Am

def okB (c : UInt8) : Bool := !(decide ((c.toNat : Int) < 33) || decide ((126 : Int) < c.toNat) || ((c.toNat : Int) == 46))
def nmL (l : List UInt8) : Bool := match l with
  | [] => false
  | c :: r => decide (r.length < 32) && !((c.toNat : Int) == 36) && (c :: r).all okB
def nm (s : ByteArray) : Bool := nmL s.data.toList
theorem getB (s : ByteArray) (i : Nat) (h : i < s.size) : s.data.toList.drop i = s[i] :: s.data.toList.drop (i + 1) := by
  rw [List.drop_eq_getElem_cons (show i < s.data.toList.length by simpa using h)]
  rfl
theorem lenB (s : ByteArray) : s.data.toList.length = s.size := by rw [Array.length_toList]; rfl

theorem name_loop (m : Nat) (s : ByteArray) (hs : s.size < 9223372036854775807) : ∀ (M i : Nat), i ≤ s.size → s.size - i < M → ref01_Name_l3 m M s (i : Int) = some ((s.data.toList.drop i).all okB)
  | 0, i, _, h => by omega
  | M + 1, i, hi, h => by
    simp only [ref01_Name_l3, dlt]
    by_cases hlt : i < s.size
    · rw [getB s i hlt]
      simp only [hlt, decide_true, cond_true, ref01_Name_j6, ref01_Name_j5, ref01_Name_j4, ref01_Name_j7, ref01_Name_j2, ref01_Name_j1, ref01_Name_j0, idxS_lt hlt, Option.bind_some, wrapS (show i < 9223372036854775807 by omega), name_loop m s hs M (i + 1) (by omega) (by omega), List.all_cons, okB]
      cases decide (((s[i]).toNat : Int) < 33) <;> cases decide ((126 : Int) < ((s[i]).toNat : Int)) <;> cases (((s[i]).toNat : Int) == 46) <;> rfl
    · have : i = s.size := by omega
      subst this
      rw [List.drop_eq_nil_of_le (by rw [lenB]; omega)]
      simp [ref01_Name_j6, ref01_Name_j5, ref01_Name_j4, ref01_Name_j7, ref01_Name_j2, ref01_Name_j1, ref01_Name_j0]
theorem nm_parts (s : ByteArray) (h1 : 1 ≤ s.size) (h2 : s.size ≤ 32) : nm s = (!(((s[0]).toNat : Int) == 36) && s.data.toList.all okB) := by
  have e := getB s 0 (by omega)
  have hl : (s.data.toList.drop 1).length < 32 := by rw [List.length_drop, lenB]; omega
  rw [List.drop_zero] at e
  unfold nm
  rw [e]
  simp only [Nat.zero_add] at hl ⊢
  unfold nmL
  simp only [hl, decide_true, Bool.true_and]
theorem nm_short (s : ByteArray) (h : s.size < 1) : nm s = false := by
  unfold nm
  have : s.data.toList = [] := List.eq_nil_of_length_eq_zero (by rw [lenB]; omega)
  rw [this]; rfl
theorem nm_long (s : ByteArray) (h : 32 < s.size) : nm s = false := by
  have e := getB s 0 (by omega)
  have hl : ¬ (s.data.toList.drop 1).length < 32 := by rw [List.length_drop, lenB]; omega
  rw [List.drop_zero] at e
  unfold nm
  rw [e]
  simp only [Nat.zero_add]
  unfold nmL
  simp only [hl, decide_false, Bool.false_and]
theorem name_eq (m : Nat) (hm : 33 ≤ m) (s : ByteArray) : ref01_Name (m + 1) s = some (nm s) := by
  simp only [ref01_Name]
  by_cases h1 : s.size < 1
  · have : decide ((s.size : Int) < 1) = true := by simp; omega
    simp only [this, cond_true, ref01_Name_j6, ref01_Name_j5, ref01_Name_j4, ref01_Name_j7, ref01_Name_j2, ref01_Name_j1, ref01_Name_j0, nm_short s h1]
  have e1 : decide ((s.size : Int) < 1) = false := by simp; omega
  by_cases h2 : 32 < s.size
  · have : decide ((32 : Int) < (s.size : Int)) = true := by simp; omega
    simp only [e1, this, cond_true, cond_false, ref01_Name_j6, ref01_Name_j5, ref01_Name_j4, ref01_Name_j7, ref01_Name_j2, ref01_Name_j1, ref01_Name_j0, nm_long s h2]
  have e2 : decide ((32 : Int) < (s.size : Int)) = false := by simp; omega
  have hx := idxS_lt (s := s) (i := 0) (by omega)
  have hl := name_loop m s (by omega) (m + 1) 0 (by omega) (by omega)
  rw [List.drop_zero] at hl
  have hl' : ref01_Name_l3 m (Nat.succ m) s 0 = some (s.data.toList.all okB) := hl
  simp only [e1, e2, cond_false, show idxS s 0 = _ from hx, Option.bind_some, ref01_Name_j6, ref01_Name_j5, ref01_Name_j4, ref01_Name_j7, ref01_Name_j2, ref01_Name_j1, ref01_Name_j0, hl', nm_parts s (by omega) (by omega)]
  cases (((s[0]).toNat : Int) == 36) <;> rfl

end Go.Proofs.YtfneddmmeadacaaDoor
