/- Equal lists of strings, in plain Lean. -/
import Derived.Test.YtacchdeihafmnaaDoorFx
import Derived.Test.YtacchdeihafmnaaDoorMBase
import Derived.Test.YtacchdeihafmnaaDoorMTy
set_option linter.unusedVariables false
set_option linter.unusedSimpArgs false
namespace Go.Proofs.YtacchdeihafmnaaDoor
open Go.Am

def eqS (a b : Dt) : Bool := a.toStr.toList == b.toStr.toList
theorem eqS_refl (a : Dt) : eqS a a = true := by simp [eqS]
theorem eqS_comm (a b : Dt) : eqS a b = eqS b a := by simp [eqS, Bool.beq_comm]
def pfx : List Dt → List Dt → Bool
  | [], _ => true
  | a :: r, b :: s => eqS a b && pfx r s
  | _ :: _, [] => false
theorem pfx_refl : ∀ a : List Dt, pfx a a = true
  | [] => rfl
  | a :: r => by simp [pfx, eqS_refl, pfx_refl r]
theorem pfx_comm : ∀ {a b : List Dt}, a.length = b.length → pfx a b = pfx b a
  | [], [], _ => rfl
  | a :: r, b :: s, h => by simp [pfx, eqS_comm a b, pfx_comm (a := r) (b := s) (by simpa using h)]
  | [], _ :: _, h => by simp at h
  | _ :: _, [], h => by simp at h
theorem pfx_take : ∀ {a b : List Dt}, a.length ≤ b.length → pfx a (b.take a.length) = pfx a b
  | [], _, _ => rfl
  | a :: r, b :: s, h => by simp [pfx, pfx_take (a := r) (b := s) (by simpa using h)]
  | _ :: _, [], h => by simp at h
theorem pfx_long : ∀ {a b : List Dt}, b.length < a.length → pfx a b = false
  | [], _, h => by simp at h
  | a :: r, b :: s, h => by simp [pfx, pfx_long (a := r) (b := s) (by simpa using h)]
  | _ :: _, [], _ => rfl

theorem equal_loop (m : Nat) (a b : List Dt) (hab : a.length = b.length) (hb : a.length < 9223372036854775807) : ∀ (M i : Nat), i ≤ a.length → a.length - i < M → slices_Equal_l2 m M a b (a.length : Int) (i : Int) = some (pfx (a.drop i) (b.drop i))
  | 0, i, _, h => by omega
  | M + 1, i, hi, h => by
    simp only [slices_Equal_l2, dlt]
    by_cases hlt : i < a.length
    · rw [List.drop_eq_getElem_cons hlt, List.drop_eq_getElem_cons (show i < b.length by omega)]
      simp only [hlt, decide_true, cond_true, slices_Equal_j3, slices_Equal_j4, idx_lt hlt, idx_lt (show i < b.length by omega), Option.bind_some, wrapS (show i < 9223372036854775807 by omega), equal_loop m a b hab hb M (i + 1) (by omega) (by omega), pfx, eqS]
      cases (a[i].toStr.toList == b[i].toStr.toList) <;> rfl
    · have : i = a.length := by omega
      subst this
      simp [slices_Equal_j5, pfx]
theorem equal_eq (m : Nat) (a b : List Dt) (hab : a.length = b.length) (ha : a.length ≤ m) (hm : m < 9223372036854775807) : slices_Equal (m + 1) a b = some (pfx a b) := by
  simp only [slices_Equal, hab, bne_self_eq_false, cond_false, slices_Equal_j0, slices_Equal_j1]
  have := equal_loop m a b hab (by omega) (m + 1) 0 (by omega) (by omega)
  rw [hab] at this
  simpa using this
def eqP (a b : List Dt) : Bool := a.length == b.length && pfx a b
theorem eqP_comm (a b : List Dt) : eqP a b = eqP b a := by
  unfold eqP
  by_cases h : a.length = b.length
  · rw [pfx_comm h, h]
  · have h1 : (a.length == b.length) = false := by simpa using h
    have h2 : (b.length == a.length) = false := by simpa using fun e => h e.symm
    rw [h1, h2]; rfl
theorem eqP_refl (a : List Dt) : eqP a a = true := by simp [eqP, pfx_refl]
theorem sEqual_eq (m : Nat) (a b : List Dt) (h : a.length ≤ m ∨ b.length ≤ m) (hm : m < 9223372036854775807) : slices_Equal (m + 1) a b = some (eqP a b) := by
  unfold eqP
  by_cases hab : a.length = b.length
  · rw [equal_eq m a b hab (by omega) hm, hab]
    simp
  · have h1 : (a.length == b.length) = false := by simpa using hab
    have h2 : ((((a.length : Nat) : Int) != ((b.length : Nat) : Int)) : Bool) = true := by
      simp only [bne, ieq, h1, Bool.not_false]
    simp only [slices_Equal, h2, cond_true, h1, Bool.false_and]
end Go.Proofs.YtacchdeihafmnaaDoor
