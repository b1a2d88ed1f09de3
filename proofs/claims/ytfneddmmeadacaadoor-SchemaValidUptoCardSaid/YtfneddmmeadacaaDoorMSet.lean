/- Sets of strings as maps: what a map of 'true' holds is what was put in. -/
import Derived.Test.YtfneddmmeadacaaDoorMBase
import Derived.Test.YtfneddmmeadacaaDoorSh
set_option linter.unusedVariables false
set_option linter.unusedSimpArgs false
namespace Go.Proofs.YtfneddmmeadacaaDoor
open Go.Am

def eqb (a b : ByteArray) : Bool := a.toList == b.toList
theorem eqb_iff (a b : ByteArray) : eqb a b = true ↔ a = b := by
  unfold eqb
  rw [ByteArray.toList_eq, ByteArray.toList_eq, beq_iff_eq]
  refine ⟨fun h => ?_, fun h => by rw [h]⟩
  cases a with | mk x => cases b with | mk y =>
  have : x = y := Array.ext' h
  rw [this]
theorem eqb_refl (a : ByteArray) : eqb a a = true := (eqb_iff a a).2 rfl
theorem eqb_comm (a b : ByteArray) : eqb a b = eqb b a := by
  rw [Bool.eq_iff_iff, eqb_iff, eqb_iff]
  exact eq_comm
theorem eqb_bb (a b : ByteArray) : eqb a b = (a == b) := by rw [Bool.eq_iff_iff, eqb_iff, ba_beq_iff]
theorem mget_put (s t : ByteArray) (v : Dt) : ∀ es : List Dt, mget (mput es s v) t = bif s == t then some v else mget es t
  | [] => by
    simp only [mput, mget]
    rfl
  | e :: r => by
    simp only [mput]
    cases h : (e.S 0) == s
    · simp only [cond_false, mget, mget_put s t v r]
      cases h2 : (e.S 0) == t
      · rfl
      · have : (s == t) = false := ba_beq_ne fun e1 => by
          subst e1
          rw [h] at h2; cases h2
        rw [this]; rfl
    · have e1 := (ba_beq_iff _ _).1 h
      simp only [cond_true, mget, e1]
      show (bif s == t then some v else mget r t) = bif s == t then some v else (bif s == t then some (e.fld 1) else mget r t)
      cases (s == t) <;> rfl
/-- The map 'mp' holds the strings 'seen'. -/
def MapS (mp : List Dt) (seen : List ByteArray) : Prop := ∀ s, (mgetD mp s (.bool false)).toBool = seen.any (eqb s)
theorem mapS_nil : MapS [] [] := fun s => rfl
theorem mapS_put {mp : List Dt} {seen : List ByteArray} (h : MapS mp seen) (s : ByteArray) : MapS (mput mp s (.bool true)) (seen ++ [s]) := fun t => by
  have := h t
  unfold mgetD at this ⊢
  rw [mget_put, List.any_append, ← this]
  simp only [List.any_cons, List.any_nil, Bool.or_false]
  rw [eqb_comm t s, eqb_bb]
  cases (s == t)
  · simp
  · simp [Dt.toBool]
/-- Strings that are all good and different, some seen before. -/
def difS (p : ByteArray → Bool) : List ByteArray → List ByteArray → Bool
  | _, [] => true
  | seen, s :: r => p s && !(seen.any (eqb s)) && difS p (seen ++ [s]) r
end Go.Proofs.YtfneddmmeadacaaDoor
