/- PathOverlaps, in plain Lean. -/
import Derived.Test.YtmjnmiahblaanaaDoorFx
import Derived.Test.YtmjnmiahblaanaaDoorMBase
import Derived.Test.YtmjnmiahblaanaaDoorMTy
set_option linter.unusedVariables false
set_option linter.unusedSimpArgs false
namespace Go.Proofs.YtmjnmiahblaanaaDoor
open Go.Am

def eqS (a b : Dt) : Bool := a.toStr.toList == b.toStr.toList
theorem eqS_refl (a : Dt) : eqS a a = true := by simp [eqS]
theorem eqS_comm (a b : Dt) : eqS a b = eqS b a := by simp [eqS, Bool.beq_comm]
def pfx : List Dt → List Dt → Bool
  | [], _ => true
  | a :: r, b :: s => eqS a b && pfx r s
  | _ :: _, [] => false
theorem pfx_refl : ∀ a : List Dt, pfx a a = true
  | [] => rfl
  | a :: r => by simp [pfx, eqS_refl, pfx_refl r]
theorem pfx_comm : ∀ {a b : List Dt}, a.length = b.length → pfx a b = pfx b a
  | [], [], _ => rfl
  | a :: r, b :: s, h => by simp [pfx, eqS_comm a b, pfx_comm (a := r) (b := s) (by simpa using h)]
  | [], _ :: _, h => by simp at h
  | _ :: _, [], h => by simp at h
theorem pfx_take : ∀ {a b : List Dt}, a.length ≤ b.length → pfx a (b.take a.length) = pfx a b
  | [], _, _ => rfl
  | a :: r, b :: s, h => by simp [pfx, pfx_take (a := r) (b := s) (by simpa using h)]
  | _ :: _, [], h => by simp at h
theorem pfx_long : ∀ {a b : List Dt}, b.length < a.length → pfx a b = false
  | [], _, h => by simp at h
  | a :: r, b :: s, h => by simp [pfx, pfx_long (a := r) (b := s) (by simpa using h)]
  | _ :: _, [], _ => rfl

theorem prefix_loop (m : Nat) (a b : List Dt) (hab : a.length ≤ b.length) (hb : a.length < 9223372036854775807) : ∀ (M i : Nat), i ≤ a.length → a.length - i < M → ref04_prefix_l2 m M a b (i : Int) = some (pfx (a.drop i) (b.drop i))
  | 0, i, _, h => by omega
  | M + 1, i, hi, h => by
    simp only [ref04_prefix_l2, dlt]
    by_cases hlt : i < a.length
    · rw [List.drop_eq_getElem_cons hlt, List.drop_eq_getElem_cons (show i < b.length by omega)]
      simp only [hlt, decide_true, cond_true, ref04_prefix_j3, ref04_prefix_j4, idx_lt hlt, idx_lt (show i < b.length by omega), Option.bind_some, wrapS (show i < 9223372036854775807 by omega), prefix_loop m a b hab hb M (i + 1) (by omega) (by omega), pfx, eqS]
      cases (a[i].toStr.toList == b[i].toStr.toList) <;> rfl
    · have : i = a.length := by omega
      subst this
      simp [ref04_prefix_j5, pfx]
theorem prefix_eq (m : Nat) (a b : List Dt) (ha : a.length ≤ m) (hm : m < 9223372036854775807) : ref04_prefix (m + 1) a b = some (pfx a b) := by
  simp only [ref04_prefix, dlt]
  by_cases h : b.length < a.length
  · simp [h, pfx_long h]
  · simp only [h, decide_false, cond_false, ref04_prefix_j0, ref04_prefix_j1]
    have := prefix_loop m a b (by omega) (by omega) (m + 1) 0 (by omega) (by omega)
    simpa using this
theorem equal_loop (m : Nat) (a b : List Dt) (hab : a.length = b.length) (hb : a.length < 9223372036854775807) : ∀ (M i : Nat), i ≤ a.length → a.length - i < M → slices_Equal_l2 m M a b (a.length : Int) (i : Int) = some (pfx (a.drop i) (b.drop i))
  | 0, i, _, h => by omega
  | M + 1, i, hi, h => by
    simp only [slices_Equal_l2, dlt]
    by_cases hlt : i < a.length
    · rw [List.drop_eq_getElem_cons hlt, List.drop_eq_getElem_cons (show i < b.length by omega)]
      simp only [hlt, decide_true, cond_true, slices_Equal_j3, slices_Equal_j4, idx_lt hlt, idx_lt (show i < b.length by omega), Option.bind_some, wrapS (show i < 9223372036854775807 by omega), equal_loop m a b hab hb M (i + 1) (by omega) (by omega), pfx, eqS]
      cases (a[i].toStr.toList == b[i].toStr.toList) <;> rfl
    · have : i = a.length := by omega
      subst this
      simp [slices_Equal_j5, pfx]
theorem equal_eq (m : Nat) (a b : List Dt) (hab : a.length = b.length) (ha : a.length ≤ m) (hm : m < 9223372036854775807) : slices_Equal (m + 1) a b = some (pfx a b) := by
  simp only [slices_Equal, hab, bne_self_eq_false, cond_false, slices_Equal_j0, slices_Equal_j1]
  have := equal_loop m a b hab (by omega) (m + 1) 0 (by omega) (by omega)
  rw [hab] at this
  simpa using this
def ovl (a b : List Dt) : Bool := pfx (a.take (min a.length b.length)) (b.take (min a.length b.length))
theorem overlap_eq (m : Nat) (a b : List Dt) (ha : a.length ≤ m) (hm : m < 9223372036854775807) : path_Overlap (m + 2) a b = some (ovl a b) := by
  have hmin : (bif (decide (((b.length : Nat) : Int) < ((a.length : Nat) : Int))) then ((b.length : Nat) : Int) else ((a.length : Nat) : Int)) = ((min a.length b.length : Nat) : Int) := by
    rw [dlt]
    by_cases h : b.length < a.length
    · simp only [h, decide_true, cond_true]; omega
    · simp only [h, decide_false, cond_false]; omega
  simp only [path_Overlap, hmin, cutL_zero (show min a.length b.length ≤ a.length by omega), cutL_zero (show min a.length b.length ≤ b.length by omega), Option.bind_some]
  rw [equal_eq m _ _ (by simp <;> omega) (by simp <;> omega) hm]
  rfl
theorem ovl_ref (a b : List Dt) : ovl a b = (pfx a b || pfx b a) := by
  unfold ovl
  by_cases h : a.length ≤ b.length
  · rw [Nat.min_eq_left h, List.take_length, pfx_take h]
    by_cases h2 : a.length = b.length
    · rw [pfx_comm h2]; simp
    · rw [pfx_long (a := b) (b := a) (by omega)]; simp
  · rw [Nat.min_eq_right (by omega), List.take_length, pfx_comm (by simp; omega), pfx_take (by omega), pfx_long (a := a) (b := b) (by omega)]; simp
theorem ovl_comm (a b : List Dt) : ovl a b = ovl b a := by rw [ovl_ref, ovl_ref, Bool.or_comm]
theorem ovl_take (a : List Dt) (n : Nat) : ovl a (a.take n) = true := by
  unfold ovl
  rw [List.take_take]
  have : min (min a.length (a.take n).length) n = min a.length (a.take n).length := by simp <;> omega
  rw [this]
  exact pfx_refl _
theorem refoverlap_eq (m : Nat) (a b : List Dt) (ha : a.length ≤ m) (hb : b.length ≤ m) (hm : m < 9223372036854775807) : ref04_Overlap (m + 2) a b = some (ovl a b) := by
  rw [ovl_ref]
  simp only [ref04_Overlap, prefix_eq m a b ha hm, prefix_eq m b a hb hm, Option.bind_some]
  cases pfx a b <;> rfl
theorem over_j2 (a : List Dt) (n : Nat) (ha : a.length ≤ 100) (hn : n ≤ a.length) : law04_PathOverlaps_j2 102 a (n : Int) = some true := by
  simp only [law04_PathOverlaps_j2, cutL_zero hn, Option.bind_some, overlap_eq 100 a (a.take n) ha (by omega), ovl_take, cond_true, overlap_eq 100 (a.take n) a (by simp; omega) (by omega), ovl_comm (a.take n) a, awakeC]
theorem law_overlaps (a b : List Dt) (n : Int) : law04_PathOverlaps 103 a b n = some true := by
  simp only [law04_PathOverlaps]
  by_cases h1 : 100 < a.length
  · have : decide ((100 : Int) < ((a.length : Nat) : Int)) = true := by simp; omega
    simp only [this, cond_true, awakeC, Option.bind_some]
  have e1 : decide ((100 : Int) < ((a.length : Nat) : Int)) = false := by simp; omega
  by_cases h2 : 100 < b.length
  · have : decide ((100 : Int) < ((b.length : Nat) : Int)) = true := by simp; omega
    simp only [e1, this, cond_true, cond_false, awakeC, Option.bind_some]
  have e2 : decide ((100 : Int) < ((b.length : Nat) : Int)) = false := by simp; omega
  simp only [e1, e2, cond_false, law04_PathOverlaps_j0, overlap_eq 100 a b (by omega) (by omega), overlap_eq 100 b a (by omega) (by omega), refoverlap_eq 100 a b (by omega) (by omega) (by omega), Option.bind_some, ovl_comm b a, beq_self_eq_true, Bool.not_true, law04_PathOverlaps_j1]
  have hfull := over_j2 a a.length (by omega) (by omega)
  by_cases h3 : n < 0
  · simp only [h3, decide_true, cond_true, hfull]
  · by_cases h4 : ((a.length : Nat) : Int) < n
    · simp only [h3, h4, decide_true, decide_false, cond_true, cond_false, hfull]
    · simp only [h3, h4, decide_false, cond_false]
      obtain ⟨k, rfl⟩ : ∃ k : Nat, n = k := ⟨n.toNat, by omega⟩
      exact over_j2 a k (by omega) (by omega)
theorem overlaps_fx {ds : List Dt} (h : HasTys Tryd.prog Tryd.f9.params.toList ds) : FX Tryd.prog 9 (dats Tryd.f9.params.toList ds) [] (.dat 4 (.bool true)) [] := by
  have h' : HasTys Tryd.prog [23, 23, 3] ds := h
  cases h' with
  | cons h1 r => cases r with
    | cons h2 r => cases r with
      | cons h3 r =>
        cases r
        rw [(ty_lst Tryd.underlying23 h1).1, (ty_lst Tryd.underlying23 h2).1, (ty_int Tryd.underlying3 h3).1]
        exact law04_PathOverlaps_fx 102 (ct_ok 102) _ _ _ (law_overlaps _ _ _)
end Go.Proofs.YtmjnmiahblaanaaDoor
