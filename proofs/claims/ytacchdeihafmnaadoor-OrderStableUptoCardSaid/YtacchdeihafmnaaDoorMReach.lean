/- PathReaches, in plain Lean. -/
import Derived.Test.YtacchdeihafmnaaDoorMPass
set_option linter.unusedVariables false
set_option linter.unusedSimpArgs false
namespace Go.Proofs.YtacchdeihafmnaaDoor
open Go.Am

def zeroVal : Dt := .agg [.int 0, .int 0, .str (ByteArray.mk (List.toArray [])), .lst [], .lst []]
theorem zero_wv : WV zeroVal := .mk (by simp) (by simp)
theorem reach_loop (m : Nat) (L : List Dt) (hl : L.length < 9223372036854775807) (hc : ∀ e ∈ L, path_clone m e = some e) : ∀ (M i : Nat), i ≤ L.length → L.length - i < M → path_Reach_l2 m M (L.length : Int) (i : Int) L = some L
  | 0, i, _, h => by omega
  | M + 1, i, hi, h => by
    simp only [path_Reach_l2, dlt]
    by_cases hlt : i < L.length
    · simp only [hlt, decide_true, cond_true, path_Reach_j3, path_Reach_j4, inL_lt hlt, Option.bind_some, Int.toNat_natCast, List.getElem?_eq_getElem hlt, hc _ (List.getElem_mem hlt), List.set_getElem_self, wrapS (show i < 9223372036854775807 by omega)]
      exact reach_loop m L hl hc M (i + 1) (by omega) (by omega)
    · simp [hlt, path_Reach_j5]
def rch (r : List Dt) : List Dt := bif r.length == 0 then [zeroVal] else r
/-- What a path reaches, in a value of at most 16 levels. -/
theorem reach_eq (d : Dt) (hb : d.bulk ≤ 1048576) (hw : WV d) (hD : DL 16 d) (p : List Dt) (m m' : Nat) (hm : 300000000000 ≤ m) (hm' : 300000000000 ≤ m') :
    ∃ r, (∀ x ∈ r, WV x) ∧ (r ≠ [] ∧ (p ≠ [] → 1 < r.length → ∀ x ∈ r, Sub x d)) ∧ Dt.bulkL r ≤ 68719476736 ∧ ref04_Reach (m' + 1) d p = some r ∧ path_Reach (m + 1) d p = some r := by
  obtain ⟨m, rfl⟩ : ∃ k, m = k + 1 := ⟨m - 1, by omega⟩
  obtain ⟨m', rfl⟩ : ∃ k, m' = k + 1 := ⟨m' - 1, by omega⟩
  have hp : 2 ^ 16 * d.bulk ≤ 68719476736 := by
    have : 2 ^ 16 * d.bulk ≤ 2 ^ 16 * 1048576 := Nat.mul_le_mul_left _ hb
    omega
  obtain ⟨r, h1', h2, h3, h4⟩ := pass_eq 1048576 d hb (Nat.le_refl _) hw 16 hD (by omega) p m m' (by omega) (by omega)
  have h1 : ∀ x ∈ r, WV x := fun x hx => (h1' x hx).1
  have h5 := h4 [] (by simp; omega)
  rw [List.nil_append] at h5
  have hlr := len_bulk r
  refine ⟨rch r, fun x hx => ?_, ?_, ?_, ?_, ?_⟩
  · unfold rch at hx
    cases h0 : (r.length == 0)
    · rw [h0] at hx; exact h1 x hx
    · rw [h0] at hx
      simp only [cond_true, List.mem_singleton] at hx
      subst hx; exact zero_wv
  · unfold rch
    cases h0 : (r.length == 0)
    · simp only [cond_false]
      refine ⟨by rintro rfl; simp at h0, fun hp _ x hx => ?_⟩
      rcases (h1' x hx).2 with g | ⟨g, _⟩
      · exact g
      · exact absurd g hp
    · exact ⟨by simp, fun _ h => by simp at h⟩
  · unfold rch
    cases h0 : (r.length == 0)
    · simp only [cond_false]; omega
    · simp only [cond_true]
      have : Dt.bulkL [zeroVal] = 6 := by rfl
      omega
  · show Option.bind (ref04_Pass (m' + 1) d p) _ = _
    rw [h3, Option.bind_some]
    have e : ((((r.length : Nat) : Int) == 0) : Bool) = (r.length == 0) := ieq (j := 0)
    simp only [e, ref04_Reach_j0]
    unfold rch
    cases (r.length == 0) <;> rfl
  · show Option.bind (i46 (m + 1) d p []) _ = _
    rw [h5, Option.bind_some]
    have e : ((((r.length : Nat) : Int) == 0) : Bool) = (r.length == 0) := ieq (j := 0)
    have hl := reach_loop (m + 1) r (by omega) (fun x hx => clone_eq 137438953472 x (by have := bulk_mem hx; omega) (Nat.le_refl _) (h1 x hx) m (by omega)) (m + 2) 0 (Nat.zero_le _) (by omega)
    have hl' : path_Reach_l2 (m + 1) (Nat.succ (m + 1)) ((r.length : Nat) : Int) 0 r = some r := hl
    simp only [e, path_Reach_j0, path_Reach_j1, hl']
    unfold rch
    cases (r.length == 0) <;> rfl
-- leaves
end Go.Proofs.YtacchdeihafmnaaDoor
