/- Schemas of one kind: what they admit. -/
import Derived.Test.YtfneddmmeadacaaDoorMFew
import Derived.KernelRfl
set_option linter.unusedVariables false
set_option linter.unusedSimpArgs false
namespace Go.Proofs.YtfneddmmeadacaaDoor
open Go.Am

/-- The schema of one kind. -/
def SK (k : Int) : Dt := .agg [.int (shlI IntKind.i64 1 k), .bool false, kza2373, .bool false, kza2373, .lst [], .int 0, .int (-1), .lst [], .lst [], .bool false, .lst [], .bool false]
theorem k11 {k : Int} (h : 1 ≤ k ∧ k ≤ 11) : k = 1 ∨ k = 2 ∨ k = 3 ∨ k = 4 ∨ k = 5 ∨ k = 6 ∨ k = 7 ∨ k = 8 ∨ k = 9 ∨ k = 10 ∨ k = 11 := by omega
theorem k12 {k : Int} (h : 0 ≤ k ∧ k ≤ 11) : k = 0 ∨ k = 1 ∨ k = 2 ∨ k = 3 ∨ k = 4 ∨ k = 5 ∨ k = 6 ∨ k = 7 ∨ k = 8 ∨ k = 9 ∨ k = 10 ∨ k = 11 := by omega
theorem sk_valid (m : Nat) {k : Int} (h : 1 ≤ k ∧ k ≤ 11) : schema_Valid (m + 40) (SK k) = some 0 := by
  rcases k11 h with rfl | rfl | rfl | rfl | rfl | rfl | rfl | rfl | rfl | rfl | rfl <;> kernel_rfl
theorem sk_has (m : Nat) {k : Int} (h : 1 ≤ k ∧ k ≤ 11) (x : Int) : schema_hasKind (m + 1) (shlI IntKind.i64 1 k) x = some (decide (x = k)) := by
  have h0 : (shlI IntKind.i64 1 k == 0) = false := by
    rcases k11 h with rfl | rfl | rfl | rfl | rfl | rfl | rfl | rfl | rfl | rfl | rfl <;> kernel_rfl
  rw [schema_hasKind, h0]
  simp only [cond_false]
  by_cases g1 : 0 ≤ x
  · by_cases g2 : x ≤ 11
    · have e : ((andI IntKind.i64 (shrI IntKind.i64 (shlI IntKind.i64 1 k) x) 1) == 1) = decide (x = k) := by
        rcases k11 h with rfl | rfl | rfl | rfl | rfl | rfl | rfl | rfl | rfl | rfl | rfl <;> rcases k12 ⟨g1, g2⟩ with rfl | rfl | rfl | rfl | rfl | rfl | rfl | rfl | rfl | rfl | rfl | rfl <;> kernel_rfl
      simp only [g1, g2, decide_true, cond_true, e]
    · have e : decide (x = k) = false := decide_eq_false (by omega)
      simp only [g1, g2, decide_true, decide_false, cond_true, cond_false, e]
  · have e : decide (x = k) = false := decide_eq_false (by omega)
    simp only [g1, decide_false, cond_false, e]
def vio1 : Dt := .agg [.lst [], .int 1]
theorem add_no (m : Nat) (r : Int) (st l p : List Dt) : i15 (m + 1) false r st l p = some (p, l) := by
  simp only [i15, cond_false]
theorem add_one (m : Nat) (b : Bool) : i9 (m + 10) b 1 [] [] [] = some ([], [], bif b then [vio1] else []) := by
  cases b
  · rfl
  · kernel_rfl
theorem vk_doc (m : Nat) (s v : Dt) (hs : Dt.B s 10 = false) (x : List Dt) (L : List Dt) (hl : L.length < 9223372036854775807) (l p : List Dt) (r : Option (List Dt × List Dt)) (hr : i7_j13 (m + 1) x l s v p = r) : ∀ (M i : Nat), i ≤ L.length → L.length - i < M → i7_l10 (m + 1) M L (L.length : Int) (i : Int) x l s v p = r
  | 0, i, _, h => by omega
  | M + 1, i, hi, h => by
    simp only [i7_l10, dlt]
    by_cases hlt : i < L.length
    · simp only [hlt, decide_true, cond_true, i7_j11, i7_j12, idx_lt hlt, Option.bind_some, hs, cond_false, add_no, wrapS (show i < 9223372036854775807 by omega)]
      exact vk_doc m s v hs x L hl l p r hr M (i + 1) (by omega) (by omega)
    · simp only [hlt, decide_false, cond_false, hr]
theorem sk_vio (m : Nat) {k : Int} (h : 1 ≤ k ∧ k ≤ 11) {v : Dt} (hw : WV v) (hm : v.bulk + 20 ≤ m) (hb : v.bulk < 1000000000000) : ∃ x, i7 (m + 1) (SK k) v [] [] = some (x, bif decide (Dt.I v 0 = k) then [] else [vio1]) := by
  obtain ⟨m, rfl⟩ : ∃ q, m = q + 10 := ⟨m - 10, by omega⟩
  obtain ⟨p1, p2, _, _⟩ := wv_parts hw
  have e0 : Dt.I (SK k) 0 = shlI IntKind.i64 1 k := rfl
  have e5 : (List.length (Dt.L (SK k) 5) : Int) = 0 := rfl
  have e1 : Dt.B (SK k) 1 = false := rfl
  have e3 : Dt.B (SK k) 3 = false := rfl
  have e6 : Dt.I (SK k) 6 = 0 := rfl
  have e7 : Dt.I (SK k) 7 = -1 := rfl
  have e8 : Dt.L (SK k) 8 = [] := rfl
  have e9 : Dt.L (SK k) 9 = [] := rfl
  have e11 : Dt.L (SK k) 11 = [] := rfl
  have e12 : Dt.B (SK k) 12 = false := rfl
  have d0 : decide ((0 : Int) < 0) = false := rfl
  have dn : decide ((0 : Int) ≤ -1) = false := rfl
  have l0 : ((List.length ([] : List Dt) : Nat) : Int) = 0 := rfl
  have hk := sk_has (m + 9) h (Dt.I v 0)
  have j18 : ∀ x l p, i7_j18 (m + 10) x l (SK k) v p = some (x, l) := fun x l p => by
    simp only [i7_j18, i7_j28, e12, cond_false, add_no, Option.bind_some, i7_j19, i7_j20, e11, i7_l21, l0, d0]
    cases (Dt.I v 0 == 6) <;> rfl
  have j13 : ∀ x l p, i7_j13 (m + 10) x l (SK k) v p = some (x, l) := fun x l p => by
    simp only [i7_j13, i7_j14, e9, i7_l15, l0, d0, cond_false, j18]
  have j3 : ∀ x l p, i7_j3 (m + 10) x l (SK k) v p = some (x, l) := fun x l p => by
    simp only [i7_j3, j18]
    cases (Dt.I v 0 == 5)
    · rfl
    · have := vk_doc (m + 9) (SK k) v rfl x (Dt.L v 4) (by omega) l p _ (j13 x l p) (m + 11) 0 (Nat.zero_le _) (by omega)
      simp only [cond_true, i7_j4, e8, i7_l5, l0, d0, cond_false, i7_j8, i7_j9]
      exact this
  have j2 : ∀ x l p, i7_j2 (m + 10) x l (SK k) v p = some (x, l) := fun x l p => by
    have hlen : ∃ n b, schema_length (m + 10) v = some (n, b) ∧ 0 ≤ n := by
      simp only [schema_length, schema_length_j1, schema_length_j0]
      cases (Dt.I v 0 == 4) <;> cases (Dt.I v 0 == 7) <;> cases (Dt.I v 0 == 6) <;> simp only [cond_true, cond_false] <;> exact ⟨_, _, rfl, by omega⟩
    obtain ⟨n, b, hn, h0⟩ := hlen
    have dn0 : decide (n < 0) = false := decide_eq_false (by omega)
    simp only [i7_j2, hn, Option.bind_some, e6, e7, dn0, dn, cond_false, add_no, j3]
    cases b <;> rfl
  rw [i7]
  simp only [e0, hk, Option.bind_some, add_one m, e5, d0, cond_false, add_no, i7_j0, e1, i7_j1, e3, j2]
  refine ⟨[], ?_⟩
  cases decide (Dt.I v 0 = k) <;> rfl
theorem sk_check (m : Nat) (hm : 100 ≤ m) {k : Int} (h : 1 ≤ k ∧ k ≤ 11) {v : Dt} (hw : WV v) (hv : v.bulk + 100 ≤ m) (hb : v.bulk < 1000000000000) : schema_Check (m + 1) (SK k) v = some (bif decide (Dt.I v 0 = k) then [] else [vio1]) := by
  obtain ⟨m, rfl⟩ : ∃ q, m = q + 40 := ⟨m - 40, by omega⟩
  obtain ⟨x, hx⟩ := sk_vio (m + 39) h hw (by omega) hb
  have hx' : i7 (m + 40) (SK k) v [] [] = _ := hx
  rw [schema_Check, sk_valid m h]
  simp only [Option.bind_some, bne_self_eq_false, cond_false, schema_Check_j0, hx']
end Go.Proofs.YtfneddmmeadacaaDoor
