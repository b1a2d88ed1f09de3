/- Copies of values, by layer 12's function. -/
import Derived.Test.YtacchdeihafmnaaDoorMVal
set_option linter.unusedVariables false
set_option linter.unusedSimpArgs false
namespace Go.Proofs.YtacchdeihafmnaaDoor
open Go.Am
theorem oclone_l1 (m : Nat) (self : Dt → Option Dt) (l : List Dt) (hl : l.length < 9223372036854775807) (hs : ∀ e ∈ l, self e = some e) (z x3 x4 : Dt) (x5 x6 : Int) (x7 : ByteArray) : ∀ (M i : Nat), i ≤ l.length → l.length - i < M →
    order_clone_l1 m self M l (l.length : Int) (i : Int) x3 x4 x5 x6 x7 (l.take i ++ List.replicate (l.length - i) z) = order_clone_j4 m self x3 x4 x5 x6 x7 l
  | 0, i, _, h => by omega
  | M + 1, i, hi, h => by
    simp only [order_clone_l1, dlt]
    by_cases hlt : i < l.length
    · have hx : i < (l.take i ++ List.replicate (l.length - i) z).length := by rw [row_len l z i hi]; exact hlt
      simp only [hlt, decide_true, cond_true, order_clone_j2, order_clone_j3, idx_lt hlt, Option.bind_some, hs _ (List.getElem_mem hlt), inL_lt hx, Int.toNat_natCast, List.getElem?_eq_getElem hx, set_step l z i hlt, wrapS (show i < 9223372036854775807 by omega)]
      exact oclone_l1 m self l hl hs z x3 x4 x5 x6 x7 M (i + 1) (by omega) (by omega)
    · have e : i = l.length := by omega
      subst e
      simp
theorem oclone_l6 (m : Nat) (self : Dt → Option Dt) (l : List Dt) (hl : l.length < 9223372036854775807) (hf : ∀ f ∈ l, ∃ s v, f = .agg [.str s, v] ∧ self v = some v) (z x3 : Dt) (x4 x5 : Int) (x6 : ByteArray) (x7 : List Dt) : ∀ (M i : Nat), i ≤ l.length → l.length - i < M →
    order_clone_l6 m self M l (l.length : Int) (i : Int) x3 x4 x5 x6 x7 (l.take i ++ List.replicate (l.length - i) z) = some (.agg [.int x4, .int x5, .str x6, .lst x7, .lst l])
  | 0, i, _, h => by omega
  | M + 1, i, hi, h => by
    simp only [order_clone_l6, dlt]
    by_cases hlt : i < l.length
    · have hx : i < (l.take i ++ List.replicate (l.length - i) z).length := by rw [row_len l z i hi]; exact hlt
      obtain ⟨s, v, e1, e2⟩ := hf _ (List.getElem_mem hlt)
      have e3 : Dt.agg [.str (Dt.S l[i] 0), v] = l[i] := by rw [e1]; rfl
      have e4 : Dt.fld l[i] 1 = v := by rw [e1]; rfl
      simp only [hlt, decide_true, cond_true, order_clone_j7, order_clone_j8, idx_lt hlt, Option.bind_some, e4, e2, e3, inL_lt hx, Int.toNat_natCast, List.getElem?_eq_getElem hx, set_step l z i hlt, wrapS (show i < 9223372036854775807 by omega)]
      exact oclone_l6 m self l hl hf z x3 x4 x5 x6 x7 M (i + 1) (by omega) (by omega)
    · have e : i = l.length := by omega
      subst e
      simp [order_clone_j9]
theorem oclone_l13 (m : Nat) (self : Dt → Option Dt) (l : List Dt) (hl : l.length < 9223372036854775807) (hf : ∀ f ∈ l, ∃ s v, f = .agg [.str s, v] ∧ self v = some v) (z x3 : Dt) (x4 x5 : Int) (x6 : ByteArray) (x7 : List Dt) : ∀ (M i : Nat), i ≤ l.length → l.length - i < M →
    order_clone_l13 m self M l (l.length : Int) (i : Int) x3 x4 x5 x6 x7 (l.take i ++ List.replicate (l.length - i) z) = some (.agg [.int x4, .int x5, .str x6, .lst x7, .lst l])
  | 0, i, _, h => by omega
  | M + 1, i, hi, h => by
    simp only [order_clone_l13, dlt]
    by_cases hlt : i < l.length
    · have hx : i < (l.take i ++ List.replicate (l.length - i) z).length := by rw [row_len l z i hi]; exact hlt
      obtain ⟨s, v, e1, e2⟩ := hf _ (List.getElem_mem hlt)
      have e3 : Dt.agg [.str (Dt.S l[i] 0), v] = l[i] := by rw [e1]; rfl
      have e4 : Dt.fld l[i] 1 = v := by rw [e1]; rfl
      simp only [hlt, decide_true, cond_true, order_clone_j14, order_clone_j15, idx_lt hlt, Option.bind_some, e4, e2, e3, inL_lt hx, Int.toNat_natCast, List.getElem?_eq_getElem hx, set_step l z i hlt, wrapS (show i < 9223372036854775807 by omega)]
      exact oclone_l13 m self l hl hf z x3 x4 x5 x6 x7 M (i + 1) (by omega) (by omega)
    · have e : i = l.length := by omega
      subst e
      simp [order_clone_j16]
theorem oclone_eq : ∀ (N : Nat) (d : Dt), d.bulk ≤ N → N ≤ 137438953472 → WV d → ∀ m, N ≤ m → order_clone (m + 1) d = some d
  | 0, d, h, _, _, _, _ => by have := bulk_pos d; omega
  | N + 1, d, h, hN, hw, m, hm => by
    cases hw with
    | @mk k i t l ds hl hd =>
      rw [bulk_val] at h
      obtain ⟨m, rfl⟩ : ∃ q, m = q + 1 := ⟨m - 1, by omega⟩
      have hself : ∀ e ∈ l, order_clone (m + 1) e = some e := fun e he => oclone_eq N e (by have := bulk_mem he; omega) (by omega) (hl e he) m (by omega)
      have hfld : ∀ f ∈ ds, ∃ s v, f = .agg [.str s, v] ∧ order_clone (m + 1) v = some v := fun f hf => by
        have hb := bulk_mem hf
        cases hd f hf with
        | @mk s v hv =>
          rw [bulk_fld] at hb
          exact ⟨s, v, rfl, oclone_eq N v (by omega) (by omega) hv m (by omega)⟩
      have hl1 := len_bulk l
      have hd1 := len_bulk ds
      show (bif (decide ((0 : Int) < ((l.length : Nat) : Int))) then _ else _) = _
      have key6 := fun (x3 : Dt) (x7 : List Dt) (z : Dt) => oclone_l6 (m + 1) (order_clone (m + 1)) ds (by omega) hfld z x3 k i t x7 (m + 2) 0 (by omega) (by omega)
      have key13 := fun (x3 : Dt) (x7 : List Dt) (z : Dt) => oclone_l13 (m + 1) (order_clone (m + 1)) ds (by omega) hfld z x3 k i t x7 (m + 2) 0 (by omega) (by omega)
      simp only [List.take_zero, List.nil_append, Nat.sub_zero] at key6 key13
      by_cases h0 : 0 < l.length
      · have e0 : decide ((0 : Int) < ((l.length : Nat) : Int)) = true := by simp; omega
        have key := fun (x3 x4 : Dt) (z : Dt) => oclone_l1 (m + 1) (order_clone (m + 1)) l (by omega) hself z x3 x4 k i t (m + 2) 0 (by omega) (by omega)
        simp only [List.take_zero, List.nil_append, Nat.sub_zero] at key
        rw [e0]
        simp only [cond_true]
        show Option.bind (mkL ((l.length : Nat) : Int) ((l.length : Nat) : Int) _) _ = _
        rw [mkL_nat (by omega), Option.bind_some]
        show order_clone_l1 (m + 1) (order_clone (m + 1)) (m + 2) l ((l.length : Nat) : Int) ((0 : Nat) : Int) _ _ k i t _ = _
        rw [key]
        show (bif (decide ((0 : Int) < ((ds.length : Nat) : Int))) then _ else _) = _
        by_cases h1 : 0 < ds.length
        · have e1 : decide ((0 : Int) < ((ds.length : Nat) : Int)) = true := by simp; omega
          rw [e1]
          simp only [cond_true]
          show Option.bind (mkL ((ds.length : Nat) : Int) ((ds.length : Nat) : Int) _) _ = _
          rw [mkL_nat (by omega), Option.bind_some]
          exact key6 _ _ _
        · have e1 : decide ((0 : Int) < ((ds.length : Nat) : Int)) = false := by rw [decide_eq_false_iff_not]; omega
          have e2 : ds = [] := List.length_eq_zero_iff.1 (by omega)
          subst e2
          rfl
      · have e0 : decide ((0 : Int) < ((l.length : Nat) : Int)) = false := by rw [decide_eq_false_iff_not]; omega
        have e3 : l = [] := List.length_eq_zero_iff.1 (by omega)
        subst e3
        show (bif (decide ((0 : Int) < ((ds.length : Nat) : Int))) then _ else _) = _
        by_cases h1 : 0 < ds.length
        · have e1 : decide ((0 : Int) < ((ds.length : Nat) : Int)) = true := by simp; omega
          rw [e1]
          simp only [cond_true]
          show Option.bind (mkL ((ds.length : Nat) : Int) ((ds.length : Nat) : Int) _) _ = _
          rw [mkL_nat (by omega), Option.bind_some]
          exact key13 _ _ _
        · have e2 : ds = [] := List.length_eq_zero_iff.1 (by omega)
          subst e2
          rfl
end Go.Proofs.YtacchdeihafmnaaDoor
