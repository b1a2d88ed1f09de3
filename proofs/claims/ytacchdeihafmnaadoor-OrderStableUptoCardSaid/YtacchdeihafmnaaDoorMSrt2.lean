/- The library's stable sort, second part: merging in place, over lists taken apart. -/
import Derived.Test.YtacchdeihafmnaaDoorMSrt1
set_option linter.unusedVariables false
set_option linter.unusedSimpArgs false
namespace Go.Proofs.YtacchdeihafmnaaDoor
open Go.Am Go.Am.Srt
theorem wrapU {n : Int} (h0 : 0 ≤ n) (h1 : n < 9223372036854775807) : IntKind.wrap IntKind.u64 n = n := by
  unfold IntKind.wrap
  simp only [IntKind.bits, IntKind.signed, Bool.false_and, Bool.false_eq_true, if_false]
  omega
theorem half {i j : Nat} (h : i + j < 4611686018427387904) : IntKind.wrap IntKind.i64 (shrI IntKind.u64 (IntKind.wrap IntKind.u64 (IntKind.wrap IntKind.i64 ((i : Int) + (j : Int)))) 1) = (((i + j) / 2 : Nat) : Int) := by
  have e1 : IntKind.wrap IntKind.i64 ((i : Int) + (j : Int)) = ((i + j : Nat) : Int) := wrN (by omega) (by omega)
  have e2 : IntKind.wrap IntKind.u64 ((i + j : Nat) : Int) = ((i + j : Nat) : Int) := wrapU (by omega) (by omega)
  have e3 : shrI IntKind.u64 ((i + j : Nat) : Int) 1 = (((i + j) / 2 : Nat) : Int) := by
    show Int.fdiv ((i + j : Nat) : Int) 2 = _
    rw [Int.fdiv_eq_ediv_of_nonneg _ (by omega)]
    omega
  rw [e1, e2, e3]
  exact wrN rfl (by omega)
theorem split_mid {A : Type} (l : List A) (k : Nat) (h : k < l.length) : ∃ p x q, l = p ++ x :: q ∧ p.length = k := by
  obtain ⟨p, q, rfl, hp⟩ := split_at l k (by omega)
  cases q with
  | nil => simp at h; omega
  | cons x q => exact ⟨p, x, q, rfl, hp⟩
section
variable (K : List Dt)
/-- One element goes up over its neighbours. -/
theorem up_loop (m : Nat) (self : Int → Int → Int → List Dt → List Dt → Option (List Dt × List Dt)) : ∀ (S : List Dt) (M : Nat) (X : List Dt) (x : Dt) (Z : List Dt) (k i : Nat), X.length = k → k + S.length + 1 = i → S.length < M → i < 4611686018427387904 →
    i23_l5 m self M (i : Int) (k : Int) (X ++ x :: (S ++ Z)) K = some (X ++ (S ++ x :: Z), K)
  | _, 0, _, _, _, _, _, _, _, h, _ => by omega
  | [], M + 1, X, x, Z, k, i, hX, hi, hM, hl => by
    have e : IntKind.wrap IntKind.i64 ((i : Int) - 1) = ((i - 1 : Nat) : Int) := wrN (by simp at hi; omega) (by omega)
    have : ¬ k < i - 1 := by simp at hi; omega
    simp only [i23_l5, e, dlt, this, decide_false, cond_false, List.nil_append]
  | y :: S, M + 1, X, x, Z, k, i, hX, hi, hM, hl => by
    simp only [List.length_cons] at hi hM
    have e : IntKind.wrap IntKind.i64 ((i : Int) - 1) = ((i - 1 : Nat) : Int) := wrN (by omega) (by omega)
    have hk : k < i - 1 := by omega
    have lX : (X ++ [x]).length = k + 1 := by simp; omega
    have lX2 : (X ++ [y]).length = k + 1 := by simp; omega
    have d1 : X ++ x :: (y :: S ++ Z) = (X ++ [x]) ++ y :: (S ++ Z) := by simp
    have d2 : X ++ y :: (y :: S ++ Z) = (X ++ [y]) ++ y :: (S ++ Z) := by simp
    have gy : (X ++ x :: (y :: S ++ Z))[k + 1]? = some y := by rw [d1, ← lX]; exact g1 _ _ _
    have iy : inL (X ++ x :: (y :: S ++ Z)) ((k + 1 : Nat) : Int) = some () := by rw [d1, ← lX]; exact i1 _ _ _
    have gx : (X ++ x :: (y :: S ++ Z))[k]? = some x := by rw [← hX]; exact g1 _ _ _
    have ix : inL (X ++ x :: (y :: S ++ Z)) (k : Int) = some () := by rw [← hX]; exact i1 _ _ _
    have sx : (X ++ x :: (y :: S ++ Z)).set k y = X ++ y :: (y :: S ++ Z) := by rw [← hX]; exact s1 _ _ _ _
    have gy2 : (X ++ y :: (y :: S ++ Z))[k + 1]? = some y := by rw [d2, ← lX2]; exact g1 _ _ _
    have iy2 : inL (X ++ y :: (y :: S ++ Z)) ((k + 1 : Nat) : Int) = some () := by rw [d2, ← lX2]; exact i1 _ _ _
    have sy : (X ++ y :: (y :: S ++ Z)).set (k + 1) x = (X ++ [y]) ++ x :: (S ++ Z) := by rw [d2, ← lX2, s1]
    have ih := up_loop m self S M (X ++ [y]) x Z (k + 1) i lX2 (by omega) (by omega) hl
    simp only [i23_l5, e, dlt, hk, decide_true, cond_true, i23_j6, i23_j7, wrapS (show k < 9223372036854775807 by omega), gy, iy, gx, ix, sx, gy2, iy2, sy, Option.bind_some, Int.toNat_natCast, ih]
    simp
/-- One element goes down over its neighbours. -/
theorem down_loop (m : Nat) (self : Int → Int → Int → List Dt → List Dt → Option (List Dt × List Dt)) : ∀ (n M : Nat) (X S : List Dt) (y : Dt) (Z : List Dt) (i k : Nat), S.length = n → X.length = i → i + S.length = k → n < M → k < 4611686018427387904 →
    i23_l14 m self M (i : Int) (k : Int) (X ++ (S ++ y :: Z)) K = some (X ++ y :: (S ++ Z), K)
  | _, 0, _, _, _, _, _, _, _, _, _, h, _ => by omega
  | 0, M + 1, X, S, y, Z, i, k, hn, hX, hk, hM, hl => by
    obtain rfl : S = [] := List.length_eq_zero_iff.1 hn
    have : ¬ i < k := by simp at hk; omega
    simp only [i23_l14, dlt, this, decide_false, cond_false, List.nil_append]
  | n + 1, M + 1, X, S, y, Z, i, k, hn, hX, hk, hM, hl => by
    have hne : S ≠ [] := by rintro rfl; simp at hn
    obtain ⟨S', x, rfl⟩ : ∃ S' x, S = S' ++ [x] := ⟨S.dropLast, S.getLast hne, (List.dropLast_concat_getLast hne).symm⟩
    simp only [List.length_append, List.length_cons, List.length_nil] at hn hk
    have hik : i < k := by omega
    have ek : IntKind.wrap IntKind.i64 ((k : Int) - 1) = ((k - 1 : Nat) : Int) := wrN (by omega) (by omega)
    have d0 : X ++ (S' ++ [x] ++ y :: Z) = (X ++ S') ++ x :: (y :: Z) := by simp
    have d1 : (X ++ S') ++ x :: (y :: Z) = (X ++ (S' ++ [x])) ++ y :: Z := by simp
    have lk0 : (X ++ S').length = k - 1 := by simp; omega
    have lk1 : (X ++ (S' ++ [x])).length = k := by simp; omega
    have gy : ((X ++ S') ++ x :: (y :: Z))[k]? = some y := by rw [d1, ← lk1]; exact g1 _ _ _
    have iy : inL ((X ++ S') ++ x :: (y :: Z)) (k : Int) = some () := by rw [d1, ← lk1]; exact i1 _ _ _
    have gx : ((X ++ S') ++ x :: (y :: Z))[k - 1]? = some x := by rw [← lk0]; exact g1 _ _ _
    have ix : inL ((X ++ S') ++ x :: (y :: Z)) ((k - 1 : Nat) : Int) = some () := by rw [← lk0]; exact i1 _ _ _
    have sk : ((X ++ S') ++ x :: (y :: Z)).set k x = (X ++ S') ++ x :: (x :: Z) := by rw [d1, ← lk1, s1]; simp
    have gx2 : ((X ++ S') ++ x :: (x :: Z))[k - 1]? = some x := by rw [← lk0]; exact g1 _ _ _
    have ix2 : inL ((X ++ S') ++ x :: (x :: Z)) ((k - 1 : Nat) : Int) = some () := by rw [← lk0]; exact i1 _ _ _
    have sk2 : ((X ++ S') ++ x :: (x :: Z)).set (k - 1) y = X ++ (S' ++ y :: (x :: Z)) := by rw [← lk0, s1]; simp
    have ih := down_loop m self n M X S' y (x :: Z) i (k - 1) (by omega) hX (by omega) (by omega) (by omega)
    rw [d0]
    simp only [i23_l14, dlt, hik, decide_true, cond_true, i23_j15, i23_j16, ek, gy, iy, gx, ix, sk, gx2, ix2, sk2, Option.bind_some, Int.toNat_natCast, ih]
    simp
end
section
variable {c : Dt → Dt → Int} (hc : TPO c) {P : Dt → Prop} {K : List Dt} {m0 : Nat} (hC : ∀ m, m0 ≤ m → ∀ x y, P x → P y → i22 m x y K = some (c x y, K))
include hc hC
/-- Where one element belongs among those behind it. -/
theorem find_up (m : Nat) (hm : m0 ≤ m) (self : Int → Int → Int → List Dt → List Dt → Option (List Dt × List Dt)) (X Z : List Dt) (x : Dt) (a : Nat) (hX : X.length = a) (hx : P x) : ∀ (n M : Nat) (R1 T R2 : List Dt) (i j : Nat), T.length = n → n < M → a + 1 + R1.length = i → i + T.length = j → j < 1152921504606846976 →
    (∀ y ∈ R1, ltc c y x = true) → (∀ y ∈ R2, ltc c y x = false) → Asc (ltc c) T → (∀ y ∈ T, P y) →
    ∃ Ra Rb, R1 ++ (T ++ R2) = Ra ++ Rb ∧ (∀ y ∈ Ra, ltc c y x = true) ∧ (∀ y ∈ Rb, ltc c y x = false) ∧ i23_l1 m self M (a : Int) (i : Int) (j : Int) (X ++ x :: (R1 ++ (T ++ R2) ++ Z)) K = i23_j3 m self (a : Int) ((a + 1 + Ra.length : Nat) : Int) (X ++ x :: (R1 ++ (T ++ R2) ++ Z)) K := by
  have h := swo hc
  intro n
  induction n using Nat.strongRecOn with
  | _ n ihn =>
    intro M R1 T R2 i j hn hM hi hj hl h1 h2 hA hP
    obtain ⟨M, rfl⟩ : ∃ k, M = k + 1 := ⟨M - 1, by omega⟩
    by_cases h0 : n = 0
    · subst h0
      obtain rfl : T = [] := List.length_eq_zero_iff.1 hn
      have : ¬ i < j := by simp at hj; omega
      refine ⟨R1, R2, by simp, h1, h2, ?_⟩
      simp only [i23_l1, dlt, this, decide_false, cond_false, hi]
    · have hij : i < j := by omega
      obtain ⟨T1, t, T2, rfl, hT1⟩ := split_mid T (n / 2) (by omega)
      simp only [List.length_append, List.length_cons] at hn hj
      have eh := half (i := i) (j := j) (by omega)
      have ehh : (i + j) / 2 = i + n / 2 := by omega
      rw [ehh] at eh
      have d1 : X ++ x :: (R1 ++ (T1 ++ t :: T2 ++ R2) ++ Z) = (X ++ x :: (R1 ++ T1)) ++ t :: (T2 ++ (R2 ++ Z)) := by simp
      have ll : (X ++ x :: (R1 ++ T1)).length = i + n / 2 := by simp; omega
      have gt : (X ++ x :: (R1 ++ (T1 ++ t :: T2 ++ R2) ++ Z))[i + n / 2]? = some t := by rw [d1, ← ll]; exact g1 _ _ _
      have it : inL (X ++ x :: (R1 ++ (T1 ++ t :: T2 ++ R2) ++ Z)) ((i + n / 2 : Nat) : Int) = some () := by rw [d1, ← ll]; exact i1 _ _ _
      have gx : (X ++ x :: (R1 ++ (T1 ++ t :: T2 ++ R2) ++ Z))[a]? = some x := by rw [← hX]; exact g1 _ _ _
      have ix : inL (X ++ x :: (R1 ++ (T1 ++ t :: T2 ++ R2) ++ Z)) (a : Int) = some () := by rw [← hX]; exact i1 _ _ _
      obtain ⟨hA1, hA2, hA3⟩ := asc_of_append hA
      have hw : IntKind.wrap IntKind.i64 (((i + n / 2 : Nat) : Int) + 1) = ((i + n / 2 + 1 : Nat) : Int) := wrapS (by omega)
      simp only [i23_l1, dlt, hij, decide_true, cond_true, i23_j2, eh, gt, it, gx, ix, Option.bind_some, Int.toNat_natCast, hC m hm t x (hP t (by simp)) hx]
      cases hlt : decide (c t x < 0)
      · have ht : ltc c t x = false := hlt
        obtain ⟨Ra, Rb, e1, e2, e3, e4⟩ := ihn (n / 2) (by omega) M R1 T1 (t :: T2 ++ R2) i (i + n / 2) hT1 (by omega) hi (by omega) (by omega) h1 (fun y hy => by
          rcases List.mem_append.1 hy with hy | hy
          · rcases List.mem_cons.1 hy with rfl | hy
            · exact ht
            · exact h.ntr _ _ _ (hA2.1 y hy) ht
          · exact h2 y hy) hA1 (fun y hy => hP y (by simp [hy]))
        refine ⟨Ra, Rb, by rw [← e1]; simp, e2, e3, ?_⟩
        simp only [cond_false]
        have e5 : R1 ++ (T1 ++ (t :: T2 ++ R2)) = R1 ++ (T1 ++ t :: T2 ++ R2) := by simp
        rw [e5] at e4
        exact e4
      · have ht : ltc c t x = true := hlt
        obtain ⟨Ra, Rb, e1, e2, e3, e4⟩ := ihn (n - 1 - n / 2) (by omega) M (R1 ++ (T1 ++ [t])) T2 R2 (i + n / 2 + 1) j (by omega) (by omega) (by simp; omega) (by omega) hl (fun y hy => by
          rcases List.mem_append.1 hy with hy | hy
          · exact h1 y hy
          · rcases List.mem_append.1 hy with hy | hy
            · cases e : ltc c y x with
              | true => rfl
              | false => have := h.ntr _ _ _ (hA3 y hy t (by simp)) e; rw [ht] at this; cases this
            · rw [List.mem_singleton] at hy; subst hy; exact ht) h2 hA2.2 (fun y hy => hP y (by simp [hy]))
        refine ⟨Ra, Rb, by rw [← e1]; simp, e2, e3, ?_⟩
        simp only [cond_true, hw]
        have e5 : R1 ++ (T1 ++ [t]) ++ (T2 ++ R2) = R1 ++ (T1 ++ t :: T2 ++ R2) := by simp
        rw [e5] at e4
        exact e4
/-- Where one element belongs among those before it. -/
theorem find_down (m : Nat) (hm : m0 ≤ m) (self : Int → Int → Int → List Dt → List Dt → Option (List Dt × List Dt)) (X Z : List Dt) (y : Dt) (a k : Nat) (hX : X.length = a) (hy : P y) : ∀ (n M : Nat) (L1 T L2 : List Dt) (i j : Nat), T.length = n → n < M → a + L1.length = i → i + T.length = j → j + L2.length = k → k < 1152921504606846976 →
    (∀ x ∈ L1, ltc c y x = false) → (∀ x ∈ L2, ltc c y x = true) → Asc (ltc c) T → (∀ x ∈ T, P x) →
    ∃ La Lb, L1 ++ (T ++ L2) = La ++ Lb ∧ (∀ x ∈ La, ltc c y x = false) ∧ (∀ x ∈ Lb, ltc c y x = true) ∧ i23_l10 m self M (k : Int) (i : Int) (j : Int) (X ++ (L1 ++ (T ++ L2) ++ y :: Z)) K = i23_j12 m self (k : Int) ((a + La.length : Nat) : Int) (X ++ (L1 ++ (T ++ L2) ++ y :: Z)) K := by
  have h := swo hc
  intro n
  induction n using Nat.strongRecOn with
  | _ n ihn =>
    intro M L1 T L2 i j hn hM hi hj hk hl h1 h2 hA hP
    obtain ⟨M, rfl⟩ : ∃ k, M = k + 1 := ⟨M - 1, by omega⟩
    by_cases h0 : n = 0
    · subst h0
      obtain rfl : T = [] := List.length_eq_zero_iff.1 hn
      have : ¬ i < j := by simp at hj; omega
      refine ⟨L1, L2, by simp, h1, h2, ?_⟩
      simp only [i23_l10, dlt, this, decide_false, cond_false, hi]
    · have hij : i < j := by omega
      obtain ⟨T1, t, T2, rfl, hT1⟩ := split_mid T (n / 2) (by omega)
      simp only [List.length_append, List.length_cons] at hn hj
      have eh := half (i := i) (j := j) (by omega)
      have ehh : (i + j) / 2 = i + n / 2 := by omega
      rw [ehh] at eh
      have d1 : X ++ (L1 ++ (T1 ++ t :: T2 ++ L2) ++ y :: Z) = (X ++ (L1 ++ T1)) ++ t :: (T2 ++ (L2 ++ y :: Z)) := by simp
      have d2 : X ++ (L1 ++ (T1 ++ t :: T2 ++ L2) ++ y :: Z) = (X ++ (L1 ++ (T1 ++ t :: T2 ++ L2))) ++ y :: Z := by simp
      have ll : (X ++ (L1 ++ T1)).length = i + n / 2 := by simp; omega
      have ly : (X ++ (L1 ++ (T1 ++ t :: T2 ++ L2))).length = k := by simp; omega
      have gt : (X ++ (L1 ++ (T1 ++ t :: T2 ++ L2) ++ y :: Z))[i + n / 2]? = some t := by rw [d1, ← ll]; exact g1 _ _ _
      have it : inL (X ++ (L1 ++ (T1 ++ t :: T2 ++ L2) ++ y :: Z)) ((i + n / 2 : Nat) : Int) = some () := by rw [d1, ← ll]; exact i1 _ _ _
      have gy : (X ++ (L1 ++ (T1 ++ t :: T2 ++ L2) ++ y :: Z))[k]? = some y := by rw [d2, ← ly]; exact g1 _ _ _
      have iy : inL (X ++ (L1 ++ (T1 ++ t :: T2 ++ L2) ++ y :: Z)) (k : Int) = some () := by rw [d2, ← ly]; exact i1 _ _ _
      obtain ⟨hA1, hA2, hA3⟩ := asc_of_append hA
      have hw : IntKind.wrap IntKind.i64 (((i + n / 2 : Nat) : Int) + 1) = ((i + n / 2 + 1 : Nat) : Int) := wrapS (by omega)
      simp only [i23_l10, dlt, hij, decide_true, cond_true, i23_j11, eh, gt, it, gy, iy, Option.bind_some, Int.toNat_natCast, hC m hm y t hy (hP t (by simp))]
      cases hlt : decide (c y t < 0)
      · have ht : ltc c y t = false := hlt
        obtain ⟨La, Lb, e1, e2, e3, e4⟩ := ihn (n - 1 - n / 2) (by omega) M (L1 ++ (T1 ++ [t])) T2 L2 (i + n / 2 + 1) j (by omega) (by omega) (by simp; omega) (by omega) hk hl (fun x hx => by
          rcases List.mem_append.1 hx with hx | hx
          · exact h1 x hx
          · rcases List.mem_append.1 hx with hx | hx
            · exact h.ntr _ _ _ ht (hA3 x hx t (by simp))
            · rw [List.mem_singleton] at hx; subst hx; exact ht) h2 hA2.2 (fun x hx => hP x (by simp [hx]))
        refine ⟨La, Lb, by rw [← e1]; simp, e2, e3, ?_⟩
        simp only [Bool.not_false, cond_true, hw]
        have e5 : L1 ++ (T1 ++ [t]) ++ (T2 ++ L2) = L1 ++ (T1 ++ t :: T2 ++ L2) := by simp
        rw [e5] at e4
        exact e4
      · have ht : ltc c y t = true := hlt
        obtain ⟨La, Lb, e1, e2, e3, e4⟩ := ihn (n / 2) (by omega) M L1 T1 (t :: T2 ++ L2) i (i + n / 2) hT1 (by omega) hi (by omega) (by simp; omega) hl h1 (fun x hx => by
          rcases List.mem_append.1 hx with hx | hx
          · rcases List.mem_cons.1 hx with rfl | hx
            · exact ht
            · cases e : ltc c y x with
              | true => rfl
              | false => have := h.ntr _ _ _ e (hA2.1 x hx); rw [ht] at this; cases this
          · exact h2 x hx) hA1 (fun x hx => hP x (by simp [hx]))
        refine ⟨La, Lb, by rw [← e1]; simp, e2, e3, ?_⟩
        simp only [Bool.not_true, cond_false]
        have e5 : L1 ++ (T1 ++ (t :: T2 ++ L2)) = L1 ++ (T1 ++ t :: T2 ++ L2) := by simp
        rw [e5] at e4
        exact e4
set_option maxHeartbeats 4000000 in
/-- Where two rows are to be cut. -/
theorem find_cut (m : Nat) (hm : m0 ≤ m) (self : Int → Int → Int → List Dt → List Dt → Option (List Dt × List Dt)) (X Z : List Dt) (a k b mid n : Nat) (hX : X.length = a) : ∀ (q M : Nat) (L1 T L2 R1 U R2 : List Dt) (s r p : Nat), T.length = q → U.length = q → q < M → a + L1.length = s → s + T.length = r → r + L2.length = k → p + 1 = s + k + R1.length + U.length → k + R1.length + U.length < 1152921504606846976 →
    (∀ x ∈ L1, ∀ y ∈ R2, ltc c y x = false) → (∀ x ∈ L2, ∀ y ∈ R1, ltc c y x = true) → Asc (ltc c) (L1 ++ (T ++ L2)) → Asc (ltc c) (R1 ++ (U ++ R2)) → (∀ x ∈ T, P x) → (∀ y ∈ U, P y) →
    ∃ La Lb Ra Rb, L1 ++ (T ++ L2) = La ++ Lb ∧ R1 ++ (U ++ R2) = Ra ++ Rb ∧ (∀ x ∈ La, ∀ y ∈ Rb, ltc c y x = false) ∧ (∀ x ∈ Lb, ∀ y ∈ Ra, ltc c y x = true) ∧ p + 1 = a + La.length + k + Ra.length ∧
      i23_l20 m self M (a : Int) (k : Int) (b : Int) (mid : Int) (n : Int) (s : Int) (r : Int) (p : Int) (X ++ (L1 ++ (T ++ L2) ++ (R1 ++ (U ++ R2) ++ Z))) K =
      i23_j22 m self (a : Int) (k : Int) (b : Int) (mid : Int) (n : Int) ((a + La.length : Nat) : Int) (X ++ (L1 ++ (T ++ L2) ++ (R1 ++ (U ++ R2) ++ Z))) K := by
  have h := swo hc
  intro q
  induction q using Nat.strongRecOn with
  | _ q ihq =>
    intro M L1 T L2 R1 U R2 s r p hT hU hM hs hr hk hp hl h1 h2 hA hB hPT hPU
    obtain ⟨M, rfl⟩ : ∃ k, M = k + 1 := ⟨M - 1, by omega⟩
    by_cases h0 : q = 0
    · subst h0
      obtain rfl : T = [] := List.length_eq_zero_iff.1 hT
      obtain rfl : U = [] := List.length_eq_zero_iff.1 hU
      have : ¬ s < r := by simp at hr; omega
      refine ⟨L1, L2, R1, R2, by simp, by simp, h1, h2, by simp at hp; omega, ?_⟩
      simp only [i23_l20, dlt, this, decide_false, cond_false, hs]
    · have hsr : s < r := by omega
      obtain ⟨T1, t, T2, rfl, hT1⟩ := split_mid T (q / 2) (by omega)
      obtain ⟨U1, u, U2, rfl, hU1⟩ := split_mid U (q - 1 - q / 2) (by omega)
      simp only [List.length_append, List.length_cons] at hT hU hr hp hl
      have eh := half (i := s) (j := r) (by omega)
      have ehh : (s + r) / 2 = s + q / 2 := by omega
      rw [ehh] at eh
      obtain ⟨D, hD⟩ : ∃ D, D = X ++ (L1 ++ (T1 ++ t :: T2 ++ L2) ++ (R1 ++ (U1 ++ u :: U2 ++ R2) ++ Z)) := ⟨_, rfl⟩
      have d1 : D = (X ++ (L1 ++ T1)) ++ t :: (T2 ++ (L2 ++ (R1 ++ (U1 ++ u :: U2 ++ R2) ++ Z))) := by rw [hD]; simp
      have d2 : D = (X ++ (L1 ++ (T1 ++ t :: T2 ++ L2) ++ (R1 ++ U1))) ++ u :: (U2 ++ (R2 ++ Z)) := by rw [hD]; simp
      have ll : (X ++ (L1 ++ T1)).length = s + q / 2 := by simp; omega
      have lu : (X ++ (L1 ++ (T1 ++ t :: T2 ++ L2) ++ (R1 ++ U1))).length = k + R1.length + U1.length := by simp; omega
      have gt : D[s + q / 2]? = some t := by rw [d1, ← ll]; exact g1 _ _ _
      have it : inL D ((s + q / 2 : Nat) : Int) = some () := by rw [d1, ← ll]; exact i1 _ _ _
      have gu : D[k + R1.length + U1.length]? = some u := by rw [d2, ← lu]; exact g1 _ _ _
      have iu : inL D ((k + R1.length + U1.length : Nat) : Int) = some () := by rw [d2, ← lu]; exact i1 _ _ _
      have ep : IntKind.wrap IntKind.i64 ((p : Int) - ((s + q / 2 : Nat) : Int)) = ((k + R1.length + U1.length : Nat) : Int) := wrN (by omega) (by omega)
      have hw : IntKind.wrap IntKind.i64 (((s + q / 2 : Nat) : Int) + 1) = ((s + q / 2 + 1 : Nat) : Int) := wrapS (by omega)
      have a1 : L1 ++ (T1 ++ t :: T2 ++ L2) = (L1 ++ T1) ++ t :: (T2 ++ L2) := by simp
      have b1 : R1 ++ (U1 ++ u :: U2 ++ R2) = (R1 ++ U1) ++ u :: (U2 ++ R2) := by simp
      have hA' := hA
      have hB' := hB
      rw [a1] at hA'
      rw [b1] at hB'
      obtain ⟨_, hA2, hA3⟩ := asc_of_append hA'
      obtain ⟨_, hB2, hB3⟩ := asc_of_append hB'
      rw [← hD]
      simp only [i23_l20, dlt, hsr, decide_true, cond_true, i23_j21, eh, ep, gt, it, gu, iu, Option.bind_some, Int.toNat_natCast, hC m hm u t (hPU u (by simp)) (hPT t (by simp))]
      cases hlt : decide (c u t < 0)
      · have ht : ltc c u t = false := hlt
        obtain ⟨La, Lb, Ra, Rb, e1, e2, e3, e4, e5, e6⟩ := ihq (q - 1 - q / 2) (by omega) M (L1 ++ (T1 ++ [t])) T2 L2 R1 U1 (u :: U2 ++ R2) (s + q / 2 + 1) r p (by omega) hU1 (by omega) (by simp; omega) (by omega) hk (by omega) (by omega) (fun x hx y hy => by
          have hx' : ltc c t x = false := by
            rcases List.mem_append.1 hx with hx | hx
            · exact hA3 x (by simp [hx]) t (by simp)
            · rcases List.mem_append.1 hx with hx | hx
              · exact hA3 x (by simp [hx]) t (by simp)
              · rw [List.mem_singleton] at hx; subst hx; exact h.irr _
          have hy' : ltc c y u = false := by
            rcases List.mem_append.1 hy with hy | hy
            · rcases List.mem_cons.1 hy with rfl | hy
              · exact h.irr _
              · exact hB2.1 y (by simp [hy])
            · exact hB2.1 y (by simp [hy])
          exact h.ntr _ _ _ hy' (h.ntr _ _ _ ht hx')) h2 (by simpa using hA) (by simpa using hB) (fun x hx => hPT x (by simp [hx])) (fun y hy => hPU y (by simp [hy]))
        refine ⟨La, Lb, Ra, Rb, by rw [← e1]; simp, by rw [← e2]; simp, e3, e4, e5, ?_⟩
        simp only [Bool.not_false, cond_true, hw]
        have e7 : X ++ (L1 ++ (T1 ++ [t]) ++ (T2 ++ L2) ++ (R1 ++ (U1 ++ (u :: U2 ++ R2)) ++ Z)) = D := by rw [hD]; simp
        rw [e7] at e6
        exact e6
      · have ht : ltc c u t = true := hlt
        obtain ⟨La, Lb, Ra, Rb, e1, e2, e3, e4, e5, e6⟩ := ihq (q / 2) (by omega) M L1 T1 (t :: T2 ++ L2) (R1 ++ (U1 ++ [u])) U2 R2 s (s + q / 2) p hT1 (by omega) (by omega) hs (by omega) (by simp; omega) (by simp; omega) (by simp; omega) h1 (fun x hx y hy => by
          have hx' : ltc c x t = false := by
            rcases List.mem_append.1 hx with hx | hx
            · rcases List.mem_cons.1 hx with rfl | hx
              · exact h.irr _
              · exact hA2.1 x (by simp [hx])
            · exact hA2.1 x (by simp [hx])
          have hy' : ltc c u y = false := by
            rcases List.mem_append.1 hy with hy | hy
            · exact hB3 y (by simp [hy]) u (by simp)
            · rcases List.mem_append.1 hy with hy | hy
              · exact hB3 y (by simp [hy]) u (by simp)
              · rw [List.mem_singleton] at hy; subst hy; exact h.irr _
          cases e : ltc c y x with
          | true => rfl
          | false => have := h.ntr _ _ _ (h.ntr _ _ _ hy' e) hx'; rw [ht] at this; cases this) (by simpa using hA) (by simpa using hB) (fun x hx => hPT x (by simp [hx])) (fun y hy => hPU y (by simp [hy]))
        refine ⟨La, Lb, Ra, Rb, by rw [← e1]; simp, by rw [← e2]; simp, e3, e4, e5, ?_⟩
        simp only [Bool.not_true, cond_false]
        have e7 : X ++ (L1 ++ (T1 ++ (t :: T2 ++ L2)) ++ (R1 ++ (U1 ++ [u]) ++ (U2 ++ R2) ++ Z)) = D := by rw [hD]; simp
        have e8 : X ++ (L1 ++ (T1 ++ (t :: T2 ++ L2)) ++ (R1 ++ (U1 ++ [u]) ++ (U2 ++ R2) ++ Z)) = X ++ (L1 ++ (T1 ++ (t :: T2 ++ L2)) ++ ((R1 ++ (U1 ++ [u])) ++ (U2 ++ R2) ++ Z)) := by simp
        rw [e7] at e6
        exact e6
end
end Go.Proofs.YtacchdeihafmnaaDoor
