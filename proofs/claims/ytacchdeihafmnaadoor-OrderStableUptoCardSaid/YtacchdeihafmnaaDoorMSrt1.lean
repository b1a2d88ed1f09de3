/- The library's stable sort, first part: insertion, exchanges of ranges, rotation, over lists taken apart. -/
import Derived.Test.YtacchdeihafmnaaDoorFx
import Derived.Test.YtacchdeihafmnaaDoorMBase
import Derived.Test.YtacchdeihafmnaaDoorMTpo
set_option linter.unusedVariables false
set_option linter.unusedSimpArgs false
namespace Go.Proofs.YtacchdeihafmnaaDoor
open Go.Am Go.Am.Srt
theorem g1 (A B : List Dt) (x : Dt) : (A ++ x :: B)[A.length]? = some x := by simp
theorem s1 (A B : List Dt) (x z : Dt) : (A ++ x :: B).set A.length z = A ++ z :: B := by simp
theorem i1 (A B : List Dt) (x : Dt) : inL (A ++ x :: B) ((A.length : Nat) : Int) = some () := by
  unfold inL
  rw [if_pos ⟨by omega, by rw [List.length_append, List.length_cons]; omega⟩]
theorem wrN {z : Int} {n : Nat} (h : z = (n : Int)) (hn : n < 9223372036854775807) : IntKind.wrap IntKind.i64 z = (n : Int) := by rw [h, wrap64 (by omega) (by omega)]
/-- 'less' of a comparing function. -/
def ltc (c : Dt → Dt → Int) (x y : Dt) : Bool := decide (c x y < 0)
theorem swo {c : Dt → Dt → Int} (h : TPO c) : SWO (ltc c) := ⟨fun x => by simp [ltc, h.refl], fun x y z h1 h2 => by
  simp only [ltc, decide_eq_true_eq] at h1 h2 ⊢
  exact h.ltl h1 (by omega), fun x y z h1 h2 => by
  simp only [ltc, decide_eq_false_iff_not] at h1 h2 ⊢
  have a1 := h.anti x y
  have a2 := h.anti y z
  have a3 := h.anti x z
  have := h.tr z y x (by omega) (by omega)
  omega⟩
section
variable (K : List Dt)
/-- An exchange of two ranges. -/
theorem swr_loop (m : Nat) : ∀ (M : Nat) (X P Y Q Z : List Dt) (a b i n : Nat), X.length = a + i → P.length + i = n → Q.length = P.length → X.length + P.length + Y.length = b + i → P.length < M → b + n < 4611686018427387904 →
    i25_l1 m M (a : Int) (b : Int) (n : Int) (i : Int) (X ++ (P ++ (Y ++ (Q ++ Z)))) K = some (X ++ (Q ++ (Y ++ (P ++ Z))), K)
  | 0, _, _, _, _, _, _, _, _, _, _, _, _, _, h, _ => by omega
  | M + 1, X, [], Y, Q, Z, a, b, i, n, hX, hP, hQ, hb, hM, hl => by
    have hin : ¬ i < n := by simp at hP; omega
    obtain rfl : Q = [] := List.length_eq_zero_iff.1 (by simpa using hQ)
    simp only [i25_l1, dlt, hin, decide_false, cond_false, List.nil_append]
  | M + 1, X, p :: P, Y, [], Z, a, b, i, n, hX, hP, hQ, hb, hM, hl => by simp at hQ
  | M + 1, X, p :: P, Y, q :: Q, Z, a, b, i, n, hX, hP, hQ, hb, hM, hl => by
    simp only [List.length_cons] at hP hQ hb hM
    have hin : i < n := by omega
    have ea : IntKind.wrap IntKind.i64 ((a : Int) + (i : Int)) = ((X.length : Nat) : Int) := wrN (by omega) (by omega)
    have eb : IntKind.wrap IntKind.i64 ((b : Int) + (i : Int)) = (((X ++ p :: (P ++ Y)).length : Nat) : Int) := wrN (by simp; omega) (by simp; omega)
    have eb' : (X ++ q :: (P ++ Y)).length = (X ++ p :: (P ++ Y)).length := by simp
    have d1 : X ++ (p :: P ++ (Y ++ (q :: Q ++ Z))) = X ++ p :: (P ++ (Y ++ (q :: (Q ++ Z)))) := by simp
    have d2 : X ++ p :: (P ++ (Y ++ (q :: (Q ++ Z)))) = (X ++ p :: (P ++ Y)) ++ q :: (Q ++ Z) := by simp
    have d3 : X ++ q :: (P ++ (Y ++ (q :: (Q ++ Z)))) = (X ++ q :: (P ++ Y)) ++ q :: (Q ++ Z) := by simp
    have hgq : (X ++ p :: (P ++ (Y ++ (q :: (Q ++ Z)))))[(X ++ p :: (P ++ Y)).length]? = some q := by rw [d2]; exact g1 _ _ _
    have hiq : inL (X ++ p :: (P ++ (Y ++ (q :: (Q ++ Z))))) (((X ++ p :: (P ++ Y)).length : Nat) : Int) = some () := by rw [d2]; exact i1 _ _ _
    have hgq2 : (X ++ q :: (P ++ (Y ++ (q :: (Q ++ Z)))))[(X ++ p :: (P ++ Y)).length]? = some q := by rw [d3, ← eb']; exact g1 _ _ _
    have hiq2 : inL (X ++ q :: (P ++ (Y ++ (q :: (Q ++ Z))))) (((X ++ p :: (P ++ Y)).length : Nat) : Int) = some () := by rw [d3, ← eb']; exact i1 _ _ _
    have hs2 : (X ++ q :: (P ++ (Y ++ (q :: (Q ++ Z))))).set (X ++ p :: (P ++ Y)).length p = (X ++ q :: (P ++ Y)) ++ p :: (Q ++ Z) := by rw [d3, ← eb']; exact s1 _ _ _ _
    rw [d1]
    simp only [i25_l1, dlt, hin, decide_true, cond_true, i25_j2, i25_j3, ea, eb, hiq, hgq, hiq2, hgq2, hs2, i1, g1, s1, Option.bind_some, Int.toNat_natCast, wrapS (show i < 9223372036854775807 by omega)]
    have ih := swr_loop m M (X ++ [q]) P (Y ++ [p]) Q Z a b (i + 1) n (by simp; omega) (by omega) (by omega) (by simp; omega) (by omega) hl
    simp only [List.append_assoc, List.cons_append, List.nil_append] at ih ⊢
    exact ih
theorem swr_eq (m : Nat) (X P Y Q Z : List Dt) (b n : Nat) (hP : P.length = n) (hQ : Q.length = n) (hb : X.length + P.length + Y.length = b) (hm : n ≤ m) (hl : b + n < 4611686018427387904) :
    i25 (m + 1) (X.length : Int) (b : Int) (n : Int) (X ++ (P ++ (Y ++ (Q ++ Z)))) K = some (X ++ (Q ++ (Y ++ (P ++ Z))), K) :=
  swr_loop K m (m + 1) X P Y Q Z X.length b 0 n rfl (by omega) (by omega) (by omega) (by omega) hl
theorem split_at {A : Type} (l : List A) (k : Nat) (h : k ≤ l.length) : ∃ p q, l = p ++ q ∧ p.length = k := ⟨l.take k, l.drop k, (List.take_append_drop k l).symm, by simp; omega⟩
/-- A rotation. -/
theorem rot_loop (m : Nat) : ∀ (M : Nat) (X U V Z : List Dt) (k i j : Nat), X.length + U.length = k → U.length = i → V.length = j → 0 < i → 0 < j → i + j ≤ M → i + j ≤ m → k + j < 2305843009213693952 →
    i24_l1 (m + 1) M (k : Int) (i : Int) (j : Int) (X ++ (U ++ (V ++ Z))) K = some (X ++ (V ++ (U ++ Z)), K)
  | 0, _, _, _, _, _, _, _, _, _, _, _, _, h, _, _ => by omega
  | M + 1, X, U, V, Z, k, i, j, hk, hU, hV, hi, hj, hM, hm, hl => by
    have ewi : IntKind.wrap IntKind.i64 ((k : Int) - (i : Int)) = ((X.length : Nat) : Int) := wrN (by omega) (by omega)
    by_cases hij : i = j
    · subst hij
      have e : (((i : Int) != (i : Int)) : Bool) = false := by simp
      have hs := swr_eq K m X U [] V Z k i hU hV (by simp; omega) (by omega) (by omega)
      simp only [List.nil_append] at hs
      simp only [i24_l1, e, cond_false, i24_j3, ewi, hs, Option.bind_some]
    · have e : (((i : Int) != (j : Int)) : Bool) = true := by simp only [bne_iff_ne]; omega
      by_cases hlt : j < i
      · obtain ⟨U1, U2, rfl, h1⟩ := split_at U j (by omega)
        rw [List.length_append] at hU hk
        have hs := swr_eq K m X U1 U2 V Z k j h1 hV (by omega) (by omega) (by omega)
        have ewj : IntKind.wrap IntKind.i64 ((i : Int) - (j : Int)) = (((i - j : Nat) : Nat) : Int) := wrN (by omega) (by omega)
        have ih := rot_loop m M (X ++ V) U2 U1 Z k (i - j) j (by simp; omega) (by omega) (by omega) (by omega) hj (by omega) (by omega) hl
        simp only [List.append_assoc] at ih hs ⊢
        simp only [i24_l1, e, cond_true, i24_j2, dlt, hlt, decide_true, ewi, hs, Option.bind_some, ewj, ih]
      · obtain ⟨V1, V2, rfl, h1⟩ := split_at V (j - i) (by omega)
        rw [List.length_append] at hV
        have hs := swr_eq K m X U V1 V2 Z (k + (j - i)) i hU (by omega) (by omega) (by omega) (by omega)
        have ewb : IntKind.wrap IntKind.i64 (IntKind.wrap IntKind.i64 ((k : Int) + (j : Int)) - (i : Int)) = (((k + (j - i) : Nat) : Nat) : Int) := by
          have e0 : IntKind.wrap IntKind.i64 ((k : Int) + (j : Int)) = ((k + j : Nat) : Int) := wrN (by omega) (by omega)
          rw [e0]
          exact wrN (by omega) (by omega)
        have ewj : IntKind.wrap IntKind.i64 ((j : Int) - (i : Int)) = (((j - i : Nat) : Nat) : Int) := wrN (by omega) (by omega)
        have ih := rot_loop m M X V2 V1 (U ++ Z) k i (j - i) (by omega) (by omega) (by omega) hi (by omega) (by omega) (by omega) (by omega)
        simp only [List.append_assoc] at ih hs ⊢
        simp only [i24_l1, e, cond_true, i24_j2, dlt, hlt, decide_false, cond_false, ewi, ewb, hs, Option.bind_some, ewj, ih]
theorem rot_eq (m : Nat) (X U V Z : List Dt) (a k b : Nat) (ha : X.length = a) (hk : a + U.length = k) (hb : k + V.length = b) (hU : 0 < U.length) (hV : 0 < V.length) (hm : b ≤ m) (hl : b < 1152921504606846976) :
    i24 (m + 2) (a : Int) (k : Int) (b : Int) (X ++ (U ++ (V ++ Z))) K = some (X ++ (V ++ (U ++ Z)), K) := by
  have e1 : IntKind.wrap IntKind.i64 ((k : Int) - (a : Int)) = ((U.length : Nat) : Int) := wrN (by omega) (by omega)
  have e2 : IntKind.wrap IntKind.i64 ((b : Int) - (k : Int)) = ((V.length : Nat) : Int) := wrN (by omega) (by omega)
  simp only [i24, i24_j0, e1, e2]
  exact rot_loop K m (m + 2) X U V Z k U.length V.length (by omega) rfl rfl hU hV (by omega) (by omega) (by omega)
end
section
variable {c : Dt → Dt → Int} (hc : TPO c) {P : Dt → Prop} {K : List Dt} {m0 : Nat} (hC : ∀ m, m0 ≤ m → ∀ x y, P x → P y → i22 m x y K = some (c x y, K))
include hc hC
/-- One element goes down to its place. -/
theorem ins_in (m : Nat) (hm : m0 ≤ m) (rec1 : Int → Int → Int → List Dt → List Dt → Option (List Dt × List Dt)) (a : Nat) (x1 x2 : Int) : ∀ (n M : Nat) (X S : List Dt) (x : Dt) (Z : List Dt) (j : Nat), S.length = n → X.length = a → a + S.length = j → n < M → (∀ y ∈ S, P y) → P x → Asc (ltc c) S → j < 4611686018427387904 →
    i21_l4 m rec1 M (a : Int) x1 x2 (j : Int) (X ++ (S ++ x :: Z)) K = rec1 (a : Int) x1 (IntKind.wrap IntKind.i64 (x2 + 1)) (X ++ (isort (ltc c) (S ++ [x]) ++ Z)) K
  | _, 0, _, _, _, _, _, _, _, _, h, _, _, _, _ => by omega
  | 0, M + 1, X, S, x, Z, j, hn, hX, hj, hM, hS, hx, hA, hl => by
    obtain rfl : S = [] := List.length_eq_zero_iff.1 hn
    have : ¬ a < j := by simp at hj; omega
    simp only [i21_l4, dlt, this, decide_false, cond_false, i21_j7, List.nil_append, isort, ins, List.singleton_append]
  | n + 1, M + 1, X, S, x, Z, j, hn, hX, hj, hM, hS, hx, hA, hl => by
    have h := swo hc
    have hne : S ≠ [] := by rintro rfl; simp at hn
    obtain ⟨S', y, rfl⟩ : ∃ S' y, S = S' ++ [y] := ⟨S.dropLast, S.getLast hne, (List.dropLast_concat_getLast hne).symm⟩
    simp only [List.length_append, List.length_cons, List.length_nil] at hn hj
    have haj : a < j := by omega
    obtain ⟨hA1, _, hA2⟩ := asc_of_append hA
    have hy : P y := hS y (by simp)
    have d0 : X ++ (S' ++ [y] ++ x :: Z) = (X ++ S') ++ y :: x :: Z := by simp
    have d1 : (X ++ S') ++ y :: x :: Z = (X ++ (S' ++ [y])) ++ x :: Z := by simp
    have d2 : (X ++ S') ++ y :: x :: Z = (X ++ S') ++ y :: (x :: Z) := rfl
    have lj : (X ++ (S' ++ [y])).length = j := by simp; omega
    have lj1 : (X ++ S').length = j - 1 := by simp; omega
    have ej : IntKind.wrap IntKind.i64 ((j : Int) - 1) = ((j - 1 : Nat) : Int) := wrN (by omega) (by omega)
    have gx : ((X ++ S') ++ y :: x :: Z)[j]? = some x := by rw [d1, ← lj]; exact g1 _ _ _
    have ix : inL ((X ++ S') ++ y :: x :: Z) (j : Int) = some () := by rw [d1, ← lj]; exact i1 _ _ _
    have gy : ((X ++ S') ++ y :: x :: Z)[j - 1]? = some y := by rw [← lj1]; exact g1 _ _ _
    have iy : inL ((X ++ S') ++ y :: x :: Z) ((j - 1 : Nat) : Int) = some () := by rw [← lj1]; exact i1 _ _ _
    have sx : ((X ++ S') ++ y :: x :: Z).set j y = (X ++ S') ++ y :: y :: Z := by
      rw [d1, ← lj, s1]; simp
    have gy2 : ((X ++ S') ++ y :: y :: Z)[j - 1]? = some y := by rw [← lj1]; exact g1 _ _ _
    have iy2 : inL ((X ++ S') ++ y :: y :: Z) ((j - 1 : Nat) : Int) = some () := by rw [← lj1]; exact i1 _ _ _
    have sy : ((X ++ S') ++ y :: y :: Z).set (j - 1) x = X ++ (S' ++ x :: (y :: Z)) := by rw [← lj1, s1]; simp
    rw [d0]
    simp only [i21_l4, dlt, haj, decide_true, cond_true, ix, gx, ej, iy, gy, Option.bind_some, Int.toNat_natCast, hC m hm x y hx hy]
    cases hlt : decide (c x y < 0)
    · have hxy : ltc c x y = false := hlt
      have hasc : Asc (ltc c) (S' ++ [y] ++ [x]) := asc_append hA ⟨by simp, trivial⟩ (fun s hs z hz => by
        rw [List.mem_singleton] at hz
        subst hz
        rcases List.mem_append.1 hs with hs | hs
        · exact h.ntr _ _ _ hxy (hA2 s hs y (by simp))
        · rw [List.mem_singleton] at hs; subst hs; exact hxy)
      simp only [cond_false, i21_j7]
      rw [isort_asc hasc]
      simp
    · have hxy : ltc c x y = true := hlt
      simp only [cond_true, i21_j5, i21_j6, ix, gx, ej, iy, gy, sx, iy2, gy2, sy, Option.bind_some, Int.toNat_natCast]
      have ih := ins_in m hm rec1 a x1 x2 n M X S' x (y :: Z) (j - 1) (by omega) hX (by omega) (by omega) (fun z hz => hS z (by simp [hz])) hx hA1 (by omega)
      rw [ih]
      have e1 : isort (ltc c) (S' ++ [y] ++ [x]) = isort (ltc c) (S' ++ [x]) ++ [y] := by
        have hsw := isort_swap h hxy S' []
        have hsp := isort_split h (X := S' ++ [x]) (Y := [y]) (fun s hs z hz => by
          rw [List.mem_singleton] at hz
          subst hz
          rcases List.mem_append.1 hs with hs | hs
          · exact hA2 s hs z (by simp)
          · rw [List.mem_singleton] at hs; subst hs; exact h.asy hxy)
        simp only [List.append_assoc, List.singleton_append] at hsp hsw ⊢
        rw [hsw, hsp]
        rfl
      rw [e1]
      simp
theorem ins_out (m : Nat) (hm : m0 ≤ m) (a b : Nat) (hl : b < 4611686018427387904) (X Z : List Dt) (hX : X.length = a) : ∀ (n M : Nat) (S Y : List Dt) (i : Nat), Y.length = n → n < M → b ≤ m → a + S.length = i → i + Y.length = b → (∀ y ∈ S, P y) → (∀ y ∈ Y, P y) →
    i21_l1 m M (a : Int) (b : Int) (i : Int) (X ++ (isort (ltc c) S ++ (Y ++ Z))) K = some (X ++ (isort (ltc c) (S ++ Y) ++ Z), K)
  | _, 0, _, _, _, _, h, _, _, _, _, _ => by omega
  | 0, M + 1, S, Y, i, hn, hM, hm2, hi, hb, hS, hY => by
    obtain rfl : Y = [] := List.length_eq_zero_iff.1 hn
    have : ¬ i < b := by simp at hb; omega
    simp only [i21_l1, dlt, this, decide_false, cond_false, List.nil_append, List.append_nil]
  | n + 1, M + 1, S, [], i, hn, hM, hm2, hi, hb, hS, hY => by simp at hn
  | n + 1, M + 1, S, y :: Y, i, hn, hM, hm2, hi, hb, hS, hY => by
    have h := swo hc
    simp only [List.length_cons] at hn hb
    have hib : i < b := by omega
    have hin := ins_in hc hC m hm (i21_l1 m M) a (b : Int) (i : Int) S.length (m + 1) X (isort (ltc c) S) y (Y ++ Z) i (isort_len S) hX (by rw [isort_len]; omega) (by omega) (fun z hz => hS z (mem_isort.1 hz)) (hY y (by simp)) (asc_isort h S) (by omega)
    have ih := ins_out m hm a b hl X Z hX n M (S ++ [y]) Y (i + 1) (by omega) (by omega) hm2 (by simp; omega) (by omega) (fun z hz => by
      rcases List.mem_append.1 hz with hz | hz
      · exact hS z hz
      · rw [List.mem_singleton] at hz; subst hz; exact hY z (by simp)) (fun z hz => hY z (by simp [hz]))
    simp only [i21_l1, dlt, hib, decide_true, cond_true, i21_j2, i21_j3, List.cons_append]
    rw [show Nat.succ m = m + 1 from rfl, hin, wrapS (by omega), isort_isort h]
    simp only [List.append_assoc, List.singleton_append] at ih ⊢
    exact ih
theorem ins_eq (m : Nat) (hm : m0 ≤ m) (X Y Z : List Dt) (a b : Nat) (ha : X.length = a) (hb : a + Y.length = b) (hm2 : b ≤ m) (hl : b < 4611686018427387904) (hY : ∀ y ∈ Y, P y) :
    i21 (m + 1) (a : Int) (b : Int) (X ++ (Y ++ Z)) K = some (X ++ (isort (ltc c) Y ++ Z), K) := by
  simp only [i21, i21_j0, wrapS (show a < 9223372036854775807 by omega)]
  cases Y with
  | nil =>
    have : ¬ a + 1 < b := by simp at hb; omega
    simp only [i21_l1, dlt, this, decide_false, cond_false, isort]
  | cons y Y =>
    have := ins_out hc hC m hm a b hl X Z ha Y.length (m + 1) [y] Y (a + 1) rfl (by simp at hb; omega) hm2 rfl (by simp at hb; omega) (fun z hz => by rw [List.mem_singleton] at hz; subst hz; exact hY z (by simp)) (fun z hz => hY z (by simp [hz]))
    simp only [isort, ins, List.singleton_append] at this
    exact this
end
end Go.Proofs.YtacchdeihafmnaaDoor
