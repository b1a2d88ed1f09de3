/- The library's stable sort, third part: it gives the stable insertion sort's list. -/
import Derived.Test.YtacchdeihafmnaaDoorMSrt2
set_option linter.unusedVariables false
set_option linter.unusedSimpArgs false
namespace Go.Proofs.YtacchdeihafmnaaDoor
open Go.Am Go.Am.Srt
section
variable {c : Dt → Dt → Int} (hc : TPO c) {P : Dt → Prop} {K : List Dt}
include hc
/-- Behind the cut: rotated, and both halves merged. -/
theorem sym_cut (m : Nat) (B : Nat) (hB : B < 288230376151711744) (hmB : B + 3 ≤ m) (X La Lb Ra Rb Z : List Dt) (a k b mid n : Nat) (ha : X.length = a) (hk : a + (La.length + Lb.length) = k) (hb : k + (Ra.length + Rb.length) = b) (hbB : b ≤ B) (hmid : mid = a + La.length + Ra.length) (hn : n = mid + k)
    (hA : Asc (ltc c) (La ++ Lb)) (hR : Asc (ltc c) (Ra ++ Rb)) (h1 : ∀ x ∈ La, ∀ y ∈ Rb, ltc c y x = false) (h2 : ∀ x ∈ Lb, ∀ y ∈ Ra, ltc c y x = true) (hP : ∀ x ∈ La ++ Lb, P x) (hQ : ∀ x ∈ Ra ++ Rb, P x)
    (self : Int → Int → Int → List Dt → List Dt → Option (List Dt × List Dt))
    (hs : ∀ (X L R Z : List Dt) (a' k' b' : Nat), X.length = a' → a' + L.length = k' → k' + R.length = b' → 0 < L.length → 0 < R.length → b' ≤ b → L.length + R.length < b - a → Asc (ltc c) L → Asc (ltc c) R → (∀ x ∈ L, P x) → (∀ x ∈ R, P x) → self (a' : Int) (k' : Int) (b' : Int) (X ++ (L ++ (R ++ Z))) K = some (X ++ (isort (ltc c) (L ++ R) ++ Z), K))
    (hlt : 0 < La.length + Ra.length) (hlt2 : 0 < Lb.length + Rb.length) :
    i23_j22 m self (a : Int) (k : Int) (b : Int) (mid : Int) (n : Int) ((a + La.length : Nat) : Int) (X ++ (La ++ Lb ++ (Ra ++ Rb ++ Z))) K = some (X ++ (isort (ltc c) (La ++ Lb ++ (Ra ++ Rb)) ++ Z), K) := by
  have h := swo hc
  have een : IntKind.wrap IntKind.i64 ((n : Int) - ((a + La.length : Nat) : Int)) = ((k + Ra.length : Nat) : Int) := wrN (by omega) (by omega)
  obtain ⟨aL, aLb, aX⟩ := asc_of_append hA
  obtain ⟨aR, aRb, aY⟩ := asc_of_append hR
  have hfin : isort (ltc c) (La ++ Lb ++ (Ra ++ Rb)) = isort (ltc c) (La ++ Ra) ++ isort (ltc c) (Lb ++ Rb) := by
    have e1 := isort_rot h Lb Ra La Rb h2
    have e2 := isort_split h (X := La ++ Ra) (Y := Lb ++ Rb) (fun x hx y hy => by
      rcases List.mem_append.1 hx with hx | hx <;> rcases List.mem_append.1 hy with hy | hy
      · exact aX x hx y hy
      · exact h1 x hx y hy
      · exact h.asy (h2 y hy x hx)
      · exact aY x hx y hy)
    rw [← e2, List.append_assoc, List.append_assoc]
    rw [e1]
  -- the second half
  have s2 : ∀ X' : List Dt, X'.length = mid → i23_j24 m self (b : Int) (mid : Int) ((k + Ra.length : Nat) : Int) (X' ++ (Lb ++ (Rb ++ Z))) K = some (X' ++ (isort (ltc c) (Lb ++ Rb) ++ Z), K) := by
    intro X' hX'
    simp only [i23_j24, dlt]
    by_cases e1 : mid < k + Ra.length
    · by_cases e2 : k + Ra.length < b
      · simp only [e1, e2, decide_true, cond_true, hs X' Lb Rb Z mid (k + Ra.length) b hX' (by omega) (by omega) (by omega) (by omega) (Nat.le_refl _) (by omega) aLb aRb (fun x hx => hP x (by simp [hx])) (fun x hx => hQ x (by simp [hx])), Option.bind_some]
      · have : Rb = [] := List.length_eq_zero_iff.1 (by omega)
        subst this
        simp only [e1, e2, decide_true, decide_false, cond_true, cond_false, List.append_nil, List.nil_append, isort_asc aLb]
    · have : Lb = [] := List.length_eq_zero_iff.1 (by omega)
      subst this
      simp only [e1, decide_false, cond_false, List.nil_append, isort_asc aRb]
  -- the first half
  have s1 : i23_j23 m self (a : Int) (b : Int) (mid : Int) ((a + La.length : Nat) : Int) ((k + Ra.length : Nat) : Int) (X ++ (La ++ (Ra ++ (Lb ++ (Rb ++ Z))))) K = some (X ++ (isort (ltc c) (La ++ Lb ++ (Ra ++ Rb)) ++ Z), K) := by
    have fin : i23_j24 m self (b : Int) (mid : Int) ((k + Ra.length : Nat) : Int) (X ++ (isort (ltc c) (La ++ Ra) ++ (Lb ++ (Rb ++ Z)))) K = some (X ++ (isort (ltc c) (La ++ Lb ++ (Ra ++ Rb)) ++ Z), K) := by
      have := s2 (X ++ isort (ltc c) (La ++ Ra)) (by rw [List.length_append, isort_len, List.length_append]; omega)
      rw [hfin]
      simpa using this
    simp only [i23_j23, dlt]
    by_cases e1 : a < a + La.length
    · by_cases e2 : a + La.length < mid
      · simp only [e1, e2, decide_true, cond_true, hs X La Ra (Lb ++ (Rb ++ Z)) a (a + La.length) mid ha rfl (by omega) (by omega) (by omega) (by omega) (by omega) aL aR (fun x hx => hP x (by simp [hx])) (fun x hx => hQ x (by simp [hx])), Option.bind_some, fin]
      · have : Ra = [] := List.length_eq_zero_iff.1 (by omega)
        subst this
        simp only [e1, e2, decide_true, decide_false, cond_true, cond_false]
        simp only [List.append_nil, List.nil_append, isort_asc aL] at fin ⊢
        exact fin
    · have : La = [] := List.length_eq_zero_iff.1 (by omega)
      subst this
      simp only [e1, decide_false, cond_false]
      simp only [List.nil_append, isort_asc aR] at fin ⊢
      exact fin
  simp only [i23_j22, een, dlt]
  obtain ⟨m, rfl⟩ : ∃ q, m = q + 2 := ⟨m - 2, by omega⟩
  by_cases e1 : a + La.length < k
  · by_cases e2 : k < k + Ra.length
    · have hr := rot_eq K m (X ++ La) Lb Ra (Rb ++ Z) (a + La.length) k (k + Ra.length) (by simp; omega) (by omega) rfl (by omega) (by omega) (by omega) (by omega)
      have hr' : i24 (m + 2) ((a + La.length : Nat) : Int) (k : Int) ((k + Ra.length : Nat) : Int) (X ++ (La ++ Lb ++ (Ra ++ Rb ++ Z))) K = some (X ++ (La ++ (Ra ++ (Lb ++ (Rb ++ Z)))), K) := by simpa using hr
      simp only [e1, e2, decide_true, cond_true, hr', Option.bind_some, s1]
    · have : Ra = [] := List.length_eq_zero_iff.1 (by omega)
      subst this
      simp only [e1, e2, decide_true, decide_false, cond_true, cond_false]
      simp only [List.nil_append, List.append_assoc] at s1 ⊢
      exact s1
  · have : Lb = [] := List.length_eq_zero_iff.1 (by omega)
    subst this
    simp only [e1, decide_false, cond_false]
    simp only [List.nil_append, List.append_nil, List.append_assoc] at s1 ⊢
    exact s1
end
section
variable {c : Dt → Dt → Int} (hc : TPO c) {P : Dt → Prop} {K : List Dt} {m0 : Nat} (hC : ∀ m, m0 ≤ m → ∀ x y, P x → P y → i22 m x y K = some (c x y, K))
include hc hC
theorem sym_eq (B : Nat) (hB : B < 288230376151711744) (hB0 : m0 ≤ B) : ∀ (N m : Nat) (X L R Z : List Dt) (a k b : Nat), L.length + R.length ≤ N → N + B + 4 ≤ m → X.length = a → a + L.length = k → k + R.length = b → 0 < L.length → 0 < R.length → b ≤ B → Asc (ltc c) L → Asc (ltc c) R → (∀ x ∈ L, P x) → (∀ x ∈ R, P x) →
    i23 m (a : Int) (k : Int) (b : Int) (X ++ (L ++ (R ++ Z))) K = some (X ++ (isort (ltc c) (L ++ R) ++ Z), K)
  | 0, _, _, L, R, _, _, _, _, h, _, _, _, _, hL, _, _, _, _, _, _ => by omega
  | N + 1, m, X, L, R, Z, a, k, b, hN, hm, ha, hk, hb, hL, hR, hbB, hA, hRa, hP, hQ => by
    have h := swo hc
    obtain ⟨m, rfl⟩ : ∃ q, m = q + 1 := ⟨m - 1, by omega⟩
    have eka : IntKind.wrap IntKind.i64 ((k : Int) - (a : Int)) = ((L.length : Nat) : Int) := wrN (by omega) (by omega)
    have ebk : IntKind.wrap IntKind.i64 ((b : Int) - (k : Int)) = ((R.length : Nat) : Int) := wrN (by omega) (by omega)
    show (bif (IntKind.wrap IntKind.i64 ((k : Int) - (a : Int)) == 1) then i23_j0 m (i23 m) (a : Int) (k : Int) (b : Int) (X ++ (L ++ (R ++ Z))) K else i23_j8 m (i23 m) (a : Int) (k : Int) (b : Int) (X ++ (L ++ (R ++ Z))) K) = _
    rw [eka]
    by_cases h1 : L.length = 1
    · obtain ⟨x, rfl⟩ := List.length_eq_one_iff.1 h1
      have e : ((([x].length : Nat) : Int) == 1) = true := rfl
      rw [e]
      simp only [cond_true, i23_j0]
      simp only [List.length_cons, List.length_nil] at hk
      obtain ⟨Ra, Rb, q1, q2, q3, q4⟩ := find_up hc hC m (by omega) (i23 m) X Z x a ha (hP x (by simp)) R.length (m + 1) [] R [] k b rfl (by omega) (by simp; omega) hb (by omega) (by simp) (by simp) hRa hQ
      simp only [List.nil_append, List.append_nil] at q1 q4
      subst q1
      have q4' : i23_l1 m (i23 m) (Nat.succ m) (a : Int) (k : Int) (b : Int) (X ++ ([x] ++ (Ra ++ Rb ++ Z))) K = i23_j3 m (i23 m) (a : Int) ((a + 1 + Ra.length : Nat) : Int) (X ++ x :: (Ra ++ Rb ++ Z)) K := q4
      rw [q4']
      simp only [i23_j3, i23_j4]
      have hu := up_loop K m (i23 m) Ra (m + 1) X x (Rb ++ Z) a (a + 1 + Ra.length) ha (by omega) (by simp at hN hb; omega) (by simp at hb; omega)
      have hu' : i23_l5 m (i23 m) (Nat.succ m) ((a + 1 + Ra.length : Nat) : Int) (a : Int) (X ++ x :: (Ra ++ Rb ++ Z)) K = some (X ++ (Ra ++ x :: (Rb ++ Z)), K) := by
        simpa using hu
      rw [hu']
      have hasc : Asc (ltc c) (Ra ++ x :: Rb) := by
        obtain ⟨r1, r2, r3⟩ := asc_of_append hRa
        refine asc_append r1 ⟨q3, r2⟩ fun y hy z hz => ?_
        rcases List.mem_cons.1 hz with rfl | hz
        · exact h.asy (q2 y hy)
        · exact r3 y hy z hz
      have hj := isort_jump h x Ra [] Rb q2
      simp only [List.nil_append] at hj
      have : isort (ltc c) ([x] ++ (Ra ++ Rb)) = Ra ++ x :: Rb := by
        have e2 : [x] ++ (Ra ++ Rb) = x :: Ra ++ Rb := by simp
        rw [e2, hj, isort_asc hasc]
      rw [this]
      simp
    · have e : (((L.length : Nat) : Int) == 1) = false := by rw [beq_eq_false_iff_ne]; omega
      rw [e]
      simp only [cond_false, i23_j8, ebk]
      by_cases h2 : R.length = 1
      · obtain ⟨y, rfl⟩ := List.length_eq_one_iff.1 h2
        have e : ((([y].length : Nat) : Int) == 1) = true := rfl
        rw [e]
        simp only [cond_true, i23_j9]
        simp only [List.length_cons, List.length_nil] at hb
        obtain ⟨La, Lb, q1, q2, q3, q4⟩ := find_down hc hC m (by omega) (i23 m) X Z y a k ha (hQ y (by simp)) L.length (m + 1) [] L [] a k rfl (by omega) (by simp) hk (by simp) (by omega) (by simp) (by simp) hA hP
        simp only [List.nil_append, List.append_nil] at q1 q4
        subst q1
        have q4' : i23_l10 m (i23 m) (Nat.succ m) (k : Int) (a : Int) (k : Int) (X ++ (La ++ Lb ++ ([y] ++ Z))) K = i23_j12 m (i23 m) (k : Int) ((a + La.length : Nat) : Int) (X ++ (La ++ Lb ++ y :: Z)) K := q4
        rw [q4']
        rw [List.length_append] at hk hN
        simp only [i23_j12, i23_j13]
        have hd := down_loop K m (i23 m) Lb.length (m + 1) (X ++ La) Lb y Z (a + La.length) k rfl (by simp; omega) (by omega) (by omega) (by omega)
        have hd' : i23_l14 m (i23 m) (Nat.succ m) ((a + La.length : Nat) : Int) (k : Int) (X ++ (La ++ Lb ++ y :: Z)) K = some (X ++ (La ++ (y :: (Lb ++ Z))), K) := by
          simpa using hd
        rw [hd']
        have hasc : Asc (ltc c) (La ++ y :: Lb) := by
          obtain ⟨r1, r2, r3⟩ := asc_of_append hA
          refine asc_append r1 ⟨fun z hz => h.asy (q3 z hz), r2⟩ fun z hz w hw => ?_
          rcases List.mem_cons.1 hw with rfl | hw
          · exact q2 z hz
          · exact r3 z hz w hw
        have hr := isort_rot h Lb [y] La [] (fun u hu v hv => by rw [List.mem_singleton] at hv; subst hv; exact q3 u hu)
        simp only [List.append_nil, List.singleton_append] at hr
        have : isort (ltc c) (La ++ Lb ++ [y]) = La ++ y :: Lb := by
          rw [List.append_assoc, hr, isort_asc hasc]
        rw [this]
        simp
      · have e : (((R.length : Nat) : Int) == 1) = false := by rw [beq_eq_false_iff_ne]; omega
        rw [e]
        obtain ⟨mid, hmid⟩ : ∃ mid, mid = (a + b) / 2 := ⟨_, rfl⟩
        have emid := half (i := a) (j := b) (by omega)
        rw [← hmid] at emid
        have en : IntKind.wrap IntKind.i64 ((mid : Int) + (k : Int)) = ((mid + k : Nat) : Int) := wrN (by omega) (by omega)
        have ep : IntKind.wrap IntKind.i64 (((mid + k : Nat) : Int) - 1) = ((mid + k - 1 : Nat) : Int) := wrN (by omega) (by omega)
        simp only [cond_false, i23_j17, emid, en, dlt, i23_j18, ep, i23_j19]
        have hself : ∀ (X' L' R' Z' : List Dt) (a' k' b' : Nat), X'.length = a' → a' + L'.length = k' → k' + R'.length = b' → 0 < L'.length → 0 < R'.length → b' ≤ b → L'.length + R'.length < b - a → Asc (ltc c) L' → Asc (ltc c) R' → (∀ x ∈ L', P x) → (∀ x ∈ R', P x) → i23 m (a' : Int) (k' : Int) (b' : Int) (X' ++ (L' ++ (R' ++ Z'))) K = some (X' ++ (isort (ltc c) (L' ++ R') ++ Z'), K) :=
          fun X' L' R' Z' a' k' b' g1 g2 g3 g4 g5 g6 g7 g8 g9 g10 g11 => sym_eq B hB hB0 N m X' L' R' Z' a' k' b' (by omega) (by omega) g1 g2 g3 g4 g5 (by omega) g8 g9 g10 g11
        have done : ∀ (La Lb Ra Rb : List Dt), L = La ++ Lb → R = Ra ++ Rb → (∀ x ∈ La, ∀ y ∈ Rb, ltc c y x = false) → (∀ x ∈ Lb, ∀ y ∈ Ra, ltc c y x = true) → mid + k - 1 + 1 = a + La.length + k + Ra.length →
            i23_j22 m (i23 m) (a : Int) (k : Int) (b : Int) (mid : Int) ((mid + k : Nat) : Int) ((a + La.length : Nat) : Int) (X ++ (La ++ Lb ++ (Ra ++ Rb ++ Z))) K = some (X ++ (isort (ltc c) (La ++ Lb ++ (Ra ++ Rb)) ++ Z), K) := by
          intro La Lb Ra Rb eL eR g1 g2 g3
          subst eL eR
          rw [List.length_append] at hk hb hN h1 h2 hL hR
          exact sym_cut hc m B hB (by omega) X La Lb Ra Rb Z a k b mid (mid + k) ha hk hb hbB (by omega) rfl hA hRa g1 g2 hP hQ _ hself (by omega) (by omega)
        by_cases hmk : mid < k
        · have enb : IntKind.wrap IntKind.i64 (((mid + k : Nat) : Int) - (b : Int)) = ((mid + k - b : Nat) : Int) := wrN (by omega) (by omega)
          simp only [hmk, decide_true, cond_true, enb]
          obtain ⟨L1, L0, e1, e2⟩ := split_at L (mid + k - b - a) (by omega)
          obtain ⟨T, L2, e3, e4⟩ := split_at L0 (mid - (mid + k - b)) (by rw [e1, List.length_append] at hk; omega)
          subst e3
          have hLl : L.length = L1.length + (T.length + L2.length) := by rw [e1]; simp
          obtain ⟨La, Lb, Ra, Rb, q1, q2, q3, q4, q5, q6⟩ := find_cut hc hC m (by omega) (i23 m) X Z a k b mid (mid + k) ha T.length (m + 1) L1 T L2 [] R [] (mid + k - b) mid (mid + k - 1) rfl (by omega) (by omega) (by omega) (by omega) (by omega) (by simp; omega) (by simp; omega) (by simp) (by simp) (by rw [← e1]; exact hA) (by simpa using hRa) (fun x hx => hP x (by rw [e1]; simp [hx])) hQ
          simp only [List.nil_append, List.append_nil] at q2 q6
          rw [← e1] at q1 q6
          refine q6.trans ?_
          have := done La Lb Ra Rb q1 q2 q3 q4 q5
          rw [← q1, ← q2] at this
          exact this
        · simp only [hmk, decide_false, cond_false]
          obtain ⟨R1, R0, e1, e2⟩ := split_at R (mid - k) (by omega)
          obtain ⟨U, R2, e3, e4⟩ := split_at R0 L.length (by rw [e1, List.length_append] at hb; omega)
          subst e3
          have hRl : R.length = R1.length + (U.length + R2.length) := by rw [e1]; simp
          obtain ⟨La, Lb, Ra, Rb, q1, q2, q3, q4, q5, q6⟩ := find_cut hc hC m (by omega) (i23 m) X Z a k b mid (mid + k) ha L.length (m + 1) [] L [] R1 U R2 a k (mid + k - 1) rfl e4 (by omega) (by simp) hk (by simp) (by omega) (by omega) (by simp) (by simp) (by simpa using hA) (by rw [← e1]; exact hRa) hP (fun x hx => hQ x (by rw [e1]; simp [hx]))
          simp only [List.nil_append, List.append_nil] at q1 q6
          rw [← e1] at q2 q6
          refine q6.trans ?_
          have := done La Lb Ra Rb q1 q2 q3 q4 q5
          rw [← q1, ← q2] at this
          exact this
/-- Rows of ascending blocks. -/
inductive AB (lt : Dt → Dt → Bool) (s : Nat) : List Dt → Prop where
  | last {l : List Dt} (h : l.length ≤ s) (a : Asc lt l) : AB lt s l
  | cons {x l : List Dt} (h : x.length = s) (a : Asc lt x) (r : AB lt s l) : AB lt s (x ++ l)
omit hc hC in
theorem AB.asc {lt : Dt → Dt → Bool} {s : Nat} {l : List Dt} (h : AB lt s l) (hs : 0 < s) (hl : l.length ≤ s) : Asc lt l := by
  cases h with
  | last _ a => exact a
  | @cons x l h a r =>
    rw [List.length_append] at hl
    have : l = [] := List.length_eq_zero_iff.1 (by omega)
    subst this
    simpa using a
/-- Each block by insertion. -/
theorem st_l1 (m B : Nat) (hB : B < 288230376151711744) (hmB : B + 4 ≤ m) (hB0 : m0 + 1 ≤ m) (n : Nat) (hnB : n ≤ B) : ∀ (q M : Nat) (X R : List Dt) (a : Nat), R.length ≤ q → q < M → X.length = a → a + R.length = n → (∀ x ∈ R, P x) →
    ∃ R', AB (ltc c) 20 R' ∧ R'.length = R.length ∧ isort (ltc c) R' = isort (ltc c) R ∧ (∀ x ∈ R', P x) ∧ i20_l1 m M (n : Int) 20 (a : Int) ((a + 20 : Nat) : Int) (X ++ R) K = i20_j4 m (n : Int) 20 (X ++ R') K := by
  have h := swo hc
  obtain ⟨m, rfl⟩ : ∃ k, m = k + 1 := ⟨m - 1, by omega⟩
  intro q
  induction q using Nat.strongRecOn with
  | _ q ih =>
    intro M X R a hR hM ha hn hP
    obtain ⟨M, rfl⟩ : ∃ k, M = k + 1 := ⟨M - 1, by omega⟩
    simp only [i20_l1, dle]
    by_cases hle : a + 20 ≤ n
    · obtain ⟨x, R2, rfl, hx⟩ := split_at R 20 (by omega)
      rw [List.length_append] at hn hR
      have hi := ins_eq hc hC m (by omega) X x R2 a (a + 20) ha (by omega) (by omega) (by omega) (fun y hy => hP y (by simp [hy]))
      obtain ⟨R', g1, g2, g3, g4, g5⟩ := ih (q - 20) (by omega) M (X ++ isort (ltc c) x) R2 (a + 20) (by omega) (by omega) (by rw [List.length_append, isort_len]; omega) (by omega) (fun y hy => hP y (by simp [hy]))
      refine ⟨isort (ltc c) x ++ R', .cons (by rw [isort_len]; exact hx) (asc_isort h x) g1, by rw [List.length_append, List.length_append, isort_len, g2], ?_, fun y hy => ?_, ?_⟩
      · exact (isort_ctx2 h (by have := isort_isort h x []; simpa using this) g3)
      · rcases List.mem_append.1 hy with hy | hy
        · exact hP y (by simp [mem_isort.1 hy])
        · exact g4 y hy
      · have ew : IntKind.wrap IntKind.i64 (((a + 20 : Nat) : Int) + 20) = ((a + 20 + 20 : Nat) : Int) := wrN (by omega) (by omega)
        simp only [hle, decide_true, cond_true, i20_j2, hi, Option.bind_some, ew]
        simp only [List.append_assoc] at g5 ⊢
        exact g5
    · have hi := ins_eq hc hC m (by omega) X R [] a n ha hn (by omega) (by omega) hP
      simp only [List.append_nil] at hi
      refine ⟨isort (ltc c) R, .last (by rw [isort_len]; omega) (asc_isort h R), isort_len R, by have := isort_isort h R []; simpa using this, fun y hy => hP y (mem_isort.1 hy), ?_⟩
      simp only [hle, decide_false, cond_false, i20_j3, hi, Option.bind_some]
/-- Blocks are merged two by two. -/
theorem st_l8 (m B : Nat) (hB : B < 288230376151711744) (hmB : 2 * B + 6 ≤ m) (hB0 : m0 ≤ B) (n s : Nat) (hnB : n ≤ B) (hs : 0 < s) (hsB : s ≤ B) (rec5 : Int → Int → List Dt → List Dt → Option (List Dt × List Dt)) : ∀ (q M : Nat) (X R : List Dt) (a : Nat), R.length ≤ q → q < M → X.length = a → a + R.length = n → AB (ltc c) s R → (∀ x ∈ R, P x) →
    ∃ R', AB (ltc c) (2 * s) R' ∧ R'.length = R.length ∧ isort (ltc c) R' = isort (ltc c) R ∧ (∀ x ∈ R', P x) ∧ i20_l8 m rec5 M (n : Int) (s : Int) (a : Int) ((a + 2 * s : Nat) : Int) (X ++ R) K = i20_j11 m rec5 (n : Int) (s : Int) (X ++ R') K := by
  have h := swo hc
  intro q
  induction q using Nat.strongRecOn with
  | _ q ih =>
    intro M X R a hR hM ha hn hAB hP
    obtain ⟨M, rfl⟩ : ∃ k, M = k + 1 := ⟨M - 1, by omega⟩
    have eas : IntKind.wrap IntKind.i64 ((a : Int) + (s : Int)) = ((a + s : Nat) : Int) := wrN (by omega) (by omega)
    have e2s : IntKind.wrap IntKind.i64 ((2 : Int) * (s : Int)) = ((2 * s : Nat) : Int) := wrN (by omega) (by omega)
    simp only [i20_l8, dle]
    by_cases hle : a + 2 * s ≤ n
    · cases hAB with
      | last hl _ => omega
      | @cons x R1 hx ax r1 =>
        rw [List.length_append] at hn hR
        have hy : ∃ y R2, R1 = y ++ R2 ∧ y.length = s ∧ Asc (ltc c) y ∧ AB (ltc c) s R2 := by
          cases r1 with
          | last hl al => exact ⟨R1, [], by simp, by omega, al, .last (by simp) trivial⟩
          | @cons y R2 hy ay r2 => exact ⟨y, R2, rfl, hy, ay, r2⟩
        obtain ⟨y, R2, rfl, hy, ay, r2⟩ := hy
        rw [List.length_append] at hn hR
        have hsy := sym_eq hc hC B hB hB0 (2 * s) m X x y R2 a (a + s) (a + 2 * s) (by omega) (by omega) ha (by omega) (by omega) (by omega) (by omega) (by omega) ax ay (fun z hz => hP z (by simp [hz])) (fun z hz => hP z (by simp [hz]))
        obtain ⟨R', g1, g2, g3, g4, g5⟩ := ih (q - 2 * s) (by omega) M (X ++ isort (ltc c) (x ++ y)) R2 (a + 2 * s) (by omega) (by omega) (by rw [List.length_append, isort_len, List.length_append]; omega) (by omega) r2 (fun z hz => hP z (by simp [hz]))
        have exy : isort (ltc c) (isort (ltc c) (x ++ y)) = isort (ltc c) (x ++ y) := by have := isort_isort h (x ++ y) []; simpa using this
        refine ⟨isort (ltc c) (x ++ y) ++ R', .cons (by rw [isort_len, List.length_append]; omega) (asc_isort h _) g1, by simp only [List.length_append, isort_len, g2]; omega, ?_, fun z hz => ?_, ?_⟩
        · rw [← List.append_assoc]
          exact isort_ctx2 h exy g3
        · rcases List.mem_append.1 hz with hz | hz
          · exact hP z (by have := mem_isort.1 hz; simp only [List.mem_append] at this ⊢; rcases this with q | q <;> simp [q])
          · exact g4 z hz
        · have ew : IntKind.wrap IntKind.i64 (((a + 2 * s : Nat) : Int) + ((2 * s : Nat) : Int)) = ((a + 2 * s + 2 * s : Nat) : Int) := wrN (by omega) (by omega)
          have hsy' : i23 m (a : Int) ((a + s : Nat) : Int) ((a + 2 * s : Nat) : Int) (X ++ (x ++ (y ++ R2))) K = some (X ++ (isort (ltc c) (x ++ y) ++ R2), K) := hsy
          simp only [hle, decide_true, cond_true, i20_j9, eas, e2s, hsy', Option.bind_some, ew]
          simp only [List.append_assoc] at g5 ⊢
          exact g5
    · simp only [hle, decide_false, cond_false, i20_j10, eas, dlt]
      by_cases hlt : a + s < n
      · have hsp : ∃ x y, R = x ++ y ∧ x.length = s ∧ Asc (ltc c) x ∧ Asc (ltc c) y := by
          cases hAB with
          | last hl al => omega
          | @cons x y hx ax r1 =>
            rw [List.length_append] at hn
            exact ⟨x, y, rfl, hx, ax, r1.asc hs (by omega)⟩
        obtain ⟨x, y, rfl, hx, ax, ay⟩ := hsp
        rw [List.length_append] at hn hR
        have hsy := sym_eq hc hC B hB hB0 B m X x y [] a (a + s) n (by omega) (by omega) ha (by omega) (by omega) (by omega) (by omega) (by omega) ax ay (fun z hz => hP z (by simp [hz])) (fun z hz => hP z (by simp [hz]))
        simp only [List.append_nil] at hsy
        have exy : isort (ltc c) (isort (ltc c) (x ++ y)) = isort (ltc c) (x ++ y) := by have := isort_isort h (x ++ y) []; simpa using this
        refine ⟨isort (ltc c) (x ++ y), .last (by rw [isort_len, List.length_append]; omega) (asc_isort h _), isort_len _, exy, fun z hz => hP z (mem_isort.1 hz), ?_⟩
        simp only [hlt, decide_true, cond_true, hsy, Option.bind_some]
      · refine ⟨R, .last (by omega) (hAB.asc hs (by omega)), rfl, rfl, hP, ?_⟩
        simp only [hlt, decide_false, cond_false]
theorem st_l5 (m B : Nat) (hB : B < 144115188075855872) (hmB : 2 * B + 6 ≤ m) (hB0 : m0 ≤ B) (n : Nat) (hnB : 2 * n + 40 ≤ B) : ∀ (q M s : Nat) (R : List Dt), n - s ≤ q → q < M → 20 ≤ s → s ≤ 2 * n + 20 → R.length = n → AB (ltc c) s R → (∀ x ∈ R, P x) →
    i20_l5 m M (n : Int) (s : Int) R K = some (isort (ltc c) R, K) := by
  have h := swo hc
  intro q
  induction q using Nat.strongRecOn with
  | _ q ih =>
    intro M s R hq hM hs hs2 hR hAB hP
    obtain ⟨M, rfl⟩ : ∃ k, M = k + 1 := ⟨M - 1, by omega⟩
    simp only [i20_l5, dlt]
    by_cases hlt : s < n
    · obtain ⟨R', g1, g2, g3, g4, g5⟩ := st_l8 hc hC m B (by omega) hmB hB0 n s (by omega) (by omega) (by omega) (i20_l5 m M) n (m + 1) [] R 0 (by omega) (by omega) rfl (by omega) hAB hP
      have e2s : IntKind.wrap IntKind.i64 ((2 : Int) * (s : Int)) = ((0 + 2 * s : Nat) : Int) := wrN (by omega) (by omega)
      have es2 : IntKind.wrap IntKind.i64 ((s : Int) * 2) = ((2 * s : Nat) : Int) := wrN (by omega) (by omega)
      have g5' : i20_l8 m (i20_l5 m M) (Nat.succ m) (n : Int) (s : Int) 0 ((0 + 2 * s : Nat) : Int) R K = i20_j11 m (i20_l5 m M) (n : Int) (s : Int) R' K := g5
      simp only [hlt, decide_true, cond_true, i20_j6, i20_j7, e2s, g5', i20_j11, es2]
      rw [ih (n - 2 * s) (by omega) M (2 * s) R' (by omega) (by omega) (by omega) (by omega) (by omega) g1 g4, g3]
    · simp only [hlt, decide_false, cond_false]
      rw [isort_asc (hAB.asc (by omega) (by omega))]
/-- THE STABLE SORT. -/
theorem stable_eq (m B : Nat) (hB : B < 144115188075855872) (hmB : 2 * B + 6 ≤ m) (hB0 : m0 ≤ B) (R : List Dt) (hnB : 2 * R.length + 40 ≤ B) (hP : ∀ x ∈ R, P x) : i19 (m + 2) R K = some (isort (ltc c) R, K) := by
  obtain ⟨R', g1, g2, g3, g4, g5⟩ := st_l1 hc hC m B (by omega) (by omega) (by omega) R.length (by omega) R.length (m + 1) [] R 0 (Nat.le_refl _) (by omega) rfl (by omega) hP
  have g5' : i20_l1 m (Nat.succ m) ((R.length : Nat) : Int) 20 0 20 R K = i20_j4 m ((R.length : Nat) : Int) 20 R' K := g5
  have h5 := st_l5 hc hC m B hB hmB hB0 R.length hnB R.length (m + 1) 20 R' (by omega) (by omega) (by omega) (by omega) g2 g1 g4
  have h5' : i20_l5 m (Nat.succ m) ((R.length : Nat) : Int) 20 R' K = some (isort (ltc c) R', K) := h5
  simp only [i19, i20, i20_j0, g5', i20_j4, h5', Option.bind_some, g3]
end
end Go.Proofs.YtacchdeihafmnaaDoor
