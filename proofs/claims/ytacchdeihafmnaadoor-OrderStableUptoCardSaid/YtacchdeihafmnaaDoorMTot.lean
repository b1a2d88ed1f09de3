/- Functions that always answer: conditions, steps, UTF-8, names, well-formed values. -/
import Derived.Test.YtacchdeihafmnaaDoorMVal2
import Derived.Test.YtacchdeihafmnaaDoorMNm
set_option linter.unusedVariables false
set_option linter.unusedSimpArgs false
namespace Go.Proofs.YtacchdeihafmnaaDoor
open Go.Am
theorem tc {A : Type} {b : Bool} {x y : Option A} {Q : A → Prop} (hx : b = true → ∃ r, x = some r ∧ Q r) (hy : b = false → ∃ r, y = some r ∧ Q r) : ∃ r, (bif b then x else y) = some r ∧ Q r := by
  cases b
  · exact hy rfl
  · exact hx rfl
theorem tb {A B : Type} {x : Option A} {f : A → Option B} {Q : B → Prop} (hx : ∃ v, x = some v) (hf : ∀ v, x = some v → ∃ r, f v = some r ∧ Q r) : ∃ r, x.bind f = some r ∧ Q r := by
  obtain ⟨v, hv⟩ := hx
  obtain ⟨r, hr⟩ := hf v hv
  exact ⟨r, by rw [hv, Option.bind_some, hr.1], hr.2⟩
def Tt {A : Type} (_ : A) : Prop := True
theorem ts {A : Type} {a : A} : ∃ r, (some a : Option A) = some r ∧ Tt r := ⟨a, rfl, trivial⟩
theorem idxS_ex {s : ByteArray} {i : Int} (h0 : 0 ≤ i) (h1 : i < s.size) : ∃ v, idxS s i = some v := by
  obtain ⟨k, rfl⟩ : ∃ k : Nat, i = k := ⟨i.toNat, by omega⟩
  exact ⟨_, idxS_lt (by omega)⟩
theorem tail_tot (m : Nat) (s : ByteArray) (hs : s.size < 1000000000000) (i n : Int) (h0 : 0 ≤ i) (hn : 0 ≤ n) (hn4 : n ≤ 4) (hi : i + n ≤ s.size) : ∀ (M : Nat) (k : Int), 0 ≤ k → k ≤ n → n - k < M → ∃ r, ref01_tail_l2 m M s i n k = some r ∧ Tt r
  | 0, k, _, _, h => by omega
  | M + 1, k, hk, hk2, h => by
    simp only [ref01_tail_l2, ref01_tail_j3, ref01_tail_j4, ref01_tail_j5]
    refine tc (fun hb => ?_) fun _ => ts
    have hlt : k < n := of_decide_eq_true hb
    have hw : IntKind.wrap IntKind.i64 (i + k) = i + k := wrap64 (by omega) (by omega)
    have hw2 : IntKind.wrap IntKind.i64 (k + 1) = k + 1 := wrap64 (by omega) (by omega)
    have hx : ∃ v, idxS s (IntKind.wrap IntKind.i64 (i + k)) = some v := by rw [hw]; exact idxS_ex (by omega) (by omega)
    refine tb hx fun _ _ => tc (fun _ => ts) fun _ => tb hx fun _ _ => tc (fun _ => ts) fun _ => ?_
    rw [hw2]
    exact tail_tot m s hs i n h0 hn hn4 hi M (k + 1) (by omega) (by omega) (by omega)
theorem utf_j5 (m : Nat) (s : ByteArray) (rec1 : ByteArray → Int → Option Bool) (i n : Int) (hrec : ∃ r, rec1 s (i + n + 1) = some r ∧ Tt r) (h0 : 0 ≤ i) (hn : 0 ≤ n) (hi : i + n < 1000000000000) : ∃ r, ref01_UTF8_j5 m rec1 s i n = some r ∧ Tt r := by
  simp only [ref01_UTF8_j5]
  rw [wrap64 (show -9223372036854775808 ≤ i + n by omega) (by omega), wrap64 (by omega) (by omega)]
  exact hrec
theorem utf_j4 (m : Nat) (s : ByteArray) (rec1 : ByteArray → Int → Option Bool) (i c n : Int) (h5 : ∃ r, ref01_UTF8_j5 m rec1 s i n = some r ∧ Tt r) (hx : 224 ≤ c → ∃ v, idxS s (IntKind.wrap IntKind.i64 (i + 1)) = some v) : ∃ r, ref01_UTF8_j4 m rec1 s i c n = some r ∧ Tt r := by
  simp only [ref01_UTF8_j4]
  have hx' : ∀ k : Int, 224 ≤ k → (c == k) = true → ∃ v, idxS s (IntKind.wrap IntKind.i64 (i + 1)) = some v := by
    intro k hk h
    have : c = k := by simpa using h
    exact hx (by omega)
  repeat' first
    | exact h5
    | exact ts
    | refine tb (hx' 224 (by omega) (by assumption)) fun _ _ => ?_
    | refine tb (hx' 237 (by omega) (by assumption)) fun _ _ => ?_
    | refine tb (hx' 240 (by omega) (by assumption)) fun _ _ => ?_
    | refine tb (hx' 244 (by omega) (by assumption)) fun _ _ => ?_
    | refine tc (fun _ => ?_) (fun _ => ?_)
theorem utf_j3 (m : Nat) (s : ByteArray) (hs : s.size < 1000000000000) (rec1 : ByteArray → Int → Option Bool) (i c n : Int) (h0 : 0 ≤ i) (hi : i < s.size) (hn : 0 ≤ n) (hn4 : n ≤ 4) (hc : 224 ≤ c → 1 ≤ n) (hm : 10 ≤ m)
    (hrec : i + n < s.size → ∃ r, rec1 s (i + n + 1) = some r ∧ Tt r) : ∃ r, ref01_UTF8_j3 m rec1 s i c n = some r ∧ Tt r := by
  simp only [ref01_UTF8_j3]
  obtain ⟨m, rfl⟩ : ∃ k, m = k + 1 := ⟨m - 1, by omega⟩
  rw [wrap64 (show -9223372036854775808 ≤ i + 1 by omega) (by omega)]
  simp only [ref01_tail]
  rw [wrap64 (show -9223372036854775808 ≤ i + 1 + n by omega) (by omega)]
  cases hb : decide ((s.size : Int) < i + 1 + n)
  · have hle : i + 1 + n ≤ s.size := by have := of_decide_eq_false hb; omega
    obtain ⟨r, hr, _⟩ := tail_tot m s hs (i + 1) n (by omega) hn hn4 (by omega) (m + 1) 0 (by omega) (by omega) (by omega)
    simp only [cond_false, ref01_tail_j0, ref01_tail_j1]
    refine tb ⟨r, hr⟩ fun _ _ => tc (fun _ => ts) fun _ => ?_
    refine utf_j4 (m + 1) s rec1 i c n (utf_j5 (m + 1) s rec1 i n (hrec (by omega)) h0 hn (by omega)) fun h => ?_
    have := hc h
    rw [wrap64 (by omega) (by omega)]
    exact idxS_ex (by omega) (by omega)
  · exact ⟨_, rfl, trivial⟩
theorem utf_tot (m : Nat) (hm : 10 ≤ m) (s : ByteArray) (hs : s.size < 1000000000000) : ∀ (M : Nat) (i : Int), 0 ≤ i → i ≤ s.size → s.size - i < M → ∃ r, ref01_UTF8_l1 m M s i = some r ∧ Tt r
  | 0, i, _, _, h => by omega
  | M + 1, i, h0, hi, h => by
    simp only [ref01_UTF8_l1, ref01_UTF8_j2, ref01_UTF8_j6]
    refine tc (fun hb => ?_) fun _ => ts
    have hlt : i < s.size := of_decide_eq_true hb
    refine tb (idxS_ex h0 hlt) fun v _ => ?_
    have h3 : ∀ n : Int, 0 ≤ n → n ≤ 4 → (224 ≤ v → 1 ≤ n) → ∃ r, ref01_UTF8_j3 m (ref01_UTF8_l1 m M) s i v n = some r ∧ Tt r := fun n hn hn4 hc =>
      utf_j3 m s hs _ i v n h0 hlt hn hn4 hc hm fun h2 => utf_tot m hm s hs M (i + n + 1) (by omega) (by omega) (by omega)
    repeat' first
      | exact ts
      | exact h3 1 (by omega) (by omega) (by omega)
      | exact h3 2 (by omega) (by omega) (by omega)
      | exact h3 3 (by omega) (by omega) (by omega)
      | exact h3 0 (by omega) (by omega) (by rename_i hb0; have := of_decide_eq_true hb0; omega)
      | refine tc (fun _ => ?_) (fun _ => ?_)
theorem utf8_tot (m : Nat) (hm : 10 ≤ m) (s : ByteArray) (hs : s.size ≤ m) (hm2 : m < 1000000000000) : ∃ r, ref01_UTF8 (m + 1) s = some r ∧ Tt r :=
  utf_tot m hm s (by omega) (m + 1) 0 (by omega) (by omega) (by omega)
theorem formed_l6 (m : Nat) (self46 self63 : Dt → Bool → Option Bool) (d : Dt) (hl : (Dt.L d 3).length < 1000000000000) (hs : ∀ e ∈ Dt.L d 3, ∃ r, self46 e true = some r ∧ Tt r) (hf : ∃ r, self63 d true = some r ∧ Tt r) : ∀ (M i : Nat), i ≤ (Dt.L d 3).length → (Dt.L d 3).length - i < M → ∃ r, ref01_formed_l6 m self46 self63 M true (i : Int) d = some r ∧ Tt r
  | 0, i, _, h => by omega
  | M + 1, i, hi, h => by
    simp only [ref01_formed_l6, dlt]
    by_cases hlt : i < (Dt.L d 3).length
    · obtain ⟨r, hr, _⟩ := hs _ (List.getElem_mem hlt)
      simp only [hlt, decide_true, cond_true, ref01_formed_j7, ref01_formed_j8, idx_lt hlt, Option.bind_some, hr, wrapS (show i < 9223372036854775807 by omega)]
      exact tc (fun _ => ts) fun _ => formed_l6 m self46 self63 d hl hs hf M (i + 1) (by omega) (by omega)
    · simp only [hlt, decide_false, cond_false, ref01_formed_j9]
      obtain ⟨r, hr, _⟩ := hf
      rw [hr]
      exact ts
theorem fields_l5 (m : Nat) (self46 : Dt → Bool → Option Bool) (rec1 : Bool → Int → Dt → Option Bool) (d f : Dt) (i : Nat) (hi : i ≤ (Dt.L d 4).length) (hl : (Dt.L d 4).length < 1000000000000) (hrec : ∃ r, rec1 true ((i + 1 : Nat) : Int) d = some r ∧ Tt r) : ∀ (M k : Nat), k ≤ i → i - k < M → ∃ r, ref01_fields_l5 m self46 rec1 M true (i : Int) (k : Int) d f = some r ∧ Tt r
  | 0, k, _, h => by omega
  | M + 1, k, hk, h => by
    simp only [ref01_fields_l5, dlt]
    by_cases hlt : k < i
    · simp only [hlt, decide_true, cond_true, ref01_fields_j6, ref01_fields_j7, idx_lt (show k < (Dt.L d 4).length by omega), Option.bind_some, wrapS (show k < 9223372036854775807 by omega)]
      exact tc (fun _ => ts) fun _ => fields_l5 m self46 rec1 d f i hi hl hrec M (k + 1) (by omega) (by omega)
    · simp only [hlt, decide_false, cond_false, ref01_fields_j8, wrapS (show i < 9223372036854775807 by omega)]
      exact hrec
theorem fields_l1 (m : Nat) (hm : 40 ≤ m) (self46 : Dt → Bool → Option Bool) (d : Dt) (hl : (Dt.L d 4).length ≤ m) (hm2 : m < 1000000000000) (hs : ∀ e ∈ Dt.L d 4, ∃ r, self46 (Dt.fld e 1) true = some r ∧ Tt r) : ∀ (M i : Nat), i ≤ (Dt.L d 4).length → (Dt.L d 4).length - i < M → ∃ r, ref01_fields_l1 m self46 M true (i : Int) d = some r ∧ Tt r
  | 0, i, _, h => by omega
  | M + 1, i, hi, h => by
    obtain ⟨m, rfl⟩ : ∃ k, m = k + 1 := ⟨m - 1, by omega⟩
    simp only [ref01_fields_l1, dlt]
    by_cases hlt : i < (Dt.L d 4).length
    · obtain ⟨r, hr, _⟩ := hs _ (List.getElem_mem hlt)
      simp only [hlt, decide_true, cond_true, ref01_fields_j2, idx_lt hlt, Option.bind_some, name_eq m (by omega), Bool.not_true, cond_false, hr, ref01_fields_j3, ref01_fields_j4]
      have hin := fields_l5 (m + 1) self46 (ref01_fields_l1 (m + 1) self46 M) d (Dt.L d 4)[i] i (by omega) (by omega) (fields_l1 (m + 1) hm self46 d hl hm2 hs M (i + 1) (by omega) (by omega)) (m + 2) 0 (by omega) (by omega)
      exact tc (fun _ => ts) fun _ => tc (fun _ => ts) fun _ => hin
    · simp only [hlt, decide_false, cond_false, ref01_fields_j9]
      exact ts
theorem formed_tot : ∀ (N : Nat) (d : Dt), d.bulk ≤ N → WV d → ∀ m, 2 * N + 50 ≤ m → m < 1000000000000 → ∃ r, ref01_formed m d true = some r ∧ Tt r
  | 0, d, h, _, _, _, _ => by have := bulk_pos d; omega
  | N + 1, d, h, hw, m, hm, hm2 => by
    obtain ⟨m, rfl⟩ : ∃ k, m = k + 2 := ⟨m - 2, by omega⟩
    have hw0 := hw
    cases hw with
    | @mk k i t l ds hl hd =>
      rw [bulk_val] at h
      have hl1 := len_bulk l
      have hd1 := len_bulk ds
      have e3 : Dt.L (.agg [.int k, .int i, .str t, .lst l, .lst ds]) 3 = l := rfl
      have e4 : Dt.L (.agg [.int k, .int i, .str t, .lst l, .lst ds]) 4 = ds := rfl
      have e2 : Dt.S (.agg [.int k, .int i, .str t, .lst l, .lst ds]) 2 = t := rfl
      have hfl : ∃ r, ref01_fields (m + 1) (.agg [.int k, .int i, .str t, .lst l, .lst ds]) true = some r ∧ Tt r := by
        refine fields_l1 m (by omega) (ref01_formed m) _ (by rw [e4]; omega) (by omega) (fun e he => ?_) (m + 1) 0 (Nat.zero_le _) (by rw [e4]; omega)
        rw [e4] at he
        have hb := bulk_mem he
        cases hd e he with
        | @mk s v hv =>
          rw [bulk_fld] at hb
          exact formed_tot N v (by omega) hv m (by omega) (by omega)
      have hl6 := formed_l6 (m + 1) (ref01_formed (m + 1)) (ref01_fields (m + 1)) (.agg [.int k, .int i, .str t, .lst l, .lst ds]) (by rw [e3]; omega) (fun e he => by
        rw [e3] at he
        have hb := bulk_mem he
        exact formed_tot N e (by omega) (hl e he) (m + 1) (by omega) (by omega)) hfl (m + 2) 0 (Nat.zero_le _) (by rw [e3]; omega)
      have hu := utf8_tot m (by omega) t (by omega) (by omega)
      have hj3 : ∃ r, ref01_formed_j3 (m + 1) (ref01_formed (m + 1)) (ref01_fields (m + 1)) true (.agg [.int k, .int i, .str t, .lst l, .lst ds]) = some r ∧ Tt r := by
        simp only [ref01_formed_j3, ref01_formed_j4, ref01_formed_j5, e2]
        obtain ⟨u, hu, _⟩ := hu
        repeat' first
          | exact ts
          | exact hl6
          | exact tb ⟨u, hu⟩ fun _ _ => ts
          | refine tc (fun _ => ?_) (fun _ => ?_)
      have hj2 : ∀ a b, ∃ r, ref01_formed_j2 (m + 1) (ref01_formed (m + 1)) (ref01_fields (m + 1)) true a b (.agg [.int k, .int i, .str t, .lst l, .lst ds]) = some r ∧ Tt r := fun a b => by
        simp only [ref01_formed_j2]
        repeat' first
          | exact ts
          | exact hj3
          | refine tc (fun _ => ?_) (fun _ => ?_)
      have hj0 : ∃ r, ref01_formed_j0 (m + 1) (ref01_formed (m + 1)) (ref01_fields (m + 1)) true (.agg [.int k, .int i, .str t, .lst l, .lst ds]) = some r ∧ Tt r := by
        simp only [ref01_formed_j0, ref01_formed_j1]
        repeat' first
          | exact hj2 _ _
          | refine tc (fun _ => ?_) (fun _ => ?_)
      simp only [ref01_formed]
      repeat' first
        | exact ts
        | exact hj0
        | refine tc (fun _ => ?_) (fun _ => ?_)
/-- Whether a value is valid is always answered; a valid one has at most 16 levels. -/
theorem rvalid_tot (d : Dt) (hw : WV d) (hb : d.bulk ≤ 1048576) (m : Nat) (hm : 3000000 ≤ m) (hm2 : m < 900000000000) : ∃ b, ref01_Valid (m + 1) d = some b ∧ (b = true → DL 16 d) := by
  obtain ⟨m, rfl⟩ : ∃ k, m = k + 3 := ⟨m - 3, by omega⟩
  obtain ⟨r, h1, h2, h3, h4⟩ := levels_eq d.bulk d (Nat.le_refl _) (by omega) hw m (by omega) 17 (by omega) (by omega)
  obtain ⟨c, h5⟩ := count_tot d.bulk d (Nat.le_refl _) (by omega) hw m (by omega) 1025
  obtain ⟨f, h6, _⟩ := formed_tot d.bulk d (Nat.le_refl _) hw (m + 3) (by omega) (by omega)
  have h1' : ref01_levels (m + 2) d 17 = some (r : Int) := h1
  simp only [ref01_Valid, ref01_Depth, ref01_Nodes, h1', h5, h6, Option.bind_some]
  by_cases hr : r ≤ 16
  · have e : decide ((r : Int) ≤ 16) = true := by simp; omega
    simp only [e, cond_true]
    cases decide (c ≤ 1024)
    · exact ⟨false, rfl, fun h => by cases h⟩
    · exact ⟨f, rfl, fun _ => (h4 (by omega)).mono hr⟩
  · have e : decide ((r : Int) ≤ 16) = false := by rw [decide_eq_false_iff_not]; omega
    simp only [e, cond_false]
    exact ⟨false, rfl, fun h => by cases h⟩
end Go.Proofs.YtacchdeihafmnaaDoor
