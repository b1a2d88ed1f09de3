/- Names, valid paths, splitting and joining: the program's functions and the reference's, in plain Lean. -/
import Derived.Test.YtacchdeihafmnaaDoorMPfx
set_option linter.unusedVariables false
set_option linter.unusedSimpArgs false
namespace Go.Proofs.YtacchdeihafmnaaDoor
open Go.Am

def okB (c : UInt8) : Bool := !(decide ((c.toNat : Int) < 33) || decide ((126 : Int) < c.toNat) || ((c.toNat : Int) == 46))
def nmL (l : List UInt8) : Bool := match l with
  | [] => false
  | c :: r => decide (r.length < 32) && !((c.toNat : Int) == 36) && (c :: r).all okB
def nm (s : ByteArray) : Bool := nmL s.data.toList
def vld (l : List Dt) : Bool := decide (1 ≤ l.length) && decide (l.length ≤ 16) && l.all fun e => nm e.toStr

theorem getB (s : ByteArray) (i : Nat) (h : i < s.size) : s.data.toList.drop i = s[i] :: s.data.toList.drop (i + 1) := by
  rw [List.drop_eq_getElem_cons (show i < s.data.toList.length by simpa using h)]
  rfl
theorem lenB (s : ByteArray) : s.data.toList.length = s.size := by rw [Array.length_toList]; rfl

theorem notName_loop (m : Nat) (s : ByteArray) (hs : s.size < 9223372036854775807) : ∀ (M i : Nat), i ≤ s.size → s.size - i < M → path_notName_l2 m M s (s.size : Int) (i : Int) = some (!((s.data.toList.drop i).all okB))
  | 0, i, _, h => by omega
  | M + 1, i, hi, h => by
    simp only [path_notName_l2, dlt]
    by_cases hlt : i < s.size
    · rw [getB s i hlt]
      simp only [hlt, decide_true, cond_true, path_notName_j3, path_notName_j4, idxS_lt hlt, Option.bind_some, wrapS (show i < 9223372036854775807 by omega), notName_loop m s hs M (i + 1) (by omega) (by omega), List.all_cons, okB]
      cases decide (((s[i]).toNat : Int) < 33) <;> cases decide ((126 : Int) < ((s[i]).toNat : Int)) <;> cases (((s[i]).toNat : Int) == 46) <;> rfl
    · have : i = s.size := by omega
      subst this
      rw [List.drop_eq_nil_of_le (by rw [lenB]; omega)]
      simp [path_notName_j5]
theorem name_loop (m : Nat) (s : ByteArray) (hs : s.size < 9223372036854775807) : ∀ (M i : Nat), i ≤ s.size → s.size - i < M → ref01_Name_l2 m M s (i : Int) = some ((s.data.toList.drop i).all okB)
  | 0, i, _, h => by omega
  | M + 1, i, hi, h => by
    simp only [ref01_Name_l2, dlt]
    by_cases hlt : i < s.size
    · rw [getB s i hlt]
      simp only [hlt, decide_true, cond_true, ref01_Name_j3, ref01_Name_j4, idxS_lt hlt, Option.bind_some, wrapS (show i < 9223372036854775807 by omega), name_loop m s hs M (i + 1) (by omega) (by omega), List.all_cons, okB]
      cases decide (((s[i]).toNat : Int) < 33) <;> cases decide ((126 : Int) < ((s[i]).toNat : Int)) <;> cases (((s[i]).toNat : Int) == 46) <;> rfl
    · have : i = s.size := by omega
      subst this
      rw [List.drop_eq_nil_of_le (by rw [lenB]; omega)]
      simp [ref01_Name_j5]
theorem nm_parts (s : ByteArray) (h1 : 1 ≤ s.size) (h2 : s.size ≤ 32) : nm s = (!(((s[0]).toNat : Int) == 36) && s.data.toList.all okB) := by
  have e := getB s 0 (by omega)
  have hl : (s.data.toList.drop 1).length < 32 := by rw [List.length_drop, lenB]; omega
  rw [List.drop_zero] at e
  unfold nm
  rw [e]
  simp only [Nat.zero_add] at hl ⊢
  unfold nmL
  simp only [hl, decide_true, Bool.true_and]
theorem nm_short (s : ByteArray) (h : s.size < 1) : nm s = false := by
  unfold nm
  have : s.data.toList = [] := List.eq_nil_of_length_eq_zero (by rw [lenB]; omega)
  rw [this]; rfl
theorem nm_long (s : ByteArray) (h : 32 < s.size) : nm s = false := by
  have e := getB s 0 (by omega)
  have hl : ¬ (s.data.toList.drop 1).length < 32 := by rw [List.length_drop, lenB]; omega
  rw [List.drop_zero] at e
  unfold nm
  rw [e]
  simp only [Nat.zero_add]
  unfold nmL
  simp only [hl, decide_false, Bool.false_and]
theorem notName_eq (m : Nat) (hm : 33 ≤ m) (s : ByteArray) : path_notName (m + 1) s = some (!nm s) := by
  simp only [path_notName]
  by_cases h1 : s.size < 1
  · have : decide ((s.size : Int) < 1) = true := by simp; omega
    simp only [this, cond_true, nm_short s h1, Bool.not_false]
  have e1 : decide ((s.size : Int) < 1) = false := by simp; omega
  by_cases h2 : 32 < s.size
  · have : decide ((32 : Int) < (s.size : Int)) = true := by simp; omega
    simp only [e1, this, cond_true, cond_false, nm_long s h2, Bool.not_false]
  have e2 : decide ((32 : Int) < (s.size : Int)) = false := by simp; omega
  have hx := idxS_lt (s := s) (i := 0) (by omega)
  have hl := notName_loop m s (by omega) (m + 1) 0 (by omega) (by omega)
  rw [List.drop_zero] at hl
  have hl' : path_notName_l2 m (Nat.succ m) s (s.size : Int) 0 = some (!s.data.toList.all okB) := hl
  simp only [e1, e2, cond_false, show idxS s 0 = _ from hx, Option.bind_some, path_notName_j0, path_notName_j1, hl', nm_parts s (by omega) (by omega)]
  cases (((s[0]).toNat : Int) == 36) <;> rfl
theorem name_eq (m : Nat) (hm : 33 ≤ m) (s : ByteArray) : ref01_Name (m + 1) s = some (nm s) := by
  simp only [ref01_Name]
  by_cases h1 : s.size < 1
  · have : decide ((s.size : Int) < 1) = true := by simp; omega
    simp only [this, cond_true, nm_short s h1]
  have e1 : decide ((s.size : Int) < 1) = false := by simp; omega
  by_cases h2 : 32 < s.size
  · have : decide ((32 : Int) < (s.size : Int)) = true := by simp; omega
    simp only [e1, this, cond_true, cond_false, nm_long s h2]
  have e2 : decide ((32 : Int) < (s.size : Int)) = false := by simp; omega
  have hx := idxS_lt (s := s) (i := 0) (by omega)
  have hl := name_loop m s (by omega) (m + 1) 0 (by omega) (by omega)
  rw [List.drop_zero] at hl
  have hl' : ref01_Name_l2 m (Nat.succ m) s 0 = some (s.data.toList.all okB) := hl
  simp only [e1, e2, cond_false, show idxS s 0 = _ from hx, Option.bind_some, ref01_Name_j0, ref01_Name_j1, hl', nm_parts s (by omega) (by omega)]
  cases (((s[0]).toNat : Int) == 36) <;> rfl

theorem indexf_loop (m : Nat) (hm : 34 ≤ m) (l : List Dt) (hl : l.length < 9223372036854775807) : ∀ (M i : Nat), i ≤ l.length → l.length - i < M → ∃ r, slices_IndexFunc_i15_l1 m M l (l.length : Int) (i : Int) = some r ∧ decide ((0 : Int) ≤ r) = !((l.drop i).all fun e => nm e.toStr)
  | 0, i, _, h => by omega
  | M + 1, i, hi, h => by
    obtain ⟨m, rfl⟩ : ∃ k, m = k + 1 := ⟨m - 1, by omega⟩
    simp only [slices_IndexFunc_i15_l1, dlt]
    by_cases hlt : i < l.length
    · rw [List.drop_eq_getElem_cons hlt]
      obtain ⟨r, h1, h2⟩ := indexf_loop (m + 1) hm l hl M (i + 1) (by omega) (by omega)
      simp only [hlt, decide_true, cond_true, slices_IndexFunc_i15_j2, slices_IndexFunc_i15_j3, idx_lt hlt, Option.bind_some, wrapS (show i < 9223372036854775807 by omega), notName_eq m (by omega), h1, List.all_cons]
      cases hn : nm (l[i]).toStr
      · exact ⟨(i : Int), by simp, by simp⟩
      · exact ⟨r, by simp, by simpa using h2⟩
    · have : i = l.length := by omega
      subst this
      exact ⟨-1, by simp [slices_IndexFunc_i15_j4], by simp⟩
theorem valid_eq (m : Nat) (hm : 40 ≤ m) (l : List Dt) : path_Valid (m + 3) l = some (vld l) := by
  simp only [path_Valid]
  by_cases h1 : 1 ≤ l.length
  · have e1 : decide ((1 : Int) ≤ ((l.length : Nat) : Int)) = true := by simp; omega
    by_cases h2 : l.length ≤ 16
    · have e2 : decide (((l.length : Nat) : Int) ≤ (16 : Int)) = true := by simp; omega
      obtain ⟨r, h3, h4⟩ := indexf_loop m (by omega) l (by omega) (m + 1) 0 (by omega) (by omega)
      have h3' : slices_IndexFunc_i15_l1 m (Nat.succ m) l (l.length : Int) 0 = some r := h3
      simp only [e1, e2, cond_true, slices_ContainsFunc_i14, slices_IndexFunc_i15, slices_IndexFunc_i15_j0, h3', Option.bind_some, h4, Bool.not_not, List.drop_zero]
      simp [vld, h1, h2]
    · have e2 : decide (((l.length : Nat) : Int) ≤ (16 : Int)) = false := by simp; omega
      simp only [e1, e2, cond_true, cond_false]
      simp [vld, h2]
  · have e1 : decide ((1 : Int) ≤ ((l.length : Nat) : Int)) = false := by simp; omega
    simp only [e1, cond_false]
    simp [vld, h1]
theorem refvalid_loop (m : Nat) (hm : 34 ≤ m) (l : List Dt) (hl : l.length < 9223372036854775807) : ∀ (M i : Nat), i ≤ l.length → l.length - i < M → ref04_Valid_l2 m M l (i : Int) = some ((l.drop i).all fun e => nm e.toStr)
  | 0, i, _, h => by omega
  | M + 1, i, hi, h => by
    obtain ⟨m, rfl⟩ : ∃ k, m = k + 1 := ⟨m - 1, by omega⟩
    simp only [ref04_Valid_l2, dlt]
    by_cases hlt : i < l.length
    · rw [List.drop_eq_getElem_cons hlt]
      simp only [hlt, decide_true, cond_true, ref04_Valid_j3, ref04_Valid_j4, idx_lt hlt, Option.bind_some, wrapS (show i < 9223372036854775807 by omega), name_eq m (by omega), refvalid_loop (m + 1) hm l hl M (i + 1) (by omega) (by omega), List.all_cons]
      cases nm (l[i]).toStr <;> rfl
    · have : i = l.length := by omega
      subst this
      simp [ref04_Valid_j5]
theorem refvalid_eq (m : Nat) (hm : 40 ≤ m) (l : List Dt) : ref04_Valid (m + 1) l = some (vld l) := by
  simp only [ref04_Valid]
  by_cases h1 : l.length < 1
  · have e1 : decide (((l.length : Nat) : Int) < (1 : Int)) = true := by simp; omega
    simp only [e1, cond_true]
    simp [vld, show ¬ 1 ≤ l.length by omega]
  have e1 : decide (((l.length : Nat) : Int) < (1 : Int)) = false := by simp; omega
  by_cases h2 : 16 < l.length
  · have e2 : decide ((16 : Int) < ((l.length : Nat) : Int)) = true := by simp; omega
    simp only [e1, e2, cond_true, cond_false]
    simp [vld, show ¬ l.length ≤ 16 by omega]
  have e2 : decide ((16 : Int) < ((l.length : Nat) : Int)) = false := by simp; omega
  have h3 := refvalid_loop m (by omega) l (by omega) (m + 1) 0 (by omega) (by omega)
  have h3' : ref04_Valid_l2 m (Nat.succ m) l 0 = _ := h3
  simp only [e1, e2, cond_false, ref04_Valid_j0, ref04_Valid_j1, h3', List.drop_zero]
  simp [vld, show 1 ≤ l.length by omega, show l.length ≤ 16 by omega]

-- splitting and joining
def strD (l : List UInt8) : Dt := .str (bytesOf l)
def consL (seg : List UInt8) : List (List UInt8) → List (List UInt8)
  | [] => [seg]
  | h :: t => (seg ++ h) :: t
theorem split_ne (c : UInt8) : ∀ l, splitOn c l ≠ []
  | [] => by simp [splitOn]
  | b :: l => by
    unfold splitOn
    cases b == c
    · simp only [cond_false]
      cases splitOn c l <;> simp [consHd]
    · simp
theorem consL_nil {t : List (List UInt8)} (h : t ≠ []) : consL [] t = t := by cases t <;> simp_all [consL]
theorem consL_hd (seg : List UInt8) (c : UInt8) {t : List (List UInt8)} (h : t ≠ []) : consL seg (consHd c t) = consL (seg ++ [c]) t := by cases t <;> simp_all [consL, consHd]
theorem seg_succ (s : ByteArray) (a i : Nat) (h1 : a ≤ i) (h2 : i < s.size) : (s.data.toList.drop a).take (i + 1 - a) = (s.data.toList.drop a).take (i - a) ++ [s[i]] := by
  rw [show i + 1 - a = (i - a) + 1 by omega, List.take_add_one]
  congr 1
  rw [List.getElem?_drop, show a + (i - a) = i by omega]
  have : i < s.data.toList.length := by rw [lenB]; exact h2
  rw [List.getElem?_eq_getElem this]
  rfl
theorem cut_seg (s : ByteArray) (a i : Nat) (h1 : a ≤ i) (h2 : i ≤ s.size) : cutS s (a : Int) (i : Int) = some (bytesOf ((s.data.toList.drop a).take (i - a))) := by
  rw [cutS_nat h1 h2]
  congr 1
  apply ByteArray.ext
  apply Array.ext'
  simp [bytesOf, ByteArray.data_extract]
theorem split_loop (m : Nat) (s : ByteArray) (hs : s.size ≤ 100000000) : ∀ (M i a : Nat) (out : List Dt), a ≤ i → i ≤ s.size → s.size - i < M → out.length ≤ i → ref04_split_l1 m M s (a : Int) (i : Int) out = some (out ++ (consL ((s.data.toList.drop a).take (i - a)) (splitOn 46 (s.data.toList.drop i))).map strD)
  | 0, i, _, _, _, _, h, _ => by omega
  | M + 1, i, a, out, ha, hi, h, ho => by
    simp only [ref04_split_l1, dlt]
    by_cases hlt : i < s.size
    · rw [getB s i hlt]
      have hc : (((s[i]).toNat : Int) == 46) = (s[i] == 46) := by
        rw [Bool.eq_iff_iff]
        simp only [beq_iff_eq]
        constructor
        · intro h; exact UInt8.toNat.inj (show (s[i]).toNat = 46 by omega)
        · intro h; rw [h]; rfl
      simp only [hlt, decide_true, cond_true, ref04_split_j2, idxS_lt hlt, Option.bind_some, hc, splitOn]
      cases hb : (s[i] == 46)
      · simp only [cond_false, ref04_split_j3, wrapS (show i < 9223372036854775807 by omega), split_loop m s hs M (i + 1) a out (by omega) (by omega) (by omega) (by omega), seg_succ s a i ha hlt, consL_hd _ _ (split_ne 46 _)]
      · have happ : app out [Dt.str (bytesOf ((s.data.toList.drop a).take (i - a)))] = some (out ++ [strD ((s.data.toList.drop a).take (i - a))]) := app_le (by simp; omega)
        simp only [cond_true, cut_seg s a i ha hi, Option.bind_some, happ, ref04_split_j3, wrapS (show i < 9223372036854775807 by omega), split_loop m s hs M (i + 1) (i + 1) _ (by omega) (by omega) (by omega) (show (out ++ [strD ((s.data.toList.drop a).take (i - a))]).length ≤ i + 1 by simp; omega)]
        rw [Nat.sub_self, List.take_zero, consL_nil (split_ne 46 _)]
        simp [consL]
    · have : i = s.size := by omega
      subst this
      have happ : app out [Dt.str (bytesOf ((s.data.toList.drop a).take (s.size - a)))] = some (out ++ [strD ((s.data.toList.drop a).take (s.size - a))]) := app_le (by simp; omega)
      simp only [Nat.lt_irrefl, decide_false, cond_false, ref04_split_j4, cut_seg s a s.size ha (Nat.le_refl _), Option.bind_some, happ]
      rw [List.drop_eq_nil_of_le (i := s.size) (by rw [lenB]; omega)]
      simp [splitOn, consL]
theorem refsplit_eq (m : Nat) (s : ByteArray) (hs : s.size ≤ m) (hm : m ≤ 100000000) : ref04_split (m + 1) s = some ((splitOn 46 s.data.toList).map strD) := by
  have := split_loop m s (by omega) (m + 1) 0 0 [] (by omega) (by omega) (by omega) (by simp)
  simp only [List.drop_zero, Nat.sub_self, List.take_zero, consL_nil (split_ne 46 _), List.nil_append] at this
  exact this
theorem split_eq (s : ByteArray) (hs : s.size < 4294967281) : strings_Split s (Dt.toStr (Dt.str (ByteArray.mk (List.toArray [(46 : UInt8)])))) = some ((splitOn 46 s.data.toList).map strD) := by
  have hb : Nat.blt s.size 4294967281 = true := Nat.ble_eq_true_of_le hs
  unfold strings_Split
  simp only [Dt.toStr, hb, cond_true]
  rfl
end Go.Proofs.YtacchdeihafmnaaDoor
