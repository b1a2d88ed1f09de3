/- Splitting at one byte, in plain Lean; the contracts of strings.Split and strings.Compare at this seat. -/
import Derived.Test.YtacchdeihafmnaaDoorOSplit
import Derived.Test.YtacchdeihafmnaaDoorAm18
import Derived.Test.YtacchdeihafmnaaDoorShelf
set_option linter.unusedVariables false
set_option linter.unusedSimpArgs false
namespace Go.Proofs.YtacchdeihafmnaaDoor
open Go.RowKit Go.Shelf Go.Am

def consHd (b : UInt8) : List (List UInt8) → List (List UInt8)
  | [] => [[b]]
  | h :: t => (b :: h) :: t
def splitOn (c : UInt8) : List UInt8 → List (List UInt8)
  | [] => [[]]
  | b :: l => bif b == c then [] :: splitOn c l else consHd b (splitOn c l)
def bytesOf (l : List UInt8) : ByteArray := ⟨l.toArray⟩
def strings_Split (s sep : ByteArray) : Option (List Dt) := match sep.data.toList with
  | [c] => bif Nat.blt s.size 4294967281 then some ((splitOn c s.data.toList).map fun l => .str (bytesOf l)) else none
  | _ => none
theorem splitOn_miss {c : UInt8} : ∀ {l : List UInt8}, Lib.indexByte l c = -1 → splitOn c l = [l]
  | [], _ => rfl
  | b :: l, h => by
    unfold Lib.indexByte at h
    by_cases hb : b == c
    · simp [hb] at h
    · simp only [hb, Bool.false_eq_true, if_false] at h
      have h1 : Lib.indexByte l c = -1 := by
        by_cases h2 : Lib.indexByte l c = -1
        · exact h2
        · have := Lib.indexByte_ge l c
          simp [h2] at h
          omega
      simp only [splitOn, Bool.eq_false_iff.2 hb, cond_false, splitOn_miss h1, consHd]
theorem splitOn_hit {c : UInt8} : ∀ {l : List UInt8} {i : Nat}, Lib.indexByte l c = i → splitOn c l = l.take i :: splitOn c (l.drop (i + 1))
  | [], i, h => by simp [Lib.indexByte] at h
  | b :: l, i, h => by
    unfold Lib.indexByte at h
    by_cases hb : b == c
    · simp only [hb, if_true] at h
      obtain rfl : i = 0 := by omega
      simp [splitOn, hb]
    · simp only [hb, Bool.false_eq_true, if_false] at h
      have hge := Lib.indexByte_ge l c
      by_cases h2 : Lib.indexByte l c = -1
      · simp [h2] at h
      · simp only [h2, beq_iff_eq, if_false] at h
        obtain ⟨j, hj⟩ : ∃ j : Nat, i = j + 1 := ⟨i - 1, by omega⟩
        subst hj
        have h3 : Lib.indexByte l c = (j : Nat) := by omega
        simp only [splitOn, Bool.eq_false_iff.2 hb, cond_false, splitOn_hit h3, consHd, List.take_succ_cons, List.drop_succ_cons]
theorem bytes_eta (s : ByteArray) : bytesOf s.data.toList = s := by unfold bytesOf; simp
theorem splitB_eq (c : UInt8) : ∀ (k : Nat) (s : ByteArray), Lib.countB s ⟨#[c]⟩ = k → Lib.splitB ⟨#[c]⟩ 0 k s = (splitOn c s.data.toList).map bytesOf
  | 0, s, h => by
    rcases Lib.indexB_cases s ⟨#[c]⟩ with h1 | ⟨i, h1, _⟩
    · have h2 : Lib.indexByte s.data.toList c = -1 := by rw [← Lib.index_one]; exact h1
      rw [Lib.splitB_zero, splitOn_miss h2]
      simp [bytes_eta]
    · rw [Lib.countB_hit s ⟨#[c]⟩ i (Nat.le_refl 1) h1] at h
      omega
  | k + 1, s, h => by
    rcases Lib.indexB_cases s ⟨#[c]⟩ with h1 | ⟨i, h1, _⟩
    · rw [Lib.countB_miss s _ h1] at h
      omega
    · have h2 : Lib.indexByte s.data.toList c = i := by rw [← Lib.index_one]; exact h1
      rw [Lib.countB_hit s ⟨#[c]⟩ i (Nat.le_refl 1) h1] at h
      rw [Lib.splitB_hit _ 0 k s i h1, splitB_eq c k _ (by omega), splitOn_hit h2, List.map_cons]
      congr 1
      · apply ByteArray.ext
        apply Array.ext'
        simp [bytesOf, ByteArray.data_extract]
      · congr 2
        rw [show (⟨#[c]⟩ : ByteArray).size = 1 from rfl]
        simp only [ByteArray.data_extract, Array.toList_extract, List.extract_eq_take_drop]
        rw [List.take_of_length_le]
        rw [List.length_drop, Array.length_toList]
        exact Nat.le_refl _
set_option maxRecDepth 100000 in
theorem c9 : Tryd.prog.cellsOf 9 = 1 := by kernel_rfl
set_option maxRecDepth 100000 in
theorem hi9 : (Tryd.prog.info? 9).map (fun i => (i.zero, i.size, i.bytes)) = some (some (.string ByteArray.empty), 1, 16) := by kernel_rfl
theorem hbS : HasBody Tryd.prog 45 := ⟨_, Tryd.func45, rfl, by decide⟩
theorem Split_fx {s sep : ByteArray} {r : List Dt} (h : strings_Split s sep = some r) : FX Tryd.prog 45 [.dat 9 (.str s), .dat 9 (.str sep)] [] (.dat 45 (.lst r)) [] := by
  unfold strings_Split at h
  split at h
  · rename_i c hc
    obtain ⟨h1, h2⟩ := bif_some h
    have h1' : s.size < 4294967281 := Nat.lt_of_lt_of_le (Nat.lt_succ_self _) (Nat.le_of_ble_eq_true h1)
    obtain rfl : sep = ⟨#[c]⟩ := by
      rw [← bytes_eta sep, hc]; rfl
    have := split_fx Tryd.lays146 hi9 (by rw [show Tryd.lays146_ren.t 9 = 9 from rfl]; exact c9) Tryd.underlying45 s c h1'
    rw [splitB_eq c _ s rfl] at this
    cases h2
    rw [List.map_map] at this
    exact this
  · cases h
def strings_Compare (a b : ByteArray) : Option Int := some (Lib.compareBytes a.data.toList b.data.toList)
theorem hbC : HasBody Tryd.prog 67 := ⟨_, Tryd.func67, rfl, by decide⟩
theorem cmpB_in (a b : List UInt8) : -1 ≤ Lib.compareBytes a b ∧ Lib.compareBytes a b ≤ 1 := by
  induction a generalizing b with
  | nil => cases b <;> simp [Lib.compareBytes]
  | cons x a ih =>
    cases b with
    | nil => simp [Lib.compareBytes]
    | cons y b =>
      simp only [Lib.compareBytes]
      split
      · omega
      · split
        · omega
        · exact ih b
theorem Compare_fx {a b : ByteArray} {r : Int} (h : strings_Compare a b = some r) : FX Tryd.prog 67 [.dat 9 (.str a), .dat 9 (.str b)] [] (.dat 3 (.int r)) [] := by
  cases h
  intro ok w β vs hok hobs hsep hvs
  obtain ⟨z0, rest, rfl, hz0, hvs⟩ : ∃ z0 rest, vs = z0 :: rest ∧ RV Tryd.prog ok w β (.dat 9 (.str a)) z0 ∧ RVsX Tryd.prog ok w β [.dat 9 (.str b)] rest := by cases hvs with | cons h r => exact ⟨_, _, rfl, h, r⟩
  obtain ⟨z1, rest, rfl, hz1, hvs⟩ : ∃ z0 rest', rest = z0 :: rest' ∧ RV Tryd.prog ok w β (.dat 9 (.str b)) z0 ∧ RVsX Tryd.prog ok w β [] rest' := by cases hvs with | cons h r => exact ⟨_, _, rfl, h, r⟩
  cases hvs
  obtain ⟨_, rfl, _⟩ := RV.str Tryd.underlying9 hz0
  obtain ⟨_, rfl, _⟩ := RV.str Tryd.underlying9 hz1
  refine (Any.strings_Compare Tryd.lays106 a b w).mono ?_
  rintro e w' ⟨rfl, rfl⟩
  have hb := cmpB_in a.data.toList b.data.toList
  have hi : IntKind.min .i64 ≤ Lib.compareBytes a.data.toList b.data.toList ∧ Lib.compareBytes a.data.toList b.data.toList ≤ IntKind.max .i64 := by
    constructor <;> simp [IntKind.min, IntKind.max, IntKind.signed, IntKind.bits] <;> omega
  exact ⟨_, β, rfl, ⟨BelowX.refl _ _, fun l => by
    have := hobs l
    have e0 : lk [] l = Ob.free := by cases l <;> rfl
    rw [e0] at this ⊢
    exact this, fun l l' b h1 h2 => hsep l l' b h1 h2, fun l b h1 => (by obtain ⟨h1, _⟩ := h1; cases l <;> cases h1), fun _ _ => rfl⟩, RV.mk_int Tryd.underlying3 hi.1 hi.2⟩
end Go.Proofs.YtacchdeihafmnaaDoor
