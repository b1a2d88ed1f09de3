/- Names, in plain Lean.
UTF-8: the library's decoder and the reference's test agree, in plain Lean.
UTF-8: the reference's test is the library's.
Sets of strings as maps: what a map of 'true' holds is what was put in. -/
import Derived.Test.YtfneddmmeadacaaDoorSh
import Derived.Test.YtfneddmmeadacaaDoorMA
import Derived.Lib.MapLaws
import Derived.Lib.ValidU
set_option linter.unusedVariables false
set_option linter.unusedSimpArgs false
namespace Go.Proofs.YtfneddmmeadacaaDoor
open Go.Am

def okB (c : UInt8) : Bool := !(decide ((c.toNat : Int) < 33) || decide ((126 : Int) < c.toNat) || ((c.toNat : Int) == 46))
def nmL (l : List UInt8) : Bool := match l with
  | [] => false
  | c :: r => decide (r.length < 32) && !((c.toNat : Int) == 36) && (c :: r).all okB
def nm (s : ByteArray) : Bool := nmL s.data.toList
theorem getB (s : ByteArray) (i : Nat) (h : i < s.size) : s.data.toList.drop i = s[i] :: s.data.toList.drop (i + 1) := by
  rw [List.drop_eq_getElem_cons (show i < s.data.toList.length by simpa using h)]
  rfl
theorem lenB (s : ByteArray) : s.data.toList.length = s.size := by rw [Array.length_toList]; rfl

theorem nm_parts (s : ByteArray) (h1 : 1 ≤ s.size) (h2 : s.size ≤ 32) : nm s = (!(((s[0]).toNat : Int) == 36) && s.data.toList.all okB) := by
  have e := getB s 0 (by omega)
  have hl : (s.data.toList.drop 1).length < 32 := by rw [List.length_drop, lenB]; omega
  rw [List.drop_zero] at e
  unfold nm
  rw [e]
  simp only [Nat.zero_add] at hl ⊢
  unfold nmL
  simp only [hl, decide_true, Bool.true_and]
theorem nm_short (s : ByteArray) (h : s.size < 1) : nm s = false := by
  unfold nm
  have : s.data.toList = [] := List.eq_nil_of_length_eq_zero (by rw [lenB]; omega)
  rw [this]; rfl
theorem nm_long (s : ByteArray) (h : 32 < s.size) : nm s = false := by
  have e := getB s 0 (by omega)
  have hl : ¬ (s.data.toList.drop 1).length < 32 := by rw [List.length_drop, lenB]; omega
  rw [List.drop_zero] at e
  unfold nm
  rw [e]
  simp only [Nat.zero_add]
  unfold nmL
  simp only [hl, decide_false, Bool.false_and]
end Go.Proofs.YtfneddmmeadacaaDoor
namespace Go.Proofs.YtfneddmmeadacaaDoor
open Go.Am

def contB (b : UInt8) : Bool := decide (128 ≤ b.toNat) && decide (b.toNat ≤ 191)
def tlU (n : Nat) (r : List UInt8) : Bool := decide (n ≤ r.length) && (r.take n).all contB
def hdN (r : List UInt8) : Nat := (r.getD 0 0).toNat
/-- The number of bytes that follow a first one, if they are as they must be. -/
def okU (b : Nat) (r : List UInt8) : Option Nat :=
  if b < 128 then some 0
  else if 194 ≤ b ∧ b ≤ 223 then (if tlU 1 r = true then some 1 else none)
  else if 224 ≤ b ∧ b ≤ 239 then (if tlU 2 r = true ∧ ¬ (b = 224 ∧ hdN r < 160) ∧ ¬ (b = 237 ∧ 159 < hdN r) then some 2 else none)
  else if 240 ≤ b ∧ b ≤ 244 then (if tlU 3 r = true ∧ ¬ (b = 240 ∧ hdN r < 144) ∧ ¬ (b = 244 ∧ 143 < hdN r) then some 3 else none)
  else none
theorem tl1 (r : List UInt8) : tlU 1 r = true ↔ 1 ≤ r.length ∧ 128 ≤ (r.getD 0 0).toNat ∧ (r.getD 0 0).toNat ≤ 191 := by
  unfold tlU contB
  match r with
  | [] => simp
  | a :: r => simp
theorem tl2 (r : List UInt8) : tlU 2 r = true ↔ 2 ≤ r.length ∧ (128 ≤ (r.getD 0 0).toNat ∧ (r.getD 0 0).toNat ≤ 191) ∧ 128 ≤ (r.getD 1 0).toNat ∧ (r.getD 1 0).toNat ≤ 191 := by
  unfold tlU contB
  match r with
  | [] => simp
  | [a] => simp
  | a :: b :: r => simp
theorem tl3 (r : List UInt8) : tlU 3 r = true ↔ 3 ≤ r.length ∧ (128 ≤ (r.getD 0 0).toNat ∧ (r.getD 0 0).toNat ≤ 191) ∧ (128 ≤ (r.getD 1 0).toNat ∧ (r.getD 1 0).toNat ≤ 191) ∧ 128 ≤ (r.getD 2 0).toNat ∧ (r.getD 2 0).toNat ≤ 191 := by
  unfold tlU contB
  match r with
  | [] => simp
  | [a] => simp
  | [a, b] => simp
  | a :: b :: c :: r => simp
theorem decN_ok (n b0 b1 b2 b3 : Nat) (k0 : b0 < 256) (k1 : b1 < 256) (k2 : b2 < 256) (k3 : b3 < 256) (k : Nat) (h : (b0 < 128 ∧ k = 0) ∨ (194 ≤ b0 ∧ b0 ≤ 223 ∧ 1 < n ∧ 128 ≤ b1 ∧ b1 ≤ 191 ∧ k = 1) ∨ (224 ≤ b0 ∧ b0 ≤ 239 ∧ 2 < n ∧ (128 ≤ b1 ∧ b1 ≤ 191) ∧ (128 ≤ b2 ∧ b2 ≤ 191) ∧ ¬ (b0 = 224 ∧ b1 < 160) ∧ ¬ (b0 = 237 ∧ 159 < b1) ∧ k = 2) ∨ (240 ≤ b0 ∧ b0 ≤ 244 ∧ 3 < n ∧ (128 ≤ b1 ∧ b1 ≤ 191) ∧ (128 ≤ b2 ∧ b2 ≤ 191) ∧ (128 ≤ b3 ∧ b3 ≤ 191) ∧ ¬ (b0 = 240 ∧ b1 < 144) ∧ ¬ (b0 = 244 ∧ 143 < b1) ∧ k = 3)) :
    ¬ ((Lib.decodeN n b0 b1 b2 b3).1 = 65533 ∧ (Lib.decodeN n b0 b1 b2 b3).2 = 1) ∧ (Lib.decodeN n b0 b1 b2 b3).2 = k + 1 := by
  rcases h with ⟨h1, rfl⟩ | ⟨h1, h2, h3, h4, h5, rfl⟩ | ⟨h1, h2, h3, h4, h5, h6, h7, rfl⟩ | ⟨h1, h2, h3, h4, h5, h6, h7, h8, rfl⟩
  · unfold Lib.decodeN
    rw [if_pos h1]
    exact ⟨fun h => by have := h.1; dsimp only at this; omega, rfl⟩
  · unfold Lib.decodeN
    rw [if_neg (by omega), if_pos (by omega), if_pos (by omega)]
    exact ⟨fun h => by have := h.2; dsimp only at this; omega, rfl⟩
  · unfold Lib.decodeN
    rw [if_neg (by omega), if_neg (by omega), if_pos (by omega), if_pos (by omega)]
    exact ⟨fun h => by have := h.2; dsimp only at this; omega, rfl⟩
  · unfold Lib.decodeN
    rw [if_neg (by omega), if_neg (by omega), if_neg (by omega), if_pos (by omega), if_pos (by omega)]
    exact ⟨fun h => by have := h.2; dsimp only at this; omega, rfl⟩
theorem decN_no (n b0 b1 b2 b3 : Nat) (k0 : b0 < 256) (k1 : b1 < 256) (k2 : b2 < 256) (k3 : b3 < 256) (h1 : ¬ b0 < 128) (h2 : ¬ (194 ≤ b0 ∧ b0 ≤ 223 ∧ 1 < n ∧ 128 ≤ b1 ∧ b1 ≤ 191)) (h3 : ¬ (224 ≤ b0 ∧ b0 ≤ 239 ∧ 2 < n ∧ (128 ≤ b1 ∧ b1 ≤ 191) ∧ (128 ≤ b2 ∧ b2 ≤ 191) ∧ ¬ (b0 = 224 ∧ b1 < 160) ∧ ¬ (b0 = 237 ∧ 159 < b1))) (h4 : ¬ (240 ≤ b0 ∧ b0 ≤ 244 ∧ 3 < n ∧ (128 ≤ b1 ∧ b1 ≤ 191) ∧ (128 ≤ b2 ∧ b2 ≤ 191) ∧ (128 ≤ b3 ∧ b3 ≤ 191) ∧ ¬ (b0 = 240 ∧ b1 < 144) ∧ ¬ (b0 = 244 ∧ 143 < b1))) :
    Lib.decodeN n b0 b1 b2 b3 = (65533, 1) := by
  unfold Lib.decodeN
  rw [if_neg h1]
  split
  · rw [if_neg (by omega)]
  · split
    · rw [if_neg (by omega)]
    · split
      · rw [if_neg (by omega)]
      · rfl
theorem dec_step (b : UInt8) (r : List UInt8) : (∀ n, okU b.toNat r = some n → ¬ ((Lib.decodeL (b :: r)).1 = 65533 ∧ (Lib.decodeL (b :: r)).2 = 1) ∧ (Lib.decodeL (b :: r)).2 = n + 1) ∧ (okU b.toNat r = none → (Lib.decodeL (b :: r)).1 = 65533 ∧ (Lib.decodeL (b :: r)).2 = 1) := by
  rw [Lib.decodeL_N]
  have k0 := b.toNat_lt
  have k1 := (r.getD 0 0).toNat_lt
  have k2 := (r.getD 1 0).toNat_lt
  have k3 := (r.getD 2 0).toNat_lt
  have e0 : ((b :: r).getD 0 0) = b := rfl
  have e1 : ((b :: r).getD 1 0) = r.getD 0 0 := rfl
  have e2 : ((b :: r).getD 2 0) = r.getD 1 0 := rfl
  have e3 : ((b :: r).getD 3 0) = r.getD 2 0 := rfl
  rw [e0, e1, e2, e3, List.length_cons]
  have t1 := tl1 r
  have t2 := tl2 r
  have t3 := tl3 r
  unfold okU hdN
  generalize tlU 1 r = u1 at *
  generalize tlU 2 r = u2 at *
  generalize tlU 3 r = u3 at *
  generalize (r.getD 0 0).toNat = c1 at *
  generalize (r.getD 1 0).toNat = c2 at *
  generalize (r.getD 2 0).toNat = c3 at *
  generalize b.toNat = c0 at *
  refine ⟨fun n hn => ?_, fun hn => ?_⟩
  · refine decN_ok _ _ _ _ _ k0 k1 k2 k3 n ?_
    split at hn
    · simp only [Option.some.injEq] at hn; omega
    · split at hn
      · split at hn
        · rename_i h; have := t1.1 h; simp only [Option.some.injEq] at hn; omega
        · cases hn
      · split at hn
        · split at hn
          · rename_i h; have := t2.1 h.1; simp only [Option.some.injEq] at hn; omega
          · cases hn
        · split at hn
          · split at hn
            · rename_i h; have := t3.1 h.1; simp only [Option.some.injEq] at hn; omega
            · cases hn
          · cases hn
  · have key : Lib.decodeN (r.length + 1) c0 c1 c2 c3 = (65533, 1) := by
      refine decN_no _ _ _ _ _ k0 k1 k2 k3 ?_ ?_ ?_ ?_ <;> intro h
      · rw [if_pos h] at hn; cases hn
      · rw [if_neg (by omega), if_pos (by omega), if_pos (t1.2 (by omega))] at hn; cases hn
      · rw [if_neg (by omega), if_neg (by omega), if_pos (by omega), if_pos ⟨t2.2 (by omega), by omega, by omega⟩] at hn; cases hn
      · rw [if_neg (by omega), if_neg (by omega), if_neg (by omega), if_pos (by omega), if_pos ⟨t3.2 (by omega), by omega, by omega⟩] at hn; cases hn
    rw [key]
    exact ⟨rfl, rfl⟩
theorem validGo_cons (k : Nat) (b : UInt8) (r : List UInt8) : Lib.validGoD (k + 1) (b :: r) = match okU b.toNat r with
    | some n => Lib.validGoD k (r.drop n)
    | none => false := by
  obtain ⟨h1, h2⟩ := dec_step b r
  have hd : Lib.validGoD (k + 1) (b :: r) = if (b :: r : List UInt8) = [] then true else if (Lib.decodeL (b :: r)).1 = 65533 ∧ (Lib.decodeL (b :: r)).2 = 1 then false else Lib.validGoD k ((b :: r).drop (Lib.decodeL (b :: r)).2) := rfl
  rw [hd, if_neg (by simp)]
  cases e : okU b.toNat r with
  | none =>
    rw [if_pos (h2 e)]
  | some n =>
    obtain ⟨h3, h4⟩ := h1 n e
    rw [if_neg h3, h4, List.drop_succ_cons]
theorem validGo_nil : ∀ k, Lib.validGoD k [] = true
  | 0 => rfl
  | k + 1 => by unfold Lib.validGoD; rw [if_pos rfl]
end Go.Proofs.YtfneddmmeadacaaDoor
namespace Go.Proofs.YtfneddmmeadacaaDoor
open Go.Am

theorem hd_idx (s : ByteArray) (i : Nat) (h : i < s.size) : idxS s (i : Int) = some ((hdN (s.data.toList.drop i) : Nat) : Int) := by
  rw [idxS_lt h, getB s i h]
  rfl
theorem bN (b k : Nat) : (((b : Nat) : Int) == ((k : Nat) : Int)) = decide (b = k) := by rw [Bool.eq_iff_iff]; simp; omega
def badU (b h : Nat) : Bool := (decide (b = 224) && decide (h < 160)) || (decide (b = 237) && decide (159 < h)) || (decide (b = 240) && decide (h < 144)) || (decide (b = 244) && decide (143 < h))
end Go.Proofs.YtfneddmmeadacaaDoor
namespace Go.Proofs.YtfneddmmeadacaaDoor
open Go.Am

def eqb (a b : ByteArray) : Bool := a.toList == b.toList
theorem eqb_iff (a b : ByteArray) : eqb a b = true ↔ a = b := by
  unfold eqb
  rw [ByteArray.toList_eq, ByteArray.toList_eq, beq_iff_eq]
  refine ⟨fun h => ?_, fun h => by rw [h]⟩
  cases a with | mk x => cases b with | mk y =>
  have : x = y := Array.ext' h
  rw [this]
theorem eqb_refl (a : ByteArray) : eqb a a = true := (eqb_iff a a).2 rfl
theorem eqb_comm (a b : ByteArray) : eqb a b = eqb b a := by
  rw [Bool.eq_iff_iff, eqb_iff, eqb_iff]
  exact eq_comm
theorem eqb_bb (a b : ByteArray) : eqb a b = (a == b) := by rw [Bool.eq_iff_iff, eqb_iff, ba_beq_iff]
theorem mget_put (s t : ByteArray) (v : Dt) : ∀ es : List Dt, mget (mput es s v) t = bif s == t then some v else mget es t
  | [] => by
    simp only [mput, mget]
    rfl
  | e :: r => by
    simp only [mput]
    cases h : (e.S 0) == s
    · simp only [cond_false, mget, mget_put s t v r]
      cases h2 : (e.S 0) == t
      · rfl
      · have : (s == t) = false := ba_beq_ne fun e1 => by
          subst e1
          rw [h] at h2; cases h2
        rw [this]; rfl
    · have e1 := (ba_beq_iff _ _).1 h
      simp only [cond_true, mget, e1]
      show (bif s == t then some v else mget r t) = bif s == t then some v else (bif s == t then some (e.fld 1) else mget r t)
      cases (s == t) <;> rfl
/-- The map 'mp' holds the strings 'seen'. -/
def MapS (mp : List Dt) (seen : List ByteArray) : Prop := ∀ s, (mgetD mp s (.bool false)).toBool = seen.any (eqb s)
theorem mapS_nil : MapS [] [] := fun s => rfl
theorem mapS_put {mp : List Dt} {seen : List ByteArray} (h : MapS mp seen) (s : ByteArray) : MapS (mput mp s (.bool true)) (seen ++ [s]) := fun t => by
  have := h t
  unfold mgetD at this ⊢
  rw [mget_put, List.any_append, ← this]
  simp only [List.any_cons, List.any_nil, Bool.or_false]
  rw [eqb_comm t s, eqb_bb]
  cases (s == t)
  · simp
  · simp [Dt.toBool]
/-- Strings that are all good and different, some seen before. -/
def difS (p : ByteArray → Bool) : List ByteArray → List ByteArray → Bool
  | _, [] => true
  | seen, s :: r => p s && !(seen.any (eqb s)) && difS p (seen ++ [s]) r
end Go.Proofs.YtfneddmmeadacaaDoor
