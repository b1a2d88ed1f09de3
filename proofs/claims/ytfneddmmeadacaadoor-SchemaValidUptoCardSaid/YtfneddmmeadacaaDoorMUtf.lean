/- UTF-8: the library's decoder and the reference's test agree, in plain Lean. -/
import Derived.Test.YtfneddmmeadacaaDoorMBase
import Derived.Test.YtfneddmmeadacaaDoorSh
import Derived.Lib.MapLaws
import Derived.Lib.ValidU
set_option linter.unusedVariables false
set_option linter.unusedSimpArgs false
namespace Go.Proofs.YtfneddmmeadacaaDoor
open Go.Am

def contB (b : UInt8) : Bool := decide (128 ≤ b.toNat) && decide (b.toNat ≤ 191)
def tlU (n : Nat) (r : List UInt8) : Bool := decide (n ≤ r.length) && (r.take n).all contB
def hdN (r : List UInt8) : Nat := (r.getD 0 0).toNat
/-- The number of bytes that follow a first one, if they are as they must be. -/
def okU (b : Nat) (r : List UInt8) : Option Nat :=
  if b < 128 then some 0
  else if 194 ≤ b ∧ b ≤ 223 then (if tlU 1 r = true then some 1 else none)
  else if 224 ≤ b ∧ b ≤ 239 then (if tlU 2 r = true ∧ ¬ (b = 224 ∧ hdN r < 160) ∧ ¬ (b = 237 ∧ 159 < hdN r) then some 2 else none)
  else if 240 ≤ b ∧ b ≤ 244 then (if tlU 3 r = true ∧ ¬ (b = 240 ∧ hdN r < 144) ∧ ¬ (b = 244 ∧ 143 < hdN r) then some 3 else none)
  else none
theorem tl1 (r : List UInt8) : tlU 1 r = true ↔ 1 ≤ r.length ∧ 128 ≤ (r.getD 0 0).toNat ∧ (r.getD 0 0).toNat ≤ 191 := by
  unfold tlU contB
  match r with
  | [] => simp
  | a :: r => simp
theorem tl2 (r : List UInt8) : tlU 2 r = true ↔ 2 ≤ r.length ∧ (128 ≤ (r.getD 0 0).toNat ∧ (r.getD 0 0).toNat ≤ 191) ∧ 128 ≤ (r.getD 1 0).toNat ∧ (r.getD 1 0).toNat ≤ 191 := by
  unfold tlU contB
  match r with
  | [] => simp
  | [a] => simp
  | a :: b :: r => simp
theorem tl3 (r : List UInt8) : tlU 3 r = true ↔ 3 ≤ r.length ∧ (128 ≤ (r.getD 0 0).toNat ∧ (r.getD 0 0).toNat ≤ 191) ∧ (128 ≤ (r.getD 1 0).toNat ∧ (r.getD 1 0).toNat ≤ 191) ∧ 128 ≤ (r.getD 2 0).toNat ∧ (r.getD 2 0).toNat ≤ 191 := by
  unfold tlU contB
  match r with
  | [] => simp
  | [a] => simp
  | [a, b] => simp
  | a :: b :: c :: r => simp
theorem decN_ok (n b0 b1 b2 b3 : Nat) (k0 : b0 < 256) (k1 : b1 < 256) (k2 : b2 < 256) (k3 : b3 < 256) (k : Nat) (h : (b0 < 128 ∧ k = 0) ∨ (194 ≤ b0 ∧ b0 ≤ 223 ∧ 1 < n ∧ 128 ≤ b1 ∧ b1 ≤ 191 ∧ k = 1) ∨ (224 ≤ b0 ∧ b0 ≤ 239 ∧ 2 < n ∧ (128 ≤ b1 ∧ b1 ≤ 191) ∧ (128 ≤ b2 ∧ b2 ≤ 191) ∧ ¬ (b0 = 224 ∧ b1 < 160) ∧ ¬ (b0 = 237 ∧ 159 < b1) ∧ k = 2) ∨ (240 ≤ b0 ∧ b0 ≤ 244 ∧ 3 < n ∧ (128 ≤ b1 ∧ b1 ≤ 191) ∧ (128 ≤ b2 ∧ b2 ≤ 191) ∧ (128 ≤ b3 ∧ b3 ≤ 191) ∧ ¬ (b0 = 240 ∧ b1 < 144) ∧ ¬ (b0 = 244 ∧ 143 < b1) ∧ k = 3)) :
    ¬ ((Lib.decodeN n b0 b1 b2 b3).1 = 65533 ∧ (Lib.decodeN n b0 b1 b2 b3).2 = 1) ∧ (Lib.decodeN n b0 b1 b2 b3).2 = k + 1 := by
  rcases h with ⟨h1, rfl⟩ | ⟨h1, h2, h3, h4, h5, rfl⟩ | ⟨h1, h2, h3, h4, h5, h6, h7, rfl⟩ | ⟨h1, h2, h3, h4, h5, h6, h7, h8, rfl⟩
  · unfold Lib.decodeN
    rw [if_pos h1]
    exact ⟨fun h => by have := h.1; dsimp only at this; omega, rfl⟩
  · unfold Lib.decodeN
    rw [if_neg (by omega), if_pos (by omega), if_pos (by omega)]
    exact ⟨fun h => by have := h.2; dsimp only at this; omega, rfl⟩
  · unfold Lib.decodeN
    rw [if_neg (by omega), if_neg (by omega), if_pos (by omega), if_pos (by omega)]
    exact ⟨fun h => by have := h.2; dsimp only at this; omega, rfl⟩
  · unfold Lib.decodeN
    rw [if_neg (by omega), if_neg (by omega), if_neg (by omega), if_pos (by omega), if_pos (by omega)]
    exact ⟨fun h => by have := h.2; dsimp only at this; omega, rfl⟩
theorem decN_no (n b0 b1 b2 b3 : Nat) (k0 : b0 < 256) (k1 : b1 < 256) (k2 : b2 < 256) (k3 : b3 < 256) (h1 : ¬ b0 < 128) (h2 : ¬ (194 ≤ b0 ∧ b0 ≤ 223 ∧ 1 < n ∧ 128 ≤ b1 ∧ b1 ≤ 191)) (h3 : ¬ (224 ≤ b0 ∧ b0 ≤ 239 ∧ 2 < n ∧ (128 ≤ b1 ∧ b1 ≤ 191) ∧ (128 ≤ b2 ∧ b2 ≤ 191) ∧ ¬ (b0 = 224 ∧ b1 < 160) ∧ ¬ (b0 = 237 ∧ 159 < b1))) (h4 : ¬ (240 ≤ b0 ∧ b0 ≤ 244 ∧ 3 < n ∧ (128 ≤ b1 ∧ b1 ≤ 191) ∧ (128 ≤ b2 ∧ b2 ≤ 191) ∧ (128 ≤ b3 ∧ b3 ≤ 191) ∧ ¬ (b0 = 240 ∧ b1 < 144) ∧ ¬ (b0 = 244 ∧ 143 < b1))) :
    Lib.decodeN n b0 b1 b2 b3 = (65533, 1) := by
  unfold Lib.decodeN
  rw [if_neg h1]
  split
  · rw [if_neg (by omega)]
  · split
    · rw [if_neg (by omega)]
    · split
      · rw [if_neg (by omega)]
      · rfl
theorem dec_step (b : UInt8) (r : List UInt8) : (∀ n, okU b.toNat r = some n → ¬ ((Lib.decodeL (b :: r)).1 = 65533 ∧ (Lib.decodeL (b :: r)).2 = 1) ∧ (Lib.decodeL (b :: r)).2 = n + 1) ∧ (okU b.toNat r = none → (Lib.decodeL (b :: r)).1 = 65533 ∧ (Lib.decodeL (b :: r)).2 = 1) := by
  rw [Lib.decodeL_N]
  have k0 := b.toNat_lt
  have k1 := (r.getD 0 0).toNat_lt
  have k2 := (r.getD 1 0).toNat_lt
  have k3 := (r.getD 2 0).toNat_lt
  have e0 : ((b :: r).getD 0 0) = b := rfl
  have e1 : ((b :: r).getD 1 0) = r.getD 0 0 := rfl
  have e2 : ((b :: r).getD 2 0) = r.getD 1 0 := rfl
  have e3 : ((b :: r).getD 3 0) = r.getD 2 0 := rfl
  rw [e0, e1, e2, e3, List.length_cons]
  have t1 := tl1 r
  have t2 := tl2 r
  have t3 := tl3 r
  unfold okU hdN
  generalize tlU 1 r = u1 at *
  generalize tlU 2 r = u2 at *
  generalize tlU 3 r = u3 at *
  generalize (r.getD 0 0).toNat = c1 at *
  generalize (r.getD 1 0).toNat = c2 at *
  generalize (r.getD 2 0).toNat = c3 at *
  generalize b.toNat = c0 at *
  refine ⟨fun n hn => ?_, fun hn => ?_⟩
  · refine decN_ok _ _ _ _ _ k0 k1 k2 k3 n ?_
    split at hn
    · simp only [Option.some.injEq] at hn; omega
    · split at hn
      · split at hn
        · rename_i h; have := t1.1 h; simp only [Option.some.injEq] at hn; omega
        · cases hn
      · split at hn
        · split at hn
          · rename_i h; have := t2.1 h.1; simp only [Option.some.injEq] at hn; omega
          · cases hn
        · split at hn
          · split at hn
            · rename_i h; have := t3.1 h.1; simp only [Option.some.injEq] at hn; omega
            · cases hn
          · cases hn
  · have key : Lib.decodeN (r.length + 1) c0 c1 c2 c3 = (65533, 1) := by
      refine decN_no _ _ _ _ _ k0 k1 k2 k3 ?_ ?_ ?_ ?_ <;> intro h
      · rw [if_pos h] at hn; cases hn
      · rw [if_neg (by omega), if_pos (by omega), if_pos (t1.2 (by omega))] at hn; cases hn
      · rw [if_neg (by omega), if_neg (by omega), if_pos (by omega), if_pos ⟨t2.2 (by omega), by omega, by omega⟩] at hn; cases hn
      · rw [if_neg (by omega), if_neg (by omega), if_neg (by omega), if_pos (by omega), if_pos ⟨t3.2 (by omega), by omega, by omega⟩] at hn; cases hn
    rw [key]
    exact ⟨rfl, rfl⟩
theorem validGo_cons (k : Nat) (b : UInt8) (r : List UInt8) : Lib.validGoD (k + 1) (b :: r) = match okU b.toNat r with
    | some n => Lib.validGoD k (r.drop n)
    | none => false := by
  obtain ⟨h1, h2⟩ := dec_step b r
  have hd : Lib.validGoD (k + 1) (b :: r) = if (b :: r : List UInt8) = [] then true else if (Lib.decodeL (b :: r)).1 = 65533 ∧ (Lib.decodeL (b :: r)).2 = 1 then false else Lib.validGoD k ((b :: r).drop (Lib.decodeL (b :: r)).2) := rfl
  rw [hd, if_neg (by simp)]
  cases e : okU b.toNat r with
  | none =>
    rw [if_pos (h2 e)]
  | some n =>
    obtain ⟨h3, h4⟩ := h1 n e
    rw [if_neg h3, h4, List.drop_succ_cons]
theorem validGo_nil : ∀ k, Lib.validGoD k [] = true
  | 0 => rfl
  | k + 1 => by unfold Lib.validGoD; rw [if_pos rfl]
end Go.Proofs.YtfneddmmeadacaaDoor
