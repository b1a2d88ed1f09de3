/- Values are the same as themselves, by layer 3's function. -/
import Derived.Test.YtacchdeihafmnaaDoorFx
import Derived.Test.YtacchdeihafmnaaDoorMBase
import Derived.Test.YtacchdeihafmnaaDoorMBulk
set_option linter.unusedVariables false
set_option linter.unusedSimpArgs false
namespace Go.Proofs.YtacchdeihafmnaaDoor
open Go.Am
theorem s03_l2 (m : Nat) (self16 : List Dt → List Dt → Option Bool) (self34 : Dt → Dt → Option Bool) (d : Dt) (hl : (Dt.L d 4).length < 1000000000000) (hs : ∀ f ∈ Dt.L d 4, self34 (Dt.fld f 1) (Dt.fld f 1) = some true) (hL : self16 (Dt.L d 3) (Dt.L d 3) = some true) : ∀ (M i : Nat), i ≤ (Dt.L d 4).length → (Dt.L d 4).length - i < M → law03_Same_l2 m self16 self34 M ((Dt.L d 4).length : Int) (i : Int) d d = some true
  | 0, i, _, h => by omega
  | M + 1, i, hi, h => by
    simp only [law03_Same_l2, dlt]
    by_cases hlt : i < (Dt.L d 4).length
    · simp only [hlt, decide_true, cond_true, law03_Same_j3, law03_Same_j4, idx_lt hlt, Option.bind_some, beq_self_eq_true, Bool.not_true, cond_false, hs _ (List.getElem_mem hlt), wrapS (show i < 9223372036854775807 by omega)]
      exact s03_l2 m self16 self34 d hl hs hL M (i + 1) (by omega) (by omega)
    · simp only [hlt, decide_false, cond_false, law03_Same_j5, hL, Option.bind_some]
theorem s03L_l2 (m : Nat) (self34 : Dt → Dt → Option Bool) (l : List Dt) (hl : l.length < 1000000000000) (hs : ∀ e ∈ l, self34 e e = some true) : ∀ (M i : Nat), i ≤ l.length → l.length - i < M → law03_SameList_l2 m self34 M l l (l.length : Int) (i : Int) = some true
  | 0, i, _, h => by omega
  | M + 1, i, hi, h => by
    simp only [law03_SameList_l2, dlt]
    by_cases hlt : i < l.length
    · simp only [hlt, decide_true, cond_true, law03_SameList_j3, law03_SameList_j4, idx_lt hlt, Option.bind_some, Bool.not_true, cond_false, hs _ (List.getElem_mem hlt), wrapS (show i < 9223372036854775807 by omega)]
      exact s03L_l2 m self34 l hl hs M (i + 1) (by omega) (by omega)
    · simp only [hlt, decide_false, cond_false, law03_SameList_j5]
theorem s03_list (m : Nat) (l : List Dt) (hl : l.length ≤ m) (hl2 : l.length < 1000000000000) (hs : ∀ e ∈ l, law03_Same m e e = some true) : law03_SameList (m + 1) l l = some true := by
  show (bif ((((l.length : Nat) : Int) != ((l.length : Nat) : Int)) : Bool) then some false else law03_SameList_j0 m (law03_Same m) l l) = _
  rw [bne_self_eq_false]
  exact s03L_l2 m (law03_Same m) l hl2 hs (m + 1) 0 (Nat.zero_le _) (by omega)
theorem s03_refl : ∀ (N : Nat) (d : Dt), d.bulk ≤ N → N < 1000000000000 → ∀ m, 2 * N ≤ m → law03_Same (m + 1) d d = some true
  | 0, d, h, _, _, _ => by have := bulk_posA d; omega
  | N + 1, d, h, hN, m, hm => by
    obtain ⟨m, rfl⟩ : ∃ k, m = k + 2 := ⟨m - 2, by omega⟩
    have h3 := L_len d 3
    have h4 := L_len d 4
    have hL := s03_list (m + 1) (Dt.L d 3) (by omega) (by omega) fun e he => s03_refl N e (by have := L_mem he; omega) (by omega) m (by omega)
    have key := s03_l2 (m + 2) (law03_SameList (m + 2)) (law03_Same (m + 2)) d (by omega) (fun f hf => s03_refl N (Dt.fld f 1) (by have := L_mem hf; have := fld_bulk f 1; omega) (by omega) (m + 1) (by omega)) hL (m + 3) 0 (Nat.zero_le _) (by omega)
    show (bif (Dt.I d 0 != Dt.I d 0) then some false else bif (Dt.I d 1 != Dt.I d 1) then some false else bif (!(ByteArray.toList (Dt.S d 2) == ByteArray.toList (Dt.S d 2))) then some false else bif ((((Dt.L d 4).length : Nat) : Int) != (((Dt.L d 4).length : Nat) : Int)) then some false else law03_Same_j0 (m + 2) (law03_SameList (m + 2)) (law03_Same (m + 2)) d d) = _
    simp only [bne_self_eq_false, beq_self_eq_true, Bool.not_true, cond_false]
    exact key
end Go.Proofs.YtacchdeihafmnaaDoor
