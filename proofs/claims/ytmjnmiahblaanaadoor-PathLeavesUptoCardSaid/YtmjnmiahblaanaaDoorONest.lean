/- slices.Backward at []string, and path.nest over it. -/
import Derived.RangeFuncNested
import Derived.RangeFuncBound
import Derived.RangeFuncCalls
import Derived.RangeFuncLeaves
import Derived.Shelf.Abstract
import Derived.Shelf.RegionOpen
import Derived.WalkKit
import Derived.OwnWalkIn
import Derived.TacticsInMore
import Derived.LoopNIn
import Derived.LoopIn
import Derived.Test.YtmjnmiahblaanaaDoorProg
import Derived.Test.YtmjnmiahblaanaaDoorOSplit
set_option linter.unusedVariables false
set_option linter.unusedSimpArgs false
namespace Go.Proofs.YtmjnmiahblaanaaDoor
open Go.RowKit Go.Shelf
attribute [local go_sem] Oper.semAt_some

/-- A string that a slice may hold. -/
abbrev BS := { s : ByteArray // s.size ≤ maxLen }
def upto {α : Type} (f : Nat → α) (k : Nat) : List α := (List.range k).map f
theorem upto_succ {α : Type} (f : Nat → α) (k : Nat) : upto f (k + 1) = upto f k ++ [f k] := by simp [upto, List.range_succ]
theorem upto_length {α : Type} (f : Nat → α) (k : Nat) : (upto f k).length = k := by simp [upto]
/-- What comes in the k-th round, from the end on. -/
def bk (len : Nat) (ss : Nat → BS) (k : Nat) : Int × BS := ((len : Int) - 1 - k, ss (len - 1 - k))

def KpB (n₀ Bs : Nat) (W W' : World) : Prop := Below n₀ W W' ∧ W'.heap[Bs]? = W.heap[Bs]?

set_option maxRecDepth 100000 in
set_option maxHeartbeats 2000000 in
theorem back1_in (F : Fence) (n : Nat) (h7 : F.fn 92) (hro : F.round = none) (hn : 1 ≤ n) (l Bs n₀ b off len cap : Nat) (ss : Nat → BS) (hmax : len ≤ 9223372036854775807) (hb : b < n₀) (J Jx : List (Int × BS) → World → Prop)
    (hY : ∀ pre x W, J pre W → pre.length < len → YieldAt F (n - 1) Tryd.prog l #[.int .i64 x.1, .string x.2.1] W fun e W' =>
      (e = .returned (.bool true) ∧ J (pre ++ [x]) W' ∧ KpB n₀ Bs W W') ∨ (e = .returned (.bool false) ∧ Jx (pre ++ [x]) W'))
    (W : World) (hBs : W.cell? ⟨Bs, 0, none⟩ = some (.slice (some ⟨b, off, none⟩) len cap)) (hc : ∀ j, j < len → W.cell? ⟨b, off + j, none⟩ = some (.string (ss j).1)) (h0 : J [] W) :
    CallsIn F n Tryd.prog 92 #[.func (.yield l) #[] #[], .pointer (some ⟨Bs, 0, none⟩)] W fun e W' => (∃ v, e = .returned v) ∧
      ((∃ ys, ys = upto (bk len ss) len ∧ J ys W') ∨ (∃ pre, (∃ k, k ≤ len ∧ pre = upto (bk len ss) k) ∧ Jx pre W')) := by
  refine callsIn_of_wp Tryd.func92 rfl h7 ?_ hro
  simp only [Tryd.ntmps92, List.size_toArray, List.length_cons, List.length_nil, Nat.reduceAdd, Nat.reduceSub, Array.replicate_succ, Array.replicate_zero, List.push_toArray, List.append_toArray, List.nil_append, List.cons_append]
  gi_wp2
  gi_loopw [3] (fun i wr => ∃ (k : Nat) (v : Int), k ≤ len ∧ v = (len : Int) - 1 - k ∧ i = .int .i64 v ∧ J (upto (bk len ss) k) wr ∧ KpB n₀ Bs W wr)
    (fun i _ => ((intOf i) + 1).toNat)
  case atStart => exact ⟨0, _, Nat.zero_le _, by simp, rfl, h0, Below.refl _ _, rfl⟩
  case round =>
    obtain ⟨k, v, hk, hv, rfl, hJs, hnx⟩ := hrel
    have hB2 : wr.cell? ⟨Bs, 0, none⟩ = some (.slice (some ⟨b, off, none⟩) len cap) := (World.cell?_of_block (w := W) hnx.2).trans hBs
    have hlen : v < len := by omega
    by_cases hlt : 0 ≤ v
    · have hcx : wr.cell? ⟨b, off + v.toNat, none⟩ = some (.string (ss v.toNat).1) := (hnx.1.cell (p := ⟨b, off + v.toNat, none⟩) hb).trans (hc v.toNat (by omega))
      obtain ⟨fn, tmps, assign, body, hy, hR⟩ := hY _ (v, ss v.toNat) wr hJs (by rw [upto_length]; omega)
      dsimp only at hy
      have X : Aside (v = (len : Int) - 1 - k) := hv
      have Y : Aside (KpB n₀ Bs W wr) := hnx
      clear hv hc hY h0 hBs hnx
      gi_wp2
      refine hR.mono ?_
      rintro e W3 (⟨rfl, hJ3, hk3⟩ | ⟨rfl, hJx3⟩)
      · gi_wp2
        go_roundw
        case rel =>
          have hv := X.out
          refine ⟨k + 1, _, by omega, by omega, rfl, ?_, ?_⟩
          · rw [upto_succ, show bk len ss k = (v, ss v.toNat) by unfold bk; rw [hv]; congr 2; omega]; exact hJ3
          · exact ⟨Y.out.1.trans hk3.1, hk3.2.trans Y.out.2⟩
        case measure => simp [intOf]; omega
      · gi_wp2
        refine bodyPost_ret (results_none rfl _ _ _) rfl ?_
        have hv := X.out
        refine ⟨⟨_, rfl⟩, .inr ⟨_, ⟨k + 1, by omega, ?_⟩, hJx3⟩⟩
        rw [upto_succ, show bk len ss k = (v, ss v.toNat) by unfold bk; rw [hv]; congr 2; omega]
    · obtain rfl : k = len := by omega
      have X : Aside (v = (k : Int) - 1 - k) := hv
      have hv1 : v = -1 := by omega
      subst hv1
      clear hv
      gi_wp2
      go_end0
      exact ⟨⟨_, rfl⟩, .inl hJs⟩
end Go.Proofs.YtmjnmiahblaanaaDoor
