/- slices.Delete at []api.Field (elements of six cells), over a block that is owned. -/
import Derived.WalkKit
import Derived.Deep.LoopGhost
import Derived.Deep.RegionLaw
import Derived.Lib.Walk
import Derived.Lib.SliceRun
import Derived.Sort.WalkB12
import Derived.Shelf.RegionOpenPlain
import Derived.Test.YtmjnmiahblaanaaDoorProg
import Derived.Test.YtmjnmiahblaanaaDoorOSplit
set_option linter.unusedVariables false
set_option linter.unusedSimpArgs false
namespace Go.Proofs.YtmjnmiahblaanaaDoor
open Go.Shelf Go.RowKit Go.Lib Go.Sort

theorem clear_block {P : Program} (w : World) (t e ty : TypeId) (z : Value) (ht : P.underlying t = some (.slice e)) (hv : ∀ w, (zeroValue e).run P w = .ok z w) (b o n c : Nat) (hn : 0 < n) (zs : List Value) (hzs : (Builtin.zeroCells z.cells n).toList = zs)
    (hc : ∀ j, j < zs.length → (w.cell? ⟨b, o + j, none⟩).isSome = true) (hf : ∀ j, j < zs.length → w.frozen? ⟨b, o + j, none⟩ = false) (h1 : ∀ v ∈ zs, v.oneCell' = true) :
    (Builtin.clear_ #[t] ty #[.slice (some ⟨b, o, none⟩) n c]).run P w = .ok (.tuple #[]) (w.setCells b o zs) := by
  have hst := run_storeCells_cells (P := P) b o zs 0 w (by simpa using hc) (by simpa using hf) h1
  simp only [Nat.add_zero] at hst
  obtain ⟨m, rfl⟩ : ∃ m, n = m + 1 := ⟨n - 1, by omega⟩
  simp [Builtin.clear_, run_underlying ht, hv, hzs, hst]

theorem setCells_other (b : Nat) : ∀ (vs : List Value) (o : Nat) (w : World) {k : Nat}, k ≠ b → (w.setCells b o vs).heap[k]? = w.heap[k]?
  | [], _, _, _, _ => rfl
  | v :: r, o, w, k, h => by
    show ((w.setCell ⟨b, o, none⟩ v).setCells b (o + 1) r).heap[k]? = _
    rw [setCells_other b r (o + 1) _ h, Below.heap_setCell _ _ _ _ h]
theorem setCells_same {b : Nat} {T : TypeId} {f : Nat × Nat} : ∀ (vs : List Value) (o : Nat) (w : World) {c : Array Value}, w.heap[b]? = some (.cells c T f) → ∃ c1, (w.setCells b o vs).heap[b]? = some (.cells c1 T f) ∧ c1.size = c.size
  | [], _, _, c, h => ⟨c, h, rfl⟩
  | v :: r, o, w, c, h => by
    have h2 : (w.setCell ⟨b, o, none⟩ v).heap[b]? = some (.cells (c.setIfInBounds o v) T f) := by simp [World.setCell, Array.getElem?_modify, h]
    obtain ⟨c1, h3, h4⟩ := setCells_same r (o + 1) _ h2
    exact ⟨c1, h3, by simpa using h4⟩

set_option maxHeartbeats 4000000 in
set_option maxRecDepth 1000000 in
theorem delete_walk (blk cap n i j : Nat) (cur : Array Value) (T : TypeId) (w : World) (hb : w.heap[blk]? = some (.cells cur T (0, 0))) (hcs : cur.size = cap * 6) (hcap : n ≤ cap) (hm : cap ≤ 9223372036854775807) (hij : i < j) (hj : j ≤ n)
    (h1 : ∀ c ∈ cur.toList.take (n * 6), c.oneCell' = true) :
    Calls Tryd.prog 73 #[.slice (some ⟨blk, 0, none⟩) n cap, .int .i64 i, .int .i64 j] w fun e w' => e = .returned (.slice (some ⟨blk, 0, none⟩) (n - (j - i)) cap) ∧ ∃ q zs, w' = ((w.drewN q).setCells blk (i * 6) ((cur.toList.take (n * 6)).drop (j * 6))).setCells blk ((n - (j - i)) * 6) zs := by
  have mixed : Tryd.prog.follows .mixedOrders = true := by kernel_rfl
  obtain ⟨i0, hi0, hz0, hz1, hz2⟩ := info_parts (show (Tryd.prog.info? 59).map (fun i => (i.zero, i.size, i.bytes)) = some (some (.agg #[.string ⟨#[]⟩, .int .i64 0, .int .i64 0, .string ⟨#[]⟩, .slice none 0 0, .slice none 0 0]), 6, 96) by kernel_rfl)
  obtain ⟨news, hnews⟩ : ∃ news, news = (cur.toList.take (n * 6)).drop (j * 6) := ⟨_, rfl⟩
  have hlen : news.length = (n - j) * 6 := by rw [hnews]; simp; omega
  have hcell : ∀ t, t < n * 6 → w.cell? ⟨blk, t, none⟩ = cur[t]? := fun t ht => by simp [World.cell?, hb]
  have hfr : ∀ t, w.frozen? ⟨blk, t, none⟩ = false := fun t => by simp [World.frozen?, hb]
  have hget : ∀ t, t < (n - j) * 6 → news[t]? = cur[j * 6 + t]? := by
    intro t ht
    rw [hnews, List.getElem?_drop, List.getElem?_take, if_pos (by omega), Array.getElem?_toList]
  obtain ⟨A, hA, hsrc⟩ : ∃ A : Addr, (if cap = j then some (⟨blk, 0, none⟩ : Addr) else some ⟨blk, j * 6, none⟩) = some A ∧ Hid (∀ t u, news[t]? = some u → w.drew.cell? (A.add t) = some u) := by
    by_cases h : cap = j
    · refine ⟨⟨blk, 0, none⟩, by simp [h], fun t u hu => ?_⟩
      have h0 : news.length = 0 := by rw [hlen]; omega
      rw [List.length_eq_zero_iff.1 h0] at hu
      simp at hu
    · refine ⟨⟨blk, j * 6, none⟩, by simp [h], fun t u hu => ?_⟩
      have ht : t < (n - j) * 6 := by
        have := (List.getElem?_eq_some_iff.1 hu).1
        rwa [hlen] at this
      rw [hget t ht] at hu
      rw [Addr.add_lit]
      exact (hcell (j * 6 + t) (by omega)).trans hu
  have s1 : Hid (news.length = (n - j) * 6) := hlen
  have s2 : Hid (∀ u ∈ news, u.oneCell' = true) := by
    intro u hu
    rw [hnews] at hu
    exact h1 u (List.mem_of_mem_drop hu)
  have s3 : Hid (∀ t, t < news.length → (w.drew.cell? ⟨blk, 0 + i * 6 + t, none⟩).isSome = true ∧ w.drew.frozen? ⟨blk, 0 + i * 6 + t, none⟩ = false) := by
    intro t ht
    rw [hlen] at ht
    refine ⟨?_, hfr _⟩
    show (w.cell? _).isSome = true
    rw [hcell _ (by omega), Array.getElem?_eq_getElem (by omega)]
    rfl
  obtain ⟨W1, hW1⟩ : ∃ W1, W1 = w.drew.setCells blk (0 + i * 6) news := ⟨_, rfl⟩
  obtain ⟨zs, hcl⟩ : ∃ zs, ∀ ty, (Builtin.clear_ #[34] ty #[.slice (some ⟨blk, (i + (n - j)) * 6, none⟩) (n - (i + (n - j))) (cap - (i + (n - j)))]).run Tryd.prog W1 = .ok (.tuple #[]) (W1.setCells blk ((i + (n - j)) * 6) zs) := ⟨(Builtin.zeroCells (Value.agg #[.string ⟨#[]⟩, .int .i64 0, .int .i64 0, .string ⟨#[]⟩, .slice none 0 0, .slice none 0 0]).cells (n - (i + (n - j)))).toList, fun ty => by
    have hout : ∀ t, W1.heap[t]? = (if t = blk then W1.heap[blk]? else w.heap[t]?) := fun t => by
      split
      · rename_i h; rw [h]
      · rename_i h; rw [hW1]; exact setCells_other _ _ _ _ h
    have hin : ∃ c1, W1.heap[blk]? = some (.cells c1 T (0, 0)) ∧ c1.size = cur.size := by rw [hW1]; exact setCells_same _ _ _ hb
    obtain ⟨c1, hc1, hcz⟩ := hin
    have hzl : (Builtin.zeroCells (Value.agg #[.string ⟨#[]⟩, .int .i64 0, .int .i64 0, .string ⟨#[]⟩, .slice none 0 0, .slice none 0 0]).cells (n - (i + (n - j)))).toList.length = (n - (i + (n - j))) * 6 := by simp [Builtin.zeroCells, Value.cells]
    refine clear_block W1 34 59 ty _ Tryd.underlying34 Tryd.zeroValue59 blk _ _ _ (by omega) _ rfl (fun t ht => ?_) (fun t ht => by simp [World.frozen?, hc1]) ?_
    · rw [hzl] at ht
      have : (i + (n - j)) * 6 + t < c1.size := by omega
      simp [World.cell?, hc1, this]
    · intro v hv
      simp only [Builtin.zeroCells, Value.cells, Array.toList_map, List.mem_map] at hv
      obtain ⟨k, _, rfl⟩ := hv
      have hk : k % 6 < 6 := Nat.mod_lt _ (by decide)
      show ((#[.string ⟨#[]⟩, .int .i64 0, .int .i64 0, .string ⟨#[]⟩, .slice none 0 0, .slice none 0 0] : Array Value)[k % 6]!).oneCell' = true
      generalize k % 6 = r at hk
      match r, hk with
      | 0, _ => rfl
      | 1, _ => rfl
      | 2, _ => rfl
      | 3, _ => rfl
      | 4, _ => rfl
      | 5, _ => rfl⟩
  have hW : Hid (W1 = w.drew.setCells blk (0 + i * 6) news) := hW1
  have hic : i ≤ cap := by omega
  have hjc : j ≤ cap := by omega
  have X : Aside (news = (cur.toList.take (n * 6)).drop (j * 6)) := hnews
  clear hW1 hb h1 hget hnews hlen hcell hfr
  go_enter Tryd.func73, Tryd.ntmps73
  go_wp2_with fail
  go_region_law_o (refine step_append_room rfl (.tmp 22) (.tmp 25) 34 rfl 59 i0 6 Tryd.underlying34 hi0 hz1 blk 0 i cap (by simp [Act.eval, Act.put]) A (n - j) (cap - j) news (by simp [Act.eval, Act.put]) s1.out hsrc.out s2.out (by omega) s3.out ?_; rw [← hW.out])
  go_wp2
  go_ret
  refine ⟨by rw [show n - (j - i) = i + (n - j) by omega]; rfl, 1, zs, ?_⟩
  rw [hW.out, ← X.out, show n - (j - i) = i + (n - j) by omega, Nat.zero_add]
  rfl
end Go.Proofs.YtmjnmiahblaanaaDoor
