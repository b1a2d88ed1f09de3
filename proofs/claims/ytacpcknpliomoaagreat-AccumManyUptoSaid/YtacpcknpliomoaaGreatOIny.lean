/- slices.Insert at []api.Value, one value, over a row that is owned: its four roads as one. -/
import Derived.Test.YtacpcknpliomoaaGreatOInx
set_option linter.unusedVariables false
set_option linter.unusedSimpArgs false
namespace Go.Proofs.YtacpcknpliomoaaGreat
open Go.Shelf Go.RowKit Go.Lib Go.Am
theorem iSetO (b : Nat) : ∀ (vs : List Value) (o : Nat) (w : World) {k : Nat}, k ≠ b → (w.setCells b o vs).heap[k]? = w.heap[k]?
  | [], _, _, _, _ => rfl
  | v :: r, o, w, k, h => by
    show ((w.setCell ⟨b, o, none⟩ v).setCells b (o + 1) r).heap[k]? = _
    rw [iSetO b r (o + 1) _ h, Below.heap_setCell _ _ _ _ h]
theorem iSetG {b : Nat} {T : TypeId} {f : Nat × Nat} : ∀ (vs : List Value) (o : Nat) (w : World) {c : Array Value}, w.heap[b]? = some (.cells c T f) → ∃ c1, (w.setCells b o vs).heap[b]? = some (.cells c1 T f) ∧ c1.size = c.size ∧ ∀ t, t < c.size → c1[t]? = if o ≤ t ∧ t < o + vs.length then vs[t - o]? else c[t]?
  | [], o, w, c, h => ⟨c, h, rfl, fun t ht => by rw [if_neg (by simp)]⟩
  | v :: r, o, w, c, h => by
    have h2 : (w.setCell ⟨b, o, none⟩ v).heap[b]? = some (.cells (c.setIfInBounds o v) T f) := by simp [World.setCell, Array.getElem?_modify, h]
    obtain ⟨c1, h3, h4, h5⟩ := iSetG r (o + 1) _ h2
    refine ⟨c1, h3, by simpa using h4, fun t ht => ?_⟩
    rw [h5 t (by simpa using ht)]
    by_cases h6 : t = o
    · subst h6
      rw [if_neg (by omega), if_pos (by simp), Array.getElem?_setIfInBounds]
      simp [ht]
    · by_cases h7 : o + 1 ≤ t ∧ t < o + 1 + r.length
      · rw [if_pos h7, if_pos (by simp; omega)]
        obtain ⟨k, hk⟩ : ∃ k, t - o = k + 1 := ⟨t - o - 1, by omega⟩
        rw [hk, List.getElem?_cons_succ]
        congr 1; omega
      · rw [if_neg h7, if_neg (by simp; omega), Array.getElem?_setIfInBounds]
        simp [Ne.symm h6]
theorem iSetR (b : Nat) : ∀ (vs : List Value) (o : Nat) (w : World), (w.setCells b o vs).os = w.os ∧ (w.setCells b o vs).tape = w.tape ∧ (w.setCells b o vs).output = w.output ∧ (w.setCells b o vs).heap.size = w.heap.size
  | [], _, _ => ⟨rfl, rfl, rfl, rfl⟩
  | v :: r, o, w => by
    obtain ⟨h1, h2, h3, h4⟩ := iSetR b r (o + 1) (w.setCell ⟨b, o, none⟩ v)
    exact ⟨h1, h2, h3, h4.trans (World.size_setCell _ _ _)⟩
theorem iTake {c : Array Value} {N : Nat} {l : List Value} (hl : l.length = N) (h : ∀ t, t < N → c[t]? = l[t]?) : c.toList.take N = l := by
  apply List.ext_getElem?
  intro t
  rw [List.getElem?_take]
  split
  · rename_i ht; rw [Array.getElem?_toList]; exact h t ht
  · rename_i ht; rw [List.getElem?_eq_none (by omega)]
/-- The cells with more cells at place 'p'. -/
def insK (xs : List Value) (p : Nat) (vs : List Value) : List Value := xs.take p ++ (vs ++ xs.drop p)
theorem insK_len {xs : List Value} {p : Nat} {vs : List Value} : (insK xs p vs).length = xs.length + vs.length := by
  have := congrArg List.length (List.take_append_drop p xs)
  rw [List.length_append] at this
  rw [insK, List.length_append, List.length_append]
  omega
theorem insK_get {xs : List Value} {p : Nat} {vs : List Value} (hp : p ≤ xs.length) (t : Nat) : (insK xs p vs)[t]? = if t < p then xs[t]? else if t < p + vs.length then vs[t - p]? else xs[t - vs.length]? := by
  have hl : (xs.take p).length = p := by rw [List.length_take]; omega
  rw [insK]
  by_cases h1 : t < p
  · rw [if_pos h1, List.getElem?_append_left (by omega), List.getElem?_take, if_pos h1]
  · rw [if_neg h1, List.getElem?_append_right (by omega), hl]
    by_cases h2 : t < p + vs.length
    · rw [if_pos h2, List.getElem?_append_left (by omega)]
    · rw [if_neg h2, List.getElem?_append_right (by omega), List.getElem?_drop]
      congr 1; omega
structure InsK (w w' : World) (z v' : Value) (n : Nat) (ys : List Value) : Prop where
  own : w'.ownsRow 0 25 5 v' n ys
  bk : Am.blk v' = Am.blk z ∨ Am.blk v' = some w.heap.size
  os : w'.os = w.os
  tape : w'.tape = w.tape
  output : w'.output = w.output
  size : w.heap.size ≤ w'.heap.size
  block : ∀ b, b < w.heap.size → Am.blk z ≠ some b → w'.heap[b]? = w.heap[b]?
theorem heap_allocI (w : World) (o : Obj) : (w.alloc o).heap = w.heap.push o := rfl
set_option maxRecDepth 100000 in
theorem infoVz : (Tryz.prog.info? 25).map (fun i => (i.zero.map (·.cells.size), i.size, i.bytes)) = some (some 5, 5, 80) := by kernel_rfl
theorem infoVy : ∃ i z, Tryz.prog.info? 25 = some i ∧ i.zero = some z ∧ i.size = 5 ∧ i.bytes = 80 ∧ z.cells.size = 5 := by
  obtain ⟨i, h1, h2⟩ := Option.map_eq_some_iff.1 infoVz
  simp only [Prod.mk.injEq] at h2
  obtain ⟨z, hz, hs⟩ := Option.map_eq_some_iff.1 h2.1
  exact ⟨i, z, h1, hz, h2.2.1, h2.2.2, hs⟩
theorem insK_walk (z : Value) (n p vb c1 : Nat) (cu : Array Value) (xs vs : List Value) (w : World) (hz : w.ownsRow 0 25 5 z n xs) (hone : ∀ u ∈ xs, u.oneCell' = true) (h1v : ∀ u ∈ vs, u.oneCell' = true) (hvl : vs.length = 5) (hp : p ≤ n) (hn : n ≤ 1000000)
    (hvb : w.heap[vb]? = some (.cells cu 25 (0, 0))) (hvx : cu.toList.take 5 = vs) (hvc : c1 ≤ maxLen) (hc1 : 1 ≤ c1) (hne : Am.blk z ≠ some vb) :
    Calls Tryz.prog 165 #[z, .int .i64 p, .slice (some ⟨vb, 0, none⟩) 1 c1] w fun e w' => ∃ v', e = .returned v' ∧ InsK w w' z v' (n + 1) (insK xs (p * 5) vs) := by
  obtain ⟨i0, z0, hi0, hz0, hzs, hzb, hzl⟩ := infoVy
  obtain ⟨hlen, hown⟩ := hz
  have hml : maxLen = 9223372036854775807 := rfl
  have hvs : ∀ (j : Nat) (v : Value), vs[j]? = some v → w.cell? ⟨vb, 0 + j, none⟩ = some v := fun j v hj => by
    have h5 : j < 5 := by rw [← hvl]; exact (List.getElem?_eq_some_iff.1 hj).1
    rw [← hvx, List.getElem?_take, if_pos h5, Array.getElem?_toList] at hj
    simp [World.cell?, hvb, hj]
  have hcu : 5 ≤ cu.size := by
    have := congrArg List.length hvx
    rw [List.length_take, hvl, Array.length_toList] at this
    omega
  have hge : ∀ k : Nat, k ≤ n → n + 1 ≤ grownCap w (n + 1) k 25 ∧ grownCap w (n + 1) k 25 ≤ maxLen := fun k hk => ⟨grownCap_ge w (n + 1) k 25, grownCap_le_maxLen w (n + 1) k 25 (by rw [hml]; omega)⟩
  have zc : ∀ k : Nat, (Builtin.zeroCells z0.cells k).size = k * 5 := fun k => by simp [Builtin.zeroCells, hzl]
  -- a new row
  have new : ∀ (w1 : World) (cs : Array Value) (k : Nat), w1.heap = w.heap.push (.cells cs 25 (0, 0)) → w1.os = w.os → w1.tape = w.tape → w1.output = w.output → cs.size = k * 5 → n + 1 ≤ k → k ≤ maxLen → (∀ t, t < (n + 1) * 5 → cs[t]? = (insK xs (p * 5) vs)[t]?) → InsK w w1 z (.slice (some ⟨w.heap.size, 0, none⟩) (n + 1) k) (n + 1) (insK xs (p * 5) vs) := fun w1 cs k hh h1 h2 h3 hs hk hk2 hg =>
    { own := ⟨by rw [insK_len, hlen, hvl]; omega, .inr ⟨w.heap.size, k, cs, rfl, Nat.zero_le _, by rw [hh, Array.getElem?_push, if_pos rfl], hk, hk2, hs, iTake (by rw [insK_len, hlen, hvl]; omega) hg⟩⟩
      bk := .inr rfl
      os := h1
      tape := h2
      output := h3
      size := by rw [hh, Array.size_push]; omega
      block := fun b hb _ => by rw [hh, Array.getElem?_push, if_neg (by omega)] }
  have hend : ∀ t : Nat, p = n → (xs ++ vs)[t]? = (insK xs (p * 5) vs)[t]? := fun t e => by
    have h1 : xs.take (p * 5) = xs := List.take_of_length_le (by omega)
    have h2 : xs.drop (p * 5) = [] := List.drop_eq_nil_of_le (by omega)
    rw [insK, h1, h2, List.append_nil]
  rcases hown with ⟨rfl, rfl⟩ | ⟨g, cap, cur, rfl, _, hh, hnc, hcm, hcs, htk⟩
  · obtain rfl : p = 0 := by omega
    refine (insV_end_grow rfl hi0 hz0 hzs hzb none 0 0 vb c1 xs vs w (by omega) (by omega) (by omega) hlen hvl (fun _ => rfl) (fun a ha => by cases ha) hvs h1v).mono ?_
    rintro e w' ⟨rfl, rfl⟩
    have h8 := hge 0 (Nat.le_refl _)
    refine ⟨_, rfl, new _ _ _ (heap_allocI _ _) rfl rfl rfl ?_ h8.1 h8.2 fun t ht => ?_⟩
    · rw [Array.size_append, zc, List.size_toArray, List.length_append, hlen, hvl]
      have := h8.1
      omega
    · rw [← hend t rfl, Array.getElem?_append_left (by rw [List.size_toArray, List.length_append, hlen, hvl]; omega), List.getElem?_toArray]
  · have hcell : ∀ t, w.cell? ⟨g, t, none⟩ = cur[t]? := fun t => by simp [World.cell?, hh]
    have hx : ∀ t, t < n * 5 → cur[t]? = xs[t]? := fun t ht => by rw [← htk, List.getElem?_take, if_pos ht, Array.getElem?_toList]
    have hcsx : ∀ (j : Nat) (v : Value), xs[j]? = some v → w.cell? ⟨g, 0 + j, none⟩ = some v := fun j v hj => by
      have : j < n * 5 := by rw [← hlen]; exact (List.getElem?_eq_some_iff.1 hj).1
      rw [Nat.zero_add, hcell, hx j this]; exact hj
    have hsp : ∀ j, j < cap * 5 → (w.cell? ⟨g, j, none⟩).isSome = true := fun j hj => by
      rw [hcell, Array.getElem?_eq_getElem (by omega)]; rfl
    have hfz : ∀ t, w.frozen? ⟨g, t, none⟩ = false := fun t => by simp [World.frozen?, hh]
    have hgw : g < w.heap.size := (Array.getElem?_eq_some_iff.1 hh).1
    have hgv : vb ≠ g := fun e => hne (by rw [e]; rfl)
    -- in place
    have same : ∀ (w1 : World) (cs : Array Value), w1.heap[g]? = some (.cells cs 25 (0, 0)) → cs.size = cap * 5 → n + 1 ≤ cap → w1.os = w.os → w1.tape = w.tape → w1.output = w.output → w1.heap.size = w.heap.size → (∀ b, b ≠ g → w1.heap[b]? = w.heap[b]?) → (∀ t, t < (n + 1) * 5 → cs[t]? = (insK xs (p * 5) vs)[t]?) → InsK w w1 (.slice (some ⟨g, 0, none⟩) n cap) (.slice (some ⟨g, 0, none⟩) (n + 1) cap) (n + 1) (insK xs (p * 5) vs) := fun w1 cs h0 hs hk h1 h2 h3 h4 h5 hg =>
      { own := ⟨by rw [insK_len, hlen, hvl]; omega, .inr ⟨g, cap, cs, rfl, Nat.zero_le _, h0, hk, hcm, hs, iTake (by rw [insK_len, hlen, hvl]; omega) hg⟩⟩
        bk := .inl rfl
        os := h1
        tape := h2
        output := h3
        size := Nat.le_of_eq h4.symm
        block := fun b _ hb => h5 b fun e => hb (by rw [e]; rfl) }
    by_cases hpn : p = n
    · by_cases hroom : n + 1 ≤ cap
      · have k := insV_end_room g n cap vb c1 vs w hroom (by omega) hvl (fun j hj => hsp _ (by omega)) (fun j _ => hfz _) hvs h1v
        rw [hpn]
        rw [hpn] at same hend
        refine k.mono ?_
        rintro e w' ⟨rfl, rfl⟩
        obtain ⟨c2, g1, g2, g3⟩ := iSetG vs (n * 5) w hh
        obtain ⟨r1, r2, r3, r4⟩ := iSetR g vs (n * 5) w
        refine ⟨_, rfl, same _ c2 g1 (by rw [g2, hcs]) hroom r1 r2 r3 r4 (fun b hb => iSetO _ _ _ _ hb) fun t ht => ?_⟩
        rw [g3 t (by omega), ← hend t rfl]
        by_cases h : t < n * 5
        · rw [if_neg (by omega), hx t h, List.getElem?_append_left (by omega)]
        · rw [if_pos (by omega), List.getElem?_append_right (by omega), hlen]
      · have k := insV_end_grow rfl hi0 hz0 hzs hzb (some ⟨g, 0, none⟩) n cap vb c1 xs vs w hnc (by omega) (by omega) hlen hvl (fun h => by cases h) (fun a ha j v hj => by cases ha; rw [Addr.add_lit]; exact hcsx j v hj) hvs h1v
        rw [hpn]
        rw [hpn] at new hend
        have h8 := hge cap (by omega)
        refine k.mono ?_
        rintro e w' ⟨rfl, rfl⟩
        refine ⟨_, rfl, new _ _ _ (heap_allocI _ _) rfl rfl rfl ?_ h8.1 h8.2 fun t ht => ?_⟩
        · rw [Array.size_append, zc, List.size_toArray, List.length_append, hlen, hvl]
          have := h8.1
          omega
        · rw [← hend t rfl, Array.getElem?_append_left (by rw [List.size_toArray, List.length_append, hlen, hvl]; omega), List.getElem?_toArray]
    · have hlt : p < n := by omega
      have hdl : (xs.drop (p * 5)).length = (n - p) * 5 := by rw [List.length_drop, hlen, Nat.sub_mul]
      by_cases hroom : n + 1 ≤ cap
      · refine (insV_shift g n cap p vb c1 xs vs w hlt hroom (by omega) hgv hlen hvl hcsx (fun j hj => hsp j (by omega)) (fun j _ => hfz _) hvs hone h1v 25 25 cu.size cur.size (by simp [World.shape?, hvb]) (by simp [World.shape?, hh]) (by omega) (by simp [World.frozen?, hvb]) (by simp [World.frozen?, hvb])).mono ?_
        rintro e w' ⟨rfl, rfl⟩
        obtain ⟨c2, g1, g2, g3⟩ := iSetG (xs.drop (p * 5)) ((p + 1) * 5) w.drew (show w.drew.heap[g]? = _ from hh)
        obtain ⟨c3, q1, q2, q3⟩ := iSetG vs (p * 5) _ g1
        obtain ⟨r1, r2, r3, r4⟩ := iSetR g (xs.drop (p * 5)) ((p + 1) * 5) w.drew
        obtain ⟨s1, s2, s3, s4⟩ := iSetR g vs (p * 5) (w.drew.setCells g ((p + 1) * 5) (xs.drop (p * 5)))
        refine ⟨_, rfl, same _ c3 q1 (by rw [q2, g2, hcs]) hroom (s1.trans r1) (s2.trans r2) (s3.trans r3) (s4.trans r4) (fun b hb => (iSetO _ _ _ _ hb).trans (iSetO _ _ _ _ hb)) fun t ht => ?_⟩
        rw [q3 t (by omega), g3 t (by omega), insK_get (by omega), hdl, hvl]
        by_cases h1 : t < p * 5
        · rw [if_neg (by omega), if_neg (by omega), if_pos h1, hx t (by omega)]
        · by_cases h2 : t < p * 5 + 5
          · rw [if_pos (by omega), if_neg h1, if_pos h2]
          · rw [if_neg (by omega), if_pos (by omega), if_neg h1, if_neg h2, List.getElem?_drop, show p * 5 + (t - (p + 1) * 5) = t - 5 by omega]
      · refine (insV_grow rfl hzl hi0 hz0 hzs hzb g n cap p vb c1 xs vs w hlt hnc (by omega) (by omega) hlen hvl hcsx hvs hone h1v).mono ?_
        rintro e w' ⟨rfl, rfl⟩
        have h8 := hge cap (by omega)
        obtain ⟨hg1, hg2⟩ := h8
        obtain ⟨cA, hcA⟩ : ∃ cA, cA = (xs.take (p * 5)).toArray ++ Builtin.zeroCells z0.cells (n + 1 - p) ++ Builtin.zeroCells z0.cells (grownCap w (n + 1) cap 25 - (n + 1)) := ⟨_, rfl⟩
        have htl : (xs.take (p * 5)).length = p * 5 := by rw [List.length_take, hlen]; omega
        have hsz : cA.size = grownCap w (n + 1) cap 25 * 5 := by
          rw [hcA, Array.size_append, Array.size_append, zc, zc, List.size_toArray, htl]
          omega
        have hA : ((w.alloc (.cells cA 25)).drew).heap[w.heap.size]? = some (.cells cA 25 (0, 0)) := by
          show (w.alloc _).heap[w.heap.size]? = _
          rw [heap_allocI, Array.getElem?_push, if_pos rfl]
        obtain ⟨c2, g1, g2, g3⟩ := iSetG vs (p * 5) _ hA
        obtain ⟨c3, q1, q2, q3⟩ := iSetG (xs.drop (p * 5)) ((p + 1) * 5) (((w.alloc (.cells cA 25)).drew.setCells w.heap.size (p * 5) vs).drew) (show (((w.alloc (.cells cA 25)).drew.setCells w.heap.size (p * 5) vs).drew).heap[w.heap.size]? = _ from g1)
        obtain ⟨r1, r2, r3, r4⟩ := iSetR w.heap.size vs (p * 5) ((w.alloc (.cells cA 25)).drew)
        obtain ⟨s1, s2, s3, s4⟩ := iSetR w.heap.size (xs.drop (p * 5)) ((p + 1) * 5) (((w.alloc (.cells cA 25)).drew.setCells w.heap.size (p * 5) vs).drew)
        have hsz2 : (w.alloc (.cells cA 25)).heap.size = w.heap.size + 1 := by rw [heap_allocI, Array.size_push]
        have hG : ∀ t, t < (n + 1) * 5 → c3[t]? = (insK xs (p * 5) vs)[t]? := fun t ht => by
          rw [q3 t (by omega), g3 t (by omega), insK_get (by omega), hdl, hvl]
          by_cases h1 : t < p * 5
          · rw [if_neg (by omega), if_neg (by omega), if_pos h1, hcA, Array.getElem?_append_left (by rw [Array.size_append, List.size_toArray, htl]; omega), Array.getElem?_append_left (by rw [List.size_toArray, htl]; exact h1), List.getElem?_toArray, List.getElem?_take, if_pos h1]
          · by_cases h2 : t < p * 5 + 5
            · rw [if_neg (by omega), if_pos (by omega), if_neg h1, if_pos h2]
            · rw [if_pos (by omega), if_neg h1, if_neg h2, List.getElem?_drop, show p * 5 + (t - (p + 1) * 5) = t - 5 by omega]
        simp only [← hcA]
        refine ⟨_, rfl, ⟨⟨by rw [insK_len, hlen, hvl]; omega, .inr ⟨w.heap.size, grownCap w (n + 1) cap 25, c3, rfl, Nat.zero_le _, q1, hg1, hg2, by rw [q2, g2, hsz], iTake (by rw [insK_len, hlen, hvl]; omega) hG⟩⟩, .inr rfl, s1.trans r1, s2.trans r2, s3.trans r3, ?_, fun b hb _ => ?_⟩⟩
        · have : (((w.alloc (.cells cA 25)).drew.setCells w.heap.size (p * 5) vs).drew.setCells w.heap.size ((p + 1) * 5) (xs.drop (p * 5))).heap.size = (w.alloc (.cells cA 25)).heap.size := s4.trans r4
          show w.heap.size ≤ (((w.alloc (.cells cA 25)).drew.setCells w.heap.size (p * 5) vs).drew.setCells w.heap.size ((p + 1) * 5) (xs.drop (p * 5))).heap.size
          omega
        · have hne' : b ≠ w.heap.size := by omega
          refine (iSetO _ _ _ _ hne').trans ((iSetO w.heap.size vs (p * 5) ((w.alloc (.cells cA 25)).drew) hne').trans ?_)
          show (w.alloc _).heap[b]? = _
          rw [heap_allocI, Array.getElem?_push, if_neg hne']
end Go.Proofs.YtacpcknpliomoaaGreat
