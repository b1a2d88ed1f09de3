/- The abstract machine, part 5: append, make, literals. -/
import Derived.Test.YtacpcknpliomoaaGreatAm4
import Derived.Maps.AppendAt
set_option linter.unusedVariables false
set_option linter.unusedSimpArgs false
namespace Go.Am
open Go.RowKit

section
variable {P : Program} {n : Nat} {o : Oper} {σ σ' : St} {x y : Operand} {v : AV} {T : TypeId}

theorem run_append_of_nil (w : World) (base : Nat) (t ty e : TypeId) (i : TypeInfo) (size : Nat) (ht : P.underlying t = some (.slice e)) (hi : P.info? e = some i)
    (v : Value) (m : Nat) (xs : List Value) (hown : w.ownsRow base e size v m xs) (c : Nat) : (Builtin.append_ #[t, t] ty #[v, .slice none 0 c]).run P w = .ok v w := by
  rcases hown.2 with ⟨rfl, rfl⟩ | ⟨g, cap, cur, rfl, _, _, hnc, _⟩
  · simp [Builtin.append_, run_underlying ht, sizeOf, typeInfo, hi, Builtin.lenOf, Builtin.firstCells]
  · simp [Builtin.append_, run_underlying ht, sizeOf, typeInfo, hi, Builtin.lenOf, Builtin.firstCells, hnc, storeCells]

/-- What lay under the name 'm' goes on under the new name 'l'. -/
theorem RelB.take {K : OkX} {w0 w : World} {a : Act} {β : Nat → Option Value} (h : RelB P K w0 n σ a w β) (m l : Nat) (o : Ob) (z' : Value) (w' : World)
    (hm : lk σ.hs m ≠ .free) (hf : lk σ.hs l = .free) (hk0 : σ.k0 ≤ l)
    (hos : w'.os = w.os) (htape : w'.tape = w.tape) (hout : w'.output = w.output) (hsz : w.heap.size ≤ w'.heap.size)
    (hbl : ∀ b, b < w.heap.size → ¬ owns σ.hs β m b → w'.heap[b]? = w.heap[b]?)
    (hv' : ∀ b, Blk z' b → w.heap.size ≤ b ∨ owns σ.hs β m b)
    (ho : Ext β (upB β l (some z')) → (∀ b, okOf K w0 w σ.hs β b → okOf K w0 w' (setO (setO σ.hs m .gone) l o) (upB β l (some z')) b ∧ w'.heap[b]? = w.heap[b]?) → ObOK P (okOf K w0 w' (setO (setO σ.hs m .gone) l o) (upB β l (some z'))) w' (upB β l (some z')) o (some z')) :
    RelB P K w0 n ((σ.lay m .gone).lay l o) a w' (upB β l (some z')) := by
  have hfree : β l = none := by
    have := h.hs l
    rw [hf] at this
    exact this
  have hml : m ≠ l := fun e => hm (by rw [e]; exact hf)
  have hext : Ext β (upB β l (some z')) := by
    intro k z hk
    by_cases hkl : k = l
    · subst hkl; rw [hfree] at hk; cases hk
    · rw [upB_other _ _ _ _ hkl]; exact hk
  have hown2 : ∀ k b, owns (setO (setO σ.hs m .gone) l o) (upB β l (some z')) k b → (k = l ∧ (w.heap.size ≤ b ∨ owns σ.hs β m b)) ∨ (k ≠ l ∧ k ≠ m ∧ owns σ.hs β k b) := by
    rintro k b ⟨h1, z, h2, h3⟩
    by_cases hkl : k = l
    · subst hkl
      rw [upB_same] at h2
      cases h2
      exact .inl ⟨rfl, hv' b h3⟩
    · rw [lk_other _ _ _ _ hkl] at h1
      rw [upB_other _ _ _ _ hkl] at h2
      by_cases hkm : k = m
      · subst hkm; rw [lk_same] at h1; cases h1
      · rw [lk_other _ _ _ _ hkm] at h1
        exact .inr ⟨hkl, hkm, h1, z, h2, h3⟩
  have hk : ∀ b, okOf K w0 w σ.hs β b → okOf K w0 w' (setO (setO σ.hs m .gone) l o) (upB β l (some z')) b ∧ w'.heap[b]? = w.heap[b]? := by
    rintro b ⟨h1, h2, h3⟩
    refine ⟨⟨Nat.lt_of_lt_of_le h1 hsz, h2, fun k hk => ?_⟩, hbl b h1 (h3 m)⟩
    rcases hown2 k b hk with ⟨_, h4 | h4⟩ | ⟨_, _, h4⟩
    · omega
    · exact h3 _ h4
    · exact h3 _ h4
  refine ⟨h.size, h.defers, ?_, fun k => (h.ts k).mono hk hext, fun k => ?_, ?_, ?_, ?_, h.kk, h.tab.mono hk⟩
  · refine ⟨hos.trans h.below.os, htape.trans h.below.tape, hout.trans h.below.output, Nat.le_trans h.below.size hsz, fun b hb hx => (hbl b (Nat.lt_of_lt_of_le hb h.below.size) fun he => ?_).trans (h.below.block b hb hx)⟩
    rcases h.own m b he with h1 | h1
    · omega
    · exact hx h1
  · show ObOK P _ w' _ (lk (setO (setO σ.hs m .gone) l o) k) _
    by_cases hkl : k = l
    · subst hkl
      rw [lk_same, upB_same]
      exact ho hext hk
    · rw [lk_other _ _ _ _ hkl, upB_other _ _ _ _ hkl]
      by_cases hkm : k = m
      · subst hkm; rw [lk_same]; trivial
      · rw [lk_other _ _ _ _ hkm]
        refine (h.hs k).mono hk (fun z b h1 h2 h3 => ?_) hext
        have ho1 : owns σ.hs β k b := ⟨h1, z, h2, h3⟩
        exact hbl b (h.blk_lt ho1) fun he => hkm (h.sep k m b ho1 he)
  · intro k k' b h1 h2
    rcases hown2 k b h1 with ⟨e1, h3 | h3⟩ | ⟨e1, e1', h3⟩
    · rcases hown2 k' b h2 with ⟨e2, _⟩ | ⟨e2, _, h4⟩
      · rw [e1, e2]
      · have := h.blk_lt h4; omega
    · rcases hown2 k' b h2 with ⟨e2, _⟩ | ⟨e2, e2', h4⟩
      · rw [e1, e2]
      · exact absurd (h.sep _ _ _ h4 h3) e2'
    · rcases hown2 k' b h2 with ⟨e2, h4 | h4⟩ | ⟨e2, _, h4⟩
      · have := h.blk_lt h3; omega
      · exact absurd (h.sep _ _ _ h3 h4) e1'
      · exact h.sep _ _ _ h3 h4
  · intro k b h1
    rcases hown2 k b h1 with ⟨e1, h3 | h3⟩ | ⟨e1, _, h3⟩
    · exact .inl (Nat.le_trans h.below.size h3)
    · exact h.own _ _ h3
    · exact h.own _ _ h3
  · intro k hk2
    have hkl : k ≠ l := by have := h.kk; omega
    rw [upB_other _ _ _ _ hkl]; exact h.ext k hk2

/-- A slice whose elements are the plain data 'ds'. -/
def SrcOK (P : Program) (σ : St) (y : Operand) (E : TypeId) (ds : List Dt) : Prop :=
  ∀ (ok0 : OkX) (w0 : World) (n : Nat) (a : Act) (w : World) (β : Nat → Option Value), RelB P ok0 w0 n σ a w β → ∃ (A : Option Addr) (c : Nat) (xs : List Value), a.eval y = .slice A ds.length c ∧ xs.length = ds.length * P.cellsOf E ∧
    (∀ u ∈ xs, u.oneCell' = true) ∧ (0 < ds.length → ∃ ad, A = some ad ∧ ∀ j u, xs[j]? = some u → w.cell? (ad.add j) = some u) ∧ (A = none → ds.length = 0) ∧
    ∀ (i : Nat) (d : Dt), ds[i]? = some d → RD P (okOf ok0 w0 w σ.hs β) w E d ((xs.drop (i * P.cellsOf E)).take (P.cellsOf E))

theorem SrcOK.row {l : Nat} {E T5 : TypeId} {ds : List Dt} (hy : Ev P σ y (.row l)) (hl : lk σ.hs l = .row T5 ds) (hu5 : P.underlying T5 = some (.slice E)) : SrcOK P σ y E ds := by
  intro ok0 w0 n a w β r
  have e := row_eval (hy _ _ _ _ _ _ r)
  have hob := r.hs l
  rw [hl, e] at hob
  obtain ⟨E', xs, hu', hown, hone, hrd⟩ := ob_row hob
  obtain rfl : E = E' := by rw [hu5] at hu'; cases hu'; rfl
  rcases hown.2 with ⟨h2, h3⟩ | ⟨g, cap, cur, h2, _⟩
  · exact ⟨none, 0, xs, by rw [h2, h3], hown.1, hone, fun h => by omega, fun _ => h3, hrd⟩
  · exact ⟨_, cap, xs, h2, hown.1, hone, fun _ => ⟨_, rfl, hown.cells (g := g) (by rw [h2]; rfl)⟩, fun h => by simp at h, hrd⟩

theorem SrcOK.lst {T3 E : TypeId} {ds : List Dt} (hu : P.underlying T3 = some (.slice E)) (hy : Ev P σ y (.dat T3 (.lst ds))) : SrcOK P σ y E ds := by
  intro ok0 w0 n a w β r
  have hrd := (RV.dat_one (aggT_of_not hu rfl)).1 (hy _ _ _ _ _ _ r)
  obtain ⟨_, ao, cap, ad, g, hcs, hlc, hm, ha, hg, hr⟩ := hrd.lst_inv hu
  simp only [Dt.toLst] at hcs hlc ha hg hr
  have ex : a.eval y = .slice ao ds.length cap := by simpa using hcs
  let xs : List Value := (List.range (ds.length * P.cellsOf E)).map fun j => (g (j / P.cellsOf E)).getD (j % P.cellsOf E) undef
  have hget : ∀ i k, i < ds.length → k < P.cellsOf E → xs[i * P.cellsOf E + k]? = (g i)[k]? := by
    intro i k hi hk
    have hmul : (i + 1) * P.cellsOf E ≤ ds.length * P.cellsOf E := Nat.mul_le_mul_right _ hi
    rw [Nat.add_mul, Nat.one_mul] at hmul
    have h1 : (i * P.cellsOf E + k) / P.cellsOf E = i := by
      rw [Nat.mul_comm, Nat.mul_add_div (by omega), Nat.div_eq_of_lt hk, Nat.add_zero]
    have h2 : (i * P.cellsOf E + k) % P.cellsOf E = k := by
      rw [Nat.mul_comm, Nat.mul_add_mod, Nat.mod_eq_of_lt hk]
    have hkl : k < (g i).length := by rw [(hg i hi).1]; exact hk
    simp only [xs, List.getElem?_map]
    rw [List.getElem?_range (by omega)]
    simp only [Option.map_some, h1, h2, List.getD, List.getElem?_eq_getElem hkl, Option.getD_some]
  have hseg : ∀ i, i < ds.length → (xs.drop (i * P.cellsOf E)).take (P.cellsOf E) = g i := by
    intro i hi
    apply List.ext_getElem?
    intro k
    rw [seg_get]
    split
    · exact hget i k hi (by assumption)
    · rw [List.getElem?_eq_none (by rw [(hg i hi).1]; omega)]
  have hsplit : ∀ j u, xs[j]? = some u → ∃ i k, i < ds.length ∧ k < P.cellsOf E ∧ j = i * P.cellsOf E + k := by
    intro j u hj
    have hlt : j < ds.length * P.cellsOf E := by
      have := (List.getElem?_eq_some_iff.1 hj).1
      simpa [xs] using this
    have h0 : 0 < P.cellsOf E := by
      rcases Nat.eq_zero_or_pos (P.cellsOf E) with h | h
      · rw [h] at hlt; omega
      · exact h
    refine ⟨j / P.cellsOf E, j % P.cellsOf E, ?_, Nat.mod_lt _ h0, ?_⟩
    · exact (Nat.div_lt_iff_lt_mul h0).2 hlt
    · rw [Nat.mul_comm]; exact (Nat.div_add_mod j _).symm
  refine ⟨ao, cap, xs, ex, by simp [xs], ?_, ?_, ?_, ?_⟩
  · intro u hu2
    obtain ⟨j, hj⟩ := List.getElem?_of_mem hu2
    obtain ⟨i, k, hi, hk, rfl⟩ := hsplit j u hj
    rw [hget i k hi hk] at hj
    exact (hg i hi).2.1 u (List.mem_of_getElem? hj)
  · intro h0
    refine ⟨ad, (ha h0).1, fun j u hj => ?_⟩
    obtain ⟨i, k, hi, hk, rfl⟩ := hsplit j u hj
    rw [hget i k hi hk] at hj
    exact (hg i hi).2.2 k u hj
  · intro hn
    rcases Nat.eq_zero_or_pos ds.length with h | h
    · exact h
    · rw [(ha h).1] at hn; cases hn
  · intro i d hd
    have hi : i < ds.length := (List.getElem?_eq_some_iff.1 hd).1
    rw [hseg i hi]
    exact hr i d hd

theorem seg_app_left {xs ys : List Value} {o1 m : Nat} (h : o1 + m ≤ xs.length) : ((xs ++ ys).drop o1).take m = (xs.drop o1).take m := by
  apply List.ext_getElem?
  intro k
  rw [seg_get, seg_get]
  split
  · rw [List.getElem?_append_left (by omega)]
  · rfl
theorem seg_app_right {xs ys : List Value} {o1 m : Nat} (h : xs.length ≤ o1) : ((xs ++ ys).drop o1).take m = (ys.drop (o1 - xs.length)).take m := by
  apply List.ext_getElem?
  intro k
  rw [seg_get, seg_get]
  split
  · rw [List.getElem?_append_right (by omega)]
    congr 1
    omega
  · rfl

theorem row_rv {ok : Nat → Prop} {w : World} {β : Nat → Option Value} {l : Nat} {z : Value} (h : β l = some z) (h1 : z.oneCell' = true) : RV P ok w β (.row l) z :=
  ⟨fun hi => by simp [AV.isAgg] at hi, fun _ => .row h h1⟩

theorem append_gen {d l l' : Nat} {E T5 T' : TypeId} {es ds : List Dt} {ok0 : OkX} {w0 w : World} {a : Act} {β : Nat → Option Value} {vy : Value} {ys : List Value} (ho : o.op = .call { callee := .builtin .append, args := #[x, y], argTypes := #[T, T'] }) (hd : o.dst = some d) (hn : d < n) (hu5 : P.underlying T5 = some (.slice E))
    (r : RelB P ok0 w0 n σ a w β) (ex : β l = some (a.eval x)) (hl : lk σ.hs l = .row T5 es) (hf : lk σ.hs l' = .free) (hk0 : σ.k0 ≤ l')
    (ey : a.eval y = vy) (hyl : ys.length = ds.length * P.cellsOf E) (hyone : ∀ u ∈ ys, u.oneCell' = true)
    (hyrd : ∀ (i : Nat) (d : Dt), ds[i]? = some d → RD P (okOf ok0 w0 w σ.hs β) w E d ((ys.drop (i * P.cellsOf E)).take (P.cellsOf E)))
    (key : ∀ (bl : Value) (xs : List Value), a.eval x = bl → w.ownsRow 0 E (P.cellsOf E) bl es.length xs → ∃ v' w', (Builtin.append_ #[T, T'] o.type #[bl, vy]).run P w = .ok v' w' ∧ w'.ownsRow 0 E (P.cellsOf E) v' (es.length + ds.length) (xs ++ ys) ∧ w.grownBy w' bl.ownBlock ∧
      (v'.ownBlock = bl.ownBlock ∨ v'.ownBlock = some w.heap.size)) (K : Act → World → Prop) (Q : Exit → Act → World → Prop)
    (hK : ∀ a' w', Rel P ok0 w0 n (((σ.lay l .gone).lay l' (.row T5 (es ++ ds))).put d (.row l')) a' w' → K a' w') : o.wp P a w K Q := by
  have hob0 := r.hs l
  rw [hl, ex] at hob0
  obtain ⟨E', xs, hu', hown, hone, hrd⟩ := ob_row hob0
  obtain rfl : E = E' := by rw [hu5] at hu'; cases hu'; rfl
  obtain ⟨bl, ebl⟩ : ∃ bl, a.eval x = bl := ⟨_, rfl⟩
  have key := key bl xs ebl (ebl ▸ hown)
  rw [ebl] at ex hown
  obtain ⟨v', w', hrun, hown', hgr, hblk'⟩ := key
  have hob' : v'.ownBlock = blk v' := by
    rcases hown'.2 with ⟨rfl, _⟩ | ⟨g, cap, cur, rfl, _⟩ <;> rfl
  have hbl : bl.ownBlock = blk bl := by
    rcases hown.2 with ⟨rfl, _⟩ | ⟨g, cap, cur, rfl, _⟩ <;> rfl
  unfold Oper.wp execOp
  simp only [ho, resolve, invoke, builtin, Sem.run_bind, Sem.run_pure, Result.andThen_ok, List.map_toArray, List.map_cons, List.map_nil, ebl, ey, hrun]
  refine hK _ _ ?_
  rw [hd]
  have hlown : ∀ b, blk bl = some b → owns σ.hs β l b := fun b hb => ⟨by rw [hl]; rfl, bl, ex, .inl hb⟩
  have hnew := r.take l l' (.row T5 (es ++ ds)) v' w' (by rw [hl]; simp) hf hk0 hgr.os hgr.tape hgr.output hgr.size
    (fun b hb hne => hgr.block b hb fun e => hne (hlown b (by rw [← hbl, ← e])))
    (fun b hb => by
      have hb := hb.of hown'.notup
      rw [← hob'] at hb
      rcases hblk' with h | h
      · right; exact hlown b (by rw [← hbl, ← h, hb])
      · left; rw [h] at hb; cases hb; exact Nat.le_refl _)
    (fun hex hk => by
      refine ⟨E, v', xs ++ ys, rfl, hu5, by simpa using hown', ?_, ?_⟩
      · intro u hu2
        rcases List.mem_append.1 hu2 with h | h
        · exact hone u h
        · exact hyone u h
      · intro i' d' hd'
        have hxl := hown.1
        by_cases hlt : i' < es.length
        · rw [List.getElem?_append_left hlt] at hd'
          have hmul : (i' + 1) * P.cellsOf E ≤ es.length * P.cellsOf E := Nat.mul_le_mul_right _ hlt
          rw [Nat.add_mul, Nat.one_mul] at hmul
          rw [seg_app_left (by omega)]
          exact (hrd i' d' hd').mono hk
        · rw [List.getElem?_append_right (by omega)] at hd'
          have hmul : es.length * P.cellsOf E ≤ i' * P.cellsOf E := Nat.mul_le_mul_right _ (by omega)
          rw [seg_app_right (by omega), hxl, ← Nat.sub_mul]
          exact (hyrd _ d' hd').mono hk)
  refine Rel.put hnew hn (row_rv (upB_same _ _ _) ?_)
  rcases hown'.2 with ⟨rfl, _⟩ | ⟨g, cap, cur, rfl, _⟩ <;> rfl
theorem append_key {E m nd : Nat} {z : Dt} {w : World} {A : Option Addr} {c : Nat} {ys : List Value} (hu : P.underlying T = some (.slice E)) (hz : Zero P E z) (h0 : P.cellsOf E ≠ 0) (hbound : (m + nd) * P.bytesOf E ≤ 140737488355328) (hyl : ys.length = nd * P.cellsOf E) (hyone : ∀ u ∈ ys, u.oneCell' = true)
    (hyc : 0 < nd → ∃ ad, A = some ad ∧ ∀ j u, ys[j]? = some u → w.cell? (ad.add j) = some u) (hynone : A = none → nd = 0) (hlim : m + nd ≤ 137438953472) {bl : Value} {xs : List Value} (hown : w.ownsRow 0 E (P.cellsOf E) bl m xs) :
    ∃ v' w', (Builtin.append_ #[T, T] o.type #[bl, .slice A nd c]).run P w = .ok v' w' ∧ w'.ownsRow 0 E (P.cellsOf E) v' (m + nd) (xs ++ ys) ∧ w.grownBy w' bl.ownBlock ∧ (v'.ownBlock = bl.ownBlock ∨ v'.ownBlock = some w.heap.size) := by
  obtain ⟨i, zv, hi, hzv, hzs, _⟩ := hz.ex
  have hsz : i.size = P.cellsOf E := by simp [Program.cellsOf, hi]
  have hbz : i.bytes = P.bytesOf E := by simp [Program.bytesOf, hi]
  have hml : m + nd ≤ maxLen := by unfold maxLen; omega
  cases A with
  | none =>
    have hd0 := hynone rfl
    have : ys = [] := List.eq_nil_of_length_eq_zero (by rw [hyl, hd0]; simp)
    subst this
    rw [hd0]
    refine ⟨bl, w, run_append_of_nil w 0 T o.type E i (P.cellsOf E) hu hi _ _ _ hown c, by simpa using hown, ⟨rfl, rfl, rfl, Nat.le_refl _, fun _ _ _ => rfl⟩, .inl rfl⟩
  | some ad =>
    have hcells : ∀ j u, ys[j]? = some u → w.cell? (ad.add j) = some u := by
      rcases Nat.eq_zero_or_pos nd with h | h
      · have : ys = [] := List.eq_nil_of_length_eq_zero (by rw [hyl, h]; simp)
        subst this
        intro j u hj
        simp at hj
      · obtain ⟨ad', e, hc⟩ := hyc h
        cases e
        exact hc
    obtain ⟨v', w', h1, h2, h3, _, h5⟩ := run_append_own_at (P := P) w 0 T o.type E i zv (P.cellsOf E) (P.bytesOf E) hu hi hzv hsz hbz hzs (by omega) bl m xs hown ad nd c ys hyl hcells hyone hml hbound (Nat.zero_le _)
    exact ⟨v', w', h1, h2, h3, h5⟩
theorem append_core {d l l' : Nat} {E T5 : TypeId} {es ds : List Dt} {z : Dt} {ok0 : OkX} {w0 w : World} {a : Act} {β : Nat → Option Value} {A : Option Addr} {c : Nat} {ys : List Value} (ho : o.op = .call { callee := .builtin .append, args := #[x, y], argTypes := #[T, T] }) (hd : o.dst = some d) (hn : d < n) (hu : P.underlying T = some (.slice E)) (hu5 : P.underlying T5 = some (.slice E))
    (hz : Zero P E z) (h0 : P.cellsOf E ≠ 0) (hbd : (es.length + ds.length) * P.bytesOf E ≤ 140737488355328) (r : RelB P ok0 w0 n σ a w β) (ex : β l = some (a.eval x)) (hl : lk σ.hs l = .row T5 es) (hf : lk σ.hs l' = .free) (hk0 : σ.k0 ≤ l')
    (ey : a.eval y = .slice A ds.length c) (hyl : ys.length = ds.length * P.cellsOf E) (hyone : ∀ u ∈ ys, u.oneCell' = true) (hyc : 0 < ds.length → ∃ ad, A = some ad ∧ ∀ j u, ys[j]? = some u → w.cell? (ad.add j) = some u) (hynone : A = none → ds.length = 0)
    (hyrd : ∀ (i : Nat) (d : Dt), ds[i]? = some d → RD P (okOf ok0 w0 w σ.hs β) w E d ((ys.drop (i * P.cellsOf E)).take (P.cellsOf E))) (hlim : es.length + ds.length ≤ 137438953472) (K : Act → World → Prop) (Q : Exit → Act → World → Prop)
    (hK : ∀ a' w', Rel P ok0 w0 n (((σ.lay l .gone).lay l' (.row T5 (es ++ ds))).put d (.row l')) a' w' → K a' w') : o.wp P a w K Q := by
  refine append_gen ho hd hn hu5 r ex hl hf hk0 ey hyl hyone hyrd (fun bl xs ebl hown => append_key hu hz h0 hbd hyl hyone hyc hynone hlim hown) K Q hK
theorem op_append {d l l' : Nat} {E T5 : TypeId} {es ds : List Dt} {z : Dt} (ho : o.op = .call { callee := .builtin .append, args := #[x, y], argTypes := #[T, T] }) (hd : o.dst = some d) (hn : d < n) (hu : P.underlying T = some (.slice E)) (hu5 : P.underlying T5 = some (.slice E))
    (hz : Zero P E z) (h0 : P.cellsOf E ≠ 0) (hbd : (es.length + ds.length) * P.bytesOf E ≤ 140737488355328) (hx : Ev P σ x (.row l)) (hl : lk σ.hs l = .row T5 es) (hf : lk σ.hs l' = .free) (hk0 : σ.k0 ≤ l') (hy : SrcOK P σ y E ds) (hlim : es.length + ds.length ≤ 137438953472) :
    OpOK P n o σ (((σ.lay l .gone).lay l' (.row T5 (es ++ ds))).put d (.row l')) := by
  rintro ok0 w0 a w ⟨β, r⟩ K Q hK
  obtain ⟨A, c, ys, ey, hyl, hyone, hyc, hynone, hyrd⟩ := hy _ _ _ _ _ _ r
  exact append_core ho hd hn hu hu5 hz h0 hbd r (row_eval (hx _ _ _ _ _ _ r)) hl hf hk0 ey hyl hyone hyc hynone hyrd hlim K Q hK

/-- A new row. -/
theorem Rel.newRow {ok0 : OkX} {w0 w : World} {a : Act} {β : Nat → Option Value} (r : RelB P ok0 w0 n σ a w β) {l E : Nat} (hu : P.underlying T = some (.slice E)) (hf : lk σ.hs l = .free) (hk0 : σ.k0 ≤ l) {c : Array Value} {es : List Dt} {cap : Nat} (hs : c.size = cap * P.cellsOf E) (hle : es.length ≤ cap) (hm : cap ≤ maxLen)
    (hone : ∀ u ∈ c.toList, u.oneCell' = true)
    (hc : ∀ (i : Nat) (d : Dt), es[i]? = some d → RD P (okOf ok0 w0 w σ.hs β) w E d ((c.toList.drop (i * P.cellsOf E)).take (P.cellsOf E))) :
    RelB P ok0 w0 n (σ.lay l (.row T es)) a (w.alloc (.cells c E)) (upB β l (some (.slice (some ⟨w.heap.size, 0, none⟩) es.length cap))) := by
  have hfree := r.hs l
  rw [hf] at hfree
  refine r.upd l (.row T es) _ _ (.inr ⟨hfree, hk0⟩) rfl rfl rfl (by simp) (fun b hb _ => Below.heap_alloc w _ b hb) (fun z b _ hz hb => .inl (by cases hz; simp [Blk, blk] at hb; omega)) fun hx hk => ?_
  have hmul : es.length * P.cellsOf E ≤ cap * P.cellsOf E := Nat.mul_le_mul_right _ hle
  refine ⟨E, _, c.toList.take (es.length * P.cellsOf E), rfl, hu, ⟨by simp only [List.length_take, Array.length_toList]; omega, .inr ⟨w.heap.size, cap, c, rfl, Nat.zero_le _, cell_new_block w c E, hle, hm, hs, rfl⟩⟩, fun u hu => hone u (List.mem_of_mem_take hu), fun i d hd => ?_⟩
  have hi : i < es.length := (List.getElem?_eq_some_iff.1 hd).1
  have hmul2 : (i + 1) * P.cellsOf E ≤ es.length * P.cellsOf E := Nat.mul_le_mul_right _ hi
  rw [Nat.add_mul, Nat.one_mul] at hmul2
  have e : ((c.toList.take (es.length * P.cellsOf E)).drop (i * P.cellsOf E)).take (P.cellsOf E) = (c.toList.drop (i * P.cellsOf E)).take (P.cellsOf E) := by
    apply List.ext_getElem?
    intro k
    rw [seg_get, seg_get]
    split
    · rw [List.getElem?_take, if_pos (by omega)]
    · rfl
  rw [e]
  exact (hc i d hd).mono hk

theorem madeCells_seg {z : Array Value} {N i : Nat} (h : i * z.size + z.size ≤ N) : ((madeCells z N).toList.drop (i * z.size)).take z.size = z.toList := by
  apply List.ext_getElem?
  intro k
  rw [seg_get]
  split
  · have hk : k < z.size := by assumption
    have e : (i * z.size + k) % z.size = k := by rw [Nat.mul_comm, Nat.mul_add_mod, Nat.mod_eq_of_lt hk]
    have hlt : i * z.size + k < N := by omega
    simp [madeCells, hlt, e, hk]
  · rw [List.getElem?_eq_none (by simp; omega)]

theorem op_make {d l : Nat} {E TI TJ : TypeId} {k k' : IntKind} {len cap : Int} {z : Dt} (ho : o.op = .makeSlice T x y) (hd : o.dst = some d) (hn : d < n) (hu : P.underlying T = some (.slice E)) (hf : lk σ.hs l = .free) (hk0 : σ.k0 ≤ l)
    (hz : Zero P E z) (h0 : P.cellsOf E ≠ 0) (hby : P.bytesOf E * cap.toNat ≤ 140737488355328) (hi : P.underlying TI = some (.int k)) (hj : P.underlying TJ = some (.int k')) (hx : Ev P σ x (.dat TI (.int len))) (hy : Ev P σ y (.dat TJ (.int cap)))
    (hl0 : 0 ≤ len) (hlc : len ≤ cap) (hlim : cap ≤ 137438953472) : OpOK P n o σ ((σ.lay l (.row T (List.replicate len.toNat z))).put d (.row l)) := by
  rintro ok0 w0 a w ⟨β, r⟩ K Q hK
  obtain ⟨i, zv, hinf, hzv, hzs, hzrd⟩ := hz.ex
  obtain ⟨_, e1, _⟩ := RV.int hi (hx _ _ _ _ _ _ r)
  obtain ⟨_, e2, _⟩ := RV.int hj (hy _ _ _ _ _ _ r)
  simp only [Dt.toInt] at e1 e2
  have hsz : i.size = P.cellsOf E := by simp [Program.cellsOf, hinf]
  have hbz : i.bytes = P.bytesOf E := by simp [Program.bytesOf, hinf]
  have hb : (i.bytes : Int) * cap ≤ 281474976710656 := by
    rw [hbz]
    have h2 : ((P.bytesOf E * cap.toNat : Nat) : Int) ≤ 140737488355328 := by omega
    rw [Int.natCast_mul, Int.toNat_of_nonneg (by omega)] at h2
    omega
  have hrun := run_make (P := P) w T E i zv hu hinf hzv k k' len cap hl0 hlc hb (by omega)
  unfold Oper.wp execOp
  simp only [ho, e1, e2, Sem.run_bind, hrun, Result.andThen_ok, Sem.run_pure]
  refine hK _ _ ?_
  rw [hd]
  have hrow := Rel.newRow (l := l) (E := E) (es := List.replicate len.toNat z) (cap := cap.toNat) (c := madeCells zv.cells (cap.toNat * i.size)) r hu hf hk0 (by rw [size_madeCells, hsz]) (by simp; omega) (by unfold maxLen; omega)
    (fun u hu2 => by
      obtain ⟨j, hj2⟩ := List.getElem?_of_mem hu2
      have hone := (hzrd (fun _ => True) w).oneCell
      simp only [madeCells, Array.getElem?_toList, Array.getElem?_map, Option.map_eq_some_iff] at hj2
      obtain ⟨q, _, rfl⟩ := hj2
      have hlt : q % zv.cells.size < zv.cells.size := Nat.mod_lt _ (by omega)
      have : zv.cells[q % zv.cells.size]! = zv.cells[q % zv.cells.size] := by simp [hlt]
      rw [this]
      exact hone _ (by simp))
    (fun i' d' hd' => by
      have hi' : i' < len.toNat := by have := (List.getElem?_eq_some_iff.1 hd').1; simpa using this
      rw [List.getElem?_replicate, if_pos hi'] at hd'
      cases hd'
      have hmul : (i' + 1) * P.cellsOf E ≤ cap.toNat * P.cellsOf E := Nat.mul_le_mul_right _ (by omega)
      rw [Nat.add_mul, Nat.one_mul] at hmul
      have := madeCells_seg (z := zv.cells) (N := cap.toNat * i.size) (i := i') (by rw [hsz, hzs]; omega)
      rw [hzs] at this
      rw [this]
      exact hzrd _ _)
  have hlen : (List.replicate len.toNat z).length = len.toNat := by simp
  rw [hlen] at hrow
  exact Rel.put hrow hn (row_rv (upB_same _ _ _) rfl)

inductive EvL (P : Program) (σ : St) (E : TypeId) : List Operand → List Dt → Prop where
  | nil : EvL P σ E [] []
  | cons {x : Operand} {d : Dt} {xs : List Operand} {ds : List Dt} (h : Ev P σ x (.dat E d)) (r : EvL P σ E xs ds) : EvL P σ E (x :: xs) (d :: ds)
theorem EvL.len {E : TypeId} {xs : List Operand} {ds : List Dt} (h : EvL P σ E xs ds) : xs.length = ds.length := by
  induction h with
  | nil => rfl
  | cons _ _ ih => simp [ih]
theorem EvL.get {E : TypeId} {xs : List Operand} {ds : List Dt} (h : EvL P σ E xs ds) : ∀ (i : Nat) (d : Dt), ds[i]? = some d → ∃ x, xs[i]? = some x ∧ Ev P σ x (.dat E d) := by
  induction h with
  | nil => intro i d hd; simp at hd
  | @cons x d xs ds h _ ih =>
    intro i d' hd
    cases i with
    | zero => simp only [List.getElem?_cons_zero, Option.some.injEq] at hd; subst hd; exact ⟨x, rfl, h⟩
    | succ i => simp only [List.getElem?_cons_succ] at hd; obtain ⟨x', h1, h2⟩ := ih i d' hd; exact ⟨x', by simpa using h1, h2⟩
theorem EvL.get' {E : TypeId} {xs : List Operand} {ds : List Dt} (h : EvL P σ E xs ds) : ∀ x ∈ xs, ∃ d, Ev P σ x (.dat E d) := by
  induction h with
  | nil => intro x hx; simp at hx
  | @cons x d xs ds h _ ih =>
    intro x' hx
    rcases List.mem_cons.1 hx with rfl | hx
    · exact ⟨d, h⟩
    · exact ih x' hx

theorem op_buildSlice {d l len : Nat} {E : TypeId} {parts : Array (Nat × Operand)} {xs : List Operand} {ds : List Dt} {z : Dt} (ho : o.op = .buildSlice T len parts) (hd : o.dst = some d) (hn : d < n) (hu : P.underlying T = some (.slice E)) (hf : lk σ.hs l = .free) (hk0 : σ.k0 ≤ l)
    (hz : Zero P E z) (h0 : P.cellsOf E ≠ 0) (hp : parts.toList = (xs.zipIdx 0).map fun p => (p.2, p.1)) (hlen : len = xs.length) (hpos : xs ≠ []) (hsmall : len * P.cellsOf E ≤ 16777216) (hev : EvL P σ E xs ds)
    (hs : ∀ (d' : Dt) (ok : Nat → Prop) (w : World) (β : Nat → Option Value) (cs : List Value), RA P ok w β (.dat E d') cs → ((AV.dat E d').isAgg P = false → cs.length = 1) → cs.length = P.cellsOf E) :
    OpOK P n o σ ((σ.lay l (.row T ds)).put d (.row l)) := by
  rintro ok0 w0 a w ⟨β, r⟩ K Q hK
  obtain ⟨i, zv, hinf, hzv, hzs, hzrd⟩ := hz.ex
  have hsz : i.size = P.cellsOf E := by simp [Program.cellsOf, hinf]
  have hvc : ∀ (x' : Operand) (d' : Dt), Ev P σ x' (.dat E d') → (a.eval x').cells.size = P.cellsOf E ∧ RA P (okOf ok0 w0 w σ.hs β) w β (.dat E d') (a.eval x').cells.toList := by
    intro x' d' hx'
    have hv := RV.to1 (by simp) (by simp) (hx' _ _ _ _ _ _ r)
    refine ⟨?_, hv.cells⟩
    have := hs d' _ _ _ _ hv.cells (fun hi => by
      have hr := hv.2 hi
      have h1' := hr.oneCell (a.eval x') (by simp)
      generalize a.eval x' = z at h1'
      cases z <;> simp_all [Value.cells, Value.oneCell'])
    simpa using this
  have hlx : 0 < xs.length := List.length_pos_iff.2 hpos
  have hdx := hev.len
  obtain ⟨c, hfill, hcs, hck⟩ := Great.fill_dense (s := P.cellsOf E) (by omega) (xs.map a.eval) 0 ((Array.range (len * P.cellsOf E)).map (zv.cells[· % zv.cells.size]!)) (fun u hu2 => by
      obtain ⟨x', hx', rfl⟩ := List.mem_map.1 hu2
      obtain ⟨d', hd'⟩ := hev.get' x' hx'
      exact (hvc x' d' hd').1) (by simp [hlen])
  have hparts : (parts.map fun (p : Nat × Operand) => (p.1, a.eval p.2)).toList = ((xs.map a.eval).zipIdx 0).map fun x => (x.2, x.1) := by
    rw [Array.toList_map, hp, List.map_map, List.zipIdx_map, List.map_map]
    rfl
  have hrun := run_buildSlice (P := P) w T E len (parts.map fun (p : Nat × Operand) => (p.1, a.eval p.2)) c i zv hu hinf hzv (by rw [hsz]; omega) (by
      rw [hsz, hlen]
      have := Nat.mul_pos hlx (Nat.pos_of_ne_zero h0)
      omega) (by rw [hparts, hsz]; exact hfill)
  unfold Oper.wp execOp
  simp only [ho, Sem.run_bind]
  have hmap : (parts.map fun x => match x with | (i, x) => (i, a.eval x)) = parts.map fun (p : Nat × Operand) => (p.1, a.eval p.2) := by
    congr 1
  rw [hmap, hrun]
  simp only [Result.andThen_ok, Sem.run_pure]
  refine hK _ _ ?_
  rw [hd]
  have hcsz : c.size = len * P.cellsOf E := by rw [hcs]; simp
  have hseg : ∀ (j : Nat) (x' : Operand), xs[j]? = some x' → (a.eval x').cells.size = P.cellsOf E → (c.toList.drop (j * P.cellsOf E)).take (P.cellsOf E) = (a.eval x').cells.toList := by
    intro j x' hx' hsz'
    have hj : j < xs.length := (List.getElem?_eq_some_iff.1 hx').1
    have hmul : (j + 1) * P.cellsOf E ≤ xs.length * P.cellsOf E := Nat.mul_le_mul_right _ hj
    rw [Nat.add_mul, Nat.one_mul] at hmul
    apply List.ext_getElem?
    intro k
    rw [seg_get]
    split
    · have hk : k < P.cellsOf E := by assumption
      have h1 : (j * P.cellsOf E + k) / P.cellsOf E = j := by rw [Nat.mul_comm, Nat.mul_add_div (by omega), Nat.div_eq_of_lt hk, Nat.add_zero]
      have h2 : (j * P.cellsOf E + k) % P.cellsOf E = k := by rw [Nat.mul_comm, Nat.mul_add_mod, Nat.mod_eq_of_lt hk]
      rw [Array.getElem?_toList, hck, if_pos (by simp; omega)]
      simp [h1, h2, hx']
    · rw [List.getElem?_eq_none (by simp; omega)]
  have hrow := Rel.newRow (l := l) (E := E) (es := ds) (cap := len) (c := c) r hu hf hk0 hcsz (by omega) (by
      unfold maxLen
      have : len * 1 ≤ len * P.cellsOf E := Nat.mul_le_mul_left _ (by omega)
      omega)
    (fun u hu2 => by
      obtain ⟨j, hj⟩ := List.getElem?_of_mem hu2
      rw [Array.getElem?_toList, hck] at hj
      have hjlt : j < len * P.cellsOf E := by
        rcases Nat.lt_or_ge j (len * P.cellsOf E) with h | h
        · exact h
        · rw [if_neg (by simp [← hlen]; omega), Array.getElem?_eq_none (by simp; omega)] at hj
          cases hj
      rw [if_pos (by simp [← hlen]; exact hjlt)] at hj
      simp only [Option.bind_eq_some_iff, List.getElem?_map, Option.map_eq_some_iff] at hj
      obtain ⟨v1, ⟨x', hx', rfl⟩, hv1⟩ := hj
      obtain ⟨d', hd'⟩ := hev.get' x' (List.mem_of_getElem? hx')
      exact (hvc x' d' hd').2.oneCell u (by simpa using Array.mem_of_getElem? hv1))
    (fun j d' hd' => by
      obtain ⟨x', hx', hx2⟩ := hev.get j d' hd'
      obtain ⟨q1, q2⟩ := hvc x' d' hx2
      rw [hseg j x' hx' q1]
      cases q2 with
      | dat q2 => exact q2)
  rw [show ds.length = len by omega] at hrow
  exact Rel.put hrow hn (row_rv (upB_same _ _ _) rfl)

theorem run_buildArr (w : World) {len : Nat} {E : TypeId} {zi ie : TypeInfo} {za : Value} {parts : Array (Nat × Value)} {c : Array Value} (hu : P.underlying T = some (.array len E)) (hzi : P.info? T = some zi) (hza : zi.zero = some za) (hie : P.info? E = some ie)
    (hf : Instr.fill (fun i => some (i * ie.size, ie.size)) za.cells parts.toList = some c) : (Instr.build T parts).run P w = .ok (.agg c) w := by
  simp [Instr.build, zeroValue, typeInfo, hzi, hza, run_underlying hu, sizeOf, hie, hf]
/-- An array's literal. -/
theorem op_buildArr {d len : Nat} {E : TypeId} {parts : Array (Nat × Operand)} {xs : List Operand} {ds : List Dt} {zi : TypeInfo} {za : Value} (ho : o.op = .build T parts) (hd : o.dst = some d) (hn : d < n) (hu : P.underlying T = some (.array len E))
    (hzi : P.info? T = some zi) (hza : zi.zero = some za) (hzs : za.cells.size = len * P.cellsOf E) (hT : P.cellsOf T = len * P.cellsOf E) (h0 : P.cellsOf E ≠ 0) (hp : parts.toList = (xs.zipIdx 0).map fun p => (p.2, p.1)) (hlen : len = xs.length) (hev : EvL P σ E xs ds)
    (hs : ∀ (d' : Dt) (ok : Nat → Prop) (w : World) (β : Nat → Option Value) (cs : List Value), RA P ok w β (.dat E d') cs → ((AV.dat E d').isAgg P = false → cs.length = 1) → cs.length = P.cellsOf E) :
    OpOK P n o σ (σ.put d (.dat T (.lst ds))) :=
  opOK_val hd hn fun ok0 w0 a w β r => by
  obtain ⟨ie, hie⟩ : ∃ ie, P.info? E = some ie := by
    cases hi : P.info? E with
    | none => exact absurd (by simp [Program.cellsOf, hi]) h0
    | some ie => exact ⟨ie, rfl⟩
  have hsz : ie.size = P.cellsOf E := by simp [Program.cellsOf, hie]
  have hvc : ∀ (x' : Operand) (d' : Dt), Ev P σ x' (.dat E d') → (a.eval x').cells.size = P.cellsOf E ∧ RA P (okOf ok0 w0 w σ.hs β) w β (.dat E d') (a.eval x').cells.toList := by
    intro x' d' hx'
    have hv := RV.to1 (by simp) (by simp) (hx' _ _ _ _ _ _ r)
    refine ⟨?_, hv.cells⟩
    have := hs d' _ _ _ _ hv.cells (fun hi => by
      have hr := hv.2 hi
      have h1' := hr.oneCell (a.eval x') (by simp)
      generalize a.eval x' = z at h1'
      cases z <;> simp_all [Value.cells, Value.oneCell'])
    simpa using this
  have hdx := hev.len
  obtain ⟨c, hfill, hcs, hck⟩ := Great.fill_dense (s := P.cellsOf E) (by omega) (xs.map a.eval) 0 za.cells (fun u hu2 => by
      obtain ⟨x', hx', rfl⟩ := List.mem_map.1 hu2
      obtain ⟨d', hd'⟩ := hev.get' x' hx'
      exact (hvc x' d' hd').1) (by simp [hzs, hlen])
  have hparts : (parts.map fun (p : Nat × Operand) => (p.1, a.eval p.2)).toList = ((xs.map a.eval).zipIdx 0).map fun x => (x.2, x.1) := by
    rw [Array.toList_map, hp, List.map_map, List.zipIdx_map, List.map_map]
    rfl
  have hrun := run_buildArr (P := P) w (parts := parts.map fun (p : Nat × Operand) => (p.1, a.eval p.2)) (c := c) hu hzi hza hie (by rw [hparts, hsz]; exact hfill)
  have hmap : (parts.map fun x => match x with | (i, x) => (i, a.eval x)) = parts.map fun (p : Nat × Operand) => (p.1, a.eval p.2) := by
    congr 1
  have hcsz : c.size = len * P.cellsOf E := by rw [hcs]; exact hzs
  have hseg : ∀ (j : Nat) (x' : Operand), xs[j]? = some x' → (a.eval x').cells.size = P.cellsOf E → (c.toList.drop (j * P.cellsOf E)).take (P.cellsOf E) = (a.eval x').cells.toList := by
    intro j x' hx' hsz'
    have hj : j < xs.length := (List.getElem?_eq_some_iff.1 hx').1
    have hmul : (j + 1) * P.cellsOf E ≤ xs.length * P.cellsOf E := Nat.mul_le_mul_right _ hj
    rw [Nat.add_mul, Nat.one_mul] at hmul
    apply List.ext_getElem?
    intro k
    rw [seg_get]
    split
    · have hk : k < P.cellsOf E := by assumption
      have h1 : (j * P.cellsOf E + k) / P.cellsOf E = j := by rw [Nat.mul_comm, Nat.mul_add_div (by omega), Nat.div_eq_of_lt hk, Nat.add_zero]
      have h2 : (j * P.cellsOf E + k) % P.cellsOf E = k := by rw [Nat.mul_comm, Nat.mul_add_mod, Nat.mod_eq_of_lt hk]
      rw [Array.getElem?_toList, hck, if_pos (by simp; omega)]
      simp [h1, h2, hx']
    · rw [List.getElem?_eq_none (by simp; omega)]
  refine ⟨.agg c, by simp only [execOp, ho, Sem.run_bind, hrun, Result.andThen_ok, Sem.run_pure], (RV.dat_agg (aggT_array hu)).2 ⟨c.toList, rfl, ?_⟩⟩
  refine .arr hu (by omega) (by rw [Array.length_toList, hcsz, hT]) (fun u hu2 => ?_) (fun j d' hd' => ?_)
  · obtain ⟨j, hj⟩ := List.getElem?_of_mem hu2
    rw [Array.getElem?_toList, hck] at hj
    have hjlt : j < len * P.cellsOf E := by
      rcases Nat.lt_or_ge j (len * P.cellsOf E) with h | h
      · exact h
      · rw [if_neg (by simp [← hlen]; omega), Array.getElem?_eq_none (by omega)] at hj
        cases hj
    rw [if_pos (by simp [← hlen]; exact hjlt)] at hj
    simp only [Option.bind_eq_some_iff, List.getElem?_map, Option.map_eq_some_iff] at hj
    obtain ⟨v1, ⟨x', hx', rfl⟩, hv1⟩ := hj
    obtain ⟨d', hd'⟩ := hev.get' x' (List.mem_of_getElem? hx')
    exact (hvc x' d' hd').2.oneCell u (by simpa using Array.mem_of_getElem? hv1)
  · obtain ⟨x', hx', hx2⟩ := hev.get j d' hd'
    obtain ⟨q1, q2⟩ := hvc x' d' hx2
    rw [hseg j x' hx' q1]
    cases q2 with
    | dat q2 => exact q2
end
end Go.Am
