/- The abstract machine, part 4: rows (slices that the call owns): read, written, turned into plain data. -/
import Derived.Test.YtacpcknpliomoaaGreatAm3
import Derived.Maps.AppendAt
set_option linter.unusedVariables false
set_option linter.unusedSimpArgs false
namespace Go.Am
open Go.RowKit

section
variable {P : Program} {n : Nat} {o : Oper} {σ σ' : St} {x y : Operand} {v : AV} {T : TypeId}

/-- A row as plain data. -/
theorem row_rd {ok : Nat → Prop} {w : World} {z : Value} {E : TypeId} {es : List Dt} {xs : List Value} (hu : P.underlying T = some (.slice E)) (hown : w.ownsRow 0 E (P.cellsOf E) z es.length xs) (h1 : ∀ c ∈ xs, c.oneCell' = true)
    (hrd : ∀ (i : Nat) (d : Dt), es[i]? = some d → RD P ok w E d ((xs.drop (i * P.cellsOf E)).take (P.cellsOf E))) {ok' : Nat → Prop} (hok : ∀ b, ok b → ok' b) (hb : ∀ b, blk z = some b → ok' b) : RD P ok' w T (.lst es) [z] := by
  have hlen := hown.1
  rcases hown.2 with ⟨h2, h3⟩ | ⟨g, cap, cur, h2, hg, hh, hnc, hcm, hsz, htk⟩
  · have : es = [] := List.eq_nil_of_length_eq_zero h3
    subst this
    rw [h2]
    exact RD.nil hu
  · rw [h2]
    refine .lst ⟨g, 0, none⟩ (fun i => (xs.drop (i * P.cellsOf E)).take (P.cellsOf E)) hu rfl hnc hcm (fun _ => ⟨rfl, hb g (by rw [h2]; rfl)⟩) (fun i hi => ⟨?_, ?_, ?_⟩) (fun i d hd => (hrd i d hd).mono fun b hb' => ⟨hok b hb', rfl⟩)
    · have : (i + 1) * P.cellsOf E ≤ es.length * P.cellsOf E := Nat.mul_le_mul_right _ hi
      rw [Nat.add_mul, Nat.one_mul] at this
      simp only [List.length_take, List.length_drop]; omega
    · intro c hc
      exact h1 c (List.mem_of_mem_drop (List.mem_of_mem_take hc))
    · intro j u hj
      rw [seg_get] at hj
      split at hj
      · rw [add_mk, Nat.zero_add, cell_of_row w g _ cur E (0, 0) hh]
        rw [← htk, List.getElem?_take] at hj
        split at hj
        · simpa using hj
        · cases hj
      · cases hj

/-- The row 'l' is from now on plain data. -/
theorem RelB.frz {ok0 : OkX} {w0 w : World} {a : Act} {β : Nat → Option Value} (r : RelB P ok0 w0 n σ a w β) {l : Nat} {es : List Dt} (hl : lk σ.hs l = .row T es) : RelB P ok0 w0 n (σ.lay l (.frz T es)) a w β := by
  have hob := r.hs l
  rw [hl] at hob
  obtain ⟨E, z, xs, hz, hu, hown, h1, hrd⟩ := hob
  have hown2 : ∀ k b, owns (setO σ.hs l (.frz T es)) β k b → k ≠ l ∧ owns σ.hs β k b := by
    rintro k b ⟨h1, z, h2, h3⟩
    by_cases hkl : k = l
    · subst hkl; rw [lk_same] at h1; cases h1
    · rw [lk_other _ _ _ _ hkl] at h1; exact ⟨hkl, h1, z, h2, h3⟩
  have hk : ∀ b, okOf ok0 w0 w σ.hs β b → okOf ok0 w0 w (setO σ.hs l (.frz T es)) β b ∧ w.heap[b]? = w.heap[b]? := fun b hb => ⟨⟨hb.1, hb.2.1, fun k hk => hb.2.2 k (hown2 k b hk).2⟩, rfl⟩
  have hold : ∀ b, blk z = some b → owns σ.hs β l b := fun b hb => ⟨by rw [hl]; rfl, z, hz, .inl hb⟩
  refine ⟨r.size, r.defers, r.below, fun k => (r.ts k).mono hk (Ext.refl _), fun k => ?_, fun k k' b h1 h2 => r.sep k k' b (hown2 _ _ h1).2 (hown2 _ _ h2).2, fun k b h1 => r.own k b (hown2 _ _ h1).2, r.ext, r.kk, r.tab.mono hk⟩
  show ObOK P _ w β (lk (setO σ.hs l (.frz T es)) k) _
  by_cases hkl : k = l
  · subst hkl
    rw [lk_same, hz]
    refine ⟨z, rfl, aggT_of_not hu rfl, row_rd hu hown h1 hrd (fun b hb => (hk b hb).1) fun b hb => ?_⟩
    refine ⟨r.blk_lt (hold b hb), fun hlt => ?_, fun k' hk' => ?_⟩
    · rcases r.own _ b (hold b hb) with h2 | h2
      · omega
      · exact .inr h2
    · obtain ⟨h2, h3⟩ := hown2 k' b hk'
      exact h2 (r.sep _ _ _ h3 (hold b hb))
  · rw [lk_other _ _ _ _ hkl]
    exact (r.hs k).mono hk (fun _ _ _ _ _ => rfl) (Ext.refl _)

/-- An element of a list. -/
theorem run_indexAt (w : World) {E : TypeId} (hu : P.underlying T = some (.slice E)) (h0 : P.cellsOf E ≠ 0) {ad : Addr} {len cap : Nat} {k : IntKind} {i : Int} (h1 : 0 ≤ i) (h2 : i < len) :
    (Instr.indexAt T (.slice (some ad) len cap) (.int k i)).run P w = .ok (.pointer (some (ad.add (i.toNat * P.cellsOf E)))) w := by
  cases hi : P.info? E with
  | none => simp [Program.cellsOf, hi] at h0
  | some inf => simp [Instr.indexAt, asIntOf, run_underlying hu, h1, h2, sizeOf, typeInfo, hi, Program.cellsOf]

theorem op_index_lst {d : Nat} {T3 E TI : TypeId} {es : List Dt} {i : Int} {k : IntKind} {e : Dt} (ho : o.op = .indexAddr T x y) (hd : o.dst = some d) (hn : d < n) (hu : P.underlying T = some (.slice E)) (hu3 : P.underlying T3 = some (.slice E)) (h0 : P.cellsOf E ≠ 0)
    (hi : P.underlying TI = some (.int k)) (hx : Ev P σ x (.dat T3 (.lst es))) (hy : Ev P σ y (.dat TI (.int i))) (hi0 : 0 ≤ i) (he : es[i.toNat]? = some e) : OpOK P n o σ (σ.put d (.rptr E e)) :=
  opOK_val hd hn fun ok0 w0 a w β r => by
    obtain ⟨_, e2, _⟩ := RV.int hi (hy _ _ _ _ _ _ r)
    simp only [Dt.toInt] at e2
    have hrd := (RV.dat_one (aggT_of_not hu3 rfl)).1 (hx _ _ _ _ _ _ r)
    obtain ⟨_, ao, cap, ad, g, hcs, hlc, hm, ha, hg, hr⟩ := hrd.lst_inv hu3
    simp only [Dt.toLst] at hcs hlc ha hg hr
    have hlt : i.toNat < es.length := (List.getElem?_eq_some_iff.1 he).1
    obtain ⟨rfl, hok⟩ := ha (by omega)
    obtain ⟨hgl, _, hgc⟩ := hg i.toNat hlt
    have ex : a.eval x = .slice (some ad) es.length cap := by simpa using hcs
    refine ⟨_, ?_, rptr_rv (ad := ad.add (i.toNat * P.cellsOf E)) (by rw [block_add]; exact hok) hgl (fun j u hj => by rw [add_add]; exact hgc j u hj) (hr _ _ he)⟩
    simp only [execOp, ho, ex, e2, Sem.run_bind, run_indexAt w hu h0 hi0 (show i < (es.length : Int) by omega), Result.andThen_ok, Sem.run_pure]

theorem op_index_row {d l : Nat} {E TI T5 : TypeId} {es : List Dt} {i : Int} {k : IntKind} (ho : o.op = .indexAddr T x y) (hd : o.dst = some d) (hn : d < n) (hu : P.underlying T = some (.slice E)) (h0 : P.cellsOf E ≠ 0)
    (hi : P.underlying TI = some (.int k)) (hx : Ev P σ x (.row l)) (hy : Ev P σ y (.dat TI (.int i))) (hl : lk σ.hs l = .row T5 es) (hu5 : P.underlying T5 = some (.slice E)) (hi0 : 0 ≤ i) (he : i < es.length) : OpOK P n o σ (σ.put d (.eptr l i.toNat (P.cellsOf E) [] 0)) :=
  opOK_val hd hn fun ok0 w0 a w β r => by
    obtain ⟨_, e2, _⟩ := RV.int hi (hy _ _ _ _ _ _ r)
    simp only [Dt.toInt] at e2
    have ex := row_eval (hx _ _ _ _ _ _ r)
    have hob := r.hs l
    rw [hl, ex] at hob
    obtain ⟨E', xs, hu', hown, _⟩ := ob_row hob
    obtain rfl : E = E' := by rw [hu5] at hu'; cases hu'; rfl
    rcases hown.2 with ⟨h2, h3⟩ | ⟨g, cap, cur, h2, _⟩
    · omega
    · refine ⟨_, ?_, eptr_rv (by rw [ex, h2])⟩
      simp only [execOp, ho, h2, e2, Sem.run_bind, run_indexAt w hu h0 hi0 he, Result.andThen_ok, Sem.run_pure, add_mk, Nat.zero_add, Nat.add_zero]

/-- An element of an array behind a pointer. -/
theorem op_index_arr {d l len : Nat} {E TI : TypeId} {dd : Dt} {i : Int} {k : IntKind} (ho : o.op = .indexAddr T x y) (hd : o.dst = some d) (hn : d < n) (hu : P.underlying T = some (.array len E)) (h0 : P.cellsOf E ≠ 0)
    (hi : P.underlying TI = some (.int k)) (hx : Ev P σ x (.ptr l [] 0)) (hy : Ev P σ y (.dat TI (.int i))) (hl : lk σ.hs l = .box T (.dat T dd)) (hi0 : 0 ≤ i) (he : i < dd.toLst.length) : OpOK P n o σ (σ.put d (.eptr l i.toNat (P.cellsOf E) [] 0)) :=
  opOK_val hd hn fun ok0 w0 a w β r => by
    obtain ⟨_, e2, _⟩ := RV.int hi (hy _ _ _ _ _ _ r)
    simp only [Dt.toInt] at e2
    have h := (hx _ _ _ _ _ _ r).2 rfl
    generalize hz : a.eval x = z at h
    cases h with
    | @ptr _ b _ _ hb =>
      have hob := r.hs l
      rw [hl, hb] at hob
      obtain ⟨b', cs, e, hblk, hsz, hra⟩ := hob
      cases hra with
      | dat hra =>
        have hlen := (hra.arr_inv hu).2.1
        have hii : i < len := by omega
        refine ⟨_, ?_, eptrB_rv hb⟩
        cases hin : P.info? E with
        | none => simp [Program.cellsOf, hin] at h0
        | some inf =>
          unfold execOp
          simp only [ho, hz, e2, Sem.run_bind]
          simp [Instr.indexAt, asIntOf, run_underlying hu, Instr.sureAddr, hi0, hii, sizeOf, typeInfo, hin, Program.cellsOf, add_mk]
/-- A pointer to an array's element, as a pointer into its block. -/
theorem Ev.arr {l i sz off : Nat} {path p' : List Nat} {S : TypeId} {c : AV} (hx : Ev P σ x (.eptr l i sz path off)) (hl : lk σ.hs l = .box S c) : Ev P σ x (.ptr l p' (i * sz + off)) := by
  intro ok0 w0 m a w β r
  have h := (hx _ _ _ _ _ _ r).2 rfl
  generalize hz : a.eval x = z at h
  refine ⟨fun hi => by simp [AV.isAgg] at hi, fun _ => ?_⟩
  cases h with
  | @eptr _ _ _ b m cap _ _ hb =>
    have hob := r.hs l
    rw [hl, hb] at hob
    obtain ⟨_, _, e, _⟩ := hob
    cases e
  | @eptrB _ _ _ b _ _ hb => exact .ptr hb

theorem op_load_eptr {d l i off : Nat} {path : List Nat} {E T5 : TypeId} {es : List Dt} {e : Dt} {D : TypeDesc} (ho : o.op = .load T x) (hd : o.dst = some d) (hn : d < n) (hu : P.underlying T = some D) (h1 : aggT P T = false → P.cellsOf T = 1)
    (hx : Ev P σ x (.eptr l i (P.cellsOf E) path off)) (hl : lk σ.hs l = .row T5 es) (hu5 : P.underlying T5 = some (.slice E)) (he : es[i]? = some e) (hg : GetAt P E (.dat E e) path off T v) (hi : v.isAgg P = aggT P T) (ht : ∀ vs, v ≠ .tup vs) : OpOK P n o σ (σ.put d v) :=
  opOK_val hd hn fun ok0 w0 a w β r => by
    have h := (hx _ _ _ _ _ _ r).2 rfl
    generalize hz : a.eval x = z at h
    cases h with
    | @eptrB _ _ _ _ _ _ hb => exact (ObOK.np (r.hs l) (.inl ⟨_, _, hl⟩) hb).elim
    | @eptr _ _ _ b m cap _ _ hb =>
      have hob := r.hs l
      rw [hl, hb] at hob
      obtain ⟨E', xs, hu', hown, hone, hrd⟩ := ob_row hob
      obtain rfl : E = E' := by rw [hu5] at hu'; cases hu'; rfl
      have hlen := hown.1
      rcases hown.2 with ⟨h2, _⟩ | ⟨g, cap', cur, h2, hg2, hh, hnc, hcm, hsz, htk⟩
      · cases h2
      · cases h2
        have hlt : i < es.length := (List.getElem?_eq_some_iff.1 he).1
        have hmul : (i + 1) * P.cellsOf E ≤ es.length * P.cellsOf E := Nat.mul_le_mul_right _ hlt
        rw [Nat.add_mul, Nat.one_mul] at hmul
        obtain ⟨q1, q2⟩ := hg.sound (.dat (hrd i e he)) (by simp only [List.length_take, List.length_drop]; omega)
        rw [seg_seg _ _ _ _ _ q1] at q2
        obtain ⟨z, hrun, hrv⟩ := load_rv (β := β) (v := v) (ad := ⟨b, i * P.cellsOf E + off, none⟩) hu (by simp only [List.length_take, List.length_drop]; omega) (fun j u hj => by
          rw [seg_get] at hj
          split at hj
          · rw [add_mk, cell_of_row w b _ cur E (0, 0) hh]
            rw [← htk, List.getElem?_take] at hj
            split at hj
            · simpa using hj
            · cases hj
          · cases hj) h1 hi q2 ht
        exact ⟨z, by simp only [execOp, ho, hz, Sem.run_bind, hrun, Result.andThen_ok, Sem.run_pure], hrv⟩

theorem op_store_eptr {l i off : Nat} {path : List Nat} {E T5 : TypeId} {es : List Dt} {e e' : Dt} {c' : AV} (ho : o.op = .store T x y) (hd : o.dst = none) (h0 : P.cellsOf T ≠ 0)
    (hx : Ev P σ x (.eptr l i (P.cellsOf E) path off)) (hy : Ev P σ y v) (hv0 : v ≠ .dead) (hv1 : ∀ vs, v ≠ .tup vs)
    (hs : ∀ (ok : Nat → Prop) (w : World) (β : Nat → Option Value) (cs : List Value), RA P ok w β v cs → (v.isAgg P = false → cs.length = 1) → cs.length = P.cellsOf T)
    (hl : lk σ.hs l = .row T5 es) (hu5 : P.underlying T5 = some (.slice E)) (he : es[i]? = some e) (hg : SetAt P v T E (.dat E e) path off c')
    (hpk : ∀ (ok0 : OkX) (w0 : World) (a : Act) (w : World) (β : Nat → Option Value), RelB P ok0 w0 n σ a w β → ∀ cs, RA P (okOf ok0 w0 w σ.hs β) w β c' cs → RD P (okOf ok0 w0 w σ.hs β) w E e' cs) : OpOK P n o σ (σ.lay l (.row T5 (es.set i e'))) := by
  rintro ok0 w0 a w ⟨β, r⟩ K Q hK
  have h := (hx _ _ _ _ _ _ r).2 rfl
  generalize hz : a.eval x = z at h
  cases h with
  | @eptrB _ _ _ _ _ _ hb => exact (ObOK.np (r.hs l) (.inl ⟨_, _, hl⟩) hb).elim
  | @eptr _ _ _ b m cap _ _ hb =>
    have hv := RV.to1 hv0 hv1 (hy _ _ _ _ _ _ r)
    have hc := hv.cells
    have hsz : (a.eval y).cells.size = P.cellsOf T := by
      have := hs _ _ _ _ hc (fun hi => by
        have hr := hv.2 hi
        have h1' := hr.oneCell (a.eval y) (by simp)
        generalize a.eval y = z at h1'
        cases z <;> simp_all [Value.cells, Value.oneCell'])
      simpa using this
    have hob := r.hs l
    rw [hl, hb] at hob
    obtain ⟨E', xs, hu', hown, hone, hrd⟩ := ob_row hob
    obtain rfl : E = E' := by rw [hu5] at hu'; cases hu'; rfl
    have hlen := hown.1
    rcases hown.2 with ⟨h2, _⟩ | ⟨g, cap', cur, h2, hg2, hh, hnc, hcm, hcsz, htk⟩
    · cases h2
    · obtain ⟨rfl, rfl, rfl⟩ : b = g ∧ m = es.length ∧ cap = cap' := by cases h2; exact ⟨rfl, rfl, rfl⟩
      have how : owns σ.hs β l b := ⟨by rw [hl]; rfl, _, hb, .inl rfl⟩
      have hilt : i < es.length := (List.getElem?_eq_some_iff.1 he).1
      have hmul : (i + 1) * P.cellsOf E ≤ es.length * P.cellsOf E := Nat.mul_le_mul_right _ hilt
      have hmul2 : es.length * P.cellsOf E ≤ cap * P.cellsOf E := Nat.mul_le_mul_right _ hnc
      rw [Nat.add_mul, Nat.one_mul] at hmul
      have hseglen : ((xs.drop (i * P.cellsOf E)).take (P.cellsOf E)).length = P.cellsOf E := by simp only [List.length_take, List.length_drop]; omega
      obtain ⟨hq, hra⟩ := hg.sound hc (by simpa using hsz) (.dat (hrd i e he)) hseglen
      have hrd' := hpk _ _ _ _ _ r _ hra
      have hrun := run_storeAt_block (P := P) (T := T) (off := i * P.cellsOf E + off) w hh hsz h0 (by omega) (fun u hu => hc.oneCell u hu)
      unfold Oper.wp execOp
      simp only [ho, hz, Sem.run_bind, hrun, Result.andThen_ok, Sem.run_pure]
      refine hK _ _ ?_
      rw [hd]
      have hfit : i * P.cellsOf E + off + (a.eval y).cells.toList.length ≤ cur.toList.length := by simp; omega
      have hslen := splice_len hfit
      refine ⟨_, r.upd l (.row T5 (es.set i e')) (β l) _ (.inl rfl) rfl rfl rfl (by simp) (fun b2 hb2 hne => setRow_other w _ _ _ fun e => hne (by rw [e]; exact how)) (fun z2 b2 _ hz2 hb2 => .inr ⟨by rw [hl]; rfl, z2, hz2, hb2⟩) fun hx hk => ?_⟩
      have hfx : i * P.cellsOf E + off + (a.eval y).cells.toList.length ≤ xs.length := by simp; omega
      refine ⟨E, _, splice xs (i * P.cellsOf E + off) (a.eval y).cells.toList, hb, hu5, ⟨?_, .inr ⟨b, cap, (splice cur.toList (i * P.cellsOf E + off) (a.eval y).cells.toList).toArray, ?_, hg2, setRow_heap w b cur _ E _ hh, by simpa using hnc, hcm, ?_, ?_⟩⟩, ?_, ?_⟩
      · rw [splice_len hfx]; simpa using hlen
      · simp
      · rw [List.size_toArray, hslen]; simpa using hcsz
      · apply List.ext_getElem?
        intro j
        simp only [List.length_set]
        rw [List.getElem?_take, splice_get hfx]
        split
        · rw [splice_get hfit]
          split
          · rfl
          · rw [← htk, List.getElem?_take, if_pos (by assumption)]
        · rw [if_neg (by simp; omega), List.getElem?_eq_none (by omega)]
      · intro u hu2
        obtain ⟨j, hj⟩ := List.getElem?_of_mem hu2
        rw [splice_get hfx] at hj
        split at hj
        · exact hc.oneCell u (List.mem_of_getElem? hj)
        · exact hone u (List.mem_of_getElem? hj)
      · intro j d' hj
        rw [List.getElem?_set] at hj
        by_cases hij : i = j
        · subst hij
          simp only [if_true, hilt, Option.some.injEq] at hj
          subst hj
          rw [splice_in (by simp; omega) (by omega)]
          exact hrd'.mono hk
        · rw [if_neg hij] at hj
          have hjlt : j < es.length := (List.getElem?_eq_some_iff.1 hj).1
          have hfar : j * P.cellsOf E + P.cellsOf E ≤ i * P.cellsOf E + off ∨ i * P.cellsOf E + off + (a.eval y).cells.toList.length ≤ j * P.cellsOf E := by
            rcases Nat.lt_or_gt_of_ne hij with h5 | h5
            · right
              have : (i + 1) * P.cellsOf E ≤ j * P.cellsOf E := Nat.mul_le_mul_right _ h5
              rw [Nat.add_mul, Nat.one_mul] at this
              simp; omega
            · left
              have : (j + 1) * P.cellsOf E ≤ i * P.cellsOf E := Nat.mul_le_mul_right _ h5
              rw [Nat.add_mul, Nat.one_mul] at this
              omega
          rw [splice_far hfx hfar]
          exact (hrd j d' hj).mono hk
end
end Go.Am
