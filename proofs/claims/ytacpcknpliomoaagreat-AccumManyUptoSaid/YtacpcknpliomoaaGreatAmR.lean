/- The abstract machine, part R: rows whose elements hold rows. -/
import Derived.Test.YtacpcknpliomoaaGreatAm9
set_option linter.unusedVariables false
set_option linter.unusedSimpArgs false
namespace Go.Am
open Go.RowKit

section
variable {P : Program} {n : Nat} {o : Oper} {σ σ' : St} {x y : Operand} {v : AV} {T : TypeId}

/-- A row's elements, as values. -/
def RowIs (P : Program) (E : TypeId) (ob : Ob) (vs : List AV) : Prop := (∃ T es, ob = .row T es ∧ P.underlying T = some (.slice E) ∧ vs = es.map (.dat E)) ∨ ∃ T, ob = .rowA T vs ∧ P.underlying T = some (.slice E)
theorem RowIs.own {E : TypeId} {ob : Ob} {vs : List AV} (h : RowIs P E ob vs) : ob.isOwn = true ∧ ob ≠ .free := by
  rcases h with ⟨T, es, rfl, _⟩ | ⟨T, rfl, _⟩ <;> exact ⟨rfl, by simp⟩
theorem RowIs.ob {ok : Nat → Prop} {w : World} {β : Nat → Option Value} {E : TypeId} {ob : Ob} {vs : List AV} {z : Value} (h : RowIs P E ob vs) (hb : ObOK P ok w β ob (some z)) : ∃ (xs : List Value), w.ownsRow 0 E (P.cellsOf E) z vs.length xs ∧ (∀ c ∈ xs, c.oneCell' = true) ∧
      ∀ (i : Nat) (u : AV), vs[i]? = some u → RA P ok w β u ((xs.drop (i * P.cellsOf E)).take (P.cellsOf E)) := by
  rcases h with ⟨T, es, rfl, hu, rfl⟩ | ⟨T, rfl, hu⟩
  · obtain ⟨E', z', xs, e, hu', hown, hone, hr⟩ := hb
    cases e
    obtain rfl : E = E' := by rw [hu] at hu'; cases hu'; rfl
    refine ⟨xs, by simpa using hown, hone, fun i u hu2 => ?_⟩
    rw [List.getElem?_map] at hu2
    obtain ⟨d, hd, rfl⟩ := Option.map_eq_some_iff.1 hu2
    exact .dat (hr i d hd)
  · obtain ⟨E', z', xs, e, hu', hown, hone, hr⟩ := hb
    cases e
    obtain rfl : E = E' := by rw [hu] at hu'; cases hu'; rfl
    exact ⟨xs, hown, hone, hr⟩
theorem op_len_rowA {d l : Nat} {TI T4 E' T3 E : TypeId} {vs : List AV} (ho : o.op = .call { callee := .builtin .len, args := #[x], argTypes := #[T4] }) (hd : o.dst = some d) (hn : d < n)
    (hi : P.underlying TI = some (.int .i64)) (hu4 : P.underlying T4 = some (.slice E')) (hx : Ev P σ x (.row l)) (hl : lk σ.hs l = .rowA T3 vs) : OpOK P n o σ (σ.put d (.dat TI (.int (vs.length : Int)))) :=
  opOK_val hd hn fun ok0 w0 a w β r => by
    have e1 := row_eval (hx _ _ _ _ _ _ r)
    have hob := r.hs l
    rw [hl, e1] at hob
    obtain ⟨E2, z, xs, ez, _, hown, _⟩ := hob
    cases ez
    have hz : ∃ a0 cap, a.eval x = .slice a0 vs.length cap ∧ vs.length ≤ maxLen := by
      rcases hown.2 with ⟨h1, h2⟩ | ⟨g, cap, cur, h1, _, _, h3, h4, _⟩
      · exact ⟨none, 0, by rw [h1, h2], by rw [h2]; exact Nat.zero_le _⟩
      · exact ⟨_, cap, h1, by omega⟩
    obtain ⟨a0, cap, e2, b⟩ := hz
    exact ⟨.int .i64 (vs.length : Int), by simp [execOp, ho, e2, resolve, invoke, builtin, Builtin.len_, run_underlying hu4, goInt], RV.mk_int hi (i64_len b).1 (i64_len b).2⟩
theorem op_index_rowA {d l : Nat} {E TI T5 : TypeId} {vs : List AV} {i : Int} {k : IntKind} (ho : o.op = .indexAddr T x y) (hd : o.dst = some d) (hn : d < n) (hu : P.underlying T = some (.slice E)) (h0 : P.cellsOf E ≠ 0)
    (hi : P.underlying TI = some (.int k)) (hx : Ev P σ x (.row l)) (hy : Ev P σ y (.dat TI (.int i))) (hl : lk σ.hs l = .rowA T5 vs) (hi0 : 0 ≤ i) (he : i < vs.length) : OpOK P n o σ (σ.put d (.eptr l i.toNat (P.cellsOf E) [] 0)) :=
  opOK_val hd hn fun ok0 w0 a w β r => by
    obtain ⟨_, e2, _⟩ := RV.int hi (hy _ _ _ _ _ _ r)
    simp only [Dt.toInt] at e2
    have ex := row_eval (hx _ _ _ _ _ _ r)
    have hob := r.hs l
    rw [hl, ex] at hob
    obtain ⟨E', z, xs, ez, _, hown, _⟩ := hob
    cases ez
    rcases hown.2 with ⟨h2, h3⟩ | ⟨g, cap, cur, h2, _⟩
    · omega
    · refine ⟨_, ?_, eptr_rv (by rw [ex, h2])⟩
      simp only [execOp, ho, h2, e2, Sem.run_bind, run_indexAt w hu h0 hi0 he, Result.andThen_ok, Sem.run_pure, add_mk, Nat.zero_add, Nat.add_zero]
theorem op_load_eptrA {d l i off : Nat} {path : List Nat} {E T5 : TypeId} {vs : List AV} {e : AV} {D : TypeDesc} (ho : o.op = .load T x) (hd : o.dst = some d) (hn : d < n) (hu : P.underlying T = some D) (h1 : aggT P T = false → P.cellsOf T = 1)
    (hx : Ev P σ x (.eptr l i (P.cellsOf E) path off)) (hl : lk σ.hs l = .rowA T5 vs) (hu5 : P.underlying T5 = some (.slice E)) (he : vs[i]? = some e) (hg : GetAt P E e path off T v) (hi : v.isAgg P = aggT P T) (ht : ∀ vs, v ≠ .tup vs) : OpOK P n o σ (σ.put d v) :=
  opOK_val hd hn fun ok0 w0 a w β r => by
    have h := (hx _ _ _ _ _ _ r).2 rfl
    generalize hz : a.eval x = z at h
    cases h with
    | @eptrB _ _ _ _ _ _ hb => exact (ObOK.np (r.hs l) (.inr (.inl ⟨_, _, hl⟩)) hb).elim
    | @eptr _ _ _ b m cap _ _ hb =>
      have hob := r.hs l
      rw [hl, hb] at hob
      obtain ⟨xs, hown, hone, hrd⟩ := RowIs.ob (.inr ⟨T5, rfl, hu5⟩) hob
      have hlen := hown.1
      rcases hown.2 with ⟨h2, _⟩ | ⟨g, cap', cur, h2, hg2, hh, hnc, hcm, hsz, htk⟩
      · cases h2
      · cases h2
        have hlt : i < vs.length := (List.getElem?_eq_some_iff.1 he).1
        have hmul : (i + 1) * P.cellsOf E ≤ vs.length * P.cellsOf E := Nat.mul_le_mul_right _ hlt
        rw [Nat.add_mul, Nat.one_mul] at hmul
        obtain ⟨q1, q2⟩ := hg.sound (hrd i e he) (by simp only [List.length_take, List.length_drop]; omega)
        rw [seg_seg _ _ _ _ _ q1] at q2
        obtain ⟨z, hrun, hrv⟩ := load_rv (β := β) (v := v) (ad := ⟨b, i * P.cellsOf E + off, none⟩) hu (by simp only [List.length_take, List.length_drop]; omega) (fun j u hj => by
          rw [seg_get] at hj
          split at hj
          · rw [add_mk, cell_of_row w b _ cur E (0, 0) hh]
            rw [← htk, List.getElem?_take] at hj
            split at hj
            · simpa using hj
            · cases hj
          · cases hj) h1 hi q2 ht
        exact ⟨z, by simp only [execOp, ho, hz, Sem.run_bind, hrun, Result.andThen_ok, Sem.run_pure], hrv⟩
theorem op_store_eptrA {l i off : Nat} {path : List Nat} {E T5 : TypeId} {vs : List AV} {e c' : AV} (ho : o.op = .store T x y) (hd : o.dst = none) (h0 : P.cellsOf T ≠ 0)
    (hx : Ev P σ x (.eptr l i (P.cellsOf E) path off)) (hy : Ev P σ y v) (hv0 : v ≠ .dead) (hv1 : ∀ vs, v ≠ .tup vs)
    (hs : ∀ (ok : Nat → Prop) (w : World) (β : Nat → Option Value) (cs : List Value), RA P ok w β v cs → (v.isAgg P = false → cs.length = 1) → cs.length = P.cellsOf T)
    (hl : lk σ.hs l = .rowA T5 vs) (hu5 : P.underlying T5 = some (.slice E)) (he : vs[i]? = some e) (hg : SetAt P v T E e path off c') : OpOK P n o σ (σ.lay l (.rowA T5 (vs.set i c'))) := by
  rintro ok0 w0 a w ⟨β, r⟩ K Q hK
  have h := (hx _ _ _ _ _ _ r).2 rfl
  generalize hz : a.eval x = z at h
  cases h with
  | @eptrB _ _ _ _ _ _ hb => exact (ObOK.np (r.hs l) (.inr (.inl ⟨_, _, hl⟩)) hb).elim
  | @eptr _ _ _ b m cap _ _ hb =>
    have hv := RV.to1 hv0 hv1 (hy _ _ _ _ _ _ r)
    have hc := hv.cells
    have hsz : (a.eval y).cells.size = P.cellsOf T := by
      have := hs _ _ _ _ hc (fun hi => by
        have hr := hv.2 hi
        have h1' := hr.oneCell (a.eval y) (by simp)
        generalize a.eval y = z at h1'
        cases z <;> simp_all [Value.cells, Value.oneCell'])
      simpa using this
    have hob := r.hs l
    rw [hl, hb] at hob
    obtain ⟨xs, hown, hone, hrd⟩ := RowIs.ob (.inr ⟨T5, rfl, hu5⟩) hob
    have hlen := hown.1
    rcases hown.2 with ⟨h2, _⟩ | ⟨g, cap', cur, h2, hg2, hh, hnc, hcm, hcsz, htk⟩
    · cases h2
    · obtain ⟨rfl, rfl, rfl⟩ : b = g ∧ m = vs.length ∧ cap = cap' := by cases h2; exact ⟨rfl, rfl, rfl⟩
      have how : owns σ.hs β l b := ⟨by rw [hl]; rfl, _, hb, .inl rfl⟩
      have hilt : i < vs.length := (List.getElem?_eq_some_iff.1 he).1
      have hmul : (i + 1) * P.cellsOf E ≤ vs.length * P.cellsOf E := Nat.mul_le_mul_right _ hilt
      have hmul2 : vs.length * P.cellsOf E ≤ cap * P.cellsOf E := Nat.mul_le_mul_right _ hnc
      rw [Nat.add_mul, Nat.one_mul] at hmul
      have hseglen : ((xs.drop (i * P.cellsOf E)).take (P.cellsOf E)).length = P.cellsOf E := by simp only [List.length_take, List.length_drop]; omega
      obtain ⟨hq, hra⟩ := hg.sound hc (by simpa using hsz) (hrd i e he) hseglen
      have hrun := run_storeAt_block (P := P) (T := T) (off := i * P.cellsOf E + off) w hh hsz h0 (by omega) (fun u hu => hc.oneCell u hu)
      unfold Oper.wp execOp
      simp only [ho, hz, Sem.run_bind, hrun, Result.andThen_ok, Sem.run_pure]
      refine hK _ _ ?_
      rw [hd]
      have hfit : i * P.cellsOf E + off + (a.eval y).cells.toList.length ≤ cur.toList.length := by simp; omega
      have hslen := splice_len hfit
      refine ⟨_, r.upd l (.rowA T5 (vs.set i c')) (β l) _ (.inl rfl) rfl rfl rfl (by simp) (fun b2 hb2 hne => setRow_other w _ _ _ fun e => hne (by rw [e]; exact how)) (fun z2 b2 _ hz2 hb2 => .inr ⟨by rw [hl]; rfl, z2, hz2, hb2⟩) fun hx hk => ?_⟩
      have hfx : i * P.cellsOf E + off + (a.eval y).cells.toList.length ≤ xs.length := by simp; omega
      refine ⟨E, _, splice xs (i * P.cellsOf E + off) (a.eval y).cells.toList, hb, hu5, ⟨?_, .inr ⟨b, cap, (splice cur.toList (i * P.cellsOf E + off) (a.eval y).cells.toList).toArray, ?_, hg2, setRow_heap w b cur _ E _ hh, by simpa using hnc, hcm, ?_, ?_⟩⟩, ?_, ?_⟩
      · rw [splice_len hfx]; simpa using hlen
      · simp
      · rw [List.size_toArray, hslen]; simpa using hcsz
      · apply List.ext_getElem?
        intro j
        simp only [List.length_set]
        rw [List.getElem?_take, splice_get hfx]
        split
        · rw [splice_get hfit]
          split
          · rfl
          · rw [← htk, List.getElem?_take, if_pos (by assumption)]
        · rw [if_neg (by simp; omega), List.getElem?_eq_none (by omega)]
      · intro u hu2
        obtain ⟨j, hj⟩ := List.getElem?_of_mem hu2
        rw [splice_get hfx] at hj
        split at hj
        · exact hc.oneCell u (List.mem_of_getElem? hj)
        · exact hone u (List.mem_of_getElem? hj)
      · intro j u hj
        rw [List.getElem?_set] at hj
        by_cases hij : i = j
        · subst hij
          simp only [if_true, hilt, Option.some.injEq] at hj
          subst hj
          rw [splice_in (by simp; omega) (by omega)]
          exact hra.mono hk hx
        · simp only [hij, if_false] at hj
          have hjlt : j < vs.length := (List.getElem?_eq_some_iff.1 hj).1
          have hmulj : (j + 1) * P.cellsOf E ≤ vs.length * P.cellsOf E := Nat.mul_le_mul_right _ hjlt
          rw [Nat.add_mul, Nat.one_mul] at hmulj
          have hap : j * P.cellsOf E + P.cellsOf E ≤ i * P.cellsOf E + off ∨ i * P.cellsOf E + off + (a.eval y).cells.toList.length ≤ j * P.cellsOf E := by
            rcases Nat.lt_or_gt_of_ne hij with h | h
            · right
              have := Nat.mul_le_mul_right (P.cellsOf E) (show i + 1 ≤ j from h)
              rw [Nat.add_mul, Nat.one_mul] at this
              have : (a.eval y).cells.toList.length = P.cellsOf T := by simpa using hsz
              omega
            · left
              have := Nat.mul_le_mul_right (P.cellsOf E) (show j + 1 ≤ i from h)
              rw [Nat.add_mul, Nat.one_mul] at this
              omega
          rw [splice_far hfx hap]
          exact (hrd j u hj).mono hk hx
inductive EvLA (P : Program) (σ : St) (E : TypeId) : List Operand → List AV → Prop where
  | nil : EvLA P σ E [] []
  | cons {x : Operand} {v : AV} {xs : List Operand} {vs : List AV} (h : Ev P σ x v) (h0 : v ≠ .dead) (h1 : ∀ us, v ≠ .tup us)
      (hs : ∀ (ok : Nat → Prop) (w : World) (β : Nat → Option Value) (cs : List Value), RA P ok w β v cs → (v.isAgg P = false → cs.length = 1) → cs.length = P.cellsOf E) (r : EvLA P σ E xs vs) : EvLA P σ E (x :: xs) (v :: vs)
theorem EvLA.len {E : TypeId} {xs : List Operand} {vs : List AV} (h : EvLA P σ E xs vs) : xs.length = vs.length := by
  induction h with
  | nil => rfl
  | cons _ _ _ _ _ ih => simp [ih]
theorem EvLA.get {E : TypeId} {xs : List Operand} {vs : List AV} (h : EvLA P σ E xs vs) : ∀ (i : Nat) (v : AV), vs[i]? = some v → ∃ x, xs[i]? = some x ∧ Ev P σ x v ∧ v ≠ .dead ∧ (∀ us, v ≠ .tup us) ∧ (∀ (ok : Nat → Prop) (w : World) (β : Nat → Option Value) (cs : List Value), RA P ok w β v cs → (v.isAgg P = false → cs.length = 1) → cs.length = P.cellsOf E) := by
  induction h with
  | nil => intro i d hd; simp at hd
  | @cons x d xs ds h h0 h1 hs _ ih =>
    intro i d' hd
    cases i with
    | zero => simp only [List.getElem?_cons_zero, Option.some.injEq] at hd; subst hd; exact ⟨x, rfl, h, h0, h1, hs⟩
    | succ i => simp only [List.getElem?_cons_succ] at hd; obtain ⟨x', q1, q2⟩ := ih i d' hd; exact ⟨x', by simpa using q1, q2⟩
theorem EvLA.get' {E : TypeId} {xs : List Operand} {vs : List AV} (h : EvLA P σ E xs vs) : ∀ x ∈ xs, ∃ v, Ev P σ x v ∧ v ≠ .dead ∧ (∀ us, v ≠ .tup us) ∧ (∀ (ok : Nat → Prop) (w : World) (β : Nat → Option Value) (cs : List Value), RA P ok w β v cs → (v.isAgg P = false → cs.length = 1) → cs.length = P.cellsOf E) := by
  intro x hx
  obtain ⟨i, hi⟩ := List.getElem?_of_mem hx
  have hlt : i < vs.length := by rw [← h.len]; exact (List.getElem?_eq_some_iff.1 hi).1
  obtain ⟨x', q1, q2⟩ := h.get i _ (List.getElem?_eq_getElem hlt)
  rw [hi] at q1; cases q1
  exact ⟨_, q2⟩
theorem op_buildSA {d l len : Nat} {E : TypeId} {parts : Array (Nat × Operand)} {xs : List Operand} {vs : List AV} {z : Dt} (ho : o.op = .buildSlice T len parts) (hd : o.dst = some d) (hn : d < n) (hu : P.underlying T = some (.slice E)) (hf : lk σ.hs l = .free) (hk0 : σ.k0 ≤ l)
    (hz : Zero P E z) (h0 : P.cellsOf E ≠ 0) (hp : parts.toList = (xs.zipIdx 0).map fun p => (p.2, p.1)) (hlen : len = xs.length) (hpos : xs ≠ []) (hsmall : len * P.cellsOf E ≤ 16777216) (hev : EvLA P σ E xs vs) :
    OpOK P n o σ ((σ.lay l (.rowA T vs)).put d (.row l)) := by
  rintro ok0 w0 a w ⟨β, r⟩ K Q hK
  obtain ⟨i, zv, hinf, hzv, hzs, hzrd⟩ := hz.ex
  have hsz : i.size = P.cellsOf E := by simp [Program.cellsOf, hinf]
  have hvc : ∀ (x' : Operand) (v' : AV), Ev P σ x' v' ∧ v' ≠ .dead ∧ (∀ us, v' ≠ .tup us) ∧ (∀ (ok : Nat → Prop) (w : World) (β : Nat → Option Value) (cs : List Value), RA P ok w β v' cs → (v'.isAgg P = false → cs.length = 1) → cs.length = P.cellsOf E) → (a.eval x').cells.size = P.cellsOf E ∧ RA P (okOf ok0 w0 w σ.hs β) w β v' (a.eval x').cells.toList := by
    rintro x' v' ⟨hx', q0, q1, hs⟩
    have hv := RV.to1 q0 q1 (hx' _ _ _ _ _ _ r)
    refine ⟨?_, hv.cells⟩
    have := hs _ _ _ _ hv.cells (fun hi => by
      have hr := hv.2 hi
      have h1' := hr.oneCell (a.eval x') (by simp)
      generalize a.eval x' = z at h1'
      cases z <;> simp_all [Value.cells, Value.oneCell'])
    simpa using this
  have hlx : 0 < xs.length := List.length_pos_iff.2 hpos
  have hdx := hev.len
  obtain ⟨c, hfill, hcs, hck⟩ := Great.fill_dense (s := P.cellsOf E) (by omega) (xs.map a.eval) 0 ((Array.range (len * P.cellsOf E)).map (zv.cells[· % zv.cells.size]!)) (fun u hu2 => by
      obtain ⟨x', hx', rfl⟩ := List.mem_map.1 hu2
      obtain ⟨d', hd'⟩ := hev.get' x' hx'
      exact (hvc x' d' hd').1) (by simp [hlen])
  have hparts : (parts.map fun (p : Nat × Operand) => (p.1, a.eval p.2)).toList = ((xs.map a.eval).zipIdx 0).map fun x => (x.2, x.1) := by
    rw [Array.toList_map, hp, List.map_map, List.zipIdx_map, List.map_map]
    rfl
  have hrun := run_buildSlice (P := P) w T E len (parts.map fun (p : Nat × Operand) => (p.1, a.eval p.2)) c i zv hu hinf hzv (by rw [hsz]; omega) (by
      rw [hsz, hlen]
      have := Nat.mul_pos hlx (Nat.pos_of_ne_zero h0)
      omega) (by rw [hparts, hsz]; exact hfill)
  unfold Oper.wp execOp
  simp only [ho, Sem.run_bind]
  have hmap : (parts.map fun x => match x with | (i, x) => (i, a.eval x)) = parts.map fun (p : Nat × Operand) => (p.1, a.eval p.2) := by
    congr 1
  rw [hmap, hrun]
  simp only [Result.andThen_ok, Sem.run_pure]
  refine hK _ _ ?_
  rw [hd]
  have hcsz : c.size = len * P.cellsOf E := by rw [hcs]; simp
  have hseg : ∀ (j : Nat) (x' : Operand), xs[j]? = some x' → (a.eval x').cells.size = P.cellsOf E → (c.toList.drop (j * P.cellsOf E)).take (P.cellsOf E) = (a.eval x').cells.toList := by
    intro j x' hx' hsz'
    have hj : j < xs.length := (List.getElem?_eq_some_iff.1 hx').1
    have hmul : (j + 1) * P.cellsOf E ≤ xs.length * P.cellsOf E := Nat.mul_le_mul_right _ hj
    rw [Nat.add_mul, Nat.one_mul] at hmul
    apply List.ext_getElem?
    intro k
    rw [seg_get]
    split
    · have hk : k < P.cellsOf E := by assumption
      have h1 : (j * P.cellsOf E + k) / P.cellsOf E = j := by rw [Nat.mul_comm, Nat.mul_add_div (by omega), Nat.div_eq_of_lt hk, Nat.add_zero]
      have h2 : (j * P.cellsOf E + k) % P.cellsOf E = k := by rw [Nat.mul_comm, Nat.mul_add_mod, Nat.mod_eq_of_lt hk]
      rw [Array.getElem?_toList, hck, if_pos (by simp; omega)]
      simp [h1, h2, hx']
    · rw [List.getElem?_eq_none (by simp; omega)]
  have hfree := r.hs l
  rw [hf] at hfree
  have hnew := r.upd l (.rowA T vs) (some (.slice (some ⟨w.heap.size, 0, none⟩) vs.length len)) (w.alloc (.cells c E)) (.inr ⟨hfree, hk0⟩) rfl rfl rfl (by simp) (fun b hb _ => Below.heap_alloc w _ b hb) (fun z b _ hz hb => .inl (by cases hz; simp [Blk, blk] at hb; omega)) fun hx hk => by
    have hone : ∀ u ∈ c.toList, u.oneCell' = true := by
      intro u hu2
      obtain ⟨j, hj⟩ := List.getElem?_of_mem hu2
      rw [Array.getElem?_toList, hck] at hj
      have hjlt : j < len * P.cellsOf E := by
        rcases Nat.lt_or_ge j (len * P.cellsOf E) with h | h
        · exact h
        · rw [if_neg (by simp [← hlen]; omega), Array.getElem?_eq_none (by simp; omega)] at hj
          cases hj
      rw [if_pos (by simp [← hlen]; exact hjlt)] at hj
      simp only [Option.bind_eq_some_iff, List.getElem?_map, Option.map_eq_some_iff] at hj
      obtain ⟨v1, ⟨x', hx', rfl⟩, hv1⟩ := hj
      obtain ⟨d', hd'⟩ := hev.get' x' (List.mem_of_getElem? hx')
      exact (hvc x' d' hd').2.oneCell u (by simpa using Array.mem_of_getElem? hv1)
    have hlv : vs.length = len := by omega
    refine ⟨E, _, c.toList, rfl, hu, ⟨by rw [Array.length_toList, hcsz, hlv], .inr ⟨w.heap.size, len, c, rfl, Nat.zero_le _, cell_new_block w c E, by omega, ?_, hcsz, ?_⟩⟩, hone, fun j u hj => ?_⟩
    · unfold maxLen
      have : len * 1 ≤ len * P.cellsOf E := Nat.mul_le_mul_left _ (by omega)
      omega
    · rw [List.take_of_length_le (by rw [Array.length_toList, hcsz, hlv]; exact Nat.le_refl _)]
    · obtain ⟨x', hx', hx2⟩ := hev.get j u hj
      obtain ⟨q1, q2⟩ := hvc x' u hx2
      rw [hseg j x' hx' q1]
      exact q2.mono hk hx
  rw [show vs.length = len by omega] at hnew
  exact Rel.put hnew hn (row_rv (upB_same _ _ _) rfl)
theorem op_appendA {d l l2 l' : Nat} {E : TypeId} {es ds : List AV} {z : Dt} {ob ob2 : Ob} (ho : o.op = .call { callee := .builtin .append, args := #[x, y], argTypes := #[T, T] }) (hd : o.dst = some d) (hn : d < n) (hu : P.underlying T = some (.slice E))
    (hz : Zero P E z) (h0 : P.cellsOf E ≠ 0) (hby : P.bytesOf E ≤ 1024) (hx : Ev P σ x (.row l)) (hl : lk σ.hs l = ob) (ho1 : RowIs P E ob es) (hf : lk σ.hs l' = .free) (hk0 : σ.k0 ≤ l') (hy : Ev P σ y (.row l2)) (hl2 : lk σ.hs l2 = ob2) (ho2 : RowIs P E ob2 ds) (hlim : es.length + ds.length ≤ 137438953472) :
    OpOK P n o σ (((σ.lay l .gone).lay l' (.rowA T (es ++ ds))).put d (.row l')) := by
  rintro ok0 w0 a w ⟨β, r⟩ K Q hK
  obtain ⟨i, zv, hi, hzv, hzs, _⟩ := hz.ex
  have hsz : i.size = P.cellsOf E := by simp [Program.cellsOf, hi]
  have hbz : i.bytes = P.bytesOf E := by simp [Program.bytesOf, hi]
  have hbound : (es.length + ds.length) * P.bytesOf E ≤ 140737488355328 := by
    have := Nat.mul_le_mul hlim hby
    omega
  have hml : es.length + ds.length ≤ maxLen := by unfold maxLen; omega
  have ex := row_eval (hx _ _ _ _ _ _ r)
  have ey := row_eval (hy _ _ _ _ _ _ r)
  have hob := r.hs l
  rw [hl, ex] at hob
  obtain ⟨xs, hown, hone, hrd⟩ := ho1.ob hob
  have hob2 := r.hs l2
  rw [hl2, ey] at hob2
  obtain ⟨ys, hown2, hyone, hyrd⟩ := ho2.ob hob2
  have key : ∃ v' w', (Builtin.append_ #[T, T] o.type #[a.eval x, a.eval y]).run P w = .ok v' w' ∧ w'.ownsRow 0 E (P.cellsOf E) v' (es.length + ds.length) (xs ++ ys) ∧ w.grownBy w' (a.eval x).ownBlock ∧ (v'.ownBlock = (a.eval x).ownBlock ∨ v'.ownBlock = some w.heap.size) := by
    rcases hown2.2 with ⟨h2, h3⟩ | ⟨g, cap, cur, h2, _⟩
    · have : ys = [] := List.eq_nil_of_length_eq_zero (by rw [hown2.1, h3]; simp)
      subst this
      rw [h2, h3]
      exact ⟨a.eval x, w, run_append_of_nil w 0 T o.type E i (P.cellsOf E) hu hi _ _ _ hown 0, by simpa using hown, ⟨rfl, rfl, rfl, Nat.le_refl _, fun _ _ _ => rfl⟩, .inl rfl⟩
    · have hcells := hown2.cells (g := g) (by rw [h2]; rfl)
      rw [h2]
      obtain ⟨v', w', q1, q2, q3, _, q5⟩ := run_append_own_at (P := P) w 0 T o.type E i zv (P.cellsOf E) (P.bytesOf E) hu hi hzv hsz hbz hzs (by omega) (a.eval x) es.length xs hown _ ds.length cap ys hown2.1 hcells hyone hml hbound (Nat.zero_le _)
      exact ⟨v', w', q1, q2, q3, q5⟩
  obtain ⟨v', w', hrun, hown', hgr, hblk'⟩ := key
  have hob' : v'.ownBlock = blk v' := by
    rcases hown'.2 with ⟨rfl, _⟩ | ⟨g, cap, cur, rfl, _⟩ <;> rfl
  obtain ⟨bl, ebl⟩ : ∃ bl, a.eval x = bl := ⟨_, rfl⟩
  rw [ebl] at ex hown hgr hblk' hrun
  have hbl : bl.ownBlock = blk bl := by
    rcases hown.2 with ⟨rfl, _⟩ | ⟨g, cap, cur, rfl, _⟩ <;> rfl
  unfold Oper.wp execOp
  simp only [ho, resolve, invoke, builtin, Sem.run_bind, Sem.run_pure, Result.andThen_ok, List.map_toArray, List.map_cons, List.map_nil, ebl, hrun]
  refine hK _ _ ?_
  rw [hd]
  have hlown : ∀ b, blk bl = some b → owns σ.hs β l b := fun b hb => ⟨by rw [hl]; exact ho1.own.1, bl, ex, .inl hb⟩
  have hnew := r.take l l' (.rowA T (es ++ ds)) v' w' (by rw [hl]; exact ho1.own.2) hf hk0 hgr.os hgr.tape hgr.output hgr.size
    (fun b hb hne => hgr.block b hb fun e => hne (hlown b (by rw [← hbl, ← e])))
    (fun b hb => by
      have hb := hb.of hown'.notup
      rw [← hob'] at hb
      rcases hblk' with h | h
      · right; exact hlown b (by rw [← hbl, ← h, hb])
      · left; rw [h] at hb; cases hb; exact Nat.le_refl _)
    (fun hex hk => by
      refine ⟨E, v', xs ++ ys, rfl, hu, by simpa using hown', ?_, ?_⟩
      · intro u hu2
        rcases List.mem_append.1 hu2 with h | h
        · exact hone u h
        · exact hyone u h
      · intro i' d' hd'
        have hxl := hown.1
        by_cases hlt : i' < es.length
        · rw [List.getElem?_append_left hlt] at hd'
          have hmul : (i' + 1) * P.cellsOf E ≤ es.length * P.cellsOf E := Nat.mul_le_mul_right _ hlt
          rw [Nat.add_mul, Nat.one_mul] at hmul
          rw [seg_app_left (by omega)]
          exact (hrd i' d' hd').mono hk hex
        · rw [List.getElem?_append_right (by omega)] at hd'
          have hmul : es.length * P.cellsOf E ≤ i' * P.cellsOf E := Nat.mul_le_mul_right _ (by omega)
          rw [seg_app_right (by omega), hxl, ← Nat.sub_mul]
          exact (hyrd _ d' hd').mono hk hex)
  refine Rel.put hnew hn (row_rv (upB_same _ _ _) ?_)
  rcases hown'.2 with ⟨rfl, _⟩ | ⟨g, cap, cur, rfl, _⟩ <;> rfl
end
end Go.Am
