/- The abstract machine, part 21: from the kit's reading of arguments to plain data; what a law's contract says of every argument. -/
import Derived.Test.YtacpcknpliomoaaGreatAm9
import Derived.OpenShut
import Derived.Carry
set_option linter.unusedVariables false
set_option linter.unusedSimpArgs false
namespace Go.Am
open Go.RowKit Go.ChangeShapes

def covB (P : Program) (fs : List Field) (n : Nat) : Bool := (List.range n).all fun j => fs.any fun f => Nat.ble f.offset j && Nat.blt j (f.offset + P.cellsOf f.type)
/-- Types of plain data, closed under their parts. -/
def clsB (P : Program) (Ts : List TypeId) : Bool := Ts.all fun T => match P.underlying T with
  | some (.int _) => true
  | some .bool => true
  | some .string => true
  | some (.slice e) => memB e Ts && !Nat.beq (P.cellsOf e) 0
  | some (.struct fs) => (fs.toList.all fun f => memB f.type Ts) && covB P fs.toList (P.cellsOf T)
  | _ => false
mutual
/-- How much a datum holds. -/
def Dt.bulk : Dt → Nat
  | .int _ => 1
  | .bool _ => 1
  | .str s => s.size + 1
  | .agg ds => Dt.bulkL ds + 1
  | .lst es => Dt.bulkL es + 1
def Dt.bulkL : List Dt → Nat
  | [] => 0
  | d :: r => Dt.bulk d + Dt.bulkL r
end
/-- The form's own measure. -/
structure BulkOK {H : Type} (B : DataW H → Nat) (BA : List (DataW H) → Nat) : Prop where
  str : ∀ l, B (.lit (.string l)) = l.length + 1
  lit : ∀ l, 1 ≤ B (.lit l)
  nil : 1 ≤ B .nil
  slice : ∀ es sp, B (.slice es sp) = BA es + BA sp + 1
  agg : ∀ ps, B (.agg ps) = BA ps + 1
  none : BA [] = 0
  cons : ∀ d r, BA (d :: r) = B d + BA r
theorem BulkOK.le {H : Type} {B : DataW H → Nat} {BA : List (DataW H) → Nat} (h : BulkOK B BA) : ∀ {ds : List Dt} {Ds : List (DataW H)}, ds.length = Ds.length → (∀ (i : Nat) (d : Dt) (D : DataW H), ds[i]? = some d → Ds[i]? = some D → d.bulk ≤ B D) → Dt.bulkL ds ≤ BA Ds
  | [], [], _, _ => by simp [Dt.bulkL, h.none]
  | d :: ds, D :: Ds, hl, hp => by
    have h1 := hp 0 d D rfl rfl
    have h2 := BulkOK.le h (ds := ds) (Ds := Ds) (by simpa using hl) fun i d D h3 h4 => hp (i + 1) d D (by simpa using h3) (by simpa using h4)
    rw [h.cons]
    simp only [Dt.bulkL]
    omega
  | [], _ :: _, hl, _ => by simp at hl
  | _ :: _, [], hl, _ => by simp at hl
/-- A datum of a type. -/
def HasTy (P : Program) (T : TypeId) (d : Dt) : Prop := ∃ (ok : Nat → Prop) (w : World) (cs : List Value), RD P ok w T d cs

section
variable {H : Type} {enc : TypeId × Value → H} {P : Program} {w : World} {sp : Nat → Bool} {Ts : List TypeId}

theorem wf_int {k : IntKind} {n : Int} (h : (Lit.int k n).wf = true) : k.min ≤ n ∧ n ≤ k.max := by simpa [Lit.wf] using h
theorem choose_list {A : Type} {Q : Nat → A → Prop} : ∀ (n : Nat), (∀ i, i < n → ∃ d, Q i d) → ∃ ds : List A, ds.length = n ∧ ∀ i d, ds[i]? = some d → Q i d
  | 0, _ => ⟨[], rfl, fun i d h => by simp at h⟩
  | n + 1, h => by
    obtain ⟨ds, h1, h2⟩ := choose_list n fun i hi => h i (Nat.lt_succ_of_lt hi)
    obtain ⟨d, hd⟩ := h n (Nat.lt_succ_self n)
    refine ⟨ds ++ [d], by simp [h1], fun i x hx => ?_⟩
    by_cases hi : i < ds.length
    · rw [List.getElem?_append_left hi] at hx; exact h2 i x hx
    · rw [List.getElem?_append_right (by omega)] at hx
      have h3 : i - ds.length = 0 := by
        have := (List.getElem?_eq_some_iff.1 hx).1
        simp at this; omega
      rw [h3] at hx
      simp at hx
      subst hx
      rwa [show i = n by omega]
theorem cells_get {a : Addr} {n : Nat} {cs : List Value} (h : w.cells? 0 a n = some cs) : cs.length = n ∧ ∀ j v, cs[j]? = some v → w.cell? (a.add j) = some v := by
  unfold World.cells? at h
  rw [if_pos (Nat.zero_le _)] at h
  have hl := mapM_some_length h
  simp at hl
  refine ⟨hl, fun j v hv => ?_⟩
  have hj : j < n := by rw [← hl]; exact (List.getElem?_eq_some_iff.1 hv).1
  have := mapM_some_get h j j (by simp [hj])
  rw [this]; exact hv
theorem cell_lt {a : Addr} {v : Value} (h : w.cell? a = some v) : a.block < w.heap.size := by
  rcases Nat.lt_or_ge a.block w.heap.size with h1 | h1
  · exact h1
  · unfold World.cell? at h
    rw [Array.getElem?_eq_none h1] at h
    simp at h

theorem rd_of_trod {B : DataW H → Nat} {BA : List (DataW H) → Nat} (hB : BulkOK B BA) (hc : clsB P Ts = true) : ∀ (n : Nat) (t : TypeId) (cs : List Value) (x : DataW H × List MemPlace), t ∈ Ts → DataW.trod enc P w 0 sp true n t cs = some x → (∀ c ∈ cs, c.oneCell' = true) ∧ ∃ d, RD P (fun b => b < w.heap.size) w t d cs ∧ d.bulk ≤ B x.1 := by
  intro n
  induction n with
  | zero => intro t cs x _ h; simp [DataW.trod] at h
  | succ n ih =>
    intro t cs x ht h
    have hT := List.all_eq_true.1 hc t ht
    split at hT
    · rename_i k hu
      obtain ⟨m, rfl, rfl, hwf⟩ := DataW.trod_int hu h
      exact ⟨by simp [Value.oneCell'], .int m, .int hu (wf_int hwf).1 (wf_int hwf).2, by simpa [Dt.bulk] using hB.lit _⟩
    · rename_i hu
      obtain ⟨b, rfl, rfl⟩ := DataW.trod_bool hu h
      exact ⟨by simp [Value.oneCell'], .bool b, .bool hu, by simpa [Dt.bulk] using hB.lit _⟩
    · rename_i hu
      obtain ⟨s, rfl, rfl, hs⟩ := DataW.trod_string hu h
      refine ⟨by simp [Value.oneCell'], .str s, .str hu hs, ?_⟩
      rw [hB.str, Array.length_toList]
      exact Nat.le_refl _
    · rename_i e hu
      rw [Bool.and_eq_true] at hT
      have he : e ∈ Ts := memB_iff.1 hT.1
      have hz : P.cellsOf e ≠ 0 := fun e0 => by rw [e0] at hT; simp at hT
      rcases DataW.trod_slice hu h with ⟨rfl, rfl⟩ | ⟨a, len, cap, elems, rest, m, hm, rfl, rfl, _, hlc, hcm, hel, hget, _, _⟩
      · exact ⟨by simp [Value.oneCell'], .lst [], RD.nil hu, by simpa [Dt.bulk, Dt.bulkL] using hB.nil⟩
      · obtain rfl : n = m := by omega
        refine ⟨by simp [Value.oneCell'], ?_⟩
        have hi : ∀ i, i < len → ∃ q : List Value × Dt, w.cells? 0 (a.add (i * P.cellsOf e)) (P.cellsOf e) = some q.1 ∧ (∀ c ∈ q.1, c.oneCell' = true) ∧ RD P (fun b => b < w.heap.size) w e q.2 q.1 ∧ ∀ D, elems[i]? = some D → q.2.bulk ≤ B D.1 := by
          intro i hi
          have h1 := hget i hi
          have hei := List.getElem?_eq_getElem (show i < elems.length by omega)
          rw [hei] at h1
          obtain ⟨cs, h2, h3⟩ := Option.bind_eq_some_iff.1 h1
          obtain ⟨h4, d, h5, h6⟩ := ih e cs _ he h3
          exact ⟨(cs, d), h2, h4, h5, fun D hD => by rw [hei] at hD; cases hD; exact h6⟩
        obtain ⟨qs, hql, hq⟩ := choose_list len hi
        refine ⟨.lst (qs.map (·.2)), .lst a (fun i => (qs.getD i ([], .int 0)).1) hu (by simp [hql]) hlc hcm (fun h0 => ⟨rfl, ?_⟩) (fun i hi => ?_) (fun i d hd => ?_), ?_⟩
        · have hq0 := hq 0 _ (List.getElem?_eq_getElem (by omega))
          obtain ⟨h1, _, h3, _⟩ := hq0
          obtain ⟨h4, h5⟩ := cells_get h1
          have h6 : 0 < (qs[0]'(by omega)).1.length := by omega
          have := cell_lt (h5 0 _ (List.getElem?_eq_getElem h6))
          rwa [add_add, block_add] at this
        · have hq1 := hq i _ (List.getElem?_eq_getElem (by omega))
          obtain ⟨h1, h2, _, _⟩ := hq1
          obtain ⟨h4, h5⟩ := cells_get h1
          have e1 : (qs.getD i ([], .int 0)) = qs[i]'(by omega) := by simp [List.getD, List.getElem?_eq_getElem (show i < qs.length by omega)]
          rw [e1]
          refine ⟨h4, h2, fun j v hv => ?_⟩
          have := h5 j v hv
          rwa [add_add] at this
        · rw [List.getElem?_map] at hd
          obtain ⟨q, hq1, rfl⟩ := Option.map_eq_some_iff.1 hd
          obtain ⟨_, _, h3, _⟩ := hq i q hq1
          have e1 : (qs.getD i ([], .int 0)) = q := by simp [List.getD, hq1]
          rw [e1]
          exact h3
        · rw [hB.slice]
          have hle := hB.le (ds := qs.map (·.2)) (Ds := elems.map (·.1)) (by simp [hql, hel]) fun i d D h1 h2 => by
            rw [List.getElem?_map] at h1 h2
            obtain ⟨q, hq1, rfl⟩ := Option.map_eq_some_iff.1 h1
            obtain ⟨y, hy1, rfl⟩ := Option.map_eq_some_iff.1 h2
            exact (hq i q hq1).2.2.2 y hy1
          simp only [Dt.bulk]
          omega
    · rename_i fs hu
      obtain ⟨xs, m, hm, rfl, hlen, hxl, hget⟩ := DataW.trod_struct hu h
      obtain rfl : n = m := by omega
      rw [Bool.and_eq_true] at hT
      have hf : ∀ i, i < fs.size → ∃ d, ∀ f, fs[i]? = some f → (∀ c ∈ (cs.drop f.offset).take (P.cellsOf f.type), c.oneCell' = true) ∧ RD P (fun b => b < w.heap.size) w f.type d ((cs.drop f.offset).take (P.cellsOf f.type)) ∧ ∀ D, xs[i]? = some D → d.bulk ≤ B D.1 := by
        intro i hi
        have hfi : fs[i]? = some fs[i] := Array.getElem?_eq_getElem hi
        have h1 := hget i _ hfi
        have hxi := List.getElem?_eq_getElem (show i < xs.length by omega)
        rw [hxi] at h1
        have hm : fs[i].type ∈ Ts := memB_iff.1 (List.all_eq_true.1 hT.1 fs[i] (by simp))
        obtain ⟨h2, d, h3, h4⟩ := ih _ _ _ hm h1
        exact ⟨d, fun f hf => by rw [hfi] at hf; cases hf; exact ⟨h2, h3, fun D hD => by rw [hxi] at hD; cases hD; exact h4⟩⟩
      obtain ⟨ds, hdl, hd⟩ := choose_list fs.size hf
      have hone : ∀ c ∈ cs, c.oneCell' = true := by
        intro c hcm
        obtain ⟨j, hj, rfl⟩ := List.getElem_of_mem hcm
        have hcov := List.all_eq_true.1 hT.2 j (List.mem_range.2 (by omega))
        obtain ⟨f, hfm, hfj⟩ := List.any_eq_true.1 hcov
        rw [Bool.and_eq_true] at hfj
        have h1 := Nat.le_of_ble_eq_true hfj.1
        have h2 : j < f.offset + P.cellsOf f.type := Nat.le_of_ble_eq_true hfj.2
        obtain ⟨i, hi⟩ := List.getElem?_of_mem hfm
        rw [Array.getElem?_toList] at hi
        have hil : i < fs.size := (Array.getElem?_eq_some_iff.1 hi).1
        have h3 := (hd i _ (List.getElem?_eq_getElem (by omega)) f hi).1
        refine h3 _ (List.mem_of_getElem? (i := j - f.offset) ?_)
        rw [List.getElem?_take, if_pos (by omega), List.getElem?_drop, show f.offset + (j - f.offset) = j by omega, List.getElem?_eq_getElem hj]
      refine ⟨hone, .agg ds, .agg hu hdl hlen hone fun i f d hf1 hd1 => (hd i d hd1 f hf1).2.1, ?_⟩
      rw [hB.agg]
      have hle := hB.le (ds := ds) (Ds := xs.map (·.1)) (by simp [hdl, hxl]) fun i d D h1 h2 => by
        rw [List.getElem?_map] at h2
        obtain ⟨y, hy1, rfl⟩ := Option.map_eq_some_iff.1 h2
        have hil : i < fs.size := by rw [← hdl]; exact (List.getElem?_eq_some_iff.1 h1).1
        exact (hd i d h1 _ (Array.getElem?_eq_getElem hil)).2.2 y hy1
      simp only [Dt.bulk]
      omega
    · cases hT
theorem not_agg {base : Nat} {t : TypeId} {v : Value} (ht : aggT P t = false) (hs : (P.underlying t).isSome = true) (hv : Value.okWide P w .any base t v) : v.cells = #[v] := by
  cases v with
  | agg cs =>
    exfalso
    unfold Value.okWide at hv
    unfold aggT at ht
    cases hu : P.underlying t with
    | none => rw [hu] at hs; cases hs
    | some D => rw [hu] at hv ht; cases D <;> simp_all [Cell.okWide, Cell.ok]
  | _ => rfl
theorem cls_some (hc : clsB P Ts = true) {t : TypeId} (ht : t ∈ Ts) : (P.underlying t).isSome = true := by
  have hT := List.all_eq_true.1 hc t ht
  split at hT <;> simp_all
theorem rv_of_trod {B : DataW H → Nat} {BA : List (DataW H) → Nat} (hB : BulkOK B BA) (hc : clsB P Ts = true) {base : Nat} {t : TypeId} {v : Value} {D : DataW H} {p : List MemPlace} (ht : t ∈ Ts) (hv : Value.okWide P w .any base t v) (h : DataW.Trod enc P w 0 sp true t v D p) :
    ∃ d, RV P (fun b => b < w.heap.size) w (fun _ => none) (.dat t d) v ∧ HasTy P t d ∧ d.bulk ≤ B D := by
  obtain ⟨n, hn⟩ := h
  obtain ⟨_, d, hd, hbk⟩ := rd_of_trod hB hc n t _ _ ht hn
  refine ⟨d, ?_, ⟨_, _, _, hd⟩, hbk⟩
  cases ha : aggT P t with
  | false =>
    rw [not_agg ha (cls_some hc ht) hv] at hd
    exact (RV.dat_one ha).2 (by simpa using hd)
  | true =>
    refine (RV.dat_agg ha).2 ?_
    unfold Value.okWide at hv
    unfold aggT at ha
    split at hv
    · obtain ⟨cs, rfl, _⟩ := hv
      exact ⟨cs.toList, by simp, hd⟩
    · obtain ⟨cs, rfl, _⟩ := hv
      exact ⟨cs.toList, by simp, hd⟩
    · split at ha <;> simp_all
inductive HasTys (P : Program) : List TypeId → List Dt → Prop where
  | nil : HasTys P [] []
  | cons {t : TypeId} {d : Dt} {ts : List TypeId} {ds : List Dt} (h : HasTy P t d) (r : HasTys P ts ds) : HasTys P (t :: ts) (d :: ds)
def dats : List TypeId → List Dt → List AV
  | t :: ts, d :: ds => .dat t d :: dats ts ds
  | _, _ => []
theorem rvs_of_trod {B : DataW H → Nat} {BA : List (DataW H) → Nat} (hB : BulkOK B BA) (hc : clsB P Ts = true) {base : Nat} : ∀ {ts : List TypeId} {vs : List Value} {Ds : List (DataW H)} {p : List MemPlace}, (∀ t ∈ ts, t ∈ Ts) → (∀ (j : Nat) t v, ts[j]? = some t → vs[j]? = some v → Value.okWide P w .any base t v) → DataW.TrodAll enc P w 0 sp true ts vs Ds p →
    ∃ ds, HasTys P ts ds ∧ Dt.bulkL ds ≤ BA Ds ∧ RVsX P (fun b => b < w.heap.size) w (fun _ => none) (dats ts ds) vs
  | [], vs, Ds, p, _, _, h => by
    obtain ⟨rfl, rfl, rfl⟩ := trodAll_nil h
    exact ⟨[], .nil, by simp [Dt.bulkL], .nil⟩
  | t :: ts, vs, Ds, p, hm, hv, h => by
    obtain ⟨v, vs', d, ds', p', q', rfl, rfl, rfl, h1, h2⟩ := trodAll_cons h
    obtain ⟨x, hx, hty, hb1⟩ := rv_of_trod hB hc (hm t (by simp)) (hv 0 t v rfl rfl) h1
    obtain ⟨xs, hty2, hb2, hxs⟩ := rvs_of_trod hB hc (fun t ht => hm t (by simp [ht])) (fun j t v h3 h4 => hv (j + 1) t v (by simpa using h3) (by simpa using h4)) h2
    exact ⟨x :: xs, .cons hty hty2, by rw [hB.cons]; simp only [Dt.bulkL]; omega, .cons hx hxs⟩
theorem trodAll_below (hl : laidOutB P = true) {W W' : World} (hb : Below W.heap.size W W') : ∀ {ts : List TypeId} {vs : List Value} {Ds : List (DataW H)} {p : List MemPlace}, (ts.all fun t => P.readableRec t && decide (t < P.types.size)) = true → DataW.TrodAll enc P W 0 (fun _ => true) true ts vs Ds p → (∀ x ∈ p, x.block < W.heap.size) →
    DataW.TrodAll enc P W' 0 (fun b => decide (b < W.heap.size)) true ts vs Ds p
  | [], vs, Ds, p, _, h, _ => by
    obtain ⟨rfl, rfl, rfl⟩ := trodAll_nil h
    rfl
  | t :: ts, vs, Ds, p, hr, h, hlt => by
    obtain ⟨v, vs', d, ds', p', q', rfl, rfl, rfl, h1, h2⟩ := trodAll_cons h
    simp only [List.all_cons, Bool.and_eq_true, decide_eq_true_eq] at hr
    exact trodAll_cons_mk (Below.trod hl hr.1.1 hr.1.2 h1 hb fun x hx => hlt x (by simp [hx])) (trodAll_below hl hb (by simpa using hr.2) h2 fun x hx => hlt x (by simp [hx]))
theorem trodAll_len {base : Nat} {held : Bool} : ∀ {ts : List TypeId} {vs : List Value} {Ds : List (DataW H)} {p : List MemPlace}, DataW.TrodAll enc P w base sp held ts vs Ds p → Ds.length = ts.length
  | [], vs, Ds, p, h => by obtain ⟨_, rfl, _⟩ := trodAll_nil h; rfl
  | t :: ts, vs, Ds, p, h => by
    obtain ⟨v, vs', d, ds', p', q', rfl, rfl, rfl, h1, h2⟩ := trodAll_cons h
    simp [trodAll_len h2]

/-- A LAW: if its contract says 'true' for all data of its types, the call returns true and leaves its arguments. -/
theorem law_post {B : DataW H → Nat} {BA : List (DataW H) → Nat} (hB : BulkOK B BA) {N : Nat} {f : FuncId} {fn : Func} {s : ChangeSpec} {TB : TypeId} (hl : laidOutB P = true) (hc : clsB P Ts = true) (hsub : (fn.params.toList.all fun t => memB t Ts) = true) (hread : (fn.params.toList.all fun t => P.readableRec t && decide (t < P.types.size)) = true)
    (hu : P.underlying TB = some .bool) (hrt : fn.resultTypes = #[TB]) (hvars : s.vars = []) (hspec : ∀ Ds : List (DataW H), Ds.length = fn.params.toList.length → s.fn H Ds = { results := [.lit (.bool true)], args := Ds })
    (hfx : ∀ ds, HasTys P fn.params.toList ds → Dt.bulkL ds ≤ N → FX P f (dats fn.params.toList ds) [] (.dat TB (.bool true)) [])
    {W : World} {base : Nat} {args : Array Value} {Ds gs : List (DataW H)} {before : List MemPlace}
    (hval : ∀ (j : Nat) t v, fn.params[j]? = some t → args[j]? = some v → Value.okWide P W .any base t v)
    (htab : TabOK (fun b => b < W.heap.size) W) (hN : BA Ds ≤ N) (hW : DataW.Whole enc P fn.params.toList s.vars false W args.toList Ds gs before) :
    Calls P f args W fun e W' => ∃ v, e = .returned v ∧ s.post enc P fn false true false false W args v W' := by
  have hW' := hW
  obtain ⟨p, q, hA, hV, rfl, hfz, hnd⟩ := hW
  rw [hvars] at hV
  obtain ⟨rfl, rfl⟩ := trodVars_none hV
  obtain ⟨ds, hty, hbk, hrv⟩ := rvs_of_trod hB hc (ts := fn.params.toList) (fun t ht => memB_iff.1 (List.all_eq_true.1 hsub t ht)) (fun j t v h1 h2 => hval j t v (by simpa using h1) (by simpa using h2)) hA
  have no : ∀ (β : Nat → Option Value) l b, ¬ owns [] β l b := fun β l b h => by obtain ⟨h1, _⟩ := h; cases l <;> cases h1
  have walk := hfx ds hty (Nat.le_trans hbk hN) (fun b => b < W.heap.size) W (fun _ => none) args.toList (fun b hb => ⟨hb, fun ⟨l, hx⟩ => no _ _ _ hx⟩) (fun l => by cases l <;> rfl) (fun l l' b h1 => (no _ _ _ h1).elim) hrv htab
  rw [show args.toList.toArray = args by simp] at walk
  refine walk.mono ?_
  rintro e W' ⟨v, β', rfl, fin, hr⟩
  have hbel : Below W.heap.size W W' := ⟨fin.below.os, fin.below.tape, fin.below.output, fin.below.size, fun b hb => fin.below.block b hb (fun ⟨l, hx⟩ => no _ _ _ hx)⟩
  obtain ⟨_, rfl⟩ := RV.bool hu hr
  have hlt : ∀ x ∈ p, x.block < W.heap.size := fun x hx => hW'.lt x (by simp [hx])
  have hlen := trodAll_len hA
  refine ⟨_, rfl, Ds, [], p ++ [], [], p, [], hW', ?_, ?_, ?_, hbel.frame _, fun h => by cases h⟩
  · rw [List.append_nil, hspec Ds hlen, hrt]
    exact trodAll_mk1 (shut_bool hu _)
  · rw [List.append_nil, hspec Ds hlen]
    exact trodAll_below hl hbel hread hA hlt
  · rw [List.append_nil, hspec Ds hlen, hvars]
    rfl
end
end Go.Am
