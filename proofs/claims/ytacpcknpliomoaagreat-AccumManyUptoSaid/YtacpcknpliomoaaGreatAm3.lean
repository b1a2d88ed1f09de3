/- The abstract machine, part 3: boxes (variables in memory), their fields, loads and stores; pointers into plain data. -/
import Derived.Test.YtacpcknpliomoaaGreatAm2
set_option linter.unusedVariables false
set_option linter.unusedSimpArgs false
namespace Go.Am
open Go.RowKit

section
variable {P : Program} {n : Nat} {o : Oper} {σ σ' : St} {x y : Operand} {v : AV} {T : TypeId}

theorem RV1.cells {ok : Nat → Prop} {w : World} {β : Nat → Option Value} {z : Value} (h : RV1 P ok w β v z) : RA P ok w β v z.cells.toList := by
  cases hi : v.isAgg P with
  | true =>
    obtain ⟨cs, rfl, hr⟩ := h.1 hi
    simpa [Value.cells] using hr
  | false =>
    have hr := h.2 hi
    have h1 := hr.oneCell z (by simp)
    cases z <;> first | exact hr | simp [Value.oneCell'] at h1

theorem cell_new_block (w : World) (c : Array Value) (t : TypeId) : (w.alloc (.cells c t)).heap[w.heap.size]? = some (.cells c t (0, 0)) := heap_alloc_new w _

/-- A new box. -/
theorem Rel.newBox {ok0 : OkX} {w0 w : World} {a : Act} {β : Nat → Option Value} (r : RelB P ok0 w0 n σ a w β) {l : Nat} (hf : lk σ.hs l = .free) (hk0 : σ.k0 ≤ l) {c : Array Value} (hs : c.size = P.cellsOf T)
    (hc : RA P (okOf ok0 w0 w σ.hs β) w β v c.toList) :
    RelB P ok0 w0 n (σ.lay l (.box T v)) a (w.alloc (.cells c T)) (upB β l (some (.pointer (some ⟨w.heap.size, 0, none⟩)))) := by
  have hfree := r.hs l
  rw [hf] at hfree
  refine r.upd l (.box T v) _ _ (.inr ⟨hfree, hk0⟩) rfl rfl rfl (by simp) (fun b hb _ => Below.heap_alloc w _ b hb) (fun z b _ hz hb => .inl (by cases hz; simp [Blk, blk] at hb; omega)) fun hx hk => ?_
  exact ⟨w.heap.size, c, rfl, cell_new_block w c T, hs, hc.mono hk hx⟩

theorem ptr_rv {ok : Nat → Prop} {w : World} {β : Nat → Option Value} {l b off : Nat} {path : List Nat} (h : β l = some (.pointer (some ⟨b, 0, none⟩))) : RV P ok w β (.ptr l path off) (.pointer (some ⟨b, off, none⟩)) :=
  ⟨fun hi => by simp [AV.isAgg] at hi, fun _ => .ptr h⟩

theorem op_box {d l : Nat} (ho : o.op = .box T x) (hd : o.dst = some d) (hn : d < n) (hf : lk σ.hs l = .free) (hk0 : σ.k0 ≤ l) (hx : Ev P σ x v) (h0 : v ≠ .dead) (h1 : ∀ vs, v ≠ .tup vs)
    (hs : ∀ (ok : Nat → Prop) (w : World) (β : Nat → Option Value) (cs : List Value), RA P ok w β v cs → (v.isAgg P = false → cs.length = 1) → cs.length = P.cellsOf T) :
    OpOK P n o σ ((σ.lay l (.box T v)).put d (.ptr l [] 0)) := by
  rintro ok0 w0 a w ⟨β, r⟩ K Q hK
  have hv1 := RV.to1 h0 h1 (hx _ _ _ _ _ _ r)
  have hc := hv1.cells
  have hsz : (a.eval x).cells.size = P.cellsOf T := by
    have := hs _ _ _ _ hc (fun hi => by
      have hr := hv1.2 hi
      have h1' := hr.oneCell (a.eval x) (by simp)
      generalize a.eval x = z at h1'
      cases z <;> simp_all [Value.cells, Value.oneCell'])
    simpa using this
  unfold Oper.wp execOp
  simp only [ho, Instr.box, newVar, newRow, newObj, Sem.run_bind]
  refine hK _ _ ?_
  rw [hd]
  exact Rel.put (Rel.newBox r hf hk0 hsz hc) hn (ptr_rv (upB_same _ _ _))

/-- The sizes that 'op_box' asks for. -/
theorem size_dat_one {d : Dt} (hu : aggT P T = false) (h1 : P.cellsOf T = 1) : ∀ (ok : Nat → Prop) (w : World) (β : Nat → Option Value) (cs : List Value), RA P ok w β (.dat T d) cs → ((AV.dat T d).isAgg P = false → cs.length = 1) → cs.length = P.cellsOf T :=
  fun _ _ _ _ _ h => by rw [h1]; exact h (by simpa [AV.isAgg] using hu)
theorem size_dat_agg {d : Dt} {fs : Array Field} (hu : P.underlying T = some (.struct fs)) : ∀ (ok : Nat → Prop) (w : World) (β : Nat → Option Value) (cs : List Value), RA P ok w β (.dat T d) cs → ((AV.dat T d).isAgg P = false → cs.length = 1) → cs.length = P.cellsOf T :=
  fun _ _ _ _ h _ => by cases h with | dat h => exact (h.agg_inv hu).2.1
theorem size_agg {vs : List AV} : ∀ (ok : Nat → Prop) (w : World) (β : Nat → Option Value) (cs : List Value), RA P ok w β (.agg T vs) cs → ((AV.agg T vs).isAgg P = false → cs.length = 1) → cs.length = P.cellsOf T :=
  fun _ _ _ _ h _ => by cases h with | agg _ _ hc _ _ => exact hc

/-- A type's zero. -/
structure Zero (P : Program) (T : TypeId) (d : Dt) : Prop where
  ex : ∃ (i : TypeInfo) (z : Value), P.info? T = some i ∧ i.zero = some z ∧ z.cells.size = P.cellsOf T ∧ ∀ (ok : Nat → Prop) (w : World), RD P ok w T d z.cells.toList

structure ZeroA (P : Program) (T : TypeId) (v : AV) : Prop where
  ex : ∃ (i : TypeInfo) (z : Value), P.info? T = some i ∧ i.zero = some z ∧ z.cells.size = P.cellsOf T ∧ ∀ (ok : Nat → Prop) (w : World) (β : Nat → Option Value), RA P ok w β v z.cells.toList

theorem op_alloc {d l : Nat} (ho : o.op = .alloc T) (hd : o.dst = some d) (hn : d < n) (hf : lk σ.hs l = .free) (hk0 : σ.k0 ≤ l) (hz : ZeroA P T v) :
    OpOK P n o σ ((σ.lay l (.box T v)).put d (.ptr l [] 0)) := by
  rintro ok0 w0 a w ⟨β, r⟩ K Q hK
  obtain ⟨i, zv, hi, hzv, hsz, hrd⟩ := hz.ex
  have hrun : (Instr.alloc T true (.tuple #[])).run P w = .ok (.pointer (some ⟨w.heap.size, 0, none⟩)) (w.alloc (.cells zv.cells T)) := by
    simp [Instr.alloc, zeroValue, typeInfo, hi, hzv, newVar, newRow]
  unfold Oper.wp execOp
  simp only [ho, Sem.run_bind, hrun, Result.andThen_ok, Sem.run_pure]
  refine hK _ _ ?_
  rw [hd]
  exact Rel.put (Rel.newBox r hf hk0 hsz (hrd _ _ _)) hn (ptr_rv (upB_same _ _ _))

theorem run_fieldAt (w : World) {S : TypeId} {fs : Array Field} {i : Nat} {f : Field} (hu : P.underlying S = some (.struct fs)) (hf : fs[i]? = some f) (hc : P.cellsOf f.type ≠ 0) (ad : Addr) :
    (Instr.fieldAt S (.pointer (some ad)) i).run P w = .ok (.pointer (some (ad.add f.offset))) w := by
  cases hi : P.info? f.type with
  | none => simp [Program.cellsOf, hi] at hc
  | some inf =>
    have hz : inf.size ≠ 0 := by simpa [Program.cellsOf, hi] using hc
    simp [Instr.fieldAt, run_underlying hu, hf, Instr.sureAddr, fieldPlace, sizeOf, typeInfo, hi, hz]

theorem op_fieldAddr_ptr {d l i off : Nat} {path : List Nat} {S : TypeId} {fs : Array Field} {f : Field} (ho : o.op = .fieldAddr S x i) (hd : o.dst = some d) (hn : d < n) (hu : P.underlying S = some (.struct fs)) (hf : fs[i]? = some f)
    (hc : P.cellsOf f.type ≠ 0) (hx : Ev P σ x (.ptr l path off)) : OpOK P n o σ (σ.put d (.ptr l (path ++ [i]) (off + f.offset))) :=
  opOK_val hd hn fun ok0 w0 a w β r => by
    have h := (hx _ _ _ _ _ _ r).2 rfl
    generalize hz : a.eval x = z at h
    cases h with
    | @ptr _ b _ _ hb =>
      refine ⟨_, ?_, ptr_rv hb⟩
      simp only [execOp, ho, hz, Sem.run_bind, run_fieldAt w hu hf hc, Result.andThen_ok, Sem.run_pure, add_mk]
theorem eptr_rv {ok : Nat → Prop} {w : World} {β : Nat → Option Value} {l i sz b m cap off : Nat} {path : List Nat} (h : β l = some (.slice (some ⟨b, 0, none⟩) m cap)) : RV P ok w β (.eptr l i sz path off) (.pointer (some ⟨b, i * sz + off, none⟩)) :=
  ⟨fun hi => by simp [AV.isAgg] at hi, fun _ => .eptr h⟩
theorem eptrB_rv {ok : Nat → Prop} {w : World} {β : Nat → Option Value} {l i sz b off : Nat} {path : List Nat} (h : β l = some (.pointer (some ⟨b, 0, none⟩))) : RV P ok w β (.eptr l i sz path off) (.pointer (some ⟨b, i * sz + off, none⟩)) :=
  ⟨fun hi => by simp [AV.isAgg] at hi, fun _ => .eptrB h⟩
theorem op_fieldAddr_eptr {d l i j sz off : Nat} {path : List Nat} {S : TypeId} {fs : Array Field} {f : Field} (ho : o.op = .fieldAddr S x i) (hd : o.dst = some d) (hn : d < n) (hu : P.underlying S = some (.struct fs)) (hf : fs[i]? = some f)
    (hc : P.cellsOf f.type ≠ 0) (hx : Ev P σ x (.eptr l j sz path off)) : OpOK P n o σ (σ.put d (.eptr l j sz (path ++ [i]) (off + f.offset))) :=
  opOK_val hd hn fun ok0 w0 a w β r => by
    have h := (hx _ _ _ _ _ _ r).2 rfl
    generalize hz : a.eval x = z at h
    cases h with
    | @eptr _ _ _ b m cap _ _ hb =>
      refine ⟨_, ?_, eptr_rv hb⟩
      simp only [execOp, ho, hz, Sem.run_bind, run_fieldAt w hu hf hc, Result.andThen_ok, Sem.run_pure, add_mk, Nat.add_assoc]
    | @eptrB _ _ _ b _ _ hb =>
      refine ⟨_, ?_, eptrB_rv hb⟩
      simp only [execOp, ho, hz, Sem.run_bind, run_fieldAt w hu hf hc, Result.andThen_ok, Sem.run_pure, add_mk, Nat.add_assoc]
theorem rptr_rv {ok : Nat → Prop} {w : World} {β : Nat → Option Value} {d : Dt} {ad : Addr} {cs : List Value} (ho : ok ad.block) (hl : cs.length = P.cellsOf T) (hc : ∀ j v, cs[j]? = some v → w.cell? (ad.add j) = some v) (h : RD P ok w T d cs) :
    RV P ok w β (.rptr T d) (.pointer (some ad)) := ⟨fun hi => by simp [AV.isAgg] at hi, fun _ => .rptr ho hl hc h⟩
theorem op_fieldAddr_rptr {d i : Nat} {S : TypeId} {fs : Array Field} {f : Field} {e : Dt} (ho : o.op = .fieldAddr S x i) (hd : o.dst = some d) (hn : d < n) (hu : P.underlying S = some (.struct fs)) (hf : fs[i]? = some f)
    (hc : P.cellsOf f.type ≠ 0) (hb : f.offset + P.cellsOf f.type ≤ P.cellsOf S) (hx : Ev P σ x (.rptr S e)) : OpOK P n o σ (σ.put d (.rptr f.type (e.fld i))) :=
  opOK_val hd hn fun ok0 w0 a w β r => by
    have h := (hx _ _ _ _ _ _ r).2 rfl
    generalize hz : a.eval x = z at h
    cases h with
    | @rptr _ _ ad cs hok hl hcell hrd =>
      obtain ⟨_, hlen, _, hfld⟩ := hrd.agg_inv hu
      refine ⟨_, ?_, rptr_rv (ad := ad.add f.offset) (cs := (cs.drop f.offset).take (P.cellsOf f.type)) (by rw [block_add]; exact hok) ?_ ?_ (hfld i f hf)⟩
      · simp only [execOp, ho, hz, Sem.run_bind, run_fieldAt w hu hf hc, Result.andThen_ok, Sem.run_pure]
      · simp only [List.length_take, List.length_drop]; omega
      · intro j u hu'
        rw [List.getElem?_take] at hu'
        split at hu'
        · rw [List.getElem?_drop] at hu'
          rw [add_add]
          exact hcell _ _ hu'
        · cases hu'

theorem run_load_list (w : World) {ad : Addr} {cs : List Value} {D : TypeDesc} (hu : P.underlying T = some D) (hl : cs.length = P.cellsOf T) (hc : ∀ j v, cs[j]? = some v → w.cell? (ad.add j) = some v) :
    (aggT P T = true → (Instr.loadAt T (.pointer (some ad))).run P w = .ok (.agg cs.toArray) w) ∧ (aggT P T = false → ∀ v, cs = [v] → (Instr.loadAt T (.pointer (some ad))).run P w = .ok v w) := by
  constructor
  · intro h
    have hd : D.isRow = true := by
      unfold aggT at h
      rw [hu] at h
      cases D <;> simp_all
    have hag : (isAgg T).run P w = .ok true w := by
      unfold isAgg
      rw [Sem.run_bind, run_underlying hu w]
      cases D <;> simp_all
    have hinf : ∃ i, P.info? T = some i := by
      unfold Program.underlying at hu
      cases hi : P.info? T with
      | none => simp [hi] at hu
      | some i => exact ⟨i, rfl⟩
    obtain ⟨i, hi⟩ := hinf
    have hs : i.size = cs.length := by rw [hl]; simp [Program.cellsOf, hi]
    have hld := run_loadCells_list (P := P) w ad cs hc
    simp [Instr.loadAt, Instr.sureAddr, loadVar, Sem.run_bind, hag, sizeOf, typeInfo, hi, hs, hld]
  · intro h v hv
    subst hv
    have hd : D.isRow = false := by
      unfold aggT at h
      rw [hu] at h
      cases D <;> simp_all
    have hag : (isAgg T).run P w = .ok false w := by
      unfold isAgg
      rw [Sem.run_bind, run_underlying hu w]
      cases D <;> simp_all
    have h0 : w.cell? ad = some v := by
      have := hc 0 v (by simp)
      simpa [Addr.add] using this
    simp [Instr.loadAt, Instr.sureAddr, loadVar, Sem.run_bind, hag, load, Sem.run, h0]

/-- What is read where cells represent an abstract value. -/
theorem load_rv {ok : Nat → Prop} {w : World} {β : Nat → Option Value} {ad : Addr} {cs : List Value} {D : TypeDesc} (hu : P.underlying T = some D) (hl : cs.length = P.cellsOf T) (hc : ∀ j v, cs[j]? = some v → w.cell? (ad.add j) = some v)
    (h1 : aggT P T = false → P.cellsOf T = 1) (hi : v.isAgg P = aggT P T) (h : RA P ok w β v cs) (ht : ∀ vs, v ≠ .tup vs) : ∃ z : Value, (Instr.loadAt T (.pointer (some ad))).run P w = .ok z w ∧ RV P ok w β v z := by
  obtain ⟨hA, hB⟩ := run_load_list w hu hl hc
  cases hT : aggT P T with
  | true =>
    refine ⟨_, hA hT, RV1.toRV ⟨fun _ => ⟨cs, rfl, h⟩, fun hf => ?_⟩ ht⟩
    rw [hi, hT] at hf; cases hf
  | false =>
    have hlen := h1 hT
    rw [hlen] at hl
    match cs, hl with
    | [u], _ => exact ⟨u, hB hT u rfl, RV1.toRV ⟨(fun hf => by rw [hi, hT] at hf; cases hf), fun _ => h⟩ ht⟩

theorem op_load_rptr {d : Nat} {e : Dt} {D : TypeDesc} (ho : o.op = .load T x) (hd : o.dst = some d) (hn : d < n) (hu : P.underlying T = some D) (h1 : aggT P T = false → P.cellsOf T = 1) (hx : Ev P σ x (.rptr T e)) : OpOK P n o σ (σ.put d (.dat T e)) :=
  opOK_val hd hn fun ok0 w0 a w β r => by
    have h := (hx _ _ _ _ _ _ r).2 rfl
    generalize hz : a.eval x = z at h
    cases h with
    | @rptr _ _ ad cs hok hl hcell hrd =>
      obtain ⟨z, hrun, hrv⟩ := load_rv (ok := okOf ok0 w0 w σ.hs β) (β := β) (v := .dat T e) hu hl hcell h1 rfl (.dat hrd) (by simp)
      exact ⟨z, by simp only [execOp, ho, hz, Sem.run_bind, hrun, Result.andThen_ok, Sem.run_pure], hrv⟩

/-- The part of an abstract value at a path of fields. -/
inductive GetAt (P : Program) : TypeId → AV → List Nat → Nat → TypeId → AV → Prop where
  | nil {T : TypeId} {c : AV} : GetAt P T c [] 0 T c
  | agg {T T' : TypeId} {fs : Array Field} {f : Field} {vs : List AV} {v r : AV} {i off : Nat} {p : List Nat} (hu : P.underlying T = some (.struct fs)) (hf : fs[i]? = some f) (hv : vs[i]? = some v) (hb : f.offset + P.cellsOf f.type ≤ P.cellsOf T)
      (h : GetAt P f.type v p off T' r) : GetAt P T (.agg T vs) (i :: p) (f.offset + off) T' r
  | dat {T T' : TypeId} {fs : Array Field} {f : Field} {d : Dt} {r : AV} {i off : Nat} {p : List Nat} (hu : P.underlying T = some (.struct fs)) (hf : fs[i]? = some f) (hb : f.offset + P.cellsOf f.type ≤ P.cellsOf T)
      (h : GetAt P f.type (.dat f.type (d.fld i)) p off T' r) : GetAt P T (.dat T d) (i :: p) (f.offset + off) T' r
  | arr {T E : TypeId} {len i : Nat} {d e : Dt} (hu : P.underlying T = some (.array len E)) (hm : P.cellsOf T = len * P.cellsOf E) (he : d.toLst[i]? = some e) : GetAt P T (.dat T d) [i] (i * P.cellsOf E) E (.dat E e)

theorem seg_seg (cs : List Value) (o1 n1 o2 n2 : Nat) (h : o2 + n2 ≤ n1) : ((((cs.drop o1).take n1).drop o2).take n2) = (cs.drop (o1 + o2)).take n2 := by
  rw [List.drop_take, List.take_take, List.drop_drop]
  congr 1
  omega

theorem GetAt.sound {ok : Nat → Prop} {w : World} {β : Nat → Option Value} {T' : TypeId} {c r : AV} {p : List Nat} {off : Nat} (h : GetAt P T c p off T' r) : ∀ {cs : List Value}, RA P ok w β c cs → cs.length = P.cellsOf T →
    off + P.cellsOf T' ≤ P.cellsOf T ∧ RA P ok w β r ((cs.drop off).take (P.cellsOf T')) := by
  induction h with
  | nil => intro cs hr hl; exact ⟨by omega, by simpa [← hl] using hr⟩
  | @agg T T' fs f vs v r i off p hu hf hv hb _ ih =>
    intro cs hr hl
    cases hr with
    | agg hu' hl' hc h1 h =>
      rw [hu] at hu'; cases hu'
      obtain ⟨h2, h3⟩ := ih (h i f v hf hv) (by simp only [List.length_take, List.length_drop]; omega)
      refine ⟨by omega, ?_⟩
      rw [seg_seg _ _ _ _ _ h2] at h3
      exact h3
  | @dat T T' fs f d r i off p hu hf hb _ ih =>
    intro cs hr hl
    cases hr with
    | dat hrd =>
      obtain ⟨_, _, _, hfld⟩ := hrd.agg_inv hu
      obtain ⟨h2, h3⟩ := ih (.dat (hfld i f hf)) (by simp only [List.length_take, List.length_drop]; omega)
      refine ⟨by omega, ?_⟩
      rw [seg_seg _ _ _ _ _ h2] at h3
      exact h3
  | @arr T E len i d e hu hm he =>
    intro cs hr hl
    cases hr with
    | dat hrd =>
      obtain ⟨_, h2, _, _, h3⟩ := hrd.arr_inv hu
      have hlt : i < len := by rw [← h2]; exact (List.getElem?_eq_some_iff.1 he).1
      have hmul : (i + 1) * P.cellsOf E ≤ len * P.cellsOf E := Nat.mul_le_mul_right _ hlt
      rw [Nat.add_mul, Nat.one_mul] at hmul
      exact ⟨by omega, .dat (h3 i e he)⟩

theorem seg_cells {w : World} {b o m : Nat} {c : Array Value} {t : TypeId} {fr : Nat × Nat} (hb : w.heap[b]? = some (.cells c t fr)) : ∀ j u, ((c.toList.drop o).take m)[j]? = some u → w.cell? ((⟨b, o, none⟩ : Addr).add j) = some u := by
  intro j u hu
  rw [add_mk, cell_of_row w b (o + j) c t fr hb]
  rw [List.getElem?_take] at hu
  split at hu
  · rw [List.getElem?_drop] at hu
    simpa using hu
  · cases hu

theorem op_load_ptr {d l off : Nat} {path : List Nat} {S : TypeId} {c : AV} {D : TypeDesc} (ho : o.op = .load T x) (hd : o.dst = some d) (hn : d < n) (hu : P.underlying T = some D) (h1 : aggT P T = false → P.cellsOf T = 1)
    (hx : Ev P σ x (.ptr l path off)) (hl : lk σ.hs l = .box S c) (hg : GetAt P S c path off T v) (hi : v.isAgg P = aggT P T) (ht : ∀ vs, v ≠ .tup vs) : OpOK P n o σ (σ.put d v) :=
  opOK_val hd hn fun ok0 w0 a w β r => by
    have h := (hx _ _ _ _ _ _ r).2 rfl
    generalize hz : a.eval x = z at h
    cases h with
    | @ptr _ b _ _ hb =>
      have hob := r.hs l
      rw [hl, hb] at hob
      obtain ⟨b', cs, e, hblk, hsz, hra⟩ := hob
      cases e
      obtain ⟨h2, h3⟩ := hg.sound hra (by simpa using hsz)
      obtain ⟨z, hrun, hrv⟩ := load_rv (β := β) (v := v) hu (by simp only [List.length_take, List.length_drop, Array.length_toList]; omega) (seg_cells (o := off) (m := P.cellsOf T) hblk) h1 hi h3 ht
      exact ⟨z, by simp only [execOp, ho, hz, Sem.run_bind, hrun, Result.andThen_ok, Sem.run_pure], hrv⟩

/-- The fields lie side by side. -/
def layGo (P : Program) (m : Nat) : Nat → List Field → Bool
  | e, [] => decide (e ≤ m)
  | e, f :: r => decide (e ≤ f.offset) && layGo P m (f.offset + P.cellsOf f.type) r
def layB (P : Program) (T : TypeId) (fs : Array Field) : Bool := layGo P (P.cellsOf T) 0 fs.toList
theorem layGo_le {m : Nat} : ∀ {fs : List Field} {e : Nat}, layGo P m e fs = true → e ≤ m
  | [], e, h => by simpa [layGo] using h
  | f :: r, e, h => by
    simp only [layGo, Bool.and_eq_true, decide_eq_true_eq] at h
    have := layGo_le h.2
    omega
theorem layGo_get {m : Nat} : ∀ {fs : List Field} {e : Nat}, layGo P m e fs = true → ∀ (i : Nat) (f : Field), fs[i]? = some f → e ≤ f.offset ∧ f.offset + P.cellsOf f.type ≤ m
  | [], _, _, _, _, hf => by simp at hf
  | g :: r, e, h, 0, f, hf => by
    simp only [layGo, Bool.and_eq_true, decide_eq_true_eq] at h
    simp only [List.getElem?_cons_zero, Option.some.injEq] at hf
    subst hf
    exact ⟨h.1, layGo_le h.2⟩
  | g :: r, e, h, i + 1, f, hf => by
    simp only [layGo, Bool.and_eq_true, decide_eq_true_eq] at h
    simp only [List.getElem?_cons_succ] at hf
    have := layGo_get h.2 i f hf
    omega
theorem layGo_apart {m : Nat} : ∀ {fs : List Field} {e : Nat}, layGo P m e fs = true → ∀ (i j : Nat) (f g : Field), fs[i]? = some f → fs[j]? = some g → i < j → f.offset + P.cellsOf f.type ≤ g.offset
  | [], _, _, _, _, _, _, hf, _, _ => by simp at hf
  | x :: r, e, h, 0, j, f, g, hf, hg, hij => by
    simp only [layGo, Bool.and_eq_true, decide_eq_true_eq] at h
    simp only [List.getElem?_cons_zero, Option.some.injEq] at hf
    subst hf
    obtain ⟨j, rfl⟩ : ∃ j', j = j' + 1 := ⟨j - 1, by omega⟩
    simp only [List.getElem?_cons_succ] at hg
    exact (layGo_get h.2 j g hg).1
  | x :: r, e, h, i + 1, j, f, g, hf, hg, hij => by
    simp only [layGo, Bool.and_eq_true, decide_eq_true_eq] at h
    obtain ⟨j, rfl⟩ : ∃ j', j = j' + 1 := ⟨j - 1, by omega⟩
    simp only [List.getElem?_cons_succ] at hf hg
    exact layGo_apart h.2 i j f g hf hg (by omega)
theorem lay_in {fs : Array Field} (h : layB P T fs = true) {i : Nat} {f : Field} (hf : fs[i]? = some f) : f.offset + P.cellsOf f.type ≤ P.cellsOf T := (layGo_get h i f (by simpa using hf)).2
theorem lay_apart {fs : Array Field} (h : layB P T fs = true) {i j : Nat} {f g : Field} (hf : fs[i]? = some f) (hg : fs[j]? = some g) (hij : i ≠ j) : f.offset + P.cellsOf f.type ≤ g.offset ∨ g.offset + P.cellsOf g.type ≤ f.offset := by
  rcases Nat.lt_or_gt_of_ne hij with h1 | h1
  · exact .inl (layGo_apart h i j f g (by simpa using hf) (by simpa using hg) h1)
  · exact .inr (layGo_apart h j i g f (by simpa using hg) (by simpa using hf) h1)

def splice (cs : List Value) (off : Nat) (vs : List Value) : List Value := cs.take off ++ vs ++ cs.drop (off + vs.length)
theorem splice_len {cs : List Value} {off : Nat} {vs : List Value} (h : off + vs.length ≤ cs.length) : (splice cs off vs).length = cs.length := by
  simp only [splice, List.length_append, List.length_take, List.length_drop]; omega
theorem splice_get {cs : List Value} {off : Nat} {vs : List Value} (h : off + vs.length ≤ cs.length) (k : Nat) : (splice cs off vs)[k]? = if off ≤ k ∧ k < off + vs.length then vs[k - off]? else cs[k]? := by
  unfold splice
  by_cases h1 : k < off
  · rw [List.append_assoc, List.getElem?_append_left (by simp; omega), if_neg (by omega), List.getElem?_take, if_pos h1]
  · by_cases h2 : k < off + vs.length
    · rw [if_pos ⟨by omega, h2⟩, List.append_assoc, List.getElem?_append_right (by simp; omega), List.getElem?_append_left (by simp; omega)]
      congr 1
      simp; omega
    · rw [if_neg (by omega), List.getElem?_append_right (by simp; omega), List.getElem?_drop]
      congr 1
      simp; omega
theorem seg_get (cs : List Value) (o1 m k : Nat) : ((cs.drop o1).take m)[k]? = if k < m then cs[o1 + k]? else none := by
  rw [List.getElem?_take, List.getElem?_drop]
theorem splice_far {cs : List Value} {off : Nat} {vs : List Value} (h : off + vs.length ≤ cs.length) {o1 m : Nat} (ha : o1 + m ≤ off ∨ off + vs.length ≤ o1) : ((splice cs off vs).drop o1).take m = (cs.drop o1).take m := by
  apply List.ext_getElem?
  intro k
  rw [seg_get, seg_get]
  split
  · rw [splice_get h, if_neg (by omega)]
  · rfl
theorem splice_in {cs : List Value} {off : Nat} {vs : List Value} {o1 m : Nat} (h : off + vs.length ≤ m) (hm : o1 + m ≤ cs.length) : ((splice cs (o1 + off) vs).drop o1).take m = splice ((cs.drop o1).take m) off vs := by
  apply List.ext_getElem?
  intro k
  rw [splice_get (by simp only [List.length_take, List.length_drop]; omega), seg_get, seg_get]
  by_cases hk : k < m
  · rw [if_pos hk, splice_get (by omega)]
    by_cases h1 : off ≤ k ∧ k < off + vs.length
    · rw [if_pos (by omega), if_pos h1]
      congr 1
      omega
    · rw [if_neg (by omega), if_neg h1, if_pos hk]
  · rw [if_neg hk, if_neg (by omega), if_neg hk]
theorem splice_all {cs vs : List Value} (h : cs.length = vs.length) : splice cs 0 vs = vs := by
  simp [splice, ← h]

def canD (P : Program) (T : TypeId) (d : Dt) : Dt :=
  match P.underlying T with
  | some (.int _) => .int d.toInt
  | some .bool => .bool d.toBool
  | some .string => .str d.toStr
  | some (.slice _) => .lst d.toLst
  | _ => d
theorem canD_eq {ok : Nat → Prop} {w : World} {d : Dt} {cs : List Value} (h : RD P ok w T d cs) : canD P T d = d := by
  unfold canD
  split
  · rename_i hu; exact (h.int_inv hu).1.symm
  · rename_i hu; exact (h.bool_inv hu).1.symm
  · rename_i hu; exact (h.str_inv hu).1.symm
  · rename_i hu; exact (h.lst_inv hu).1.symm
  · rfl
def explL (P : Program) : List Field → Nat → Dt → List AV
  | [], _, _ => []
  | f :: r, j, d => .dat f.type (canD P f.type (d.fld j)) :: explL P r (j + 1) d
theorem explL_len : ∀ (fs : List Field) (j : Nat) (d : Dt), (explL P fs j d).length = fs.length
  | [], _, _ => rfl
  | _ :: r, j, d => by simp [explL, explL_len r (j + 1) d]
theorem explL_get : ∀ (fs : List Field) (j : Nat) (d : Dt) (i : Nat) (f : Field), fs[i]? = some f → (explL P fs j d)[i]? = some (.dat f.type (canD P f.type (d.fld (j + i))))
  | [], _, _, _, _, h => by simp at h
  | g :: r, j, d, 0, f, h => by simp only [List.getElem?_cons_zero, Option.some.injEq] at h; subst h; simp [explL]
  | g :: r, j, d, i + 1, f, h => by
    simp only [List.getElem?_cons_succ] at h
    have := explL_get r (j + 1) d i f h
    simp only [explL, List.getElem?_cons_succ, this]
    rw [show j + 1 + i = j + (i + 1) by omega]
def expl (P : Program) (fs : Array Field) (d : Dt) : List AV := explL P fs.toList 0 d
theorem RA.expl {ok : Nat → Prop} {w : World} {β : Nat → Option Value} {d : Dt} {cs : List Value} {fs : Array Field} (h : RA P ok w β (.dat T d) cs) (hu : P.underlying T = some (.struct fs)) : RA P ok w β (.agg T (expl P fs d)) cs := by
  cases h with
  | dat h =>
    obtain ⟨_, hc, h1, hf⟩ := h.agg_inv hu
    refine .agg hu (by simp [Am.expl, explL_len]) hc h1 fun i f v hfi hv => ?_
    have := explL_get (P := P) fs.toList 0 d i f (by simpa using hfi)
    rw [Am.expl, this] at hv
    simp only [Nat.zero_add, Option.some.injEq] at hv
    subst hv
    have hr := hf i f hfi
    rw [canD_eq hr]
    exact .dat hr

inductive SetAt (P : Program) (v : AV) (T' : TypeId) : TypeId → AV → List Nat → Nat → AV → Prop where
  | nil {c : AV} : SetAt P v T' T' c [] 0 v
  | agg {T : TypeId} {fs : Array Field} {f : Field} {vs : List AV} {old new : AV} {i off : Nat} {p : List Nat} (hu : P.underlying T = some (.struct fs)) (hlay : layB P T fs = true) (hf : fs[i]? = some f) (hv : vs[i]? = some old)
      (h : SetAt P v T' f.type old p off new) : SetAt P v T' T (.agg T vs) (i :: p) (f.offset + off) (.agg T (vs.set i new))
  | dat {T : TypeId} {fs : Array Field} {d : Dt} {i off : Nat} {p : List Nat} {new : AV} (hu : P.underlying T = some (.struct fs)) (h : SetAt P v T' T (.agg T (expl P fs d)) (i :: p) off new) : SetAt P v T' T (.dat T d) (i :: p) off new
  | arr {T : TypeId} {len i : Nat} {d x : Dt} (hu : P.underlying T = some (.array len T')) (hm : P.cellsOf T = len * P.cellsOf T') (hi : i < d.toLst.length) (hv : v = .dat T' x) : SetAt P v T' T (.dat T d) [i] (i * P.cellsOf T') (.dat T (.lst (d.toLst.set i x)))

theorem SetAt.sound {ok : Nat → Prop} {w : World} {β : Nat → Option Value} {T' : TypeId} {c c' : AV} {p : List Nat} {off : Nat} {us : List Value} (h : SetAt P v T' T c p off c') (hus : RA P ok w β v us) (hul : us.length = P.cellsOf T') :
    ∀ {cs : List Value}, RA P ok w β c cs → cs.length = P.cellsOf T → off + P.cellsOf T' ≤ P.cellsOf T ∧ RA P ok w β c' (splice cs off us) := by
  induction h with
  | nil => intro cs _ hl; exact ⟨by omega, by rw [splice_all (by omega)]; exact hus⟩
  | @agg T fs f vs old new i off p hu hlay hf hv _ ih =>
    intro cs hr hl
    cases hr with
    | agg hu' hl' hc h1 h =>
      rw [hu] at hu'; cases hu'
      have hin := lay_in hlay hf
      obtain ⟨h2, h3⟩ := ih (h i f old hf hv) (by simp only [List.length_take, List.length_drop]; omega)
      have hfit : f.offset + off + us.length ≤ cs.length := by omega
      refine ⟨by omega, .agg hu (by simpa using hl') (by rw [splice_len hfit]; exact hc) ?_ ?_⟩
      · intro u hu2
        obtain ⟨k, hk⟩ := List.getElem?_of_mem hu2
        rw [splice_get hfit] at hk
        split at hk
        · exact hus.oneCell u (List.mem_of_getElem? hk)
        · exact h1 u (List.mem_of_getElem? hk)
      · intro j g u hg hu2
        rw [List.getElem?_set] at hu2
        by_cases hij : i = j
        · subst hij
          rw [hf] at hg
          cases hg
          have hlt : i < vs.length := (List.getElem?_eq_some_iff.1 hv).1
          simp only [if_true, hlt, Option.some.injEq] at hu2
          subst hu2
          rw [splice_in (by omega) (by omega)]
          exact h3
        · rw [if_neg hij] at hu2
          have hgin := lay_in hlay hg
          rw [splice_far hfit (by rcases lay_apart hlay hf hg hij with h4 | h4 <;> omega)]
          exact h j g u hg hu2
  | @dat T fs d i off p new hu _ ih =>
    intro cs hr hl
    exact ih (hr.expl hu) hl
  | @arr T len i d x hu hm hi hv =>
    intro cs hr hl
    subst hv
    cases hr with
    | dat hrd =>
      obtain ⟨_, h2, _, h1, h3⟩ := hrd.arr_inv hu
      have hmul : ∀ j, j < len → (j + 1) * P.cellsOf T' ≤ len * P.cellsOf T' := fun j hj => Nat.mul_le_mul_right _ hj
      have hmi := hmul i (by omega)
      rw [Nat.add_mul, Nat.one_mul] at hmi
      have hfit : i * P.cellsOf T' + us.length ≤ cs.length := by omega
      refine ⟨by omega, .dat (.arr hu (by simpa using h2) (by rw [splice_len hfit]; exact hl) ?_ ?_)⟩
      · intro u hu2
        obtain ⟨k, hk⟩ := List.getElem?_of_mem hu2
        rw [splice_get hfit] at hk
        split at hk
        · exact hus.oneCell u (List.mem_of_getElem? hk)
        · exact h1 u (List.mem_of_getElem? hk)
      · intro j u hu2
        rw [List.getElem?_set] at hu2
        by_cases hij : i = j
        · subst hij
          simp only [if_true, hi, Option.some.injEq] at hu2
          subst hu2
          have := splice_in (cs := cs) (vs := us) (o1 := i * P.cellsOf T') (off := 0) (m := P.cellsOf T') (by omega) (by omega)
          rw [Nat.add_zero, splice_all (by simp only [List.length_take, List.length_drop]; omega)] at this
          rw [this]
          cases hus with
          | dat h => exact h
        · rw [if_neg hij] at hu2
          have hj : j < len := by rw [← h2]; exact (List.getElem?_eq_some_iff.1 hu2).1
          rw [splice_far hfit (by
            rcases Nat.lt_or_gt_of_ne hij with h4 | h4
            · have := Nat.mul_le_mul_right (P.cellsOf T') h4
              rw [Nat.succ_mul] at this
              omega
            · have := Nat.mul_le_mul_right (P.cellsOf T') h4
              rw [Nat.succ_mul] at this
              omega)]
          exact h3 j u hu2

theorem run_storeAt_block (w : World) {b off : Nat} {c : Array Value} {t : TypeId} (hb : w.heap[b]? = some (.cells c t (0, 0))) {z : Value} (hs : z.cells.size = P.cellsOf T) (h0 : P.cellsOf T ≠ 0) (hfit : off + z.cells.size ≤ c.size) (h1 : ∀ u ∈ z.cells.toList, u.oneCell' = true) :
    (Instr.storeAt T (.pointer (some ⟨b, off, none⟩)) z).run P w = .ok () (w.setRow b (splice c.toList off z.cells.toList).toArray) := by
  have hst := run_storeCells_at P b off t z.cells.toList 0 c w hb (by simpa using hfit) h1
  cases hi : P.info? T with
  | none => simp [Program.cellsOf, hi] at h0
  | some i =>
    have hsz : z.cells.size = i.size := by simpa [Program.cellsOf, hi] using hs
    simp only [Nat.add_zero] at hst
    simp [Instr.storeAt, Instr.sureAddr, storeVar, sizeOf, typeInfo, hi, hsz, hst, splice]

theorem op_store_ptr {l off : Nat} {path : List Nat} {S : TypeId} {c c' : AV} (ho : o.op = .store T x y) (hd : o.dst = none) (h0 : P.cellsOf T ≠ 0)
    (hx : Ev P σ x (.ptr l path off)) (hy : Ev P σ y v) (hv0 : v ≠ .dead) (hv1 : ∀ vs, v ≠ .tup vs)
    (hs : ∀ (ok : Nat → Prop) (w : World) (β : Nat → Option Value) (cs : List Value), RA P ok w β v cs → (v.isAgg P = false → cs.length = 1) → cs.length = P.cellsOf T)
    (hl : lk σ.hs l = .box S c) (hg : SetAt P v T S c path off c') : OpOK P n o σ (σ.lay l (.box S c')) := by
  rintro ok0 w0 a w ⟨β, r⟩ K Q hK
  have h := (hx _ _ _ _ _ _ r).2 rfl
  generalize hz : a.eval x = z at h
  cases h with
  | @ptr _ b _ _ hb =>
    have hv := RV.to1 hv0 hv1 (hy _ _ _ _ _ _ r)
    have hc := hv.cells
    have hsz : (a.eval y).cells.size = P.cellsOf T := by
      have := hs _ _ _ _ hc (fun hi => by
        have hr := hv.2 hi
        have h1' := hr.oneCell (a.eval y) (by simp)
        generalize a.eval y = z at h1'
        cases z <;> simp_all [Value.cells, Value.oneCell'])
      simpa using this
    have hob := r.hs l
    rw [hl, hb] at hob
    obtain ⟨b', cs, e', hblk, hcsz, hra⟩ := hob
    obtain rfl : b = b' := by cases e'; rfl
    obtain ⟨h2, h3⟩ := hg.sound hc (by simpa using hsz) hra (by simpa using hcsz)
    have hrun := run_storeAt_block (P := P) (T := T) (off := off) w hblk hsz h0 (by omega) (fun u hu => hc.oneCell u hu)
    unfold Oper.wp execOp
    simp only [ho, hz, Sem.run_bind, hrun, Result.andThen_ok, Sem.run_pure]
    refine hK _ _ ?_
    rw [hd]
    have hlen : (splice cs.toList off (a.eval y).cells.toList).length = cs.size := by rw [splice_len (by simp; omega)]; simp
    have how : owns σ.hs β l b := ⟨by rw [hl]; rfl, _, hb, .inl rfl⟩
    refine ⟨_, r.upd l (.box S c') (β l) _ (.inl rfl) rfl rfl rfl (by simp) (fun b2 hb2 hne => setRow_other w _ _ _ fun e => hne (by rw [e]; exact how)) (fun z2 b2 _ hz2 hb2 => .inr ⟨by rw [hl]; rfl, z2, hz2, hb2⟩) fun hx hk => ?_⟩
    refine ⟨b, (splice cs.toList off (a.eval y).cells.toList).toArray, hb, setRow_heap w b cs _ S _ hblk, by rw [List.size_toArray]; exact hlen.trans hcsz, ?_⟩
    exact RA.mono h3 hk hx
end
end Go.Am
