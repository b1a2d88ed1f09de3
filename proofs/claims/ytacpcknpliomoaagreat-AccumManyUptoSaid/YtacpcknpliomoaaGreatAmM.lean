/- The abstract machine: maps from strings. -/
import Derived.Test.YtacpcknpliomoaaGreatAm9
import Derived.MapKept
set_option linter.unusedVariables false
set_option linter.unusedSimpArgs false
namespace Go.Am
open Go.RowKit

theorem ba_beq_iff (a b : ByteArray) : (a == b) = true ↔ a = b := by
  cases a with | mk x => cases b with | mk y =>
  show (x == y) = true ↔ _
  simp
theorem ba_beq_self (a : ByteArray) : (a == a) = true := (ba_beq_iff a a).2 rfl
theorem ba_beq_ne {a b : ByteArray} (h : a ≠ b) : (a == b) = false := by
  cases e : (a == b) with
  | false => rfl
  | true => exact absurd ((ba_beq_iff a b).1 e) h

def mget : List Dt → ByteArray → Option Dt
  | [], _ => none
  | e :: r, s => bif (e.S 0) == s then some (e.fld 1) else mget r s
def mgetD (es : List Dt) (s : ByteArray) (z : Dt) : Dt := (mget es s).getD z
def mhas (es : List Dt) (s : ByteArray) : Bool := (mget es s).isSome
def mput : List Dt → ByteArray → Dt → List Dt
  | [], s, v => [.agg [.str s, v]]
  | e :: r, s, v => bif (e.S 0) == s then .agg [.str s, v] :: r else e :: mput r s v

section
variable {P : Program} {n : Nat} {o : Oper} {σ τ : St} {x y : Operand} {v res : AV} {T : TypeId}

/-- An entry of the map as a datum. -/
def EnOK (P : Program) (ok : Nat → Prop) (w : World) (VT : TypeId) (e : MapEntry) (d : Dt) : Prop := ∃ (s : ByteArray) (x : Dt), d = .agg [.str s, x] ∧ s.size ≤ maxLen ∧ e.key = .string s ∧ RD P ok w VT x [e.val]

theorem find_map {ok : Nat → Prop} {w : World} {VT : TypeId} (s : ByteArray) : ∀ (arr : List MapEntry) (es : List Dt) (i : Nat), arr.length = es.length → (∀ (j : Nat) (e : MapEntry) (d : Dt), arr[j]? = some e → es[j]? = some d → EnOK P ok w VT e d) →
    (Instr.findNow .string (.string s) arr i = some none ∧ mget es s = none ∧ ∀ v, mput es s v = es ++ [.agg [.str s, v]]) ∨
    ∃ (j : Nat) (e : MapEntry) (x : Dt), Instr.findNow .string (.string s) arr i = some (some (i + j, e.val)) ∧ arr[j]? = some e ∧ e.key = .string s ∧ es[j]? = some (.agg [.str s, x]) ∧ RD P ok w VT x [e.val] ∧ mget es s = some x ∧ ∀ v, mput es s v = es.set j (.agg [.str s, v])
  | [], [], i, _, _ => .inl ⟨rfl, rfl, fun v => rfl⟩
  | [], d :: es, i, hl, _ => by simp at hl
  | e :: arr, [], i, hl, _ => by simp at hl
  | e :: arr, d :: es, i, hl, h => by
    obtain ⟨s', x, rfl, hs, hk, hr⟩ := h 0 e d rfl rfl
    have ih := find_map s arr es (i + 1) (by simpa using hl) (fun j e d h1 h2 => h (j + 1) e d (by simpa using h1) (by simpa using h2))
    by_cases hb : s = s'
    · subst hb
      refine .inr ⟨0, e, x, ?_, rfl, hk, rfl, hr, ?_, fun v => ?_⟩
      · simp [Instr.findNow, hk, Instr.sameNow, ba_beq_self]
      · simp [mget, Dt.S, Dt.fld, Dt.toStr, ba_beq_self]
      · simp [mput, Dt.S, Dt.fld, Dt.toStr, ba_beq_self]
    · have h1 : (s == s') = false := ba_beq_ne hb
      have h2 : (s' == s) = false := ba_beq_ne (Ne.symm hb)
      have e1 : Instr.findNow .string (.string s) (e :: arr) i = Instr.findNow .string (.string s) arr (i + 1) := by simp [Instr.findNow, hk, Instr.sameNow, h1]
      have e2 : mget (Dt.agg [.str s', x] :: es) s = mget es s := by simp [mget, Dt.S, Dt.fld, Dt.toStr, h2]
      have e3 : ∀ v, mput (Dt.agg [.str s', x] :: es) s v = Dt.agg [.str s', x] :: mput es s v := fun v => by simp [mput, Dt.S, Dt.fld, Dt.toStr, h2]
      rcases ih with ⟨q1, q2, q3⟩ | ⟨j, e', x', q1, q2, q3, q4, q5, q6, q7⟩
      · exact .inl ⟨e1.trans q1, e2.trans q2, fun v => by rw [e3, q3]; rfl⟩
      · refine .inr ⟨j + 1, e', x', ?_, by simpa using q2, q3, by simpa using q4, q5, e2.trans q6, fun v => by rw [e3, q7]; rfl⟩
        rw [e1, q1]
        congr 3
        omega

/-- What a name of a map stands for. -/
theorem row_map {K : OkX} {w0 w : World} {a : Act} {β : Nat → Option Value} {l : Nat} {T5 : TypeId} {es : List Dt} (r : RelB P K w0 n σ a w β) (hx : Ev P σ x (.row l)) (hl : lk σ.hs l = .map T5 es) :
    ∃ (b : Nat) (KT VT : TypeId) (arr : List MapEntry) (clock : Nat), a.eval x = .map (some b) ∧ β l = some (.map (some b)) ∧ P.underlying T5 = some (.map KT VT) ∧ P.underlying KT = some .string ∧ w.heap[b]? = some (.map arr.toArray clock) ∧ arr.length = es.length ∧
      ∀ (i : Nat) (e : MapEntry) (d : Dt), arr[i]? = some e → es[i]? = some d → EnOK P (okOf K w0 w σ.hs β) w VT e d := by
  have h := (hx _ _ _ _ _ _ r).2 rfl
  generalize hz : a.eval x = z at h
  cases h with
  | row h1 h2 =>
    have hob := r.hs l
    rw [hl, h1] at hob
    obtain ⟨b, KT, VT, arr, clock, e, q1, q2, q3, q4, q5⟩ := hob
    cases e
    exact ⟨b, KT, VT, arr, clock, rfl, h1, q1, q2, q3, q4, q5⟩

theorem run_lookup {w : World} {b : Nat} {KT VT : TypeId} {arr : Array MapEntry} {clock : Nat} {s : ByteArray} {ok2 : Bool} {r : Option (Nat × Value)} {z : Value} (hu : P.underlying T = some (.map KT VT)) (hk : P.underlying KT = some .string) (hb : w.heap[b]? = some (.map arr clock))
    (hf : Instr.findNow .string (.string s) arr.toList 0 = some r) (hz : (zeroValue VT).run P w = .ok z w) :
    (Instr.lookup T (.map (some b)) (.string s) ok2).run P w = .ok (if ok2 then .tuple #[(match r with | some (_, v) => v | none => z), .bool r.isSome] else (match r with | some (_, v) => v | none => z)) w := by
  have h1 := MapKept.run_getObj_map (P := P) hb
  have h2 : ∀ e, (Instr.checkKey e 10000 KT (.string s)).run P w = .ok () w := fun e => by
    unfold Instr.checkKey
    simp [run_underlying hk]
  have h3 := MapKept.run_findKey (w := w) hk hf
  unfold Instr.lookup
  cases r with
  | none => cases ok2 <;> simp [run_underlying hu, h1, h2, h3, hz]
  | some p => cases ok2 <;> simp [run_underlying hu, h1, h2, h3]

theorem op_lookup {d l : Nat} {KT VT T5 TS : TypeId} {es : List Dt} {s : ByteArray} {z : Dt} (ho : o.op = .lookup T x y false) (hd : o.dst = some d) (hn : d < n) (hu : P.underlying T = some (.map KT VT)) (hk : P.underlying KT = some .string) (ha : aggT P VT = false)
    (hz : ∃ (i : TypeInfo) (zv : Value), P.info? VT = some i ∧ i.zero = some zv ∧ ∀ (ok : Nat → Prop) (w : World), RD P ok w VT z [zv])
    (hs : P.underlying TS = some .string) (hx : Ev P σ x (.row l)) (hy : Ev P σ y (.dat TS (.str s))) (hl : lk σ.hs l = .map T5 es) (h5 : P.underlying T5 = some (.map KT VT)) : OpOK P n o σ (σ.put d (.dat VT (mgetD es s z))) := by
  refine opOK_val hd hn fun ok0 w0 a w β r => ?_
  obtain ⟨b, KT', VT', arr, clock, e1, e2, e3, e4, e5, e6, e7⟩ := row_map r hx hl
  rw [h5] at e3; cases e3
  obtain ⟨i, zv, hi, hzv, hzr⟩ := hz
  have ey := (RV.str hs (hy _ _ _ _ _ _ r)).2.1
  simp only [Dt.toStr] at ey
  have hzr0 : (zeroValue VT).run P w = .ok zv w := by simp [zeroValue, typeInfo, hi, hzv]
  rcases find_map s arr es 0 e6 e7 with ⟨q1, q2, _⟩ | ⟨j, e, x', q1, q2, q3, q4, q5, q6, _⟩
  · refine ⟨zv, ?_, (RV.dat_one ha).2 (by rw [mgetD, q2]; exact hzr _ _)⟩
    unfold execOp
    simp only [ho, e1, ey, Sem.run_bind, run_lookup hu hk e5 q1 hzr0]
    simp
  · refine ⟨e.val, ?_, (RV.dat_one ha).2 (by rw [mgetD, q6]; exact q5)⟩
    unfold execOp
    simp only [ho, e1, ey, Sem.run_bind, run_lookup hu hk e5 q1 hzr0]
    simp
/-- A key that is not there: the nil slice. -/
theorem op_lookupN {d l : Nat} {KT VT T5 TS : TypeId} {es : List Dt} {s : ByteArray} (ho : o.op = .lookup T x y false) (hd : o.dst = some d) (hn : d < n) (hu : P.underlying T = some (.map KT VT)) (hk : P.underlying KT = some .string)
    (hz : ∃ (i : TypeInfo), P.info? VT = some i ∧ i.zero = some (.slice none 0 0))
    (hs : P.underlying TS = some .string) (hx : Ev P σ x (.row l)) (hy : Ev P σ y (.dat TS (.str s))) (hl : lk σ.hs l = .map T5 es) (h5 : P.underlying T5 = some (.map KT VT)) (hm : mhas es s = false) : OpOK P n o σ (σ.put d (.nils VT)) := by
  refine opOK_val hd hn fun ok0 w0 a w β r => ?_
  obtain ⟨b, KT', VT', arr, clock, e1, e2, e3, e4, e5, e6, e7⟩ := row_map r hx hl
  rw [h5] at e3; cases e3
  obtain ⟨i, hi, hzv⟩ := hz
  have ey := (RV.str hs (hy _ _ _ _ _ _ r)).2.1
  simp only [Dt.toStr] at ey
  have hzr0 : (zeroValue VT).run P w = .ok (.slice none 0 0) w := by simp [zeroValue, typeInfo, hi, hzv]
  rcases find_map s arr es 0 e6 e7 with ⟨q1, q2, _⟩ | ⟨j, e, x', q1, q2, q3, q4, q5, q6, _⟩
  · refine ⟨.slice none 0 0, ?_, ⟨fun hi => by simp [AV.isAgg] at hi, fun _ => .nils⟩⟩
    unfold execOp
    simp only [ho, e1, ey, Sem.run_bind, run_lookup hu hk e5 q1 hzr0]
    simp
  · unfold mhas at hm
    rw [q6] at hm
    simp at hm
theorem op_lookup2 {d l : Nat} {KT VT T5 TS TB : TypeId} {es : List Dt} {s : ByteArray} {z : Dt} (ho : o.op = .lookup T x y true) (hd : o.dst = some d) (hn : d < n) (hu : P.underlying T = some (.map KT VT)) (hk : P.underlying KT = some .string) (ha : aggT P VT = false) (hB : P.underlying TB = some .bool)
    (hz : ∃ (i : TypeInfo) (zv : Value), P.info? VT = some i ∧ i.zero = some zv ∧ ∀ (ok : Nat → Prop) (w : World), RD P ok w VT z [zv])
    (hs : P.underlying TS = some .string) (hx : Ev P σ x (.row l)) (hy : Ev P σ y (.dat TS (.str s))) (hl : lk σ.hs l = .map T5 es) (h5 : P.underlying T5 = some (.map KT VT)) : OpOK P n o σ (σ.put d (.tup [.dat VT (mgetD es s z), .dat TB (.bool (mhas es s))])) := by
  refine opOK_val hd hn fun ok0 w0 a w β r => ?_
  obtain ⟨b, KT', VT', arr, clock, e1, e2, e3, e4, e5, e6, e7⟩ := row_map r hx hl
  rw [h5] at e3; cases e3
  obtain ⟨i, zv, hi, hzv, hzr⟩ := hz
  have ey := (RV.str hs (hy _ _ _ _ _ _ r)).2.1
  simp only [Dt.toStr] at ey
  have hzr0 : (zeroValue VT).run P w = .ok zv w := by simp [zeroValue, typeInfo, hi, hzv]
  have hbA : aggT P TB = false := aggT_of_not hB rfl
  have key : ∀ (u : Value) (x' : Dt) (q : Bool), RD P (okOf ok0 w0 w σ.hs β) w VT x' [u] → RV P (okOf ok0 w0 w σ.hs β) w β (.tup [.dat VT x', .dat TB (.bool q)]) (.tuple #[u, .bool q]) := fun u x' q hr => by
    refine ⟨_, rfl, rfl, fun i av hv => ?_⟩
    match i with
    | 0 => simp only [List.getElem?_cons_zero, Option.some.injEq] at hv; subst hv; exact (RV.dat_one ha).2 hr
    | 1 => simp only [List.getElem?_cons_succ, List.getElem?_cons_zero, Option.some.injEq] at hv; subst hv; exact (RV.dat_one hbA).2 (.bool hB)
    | i + 2 => simp at hv
  rcases find_map s arr es 0 e6 e7 with ⟨q1, q2, _⟩ | ⟨j, e, x', q1, q2, q3, q4, q5, q6, _⟩
  · refine ⟨.tuple #[zv, .bool false], ?_, ?_⟩
    · unfold execOp
      simp only [ho, e1, ey, Sem.run_bind, run_lookup hu hk e5 q1 hzr0]
      simp
    · rw [mgetD, mhas, q2]; exact key _ _ _ (hzr _ _)
  · refine ⟨.tuple #[e.val, .bool true], ?_, ?_⟩
    · unfold execOp
      simp only [ho, e1, ey, Sem.run_bind, run_lookup hu hk e5 q1 hzr0]
      simp
    · rw [mgetD, mhas, q6]; exact key _ _ _ q5

theorem map_rv {ok : Nat → Prop} {w : World} {β : Nat → Option Value} {l b : Nat} (h : β l = some (.map (some b))) : RV P ok w β (.row l) (.map (some b)) :=
  ⟨fun hi => by simp [AV.isAgg] at hi, fun _ => .row h rfl⟩

theorem op_makeMap {d l : Nat} {KT VT : TypeId} (ho : o.op = .makeMap T none) (hd : o.dst = some d) (hn : d < n) (hu : P.underlying T = some (.map KT VT)) (hk : P.underlying KT = some .string) (hf : lk σ.hs l = .free) (hk0 : σ.k0 ≤ l) :
    OpOK P n o σ ((σ.lay l (.map T [])).put d (.row l)) := by
  rintro ok0 w0 a w ⟨β, r⟩ K Q hK
  have hrun : (Instr.makeMap T none).run P w = .ok (.map (some w.heap.size)) (w.alloc (.map #[] 0)) := by
    unfold Instr.makeMap newObj
    rfl
  unfold Oper.wp execOp
  simp only [ho, Option.map_none, Sem.run_bind, hrun, Result.andThen_ok, Sem.run_pure]
  refine hK _ _ ?_
  rw [hd]
  have hfree := r.hs l
  rw [hf] at hfree
  refine Rel.put (r.upd l (.map T []) (some (.map (some w.heap.size))) (w.alloc (.map #[] 0)) (.inr ⟨hfree, hk0⟩) rfl rfl rfl (by simp) (fun b hb _ => Below.heap_alloc w _ b hb) (fun z b _ hz hb => .inl (by cases hz; simp [Blk, blk] at hb; omega)) fun hx hk' => ?_) hn (map_rv (upB_same _ _ _))
  exact ⟨w.heap.size, KT, VT, [], 0, rfl, hu, hk, (MapKept.heap_alloc w _).1, rfl, fun i e d he => by simp at he⟩

theorem op_mapUpdate {l : Nat} {u : Operand} {KT VT K5 V5 T5 TS TV : TypeId} {es : List Dt} {s : ByteArray} {x' : Dt} (ho : o.op = .mapUpdate T x y u) (hd : o.dst = none) (hu : P.underlying T = some (.map KT VT)) (hk : P.underlying KT = some .string) (h5 : P.underlying T5 = some (.map K5 V5)) (ha : aggT P TV = false) (hcm : compat P TV V5 = true)
    (hs : P.underlying TS = some .string) (hx : Ev P σ x (.row l)) (hy : Ev P σ y (.dat TS (.str s))) (hv : Ev P σ u (.dat TV x')) (hl : lk σ.hs l = .map T5 es) : OpOK P n o σ (σ.lay l (.map T5 (mput es s x'))) := by
  rintro ok0 w0 a w ⟨β, r⟩ K Q hK
  obtain ⟨b, KT', VT', arr, clock, e1, e2, e3, e4, e5, e6, e7⟩ := row_map r hx hl
  rw [h5] at e3; cases e3
  have ey0 := RV.str hs (hy _ _ _ _ _ _ r)
  have ey := ey0.2.1
  have es' := ey0.2.2
  simp only [Dt.toStr] at ey es'
  have hrd := ((RV.dat_one ha).1 (hv _ _ _ _ _ _ r)).compat hcm
  generalize hz : a.eval u = z at hrd
  have h1 := MapKept.run_getObj_map (P := P) e5
  have h2 : ∀ e, (Instr.checkKey e 10000 KT (.string s)).run P w = .ok () w := fun e => by
    unfold Instr.checkKey
    simp [run_underlying hk]
  have h4 := fun o' => MapKept.run_setObj_map (P := P) o' e5
  have hblt : b < w.heap.size := (Array.getElem?_eq_some_iff.1 e5).1
  have how : owns σ.hs β l b := ⟨by rw [hl]; rfl, _, e2, .inl rfl⟩
  have fin : ∀ (arr' : List MapEntry) (clock' : Nat) (es2 : List Dt), arr'.length = es2.length → (∀ (ok : Nat → Prop) (w' : World), (∀ c, okOf ok0 w0 w σ.hs β c → ok c ∧ w'.heap[c]? = w.heap[c]?) → ∀ (i : Nat) (e : MapEntry) (d : Dt), arr'[i]? = some e → es2[i]? = some d → EnOK P ok w' V5 e d) →
      Rel P ok0 w0 n (σ.lay l (.map T5 es2)) a { w with heap := w.heap.setIfInBounds b (.map arr'.toArray clock') } := fun arr' clock' es2 hlen hen => by
    refine ⟨_, r.upd l (.map T5 es2) (β l) _ (.inl rfl) rfl rfl rfl (by simp) (fun b2 hb2 hne => ?_) (fun z2 b2 _ hz2 hb2 => .inr ⟨by rw [hl]; rfl, z2, hz2, hb2⟩) fun hx hk' => ?_⟩
    · exact (MapKept.heap_set e5 (o' := .map arr'.toArray clock')).2 b2 fun e => hne (by rw [e]; exact how)
    · exact ⟨b, K5, V5, arr', clock', e2, h5, e4, (MapKept.heap_set e5).1, hlen, fun i e d he hd => hen _ _ hk' i e d he hd⟩
  have old : ∀ (ok : Nat → Prop) (w' : World), (∀ c, okOf ok0 w0 w σ.hs β c → ok c ∧ w'.heap[c]? = w.heap[c]?) → ∀ (i : Nat) (e : MapEntry) (d : Dt), arr[i]? = some e → es[i]? = some d → EnOK P ok w' V5 e d := fun ok w' hk' i e d he hd => by
    obtain ⟨s2, x2, p1, p2, p3, p4⟩ := e7 i e d he hd
    exact ⟨s2, x2, p1, p2, p3, p4.mono hk'⟩
  rcases find_map s arr es 0 e6 e7 with ⟨q1, q2, q7⟩ | ⟨j, e, x2, q1, q2, q3, q4, q5, q6, q7⟩
  · have h3 := MapKept.run_findKey (w := w) hk q1
    have hrun : (Instr.mapUpdate T (.map (some b)) (.string s) z).run P w = .ok () { w with heap := w.heap.setIfInBounds b (.map (arr ++ [({ key := .string s, val := z, born := clock } : MapEntry)]).toArray (clock + 1)) } := by
      unfold Instr.mapUpdate
      simp [run_underlying hu, h1, h2, h3, h4]
    unfold Oper.wp execOp
    simp only [ho, e1, ey, hz, Sem.run_bind, hrun, Result.andThen_ok, Sem.run_pure]
    refine hK _ _ ?_
    rw [hd, q7]
    refine fin _ _ _ (by simp [e6]) fun ok w' hk' i e d he hd => ?_
    rcases Nat.lt_or_ge i arr.length with hlt | hge
    · rw [List.getElem?_append_left hlt] at he
      rw [List.getElem?_append_left (by omega)] at hd
      exact old ok w' hk' i e d he hd
    · rw [List.getElem?_append_right hge] at he
      rw [List.getElem?_append_right (by omega)] at hd
      have e0 : i - arr.length = 0 := by
        have := (List.getElem?_eq_some_iff.1 he).1
        simp at this; omega
      rw [e0] at he
      rw [← e6, e0] at hd
      cases he
      cases hd
      exact ⟨s, x', rfl, es', rfl, hrd.mono hk'⟩
  · have h3 := MapKept.run_findKey (w := w) hk q1
    simp only [Nat.zero_add] at h3
    have hj : j < arr.length := (List.getElem?_eq_some_iff.1 q2).1
    have hgk : (((arr.toArray)[j]?.map (·.key)).getD (.string s)) = .string s := by simp [q2, q3]
    have hks : (Instr.keyThatStays (.string s) (.string s)).run P w = .ok (.string s) w := by
      unfold Instr.keyThatStays
      simp [Instr.sameBits, ba_beq_self]
    have hrun : (Instr.mapUpdate T (.map (some b)) (.string s) z).run P w = .ok () { w with heap := w.heap.setIfInBounds b (.map (arr.set j { e with key := .string s, val := z }).toArray clock) } := by
      unfold Instr.mapUpdate
      have em : (arr.toArray.modify j fun e0 => { e0 with key := .string s, val := z }) = (arr.set j { e with key := .string s, val := z }).toArray := by
        apply Array.ext_getElem?
        intro k
        simp only [Array.getElem?_modify, List.getElem?_toArray, List.getElem?_set]
        by_cases hk2 : j = k
        · subst hk2
          have e9 := (List.getElem?_eq_some_iff.1 q2).2
          simp [hj, e9]
        · simp [hk2]
      simp only [Sem.run_bind, run_underlying hu, Result.andThen_ok, h1, h2, h3, hgk, hks, h4, em]
    unfold Oper.wp execOp
    simp only [ho, e1, ey, hz, Sem.run_bind, hrun, Result.andThen_ok, Sem.run_pure]
    refine hK _ _ ?_
    rw [hd, q7]
    refine fin _ _ _ (by simp [e6]) fun ok w' hk' i e1 d he hd => ?_
    rw [List.getElem?_set] at he hd
    by_cases hk2 : j = i
    · subst hk2
      simp [hj] at he
      simp [show j < es.length by omega] at hd
      subst he; subst hd
      exact ⟨s, x', rfl, es', rfl, hrd.mono hk'⟩
    · simp only [hk2, if_false] at he hd
      exact old ok w' hk' i e1 d he hd
end
end Go.Am
