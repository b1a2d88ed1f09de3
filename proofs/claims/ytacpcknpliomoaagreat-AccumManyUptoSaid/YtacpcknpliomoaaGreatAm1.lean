/- An abstract machine over any program. Part 1: plain data, abstract values, objects, and their relation to the model's memory. -/
import Derived.WalkKit
import Derived.Deep.MidRow
import Derived.Great.BuildSlice
import Derived.LoopN
set_option linter.unusedVariables false
set_option linter.unusedSimpArgs false
namespace Go.Am
open Go.RowKit

inductive Dt where
  | int (n : Int)
  | bool (b : Bool)
  | str (s : ByteArray)
  | agg (ds : List Dt)
  | lst (es : List Dt)

namespace Dt
def fld : Dt → Nat → Dt
  | .agg ds, i => ds.getD i (.int 0)
  | _, _ => .int 0
def toInt : Dt → Int
  | .int n => n
  | _ => 0
def toBool : Dt → Bool
  | .bool b => b
  | _ => false
def toStr : Dt → ByteArray
  | .str s => s
  | _ => ByteArray.empty
def toLst : Dt → List Dt
  | .lst es => es
  | _ => []
def I (d : Dt) (i : Nat) : Int := (d.fld i).toInt
def B (d : Dt) (i : Nat) : Bool := (d.fld i).toBool
def S (d : Dt) (i : Nat) : ByteArray := (d.fld i).toStr
def L (d : Dt) (i : Nat) : List Dt := (d.fld i).toLst
end Dt

/-- Cells 'cs' represent the datum 'd' of type 'T'; the memory behind them lies in blocks that are 'ok'. -/
inductive RD (P : Program) (ok : Nat → Prop) (w : World) : TypeId → Dt → List Value → Prop where
  | int {T : TypeId} {k : IntKind} {n : Int} (hu : P.underlying T = some (.int k)) (h1 : k.min ≤ n) (h2 : n ≤ k.max) : RD P ok w T (.int n) [.int k n]
  | bool {T : TypeId} {b : Bool} (hu : P.underlying T = some .bool) : RD P ok w T (.bool b) [.bool b]
  | str {T : TypeId} {s : ByteArray} (hu : P.underlying T = some .string) (hs : s.size ≤ maxLen) : RD P ok w T (.str s) [.string s]
  | agg {T : TypeId} {fs : Array Field} {ds : List Dt} {cs : List Value} (hu : P.underlying T = some (.struct fs)) (hl : ds.length = fs.size) (hc : cs.length = P.cellsOf T) (h1 : ∀ c ∈ cs, c.oneCell' = true)
      (h : ∀ (i : Nat) (f : Field) (d : Dt), fs[i]? = some f → ds[i]? = some d → RD P ok w f.type d ((cs.drop f.offset).take (P.cellsOf f.type))) : RD P ok w T (.agg ds) cs
  | lst {T E : TypeId} {es : List Dt} {a : Option Addr} {len cap : Nat} (ad : Addr) (g : Nat → List Value) (hu : P.underlying T = some (.slice E)) (hl : len = es.length) (hc : len ≤ cap) (hm : cap ≤ maxLen)
      (ha : 0 < len → a = some ad ∧ ok ad.block)
      (hg : ∀ i, i < len → (g i).length = P.cellsOf E ∧ (∀ c ∈ g i, c.oneCell' = true) ∧ ∀ j v, (g i)[j]? = some v → w.cell? (ad.add (i * P.cellsOf E + j)) = some v)
      (h : ∀ (i : Nat) (d : Dt), es[i]? = some d → RD P ok w E d (g i)) : RD P ok w T (.lst es) [.slice a len cap]
  | arr {T E : TypeId} {n : Nat} {es : List Dt} {cs : List Value} (hu : P.underlying T = some (.array n E)) (hl : es.length = n) (hc : cs.length = P.cellsOf T) (h1 : ∀ c ∈ cs, c.oneCell' = true)
      (h : ∀ (i : Nat) (d : Dt), es[i]? = some d → RD P ok w E d ((cs.drop (i * P.cellsOf E)).take (P.cellsOf E))) : RD P ok w T (.lst es) cs
  | nilp {T E : TypeId} (hu : P.underlying T = some (.pointer E)) : RD P ok w T (.lst []) [.pointer none]
  | ptr {T E : TypeId} {d : Dt} {cs : List Value} (ad : Addr) (hu : P.underlying T = some (.pointer E)) (ho : ok ad.block) (hl : cs.length = P.cellsOf E) (hc : ∀ j v, cs[j]? = some v → w.cell? (ad.add j) = some v) (h : RD P ok w E d cs) : RD P ok w T (.lst [d]) [.pointer (some ad)]

theorem add_add (a : Addr) (i j : Nat) : (a.add i).add j = a.add (i + j) := by
  unfold Addr.add
  by_cases hi : i = 0 <;> by_cases hj : j = 0 <;> simp [hi, hj, Nat.add_assoc]
theorem block_add (a : Addr) (n : Nat) : (a.add n).block = a.block := by unfold Addr.add; split <;> rfl
theorem add_mk (b o j : Nat) : (⟨b, o, none⟩ : Addr).add j = ⟨b, o + j, none⟩ := by unfold Addr.add; split <;> simp_all

section
variable {P : Program} {ok ok' : Nat → Prop} {w w' : World} {T : TypeId} {d : Dt} {cs : List Value}

theorem RD.mono (h : RD P ok w T d cs) (hk : ∀ b, ok b → ok' b ∧ w'.heap[b]? = w.heap[b]?) : RD P ok' w' T d cs := by
  induction h with
  | int hu h1 h2 => exact .int hu h1 h2
  | bool hu => exact .bool hu
  | str hu hs => exact .str hu hs
  | agg hu hl hc h1 _ ih => exact .agg hu hl hc h1 ih
  | @lst T E es a len cap ad g hu hl hc hm ha hg _ ih =>
    refine .lst ad g hu hl hc hm (fun h0 => ⟨(ha h0).1, (hk _ (ha h0).2).1⟩) (fun i hi => ?_) ih
    obtain ⟨h1, h2, h3⟩ := hg i hi
    refine ⟨h1, h2, fun j v hv => ?_⟩
    have hb := (hk _ (ha (by omega)).2).2
    rw [World.cell?_of_block (w := w) (by rw [block_add]; exact hb)]
    exact h3 j v hv
  | arr hu hl hc h1 _ ih => exact .arr hu hl hc h1 ih
  | nilp hu => exact .nilp hu
  | ptr ad hu ho hl hc _ ih =>
    refine .ptr ad hu (hk _ ho).1 hl (fun j v hv => ?_) ih
    rw [World.cell?_of_block (w := w) (by rw [block_add]; exact (hk _ ho).2)]
    exact hc j v hv

theorem RD.oneCell (h : RD P ok w T d cs) : ∀ c ∈ cs, c.oneCell' = true := by
  cases h with
  | int => simp [Value.oneCell']
  | bool => simp [Value.oneCell']
  | str => simp [Value.oneCell']
  | agg _ _ _ h1 _ => exact h1
  | lst => simp [Value.oneCell']
  | arr _ _ _ h1 _ => exact h1
  | nilp => simp [Value.oneCell']
  | ptr => simp [Value.oneCell']

theorem RD.int_inv {k : IntKind} (h : RD P ok w T d cs) (hu : P.underlying T = some (.int k)) : d = .int d.toInt ∧ cs = [.int k d.toInt] ∧ k.min ≤ d.toInt ∧ d.toInt ≤ k.max := by
  cases h <;> simp_all [Dt.toInt]
theorem RD.bool_inv (h : RD P ok w T d cs) (hu : P.underlying T = some .bool) : d = .bool d.toBool ∧ cs = [.bool d.toBool] := by
  cases h <;> simp_all [Dt.toBool]
theorem RD.str_inv (h : RD P ok w T d cs) (hu : P.underlying T = some .string) : d = .str d.toStr ∧ cs = [.string d.toStr] ∧ d.toStr.size ≤ maxLen := by
  cases h <;> simp_all [Dt.toStr]
theorem RD.agg_inv {fs : Array Field} (h : RD P ok w T d cs) (hu : P.underlying T = some (.struct fs)) : (∃ ds, d = .agg ds ∧ ds.length = fs.size) ∧ cs.length = P.cellsOf T ∧ (∀ c ∈ cs, c.oneCell' = true) ∧
    ∀ i f, fs[i]? = some f → RD P ok w f.type (d.fld i) ((cs.drop f.offset).take (P.cellsOf f.type)) := by
  cases h with
  | agg hu' hl hc h1 h =>
    rw [hu] at hu'
    cases hu'
    refine ⟨⟨_, rfl, hl⟩, hc, h1, fun i f hf => ?_⟩
    rename_i ds
    have hi : i < ds.length := by
      rw [hl]
      exact (Array.getElem?_eq_some_iff.1 hf).1
    have : ds[i]? = some ((Dt.agg ds).fld i) := by simp [Dt.fld, List.getD, List.getElem?_eq_getElem hi]
    exact h i f _ hf this
  | int hu' => rw [hu] at hu'; cases hu'
  | bool hu' => rw [hu] at hu'; cases hu'
  | str hu' => rw [hu] at hu'; cases hu'
  | lst _ _ hu' => rw [hu] at hu'; cases hu'
  | arr hu' => rw [hu] at hu'; cases hu'
  | nilp hu' => rw [hu] at hu'; cases hu'
  | ptr _ hu' => rw [hu] at hu'; cases hu'
theorem RD.lst_inv {E : TypeId} (h : RD P ok w T d cs) (hu : P.underlying T = some (.slice E)) : d = .lst d.toLst ∧ ∃ (a : Option Addr) (cap : Nat) (ad : Addr) (g : Nat → List Value), cs = [.slice a d.toLst.length cap] ∧ d.toLst.length ≤ cap ∧ cap ≤ maxLen ∧
    (0 < d.toLst.length → a = some ad ∧ ok ad.block) ∧
    (∀ i, i < d.toLst.length → (g i).length = P.cellsOf E ∧ (∀ c ∈ g i, c.oneCell' = true) ∧ ∀ j v, (g i)[j]? = some v → w.cell? (ad.add (i * P.cellsOf E + j)) = some v) ∧
    (∀ i x, d.toLst[i]? = some x → RD P ok w E x (g i)) := by
  cases h with
  | lst ad g hu' hl hc hm ha hg h =>
    rw [hu] at hu'
    cases hu'
    subst hl
    exact ⟨rfl, _, _, ad, g, rfl, hc, hm, ha, hg, h⟩
  | int hu' => rw [hu] at hu'; cases hu'
  | bool hu' => rw [hu] at hu'; cases hu'
  | str hu' => rw [hu] at hu'; cases hu'
  | agg hu' => rw [hu] at hu'; cases hu'
  | arr hu' => rw [hu] at hu'; cases hu'
  | nilp hu' => rw [hu] at hu'; cases hu'
  | ptr _ hu' => rw [hu] at hu'; cases hu'
theorem RD.arr_inv {E : TypeId} {n : Nat} (h : RD P ok w T d cs) (hu : P.underlying T = some (.array n E)) : d = .lst d.toLst ∧ d.toLst.length = n ∧ cs.length = P.cellsOf T ∧ (∀ c ∈ cs, c.oneCell' = true) ∧
    ∀ i x, d.toLst[i]? = some x → RD P ok w E x ((cs.drop (i * P.cellsOf E)).take (P.cellsOf E)) := by
  cases h with
  | arr hu' hl hc h1 h =>
    rw [hu] at hu'
    cases hu'
    exact ⟨rfl, hl, hc, h1, h⟩
  | int hu' => rw [hu] at hu'; cases hu'
  | bool hu' => rw [hu] at hu'; cases hu'
  | str hu' => rw [hu] at hu'; cases hu'
  | agg hu' => rw [hu] at hu'; cases hu'
  | lst _ _ hu' => rw [hu] at hu'; cases hu'
  | nilp hu' => rw [hu] at hu'; cases hu'
  | ptr _ hu' => rw [hu] at hu'; cases hu'
theorem RD.ptr_inv {E : TypeId} (h : RD P ok w T d cs) (hu : P.underlying T = some (.pointer E)) : d = .lst d.toLst ∧ ((d.toLst = [] ∧ cs = [.pointer none]) ∨ ∃ (e : Dt) (ad : Addr) (c : List Value), d.toLst = [e] ∧ cs = [.pointer (some ad)] ∧ ok ad.block ∧ c.length = P.cellsOf E ∧ (∀ j v, c[j]? = some v → w.cell? (ad.add j) = some v) ∧ RD P ok w E e c) := by
  cases h with
  | nilp hu' => exact ⟨rfl, .inl ⟨rfl, rfl⟩⟩
  | ptr ad hu' ho hl hc h =>
    rw [hu] at hu'
    cases hu'
    exact ⟨rfl, .inr ⟨_, ad, _, rfl, rfl, ho, hl, hc, h⟩⟩
  | int hu' => rw [hu] at hu'; cases hu'
  | bool hu' => rw [hu] at hu'; cases hu'
  | str hu' => rw [hu] at hu'; cases hu'
  | agg hu' => rw [hu] at hu'; cases hu'
  | lst _ _ hu' => rw [hu] at hu'; cases hu'
  | arr hu' => rw [hu] at hu'; cases hu'
end

inductive AV where
  | dat (T : TypeId) (d : Dt)
  | agg (T : TypeId) (vs : List AV)
  | row (l : Nat)
  | ptr (l : Nat) (path : List Nat) (off : Nat)
  | eptr (l i sz : Nat) (path : List Nat) (off : Nat)
  | rptr (T : TypeId) (d : Dt)
  | fn (f : FuncId) (caps : List AV)
  | tup (vs : List AV)
  | nils (T : TypeId)
  | nif (b : Bool)
  | ifc (T : TypeId) (v : AV)
  | mth (T : TypeId) (name : String)
  | dead

inductive Ob where
  | box (T : TypeId) (c : AV)
  | row (T : TypeId) (es : List Dt)
  | rowA (T : TypeId) (vs : List AV)
  | frz (T : TypeId) (es : List Dt)
  | map (T : TypeId) (es : List Dt)
  | rowD (T T2 : TypeId) (c : Option Nat) (k : Nat) (es : List Dt) (h : Option (Nat × Nat))
  | tok (T : TypeId) (ls : List Dt)
  | gone
  | free

def aggT (P : Program) (T : TypeId) : Bool :=
  match P.underlying T with
  | some (.struct _) => true
  | some (.array _ _) => true
  | _ => false
def AV.isAgg (P : Program) : AV → Bool
  | .dat T _ => aggT P T
  | .agg T _ => aggT P T
  | _ => false

/-- Cells represent an abstract value; 'β l': the pointer or slice that the name 'l' stands for. -/
inductive RA (P : Program) (ok : Nat → Prop) (w : World) (β : Nat → Option Value) : AV → List Value → Prop where
  | dat {T : TypeId} {d : Dt} {cs : List Value} (h : RD P ok w T d cs) : RA P ok w β (.dat T d) cs
  | agg {T : TypeId} {fs : Array Field} {vs : List AV} {cs : List Value} (hu : P.underlying T = some (.struct fs)) (hl : vs.length = fs.size) (hc : cs.length = P.cellsOf T) (h1 : ∀ c ∈ cs, c.oneCell' = true)
      (h : ∀ (i : Nat) (f : Field) (v : AV), fs[i]? = some f → vs[i]? = some v → RA P ok w β v ((cs.drop f.offset).take (P.cellsOf f.type))) : RA P ok w β (.agg T vs) cs
  | row {l : Nat} {z : Value} (h : β l = some z) (h1 : z.oneCell' = true) : RA P ok w β (.row l) [z]
  | ptr {l b off : Nat} {path : List Nat} (h : β l = some (.pointer (some ⟨b, 0, none⟩))) : RA P ok w β (.ptr l path off) [.pointer (some ⟨b, off, none⟩)]
  | eptr {l i sz b n cap off : Nat} {path : List Nat} (h : β l = some (.slice (some ⟨b, 0, none⟩) n cap)) : RA P ok w β (.eptr l i sz path off) [.pointer (some ⟨b, i * sz + off, none⟩)]
  | eptrB {l i sz b off : Nat} {path : List Nat} (h : β l = some (.pointer (some ⟨b, 0, none⟩))) : RA P ok w β (.eptr l i sz path off) [.pointer (some ⟨b, i * sz + off, none⟩)]
  | rptr {T : TypeId} {d : Dt} {ad : Addr} {cs : List Value} (ho : ok ad.block) (hl : cs.length = P.cellsOf T) (hc : ∀ j v, cs[j]? = some v → w.cell? (ad.add j) = some v) (h : RD P ok w T d cs) : RA P ok w β (.rptr T d) [.pointer (some ad)]
  | fn {f : FuncId} {caps : List AV} {cv : Array Value} (hl : cv.size = caps.length) (h : ∀ (i : Nat) (av : AV), caps[i]? = some av → RA P ok w β av [cv.getD i undef]) : RA P ok w β (.fn f caps) [.func (.func f) #[] cv]
  | nils {T : TypeId} : RA P ok w β (.nils T) [.slice none 0 0]
  | nif : RA P ok w β (.nif true) [.nilIface]
  | nni {T : TypeId} {z : Value} : RA P ok w β (.nif false) [.iface T z]
  | mth {T : TypeId} {name : String} {z : Value} {cv : Array Value} : RA P ok w β (.mth T name) [.func (.method name) #[.iface T z] cv]
  | ifc1 {T : TypeId} {v : AV} {z : Value} (hi : v.isAgg P = false) (h : RA P ok w β v [z]) : RA P ok w β (.ifc T v) [.iface T z]
  | ifcA {T : TypeId} {v : AV} {cs : List Value} (hi : v.isAgg P = true) (h : RA P ok w β v cs) : RA P ok w β (.ifc T v) [.iface T (.agg cs.toArray)]
  | dead {cs : List Value} (h : ∀ c ∈ cs, c.oneCell' = true) : RA P ok w β .dead cs

section
variable {P : Program} {ok ok' : Nat → Prop} {w w' : World} {β β' : Nat → Option Value} {v : AV} {cs : List Value}

/-- Names stay what they are. -/
def Ext (β β' : Nat → Option Value) : Prop := ∀ l z, β l = some z → β' l = some z
theorem Ext.refl (β : Nat → Option Value) : Ext β β := fun _ _ h => h
theorem Ext.trans {β'' : Nat → Option Value} (h : Ext β β') (k : Ext β' β'') : Ext β β'' := fun l z e => k l z (h l z e)

theorem RA.mono (h : RA P ok w β v cs) (hk : ∀ b, ok b → ok' b ∧ w'.heap[b]? = w.heap[b]?) (hβ : Ext β β') : RA P ok' w' β' v cs := by
  induction h with
  | dat h => exact .dat (h.mono hk)
  | agg hu hl hc h1 _ ih => exact .agg hu hl hc h1 ih
  | row h h1 => exact .row (hβ _ _ h) h1
  | ptr h => exact .ptr (hβ _ _ h)
  | eptr h => exact .eptr (hβ _ _ h)
  | eptrB h => exact .eptrB (hβ _ _ h)
  | rptr ho hl hc h =>
    refine .rptr (hk _ ho).1 hl (fun j v hv => ?_) (h.mono hk)
    rw [World.cell?_of_block (w := w) (by rw [block_add]; exact (hk _ ho).2)]
    exact hc j v hv
  | fn hl _ ih => exact .fn hl ih
  | nils => exact .nils
  | nif => exact .nif
  | nni => exact .nni
  | mth => exact .mth
  | ifc1 hi _ ih => exact .ifc1 hi ih
  | ifcA hi _ ih => exact .ifcA hi ih
  | dead h => exact .dead h

theorem RA.oneCell (h : RA P ok w β v cs) : ∀ c ∈ cs, c.oneCell' = true := by
  cases h with
  | dat h => exact h.oneCell
  | agg _ _ _ h1 _ => exact h1
  | row _ h => simpa using h
  | ptr => simp [Value.oneCell']
  | eptr => simp [Value.oneCell']
  | eptrB => simp [Value.oneCell']
  | rptr => simp [Value.oneCell']
  | fn => simp [Value.oneCell']
  | nils => simp [Value.oneCell']
  | nif => simp [Value.oneCell']
  | nni => simp [Value.oneCell']
  | mth => simp [Value.oneCell']
  | ifc1 => simp [Value.oneCell']
  | ifcA => simp [Value.oneCell']
  | dead h => exact h
end

def tk : List AV → Nat → AV
  | [], _ => .dead
  | v :: _, 0 => v
  | _ :: r, k + 1 => tk r k
def setT : List AV → Nat → AV → List AV
  | [], 0, v => [v]
  | [], k + 1, v => .dead :: setT [] k v
  | _ :: r, 0, v => v :: r
  | u :: r, k + 1, v => u :: setT r k v
theorem tk_set : ∀ (ts : List AV) (d : Nat) (v : AV) (k : Nat), tk (setT ts d v) k = if k = d then v else tk ts k
  | [], 0, v, 0 => rfl
  | [], 0, v, k + 1 => by simp [setT, tk]
  | [], d + 1, v, 0 => by simp [setT, tk]
  | [], d + 1, v, k + 1 => by simp [setT, tk, tk_set [] d v k]
  | u :: r, 0, v, 0 => rfl
  | u :: r, 0, v, k + 1 => by simp [setT, tk]
  | u :: r, d + 1, v, 0 => by simp [setT, tk]
  | u :: r, d + 1, v, k + 1 => by simp [setT, tk, tk_set r d v k]
def lk : List Ob → Nat → Ob
  | [], _ => .free
  | o :: _, 0 => o
  | _ :: r, k + 1 => lk r k
def setO : List Ob → Nat → Ob → List Ob
  | [], 0, o => [o]
  | [], k + 1, o => .free :: setO [] k o
  | _ :: r, 0, o => o :: r
  | u :: r, k + 1, o => u :: setO r k o
theorem lk_set : ∀ (hs : List Ob) (d : Nat) (o : Ob) (k : Nat), lk (setO hs d o) k = if k = d then o else lk hs k
  | [], 0, v, 0 => rfl
  | [], 0, v, k + 1 => by simp [setO, lk]
  | [], d + 1, v, 0 => by simp [setO, lk]
  | [], d + 1, v, k + 1 => by simp [setO, lk, lk_set [] d v k]
  | u :: r, 0, v, 0 => rfl
  | u :: r, 0, v, k + 1 => by simp [setO, lk]
  | u :: r, d + 1, v, 0 => by simp [setO, lk]
  | u :: r, d + 1, v, k + 1 => by simp [setO, lk, lk_set r d v k]
theorem lk_same (hs : List Ob) (l : Nat) (o : Ob) : lk (setO hs l o) l = o := by simp [lk_set]
theorem lk_other (hs : List Ob) (l k : Nat) (o : Ob) (h : k ≠ l) : lk (setO hs l o) k = lk hs k := by simp [lk_set, h]

structure St where
  ts : List AV
  hs : List Ob
  k0 : Nat

def blk : Value → Option Nat
  | .pointer (some a) => some a.block
  | .slice (some a) _ _ => some a.block
  | .map r => r
  | _ => none
def Ob.isOwn : Ob → Bool
  | .box _ _ => true
  | .row _ _ => true
  | .rowA _ _ => true
  | .map _ _ => true
  | .rowD _ _ _ _ _ _ => true
  | .tok _ _ => true
  | _ => false
/-- The blocks of a value: that of a pointer or slice, or those of a tuple of slices. -/
def Blk (v : Value) (b : Nat) : Prop := blk v = some b ∨ ∃ arr : Array Value, v = .tuple arr ∧ ∃ (i : Nat) (z : Value), arr[i]? = some z ∧ blk z = some b
theorem Blk.of {v : Value} {b : Nat} (h : Blk v b) (hn : ∀ arr, v ≠ .tuple arr) : blk v = some b := by
  rcases h with h | ⟨arr, e, _⟩
  · exact h
  · exact absurd e (hn arr)
def owns (hs : List Ob) (β : Nat → Option Value) (l b : Nat) : Prop := (lk hs l).isOwn = true ∧ ∃ v, β l = some v ∧ Blk v b
/-- Where in an element of type 'E' the slice of type 'T2' lies that it owns: the element itself, or a field. -/
def lkd : Option Nat → Dt → Bool
  | none, .bool _ => true
  | some f, .agg ds => (match ds[f]? with
    | some (.bool _) => true
    | _ => false)
  | _, _ => false
/-- The datum with another one in place of the slice that it owns. -/
def hol : Option Nat → Dt → Dt → Dt
  | none, _, v => v
  | some f, .agg ds, v => .agg (ds.set f v)
  | some _, d, _ => d
def HoleAt (P : Program) (E : TypeId) (c : Option Nat) (T2 fo : Nat) : Prop := P.cellsOf T2 = 1 ∧ fo < P.cellsOf E ∧ ((c = none ∧ T2 = E ∧ fo = 0) ∨ ∃ (i : Nat) (fs : Array Field) (f : Field), c = some i ∧ P.underlying E = some (.struct fs) ∧ fs[i]? = some f ∧ f.type = T2 ∧ f.offset = fo ∧
  ∀ (j : Nat) (g : Field), fs[j]? = some g → j ≠ i → fo < g.offset ∨ g.offset + P.cellsOf g.type ≤ fo)

/-- What a call may read ('ok') and change ('x') of the memory that was there; what the names below 'k0' stand for. -/
structure OkX where
  ok : Nat → Prop
  x : Nat → Prop
  b0 : Nat → Option Value
  k0 : Nat
structure BelowX (X : Nat → Prop) (w w' : World) : Prop where
  os : w'.os = w.os
  tape : w'.tape = w.tape
  output : w'.output = w.output
  size : w.heap.size ≤ w'.heap.size
  block : ∀ b, b < w.heap.size → ¬ X b → w'.heap[b]? = w.heap[b]?
theorem BelowX.refl (X : Nat → Prop) (w : World) : BelowX X w w := ⟨rfl, rfl, rfl, Nat.le_refl _, fun _ _ _ => rfl⟩

def okOf (K : OkX) (w0 w : World) (hs : List Ob) (β : Nat → Option Value) (b : Nat) : Prop :=
  b < w.heap.size ∧ (b < w0.heap.size → K.ok b ∨ K.x b) ∧ ∀ l, ¬ owns hs β l b

def RV1 (P : Program) (ok : Nat → Prop) (w : World) (β : Nat → Option Value) (av : AV) (v : Value) : Prop :=
  (av.isAgg P = true → ∃ cs : List Value, v = .agg cs.toArray ∧ RA P ok w β av cs) ∧ (av.isAgg P = false → RA P ok w β av [v])

def RV (P : Program) (ok : Nat → Prop) (w : World) (β : Nat → Option Value) : AV → Value → Prop
  | .dead, _ => True
  | .tup vs, v => ∃ arr : Array Value, v = .tuple arr ∧ arr.size = vs.length ∧ ∀ (i : Nat) (av : AV), vs[i]? = some av → RV1 P ok w β av (arr.getD i undef)
  | av, v => RV1 P ok w β av v

def ObOK (P : Program) (ok : Nat → Prop) (w : World) (β : Nat → Option Value) : Ob → Option Value → Prop
  | .box T c, v => ∃ (b : Nat) (cs : Array Value), v = some (.pointer (some ⟨b, 0, none⟩)) ∧ w.heap[b]? = some (.cells cs T (0, 0)) ∧ cs.size = P.cellsOf T ∧ RA P ok w β c cs.toList
  | .row T es, v => ∃ (E : TypeId) (z : Value) (xs : List Value), v = some z ∧ P.underlying T = some (.slice E) ∧ w.ownsRow 0 E (P.cellsOf E) z es.length xs ∧ (∀ c ∈ xs, c.oneCell' = true) ∧
      ∀ (i : Nat) (d : Dt), es[i]? = some d → RD P ok w E d ((xs.drop (i * P.cellsOf E)).take (P.cellsOf E))
  | .rowA T vs, v => ∃ (E : TypeId) (z : Value) (xs : List Value), v = some z ∧ P.underlying T = some (.slice E) ∧ w.ownsRow 0 E (P.cellsOf E) z vs.length xs ∧ (∀ c ∈ xs, c.oneCell' = true) ∧
      ∀ (i : Nat) (u : AV), vs[i]? = some u → RA P ok w β u ((xs.drop (i * P.cellsOf E)).take (P.cellsOf E))
  | .frz T es, v => ∃ (z : Value), v = some z ∧ aggT P T = false ∧ RD P ok w T (.lst es) [z]
  | .map T es, v => ∃ (b : Nat) (KT VT : TypeId) (arr : List MapEntry) (clock : Nat), v = some (.map (some b)) ∧ P.underlying T = some (.map KT VT) ∧ P.underlying KT = some .string ∧ w.heap[b]? = some (.map arr.toArray clock) ∧ arr.length = es.length ∧
      ∀ (i : Nat) (e : MapEntry) (d : Dt), arr[i]? = some e → es[i]? = some d → ∃ (s : ByteArray) (x : Dt), d = .agg [.str s, x] ∧ s.size ≤ maxLen ∧ e.key = .string s ∧ RD P ok w VT x [e.val]
  | .rowD T T2 c k es h, v => ∃ (E E2 fo : TypeId) (z : Value) (xs : List Value) (arr : Array Value), v = some z ∧ P.underlying T = some (.slice E) ∧ HoleAt P E c T2 fo ∧ P.underlying T2 = some (.slice E2) ∧ w.ownsRow 0 E (P.cellsOf E) z es.length xs ∧ (∀ c ∈ xs, c.oneCell' = true) ∧
      β k = some (.tuple arr) ∧ es.length ≤ arr.size ∧ ∀ (i : Nat) (d : Dt), es[i]? = some d → (lkd c d = false → RD P ok w E d ((xs.drop (i * P.cellsOf E)).take (P.cellsOf E))) ∧
        (lkd c d = true → RD P ok w E (hol c d (.lst [])) (((xs.drop (i * P.cellsOf E)).take (P.cellsOf E)).set fo (.slice none 0 0)) ∧
        ∃ zi, xs[i * P.cellsOf E + fo]? = some zi ∧ ((∀ l3, h ≠ some (i, l3)) → arr[i]? = some zi) ∧ ∀ l3, h = some (i, l3) → β l3 = some zi)
  | .tok T ls, v => ∃ (E : TypeId) (arr : Array Value), v = some (.tuple arr) ∧ P.underlying T = some (.slice E) ∧ arr.size = ls.length ∧ (∀ (i j : Nat) (zi zj : Value) (b : Nat), arr[i]? = some zi → arr[j]? = some zj → blk zi = some b → blk zj = some b → i = j) ∧
      ∀ (i : Nat) (d : Dt), ls[i]? = some d → ∃ (es : List Dt) (z : Value) (xs : List Value), d = .lst es ∧ arr[i]? = some z ∧ w.ownsRow 0 E (P.cellsOf E) z es.length xs ∧ (∀ c ∈ xs, c.oneCell' = true) ∧
        ∀ (j : Nat) (d : Dt), es[j]? = some d → RD P ok w E d ((xs.drop (j * P.cellsOf E)).take (P.cellsOf E))
  | .gone, _ => True
  | .free, v => v = none

/-- The package's tables: blocks that nobody writes, with their cells. -/
def tabs : List (Nat × List Value) := []
/-- Variables of interface type that nobody writes. -/
def ifcs : List Nat := []
def TabOK (ok : Nat → Prop) (w : World) : Prop := (∀ t ∈ tabs, ok t.1 ∧ ∃ (T : TypeId) (fr : Nat × Nat), w.heap[t.1]? = some (.cells t.2.toArray T fr)) ∧
  ∀ g ∈ ifcs, ok g ∧ ∃ (ev : Value) (T : TypeId) (fr : Nat × Nat), w.heap[g]? = some (.cells #[ev] T fr) ∧ (ev = .nilIface ∨ ∃ te pe, ev = .iface te pe)
theorem TabOK.mono {ok ok' : Nat → Prop} {w w' : World} (h : TabOK ok w) (hk : ∀ b, ok b → ok' b ∧ w'.heap[b]? = w.heap[b]?) : TabOK ok' w' := by
  refine ⟨fun t ht => ?_, fun g hg => ?_⟩
  · obtain ⟨h1, T, fr, h2⟩ := h.1 t ht
    exact ⟨(hk _ h1).1, T, fr, by rw [(hk _ h1).2]; exact h2⟩
  · obtain ⟨h1, ev, T, fr, h2, h3⟩ := h.2 g hg
    exact ⟨(hk _ h1).1, ev, T, fr, by rw [(hk _ h1).2]; exact h2, h3⟩

structure RelB (P : Program) (K : OkX) (w0 : World) (n : Nat) (σ : St) (a : Act) (w : World) (β : Nat → Option Value) : Prop where
  size : a.tmps.size = n
  defers : a.defers = []
  below : BelowX K.x w0 w
  ts : ∀ k, RV P (okOf K w0 w σ.hs β) w β (tk σ.ts k) (a.tmps.getD k undef)
  hs : ∀ l, ObOK P (okOf K w0 w σ.hs β) w β (lk σ.hs l) (β l)
  sep : ∀ l l' b, owns σ.hs β l b → owns σ.hs β l' b → l = l'
  own : ∀ l b, owns σ.hs β l b → w0.heap.size ≤ b ∨ K.x b
  ext : ∀ l, l < K.k0 → β l = K.b0 l
  kk : K.k0 = σ.k0
  tab : TabOK (okOf K w0 w σ.hs β) w

def Rel (P : Program) (K : OkX) (w0 : World) (n : Nat) (σ : St) (a : Act) (w : World) : Prop := ∃ β, RelB P K w0 n σ a w β

section
variable {P : Program} {ok ok' : Nat → Prop} {w w' w0 : World} {β β' : Nat → Option Value} {v : AV} {x : Value}

theorem RV1.mono (h : RV1 P ok w β v x) (hk : ∀ b, ok b → ok' b ∧ w'.heap[b]? = w.heap[b]?) (hβ : Ext β β') : RV1 P ok' w' β' v x :=
  ⟨fun hi => let ⟨cs, e, r⟩ := h.1 hi; ⟨cs, e, r.mono hk hβ⟩, fun hi => (h.2 hi).mono hk hβ⟩
theorem RV.mono (h : RV P ok w β v x) (hk : ∀ b, ok b → ok' b ∧ w'.heap[b]? = w.heap[b]?) (hβ : Ext β β') : RV P ok' w' β' v x := by
  cases v with
  | dead => trivial
  | tup vs =>
    obtain ⟨arr, e, hs, h⟩ := h
    exact ⟨arr, e, hs, fun i av hv => (h i av hv).mono hk hβ⟩
  | _ => exact RV1.mono h hk hβ
theorem RV.of1 (hn : v ≠ .dead) (ht : ∀ vs, v ≠ .tup vs) (h : RV1 P ok w β v x) : RV P ok w β v x := by
  cases v <;> first | exact h | (exact absurd rfl hn) | (exact absurd rfl (ht _))
theorem RV1.toRV (h : RV1 P ok w β v x) (ht : ∀ vs, v ≠ .tup vs) : RV P ok w β v x := by
  cases v <;> first | exact h | trivial | (exact absurd rfl (ht _))
theorem RV.to1 (hn : v ≠ .dead) (ht : ∀ vs, v ≠ .tup vs) (h : RV P ok w β v x) : RV1 P ok w β v x := by
  cases v <;> first | exact h | (exact absurd rfl hn) | (exact absurd rfl (ht _))

theorem ownsRow_of_block {base : Nat} {e : TypeId} {size : Nat} {v : Value} {n : Nat} {xs : List Value} (h : w.ownsRow base e size v n xs) (hb : ∀ b, blk v = some b → w'.heap[b]? = w.heap[b]?) : w'.ownsRow base e size v n xs := by
  obtain ⟨h1, h2⟩ := h
  refine ⟨h1, ?_⟩
  rcases h2 with h2 | ⟨g, cap, cur, rfl, hg, hh, r⟩
  · exact .inl h2
  · exact .inr ⟨g, cap, cur, rfl, hg, by rw [hb g rfl]; exact hh, r⟩
theorem ownsRow_blk {base : Nat} {e : TypeId} {size : Nat} {v : Value} {n : Nat} {xs : List Value} (h : w.ownsRow base e size v n xs) {b : Nat} (hb : blk v = some b) : base ≤ b ∧ b < w.heap.size := by
  obtain ⟨_, h2⟩ := h
  rcases h2 with ⟨rfl, _⟩ | ⟨g, cap, cur, rfl, hg, hh, r⟩
  · cases hb
  · simp only [blk, Option.some.injEq] at hb
    subst hb
    refine ⟨hg, ?_⟩
    rcases Nat.lt_or_ge g w.heap.size with hlt | hge
    · exact hlt
    · rw [Array.getElem?_eq_none hge] at hh; cases hh

theorem _root_.Go.World.ownsRow.notup {base : Nat} {e : TypeId} {size : Nat} {v : Value} {n : Nat} {xs : List Value} (h : w.ownsRow base e size v n xs) (arr : Array Value) : v ≠ .tuple arr := by
  rcases h.2 with ⟨rfl, _⟩ | ⟨g, cap, cur, rfl, _⟩ <;> exact nofun
/-- A row's name stands for no pointer. -/
theorem ObOK.np {o : Ob} {x : Option Value} {p : Option Addr} (h : ObOK P ok w β o x) (ho : (∃ T es, o = .row T es) ∨ (∃ T vs, o = .rowA T vs) ∨ ∃ T T2 c k es h, o = .rowD T T2 c k es h) (hx : x = some (.pointer p)) : False := by
  subst hx
  rcases ho with ⟨T, es, rfl⟩ | ⟨T, es, rfl⟩ | ⟨T, T2, c, k, es, h', rfl⟩
  · obtain ⟨_, z, xs, e, _, hown, _⟩ := h
    cases e
    rcases hown.2 with ⟨e, _⟩ | ⟨_, _, _, e, _⟩ <;> cases e
  · obtain ⟨_, z, xs, e, _, hown, _⟩ := h
    cases e
    rcases hown.2 with ⟨e, _⟩ | ⟨_, _, _, e, _⟩ <;> cases e
  · obtain ⟨_, _, _, z, xs, _, e, _, _, _, hown, _⟩ := h
    cases e
    rcases hown.2 with ⟨e, _⟩ | ⟨_, _, _, e, _⟩ <;> cases e
theorem ObOK.blk_lt {o : Ob} (h : ObOK P ok w β o (some x)) (ho : o.isOwn = true) {b : Nat} (hb : Blk x b) : b < w.heap.size := by
  cases o with
  | box T c =>
    obtain ⟨g, cs, e, hh, _⟩ := h
    cases e
    have hb := hb.of nofun
    simp only [blk, Option.some.injEq] at hb
    subst hb
    rcases Nat.lt_or_ge g w.heap.size with hlt | hge
    · exact hlt
    · rw [Array.getElem?_eq_none hge] at hh; cases hh
  | row E es =>
    obtain ⟨_, z, xs, e, _, hown, _⟩ := h
    cases e
    exact (ownsRow_blk hown (hb.of hown.notup)).2
  | rowA E vs =>
    obtain ⟨_, z, xs, e, _, hown, _⟩ := h
    cases e
    exact (ownsRow_blk hown (hb.of hown.notup)).2
  | rowD E _ _ _ _ _ =>
    obtain ⟨_, _, _, z, xs, _, e, _, _, _, hown, _⟩ := h
    cases e
    exact (ownsRow_blk hown (hb.of hown.notup)).2
  | tok T ls =>
    obtain ⟨E, arr, e, _, hs, _, hr⟩ := h
    cases e
    rcases hb with hb | ⟨_, e, i, z, hz, hb⟩
    · cases hb
    · cases e
      have hi : i < ls.length := by rw [← hs]; exact (Array.getElem?_eq_some_iff.1 hz).1
      obtain ⟨es, z', xs, _, hz', hown, _⟩ := hr i _ (List.getElem?_eq_getElem hi)
      rw [hz] at hz'; cases hz'
      exact (ownsRow_blk hown hb).2
  | frz => cases ho
  | map T es =>
    obtain ⟨g, _, _, arr, clock, e, _, _, hh, _⟩ := h
    cases e
    have hb := hb.of nofun
    simp only [blk, Option.some.injEq] at hb
    subst hb
    rcases Nat.lt_or_ge g w.heap.size with hlt | hge
    · exact hlt
    · rw [Array.getElem?_eq_none hge] at hh; cases hh
  | gone => cases ho
  | free => cases ho

theorem ObOK.mono {o : Ob} {x : Option Value} (h : ObOK P ok w β o x) (hk : ∀ b, ok b → ok' b ∧ w'.heap[b]? = w.heap[b]?) (hb : ∀ z b, o.isOwn = true → x = some z → Blk z b → w'.heap[b]? = w.heap[b]?) (hβ : Ext β β') : ObOK P ok' w' β' o x := by
  cases o with
  | box T c =>
    obtain ⟨g, cs, rfl, hh, hsz, hr⟩ := h
    exact ⟨g, cs, rfl, by rw [hb _ g rfl rfl (.inl rfl)]; exact hh, hsz, hr.mono hk hβ⟩
  | row E es =>
    obtain ⟨E', z, xs, rfl, hu, hown, h1, hr⟩ := h
    exact ⟨E', z, xs, rfl, hu, ownsRow_of_block hown (fun b hb' => hb z b rfl rfl (.inl hb')), h1, fun i d hd => (hr i d hd).mono hk⟩
  | rowA E vs =>
    obtain ⟨E', z, xs, rfl, hu, hown, h1, hr⟩ := h
    exact ⟨E', z, xs, rfl, hu, ownsRow_of_block hown (fun b hb' => hb z b rfl rfl (.inl hb')), h1, fun i u hu2 => (hr i u hu2).mono hk hβ⟩
  | rowD T T2 c k es h' =>
    obtain ⟨E, E2, fo, z, xs, arr, rfl, hu, hh, hu2, hown, h1, hk2, hl, hr⟩ := h
    refine ⟨E, E2, fo, z, xs, arr, rfl, hu, hh, hu2, ownsRow_of_block hown (fun b hb' => hb z b rfl rfl (.inl hb')), h1, hβ _ _ hk2, hl, fun i d hd => ?_⟩
    obtain ⟨q0, q1⟩ := hr i d hd
    refine ⟨fun e => (q0 e).mono hk, fun e => ?_⟩
    obtain ⟨q1, zi, q2, q3, q4⟩ := q1 e
    exact ⟨q1.mono hk, zi, q2, q3, fun l3 e => hβ _ _ (q4 l3 e)⟩
  | tok T ls =>
    obtain ⟨E, arr, rfl, hu, hs, hsep, hr⟩ := h
    refine ⟨E, arr, rfl, hu, hs, hsep, fun i d hd => ?_⟩
    obtain ⟨es, z, xs, q1, q2, q3, q4, q5⟩ := hr i d hd
    exact ⟨es, z, xs, q1, q2, ownsRow_of_block q3 (fun b hb' => hb _ b rfl rfl (.inr ⟨arr, rfl, i, z, q2, hb'⟩)), q4, fun j d hd => (q5 j d hd).mono hk⟩
  | frz T es =>
    obtain ⟨z, rfl, hu, hr⟩ := h
    exact ⟨z, rfl, hu, hr.mono hk⟩
  | map T es =>
    obtain ⟨g, KT, VT, arr, clock, rfl, hu, hk', hh, hl, hr⟩ := h
    refine ⟨g, KT, VT, arr, clock, rfl, hu, hk', by rw [hb _ g rfl rfl (.inl rfl)]; exact hh, hl, fun i e d he hd => ?_⟩
    obtain ⟨s, x, h1, h2, h3, h4⟩ := hr i e d he hd
    exact ⟨s, x, h1, h2, h3, h4.mono hk⟩
  | gone => trivial
  | free => exact h
end

section
variable {P : Program} {K : OkX} {w0 : World} {n : Nat} {σ : St} {a : Act} {w : World} {β : Nat → Option Value}

theorem getD_set {A : Type} (arr : Array A) (d k : Nat) (x u : A) (hd : d < arr.size) : (arr.setIfInBounds d x).getD k u = if k = d then x else arr.getD k u := by
  simp only [Array.getD_eq_getD_getElem?, Array.getElem?_setIfInBounds]
  by_cases h : k = d
  · subst h; simp [hd]
  · simp [h, Ne.symm h]

def St.put (σ : St) (d : Nat) (v : AV) : St := ⟨setT σ.ts d v, σ.hs, σ.k0⟩
def St.lay (σ : St) (l : Nat) (o : Ob) : St := ⟨σ.ts, setO σ.hs l o, σ.k0⟩

theorem RelB.put (h : RelB P K w0 n σ a w β) {d : Nat} (hd : d < n) {v : AV} {x : Value} (hv : RV P (okOf K w0 w σ.hs β) w β v x) :
    RelB P K w0 n (σ.put d v) (a.put (some d) x) w β := {
  size := by simpa [Act.put] using h.size
  defers := h.defers
  below := h.below
  ts k := by
    show RV P _ w β (tk (setT σ.ts d v) k) ((a.tmps.setIfInBounds d x).getD k undef)
    rw [getD_set _ _ _ _ _ (by rw [h.size]; exact hd), tk_set]
    by_cases hk : k = d
    · subst hk; simp; exact hv
    · rw [if_neg hk, if_neg hk]
      exact h.ts k
  hs := h.hs
  sep := h.sep
  own := h.own
  ext := h.ext
  kk := h.kk
  tab := h.tab }

theorem Rel.put (h : RelB P K w0 n σ a w β) {d : Nat} (hd : d < n) {v : AV} {x : Value} (hv : RV P (okOf K w0 w σ.hs β) w β v x) : Rel P K w0 n (σ.put d v) (a.put (some d) x) w := ⟨β, h.put hd hv⟩

theorem RelB.blk_lt (h : RelB P K w0 n σ a w β) {l b : Nat} (ho : owns σ.hs β l b) : b < w.heap.size := by
  obtain ⟨h1, z, h2, h3⟩ := ho
  have := h.hs l
  rw [h2] at this
  exact this.blk_lt h1 h3

/-- The world has only grown. -/
theorem RelB.grow (h : RelB P K w0 n σ a w β) {w' : World} (hb : Below w.heap.size w w') : RelB P K w0 n σ a w' β ∧ ∀ b, okOf K w0 w σ.hs β b → okOf K w0 w' σ.hs β b ∧ w'.heap[b]? = w.heap[b]? := by
  have hk : ∀ b, okOf K w0 w σ.hs β b → okOf K w0 w' σ.hs β b ∧ w'.heap[b]? = w.heap[b]? := fun b hb' => ⟨⟨Nat.lt_of_lt_of_le hb'.1 hb.size, hb'.2⟩, hb.block b hb'.1⟩
  have hbel : BelowX K.x w0 w' := ⟨hb.os.trans h.below.os, hb.tape.trans h.below.tape, hb.output.trans h.below.output, Nat.le_trans h.below.size hb.size, fun b h1 h2 => (hb.block b (Nat.lt_of_lt_of_le h1 h.below.size)).trans (h.below.block b h1 h2)⟩
  refine ⟨⟨h.size, h.defers, hbel, fun k => (h.ts k).mono hk (Ext.refl _), fun l => ?_, h.sep, h.own, h.ext, h.kk, h.tab.mono hk⟩, hk⟩
  exact (h.hs l).mono hk (fun z b ho hz hb' => hb.block b (h.blk_lt ⟨ho, z, hz, hb'⟩)) (Ext.refl _)

def upB (β : Nat → Option Value) (l : Nat) (v : Option Value) : Nat → Option Value := fun k => if k = l then v else β k
theorem upB_same (β : Nat → Option Value) (l : Nat) (v : Option Value) : upB β l v l = v := by simp [upB]
theorem upB_other (β : Nat → Option Value) (l k : Nat) (v : Option Value) (h : k ≠ l) : upB β l v k = β k := by simp [upB, h]

/-- What lies under the name 'l' is made, or turned; 'b1': the block that it may have been given over from another name 'm', which is given up. -/
theorem RelB.upd (h : RelB P K w0 n σ a w β) (l : Nat) (o : Ob) (v' : Option Value) (w' : World)
    (hfr : v' = β l ∨ (β l = none ∧ σ.k0 ≤ l))
    (hos : w'.os = w.os) (htape : w'.tape = w.tape) (hout : w'.output = w.output) (hsz : w.heap.size ≤ w'.heap.size)
    (hbl : ∀ b, b < w.heap.size → ¬ owns σ.hs β l b → w'.heap[b]? = w.heap[b]?)
    (hv' : ∀ z b, o.isOwn = true → v' = some z → Blk z b → w.heap.size ≤ b ∨ owns σ.hs β l b)
    (ho : Ext β (upB β l v') → (∀ b, okOf K w0 w σ.hs β b → okOf K w0 w' (setO σ.hs l o) (upB β l v') b ∧ w'.heap[b]? = w.heap[b]?) → ObOK P (okOf K w0 w' (setO σ.hs l o) (upB β l v')) w' (upB β l v') o v') :
    RelB P K w0 n (σ.lay l o) a w' (upB β l v') := by
  have hext : Ext β (upB β l v') := by
    intro k z hk
    by_cases hkl : k = l
    · subst hkl
      rw [upB_same]
      rcases hfr with hfr | hfr
      · rw [hfr]; exact hk
      · rw [hfr.1] at hk; cases hk
    · rw [upB_other _ _ _ _ hkl]; exact hk
  have hown2 : ∀ k b, owns (setO σ.hs l o) (upB β l v') k b → (k = l ∧ (w.heap.size ≤ b ∨ owns σ.hs β l b)) ∨ (k ≠ l ∧ owns σ.hs β k b) := by
    rintro k b ⟨h1, z, h2, h3⟩
    by_cases hkl : k = l
    · subst hkl
      rw [lk_same] at h1
      rw [upB_same] at h2
      exact .inl ⟨rfl, hv' z b h1 h2 h3⟩
    · rw [lk_other _ _ _ _ hkl] at h1
      rw [upB_other _ _ _ _ hkl] at h2
      exact .inr ⟨hkl, h1, z, h2, h3⟩
  have hk : ∀ b, okOf K w0 w σ.hs β b → okOf K w0 w' (setO σ.hs l o) (upB β l v') b ∧ w'.heap[b]? = w.heap[b]? := by
    rintro b ⟨h1, h2, h3⟩
    refine ⟨⟨Nat.lt_of_lt_of_le h1 hsz, h2, fun k hk => ?_⟩, hbl b h1 (h3 l)⟩
    rcases hown2 k b hk with ⟨_, h4 | h4⟩ | ⟨_, h4⟩
    · omega
    · exact h3 _ h4
    · exact h3 _ h4
  refine ⟨h.size, h.defers, ?_, fun k => (h.ts k).mono hk hext, fun k => ?_, ?_, ?_, ?_, h.kk, h.tab.mono hk⟩
  · refine ⟨hos.trans h.below.os, htape.trans h.below.tape, hout.trans h.below.output, Nat.le_trans h.below.size hsz, fun b hb hx => (hbl b (Nat.lt_of_lt_of_le hb h.below.size) fun he => ?_).trans (h.below.block b hb hx)⟩
    rcases h.own l b he with h1 | h1
    · omega
    · exact hx h1
  · show ObOK P _ w' _ (lk (setO σ.hs l o) k) _
    by_cases hkl : k = l
    · subst hkl
      rw [lk_same, upB_same]
      exact ho hext hk
    · rw [lk_other _ _ _ _ hkl, upB_other _ _ _ _ hkl]
      refine (h.hs k).mono hk (fun z b h1 h2 h3 => ?_) hext
      have ho1 : owns σ.hs β k b := ⟨h1, z, h2, h3⟩
      exact hbl b (h.blk_lt ho1) fun he => hkl (h.sep k l b ho1 he)
  · intro k k' b h1 h2
    rcases hown2 k b h1 with ⟨e1, h3 | h3⟩ | ⟨e1, h3⟩
    · rcases hown2 k' b h2 with ⟨e2, _⟩ | ⟨e2, h4⟩
      · rw [e1, e2]
      · have := h.blk_lt h4; omega
    · rcases hown2 k' b h2 with ⟨e2, _⟩ | ⟨e2, h4⟩
      · rw [e1, e2]
      · rw [e1]; exact h.sep _ _ _ h3 h4
    · rcases hown2 k' b h2 with ⟨e2, h4 | h4⟩ | ⟨e2, h4⟩
      · have := h.blk_lt h3; omega
      · rw [e2]; exact h.sep _ _ _ h3 h4
      · exact h.sep _ _ _ h3 h4
  · intro k b h1
    rcases hown2 k b h1 with ⟨e1, h3 | h3⟩ | ⟨e1, h3⟩
    · exact .inl (Nat.le_trans h.below.size h3)
    · exact h.own _ _ h3
    · exact h.own _ _ h3
  · intro k hk2
    by_cases hkl : k = l
    · subst hkl
      rw [upB_same]
      rcases hfr with hfr | hfr
      · rw [hfr]; exact h.ext k hk2
      · have := h.kk; omega
    · rw [upB_other _ _ _ _ hkl]; exact h.ext k hk2

/-- A name is given up. -/
theorem RelB.drop (h : RelB P K w0 n σ a w β) (l : Nat) (hf : lk σ.hs l ≠ .free) : RelB P K w0 n (σ.lay l .gone) a w β := by
  have hown2 : ∀ k b, owns (setO σ.hs l .gone) β k b → owns σ.hs β k b := by
    rintro k b ⟨h1, z, h2, h3⟩
    by_cases hkl : k = l
    · subst hkl; rw [lk_same] at h1; cases h1
    · rw [lk_other _ _ _ _ hkl] at h1; exact ⟨h1, z, h2, h3⟩
  have hk : ∀ b, okOf K w0 w σ.hs β b → okOf K w0 w (setO σ.hs l .gone) β b ∧ w.heap[b]? = w.heap[b]? := fun b hb => ⟨⟨hb.1, hb.2.1, fun k hk => hb.2.2 k (hown2 k b hk)⟩, rfl⟩
  refine ⟨h.size, h.defers, h.below, fun k => (h.ts k).mono hk (Ext.refl _), fun k => ?_, fun k k' b h1 h2 => h.sep k k' b (hown2 _ _ h1) (hown2 _ _ h2), fun k b h1 => h.own k b (hown2 _ _ h1), h.ext, h.kk, h.tab.mono hk⟩
  show ObOK P _ w β (lk (setO σ.hs l .gone) k) _
  by_cases hkl : k = l
  · subst hkl; rw [lk_same]; trivial
  · rw [lk_other _ _ _ _ hkl]
    exact (h.hs k).mono hk (fun _ _ _ _ _ => rfl) (Ext.refl _)

/-- Less is known. -/
def SubT (ts' ts : List AV) : Prop := ∀ k, tk ts' k = .dead ∨ tk ts' k = tk ts k
theorem RelB.sub {ts' : List AV} (h : RelB P K w0 n σ a w β) (ht : SubT ts' σ.ts) : RelB P K w0 n ⟨ts', σ.hs, σ.k0⟩ a w β := by
  refine ⟨h.size, h.defers, h.below, fun k => ?_, h.hs, h.sep, h.own, h.ext, h.kk, h.tab⟩
  rcases ht k with e | e
  · show RV P _ w β (tk ts' k) _
    rw [e]; trivial
  · show RV P _ w β (tk ts' k) _
    rw [e]; exact h.ts k
end
end Go.Am
