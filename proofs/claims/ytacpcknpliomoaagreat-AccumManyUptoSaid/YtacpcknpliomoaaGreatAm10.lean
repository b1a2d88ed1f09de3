/- The abstract machine, part 10: the machine itself. -/
import Derived.Test.YtacpcknpliomoaaGreatAmM
import Derived.Test.YtacpcknpliomoaaGreatAmB
import Derived.Test.YtacpcknpliomoaaGreatAmR
import Derived.Test.YtacpcknpliomoaaGreatAmE
import Derived.Test.YtacpcknpliomoaaGreatAmD
set_option linter.unusedVariables false
set_option linter.unusedSimpArgs false
namespace Go.Am
open Go.RowKit

abbrev Res := AV × List Ob

/-- What the machine is told beside the program: what is kept at a place of a function (live slots; slots whose rows become plain data; slots whose nil slices become rows), whose results stay rows, who is handed rows; functions that are known by a contract. -/
structure Env where
  dt : List TypeId
  fns : FuncId → Option Func
  keep : FuncId → Nat → Option (List Nat × List Nat × List Nat)
  raw : FuncId → Bool
  own : FuncId → Bool
  lnd : FuncId → Bool
  nd : FuncId → List Nat := fun _ => []
  pkb : FuncId → Bool := fun _ => false
  nest : Oper → Bool := fun _ => false
  rdo : FuncId → Bool := fun _ => false
  sld : Oper → Bool := fun _ => false
  npk : TypeId → Bool := fun _ => false
  fzc : FuncId → Bool := fun _ => false
  pty : TypeId → Option TypeId := fun _ => none
  sam : FuncId → Bool := fun _ => false
  cut : Oper → Bool := fun _ => false
  foc : FuncId → Nat → Option (Nat × Nat × Nat) := fun _ _ => none
  orc : FuncId → Option (List AV → List Ob → Option (AV × List Ob))

def avF (av : TypeId → List Value → Option AV) (P : Program) (cs : List Value) : List Field → Option (List AV)
  | [] => some []
  | f :: fs => match avF av P cs fs with
    | some vs => some ((match av f.type ((cs.drop f.offset).take (P.cellsOf f.type)) with
      | some v => v
      | none => .dead) :: vs)
    | none => none
/-- Flags that are not set. -/
def offs (n : Nat) : List Dt := List.replicate n (.bool false)
def isF : Value → Bool
  | .bool b => !b
  | _ => false
/-- Cells that lead to no memory, as a value. -/
def avC (P : Program) : Nat → TypeId → List Value → Option AV
  | 0, _, _ => none
  | k + 1, T, cs => match P.underlying T with
    | some (.int q) => match cs with
      | [.int q' m] => bif (decide (q = q') && (decide (q.min ≤ m) && decide (m ≤ q.max))) then some (.dat T (.int m)) else none
      | _ => none
    | some .bool => match cs with
      | [.bool b] => some (.dat T (.bool b))
      | _ => none
    | some .string => match cs with
      | [.string s] => bif Nat.ble s.size maxLen then some (.dat T (.str s)) else none
      | _ => none
    | some (.slice _) => match cs with
      | [.slice none 0 0] => some (.nils T)
      | _ => none
    | some (.struct fs) => bif (Nat.beq cs.length (P.cellsOf T) && cs.all (·.oneCell')) then (match avF (avC P k) P cs fs.toList with
      | some vs => some (.agg T vs)
      | none => none) else none
    | some (.interface _) => match cs with
      | [.nilIface] => some (.nif true)
      | _ => none
    | some (.array len Te) => match P.underlying Te with
      | some .bool => bif (Nat.beq cs.length len && (Nat.beq (P.cellsOf T) len && (Nat.beq (P.cellsOf Te) 1 && cs.all isF))) then some (.dat T (.lst (offs len))) else none
      | _ => none
    | some (.pointer _) => match cs with
      | [.pointer none] => some (.dat T (.lst []))
      | _ => none
    | _ => none
def isAggV : Value → Bool
  | .agg _ => true
  | _ => false
def cst (P : Program) (v : Value) : List TypeId → AV
  | [] => .dead
  | T :: r => match avC P 8 T v.cells.toList with
    | some a => bif isAggV v == aggT P T then a else .dead
    | none => cst P v r
def zeroV (P : Program) (T : TypeId) : Option AV := match P.info? T with
  | some i => match i.zero with
    | some z => bif Nat.beq z.cells.size (P.cellsOf T) then avC P 8 T z.cells.toList else none
    | none => none
  | none => none

def opd (P : Program) (D : List TypeId) (σ : St) (T : TypeId) : Operand → AV
  | .tmp t => tk σ.ts t
  | .const v => cst P v (T :: D)
  | .func f => .fn f []
  | .global _ => .dead
def opds (P : Program) (D : List TypeId) (σ : St) : List TypeId → List Operand → List AV
  | T :: Ts, x :: xs => opd P D σ T x :: opds P D σ Ts xs
  | _, _ => []

def bval (P : Program) : AV → Option Bool
  | .dat T d => match P.underlying T with
    | some .bool => some d.toBool
    | _ => none
  | _ => none
def ival (P : Program) : AV → Option (TypeId × IntKind × Int)
  | .dat T d => match P.underlying T with
    | some (.int k) => some (T, k, d.toInt)
    | _ => none
  | _ => none
def sval (P : Program) : AV → Option (TypeId × ByteArray)
  | .dat T d => match P.underlying T with
    | some .string => some (T, d.toStr)
    | _ => none
  | _ => none
/-- A list of plain data: its type, its elements' type. -/
def lval (P : Program) (hs : List Ob) (v : AV) : Option (TypeId × TypeId × List Dt) := match pk P hs v with
  | some (T, d) => match P.underlying T with
    | some (.slice E) => some (T, E, d.toLst)
    | _ => none
  | none => none
def isB (P : Program) (T : TypeId) : Bool := match P.underlying T with
  | some .bool => true
  | _ => false
/-- The first type of bools. -/
def bT (P : Program) : List TypeId → Option TypeId
  | [] => none
  | T :: r => bif isB P T then some T else bT P r
def isI (P : Program) (T : TypeId) (k : IntKind) : Bool := match P.underlying T with
  | some (.int k') => decide (k' = k)
  | _ => false
def isS (P : Program) (T : TypeId) : Bool := match P.underlying T with
  | some .string => true
  | _ => false
def slE (P : Program) (T : TypeId) : Option TypeId := match P.underlying T with
  | some (.slice E) => some E
  | _ => none
def stF (P : Program) (T : TypeId) : Option (Array Field) := match P.underlying T with
  | some (.struct fs) => some fs
  | _ => none

/-- A value of one type's size. -/
def szA (P : Program) (T : TypeId) : AV → Bool
  | .dat T' _ => match P.underlying T' with
    | some (.struct _) => Nat.beq (P.cellsOf T') (P.cellsOf T)
    | some (.array _ _) => Nat.beq (P.cellsOf T') (P.cellsOf T)
    | some _ => Nat.beq (P.cellsOf T) 1
    | none => false
  | .agg T' _ => match P.underlying T' with
    | some (.struct _) => Nat.beq (P.cellsOf T') (P.cellsOf T)
    | _ => false
  | .dead => false
  | .tup _ => false
  | _ => Nat.beq (P.cellsOf T) 1
def szB (P : Program) (T : TypeId) (v : AV) : Bool := (P.underlying T).isSome && szA P T v

def getAt (P : Program) : TypeId → AV → List Nat → Option (TypeId × Nat × AV)
  | S, c, [] => some (S, 0, c)
  | S, .agg S' vs, i :: p => match stF P S with
    | some fs => match fs[i]? with
      | some f => match vs[i]? with
        | some v => bif (Nat.beq S' S && Nat.ble (f.offset + P.cellsOf f.type) (P.cellsOf S)) then (match getAt P f.type v p with
          | some (T, q, r) => some (T, f.offset + q, r)
          | none => none) else none
        | none => none
      | none => none
    | none => none
  | S, .dat S' d, i :: p => match stF P S with
    | some fs => match fs[i]? with
      | some f => bif (Nat.beq S' S && Nat.ble (f.offset + P.cellsOf f.type) (P.cellsOf S)) then (match getAt P f.type (.dat f.type (d.fld i)) p with
          | some (T, q, r) => some (T, f.offset + q, r)
          | none => none) else none
      | none => none
    | none => none
  | _, _, _ :: _ => none
def setAt (P : Program) (T' : TypeId) (v : AV) : TypeId → AV → List Nat → Option (Nat × AV)
  | S, _, [] => bif Nat.beq S T' then some (0, v) else none
  | S, c, i :: p => match stF P S with
    | some fs => match fs[i]? with
      | some f => match (match c with
          | .agg S' vs => bif Nat.beq S' S then some vs else none
          | .dat S' d => bif Nat.beq S' S then some (expl P fs d) else none
          | _ => none : Option (List AV)) with
        | some vs => match vs[i]? with
          | some old => bif layB P S fs then (match setAt P T' v f.type old p with
            | some (q, new) => some (f.offset + q, .agg S (vs.set i new))
            | none => none) else none
          | none => none
        | none => none
      | none => none
    | none => none

def AV.canon (P : Program) : AV → AV
  | .dat T d => .dat T (canD P T d)
  | v => v

structure Dl where
  v : Option AV
  rd : List Nat
  wr : List (Nat × Ob)
def wrO (hs : List Ob) : List (Nat × Ob) → List Ob
  | [] => hs
  | (l, o) :: r => wrO (setO hs l o) r
def putD (ts : List AV) : Option Nat → Option AV → List AV
  | some d, some v => setT ts d v
  | _, _ => ts
def St.app (σ : St) (dst : Option Nat) (δ : Dl) : St := ⟨putD σ.ts dst δ.v, wrO σ.hs δ.wr, σ.k0⟩

mutual
/-- The names in a value. -/
def AV.nms : AV → List Nat
  | .agg _ vs => AV.nmsL vs
  | .row l => [l]
  | .ptr l _ _ => [l]
  | .eptr l _ _ _ _ => [l]
  | .fn _ vs => AV.nmsL vs
  | .tup vs => AV.nmsL vs
  | .ifc _ v => AV.nms v
  | _ => []
def AV.nmsL : List AV → List Nat
  | [] => []
  | v :: r => AV.nms v ++ AV.nmsL r
end
mutual
/-- The rows in a value. -/
def AV.rws : AV → List Nat
  | .agg _ vs => AV.rwsL vs
  | .row l => [l]
  | .tup vs => AV.rwsL vs
  | .ifc _ v => AV.rws v
  | _ => []
def AV.rwsL : List AV → List Nat
  | [] => []
  | v :: r => AV.rws v ++ AV.rwsL r
end
def Ob.nms : Ob → List Nat
  | .box _ c => c.nms
  | .rowA _ vs => AV.nmsL vs
  | .rowD _ _ _ k _ none => [k]
  | .rowD _ _ _ k _ (some (_, l)) => [k, l]
  | _ => []
def reach (hs : List Ob) : Nat → List Nat → List Nat → List Nat
  | 0, _, acc => acc
  | _ + 1, [], acc => acc
  | k + 1, l :: todo, acc => bif memB l acc then reach hs k todo acc else reach hs k ((lk hs l).nms ++ todo) (acc ++ [l])
/-- The slices of a row's elements, if their name comes next. -/
def tokOf (hs : List Ob) (T2 k : Nat) : List Nat → Option (List Dt)
  | [] => none
  | k' :: _ => match lk hs k' with
    | .tok T4 ls => bif Nat.beq k' k && Nat.beq T4 T2 then some ls else none
    | _ => none
def frzW (hs : List Ob) : List Nat → List (Nat × Ob)
  | [] => []
  | l :: r => match lk hs l with
    | .row T es => (l, .frz T es) :: frzW (setO hs l (.frz T es)) r
    | .rowD T T2 c k es none => match tokOf hs T2 k r with
      | some ls => (l, .row T (frzD c es ls)) :: (k, .gone) :: (l, .frz T (frzD c es ls)) :: frzW (setO (setO (setO hs l (.row T (frzD c es ls))) k .gone) l (.frz T (frzD c es ls))) r
      | none => frzW hs r
    | _ => frzW hs r
/-- A box of plain data becomes plain data. -/
def fzb1 (P : Program) (pty : TypeId → Option TypeId) (hs : List Ob) (l : Nat) : Option Ob := match lk hs l with
  | .box T c => match pty T with
    | some PT => match ppE P PT with
      | some T2 => match pk P hs c with
        | some (T', d) => bif (Nat.beq T' T && Nat.beq T2 T) then some (.frz PT [d]) else none
        | none => none
      | none => none
    | none => none
  | _ => none
def fzbW (P : Program) (pty : TypeId → Option TypeId) (hs : List Ob) : List Nat → List (Nat × Ob)
  | [] => []
  | l :: r => match fzb1 P pty hs l with
    | some o => (l, o) :: fzbW P pty (setO hs l o) r
    | none => fzbW P pty hs r
def ptrsL : List AV → List Nat
  | [] => []
  | v :: r => (match v with
    | .ptr l [] 0 => [l]
    | _ => []) ++ ptrsL r
/-- A pointer to a frozen box, as plain data. -/
def pkZ (hs : List Ob) (v : AV) : AV := match v with
  | .ptr l [] 0 => (match lk hs l with
    | .frz T es => .dat T (.lst es)
    | _ => v)
  | v => v
def nilW (k : Nat) : List TypeId → List (Nat × Ob)
  | [] => []
  | T :: r => (k, .row T []) :: nilW (k + 1) r
def backW (ρ : Nat → Option Nat) (nm : Nat) : List Nat → List Ob → List (Nat × Ob)
  | _, [] => []
  | [], o :: os => (nm, o.ren ρ) :: backW ρ (nm + 1) [] os
  | l :: src, o :: os => (l, o.ren ρ) :: backW ρ nm src os
def isNils : AV → Bool
  | .nils _ => true
  | _ => false
/-- A row that is handed over as plain data; 'b': nil slices stay nil. -/
def pkA (P : Program) (b : Bool) (hs : List Ob) (v : AV) : AV := bif (b && isNils v) then v else match pk P hs v with
  | some (T, d) => .dat T d
  | none => v
/-- A nil slice, handed to an owning function as data. -/
def dn1 (P : Program) (v : AV) : AV := match v with
  | .nils T => match P.underlying T with
    | some (.slice _) => .dat T (.lst [])
    | _ => v
  | _ => v
def dnL (P : Program) (ps : List Nat) : Nat → List AV → List AV
  | _, [] => []
  | k, v :: r => (bif memB k ps then dn1 P v else v) :: dnL P ps (k + 1) r
/-- A pointer to a variable of the caller's, handed over for reading: a pointer to plain data. -/
def lend1 (P : Program) (hs : List Ob) (v : AV) : AV := match v with
  | .ptr l [] 0 => match lk hs l with
    | .box T c => match pk P hs c with
      | some (T', d) => bif Nat.beq T' T then .rptr T d else v
      | none => v
    | _ => v
  | _ => v
def lendV (P : Program) (hs : List Ob) (v : AV) : AV := match v with
  | .fn f caps => .fn f (caps.map (lend1 P hs))
  | _ => lend1 P hs v
/-- Names of rows, each with its token's. -/
def withTok (hs : List Ob) : List Nat → List Nat
  | [] => []
  | l :: r => (match lk hs l with
    | .rowD _ _ _ k _ _ => [l, k]
    | _ => [l]) ++ withTok hs r
def boxRows (hs : List Ob) : List Nat → List Nat
  | [] => []
  | l :: r => (match lk hs l with
    | .box _ c => withTok hs c.rws
    | _ => []) ++ boxRows hs r
def upto : Nat → Nat → List Nat
  | _, 0 => []
  | k, m + 1 => k :: upto (k + 1) m
def allNames (hs : List Ob) : List Nat → Bool
  | [] => true
  | l :: r => (match lk hs l with
    | .free => false
    | _ => true) && allNames hs r
def freeFrom (hs : List Ob) (k : Nat) : Nat → Bool
  | 0 => true
  | m + 1 => (match lk hs k with
    | .free => true
    | _ => false) && freeFrom hs (k + 1) m
def capsB (P : Program) : List AV → Bool
  | [] => true
  | v :: r => (match v with
    | .tup _ => false
    | .dead => false
    | v => !v.isAgg P) && capsB P r

section
variable {R : Type} (P : Program) (E : Env) (call : FuncId → List AV → List Ob → (Res → Option R) → Option R)

def out (n : Nat) (o : Oper) (v : AV) (rd : List Nat) (wr : List (Nat × Ob)) (k : Dl → Option R) : Option R := match o.dst with
  | some d => bif Nat.blt d n then k ⟨some v, rd, wr⟩ else none
  | none => none
def outN (o : Oper) (rd : List Nat) (wr : List (Nat × Ob)) (k : Dl → Option R) : Option R := match o.dst with
  | some _ => none
  | none => k ⟨none, rd, wr⟩
/-- A new name. -/
def new (σ : St) (k : Nat → Option R) : Option R := bif Nat.ble σ.k0 σ.hs.length then k σ.hs.length else none

def evInt (n : Nat) (o : Oper) (op : BinOp) (T : TypeId) (q : IntKind) (a b : Int) (k : Dl → Option R) : Option R :=
  let cmp (r : Bool) : Option R := match bT P (o.type :: E.dt) with
    | some TB => out n o (.dat TB (.bool r)) [] [] k
    | none => none
  match op with
  | .add => out n o (.dat T (.int (q.wrap (a + b)))) [] [] k
  | .sub => out n o (.dat T (.int (q.wrap (a - b)))) [] [] k
  | .mul => out n o (.dat T (.int (q.wrap (a * b)))) [] [] k
  | .quo => bif decide (b = 0) then none else out n o (.dat T (.int (q.wrap (a.tdiv b)))) [] [] k
  | .rem => bif decide (b = 0) then none else out n o (.dat T (.int (a.tmod b))) [] [] k
  | .and => out n o (.dat T (.int (andI q a b))) [] [] k
  | .or => out n o (.dat T (.int (orI q a b))) [] [] k
  | .xor => out n o (.dat T (.int (xorI q a b))) [] [] k
  | .andNot => out n o (.dat T (.int (bicI q a b))) [] [] k
  | .lss => cmp (decide (a < b))
  | .leq => cmp (decide (a ≤ b))
  | .gtr => cmp (decide (b < a))
  | .geq => cmp (decide (b ≤ a))
  | .eql => cmp (a == b)
  | .neq => cmp (a != b)
  | _ => none
def evStr (n : Nat) (o : Oper) (op : BinOp) (T : TypeId) (a b : ByteArray) (k : Dl → Option R) : Option R :=
  let cmp (r : Bool) : Option R := match bT P (o.type :: E.dt) with
    | some TB => out n o (.dat TB (.bool r)) [] [] k
    | none => none
  match op with
  | .add => bif Nat.ble (a.size + b.size) 1152921504606846976 then out n o (.dat T (.str (a ++ b))) [] [] k else none
  | .lss => cmp (Op.bytesLess a.toList b.toList)
  | .eql => cmp (a.toList == b.toList)
  | .neq => cmp (!(a.toList == b.toList))
  | _ => none
def evBool (n : Nat) (o : Oper) (op : BinOp) (a b : Bool) (k : Dl → Option R) : Option R :=
  let cmp (r : Bool) : Option R := match bT P (o.type :: E.dt) with
    | some TB => out n o (.dat TB (.bool r)) [] [] k
    | none => none
  match op with
  | .eql => cmp (a == b)
  | .neq => cmp (!(a == b))
  | _ => none
def bldL (σ : St) (fs : Array Field) : List (Nat × Operand) → List AV → Option (List AV)
  | [], vs => some vs
  | (i, x) :: r, vs => match fs[i]? with
    | some f => bif szB P f.type (opd P E.dt σ f.type x) then bldL σ fs r (vs.set i (opd P E.dt σ f.type x)) else none
    | none => none
def dense : Nat → List (Nat × Operand) → Bool
  | _, [] => true
  | j, (i, _) :: r => Nat.beq i j && dense (j + 1) r
def datL (hs : List Ob) (Te : TypeId) : List AV → Option (List Dt)
  | [] => some []
  | v :: r => match pk P hs v with
    | some (T, d) => bif (compat P T Te && szB P Te (.dat Te d)) then (match datL hs Te r with
      | some ds => some (d :: ds)
      | none => none) else none
    | none => none
def bndE (σ : St) (m : Int) : Option Operand → Option Int
  | none => some m
  | some x => match ival P (opd P E.dt σ 0 x) with
    | some (_, _, i) => some i
    | none => none
def dstB (n : Nat) (o : Oper) : Bool := match o.dst with
  | some d => Nat.blt d n
  | none => true
/-- Boxes of plain data, in one form. -/
def pack1 : Ob → Ob
  | .box T c => match pk P [] c with
    | some (T', d) => bif Nat.beq T' T then .box T (.dat T (canD P T d)) else .box T c
    | none => .box T c
  | o => o
def packB (b : Bool) (os : List Ob) : List Ob := bif b then os.map (pack1 P) else os
mutual
def dtEq : Dt → Dt → Bool
  | .int a, .int b => decide (a = b)
  | .bool a, .bool b => decide (a = b)
  | .str a, .str b => a == b
  | .agg a, .agg b => dtsEq a b
  | .lst a, .lst b => dtsEq a b
  | _, _ => false
def dtsEq : List Dt → List Dt → Bool
  | [], [] => true
  | a :: r, b :: s => dtEq a b && dtsEq r s
  | _, _ => false
end
mutual
theorem dtEq_ok : ∀ {a b : Dt}, dtEq a b = true → a = b
  | .int a, b, h => by cases b <;> simp only [dtEq] at h <;> first | cases h | (rw [of_decide_eq_true h])
  | .bool a, b, h => by cases b <;> simp only [dtEq] at h <;> first | cases h | (rw [of_decide_eq_true h])
  | .str a, b, h => by cases b <;> simp only [dtEq] at h <;> first | cases h | (rw [(ba_beq_iff _ _).1 h])
  | .agg a, b, h => by cases b <;> simp only [dtEq] at h <;> first | cases h | (rw [dtsEq_ok h])
  | .lst a, b, h => by cases b <;> simp only [dtEq] at h <;> first | cases h | (rw [dtsEq_ok h])
theorem dtsEq_ok : ∀ {a b : List Dt}, dtsEq a b = true → a = b
  | [], b, h => by cases b <;> simp only [dtsEq] at h <;> first | rfl | cases h
  | x :: r, b, h => by
    cases b with
    | nil => simp only [dtsEq] at h; cases h
    | cons y s =>
      simp only [dtsEq, Bool.and_eq_true] at h
      rw [dtEq_ok h.1, dtsEq_ok h.2]
end
mutual
def avEq : AV → AV → Bool
  | .dat T a, .dat S b => Nat.beq T S && dtEq a b
  | .agg T a, .agg S b => Nat.beq T S && avsEq a b
  | .row a, .row b => Nat.beq a b
  | .ptr a p i, .ptr b q j => Nat.beq a b && (decide (p = q) && Nat.beq i j)
  | .fn f a, .fn g b => Nat.beq f g && avsEq a b
  | .nils T, .nils S => Nat.beq T S
  | .dead, .dead => true
  | _, _ => false
def avsEq : List AV → List AV → Bool
  | [], [] => true
  | a :: r, b :: s => avEq a b && avsEq r s
  | _, _ => false
end
mutual
theorem avEq_ok : ∀ {a b : AV}, avEq a b = true → a = b
  | .dat T a, b, h => by cases b <;> simp only [avEq, Bool.and_eq_true] at h <;> first | cases h; done | (rw [Nat.eq_of_beq_eq_true h.1, dtEq_ok h.2])
  | .agg T a, b, h => by cases b <;> simp only [avEq, Bool.and_eq_true] at h <;> first | cases h; done | (rw [Nat.eq_of_beq_eq_true h.1, avsEq_ok h.2])
  | .row a, b, h => by cases b <;> simp only [avEq] at h <;> first | cases h; done | (rw [Nat.eq_of_beq_eq_true h])
  | .ptr a p i, b, h => by cases b <;> simp only [avEq, Bool.and_eq_true] at h <;> first | cases h; done | (rw [Nat.eq_of_beq_eq_true h.1, of_decide_eq_true h.2.1, Nat.eq_of_beq_eq_true h.2.2])
  | .fn f a, b, h => by cases b <;> simp only [avEq, Bool.and_eq_true] at h <;> first | cases h; done | (rw [Nat.eq_of_beq_eq_true h.1, avsEq_ok h.2])
  | .nils T, b, h => by cases b <;> simp only [avEq] at h <;> first | cases h; done | (rw [Nat.eq_of_beq_eq_true h])
  | .dead, b, h => by cases b <;> simp only [avEq] at h <;> first | rfl | cases h
  | .eptr _ _ _ _ _, b, h => by simp only [avEq] at h; cases h
  | .rptr _ _, b, h => by simp only [avEq] at h; cases h
  | .tup _, b, h => by simp only [avEq] at h; cases h
  | .nif _, b, h => by simp only [avEq] at h; cases h
  | .ifc _ _, b, h => by simp only [avEq] at h; cases h
  | .mth _ _, b, h => by simp only [avEq] at h; cases h
theorem avsEq_ok : ∀ {a b : List AV}, avsEq a b = true → a = b
  | [], b, h => by cases b <;> simp only [avsEq] at h <;> first | rfl | cases h
  | x :: r, b, h => by
    cases b with
    | nil => simp only [avsEq] at h; cases h
    | cons y s =>
      simp only [avsEq, Bool.and_eq_true] at h
      rw [avEq_ok h.1, avsEq_ok h.2]
end
def obEq : Ob → Ob → Bool
  | .box T a, .box S b => Nat.beq T S && avEq a b
  | .row T a, .row S b => Nat.beq T S && dtsEq a b
  | .rowA T a, .rowA S b => Nat.beq T S && avsEq a b
  | .frz T a, .frz S b => Nat.beq T S && dtsEq a b
  | .map T a, .map S b => Nat.beq T S && dtsEq a b
  | .tok T a, .tok S b => Nat.beq T S && dtsEq a b
  | .rowD T S c k a h, .rowD T' S' c' k' b h' => decide (T = T' ∧ S = S' ∧ c = c' ∧ k = k' ∧ h = h') && dtsEq a b
  | .gone, .gone => true
  | _, _ => false
theorem obEq_ok {a b : Ob} (h : obEq a b = true) : a = b := by
  cases a <;> cases b <;> simp only [obEq, Bool.and_eq_true] at h <;> first | rfl | cases h; done | (rw [Nat.eq_of_beq_eq_true h.1, avEq_ok h.2]) | (rw [Nat.eq_of_beq_eq_true h.1, dtsEq_ok h.2]) | (rw [Nat.eq_of_beq_eq_true h.1, avsEq_ok h.2]) | (obtain ⟨h1, h2⟩ := h; obtain ⟨rfl, rfl, rfl, rfl, rfl⟩ := of_decide_eq_true h1; rw [dtsEq_ok h2])
/-- The writes that change something. -/
def chgW (hs : List Ob) (src : List Nat) : List (Nat × Ob) → List (Nat × Ob)
  | [] => []
  | (l, o) :: r => bif (memB l src && obEq o (lk hs l)) then chgW hs src r else (l, o) :: chgW hs src r
def keepW (b : Bool) (hs : List Ob) (src : List Nat) (ws : List (Nat × Ob)) : List (Nat × Ob) := bif (b && nodupB (ws.map (·.1))) then chgW hs src ws else ws
def callTail (n : Nat) (o : Oper) (σ : St) (f : FuncId) (as : List AV) (hs1 : List Ob) (rd0 : List Nat) (wr0 : List (Nat × Ob)) (nm : Nat) (src : List Nat) (k : Dl → Option R) : Option R :=
  bif (nodupB src && (allNames hs1 src && Nat.ble σ.k0 σ.hs.length)) then
    call f (AV.renL (ix src) as) (packB P (E.pkb f) (pickO (ix src) hs1 src)) fun q =>
      bif (Nat.ble src.length q.2.length && dstB n o) then
        k ⟨o.dst.map fun _ => q.1.ren (bkN src nm), rd0 ++ (src ++ upto σ.hs.length ((nm - σ.hs.length) + (q.2.length - src.length))), wr0 ++ keepW (E.rdo f) hs1 src (backW (bkN src nm) nm src q.2)⟩
      else none
  else none
/-- A type without memory behind it. -/
def scT (T : TypeId) : Bool := match P.underlying T with
  | some (.int _) => true
  | some .bool => true
  | some .string => true
  | _ => false
def scV : AV → Bool
  | .dat T _ => scT P T
  | _ => false
def scR : AV → Bool
  | .tup vs => vs.all (scV P)
  | v => scV P v
def lendB (f : FuncId) : Bool := match E.fns f with
  | some fn => fn.resultTypes.toList.all (scT P)
  | none => false
def isNil {A : Type} : List A → Bool
  | [] => true
  | _ => false
def evCall (n : Nat) (o : Oper) (σ : St) (g : Operand) (xs : List Operand) (Ts : List TypeId) (k : Dl → Option R) : Option R :=
  match opd P E.dt σ 0 g with
  | .fn f caps => bif (Nat.beq xs.length Ts.length && capsB P caps) then
    (bif E.own f then
      let r1 := AV.n2rL P (dnL P (E.nd f) 0 (opds P E.dt σ Ts xs)) σ.hs.length
      let hs1 := layN σ.hs σ.hs.length r1.2
      callTail P E call n o σ f (r1.1 ++ caps) hs1 [] (nilW σ.hs.length r1.2) (σ.hs.length + r1.2.length) (reach hs1 1000 (AV.nmsL (r1.1 ++ caps)) []) k
    else bif E.fzc f then
      let bs := ptrsL (opds P E.dt σ Ts xs)
      let L := AV.rwsL (opds P E.dt σ Ts xs) ++ boxRows σ.hs bs
      let hs1 := wrO σ.hs (frzW σ.hs L)
      let hs2 := wrO hs1 (fzbW P E.pty hs1 bs)
      callTail P E call n o σ f ((opds P E.dt σ Ts xs).map (fun v => pkZ hs2 (pkA P (E.raw f) hs2 v)) ++ caps) hs2 (L ++ bs) (frzW σ.hs L ++ fzbW P E.pty hs1 bs) σ.hs.length (reach hs2 1000 (AV.nmsL ((opds P E.dt σ Ts xs).map (fun v => pkZ hs2 (pkA P (E.raw f) hs2 v)) ++ caps)) []) k
    else
      let rws := AV.rwsL (opds P E.dt σ Ts xs)
      let fw := frzW σ.hs rws
      let hs1 := wrO σ.hs fw
      let as1 := (opds P E.dt σ Ts xs).map (pkA P (E.raw f) hs1)
      bif (lendB P E f && isNil (AV.nmsL (as1 ++ caps))) then
        call f (AV.renL (ix []) (as1 ++ caps)) [] fun q => bif (scR P q.1 && (isNil q.2 && dstB n o)) then k ⟨o.dst.map fun _ => q.1, rws, []⟩ else none
      else
        let bx := AV.nmsL (opds P E.dt σ Ts xs ++ caps)
        let L := rws ++ boxRows σ.hs bx
        let hs2 := wrO σ.hs (frzW σ.hs L)
        let as2 := (opds P E.dt σ Ts xs).map fun v => lendV P hs2 (pkA P (E.raw f) hs2 v)
        let cs2 := caps.map (lend1 P hs2)
        bif (E.lnd f && (lendB P E f && isNil (AV.nmsL (as2 ++ cs2)))) then
          call f (AV.renL (ix []) (as2 ++ cs2)) [] fun q => bif (scR P q.1 && (isNil q.2 && dstB n o)) then k ⟨o.dst.map fun _ => q.1, L ++ bx, []⟩ else none
        else
          callTail P E call n o σ f (as1 ++ caps) hs1 rws fw σ.hs.length (reach hs1 1000 (AV.nmsL (as1 ++ caps)) []) k)
    else none
  | _ => none
def plainV : AV → Bool
  | .dead => false
  | .tup _ => false
  | _ => true
def evMakeI (n : Nat) (o : Oper) (σ : St) (T : TypeId) (x : Operand) (k : Dl → Option R) : Option R :=
  bif (concB P T && plainV (opd P E.dt σ T x)) then out n o (.ifc T (opd P E.dt σ T x)) [] [] k else none
/-- A method, called through an interface value. -/
def evInv (n : Nat) (o : Oper) (σ : St) (g : Operand) (name : String) (xs : List Operand) (Ts : List TypeId) (k : Dl → Option R) : Option R :=
  match opd P E.dt σ 0 g with
  | .ifc T v => match mthOf P T name with
    | some f => bif (Nat.beq xs.length Ts.length && plainV v) then (bif E.own f then
        let r1 := AV.n2rL P (v :: opds P E.dt σ Ts xs) σ.hs.length
        let hs1 := layN σ.hs σ.hs.length r1.2
        callTail P E call n o σ f r1.1 hs1 [] (nilW σ.hs.length r1.2) (σ.hs.length + r1.2.length) (reach hs1 1000 (AV.nmsL r1.1) []) k
      else
        let rws := AV.rwsL (v :: opds P E.dt σ Ts xs)
        let fw := frzW σ.hs rws
        let hs1 := wrO σ.hs fw
        let as1 := (v :: opds P E.dt σ Ts xs).map (pkA P (E.raw f) hs1)
        callTail P E call n o σ f as1 hs1 rws fw σ.hs.length (reach hs1 1000 (AV.nmsL as1) []) k)
      else none
    | none => none
  | _ => none
def elemOK (T Te : TypeId) : Bool := (match slE P T with
  | some Te' => Nat.beq Te' Te
  | none => false) && !Nat.beq (P.cellsOf Te) 0
def zeroD (T : TypeId) : Option Dt := match zeroV P T with
  | some v => match pk P [] v with
    | some (T', d) => bif Nat.beq T' T then some d else none
    | none => none
  | none => none
def evAppend (n : Nat) (o : Oper) (σ : St) (T T' : TypeId) (vx vy : AV) (k : Dl → Option R) : Option R :=
  match slE P T, zeroD P ((slE P T).getD 0) with
  | some Te, some _ => bif (Nat.beq T T' && !Nat.beq (P.cellsOf Te) 0) then
    match (match vy with
      | .row l => match lk σ.hs l with
        | .row T5 ds => bif elemOK P T5 Te then some ([l], ds) else none
        | .frz T5 ds => bif elemOK P T5 Te then some ([l], ds) else none
        | _ => none
      | v => match lval P [] v with
        | some (_, Te', ds) => bif Nat.beq Te' Te then some ([], ds) else none
        | none => none : Option (List Nat × List Dt)) with
    | some (rd, ds) => match vx with
      | .row l => match lk σ.hs l with
        | .row T5 es => bif elemOK P T5 Te then new σ fun nm => appK (P.bytesOf Te) es ds fun rs => out n o (.row nm) (l :: nm :: rd) [(l, .gone), (nm, .row T5 rs)] k else none
        | .rowD T5 T2 c kk es none => match lk σ.hs kk with
          | .tok T4 ls => bif elemOK P T5 Te && (Nat.beq T4 T2 && ds.all fun e => !lkd c e) then new σ fun nm => appK (P.bytesOf Te) es ds fun rs =>
              out n o (.row (nm + 1)) (l :: kk :: nm :: (nm + 1) :: rd) [(l, .rowD T5 T2 c nm es none), (kk, .gone), (nm, .tok T2 (ls ++ List.replicate ds.length (.lst []))), (l, .gone), (nm + 1, .rowD T5 T2 c nm rs none)] k else none
          | _ => none
        | _ => none
      | .nils T5 => bif elemOK P T5 Te then new σ fun nm => appK (P.bytesOf Te) [] ds fun rs => out n o (.row (nm + 1)) (nm :: (nm + 1) :: rd) [(nm, .gone), (nm + 1, .row T5 rs)] k else none
      | _ => none
    | none => none
    else none
  | _, _ => none

/-- The elements of a row, as values. -/
def elsA (P : Program) (Te : TypeId) : Ob → Option (List AV)
  | .row T es => bif elemOK P T Te then some (es.map (.dat Te)) else none
  | .rowA T vs => bif elemOK P T Te then some vs else none
  | _ => none
def evAppendA (n : Nat) (o : Oper) (σ : St) (T T' : TypeId) (l l2 : Nat) (k : Dl → Option R) : Option R :=
  match slE P T, zeroD P ((slE P T).getD 0) with
  | some Te, some _ => bif (Nat.beq T T' && (!Nat.beq (P.cellsOf Te) 0 && Nat.ble (P.bytesOf Te) 1024)) then
    match elsA P Te (lk σ.hs l), elsA P Te (lk σ.hs l2) with
    | some es, some ds => bif Nat.ble (es.length + ds.length) 137438953472 then
        new σ fun nm => out n o (.row nm) [l, nm, l2] [(l, .gone), (nm, .rowA T (es ++ ds))] k else none
    | _, _ => none
    else none
  | _, _ => none
def isRA : Ob → Bool
  | .rowA _ _ => true
  | _ => false
/-- A deep row whose elements are slices; a row that holds one row. -/
def rowD1 : Ob → Option (TypeId × TypeId × Nat × List Dt)
  | .rowD T5 T2 none kk es none => some (T5, T2, kk, es)
  | _ => none
def oneA : Ob → Option (TypeId × Nat)
  | .rowA T [.row m] => some (T, m)
  | _ => none
/-- A row, appended to a deep row. -/
def evAppendR (n : Nat) (o : Oper) (σ : St) (T T' : TypeId) (l l2 : Nat) (T5 T2 kk : Nat) (es : List Dt) (Tr m : Nat) (k : Dl → Option R) : Option R :=
  match slE P T, zeroD P ((slE P T).getD 0) with
  | some Te, some _ => match lk σ.hs kk, slE P T2 with
    | .tok T4 ls, some _ => bif Nat.beq T T' && (Nat.beq T4 T2 && (Nat.beq T2 Te && (elemOK P T5 Te && (elemOK P Tr Te && (Nat.beq (P.cellsOf Te) 1 && (Nat.ble (P.bytesOf Te) 1024 && Nat.ble (es.length + 1) 137438953472)))))) then
        new σ fun nm => out n o (.row (nm + 1)) [l, kk, nm, nm + 1, l2] [(l, .rowD T5 T2 none nm es none), (kk, .gone), (nm, .tok T2 (ls ++ List.replicate 1 (.lst []))), (l, .gone), (nm + 1, .rowD T5 T2 none nm (es ++ [.bool true]) (some (es.length, m)))] k
      else none
    | _, _ => none
  | _, _ => none
def evAppend2 (n : Nat) (o : Oper) (σ : St) (T T' : TypeId) (vx vy : AV) (k : Dl → Option R) : Option R := match vx, vy with
  | .row l, .row l2 => match rowD1 (lk σ.hs l), oneA (lk σ.hs l2) with
    | some (T5, T2, kk, es), some (Tr, m) => evAppendR P n o σ T T' l l2 T5 T2 kk es Tr m k
    | _, _ => bif (isRA (lk σ.hs l2) || isRA (lk σ.hs l)) then evAppendA P n o σ T T' l l2 k else evAppend P n o σ T T' (.row l) (.row l2) k
  | vx, vy => evAppend P n o σ T T' vx vy k

/-- A type of bytes. -/
def u8B (T : TypeId) : Bool := isI P T .u8 && (match P.info? T with
  | some i => Nat.beq i.size 1 && (Nat.beq i.bytes 1 && (match i.zero with
    | some (.int .u8 m) => decide (m = 0)
    | _ => false))
  | none => false)
/-- A string, appended to bytes. -/
def evAppendS (n : Nat) (o : Oper) (σ : St) (T T' : TypeId) (vx vy : AV) (k : Dl → Option R) : Option R :=
  match slE P T with
  | some Te => bif (u8B P Te && isS P T') then
    match sval P vy with
    | some (_, s) => match vx with
      | .row l => match lk σ.hs l with
        | .row T5 es => bif elemOK P T5 Te then new σ fun nm => (app es (bytesD s)).bind fun rs => out n o (.row nm) [l, nm] [(l, .gone), (nm, .row T5 rs)] k else none
        | _ => none
      | _ => none
    | none => none
    else none
  | none => none
/-- Bytes as a string. -/
def evConvB (n : Nat) (o : Oper) (σ : St) (Te S2 : TypeId) (vy : AV) (k : Dl → Option R) : Option R :=
  bif (isI P Te .u8 && (Nat.beq (P.cellsOf Te) 1 && isS P S2)) then
    match (match vy with
      | .row l => match lk σ.hs l with
        | .row T5 ds => bif elemOK P T5 Te then some ([l], ds) else none
        | .frz T5 ds => bif elemOK P T5 Te then some ([l], ds) else none
        | _ => none
      | v => match lval P [] v with
        | some (_, Te', ds) => bif Nat.beq Te' Te then some ([], ds) else none
        | none => none : Option (List Nat × List Dt)) with
    | some (rd, ds) => (bstr ds).bind fun s => out n o (.dat S2 (.str s)) rd [] k
    | none => none
  else none

def evPick (n : Nat) (o : Oper) (σ : St) (c x y : Operand) (k : Dl → Option R) : Option R := match bval P (opd P E.dt σ 0 c) with
  | some b => bif b then out n o (opd P E.dt σ o.type x) [] [] k else out n o (opd P E.dt σ o.type y) [] [] k
  | none => none
def evAlloc (n : Nat) (o : Oper) (σ : St) (T : TypeId) (k : Dl → Option R) : Option R := match zeroV P T with
  | some v => new σ fun nm => out n o (.ptr nm [] 0) [nm] [(nm, .box T v)] k
  | none => none
def evBox (n : Nat) (o : Oper) (σ : St) (T : TypeId) (x : Operand) (k : Dl → Option R) : Option R :=
  bif szB P T (opd P E.dt σ T x) then new σ fun nm => out n o (.ptr nm [] 0) [nm] [(nm, .box T (opd P E.dt σ T x))] k else none
def evBuild (n : Nat) (o : Oper) (σ : St) (T : TypeId) (parts : List (Nat × Operand)) (k : Dl → Option R) : Option R := match stF P T with
  | some fs => match zeroV P T with
    | some (.agg T' vs) => bif (Nat.beq T' T && (layB P T fs && okFields P fs)) then (match bldL P E σ fs parts vs with
      | some us => out n o (.agg T us) [] [] k
      | none => none) else none
    | _ => none
  | none => none
/-- An array's literal. -/
def evBuildA (n : Nat) (o : Oper) (σ : St) (T : TypeId) (parts : List (Nat × Operand)) (k : Dl → Option R) : Option R :=
  match P.underlying T with
    | some (.array len Te) => match P.info? T with
      | some zi => match zi.zero with
        | some za => match datL P [] Te ((parts.map (·.2)).map (opd P E.dt σ Te)) with
          | some ds => bif (dense 0 parts && (Nat.beq len parts.length && (!Nat.beq len 0 && (!Nat.beq (P.cellsOf Te) 0 && (Nat.beq za.cells.size (len * P.cellsOf Te) && Nat.beq (P.cellsOf T) (len * P.cellsOf Te)))))) then out n o (.dat T (.lst ds)) [] [] k else none
          | none => none
        | none => none
      | none => none
    | _ => none
def evBuild2 (n : Nat) (o : Oper) (σ : St) (T : TypeId) (parts : List (Nat × Operand)) (k : Dl → Option R) : Option R := match stF P T with
  | some _ => evBuild P E n o σ T parts k
  | none => evBuildA P E n o σ T parts k
def evBuildSlice (n : Nat) (o : Oper) (σ : St) (T : TypeId) (len : Nat) (parts : List (Nat × Operand)) (k : Dl → Option R) : Option R := match slE P T with
  | some Te => match zeroD P Te with
    | some _ => match datL P (wrO σ.hs (frzW σ.hs (AV.rwsL (parts.map fun p => opd P E.dt σ Te p.2)))) Te (parts.map fun p => opd P E.dt σ Te p.2) with
      | some ds => bif (dense 0 parts && (Nat.beq len parts.length && (!Nat.beq len 0 && (!Nat.beq (P.cellsOf Te) 0 && Nat.ble (len * P.cellsOf Te) 16777216)))) then
          new σ fun nm => out n o (.row nm) (nm :: AV.rwsL (parts.map fun p => opd P E.dt σ Te p.2)) (frzW σ.hs (AV.rwsL (parts.map fun p => opd P E.dt σ Te p.2)) ++ [(nm, .row T ds)]) k
        else none
      | none => none
    | none => none
  | none => none
/-- A slice's literal whose elements hold rows. -/
def evBuildSA (n : Nat) (o : Oper) (σ : St) (T : TypeId) (len : Nat) (parts : List (Nat × Operand)) (k : Dl → Option R) : Option R := match slE P T with
  | some Te => match zeroD P Te with
    | some _ => bif ((parts.map (·.2)).all (fun x => szB P Te (opd P E.dt σ Te x)) && (dense 0 parts && (Nat.beq len parts.length && (!Nat.beq len 0 && (!Nat.beq (P.cellsOf Te) 0 && Nat.ble (len * P.cellsOf Te) 16777216))))) then
          new σ fun nm => out n o (.row nm) [nm] [(nm, .rowA T ((parts.map (·.2)).map (opd P E.dt σ Te)))] k
        else none
    | none => none
  | none => none
def evBuildS2 (n : Nat) (o : Oper) (σ : St) (T : TypeId) (len : Nat) (parts : List (Nat × Operand)) (k : Dl → Option R) : Option R :=
  bif E.nest o then evBuildSA P E n o σ T len parts k else evBuildSlice P E n o σ T len parts k
/-- The slice of an element is loaded: it comes to be a row of its own. -/
def evLoadD0 (n : Nat) (o : Oper) (σ : St) (T l i sz off : Nat) (T5 T2 : TypeId) (c : Option Nat) (kk : Nat) (es : List Dt) (h : Option (Nat × Nat)) (k : Dl → Option R) : Option R := match h, slE P T5, slE P T, lk σ.hs kk with
  | none, some Te, some _, .tok T4 ls => match holeF P Te c with
    | some (T3, fo) => bif (Nat.beq T3 T && (Nat.beq T2 T && (Nat.beq T4 T && (Nat.beq fo off && Nat.beq sz (P.cellsOf Te))))) then
        new σ fun nm => (es[i]?).bind fun e => bif lkd c e then (ls[i]?).bind fun e2 =>
          out n o (.row nm) [l, kk, nm, nm + 1] [(l, .rowD T5 T c (nm + 1) es (some (i, nm))), (kk, .gone), (nm, .row T e2.toLst), (nm + 1, .tok T (ls.set i (.lst [])))] k else none
      else none
    | none => none
  | _, _, _, _ => none
/-- The slice of the element that is out of its row is loaded again. -/
def evLoadO (n : Nat) (o : Oper) (T l i sz off : Nat) (T5 T2 : TypeId) (c : Option Nat) (es : List Dt) (i' m : Nat) (k : Dl → Option R) : Option R := match slE P T5, slE P T with
  | some Te, some _ => match holeF P Te c with
    | some (T3, fo) => bif (Nat.beq T3 T && (Nat.beq T2 T && (Nat.beq fo off && Nat.beq sz (P.cellsOf Te)))) then
        bif Nat.beq i' i then (es[i]?).bind fun e => bif lkd c e then out n o (.row m) [l] [] k else none else none
      else none
    | none => none
  | _, _ => none
def evLoadD (n : Nat) (o : Oper) (σ : St) (T l i sz off : Nat) (T5 T2 : TypeId) (c : Option Nat) (kk : Nat) (es : List Dt) (h : Option (Nat × Nat)) (k : Dl → Option R) : Option R := match h with
  | some (i', m) => evLoadO P n o T l i sz off T5 T2 c es i' m k
  | none => evLoadD0 P n o σ T l i sz off T5 T2 c kk es none k
/-- What is put into an element: its row, its data. -/
def elemM (c : Option Nat) (v : AV) : Option Nat := match c, v with
  | none, .row m => some m
  | some f, .agg _ vs => match vs[f]? with
    | some (.row m) => some m
    | _ => none
  | _, _ => none
def notN (m : Nat) : List Nat → List Nat
  | [] => []
  | l :: r => bif Nat.beq l m then notN m r else l :: notN m r
def elemD (hs : List Ob) (Te T2 : TypeId) (c : Option Nat) (v : AV) : Option Dt := match c, v with
  | none, _ => some (.bool true)
  | some f, .agg T' vs => match pk P hs (.agg Te (vs.set f (.nils T2))) with
    | some (T3, e') => bif (Nat.beq T' Te && Nat.beq T3 Te) then some (hol (some f) e' (.bool true)) else none
    | none => none
  | _, _ => none
def evStoreD (o : Oper) (σ : St) (T l i sz : Nat) (path : List Nat) (off : Nat) (T5 T2 : TypeId) (c : Option Nat) (kk : Nat) (es : List Dt) (h : Option (Nat × Nat)) (v : AV) (k : Dl → Option R) : Option R := match h, path, slE P T5, elemM c v with
  | none, [], some Te, some m => match holeF P Te c, slE P T2, elemD P (wrO σ.hs (frzW σ.hs (notN m v.rws))) Te T2 c v with
    | some (T3, _), some _, some d' => bif (Nat.beq T3 T2 && (Nat.beq Te T && (Nat.beq off 0 && (Nat.beq sz (P.cellsOf T) && !memB l (notN m v.rws))))) then
        (es[i]?).bind fun _ => outN o (l :: v.rws) (frzW σ.hs (notN m v.rws) ++ [(l, .rowD T5 T2 c kk (es.set i d') (some (i, m)))]) k
      else none
    | _, _, _ => none
  | _, _, _, _ => none
/-- A boxed array: its elements' type, its datum. -/
def arB (S : TypeId) (c : AV) : Option (TypeId × Dt) := match P.underlying S with
  | some (.array len Te) => match c with
    | .dat S' d => bif (Nat.beq S' S && (Nat.beq (P.cellsOf S) (len * P.cellsOf Te) && !Nat.beq (P.cellsOf Te) 0)) then some (Te, d) else none
    | _ => none
  | _ => none
def evLoadArr (n : Nat) (o : Oper) (T l i sz : Nat) (path : List Nat) (off S : Nat) (c : AV) (k : Dl → Option R) : Option R := match path, arB P S c with
  | [], some (Te, d) => bif (Nat.beq Te T && (Nat.beq off 0 && (Nat.beq sz (P.cellsOf Te) && szB P T (.dat T d)))) then (d.toLst[i]?).bind fun e => out n o (.dat T (canD P T e)) [l] [] k else none
  | _, _ => none
def evStoreArr (o : Oper) (T l i sz : Nat) (path : List Nat) (off S : Nat) (c v : AV) (k : Dl → Option R) : Option R := match path, arB P S c, v with
  | [], some (Te, d), .dat T' x => bif (Nat.beq Te T && (Nat.beq T' T && (Nat.beq off 0 && Nat.beq sz (P.cellsOf Te)))) then (d.toLst[i]?).bind fun _ => outN o [l] [(l, .box S (.dat S (.lst (d.toLst.set i x))))] k else none
  | _, _, _ => none
def evLoad (n : Nat) (o : Oper) (σ : St) (T : TypeId) (x : Operand) (k : Dl → Option R) : Option R := match opd P E.dt σ 0 x with
  | .rptr T' d => bif (Nat.beq T' T && szB P T (.dat T d)) then out n o (.dat T (canD P T d)) [] [] k else none
  | .ptr l path off => match lk σ.hs l with
    | .box S c => match getAt P S c path with
      | some (T', q, v) => bif (Nat.beq T' T && (Nat.beq q off && (szB P T v && (v.isAgg P == aggT P T)))) then out n o (v.canon P) [l] [] k else none
      | none => none
    | _ => none
  | .eptr l i sz path off => match lk σ.hs l with
    | .row T5 es => match slE P T5 with
      | some Te => (es[i]?).bind fun e => match getAt P Te (.dat Te e) path with
        | some (T', q, v) => bif (Nat.beq T' T && (Nat.beq q off && (Nat.beq sz (P.cellsOf Te) && (szB P T v && (v.isAgg P == aggT P T))))) then out n o (v.canon P) [l] [] k else none
        | none => none
      | none => none
    | .rowA T5 vs => match slE P T5 with
      | some Te => (vs[i]?).bind fun e => match getAt P Te e path with
        | some (T', q, v) => bif (Nat.beq T' T && (Nat.beq q off && (Nat.beq sz (P.cellsOf Te) && (szB P T v && (v.isAgg P == aggT P T))))) then out n o (v.canon P) [l] [] k else none
        | none => none
      | none => none
    | .rowD T5 T2 c kk es h => evLoadD P n o σ T l i sz off T5 T2 c kk es h k
    | .box S c => evLoadArr P n o T l i sz path off S c k
    | _ => none
  | _ => none
def evStore (o : Oper) (σ : St) (T : TypeId) (x y : Operand) (k : Dl → Option R) : Option R :=
  bif (szB P T (opd P E.dt σ T y) && !Nat.beq (P.cellsOf T) 0) then (match opd P E.dt σ 0 x with
  | .ptr l path off => match lk σ.hs l with
    | .box S c => match setAt P T (opd P E.dt σ T y) S c path with
      | some (q, c') => bif Nat.beq q off then outN o [l] [(l, .box S c')] k else none
      | none => none
    | _ => none
  | .eptr l i sz path off => match lk σ.hs l with
    | .row T5 es => match slE P T5 with
      | some Te => (es[i]?).bind fun e => match setAt P T (opd P E.dt σ T y) Te (.dat Te e) path with
        | some (q, c') => match pk P (wrO σ.hs (frzW σ.hs (opd P E.dt σ T y).rws)) c' with
          | some (Te', e') => bif (Nat.beq q off && (Nat.beq sz (P.cellsOf Te) && (compat P Te' Te && !memB l (opd P E.dt σ T y).rws))) then outN o (l :: (opd P E.dt σ T y).rws) (frzW σ.hs (opd P E.dt σ T y).rws ++ [(l, .row T5 (es.set i e'))]) k else none
          | none => none
        | none => none
      | none => none
    | .rowA T5 vs => match slE P T5 with
      | some Te => (vs[i]?).bind fun e => match setAt P T (opd P E.dt σ T y) Te e path with
        | some (q, c') => bif (Nat.beq q off && Nat.beq sz (P.cellsOf Te)) then outN o [l] [(l, .rowA T5 (vs.set i c'))] k else none
        | none => none
      | none => none
    | .rowD T5 T2 c kk es h => evStoreD P o σ T l i sz path off T5 T2 c kk es h (opd P E.dt σ T y) k
    | .box S c => evStoreArr P o T l i sz path off S c (opd P E.dt σ T y) k
    | _ => none
  | _ => none) else none
/-- A method of an interface value, as a function value. -/
def evMakeMth (n : Nat) (o : Oper) (σ : St) (name : String) (first : List Operand) (nc : Nat) (k : Dl → Option R) : Option R := match first with
  | [x] => match opd P E.dt σ 0 x with
    | .ifc T _ => bif Nat.beq nc 0 then out n o (.mth T name) [] [] k else none
    | _ => none
  | _ => none
def evNilCheck (n : Nat) (o : Oper) (σ : St) (x : Operand) (k : Dl → Option R) : Option R := match opd P E.dt σ 0 x with
  | .rptr T d => out n o (.rptr T d) [] [] k
  | .ptr l p q => out n o (.ptr l p q) [] [] k
  | .eptr l i z p q => out n o (.eptr l i z p q) [] [] k
  | .fn f c => out n o (.fn f c) [] [] k
  | .mth T name => match mthOf P T name with
    | some _ => out n o (.mth T name) [] [] k
    | none => none
  | .dat T d => match ppE P T with
    | some T2 => (idx d.toLst 0).bind fun e => out n o (.rptr T2 e) [] [] k
    | none => none
  | _ => none
/-- An interface value beside the literal nil. -/
def evNil (n : Nat) (o : Oper) (op : BinOp) (T : TypeId) (vx : AV) (y : Operand) (k : Dl → Option R) : Option R := match y with
  | .const .nilIface => match P.underlying T with
    | some (.interface _) => match vx with
      | .nif b => match bT P (o.type :: E.dt) with
        | some TB => match op with
          | .eql => out n o (.dat TB (.bool b)) [] [] k
          | .neq => out n o (.dat TB (.bool (!b))) [] [] k
          | _ => none
        | none => none
      | _ => none
    | _ => none
  | _ => none
/-- A pointer beside the literal nil. -/
def evPn (n : Nat) (o : Oper) (σ : St) (op : BinOp) (T : TypeId) (x y : Operand) (k : Dl → Option R) : Option R := match y with
  | .const (.pointer none) => match ppE P T with
    | some _ => match opd P E.dt σ T x with
      | .dat T1 p => bif Nat.beq T1 T then (match bT P (o.type :: E.dt) with
        | some TB => match op with
          | .eql => out n o (.dat TB (.bool p.toLst.isEmpty)) [] [] k
          | .neq => out n o (.dat TB (.bool (!p.toLst.isEmpty))) [] [] k
          | _ => none
        | none => none) else none
      | _ => none
    | none => none
  | _ => none
/-- Two structs of two integers; else an interface value. -/
def evPt (n : Nat) (o : Oper) (σ : St) (op : BinOp) (T : TypeId) (x y : Operand) (T' : TypeId) (k : Dl → Option R) : Option R := match opd P E.dt σ T' y with
  | .dat T2 q => match opd P E.dt σ T x with
    | .dat T1 p => bif (ptOK P T && (Nat.beq T1 T && Nat.beq T2 T)) then (match bT P (o.type :: E.dt) with
      | some TB => match op with
        | .eql => out n o (.dat TB (.bool (ptE p q))) [] [] k
        | .neq => out n o (.dat TB (.bool (!(ptE p q)))) [] [] k
        | _ => none
      | none => none) else evPn P E n o σ op T x y k
    | _ => none
  | _ => evNil P E n o op T (opd P E.dt σ T x) y k
def evBin (n : Nat) (o : Oper) (σ : St) (op : BinOp) (T : TypeId) (x y : Operand) (T' : TypeId) (k : Dl → Option R) : Option R := match ival P (opd P E.dt σ T x) with
  | some (Tx, q, a) => match ival P (opd P E.dt σ T' y) with
    | some (_, q', b) => match op with
      | .shl => bif decide (0 ≤ b) then out n o (.dat Tx (.int (shlI q a b))) [] [] k else none
      | .shr => bif decide (0 ≤ b) then out n o (.dat Tx (.int (shrI q a b))) [] [] k else none
      | _ => bif decide (q = q') then evInt P E n o op Tx q a b k else none
    | none => none
  | none => match sval P (opd P E.dt σ T x) with
    | some (Tx, a) => match sval P (opd P E.dt σ T' y) with
      | some (_, b) => evStr P E n o op Tx a b k
      | none => none
    | none => match bval P (opd P E.dt σ T x) with
      | some a => match bval P (opd P E.dt σ T' y) with
        | some b => bif isB P T then evBool P E n o op a b k else none
        | none => none
      | none => evPt P E n o σ op T x y T' k
def evNot (n : Nat) (o : Oper) (σ : St) (x : Operand) (k : Dl → Option R) : Option R := match bval P (opd P E.dt σ o.type x) with
  | some b => match bT P (o.type :: E.dt) with
    | some TB => out n o (.dat TB (.bool (!b))) [] [] k
    | none => none
  | none => none
def evNeg (n : Nat) (o : Oper) (σ : St) (T : TypeId) (x : Operand) (k : Dl → Option R) : Option R := match ival P (opd P E.dt σ T x) with
  | some (Tx, q, a) => out n o (.dat Tx (.int (q.wrap (0 - a)))) [] [] k
  | none => none
def evCompl (n : Nat) (o : Oper) (σ : St) (T : TypeId) (x : Operand) (k : Dl → Option R) : Option R := match ival P (opd P E.dt σ T x) with
  | some (Tx, q, a) => out n o (.dat Tx (.int (complI q a))) [] [] k
  | none => none
def evConvert (n : Nat) (o : Oper) (σ : St) (S1 S2 : TypeId) (x : Operand) (k : Dl → Option R) : Option R := match ival P (opd P E.dt σ S1 x) with
  | some (_, q, a) => match P.underlying S2 with
    | some (.int q2) => bif isI P S1 q then out n o (.dat S2 (.int (q2.wrap a))) [] [] k else none
    | _ => none
  | none => match sval P (opd P E.dt σ S1 x) with
    | some (_, s) => bif (isS P S1 && isS P S2) then out n o (.dat S2 (.str s)) [] [] k else none
    | none => none
def evMake (n : Nat) (o : Oper) (σ : St) (T : TypeId) (x y : Operand) (k : Dl → Option R) : Option R := match slE P T with
  | some Te => match zeroD P Te with
    | some z => match bndE P E σ 0 (some x) with
      | some a => match bndE P E σ 0 (some y) with
        | some b => bif (!Nat.beq (P.cellsOf Te) 0) then
            new σ fun nm => mkK (P.bytesOf Te) a b z fun es => out n o (.row nm) [nm] [(nm, .row T es)] k
          else none
        | none => none
      | none => none
    | none => none
  | none => none
/-- A slice of a row that nobody looks at: the bounds are checked, the row stays. -/
def evSliceD (n : Nat) (o : Oper) (σ : St) (T : TypeId) (x : Operand) (lo hi : Option Operand) (k : Dl → Option R) : Option R := match opd P E.dt σ T x with
  | .row l => match lk σ.hs l with
    | .row _ es => match bndE P E σ 0 lo with
      | some a => match bndE P E σ es.length hi with
        | some b => match slE P T with
          | some Te => bif !Nat.beq (P.cellsOf Te) 0 then (cutL es a b).bind fun _ => out n o .dead [l] [] k else none
          | none => none
        | none => none
      | none => none
    | _ => none
  | _ => none
/-- A row, cut short: it stays owned. -/
def evSliceC (n : Nat) (o : Oper) (σ : St) (T : TypeId) (x : Operand) (lo hi : Option Operand) (k : Dl → Option R) : Option R := match lo, opd P E.dt σ T x with
  | none, .row l => match lk σ.hs l with
    | .row T5 es => match bndE P E σ es.length hi with
      | some b => match slE P T with
        | some Te => bif elemOK P T5 Te then new σ fun nm => (cutL es 0 b).bind fun rs => out n o (.row nm) [l, nm] [(l, .gone), (nm, .row T5 rs)] k else none
        | none => none
      | none => none
    | _ => none
  | _, _ => none
def evSlice (n : Nat) (o : Oper) (σ : St) (T : TypeId) (x : Operand) (lo hi : Option Operand) (k : Dl → Option R) : Option R := bif E.sld o then evSliceD P E n o σ T x lo hi k else bif E.cut o then evSliceC P E n o σ T x lo hi k else match sval P (opd P E.dt σ T x) with
  | some (Tx, s) => match bndE P E σ 0 lo with
    | some a => match bndE P E σ s.size hi with
      | some b => bif isS P T then (cutS s a b).bind fun r => out n o (.dat Tx (.str r)) [] [] k else none
      | none => none
    | none => none
  | none => match lval P (wrO σ.hs (frzW σ.hs (opd P E.dt σ T x).rws)) (opd P E.dt σ T x) with
    | some (Tx, Te, es) => match bndE P E σ 0 lo with
      | some a => match bndE P E σ es.length hi with
        | some b => bif elemOK P T Te then (cutL es a b).bind fun r => out n o (.dat Tx (.lst r)) (opd P E.dt σ T x).rws (frzW σ.hs (opd P E.dt σ T x).rws) k else none
        | none => none
      | none => none
    | none => none
def evFieldAddr (n : Nat) (o : Oper) (σ : St) (S : TypeId) (x : Operand) (i : Nat) (k : Dl → Option R) : Option R := match stF P S with
  | some fs => match fs[i]? with
    | some f => bif !Nat.beq (P.cellsOf f.type) 0 then (match opd P E.dt σ 0 x with
      | .ptr l p q => out n o (.ptr l (p ++ [i]) (q + f.offset)) [] [] k
      | .eptr l j z p q => out n o (.eptr l j z (p ++ [i]) (q + f.offset)) [] [] k
      | .rptr S' d => bif (Nat.beq S' S && Nat.ble (f.offset + P.cellsOf f.type) (P.cellsOf S)) then out n o (.rptr f.type (d.fld i)) [] [] k else none
      | .dat T2 d => match ppE P T2 with
        | some S' => (idx d.toLst 0).bind fun e => bif (Nat.beq S' S && Nat.ble (f.offset + P.cellsOf f.type) (P.cellsOf S)) then out n o (.rptr f.type (e.fld i)) [] [] k else none
        | none => none
      | _ => none) else none
    | none => none
  | none => none
def evField (n : Nat) (o : Oper) (σ : St) (S : TypeId) (x : Operand) (i : Nat) (k : Dl → Option R) : Option R := match stF P S with
  | some fs => match fs[i]? with
    | some f => match pk P [] (opd P E.dt σ S x) with
      | some (S', d) => bif (Nat.beq S' S && (Nat.ble (f.offset + P.cellsOf f.type) (P.cellsOf S) && szB P f.type (.dat f.type (d.fld i)))) then out n o (.dat f.type (canD P f.type (d.fld i))) [] [] k else none
      | none => none
    | none => none
  | none => none
def evIndexAddr (n : Nat) (o : Oper) (σ : St) (T : TypeId) (x y : Operand) (k : Dl → Option R) : Option R := match bndE P E σ 0 (some y) with
  | some i => match opd P E.dt σ T x with
    | .row l => match lk σ.hs l with
      | .row T5 es => match slE P T5 with
        | some Te => bif elemOK P T Te then (inL es i).bind fun _ => out n o (.eptr l i.toNat (P.cellsOf Te) [] 0) [l] [] k else none
        | none => none
      | .rowA T5 vs => match slE P T5 with
        | some Te => bif (elemOK P T Te && (decide (0 ≤ i) && decide (i < (vs.length : Int)))) then out n o (.eptr l i.toNat (P.cellsOf Te) [] 0) [l] [] k else none
        | none => none
      | .rowD T5 _ _ _ es _ => match slE P T5 with
        | some Te => bif elemOK P T Te then (inL es i).bind fun _ => out n o (.eptr l i.toNat (P.cellsOf Te) [] 0) [l] [] k else none
        | none => none
      | .frz T5 es => match slE P T5 with
        | some Te => bif elemOK P T Te then (idx es i).bind fun e => out n o (.rptr Te e) [l] [] k else none
        | none => none
      | _ => none
    | .ptr l [] 0 => match lk σ.hs l with
      | .box S c => match arB P S c with
        | some (Te, d) => bif Nat.beq S T then (inL d.toLst i).bind fun _ => out n o (.eptr l i.toNat (P.cellsOf Te) [] 0) [l] [] k else none
        | none => none
      | _ => none
    | v => match lval P [] v with
      | some (_, Te, es) => bif elemOK P T Te then (idx es i).bind fun e => out n o (.rptr Te e) [] [] k else none
      | none => none
  | none => none
def evIndex (n : Nat) (o : Oper) (σ : St) (T : TypeId) (x y : Operand) (k : Dl → Option R) : Option R := match sval P (opd P E.dt σ T x) with
  | some (_, s) => match bndE P E σ 0 (some y) with
    | some i => bif (isS P T && isI P o.type .u8) then (idxS s i).bind fun c => out n o (.dat o.type (.int c)) [] [] k else none
    | none => none
  | none => match opd P E.dt σ T x with
    | .dat T' d => match P.underlying T' with
      | some (.array len Te) => match bndE P E σ 0 (some y) with
        | some i => bif (Nat.beq T' T && (Nat.beq (P.cellsOf T') (len * P.cellsOf Te) && szB P Te (.dat Te (.int 0)))) then (idx d.toLst i).bind fun e => out n o (.dat Te (canD P Te e)) [] [] k else none
        | none => none
      | _ => none
    | _ => none
/-- A map from strings to what takes one cell: its types. -/
def mapKV (T : TypeId) : Option (TypeId × TypeId) := match P.underlying T with
  | some (.map K V) => bif (isS P K && !aggT P V) then some (K, V) else none
  | _ => none
/-- A scalar's zero. -/
def zeroS (T : TypeId) : Option Dt := match P.info? T with
  | some i => match i.zero with
    | some z => bif isAggV z then none else zeroD P T
    | none => none
  | none => none
/-- A type whose zero is the nil slice. -/
def nilZ (P : Program) (T : TypeId) : Bool := match P.info? T with
  | some i => (match i.zero with
    | some (.slice none 0 0) => true
    | _ => false)
  | none => false
def evLookup (n : Nat) (o : Oper) (σ : St) (T : TypeId) (x y : Operand) (two : Bool) (k : Dl → Option R) : Option R := match mapKV P T with
  | some (KT, V) => match zeroS P V with
    | some z => match opd P E.dt σ T x with
      | .row l => match lk σ.hs l with
        | .map T5 es => match mapKV P T5 with
          | some (K5, V5) => match sval P (opd P E.dt σ KT y) with
            | some (_, s) => bif (Nat.beq K5 KT && Nat.beq V5 V) then
                (bif two then (match bT P E.dt with
                  | some TB => out n o (.tup [.dat V (mgetD es s z), .dat TB (.bool (mhas es s))]) [l] [] k
                  | none => none)
                else (bif scT P V then out n o (.dat V (canD P V (mgetD es s z))) [l] [] k else bif mhas es s then out n o (.dat V (canD P V (mgetD es s z))) [l] [] k else bif nilZ P V then out n o (.nils V) [l] [] k else none)) else none
            | none => none
          | none => none
        | _ => none
      | _ => none
    | none => none
  | none => none
def evMakeMap (n : Nat) (o : Oper) (σ : St) (T : TypeId) (k : Dl → Option R) : Option R := match mapKV P T with
  | some _ => new σ fun nm => out n o (.row nm) [nm] [(nm, .map T [])] k
  | none => none
def evMapUpdate (o : Oper) (σ : St) (T : TypeId) (x y u : Operand) (k : Dl → Option R) : Option R := match mapKV P T with
  | some (KT, V) => match opd P E.dt σ T x with
    | .row l => match lk σ.hs l with
      | .map T5 es => match mapKV P T5 with
        | some (_, V5) => match sval P (opd P E.dt σ KT y) with
          | some (_, s) => match pk P (wrO σ.hs (frzW σ.hs (opd P E.dt σ V u).rws)) (opd P E.dt σ V u) with
            | some (TV, d) => bif (compat P TV V5 && (!aggT P TV && !memB l (opd P E.dt σ V u).rws)) then outN o (l :: (opd P E.dt σ V u).rws) (frzW σ.hs (opd P E.dt σ V u).rws ++ [(l, .map T5 (mput es s d))]) k else none
            | none => none
          | none => none
        | none => none
      | _ => none
    | _ => none
  | none => none
/-- A table's cells; its elements. -/
def tabAt : List (Nat × List Value) → Nat → Option (List Value)
  | [], _ => none
  | t :: r, g => bif Nat.beq t.1 g then some t.2 else tabAt r g
def tabD (Te : TypeId) (sz : Nat) : Nat → List Value → Option (List Dt)
  | 0, _ => some []
  | m + 1, cs => match avC P 8 Te (cs.take sz) with
    | some v => match pk P [] v with
      | some (T', d) => bif Nat.beq T' Te then (match tabD Te sz m (cs.drop sz) with
        | some ds => some (d :: ds)
        | none => none) else none
      | none => none
    | none => none
def evTab (n : Nat) (o : Oper) (σ : St) (T : TypeId) (g : Nat) (y : Operand) (k : Dl → Option R) : Option R := match P.underlying T with
  | some (.array len Te) => match tabAt tabs g with
    | some cs => match tabD P Te (P.cellsOf Te) len cs with
      | some ds => match bndE P E σ 0 (some y) with
        | some i => bif (!Nat.beq (P.cellsOf Te) 0 && Nat.beq cs.length (len * P.cellsOf Te)) then (idx ds i).bind fun e => out n o (.rptr Te e) [] [] k else none
        | none => none
      | none => none
    | none => none
  | _ => none
def evExtract (n : Nat) (o : Oper) (σ : St) (x : Operand) (i : Nat) (k : Dl → Option R) : Option R := match opd P E.dt σ 0 x with
  | .tup vs => match vs[i]? with
    | some (.tup _) => none
    | some v => out n o v [] [] k
    | none => none
  | _ => none
def evMakeFunc (n : Nat) (o : Oper) (σ : St) (f : FuncId) (first : Nat) (caps : List Operand) (k : Dl → Option R) : Option R :=
  bif (Nat.beq first 0 && capsB P (caps.map (opd P E.dt σ 0))) then out n o (.fn f (caps.map (opd P E.dt σ 0))) [] [] k else none
def evLen (n : Nat) (o : Oper) (σ : St) (T : TypeId) (x : Operand) (k : Dl → Option R) : Option R :=
  bif isI P o.type .i64 then (match sval P (opd P E.dt σ T x) with
  | some (_, s) => bif isS P T then out n o (.dat o.type (.int s.size)) [] [] k else none
  | none => match slE P T with
    | some _ => match opd P E.dt σ T x with
      | .row l => match lk σ.hs l with
        | .row _ es => out n o (.dat o.type (.int es.length)) [l] [] k
        | .rowA _ vs => out n o (.dat o.type (.int vs.length)) [l] [] k
        | .rowD _ _ _ _ es _ => out n o (.dat o.type (.int es.length)) [l] [] k
        | .frz T5 es => bif (slE P T5).isSome then out n o (.dat o.type (.int es.length)) [l] [] k else none
        | _ => none
      | v => match lval P [] v with
        | some (_, _, es) => out n o (.dat o.type (.int es.length)) [] [] k
        | none => none
    | none => none) else none
def evMin (n : Nat) (o : Oper) (σ : St) (T T' : TypeId) (x y : Operand) (k : Dl → Option R) : Option R := match ival P (opd P E.dt σ T x) with
  | some (Tx, q, a) => match ival P (opd P E.dt σ T' y) with
    | some (_, q', b) => bif decide (q = q') then out n o (.dat Tx (.int (bif decide (b < a) then b else a))) [] [] k else none
    | none => none
  | none => none
def evMax (n : Nat) (o : Oper) (σ : St) (T T' : TypeId) (x y : Operand) (k : Dl → Option R) : Option R := match ival P (opd P E.dt σ T x) with
  | some (Tx, q, a) => match ival P (opd P E.dt σ T' y) with
    | some (_, q', b) => bif decide (q = q') then out n o (.dat Tx (.int (bif decide (a < b) then b else a))) [] [] k else none
    | none => none
  | none => none
def evBuiltin (n : Nat) (o : Oper) (σ : St) (b : Builtin) (xs : List Operand) (Ts : List TypeId) (k : Dl → Option R) : Option R := match b, xs, Ts with
  | .len, [x], [T] => evLen P E n o σ T x k
  | .append, [x, y], [T, T'] => bif isS P T' then evAppendS P n o σ T T' (opd P E.dt σ T x) (opd P E.dt σ T' y) k else evAppend2 P n o σ T T' (opd P E.dt σ T x) (opd P E.dt σ T' y) k
  | .min, [x, y], [T, T'] => evMin P E n o σ T T' x y k
  | .max, [x, y], [T, T'] => evMax P E n o σ T T' x y k
  | _, _, _ => none

def evO (n : Nat) (o : Oper) (σ : St) (k : Dl → Option R) : Option R :=
  match o.op with
  | .move x => out n o (opd P E.dt σ o.type x) [] [] k
  | .assign x => out n o (opd P E.dt σ o.type x) [] [] k
  | .pick c x y => evPick P E n o σ c x y k
  | .alloc T => evAlloc P n o σ T k
  | .box T x => evBox P E n o σ T x k
  | .build T parts => evBuild2 P E n o σ T parts.toList k
  | .buildSlice T len parts => evBuildS2 P E n o σ T len parts.toList k
  | .load T x => evLoad P E n o σ T x k
  | .store T x y => evStore P E o σ T x y k
  | .nilCheck x => evNilCheck P E n o σ x k
  | .binOp op T x y T' => evBin P E n o σ op T x y T' k
  | .unOp .not _ x => evNot P E n o σ x k
  | .unOp .neg T x => evNeg P E n o σ T x k
  | .unOp .xor T x => evCompl P E n o σ T x k
  | .convert S1 S2 x => match slE P S1 with
    | some Te => evConvB P n o σ Te S2 (opd P E.dt σ S1 x) k
    | none => evConvert P E n o σ S1 S2 x k
  | .makeSlice T x y => evMake P E n o σ T x y k
  | .slice T x lo hi none => evSlice P E n o σ T x lo hi k
  | .fieldAddr S x i => evFieldAddr P E n o σ S x i k
  | .field S x i => evField P E n o σ S x i k
  | .indexAddr T (.global g) y => evTab P E n o σ T g y k
  | .indexAddr T x y => evIndexAddr P E n o σ T x y k
  | .lookup T x y two => evLookup P E n o σ T x y two k
  | .makeMap T none => evMakeMap P n o σ T k
  | .mapUpdate T x y u => evMapUpdate P E o σ T x y u k
  | .index T x y => evIndex P E n o σ T x y k
  | .extract x i => evExtract P E n o σ x i k
  | .makeFunc (.func f) first caps => evMakeFunc P E n o σ f first.size caps.toList k
  | .makeFunc (.method name) first caps => evMakeMth P E n o σ name first.toList caps.size k
  | .call ⟨.value g, xs, Ts⟩ => evCall P E call n o σ g xs.toList Ts.toList k
  | .call ⟨.builtin b, xs, Ts⟩ => evBuiltin P E n o σ b xs.toList Ts.toList k
  | .makeInterface T x => evMakeI P E n o σ T x k
  | .call ⟨.invoke g name, xs, Ts⟩ => evInv P E call n o σ g name xs.toList Ts.toList k
  | _ => none
end
end Go.Am
