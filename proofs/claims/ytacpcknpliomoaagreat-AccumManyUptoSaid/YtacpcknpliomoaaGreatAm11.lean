/- The abstract machine, part 11: regions, code, functions. -/
import Derived.Test.YtacpcknpliomoaaGreatAm10
set_option linter.unusedVariables false
set_option linter.unusedSimpArgs false
namespace Go.Am
open Go.RowKit

def tmpsOf : List Operand → List Nat
  | [] => []
  | .tmp t :: r => t :: tmpsOf r
  | _ :: r => tmpsOf r
def gslot (ops : List Oper) (j : Nat) : Option Nat := match ops[j]? with
  | some o => o.dst
  | none => none
def Oper.reads (ops : List Oper) (o : Oper) : List Nat := (match o.guard with
  | some (j, _) => (gslot ops j).toList
  | none => []) ++ tmpsOf o.op.operands.toList
def disj (a b : List Nat) : Bool := a.all fun x => !memB x b
def indep (ops : List Oper) (p q : Oper × Dl) : Bool :=
  disj p.1.dst.toList (q.1.dst.toList ++ Oper.reads ops q.1) && (disj q.1.dst.toList (Oper.reads ops p.1) &&
  (disj (p.2.wr.map (·.1)) (q.2.rd ++ q.2.wr.map (·.1)) && disj (q.2.wr.map (·.1)) p.2.rd))
def ancOf (ancs : List Nat) : List Edge → Nat
  | [] => 0
  | e :: r => bif Region.binds .any e then Nat.lor (Nat.lor (2 ^ e.on) (ancs.getD e.on 0)) (ancOf ancs r) else ancOf ancs r
def chkGo (ops : List Oper) (q : Oper × Dl) (m : Nat) : Nat → List (Oper × Dl) → Bool
  | _, [] => true
  | i, p :: r => (Nat.testBit m i || indep ops p q) && chkGo ops q m (i + 1) r
def drawGo (ops : List Oper) : List (Oper × Dl) → List Nat → List (Oper × Dl) → Bool
  | _, _, [] => true
  | pre, ancs, q :: r => chkGo ops q (ancOf ancs q.1.after.toList) 0 pre && drawGo ops (pre ++ [q]) (ancs ++ [ancOf ancs q.1.after.toList]) r

/-- A mark: from here on the run is known by another name. -/
def jn {A : Type} (_ _ _ : Nat) (_ : St) (x : A) : A := x
/-- A guard's value: unknown, undefined, or a bool. -/
def gval (P : Program) : AV → Option (Option (TypeId × Bool))
  | .tup [] => some none
  | .dat T (.bool b) => match P.underlying T with
    | some .bool => some (some (T, b))
    | _ => none
  | _ => none

/-- Both ways must come to the same. -/
noncomputable def same {R : Type} (a b : Option R) : Option R := open Classical in if a = b then a else none
theorem same_some {R : Type} {a b : Option R} {r : R} (h : same a b = some r) : a = some r ∧ b = some r := by
  unfold same at h
  split at h
  · rename_i e
    exact ⟨h, by rw [← e]; exact h⟩
  · cases h
theorem same_eq {R : Type} {a b : Option R} (h : a = b) : same a b = a := by
  unfold same
  rw [if_pos h]
/-- The row in a slot, or in the struct that the slot's pointer points to. -/
def rowAt (σ : St) (f s : Nat) : Option Nat := match tk σ.ts s with
  | .row l => some l
  | .ptr b _ _ => match lk σ.hs b with
    | .box _ (.row l) => some l
    | .box _ (.agg _ vs) => match vs[f]? with
      | some (.row l) => some l
      | _ => none
    | _ => none
  | _ => none
def ixAt (σ : St) (s : Nat) : Option Nat := match tk σ.ts s with
  | .dat _ d => some d.toInt.toNat
  | _ => none
/-- Ahead of a region: an element's row is taken out of its deep row (field, slot of the row, slot of the index). -/
def focK {R : Type} (fc : Option (Nat × Nat × Nat)) (σ : St) (k : St → Option R) : Option R := match fc with
  | none => k σ
  | some (f, s, t) => match rowAt σ f s, ixAt σ t with
    | some l, some i => match lk σ.hs l with
      | .rowD T5 T2 c kk es none => match lk σ.hs kk with
        | .tok T4 ls => bif Nat.beq T4 T2 then
            new σ fun nm => (es[i]?).bind fun e => bif lkd c e then (ls[i]?).bind fun e2 =>
              k ⟨σ.ts, setO (setO (setO (setO σ.hs l (.rowD T5 T2 c (nm + 1) es (some (i, nm)))) kk .gone) nm (.row T2 e2.toLst)) (nm + 1) (.tok T2 (ls.set i (.lst []))), σ.k0⟩ else none
          else none
        | _ => none
      | _ => none
    | _, _ => none
section
variable {R : Type} (P : Program) (E : Env) (call : FuncId → List AV → List Ob → (Res → Option R) → Option R)

def skipD (n : Nat) (o : Oper) (k : Dl → Option R) : Option R := match o.dst with
  | some d => bif Nat.blt d n then k ⟨some (.tup []), [], []⟩ else none
  | none => k ⟨none, [], []⟩
def evOps (n : Nat) (ops : List Oper) : List Oper → St → List (Oper × Dl) → (St → List (Oper × Dl) → Option R) → Option R
  | [], σ, tr, k => k σ tr
  | o :: r, σ, tr, k => match o.guard with
    | none => evO P E call n o σ fun δ => evOps n ops r (σ.app o.dst δ) ((o, δ) :: tr) k
    | some (j, want) => match gslot ops j with
      | some d => match gval P (tk σ.ts d) with
        | some none => skipD n o fun δ => evOps n ops r (σ.app o.dst δ) ((o, δ) :: tr) k
        | some (some (T, b)) => bif b then
            (bif want then evO P E call n o (σ.put d (.dat T (.bool true))) fun δ => evOps n ops r ((σ.put d (.dat T (.bool true))).app o.dst δ) ((o, δ) :: tr) k
              else skipD n o fun δ => evOps n ops r ((σ.put d (.dat T (.bool true))).app o.dst δ) ((o, δ) :: tr) k)
          else
            (bif want then skipD n o fun δ => evOps n ops r ((σ.put d (.dat T (.bool false))).app o.dst δ) ((o, δ) :: tr) k
              else evO P E call n o (σ.put d (.dat T (.bool false))) fun δ => evOps n ops r ((σ.put d (.dat T (.bool false))).app o.dst δ) ((o, δ) :: tr) k)
        | none => none
      | none => none

def pkC (hs : List Ob) (v : AV) : AV := match pk P hs v with
  | some (T, d) => .dat T (canD P T d)
  | none => v
def packOb (q : TypeId → Bool) (hs : List Ob) : Nat → List Ob → List Ob
  | _, [] => []
  | 0, .box T c :: r => (bif q T then .box T c else match pk P hs c with
    | some (T', d) => bif Nat.beq T' T then .box T (.dat T (canD P T d)) else .box T c
    | none => .box T c) :: packOb q hs 0 r
  | 0, o :: r => o :: packOb q hs 0 r
  | k + 1, o :: r => o :: packOb q hs k r
def fzNames (σ : St) : List Nat → List Nat
  | [] => []
  | s :: r => (match tk σ.ts s with
    | .ptr l _ _ => (match lk σ.hs l with
      | .box _ c => c.rws
      | _ => [])
    | v => v.rws) ++ fzNames σ r
def nilAll (σ : St) : List Nat → St
  | [] => σ
  | s :: r => nilAll (match tk σ.ts s with
    | .ptr l _ _ => nilBox P σ l
    | _ => nilSlot P σ s) r
def obNames : Nat → List Ob → List Nat
  | 0, _ => []
  | _, [] => []
  | k + 1, o :: r => o.nms ++ obNames k r
def geB (k : Nat) : List Nat → List Nat
  | [] => []
  | l :: r => bif Nat.ble k l then l :: geB k r else geB k r
def srcOf (hs : List Ob) (k0 : Nat) (vs : List AV) : List Nat := upto 0 k0 ++ geB k0 (reach hs 1000 (AV.nmsL vs ++ obNames k0 hs) [])
def relab (σ : St) : St :=
  let src := srcOf σ.hs σ.k0 σ.ts
  bif nodupB src then ⟨AV.renL (ix src) σ.ts, pickO (ix src) σ.hs src, σ.k0⟩ else σ
/-- A row of the caller's goes on under a new name. -/
def mvV (l nm : Nat) (v : AV) : AV := match v with
  | .row k => bif Nat.beq k l then .row nm else .row k
  | v => v
def mvO (l nm : Nat) : Ob → Ob
  | .box T c => .box T (mvV l nm c)
  | o => o
def mvAt (σ : St) (l : Nat) : St := bif (Nat.blt l σ.k0 && Nat.ble σ.k0 σ.hs.length) then (match lk σ.hs l with
  | .row T es => ⟨σ.ts.map (mvV l σ.hs.length), (setO (setO σ.hs l .gone) σ.hs.length (.row T es)).map (mvO l σ.hs.length), σ.k0⟩
  | _ => σ) else σ
def mvSlot (σ : St) (t : Nat) : St := match tk σ.ts t with
  | .row l => mvAt σ l
  | .ptr b _ _ => match lk σ.hs b with
    | .box _ (.row l) => mvAt σ l
    | _ => σ
  | _ => σ
/-- The rows in the struct that a slot's pointer points to get new names ('4000000 + slot'). -/
def mvρ (l nm : Nat) : Nat → Option Nat := fun k => bif Nat.beq k l then some nm else some k
def mvOb : Ob → Bool
  | .row _ _ => true
  | .rowD _ _ _ _ _ none => true
  | .tok _ _ => true
  | _ => false
def mvAtR (σ : St) (l : Nat) : St := bif (Nat.blt l σ.k0 && (Nat.ble σ.k0 σ.hs.length && mvOb (lk σ.hs l))) then
  ⟨AV.renL (mvρ l σ.hs.length) σ.ts, (setO (setO σ.hs l .gone) σ.hs.length (lk σ.hs l)).map (Ob.ren (mvρ l σ.hs.length)), σ.k0⟩ else σ
def mvRL (σ : St) : List Nat → St
  | [] => σ
  | l :: r => mvRL (mvAtR σ l) r
def mvBoxR (σ : St) (s : Nat) : St := match tk σ.ts s with
  | .ptr b _ _ => match lk σ.hs b with
    | .box _ (.agg _ vs) => mvRL σ (withTok σ.hs (AV.rwsL vs))
    | _ => σ
  | _ => σ
def mvL (σ : St) : List Nat → St
  | [] => σ
  | t :: r => mvL (bif (Nat.ble 4000000 t && Nat.blt t 100000000) then mvBoxR σ (t - 4000000) else mvSlot σ t) r
/-- Rows to be dropped: '1000000 + l' among the slots; not those that a kept slot holds. -/
def drpNames (σ : St) : List Nat → List Nat
  | [] => []
  | s :: r => bif Nat.ble 1000000 s && !memB (s - 1000000) (AV.rwsL σ.ts) then (s - 1000000) :: drpNames σ r else drpNames σ r
/-- An element's row goes back into its deep row. -/
def unfAt (σ : St) (l : Nat) : St := match lk σ.hs l with
  | .rowD T5 T2 c k es (some (i, m)) => match lk σ.hs k, lk σ.hs m with
    | .tok T3 ls, .row T4 ds => bif (Nat.beq T3 T2 && (Nat.beq T4 T2 && Nat.ble σ.k0 σ.hs.length)) then ⟨σ.ts, setO (setO (setO (setO σ.hs l (.rowD T5 T2 c σ.hs.length es none)) k .gone) m .gone) σ.hs.length (.tok T2 (ls.set i (.lst ds))), σ.k0⟩ else σ
    | _, _ => σ
  | _ => σ
def unfL (σ : St) : List Nat → St
  | [] => σ
  | l :: r => unfL (unfAt σ l) r
/-- A deep row comes to be a plain one. -/
def frzDAt (σ : St) (l : Nat) : St := match lk σ.hs l with
  | .rowD T5 T2 c k es none => match lk σ.hs k with
    | .tok T3 ls => bif Nat.beq T3 T2 then ⟨σ.ts, setO (setO σ.hs l (.row T5 (frzD c es ls))) k .gone, σ.k0⟩ else σ
    | _ => σ
  | _ => σ
/-- An empty row comes to be a deep one. -/
def toDAt (c : Option Nat) (σ : St) (l : Nat) : St := match lk σ.hs l with
  | .row T5 [] => match slE P T5 with
    | some Te => match holeF P Te c with
      | some (T2, _) => match slE P T2 with
        | some _ => bif Nat.ble σ.k0 σ.hs.length then ⟨σ.ts, setO (setO σ.hs l (.rowD T5 T2 c σ.hs.length [] none)) σ.hs.length (.tok T2 []), σ.k0⟩ else σ
        | none => σ
      | none => σ
    | none => σ
  | _ => σ
def cOf : Nat → Option Nat
  | 0 => none
  | f + 1 => some f
/-- '2000000 + 100 slot + 99': the slot's row gets plain; '+ 0', '+ 1 + field': deep. -/
def deepC (σ : St) (cc l : Nat) : St := bif Nat.beq cc 99 then frzDAt σ l else toDAt P (cOf cc) σ l
def deep1 (σ : St) (s cc : Nat) : St := match tk σ.ts s with
  | .row l => deepC P σ cc l
  | .ptr b _ _ => match lk σ.hs b with
    | .box _ (.row l) => deepC P σ cc l
    | _ => σ
  | _ => σ
/-- '100000000 + 1000000 field + 100 slot + ..': the row in a field of the struct that the slot's pointer points to. -/
def deep2 (σ : St) (f s cc : Nat) : St := match tk σ.ts s with
  | .ptr b _ _ => match lk σ.hs b with
    | .box _ (.agg _ vs) => match vs[f]? with
      | some (.row l) => deepC P σ cc l
      | _ => σ
    | _ => σ
  | _ => σ
def deepL (σ : St) : List Nat → St
  | [] => σ
  | t :: r => deepL (bif Nat.ble 100000000 t then deep2 P σ ((t - 100000000) / 1000000) ((t - 100000000) % 1000000 / 100) (t % 100) else bif Nat.ble 2000000 t then deep1 P σ ((t - 2000000) / 100) ((t - 2000000) % 100) else σ) r
def normAt (f : FuncId) (key : Nat) (σ : St) : St := match E.keep f key with
  | none => σ
  | some (kp, fz, rw) =>
    let σ1 : St := ⟨keepT kp (topL kp) σ.ts 0, σ.hs, σ.k0⟩
    let σ2 : St := ⟨σ1.ts, gonN (frzN σ1.hs (fzNames σ1 fz)) (drpNames σ1 fz), σ1.k0⟩
    let σ3 := deepL P (mvL (nilAll P (unfL σ2 (upto 0 σ2.hs.length)) rw) rw) rw
    let σ4 : St := ⟨σ3.ts.map (pkC P σ3.hs), packOb P E.npk σ3.hs 0 σ3.hs, σ3.k0⟩
    relab σ4
def loopy : Code → Bool
  | .seq a _ => loopy a
  | .block _ c => loopy c
  | .loop _ => true
  | .scope c => loopy c
  | .cond _ a _ => loopy a
  | _ => false
def firstId : Code → Nat
  | .region id _ _ => id
  | .seq a _ => firstId a
  | .block _ c => firstId c
  | .loop c => firstId c
  | .scope c => firstId c
  | .cond _ a b => bif loopy a then 0 else bif Nat.beq (firstId a) 0 then (bif loopy b then 0 else firstId b) else firstId a
  | _ => 0
/-- A loop marks itself. -/
def nextId : Code → Nat
  | .region id _ _ => id
  | .seq a _ => nextId a
  | .block _ c => nextId c
  | .scope c => nextId c
  | .cond _ a b => bif loopy a then 0 else bif Nat.beq (firstId a) 0 then (bif loopy b then 0 else firstId b) else firstId a
  | _ => 0
def nextK (J : Nat → Nat → Nat → St → Option R → Option R) (f : FuncId) (key : Nat) (σ : St) (g : St → Option R) : Option R := match (bif Nat.beq key 0 then none else E.keep f key) with
  | none => g σ
  | some _ => J 0 key 0 (normAt P E f key σ) (g (normAt P E f key σ))
def seqK (nx : St → Option R) (k : Exit → St → Option R) : Exit → St → Option R
  | .normal, σ => nx σ
  | e, σ => k e σ
def blockK (id : Nat) (k : Exit → St → Option R) : Exit → St → Option R
  | .exit id', σ => bif Nat.beq id' id then k .normal σ else k (.exit id') σ
  | e, σ => k e σ
def scopeK (k : Exit → St → Option R) : Exit → St → Option R
  | .goto _, _ => none
  | e, σ => k e σ
def loopR (J : Nat → Nat → Nat → St → Option R → Option R) (key : Nat) (head : St → St) (body : St → (Exit → St → Option R) → Option R) : Nat → St → (Exit → St → Option R) → Option R
  | 0, _, _ => none
  | m + 1, σ, k => body σ (seqK (fun σ' => J 1 key m (head σ') (loopR J key head body m (head σ') k)) k)
def ev0 (J : Nat → Nat → Nat → St → Option R → Option R) (m : Nat) (f : FuncId) (n : Nat) : Code → St → (Exit → St → Option R) → Option R
  | .skip, σ, k => k .normal σ
  | .region _ ops false, σ, k => evOps P E call n ops.toList ops.toList σ [] fun σ' _ => k .normal σ'
  | .region id ops true, σ, k => focK (E.foc f id) σ fun σ => evOps P E call n ops.toList ops.toList σ [] fun σ' tr => bif (backGo 0 ops.toList && drawGo ops.toList [] [] tr.reverse) then k .normal σ' else none
  | .seq a b, σ, k => ev0 J m f n a σ (seqK (fun σ' => nextK P E J f (firstId b) σ' fun s => ev0 J m f n b s k) k)
  | .cond x a b, σ, k => match bval P (opd P E.dt σ 0 x) with
    | some t => bif t then ev0 J m f n a σ k else ev0 J m f n b σ k
    | none => none
  | .block id c, σ, k => ev0 J m f n c σ (blockK id k)
  | .loop c, σ, k => J 1 (firstId c) m (normAt P E f (firstId c) σ) (loopR J (firstId c) (normAt P E f (firstId c)) (ev0 J m f n c) m (normAt P E f (firstId c) σ) k)
  | .exit id, σ, k => k (.exit id) σ
  | .label _, σ, k => k .normal σ
  | .scope c, σ, k => ev0 J m f n c σ (scopeK k)
  | .ret, σ, k => k .ret σ
  | _, _, _ => none

/-- Two stores whose order is not fixed: the operations' edges. -/
def bnd (o : Oper) (j : Nat) : Bool := o.after.toList.any fun e => Region.binds .any e && Nat.beq e.on j
def chkD (o0 o1 o2 o3 : Oper) : Bool := backGo 0 [o0, o1, o2, o3] && bnd o1 0 && bnd o2 0 && bnd o3 1 && bnd o3 2
def isSt : Op → Bool
  | .store _ _ _ => true
  | _ => false
def isAl : Op → Bool
  | .alloc _ => true
  | _ => false
def noG (o : Oper) : Bool := match o.guard with
  | none => true
  | some _ => false
def chOf : Code → Code → Option (Oper × Oper × Oper × Oper)
  | .region _ ops true, .cond _ _ _ => match ops with
    | ⟨[o0, o1, o2, o3]⟩ => bif (isAl o0.op && (isSt o1.op && (isSt o2.op && (chkD o0 o1 o2 o3 && (noG o0 && (noG o1 && (noG o2 && noG o3))))))) then some (o0, o1, o2, o3) else none
    | _ => none
  | _, _ => none
def evCh (n : Nat) (o0 o1 o2 o3 : Oper) (σ : St) (k : St → St → Option R) : Option R :=
  evO P E call n o0 σ fun d0 => evO P E call n o1 (σ.app o0.dst d0) fun d1 => evO P E call n o2 ((σ.app o0.dst d0).app o1.dst d1) fun d2 => evO P E call n o3 (((σ.app o0.dst d0).app o1.dst d1).app o2.dst d2) fun d3 =>
  evO P E call n o2 (σ.app o0.dst d0) fun e2 => evO P E call n o1 ((σ.app o0.dst d0).app o2.dst e2) fun e1 => evO P E call n o3 (((σ.app o0.dst d0).app o2.dst e2).app o1.dst e1) fun e3 =>
  k ((((σ.app o0.dst d0).app o1.dst d1).app o2.dst d2).app o3.dst d3) ((((σ.app o0.dst d0).app o2.dst e2).app o1.dst e1).app o3.dst e3)
def eqIx : Nat → List AV → List AV → List Nat
  | i, a :: r, b :: s => bif avEq a b then i :: eqIx (i + 1) r s else eqIx (i + 1) r s
  | _, _, _ => []
def frEq : Ob → Ob → Bool
  | .free, .free => true
  | _, _ => false
def obsEq : List Ob → List Ob → Bool
  | [], [] => true
  | a :: r, b :: s => (obEq a b || frEq a b) && obsEq r s
  | _, _ => false
def stEqB (a b : St) : Bool := avsEq a.ts b.ts && (obsEq a.hs b.hs && Nat.beq a.k0 b.k0)
def rmD (d : Option Nat) (l : List Nat) : List Nat := match d with
  | some d => l.filter fun i => !Nat.beq i d
  | none => l
/-- What two states have in common, if they differ in forgotten slots only. -/
def mrg (f : FuncId) (d : Option Nat) (a b : St) : Option St :=
  bif stEqB (normAt P { E with keep := fun _ _ => some (rmD d (eqIx 0 a.ts b.ts), [], []) } f 1 a) (normAt P { E with keep := fun _ _ => some (rmD d (eqIx 0 a.ts b.ts), [], []) } f 1 b) then some (normAt P { E with keep := fun _ _ => some (rmD d (eqIx 0 a.ts b.ts), [], []) } f 1 a) else none
/-- A piece of code by itself, without calls. -/
def inn (m : Nat) (f : FuncId) (n : Nat) (c : Code) (σ : St) : Option (Exit × St) := ev0 P E (fun _ _ _ _ => none) (fun _ _ _ _ x => x) m f n c σ fun e s => some (e, s)
noncomputable def ev (J : Nat → Nat → Nat → St → Option R → Option R) (m : Nat) (f : FuncId) (n : Nat) : Code → St → (Exit → St → Option R) → Option R
  | .skip, σ, k => k .normal σ
  | .region _ ops false, σ, k => evOps P E call n ops.toList ops.toList σ [] fun σ' _ => k .normal σ'
  | .region id ops true, σ, k => focK (E.foc f id) σ fun σ => evOps P E call n ops.toList ops.toList σ [] fun σ' tr => bif (backGo 0 ops.toList && drawGo ops.toList [] [] tr.reverse) then k .normal σ' else none
  | .seq a b, σ, k => match chOf a b with
    | none => ev J m f n a σ (seqK (fun σ' => nextK P E J f (firstId b) σ' fun s => ev J m f n b s k) k)
    | some q => bif E.sam f then (evCh P E call n q.1 q.2.1 q.2.2.1 q.2.2.2 σ fun σA σB => same (ev J m f n b σA k) (ev J m f n b σB k)) else
      evCh P E call n q.1 q.2.1 q.2.2.1 q.2.2.2 σ fun σA σB => match inn P E m f n b σA, inn P E m f n b σB with
      | some (.normal, s1), some (.normal, s2) => (match mrg P E f q.1.dst s1 s2 with
        | some s => k .normal s
        | none => none)
      | _, _ => none
  | .cond x a b, σ, k => match bval P (opd P E.dt σ 0 x) with
    | some t => bif t then ev J m f n a σ k else ev J m f n b σ k
    | none => none
  | .block id c, σ, k => ev J m f n c σ (blockK id k)
  | .loop c, σ, k => J 1 (firstId c) m (normAt P E f (firstId c) σ) (loopR J (firstId c) (normAt P E f (firstId c)) (ev J m f n c) m (normAt P E f (firstId c) σ) k)
  | .exit id, σ, k => k (.exit id) σ
  | .label _, σ, k => k .normal σ
  | .scope c, σ, k => ev J m f n c σ (scopeK k)
  | .ret, σ, k => k .ret σ
  | _, _, _ => none

def resV (σ : St) : List ResultVar → Option (List AV)
  | [] => some []
  | .tmp t :: r => match tk σ.ts t with
    | .dead => none
    | .tup _ => none
    | v => match resV σ r with
      | some vs => some (v :: vs)
      | none => none
  | .cell p T :: r => match tk σ.ts p with
    | .ptr l [] 0 => match lk σ.hs l with
      | .box T' c => bif (Nat.beq T' T && (szB P T c && (c.isAgg P == aggT P T))) then (match resV σ r with
        | some vs => some (c :: vs)
        | none => none) else none
      | _ => none
    | _ => none
def noDead : List AV → Bool
  | [] => true
  | v :: r => (match v with
    | .dead => false
    | .tup _ => false
    | _ => true) && noDead r
def packRes : List AV → AV
  | [v] => v
  | vs => .tup vs
def fin (f : FuncId) (fn : Func) (σ : St) : Option Res := match resV P σ fn.results.toList with
  | some vs => bif E.raw f then
      let r1 := AV.n2rL P vs σ.hs.length
      let hs1 := layN σ.hs σ.hs.length r1.2
      let src := srcOf hs1 σ.k0 r1.1
      bif (nodupB src && Nat.ble σ.k0 σ.hs.length) then (bif noDead (AV.renL (ix src) r1.1) then some ((packRes r1.1).ren (ix src), pickO (ix src) hs1 src) else none) else none
    else
      let hs1 := frzN σ.hs (AV.rwsL vs)
      let us := vs.map (pkC P hs1)
      let src := srcOf hs1 σ.k0 us
      bif nodupB src then (bif noDead (AV.renL (ix src) us) then some ((packRes us).ren (ix src), pickO (ix src) hs1 src) else none) else none
  | none => none
end
def mvAll (σ : St) : List ResultVar → St
  | [] => σ
  | .tmp t :: r => mvAll (mvSlot σ t) r
  | _ :: r => mvAll σ r
/-- A row of values becomes a row of plain data; the rows within it are frozen. -/
def flat1 (P : Program) (σ : St) (l : Nat) : St := match lk σ.hs l with
  | .rowA T vs => match slE P T with
    | some Te => match datL P (frzN σ.hs (AV.rwsL vs)) Te vs with
      | some ds => ⟨σ.ts, setO (frzN σ.hs (AV.rwsL vs)) l (.row T ds), σ.k0⟩
      | none => σ
    | none => σ
  | _ => σ
def flatL (P : Program) (σ : St) : List Nat → St
  | [] => σ
  | l :: r => flatL P (flat1 P σ l) r
def resNms (σ : St) : List ResultVar → List Nat
  | [] => []
  | .tmp t :: r => (tk σ.ts t).rws ++ resNms σ r
  | _ :: r => resNms σ r
def exitSt (P : Program) (E : Env) (f : FuncId) (fn : Func) (σ : St) : St := bif E.raw f then mvAll (normAt P E f 1000000 σ) fn.results.toList else (let σ1 := normAt P E f 1000000 σ; flatL P σ1 (resNms σ1 fn.results.toList))
def finE (P : Program) (E : Env) (f : FuncId) (fn : Func) : Exit → St → Option Res
  | .ret, σ => fin P E f fn (exitSt P E f fn σ)
  | .normal, σ => fin P E f fn (exitSt P E f fn σ)
  | _, _ => none
noncomputable def run (P : Program) (E : Env) : Nat → FuncId → List AV → List Ob → Option Res
  | 0, _, _, _ => none
  | m + 1, f, args, objs => match E.orc f with
    | some oc => oc args objs
    | none => match E.fns f with
    | some fn => match fn.body with
      | some c => bif Nat.ble args.length fn.ntmps then ev P E (fun f a o K => (run P E m f a o).bind K) jn (m + 1) f fn.ntmps c ⟨args, objs, objs.length⟩ (finE P E f fn) else none
      | none => none
    | none => none
end Go.Am
