/- The abstract machine, part 11: regions, code, functions. -/
import Derived.Test.YtmecfjhdnbgfeaaGreatDoorAm10
set_option linter.unusedVariables false
set_option linter.unusedSimpArgs false
namespace Go.Am
open Go.RowKit
def tmpsOf:List Operand→List Nat
 | []=>[]
 | .tmp t::r=>t::tmpsOf r
 |_::r=>tmpsOf r
def gslot (ops:List Oper) (j:Nat):Option Nat:=match ops[j]? with
 |some o=>o.dst
 |none=>none
def Oper.reads (ops:List Oper) (o:Oper):List Nat:=(match o.guard with
 |some (j,_)=>(gslot ops j).toList
 |none=>[])++tmpsOf o.op.operands.toList
def ade (a b:List Nat):Bool:=a.all fun x=>!nL x b
def indep (ops:List Oper) (p q:Oper×Dl):Bool:=
 ade p.1.dst.toList (q.1.dst.toList++Oper.reads ops q.1)&&(ade q.1.dst.toList (Oper.reads ops p.1)&&
 (ade (p.2.wr.map (·.1)) (q.2.rd++q.2.wr.map (·.1))&&ade (q.2.wr.map (·.1)) p.2.rd))
def Fb (ancs:List Nat):List Edge→Nat
 | []=>0
 |e::r=>bif Region.binds .any e then Nat.lor (Nat.lor (2^e.on) (ancs.getD e.on 0)) (Fb ancs r) else Fb ancs r
def VW (ops:List Oper) (q:Oper×Dl) (m:Nat):Nat→List (Oper×Dl)→Bool
 |_,[]=>true
 |i,p::r=>(Nat.testBit m i||indep ops p q)&&VW ops q m (i+1) r
def GU (ops:List Oper):List (Oper×Dl)→List Nat→List (Oper×Dl)→Bool
 |_,_,[]=>true
 |pre,ancs,q::r=>VW ops q (Fb ancs q.1.after.toList) 0 pre&&GU ops (pre++[q]) (ancs++[Fb ancs q.1.after.toList]) r
def jn {A:Type} (_ _ _:Nat) (_:St) (x:A):A:=x
def afN (P:Program):AV→Option (Option (TypeId×Bool))
 | .tup []=>some none
 |  .dat T (.bool b)=>match P.underlying T with
    |some .bool=>some (some (T,b))
    |_=>none
 |_=>none
section
variable {R:Type} (P:Program) (E:Env) (call:FuncId→List AV→List Ob→(Res→Option R)→Option R)
def VX (n:Nat) (o:Oper) (k:Dl→Option R):Option R:=match o.dst with
 |some d=>bif Nat.blt d n then k ⟨some (.tup []),[],[]⟩ else none
 |none=>k ⟨none,[],[]⟩
def wJ (n:Nat) (ops:List Oper):List Oper→St→List (Oper×Dl)→(St→List (Oper×Dl)→Option R)→Option R
 | [],σ,tr,k=>k σ tr
 |  o::r,  σ,tr,k=>match o.guard with
    |none=>evO P E call n o σ fun δ=>wJ n ops r (σ.app o.dst δ) ((o,δ)::tr) k
    |some (j,want)=>match gslot ops j with
     |some d=>match afN P (tk σ.ts d) with
      |some none=>VX n o fun δ=>wJ n ops r (σ.app o.dst δ) ((o,δ)::tr) k
      |some (some (T,b))=>bif b then
           (bif want then evO P E call n o (σ.put d (.dat T (.bool true))) fun δ=>wJ n ops r ((σ.put d (.dat T (.bool true))).app o.dst δ) ((o,δ)::tr) k
            else VX n o fun δ=>wJ n ops r ((σ.put d (.dat T (.bool true))).app o.dst δ) ((o,δ)::tr) k)
       else
           (bif want then VX n o fun δ=>wJ n ops r ((σ.put d (.dat T (.bool false))).app o.dst δ) ((o,δ)::tr) k
            else evO P E call n o (σ.put d (.dat T (.bool false))) fun δ=>wJ n ops r ((σ.put d (.dat T (.bool false))).app o.dst δ) ((o,δ)::tr) k)
      |none=>none
     |none=>none
def pkC (hs:List Ob) (v:AV):AV:=match pk P hs v with
 |some (T,d)=> .dat T (canD P T d)
 |none=>v
def rR (q:TypeId→Bool) (hs:List Ob):Nat→List Ob→List Ob
 |_,[]=>[]
 |  0,.box T c::r=>(bif q T then .box T c else match pk P hs c with
    |some (T',d)=>bif Nat.beq T' T then .box T (.dat T (canD P T d)) else .box T c
    |none=> .box T c)::rR q hs 0 r
 |0,o::r=>o::rR q hs 0 r
 |k+1,o::r=>o::rR q hs k r
def KF (σ:St):List Nat→List Nat
 | []=>[]
 |  s ::r=>(match tk σ.ts s with
    | .ptr l _ _=>(match lk σ.hs l with
      | .box _ c=>c.rws
      |_=>[])
    |v=>v.rws)++KF σ r
def nilAll (σ:St):List Nat→St
 | []=>σ
 |  s::r=>nilAll (match tk σ.ts s with
    | .ptr l _ _=>nilBox P σ l
    |_=>nilSlot P σ s) r
def aaT:Nat→List Ob→List Nat
 |0,_=>[]
 |_,[]=>[]
 |k+1,o::r=>o.nms++aaT k r
def geB (k:Nat):List Nat→List Nat
 | []=>[]
 |l::r=>bif Nat.ble k l then l::geB k r else geB k r
def Js (hs:List Ob) (k0:Nat) (vs:List AV):List Nat:=upto 0 k0++geB k0 (reach hs 1000 (AV.nmsL vs++aaT k0 hs) [])
def relab (σ:St):St:=
 let src:=Js σ.hs σ.k0 σ.ts
 bif nodupB src then⟨AV.renL (ix src) σ.ts,sP (ix src) σ.hs src,σ.k0⟩ else σ
def mvV (l nm:Nat) (v:AV):AV:=match v with
 | .row k=>bif Nat.beq k l then .row nm else .row k
 |v=>v
def mvO (l nm:Nat):Ob→Ob
 | .box T c=> .box T (mvV l nm c)
 |o=>o
def mvAt (σ:St) (l:Nat):St:=bif (Nat.blt l σ.k0&&Nat.ble σ.k0 σ.hs.length) then(match lk σ.hs l with
 | .row T es=>⟨σ.ts.map (mvV l σ.hs.length),(dX (dX σ.hs l .gone) σ.hs.length (.row T es)).map (mvO l σ.hs.length),σ.k0⟩
 |_=>σ) else σ
def mvSlot (σ:St) (t:Nat):St:=match tk σ.ts t with
 | .row l=>mvAt σ l
 |  .ptr b _ _=>match lk σ.hs b with
    | .box _ (.row l)=>mvAt σ l
    |_=>σ
 |_=>σ
def mvL (σ:St):List Nat→St
 | []=>σ
 |t::r=>mvL (mvSlot σ t) r
def Fe (σ:St):List Nat→List Nat
 | []=>[]
 |s::r=>bif Nat.ble 1000000 s&&!nL (s-1000000) (AV.rwsL σ.ts) then(s-1000000)::Fe σ r else Fe σ r
def l9 (f:FuncId) (key:Nat) (σ:St):St:=match E.keep f key with
 |none=>σ
 |  some (kp,fz,rw)=>
    let σ1:St:=⟨Af kp (Oz kp) σ.ts 0,σ.hs,σ.k0⟩
    let σ2:St:=⟨σ1.ts,gonN (frzN σ1.hs (KF σ1 fz)) (Fe σ1 fz),σ1.k0⟩
    let σ3:=mvL (nilAll P σ2 rw) rw
    let σ4:St:=⟨σ3.ts.map (pkC P σ3.hs),rR P E.npk σ3.hs 0 σ3.hs,σ3.k0⟩
    relab σ4
def Jt:Code→Bool
 | .seq a _=>Jt a
 | .block _ c=>Jt c
 | .loop _=>true
 | .scope c=>Jt c
 | .cond _ a _=>Jt a
 |_=>false
def firstId:Code→Nat
 | .region id _ _=>id
 | .seq a _=>firstId a
 | .block _ c=>firstId c
 | .loop c=>firstId c
 | .scope c=>firstId c
 | .cond _ a b=>bif Jt a then 0 else bif Nat.beq (firstId a) 0 then(bif Jt b then 0 else firstId b) else firstId a
 |_=>0
def nextId:Code→Nat
 | .region id _ _=>id
 | .seq a _=>nextId a
 | .block _ c=>nextId c
 | .scope c=>nextId c
 | .cond _ a b=>bif Jt a then 0 else bif Nat.beq (firstId a) 0 then(bif Jt b then 0 else firstId b) else firstId a
 |_=>0
def nextK (J:Nat→Nat→Nat→St→Option R→Option R) (f:FuncId) (key:Nat) (σ:St) (g:St→Option R):Option R:=match (bif Nat.beq key 0 then none else E.keep f key) with
 |none=>g σ
 |some _=>J 0 key 0 (l9 P E f key σ) (g (l9 P E f key σ))
def afO (nx:St→Option R) (k:Exit→St→Option R):Exit→St→Option R
 | .normal,σ=>nx σ
 |e,σ=>k e σ
def YK (id:Nat) (k:Exit→St→Option R):Exit→St→Option R
 | .exit id',σ=>bif Nat.beq id' id then k .normal σ else k (.exit id') σ
 |e,σ=>k e σ
def YL (k:Exit→St→Option R):Exit→St→Option R
 | .goto _,_=>none
 |e,σ=>k e σ
def Ju (J:Nat→Nat→Nat→St→Option R→Option R) (key:Nat) (head:St→St) (body:St→(Exit→St→Option R)→Option R):Nat→St→(Exit→St→Option R)→Option R
 |0,_,_=>none
 |m+1,σ,k=>body σ (afO (fun σ'=>J 1 key m (head σ') (Ju J key head body m (head σ') k)) k)
def ev0 (J:Nat→Nat→Nat→St→Option R→Option R) (m:Nat) (f:FuncId) (n:Nat):Code→St→(Exit→St→Option R)→Option R
 | .skip,σ,k=>k .normal σ
 | .region _ ops false,σ,k=>wJ P E call n ops.toList ops.toList σ [] fun σ' _=>k .normal σ'
 | .region _ ops true,σ,k=>wJ P E call n ops.toList ops.toList σ [] fun σ' tr=>bif (tK 0 ops.toList&&GU ops.toList [] [] tr.reverse) then k .normal σ' else none
 | .seq a b,σ,k=>ev0 J m f n a σ (afO (fun σ'=>nextK P E J f (nextId b) σ' fun s=>ev0 J m f n b s k) k)
 |  .cond x a b,σ,k=>match Vr P (opd P E.dt σ 0 x) with
    |some t=>bif t then ev0 J m f n a σ k else ev0 J m f n b σ k
    |none=>none
 | .block id c,σ,k=>ev0 J m f n c σ (YK id k)
 | .loop c,σ,k=>J 1 (firstId c) m (l9 P E f (firstId c) σ) (Ju J (firstId c) (l9 P E f (firstId c)) (ev0 J m f n c) m (l9 P E f (firstId c) σ) k)
 | .exit id,σ,k=>k (.exit id) σ
 | .label _,σ,k=>k .normal σ
 | .scope c,σ,k=>ev0 J m f n c σ (YL k)
 | .ret,σ,k=>k .ret σ
 |_,_,_=>none
def bnd (o:Oper) (j:Nat):Bool:=o.after.toList.any fun e=>Region.binds .any e&&Nat.beq e.on j
def ajI (o0 o1 o2 o3:Oper):Bool:=tK 0 [o0,o1,o2,o3]&&bnd o1 0&&bnd o2 0&&bnd o3 1&&bnd o3 2
def apa:Op→Bool
 | .store _ _ _=>true
 |_=>false
def aqW:Op→Bool
 | .alloc _=>true
 |_=>false
def noG (o:Oper):Bool:=match o.guard with
 |none=>true
 |some _=>false
def ajJ:Code→Code→Option (Oper×Oper×Oper×Oper)
 |  .region _ ops true,.cond _ _ _=>match ops with
    | ⟨[o0,o1,o2,o3]⟩=>bif (aqW o0.op&&(apa o1.op&&(apa o2.op&&(ajI o0 o1 o2 o3&&(noG o0&&(noG o1&&(noG o2&&noG o3))))))) then some (o0,o1,o2,o3) else none
    |_=>none
 |_,_=>none
def ama (n:Nat) (o0 o1 o2 o3:Oper) (σ:St) (k:St→St→Option R):Option R:=
 evO P E call n o0 σ fun d0=>evO P E call n o1 (σ.app o0.dst d0) fun d1=>evO P E call n o2 ((σ.app o0.dst d0).app o1.dst d1) fun d2=>evO P E call n o3 (((σ.app o0.dst d0).app o1.dst d1).app o2.dst d2) fun d3=>
 evO P E call n o2 (σ.app o0.dst d0) fun e2=>evO P E call n o1 ((σ.app o0.dst d0).app o2.dst e2) fun e1=>evO P E call n o3 (((σ.app o0.dst d0).app o2.dst e2).app o1.dst e1) fun e3=>
 k ((((σ.app o0.dst d0).app o1.dst d1).app o2.dst d2).app o3.dst d3) ((((σ.app o0.dst d0).app o2.dst e2).app o1.dst e1).app o3.dst e3)
def adf:Nat→List AV→List AV→List Nat
 |i,a::r,b::s=>bif Co a b then i::adf (i+1) r s else adf (i+1) r s
 |_,_,_=>[]
def apb:Ob→Ob→Bool
 | .free,.free=>true
 |_,_=>false
def aaU:List Ob→List Ob→Bool
 | [],[]=>true
 |a::r,b::s=>(ae3 a b||apb a b)&&aaU r s
 |_,_=>false
def afP (a b:St):Bool:=C9 a.ts b.ts&&(aaU a.hs b.hs&&Nat.beq a.k0 b.k0)
def rmD (d:Option Nat) (l:List Nat):List Nat:=match d with
 |some d=>l.filter fun i=>!Nat.beq i d
 |none=>l
def mrg (f:FuncId) (d:Option Nat) (a b:St):Option St:=
 bif afP (l9 P {E with keep:=fun _ _=>some (rmD d (adf 0 a.ts b.ts),[],[])} f 1 a) (l9 P {E with keep:=fun _ _=>some (rmD d (adf 0 a.ts b.ts),[],[])} f 1 b) then some (l9 P {E with keep:=fun _ _=>some (rmD d (adf 0 a.ts b.ts),[],[])} f 1 a) else none
def inn (m:Nat) (f:FuncId) (n:Nat) (c:Code) (σ:St):Option (Exit×St):=ev0 P E (fun _ _ _ _=>none) (fun _ _ _ _ x=>x) m f n c σ fun e s=>some (e,s)
def ev (J:Nat→Nat→Nat→St→Option R→Option R) (m:Nat) (f:FuncId) (n:Nat):Code→St→(Exit→St→Option R)→Option R
 | .skip,σ,k=>k .normal σ
 | .region _ ops false,σ,k=>wJ P E call n ops.toList ops.toList σ [] fun σ' _=>k .normal σ'
 | .region _ ops true,σ,k=>wJ P E call n ops.toList ops.toList σ [] fun σ' tr=>bif (tK 0 ops.toList&&GU ops.toList [] [] tr.reverse) then k .normal σ' else none
 |  .seq a b,σ,k=>match ajJ a b with
    |none=>ev J m f n a σ (afO (fun σ'=>nextK P E J f (nextId b) σ' fun s=>ev J m f n b s k) k)
    |some q=>ama P E call n q.1 q.2.1 q.2.2.1 q.2.2.2 σ fun σA σB=>match inn P E m f n b σA,inn P E m f n b σB with
     |  some (.normal,s1),some (.normal,s2)=>(match mrg P E f q.1.dst s1 s2 with
        |some s=>k .normal s
        |none=>none)
     |_,_=>none
 |  .cond x a b,σ,k=>match Vr P (opd P E.dt σ 0 x) with
    |some t=>bif t then ev J m f n a σ k else ev J m f n b σ k
    |none=>none
 | .block id c,σ,k=>ev J m f n c σ (YK id k)
 | .loop c,σ,k=>J 1 (firstId c) m (l9 P E f (firstId c) σ) (Ju J (firstId c) (l9 P E f (firstId c)) (ev J m f n c) m (l9 P E f (firstId c) σ) k)
 | .exit id,σ,k=>k (.exit id) σ
 | .label _,σ,k=>k .normal σ
 | .scope c,σ,k=>ev J m f n c σ (YL k)
 | .ret,σ,k=>k .ret σ
 |_,_,_=>none
def YM (σ:St):List ResultVar→Option (List AV)
 | []=>some []
 |  .tmp t::r=>match tk σ.ts t with
    | .dead=>none
    | .tup _=>none
    | v=>match YM σ r with
      |some vs=>some (v::vs)
      |none=>none
 |  .cell p T::r=>match tk σ.ts p with
    | .ptr l [] 0=>match lk σ.hs l with
      | .box T' c=>bif (Nat.beq T' T&&(szB P T c&&(c.isAgg P==bW P T))) then(match YM σ r with
        |some vs=>some (c::vs)
        |none=>none) else none
      |_=>none
    |_=>none
def LM:List AV→Bool
 | []=>true
 |  v::r=>(match v with
    | .dead=>false
    | .tup _=>false
    |_=>true)&&LM r
def wK:List AV→AV
 | [v]=>v
 |vs=> .tup vs
def fin (f:FuncId) (fn:Func) (σ:St):Option Res:=match YM P σ fn.results.toList with
 |  some vs=>bif E.raw f then
     let r1:=AV.n2rL P vs σ.hs.length
     let hs1:=zV σ.hs σ.hs.length r1.2
     let src:=Js hs1 σ.k0 r1.1
     bif (nodupB src&&Nat.ble σ.k0 σ.hs.length) then(bif LM (AV.renL (ix src) r1.1) then some ((wK r1.1).ren (ix src),sP (ix src) hs1 src) else none) else none
    else
     let hs1:=frzN σ.hs (AV.rwsL vs)
     let us:=vs.map (pkC P hs1)
     let src:=Js hs1 σ.k0 us
     bif nodupB src then(bif LM (AV.renL (ix src) us) then some ((wK us).ren (ix src),sP (ix src) hs1 src) else none) else none
 |none=>none
end
def mvAll (σ:St):List ResultVar→St
 | []=>σ
 | .tmp t::r=>mvAll (mvSlot σ t) r
 |_::r=>mvAll σ r
def flat1 (P:Program) (σ:St) (l:Nat):St:=match lk σ.hs l with
 |  .rowA T vs=>match slE P T with
    |some Te=>match yD P (frzN σ.hs (AV.rwsL vs)) Te vs with
     |some ds=>⟨σ.ts,dX (frzN σ.hs (AV.rwsL vs)) l (.row T ds),σ.k0⟩
     |none=>σ
    |none=>σ
 |_=>σ
def flatL (P:Program) (σ:St):List Nat→St
 | []=>σ
 |l::r=>flatL P (flat1 P σ l) r
def YN (σ:St):List ResultVar→List Nat
 | []=>[]
 | .tmp t::r=>(tk σ.ts t).rws++YN σ r
 |_::r=>YN σ r
def exitSt (P:Program) (E:Env) (f:FuncId) (fn:Func) (σ:St):St:=bif E.raw f then mvAll (l9 P E f 1000000 σ) fn.results.toList else(let σ1:=l9 P E f 1000000 σ;flatL P σ1 (YN σ1 fn.results.toList))
def Tf (P:Program) (E:Env) (f:FuncId) (fn:Func):Exit→St→Option Res
 | .ret,σ=>fin P E f fn (exitSt P E f fn σ)
 | .normal,σ=>fin P E f fn (exitSt P E f fn σ)
 |_,_=>none
def run (P:Program) (E:Env):Nat→FuncId→List AV→List Ob→Option Res
 |0,_,_,_=>none
 |  m+1,f,args,objs=>match E.orc f with
    |some oc=>oc args objs
    |none=>match E.fns f with
    |some fn=>match fn.body with
     |some c=>bif Nat.ble args.length fn.ntmps then ev P E (fun f a o K=>(run P E m f a o).bind K) jn (m+1) f fn.ntmps c ⟨args,objs,objs.length⟩ (Tf P E f fn) else none
     |none=>none
    |none=>none
end Go.Am
