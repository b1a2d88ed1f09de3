/- The abstract machine, part 10: the machine itself.
The abstract machine,part 11:regions,code,functions.
The abstract machine,part 12:what the helpers compute is so.
The abstract machine,part 13:each operation of the machine is so in the model.
The abstract machine,part 14:each operation of the machine is so in the model,continued.
The abstract machine,part 15:slice literals,append,calls. -/
import Derived.Test.YtmecfjhdnbgfeaaGreatDoorA2
set_option linter.all false
namespace Go.Am
open Go.RowKit
abbrev Res:=AV×List Ob
structure Env where
 dt:List TypeId
 fns:FuncId->Option Func
 keep:FuncId->Nat->Option (List Nat×List Nat×List Nat)
 raw:FuncId->Bool
 own:FuncId->Bool
 lnd:FuncId->Bool
 nd:FuncId->List Nat:=fun _=>[]
 pkb:FuncId->Bool:=fun _=>false
 nest:Oper->Bool:=fun _=>false
 rdo:FuncId->Bool:=fun _=>false
 sld:Oper->Bool:=fun _=>false
 npk:TypeId->Bool:=fun _=>false
 fzc:FuncId->Bool:=fun _=>false
 pty:TypeId->Option TypeId:=fun _=>none
 sam:FuncId->Bool:=fun _=>false
 cut:Oper->Bool:=fun _=>false
 foc:FuncId->Nat->Option (Nat×Nat×Nat):=fun _ _=>none
 orc:FuncId->Option (List AV->List Ob->Option (AV×List Ob))
def avF(av:TypeId->List Value->Option AV)(P:Program)(cs:List Value):List Field->Option (List AV)
 | []=>some []
 |  f::fs=>match avF av P cs fs with
    |some vs=>some ((match av f.type ((cs.drop f.offset).take (P.cellsOf f.type))with
     |some v=>v
     |none=> .dead)::vs)
    |none=>none
def offs(n:Nat):List Dt:=List.replicate n (.bool false)
def isF:Value->Bool
 | .bool b=>!b
 |_=>false
def avC(P:Program):Nat->TypeId->List Value->Option AV
 |0,_,_=>none
 |  k+1,T,cs=>match P.underlying T with
    |some (.int q)=>match cs with
     | [.int q' m]=>bif (decide (q=q')&&(decide (q.min<=m)&&decide (m<=q.max)))then some (.dat T (.int m))else none
     |_=>none
    |some .bool=>match cs with
     | [.bool b]=>some (.dat T (.bool b))
     |_=>none
    |some .string=>match cs with
     | [.string s]=>bif Nat.ble s.size maxLen then some (.dat T (.str s))else none
     |_=>none
    |some (.slice _)=>match cs with
     | [.slice none 0 0]=>some (.nils T)
     |_=>none
    |some (.struct fs)=>bif (Nat.beq cs.length (P.cellsOf T)&&cs.all (·.oneCell'))then(match avF (avC P k) P cs fs.toList with
     |some vs=>some (.agg T vs)
     |none=>none)else none
    |some (.interface _)=>match cs with
     | [.nilIface]=>some (.nif true)
     |_=>none
    |some (.array len Te)=>match P.underlying Te with
     |some .bool=>bif (Nat.beq cs.length len&&(Nat.beq (P.cellsOf T) len&&(Nat.beq (P.cellsOf Te) 1&&cs.all isF)))then some (.dat T (.lst (offs len)))else none
     |_=>none
    |some (.pointer _)=>match cs with
     | [.pointer none]=>some (.dat T (.lst []))
     |_=>none
    |_=>none
def pq:Value->Bool
 | .agg _=>true
 |_=>false
def cst(P:Program)(v:Value):List TypeId->AV
 | []=> .dead
 |  T::r=>match avC P 8 T v.cells.toList with
    |some a=>bif pq v==bO P T then a else .dead
    |none=>cst P v r
def zeroV(P:Program)(T:TypeId):Option AV:=match P.info? T with
 |  some i=>match i.zero with
    |some z=>bif Nat.beq z.cells.size (P.cellsOf T)then avC P 8 T z.cells.toList else none
    |none=>none
 |none=>none
def opd(P:Program)(D:List TypeId)(σ:St)(T:TypeId):Operand->AV
 | .tmp t=>tk σ.ts t
 | .const v=>cst P v (T::D)
 | .func f=> .fn f []
 | .global _=> .dead
def bD(P:Program)(D:List TypeId)(σ:St):List TypeId->List Operand->List AV
 |T::Ts,x::xs=>opd P D σ T x::bD P D σ Ts xs
 |_,_=>[]
def Jl(P:Program):AV->Option Bool
 |  .dat T d=>match P.underlying T with
    |some .bool=>some d.toBool
    |_=>none
 |_=>none
def ival(P:Program):AV->Option (TypeId×IntKind×Int)
 |  .dat T d=>match P.underlying T with
    |some (.int k)=>some (T,k,d.toInt)
    |_=>none
 |_=>none
def Ao(P:Program):AV->Option (TypeId×ByteArray)
 |  .dat T d=>match P.underlying T with
    |some .string=>some (T,d.toStr)
    |_=>none
 |_=>none
def lval(P:Program)(hs:List Ob)(v:AV):Option (TypeId×TypeId×List Dt):=match pk P hs v with
 |  some (T,d)=>match P.underlying T with
    |some (.slice E)=>some (T,E,d.toLst)
    |_=>none
 |none=>none
def isB(P:Program)(T:TypeId):Bool:=match P.underlying T with
 |some .bool=>true
 |_=>false
def bT(P:Program):List TypeId->Option TypeId
 | []=>none
 |T::r=>bif isB P T then some T else bT P r
def isI(P:Program)(T:TypeId)(k:IntKind):Bool:=match P.underlying T with
 |some (.int k')=>decide (k'=k)
 |_=>false
def isS(P:Program)(T:TypeId):Bool:=match P.underlying T with
 |some .string=>true
 |_=>false
def slE(P:Program)(T:TypeId):Option TypeId:=match P.underlying T with
 |some (.slice E)=>some E
 |_=>none
def stF(P:Program)(T:TypeId):Option (Array Field):=match P.underlying T with
 |some (.struct fs)=>some fs
 |_=>none
def szA(P:Program)(T:TypeId):AV->Bool
 |  .dat T' _=>match P.underlying T' with
    |some (.struct _)=>Nat.beq (P.cellsOf T') (P.cellsOf T)
    |some (.array _ _)=>Nat.beq (P.cellsOf T') (P.cellsOf T)
    |some _=>Nat.beq (P.cellsOf T) 1
    |none=>false
 |  .agg T' _=>match P.underlying T' with
    |some (.struct _)=>Nat.beq (P.cellsOf T') (P.cellsOf T)
    |_=>false
 | .dead=>false
 | .tup _=>false
 |_=>Nat.beq (P.cellsOf T) 1
def szB(P:Program)(T:TypeId)(v:AV):Bool:=(P.underlying T).isSome&&szA P T v
def getAt(P:Program):TypeId->AV->List Nat->Option (TypeId×Nat×AV)
 |S,c,[]=>some (S,0,c)
 |  S,.agg S' vs,i::p=>match stF P S with
    |some fs=>match fs[i]? with
     |some f=>match vs[i]? with
      |some v=>bif (Nat.beq S' S&&Nat.ble (f.offset+P.cellsOf f.type) (P.cellsOf S))then(match getAt P f.type v p with
       |some (T,q,r)=>some (T,f.offset+q,r)
       |none=>none)else none
      |none=>none
     |none=>none
    |none=>none
 |  S,.dat S' d,i::p=>match stF P S with
    |some fs=>match fs[i]? with
     |some f=>bif (Nat.beq S' S&&Nat.ble (f.offset+P.cellsOf f.type) (P.cellsOf S))then(match getAt P f.type (.dat f.type (d.fld i)) p with
       |some (T,q,r)=>some (T,f.offset+q,r)
       |none=>none)else none
     |none=>none
    |none=>none
 |_,_,_::_=>none
def setAt(P:Program)(T':TypeId)(v:AV):TypeId->AV->List Nat->Option (Nat×AV)
 |S,_,[]=>bif Nat.beq S T' then some (0,v)else none
 |  S,c,i::p=>match stF P S with
    |some fs=>match fs[i]? with
     |some f=>match (match c with
        | .agg S' vs=>bif Nat.beq S' S then some vs else none
        | .dat S' d=>bif Nat.beq S' S then some (expl P fs d)else none
        |_=>none:Option (List AV))with
      | some vs=>match vs[i]? with
        |some old=>bif layB P S fs then(match setAt P T' v f.type old p with
         |some (q,new)=>some (f.offset+q,.agg S (vs.set i new))
         |none=>none)else none
        |none=>none
      |none=>none
     |none=>none
    |none=>none
def AV.canon(P:Program):AV->AV
 | .dat T d=> .dat T (canD P T d)
 |v=>v
structure Dl where
 v:Option AV
 rd:List Nat
 wr:List (Nat×Ob)
def wrO(hs:List Ob):List (Nat×Ob)->List Ob
 | []=>hs
 |(l,o)::r=>wrO (aX hs l o) r
def TP(ts:List AV):Option Nat->Option AV->List AV
 |some d,some v=>jB ts d v
 |_,_=>ts
def St.app(σ:St)(dst:Option Nat)(X:Dl):St:=⟨TP σ.ts dst X.v,wrO σ.hs X.wr,σ.k0⟩
mutual
def AV.nms:AV->List Nat
 | .agg _ vs=>AV.nmsL vs
 | .row l=>[l]
 | .ptr l _ _=>[l]
 | .eptr l _ _ _ _=>[l]
 | .fn _ vs=>AV.nmsL vs
 | .tup vs=>AV.nmsL vs
 | .ifc _ v=>AV.nms v
 |_=>[]
def AV.nmsL:List AV->List Nat
 | []=>[]
 |v::r=>AV.nms v++AV.nmsL r
end
mutual
def AV.rws:AV->List Nat
 | .agg _ vs=>AV.rwsL vs
 | .row l=>[l]
 | .tup vs=>AV.rwsL vs
 | .ifc _ v=>AV.rws v
 |_=>[]
def AV.rwsL:List AV->List Nat
 | []=>[]
 |v::r=>AV.rws v++AV.rwsL r
end
def Ob.nms:Ob->List Nat
 | .box _ c=>c.nms
 | .rowA _ vs=>AV.nmsL vs
 | .rowD _ _ _ k _ none=>[k]
 | .rowD _ _ _ k _ (some (_,l))=>[k,l]
 |_=>[]
def reach(hs:List Ob):Nat->List Nat->List Nat->List Nat
 |0,_,acc=>acc
 |_+1,[],acc=>acc
 |k+1,l::todo,acc=>bif dV l acc then reach hs k todo acc else reach hs k ((lk hs l).nms++todo) (acc++[l])
def DN(hs:List Ob)(T2 k:Nat):List Nat->Option (List Dt)
 | []=>none
 |  k'::_=>match lk hs k' with
    | .tok T4 ls=>bif Nat.beq k' k&&Nat.beq T4 T2 then some ls else none
    |_=>none
def frzW(hs:List Ob):List Nat->List (Nat×Ob)
 | []=>[]
 |  l ::r=>match lk hs l with
    | .row T es=>(l,.frz T es)::frzW (aX hs l (.frz T es)) r
    | .rowD T T2 c k es none=>match DN hs T2 k r with
      |some ls=>(l,.row T (frzD c es ls))::(k,.gone)::(l,.frz T (frzD c es ls))::frzW (aX (aX (aX hs l (.row T (frzD c es ls))) k .gone) l (.frz T (frzD c es ls))) r
      |none=>frzW hs r
    |_=>frzW hs r
def TW(P:Program)(pty:TypeId->Option TypeId)(hs:List Ob)(l:Nat):Option Ob:=match lk hs l with
 |  .box T c=>match pty T with
    |some PT=>match ppE P PT with
     |some T2=>match pk P hs c with
      |some (T',d)=>bif (Nat.beq T' T&&Nat.beq T2 T)then some (.frz PT [d])else none
      |none=>none
     |none=>none
    |none=>none
 |_=>none
def fzbW(P:Program)(pty:TypeId->Option TypeId)(hs:List Ob):List Nat->List (Nat×Ob)
 | []=>[]
 |  l::r=>match TW P pty hs l with
    |some o=>(l,o)::fzbW P pty (aX hs l o) r
    |none=>fzbW P pty hs r
def cZ:List AV->List Nat
 | []=>[]
 |  v::r=>(match v with
    | .ptr l [] 0=>[l]
    |_=>[])++cZ r
def pkZ(hs:List Ob)(v:AV):AV:=match v with
 |  .ptr l [] 0=>(match lk hs l with
    | .frz T es=> .dat T (.lst es)
    |_=>v)
 |v=>v
def Nq(k:Nat):List TypeId->List (Nat×Ob)
 | []=>[]
 |T::r=>(k,.row T [])::Nq (k+1) r
def iP(U:Nat->Option Nat)(nm:Nat):List Nat->List Ob->List (Nat×Ob)
 |_,[]=>[]
 | [],o::os=>(nm,o.ren U)::iP U (nm+1) [] os
 |l::src,o::os=>(l,o.ren U)::iP U nm src os
def FT:AV->Bool
 | .nils _=>true
 |_=>false
def pkA(P:Program)(b:Bool)(hs:List Ob)(v:AV):AV:=bif (b&&FT v)then v else match pk P hs v with
 |some (T,d)=> .dat T d
 |none=>v
def dn1(P:Program)(v:AV):AV:=match v with
 |  .nils T=>match P.underlying T with
    |some (.slice _)=> .dat T (.lst [])
    |_=>v
 |_=>v
def dnL(P:Program)(ps:List Nat):Nat->List AV->List AV
 |_,[]=>[]
 |k,v::r=>(bif dV k ps then dn1 P v else v)::dnL P ps (k+1) r
def pkc(P:Program)(hs:List Ob)(f:Field)(v:AV):Option Dt:=match pk P hs v with
 |some (T,d)=>bif compat P T f.type then some d else none
 |none=>none
def TY(P:Program)(hs:List Ob)(f:Field)(v:AV):Option Dt:=match v with
 |  .row l=>match P.underlying f.type with
    |some (.map _ _)=>some (.lst [])
    |_=>pkc P hs f (.row l)
 |v=>pkc P hs f v
def BD(P:Program)(hs:List Ob):List Field->List AV->Option (List Dt)
 | [],[]=>some []
 |  f::fs,v::vs=>match TY P hs f v with
    |some d=>match BD P hs fs vs with
     |some ds=>some (d::ds)
     |none=>none
    |none=>none
 |_,_=>none
def pkO(P:Program)(hs:List Ob):AV->Option (TypeId×Dt)
 |  .agg T vs=>match P.underlying T with
    |some (.struct fs)=>match BD P hs fs.toList vs with
     |some ds=>some (T,.agg ds)
     |none=>none
    |_=>none
 |v=>pk P hs v
def fO(P:Program)(hs:List Ob)(v:AV):AV:=match v with
 |  .ptr l [] 0=>match lk hs l with
    | .box T c=>match pkO P hs c with
      |some (T',d)=>bif Nat.beq T' T then .rptr T d else v
      |none=>v
    |_=>v
 |_=>v
def kZ(P:Program)(hs:List Ob)(v:AV):AV:=match v with
 | .fn f caps=> .fn f (caps.map (fO P hs))
 |_=>fO P hs v
def rC(hs:List Ob):List Nat->List Nat
 | []=>[]
 |  l::r=>(match lk hs l with
    | .rowD _ _ _ k _ _=>[l,k]
    |_=>[l])++rC hs r
def bH(hs:List Ob):List Nat->List Nat
 | []=>[]
 |  l::r=>(match lk hs l with
    | .box _ c=>rC hs c.rws
    |_=>[])++bH hs r
def upto:Nat->Nat->List Nat
 |_,0=>[]
 |k,m+1=>k::upto (k+1) m
def allNames(hs:List Ob):List Nat->Bool
 | []=>true
 |  l::r=>(match lk hs l with
    | .free=>false
    |_=>true)&&allNames hs r
def Jm(P:Program):List AV->Bool
 | []=>true
 |  v::r=>(match v with
    | .tup _=>false
    | .dead=>false
    |v=>!v.isAgg P)&&Jm P r
section
variable{R:Type}(P:Program)(E:Env)(call:FuncId->List AV->List Ob->(Res->Option R)->Option R)
def out(n:Nat)(o:Oper)(v:AV)(rd:List Nat)(wr:List (Nat×Ob))(k:Dl->Option R):Option R:=match o.dst with
 |some d=>bif Nat.blt d n then k ⟨some v,rd,wr⟩else none
 |none=>none
def Jo(o:Oper)(rd:List Nat)(wr:List (Nat×Ob))(k:Dl->Option R):Option R:=match o.dst with
 |some _=>none
 |none=>k ⟨none,rd,wr⟩
def new(σ:St)(k:Nat->Option R):Option R:=bif Nat.ble σ.k0 σ.hs.length then k σ.hs.length else none
def ab3(n:Nat)(o:Oper)(op:BinOp)(T:TypeId)(q:IntKind)(a b:Int)(k:Dl->Option R):Option R:=
 let cmp (r:Bool):Option R:=match bT P (o.type::E.dt)with
    |some TB=>out n o (.dat TB (.bool r)) [] [] k
    |none=>none
 match op with
 | .add=>out n o (.dat T (.int (q.wrap (a+b)))) [] [] k
 | .sub=>out n o (.dat T (.int (q.wrap (a-b)))) [] [] k
 | .mul=>out n o (.dat T (.int (q.wrap (a*b)))) [] [] k
 | .quo=>bif decide (b=0)then none else out n o (.dat T (.int (q.wrap (a.tdiv b)))) [] [] k
 | .rem=>bif decide (b=0)then none else out n o (.dat T (.int (a.tmod b))) [] [] k
 | .and=>out n o (.dat T (.int (andI q a b))) [] [] k
 | .or=>out n o (.dat T (.int (orI q a b))) [] [] k
 | .xor=>out n o (.dat T (.int (xorI q a b))) [] [] k
 | .andNot=>out n o (.dat T (.int (bicI q a b))) [] [] k
 | .lss=>cmp (decide (a<b))
 | .leq=>cmp (decide (a<=b))
 | .gtr=>cmp (decide (b<a))
 | .geq=>cmp (decide (b<=a))
 | .eql=>cmp (a==b)
 | .neq=>cmp (a !=b)
 |_=>none
def ab4(n:Nat)(o:Oper)(op:BinOp)(T:TypeId)(a b:ByteArray)(k:Dl->Option R):Option R:=
 let cmp (r:Bool):Option R:=match bT P (o.type::E.dt)with
    |some TB=>out n o (.dat TB (.bool r)) [] [] k
    |none=>none
 match op with
 | .add=>bif Nat.ble (a.size+b.size) 1152921504606846976 then out n o (.dat T (.str (a++b))) [] [] k else none
 | .lss=>cmp (Op.bytesLess a.toList b.toList)
 | .eql=>cmp (a.toList==b.toList)
 | .neq=>cmp (!(a.toList==b.toList))
 |_=>none
def Nr(n:Nat)(o:Oper)(op:BinOp)(a b:Bool)(k:Dl->Option R):Option R:=
 let cmp (r:Bool):Option R:=match bT P (o.type::E.dt)with
    |some TB=>out n o (.dat TB (.bool r)) [] [] k
    |none=>none
 match op with
 | .eql=>cmp (a==b)
 | .neq=>cmp (!(a==b))
 |_=>none
def BF(σ:St)(fs:Array Field):List (Nat×Operand)->List AV->Option (List AV)
 | [],vs=>some vs
 |  (i,x)::r,vs=>match fs[i]? with
    |some f=>bif szB P f.type (opd P E.dt σ f.type x)then BF σ fs r (vs.set i (opd P E.dt σ f.type x))else none
    |none=>none
def dense:Nat->List (Nat×Operand)->Bool
 |_,[]=>true
 |j,(i,_)::r=>Nat.beq i j&&dense (j+1) r
def jH(hs:List Ob)(Te:TypeId):List AV->Option (List Dt)
 | []=>some []
 |  v::r=>match pk P hs v with
    |some (T,d)=>bif (compat P T Te&&szB P Te (.dat Te d))then(match jH hs Te r with
     |some ds=>some (d::ds)
     |none=>none)else none
    |none=>none
def gQ(σ:St)(m:Int):Option Operand->Option Int
 |none=>some m
 |  some x=>match ival P (opd P E.dt σ 0 x)with
    |some (_,_,i)=>some i
    |none=>none
def Ua(n:Nat)(o:Oper):Bool:=match o.dst with
 |some d=>Nat.blt d n
 |none=>true
def nk:Ob->Ob
 |  .box T c=>match pk P [] c with
    |some (T',d)=>bif Nat.beq T' T then .box T (.dat T (canD P T d))else .box T c
    |none=> .box T c
 |o=>o
def amq(b:Bool)(os:List Ob):List Ob:=bif b then os.map (nk P)else os
mutual
def Jp:Dt->Dt->Bool
 | .int a,.int b=>decide (a=b)
 | .bool a,.bool b=>decide (a=b)
 | .str a,.str b=>a==b
 | .agg a,.agg b=>ko a b
 | .lst a,.lst b=>ko a b
 |_,_=>false
def ko:List Dt->List Dt->Bool
 | [],[]=>true
 |a::r,b::s=>Jp a b&&ko r s
 |_,_=>false
end
mutual
theorem Qd:∀{a b:Dt},Jp a b=true->a=b
 | .int a,b,h=>by cases b<;>simp only[Jp]at h<;>first|cases h|(rw[of_decide_eq_true h])
 | .bool a,b,h=>by cases b<;>simp only[Jp]at h<;>first|cases h|(rw[of_decide_eq_true h])
 | .str a,b,h=>by cases b<;>simp only[Jp]at h<;>first|cases h|(rw[(fA _ _).1 h])
 | .agg a,b,h=>by cases b<;>simp only[Jp]at h<;>first|cases h|(rw[lg h])
 | .lst a,b,h=>by cases b<;>simp only[Jp]at h<;>first|cases h|(rw[lg h])
theorem lg:∀{a b:List Dt},ko a b=true->a=b
 | [],b,h=>by cases b<;>simp only[ko]at h<;>first|rfl|cases h
 |x::r,b,h=>by
  cases b with
  |nil=>simp only[ko]at h;cases h
  |cons y s=>
   simp only[ko,aJ]at h;rw[Qd h.1,lg h.2]
end
mutual
def lu:AV->AV->Bool
 | .dat T a,.dat S b=>Nat.beq T S&&Jp a b
 | .agg T a,.agg S b=>Nat.beq T S&&nu a b
 | .row a,.row b=>Nat.beq a b
 | .ptr a p i,.ptr b q j=>Nat.beq a b&&(decide (p=q)&&Nat.beq i j)
 | .fn f a,.fn g b=>Nat.beq f g&&nu a b
 | .nils T,.nils S=>Nat.beq T S
 | .dead,.dead=>true
 |_,_=>false
def nu:List AV->List AV->Bool
 | [],[]=>true
 |a::r,b::s=>lu a b&&nu r s
 |_,_=>false
end
mutual
theorem Qe:∀{a b:AV},lu a b=true->a=b
 | .dat T a,b,h=>by cases b<;>simp only[lu,aJ]at h<;>first|cases h;done|(rw[aO h.1,Qd h.2])
 | .agg T a,b,h=>by cases b<;>simp only[lu,aJ]at h<;>first|cases h;done|(rw[aO h.1,jI h.2])
 | .row a,b,h=>by cases b<;>simp only[lu]at h<;>first|cases h;done|(rw[aO h])
 | .ptr a p i,b,h=>by cases b<;>simp only[lu,aJ]at h<;>first|cases h;done|(rw[aO h.1,of_decide_eq_true h.2.1,aO h.2.2])
 | .fn f a,b,h=>by cases b<;>simp only[lu,aJ]at h<;>first|cases h;done|(rw[aO h.1,jI h.2])
 | .nils T,b,h=>by cases b<;>simp only[lu]at h<;>first|cases h;done|(rw[aO h])
 | .dead,b,h=>by cases b<;>simp only[lu]at h<;>first|rfl|cases h
 | .eptr _ _ _ _ _,b,h=>by simp only[lu]at h;cases h
 | .rptr _ _,b,h=>by simp only[lu]at h;cases h
 | .tup _,b,h=>by simp only[lu]at h;cases h
 | .nif _,b,h=>by simp only[lu]at h;cases h
 | .ifc _ _,b,h=>by simp only[lu]at h;cases h
 | .mth _ _,b,h=>by simp only[lu]at h;cases h
theorem jI:∀{a b:List AV},nu a b=true->a=b
 | [],b,h=>by cases b<;>simp only[nu]at h<;>first|rfl|cases h
 |x::r,b,h=>by
  cases b with
  |nil=>simp only[nu]at h;cases h
  |cons y s=>
   simp only[nu,aJ]at h;rw[Qe h.1,jI h.2]
end
def ab5:Ob->Ob->Bool
 | .box T a,.box S b=>Nat.beq T S&&lu a b
 | .row T a,.row S b=>Nat.beq T S&&ko a b
 | .rowA T a,.rowA S b=>Nat.beq T S&&nu a b
 | .frz T a,.frz S b=>Nat.beq T S&&ko a b
 | .map T a,.map S b=>Nat.beq T S&&ko a b
 | .tok T a,.tok S b=>Nat.beq T S&&ko a b
 | .rowD T S c k a h,.rowD T' S' c' k' b h'=>decide (T=T'∧S=S'∧c=c'∧k=k'∧h=h')&&ko a b
 | .gone,.gone=>true
 |_,_=>false
theorem Qf{a b:Ob}(h:ab5 a b=true):a=b:=by cases a<;>cases b<;>simp only[ab5,aJ]at h<;>first|rfl|cases h;done|(rw[aO h.1,Qe h.2])|(rw[aO h.1,lg h.2])|(rw[aO h.1,jI h.2])|(obtain⟨h1,h2⟩:=h;obtain⟨rfl,rfl,rfl,rfl,rfl⟩:=of_decide_eq_true h1;rw[lg h2])
def ab6(hs:List Ob)(src:List Nat):List (Nat×Ob)->List (Nat×Ob)
 | []=>[]
 |(l,o)::r=>bif (dV l src&&ab5 o (lk hs l))then ab6 hs src r else(l,o)::ab6 hs src r
def keepW(b:Bool)(hs:List Ob)(src:List Nat)(ws:List (Nat×Ob)):List (Nat×Ob):=bif (b&&nodupB (ws.map (·.1)))then ab6 hs src ws else ws
def gy(n:Nat)(o:Oper)(σ:St)(f:FuncId)(as:List AV)(hs1:List Ob)(rd0:List Nat)(wr0:List (Nat×Ob))(nm:Nat)(src:List Nat)(k:Dl->Option R):Option R:=
 bif (nodupB src&&(allNames hs1 src&&Nat.ble σ.k0 σ.hs.length))then
    call f (AV.renL (ix src) as) (amq P (E.pkb f) (gF (ix src) hs1 src)) fun q=>
     bif (Nat.ble src.length q.2.length&&Ua n o)then
      k ⟨o.dst.map fun _=>q.1.ren (bkN src nm),rd0++(src++upto σ.hs.length ((nm-σ.hs.length)+(q.2.length-src.length))),wr0++keepW (E.rdo f) hs1 src (iP (bkN src nm) nm src q.2)⟩
     else none
 else none
def scT(T:TypeId):Bool:=match P.underlying T with
 |some (.int _)=>true
 |some .bool=>true
 |some .string=>true
 |_=>false
def scV:AV->Bool
 | .dat T _=>scT P T
 |_=>false
def scR:AV->Bool
 | .tup vs=>vs.all (scV P)
 |v=>scV P v
def ab7(f:FuncId):Bool:=match E.fns f with
 |some fn=>fn.resultTypes.toList.all (scT P)
 |none=>false
def isNil{A:Type}:List A->Bool
 | []=>true
 |_=>false
def Ns(n:Nat)(o:Oper)(σ:St)(g:Operand)(xs:List Operand)(Ts:List TypeId)(k:Dl->Option R):Option R:=
 match opd P E.dt σ 0 g with
 |  .fn f caps=>bif (Nat.beq xs.length Ts.length&&Jm P caps)then
    (bif E.own f then
     let r1:=AV.n2rL P (dnL P (E.nd f) 0 (bD P E.dt σ Ts xs)) σ.hs.length
     let hs1:=jZ σ.hs σ.hs.length r1.2
     gy P E call n o σ f (r1.1++caps) hs1 [] (Nq σ.hs.length r1.2) (σ.hs.length+r1.2.length) (reach hs1 1000 (AV.nmsL (r1.1++caps)) []) k
    else bif E.fzc f then
     let bs:=cZ (bD P E.dt σ Ts xs)
     let L:=AV.rwsL (bD P E.dt σ Ts xs)++bH σ.hs bs
     let hs1:=wrO σ.hs (frzW σ.hs L)
     let hs2:=wrO hs1 (fzbW P E.pty hs1 bs)
     gy P E call n o σ f ((bD P E.dt σ Ts xs).map (fun v=>pkZ hs2 (pkA P (E.raw f) hs2 v))++caps) hs2 (L++bs) (frzW σ.hs L++fzbW P E.pty hs1 bs) σ.hs.length (reach hs2 1000 (AV.nmsL ((bD P E.dt σ Ts xs).map (fun v=>pkZ hs2 (pkA P (E.raw f) hs2 v))++caps)) []) k
    else
     let rws:=AV.rwsL (bD P E.dt σ Ts xs)
     let fw:=frzW σ.hs rws
     let hs1:=wrO σ.hs fw
     let as1:=(bD P E.dt σ Ts xs).map (pkA P (E.raw f) hs1)
     bif (ab7 P E f&&isNil (AV.nmsL (as1++caps)))then
        call f (AV.renL (ix []) (as1++caps)) [] fun q=>bif (scR P q.1&&(isNil q.2&&Ua n o))then k ⟨o.dst.map fun _=>q.1,rws,[]⟩else none
     else
        let bx:=AV.nmsL (bD P E.dt σ Ts xs++caps)
        let L:=rws++bH σ.hs bx
        let hs2:=wrO σ.hs (frzW σ.hs L)
        let as2:=(bD P E.dt σ Ts xs).map fun v=>kZ P hs2 (pkA P (E.raw f) hs2 v)
        let cs2:=caps.map (fO P hs2)
        bif (E.lnd f&&(ab7 P E f&&isNil (AV.nmsL (as2++cs2))))then
          call f (AV.renL (ix []) (as2++cs2)) [] fun q=>bif (scR P q.1&&(isNil q.2&&Ua n o))then k ⟨o.dst.map fun _=>q.1,L++bx,[]⟩else none
        else
          gy P E call n o σ f (as1++caps) hs1 rws fw σ.hs.length (reach hs1 1000 (AV.nmsL (as1++caps)) []) k)
    else none
 |_=>none
def Nt:AV->Bool
 | .dead=>false
 | .tup _=>false
 |_=>true
def FU(n:Nat)(o:Oper)(σ:St)(T:TypeId)(x:Operand)(k:Dl->Option R):Option R:=
 bif (AX P T&&Nt (opd P E.dt σ T x))then out n o (.ifc T (opd P E.dt σ T x)) [] [] k else none
def ab8(n:Nat)(o:Oper)(σ:St)(g:Operand)(name:String)(xs:List Operand)(Ts:List TypeId)(k:Dl->Option R):Option R:=
 match opd P E.dt σ 0 g with
 |  .ifc T v=>match vM P T name with
    |some f=>bif (Nat.beq xs.length Ts.length&&Nt v)then(bif E.own f then
      let r1:=AV.n2rL P (v::bD P E.dt σ Ts xs) σ.hs.length
      let hs1:=jZ σ.hs σ.hs.length r1.2
      gy P E call n o σ f r1.1 hs1 [] (Nq σ.hs.length r1.2) (σ.hs.length+r1.2.length) (reach hs1 1000 (AV.nmsL r1.1) []) k
     else
      let rws:=AV.rwsL (v::bD P E.dt σ Ts xs)
      let fw:=frzW σ.hs rws
      let hs1:=wrO σ.hs fw
      let as1:=(v::bD P E.dt σ Ts xs).map (pkA P (E.raw f) hs1)
      gy P E call n o σ f as1 hs1 rws fw σ.hs.length (reach hs1 1000 (AV.nmsL as1) []) k)
     else none
    |none=>none
 |_=>none
def dA(T Te:TypeId):Bool:=(match slE P T with
 |some Te'=>Nat.beq Te' Te
 |none=>false)&&!Nat.beq (P.cellsOf Te) 0
def rD(T:TypeId):Option Dt:=match zeroV P T with
 |  some v=>match pk P [] v with
    |some (T',d)=>bif Nat.beq T' T then some d else none
    |none=>none
 |none=>none
def rE(   n:Nat)(o:Oper)(σ:St)(T T':TypeId)(vx vy:AV)(k:Dl->Option R):Option R:=
 match slE P T,rD P ((slE P T).getD 0)with
 |  some Te,some _=>bif (Nat.beq T T'&&!Nat.beq (P.cellsOf Te) 0)then
    match (match vy with
     | .row l=>match lk σ.hs l with
       | .row T5 ds=>bif dA P T5 Te then some ([l],ds)else none
       | .frz T5 ds=>bif dA P T5 Te then some ([l],ds)else none
       |_=>none
     | v=>match lval P [] v with
       |some (_,Te',ds)=>bif Nat.beq Te' Te then some ([],ds)else none
       |none=>none:Option (List Nat×List Dt))with
    |some (rd,ds)=>match vx with
     | .row l=>match lk σ.hs l with
       | .row T5 es=>bif dA P T5 Te then new σ fun nm=>Ym (P.bytesOf Te) es ds fun rs=>out n o (.row nm) (l::nm::rd) [(l,.gone),(nm,.row T5 rs)] k else none
       | .rowD T5 T2 c kk es none=>match lk σ.hs kk with
         | .tok T4 ls=>bif dA P T5 Te&&(Nat.beq T4 T2&&ds.all fun e=>!lkd c e)then new σ fun nm=>Ym (P.bytesOf Te) es ds fun rs=>
          out n o (.row (nm+1)) (l::kk::nm::(nm+1)::rd) [(l,.rowD T5 T2 c nm es none),(kk,.gone),(nm,.tok T2 (ls++List.replicate ds.length (.lst []))),(l,.gone),(nm+1,.rowD T5 T2 c nm rs none)] k else none
         |_=>none
       |_=>none
     | .nils T5=>bif dA P T5 Te then new σ fun nm=>Ym (P.bytesOf Te) [] ds fun rs=>out n o (.row (nm+1)) (nm::(nm+1)::rd) [(nm,.gone),(nm+1,.row T5 rs)] k else none
     |_=>none
    |none=>none
    else none
 |_,_=>none
def apV(P:Program)(Te:TypeId):Ob->Option (List AV)
 | .row T es=>bif dA P T Te then some (es.map (.dat Te))else none
 | .rowA T vs=>bif dA P T Te then some vs else none
 |_=>none
def DR(n:Nat)(o:Oper)(σ:St)(T T':TypeId)(l l2:Nat)(k:Dl->Option R):Option R:=
 match slE P T,rD P ((slE P T).getD 0)with
 |  some Te,some _=>bif (Nat.beq T T'&&(!Nat.beq (P.cellsOf Te) 0&&Nat.ble (P.bytesOf Te) 1024))then
    match apV P Te (lk σ.hs l),apV P Te (lk σ.hs l2)with
    |some es,some ds=>bif Nat.ble (es.length+ds.length) 137438953472 then
     new σ fun nm=>out n o (.row nm) [l,nm,l2] [(l,.gone),(nm,.rowA T (es++ds))] k else none
    |_,_=>none
    else none
 |_,_=>none
def ajL:Ob->Bool
 | .rowA _ _=>true
 |_=>false
def ab9:Ob->Option (TypeId×TypeId×Nat×List Dt)
 | .rowD T5 T2 none kk es none=>some (T5,T2,kk,es)
 |_=>none
def apW:Ob->Option (TypeId×Nat)
 | .rowA T [.row m]=>some (T,m)
 |_=>none
def uq(n:Nat)(o:Oper)(σ:St)(T T':TypeId)(l l2:Nat)(T5 T2 kk:Nat)(es:List Dt)(Tr m:Nat)(k:Dl->Option R):Option R:=
 match slE P T,rD P ((slE P T).getD 0)with
 |  some Te,some _=>match lk σ.hs kk,slE P T2 with
    | .tok T4 ls,some _=>bif Nat.beq T T'&&(Nat.beq T4 T2&&(Nat.beq T2 Te&&(dA P T5 Te&&(dA P Tr Te&&(Nat.beq (P.cellsOf Te) 1&&(Nat.ble (P.bytesOf Te) 1024&&Nat.ble (es.length+1) 137438953472))))))then
       new σ fun nm=>out n o (.row (nm+1)) [l,kk,nm,nm+1,l2] [(l,.rowD T5 T2 none nm es none),(kk,.gone),(nm,.tok T2 (ls++List.replicate 1 (.lst []))),(l,.gone),(nm+1,.rowD T5 T2 none nm (es++[.bool true]) (some (es.length,m)))] k
      else none
    |_,_=>none
 |_,_=>none
def uw(n:Nat)(o:Oper)(σ:St)(T T':TypeId)(vx vy:AV)(k:Dl->Option R):Option R:=match vx,vy with
 |  .row l,.row l2=>match ab9 (lk σ.hs l),apW (lk σ.hs l2)with
    |some (T5,T2,kk,es),some (Tr,m)=>uq P n o σ T T' l l2 T5 T2 kk es Tr m k
    |_,_=>bif (ajL (lk σ.hs l2)||ajL (lk σ.hs l))then DR P n o σ T T' l l2 k else rE P n o σ T T' (.row l) (.row l2) k
 |vx,vy=>rE P n o σ T T' vx vy k
def u8B(T:TypeId):Bool:=isI P T .u8&&(match P.info? T with
 |  some i=>Nat.beq i.size 1&&(Nat.beq i.bytes 1&&(match i.zero with
    |some (.int .u8 m)=>decide (m=0)
    |_=>false))
 |none=>false)
def uy(n:Nat)(o:Oper)(σ:St)(T T':TypeId)(vx vy:AV)(k:Dl->Option R):Option R:=
 match slE P T with
 |  some Te=>bif (u8B P Te&&isS P T')then
    match Ao P vy with
    |some (_,s)=>match vx with
     | .row l=>match lk σ.hs l with
       | .row T5 es=>bif dA P T5 Te then new σ fun nm=>(app es (bytesD s)).bind fun rs=>out n o (.row nm) [l,nm] [(l,.gone),(nm,.row T5 rs)] k else none
       |_=>none
     |_=>none
    |none=>none
    else none
 |none=>none
def FV(n:Nat)(o:Oper)(σ:St)(Te S2:TypeId)(vy:AV)(k:Dl->Option R):Option R:=
 bif (isI P Te .u8&&(Nat.beq (P.cellsOf Te) 1&&isS P S2))then
    match (match vy with
     | .row l=>match lk σ.hs l with
       | .row T5 ds=>bif dA P T5 Te then some ([l],ds)else none
       | .frz T5 ds=>bif dA P T5 Te then some ([l],ds)else none
       |_=>none
     | v=>match lval P [] v with
       |some (_,Te',ds)=>bif Nat.beq Te' Te then some ([],ds)else none
       |none=>none:Option (List Nat×List Dt))with
    |some (rd,ds)=>(at0 ds).bind fun s=>out n o (.dat S2 (.str s)) rd [] k
    |none=>none
 else none
def Nu(n:Nat)(o:Oper)(σ:St)(c x y:Operand)(k:Dl->Option R):Option R:=match Jl P (opd P E.dt σ 0 c)with
 |some b=>bif b then out n o (opd P E.dt σ o.type x) [] [] k else out n o (opd P E.dt σ o.type y) [] [] k
 |none=>none
def FW(n:Nat)(o:Oper)(σ:St)(T:TypeId)(k:Dl->Option R):Option R:=match zeroV P T with
 |some v=>new σ fun nm=>out n o (.ptr nm [] 0) [nm] [(nm,.box T v)] k
 |none=>none
def acd(n:Nat)(o:Oper)(σ:St)(T:TypeId)(x:Operand)(k:Dl->Option R):Option R:=
 bif szB P T (opd P E.dt σ T x)then new σ fun nm=>out n o (.ptr nm [] 0) [nm] [(nm,.box T (opd P E.dt σ T x))] k else none
def FY(n:Nat)(o:Oper)(σ:St)(T:TypeId)(parts:List (Nat×Operand))(k:Dl->Option R):Option R:=match stF P T with
 |  some fs=>match zeroV P T with
    |some (.agg T' vs)=>bif (Nat.beq T' T&&(layB P T fs&&Hw P fs))then(match BF P E σ fs parts vs with
     |some us=>out n o (.agg T us) [] [] k
     |none=>none)else none
    |_=>none
 |none=>none
def Jq(n:Nat)(o:Oper)(σ:St)(T:TypeId)(parts:List (Nat×Operand))(k:Dl->Option R):Option R:=
 match P.underlying T with
    |some (.array len Te)=>match P.info? T with
     | some zi=>match zi.zero with
       |some za=>match jH P [] Te ((parts.map (·.2)).map (opd P E.dt σ Te))with
        |some ds=>bif (dense 0 parts&&(Nat.beq len parts.length&&(!Nat.beq len 0&&(!Nat.beq (P.cellsOf Te) 0&&(Nat.beq za.cells.size (len*P.cellsOf Te)&&Nat.beq (P.cellsOf T) (len*P.cellsOf Te))))))then out n o (.dat T (.lst ds)) [] [] k else none
        |none=>none
       |none=>none
     |none=>none
    |_=>none
def Ap(n:Nat)(o:Oper)(σ:St)(T:TypeId)(parts:List (Nat×Operand))(k:Dl->Option R):Option R:=match stF P T with
 |some _=>FY P E n o σ T parts k
 |none=>Jq P E n o σ T parts k
def jX(n:Nat)(o:Oper)(σ:St)(T:TypeId)(len:Nat)(parts:List (Nat×Operand))(k:Dl->Option R):Option R:=match slE P T with
 |  some Te=>match rD P Te with
    |some _=>match jH P (wrO σ.hs (frzW σ.hs (AV.rwsL (parts.map fun p=>opd P E.dt σ Te p.2)))) Te (parts.map fun p=>opd P E.dt σ Te p.2)with
     |some ds=>bif (dense 0 parts&&(Nat.beq len parts.length&&(!Nat.beq len 0&&(!Nat.beq (P.cellsOf Te) 0&&Nat.ble (len*P.cellsOf Te) 16777216))))then
       new σ fun nm=>out n o (.row nm) (nm::AV.rwsL (parts.map fun p=>opd P E.dt σ Te p.2)) (frzW σ.hs (AV.rwsL (parts.map fun p=>opd P E.dt σ Te p.2))++[(nm,.row T ds)]) k
      else none
     |none=>none
    |none=>none
 |none=>none
def DT(n:Nat)(o:Oper)(σ:St)(T:TypeId)(len:Nat)(parts:List (Nat×Operand))(k:Dl->Option R):Option R:=match slE P T with
 |  some Te=>match rD P Te with
    |some _=>bif ((parts.map (·.2)).all (fun x=>szB P Te (opd P E.dt σ Te x))&&(dense 0 parts&&(Nat.beq len parts.length&&(!Nat.beq len 0&&(!Nat.beq (P.cellsOf Te) 0&&Nat.ble (len*P.cellsOf Te) 16777216)))))then
      new σ fun nm=>out n o (.row nm) [nm] [(nm,.rowA T ((parts.map (·.2)).map (opd P E.dt σ Te)))] k
     else none
    |none=>none
 |none=>none
def uz(n:Nat)(o:Oper)(σ:St)(T:TypeId)(len:Nat)(parts:List (Nat×Operand))(k:Dl->Option R):Option R:=
 bif E.nest o then DT P E n o σ T len parts k else jX P E n o σ T len parts k
def Aq(n:Nat)(o:Oper)(σ:St)(T l i sz off:Nat)(T5 T2:TypeId)(c:Option Nat)(kk:Nat)(es:List Dt)(h:Option (Nat×Nat))(k:Dl->Option R):Option R:=match h,slE P T5,slE P T,lk σ.hs kk with
 |  none,some Te,some _,.tok T4 ls=>match rM P Te c with
    |some (T3,fo)=>bif (Nat.beq T3 T&&(Nat.beq T2 T&&(Nat.beq T4 T&&(Nat.beq fo off&&Nat.beq sz (P.cellsOf Te)))))then
      new σ fun nm=>(es[i]?).bind fun e=>bif lkd c e then(ls[i]?).bind fun e2=>
         out n o (.row nm) [l,kk,nm,nm+1] [(l,.rowD T5 T c (nm+1) es (some (i,nm))),(kk,.gone),(nm,.row T e2.toLst),(nm+1,.tok T (ls.set i (.lst [])))] k else none
     else none
    |none=>none
 |_,_,_,_=>none
def F3(n:Nat)(o:Oper)(T l i sz off:Nat)(T5 T2:TypeId)(c:Option Nat)(es:List Dt)(i' m:Nat)(k:Dl->Option R):Option R:=match slE P T5,slE P T with
 |  some Te,some _=>match rM P Te c with
    |some (T3,fo)=>bif (Nat.beq T3 T&&(Nat.beq T2 T&&(Nat.beq fo off&&Nat.beq sz (P.cellsOf Te))))then
      bif Nat.beq i' i then(es[i]?).bind fun e=>bif lkd c e then out n o (.row m) [l] [] k else none else none
     else none
    |none=>none
 |_,_=>none
def F4(n:Nat)(o:Oper)(σ:St)(T l i sz off:Nat)(T5 T2:TypeId)(c:Option Nat)(kk:Nat)(es:List Dt)(h:Option (Nat×Nat))(k:Dl->Option R):Option R:=match h with
 |some (i',m)=>F3 P n o T l i sz off T5 T2 c es i' m k
 |none=>Aq P n o σ T l i sz off T5 T2 c kk es none k
def ace(c:Option Nat)(v:AV):Option Nat:=match c,v with
 |none,.row m=>some m
 |  some f,.agg _ vs=>match vs[f]? with
    |some (.row m)=>some m
    |_=>none
 |_,_=>none
def mF(m:Nat):List Nat->List Nat
 | []=>[]
 |l::r=>bif Nat.beq l m then mF m r else l::mF m r
def Ar(hs:List Ob)(Te T2:TypeId)(c:Option Nat)(v:AV):Option Dt:=match c,v with
 |none,_=>some (.bool true)
 |  some f,.agg T' vs=>match pk P hs (.agg Te (vs.set f (.nils T2)))with
    |some (T3,e')=>bif (Nat.beq T' Te&&Nat.beq T3 Te)then some (hol (some f) e' (.bool true))else none
    |none=>none
 |_,_=>none
def Au(o:Oper)(σ:St)(T l i sz:Nat)(path:List Nat)(off:Nat)(T5 T2:TypeId)(c:Option Nat)(kk:Nat)(es:List Dt)(h:Option (Nat×Nat))(v:AV)(k:Dl->Option R):Option R:=match h,path,slE P T5,ace c v with
 |  none,[],some Te,some m=>match rM P Te c,slE P T2,Ar P (wrO σ.hs (frzW σ.hs (mF m v.rws))) Te T2 c v with
    |some (T3,_),some _,some d'=>bif (Nat.beq T3 T2&&(Nat.beq Te T&&(Nat.beq off 0&&(Nat.beq sz (P.cellsOf T)&&!dV l (mF m v.rws)))))then
      (es[i]?).bind fun _=>Jo o (l::v.rws) (frzW σ.hs (mF m v.rws)++[(l,.rowD T5 T2 c kk (es.set i d') (some (i,m)))]) k
     else none
    |_,_,_=>none
 |_,_,_,_=>none
def arB(S:TypeId)(c:AV):Option (TypeId×Dt):=match P.underlying S with
 |  some (.array len Te)=>match c with
    | .dat S' d=>bif (Nat.beq S' S&&(Nat.beq (P.cellsOf S) (len*P.cellsOf Te)&&!Nat.beq (P.cellsOf Te) 0))then some (Te,d)else none
    |_=>none
 |_=>none
def uD(n:Nat)(o:Oper)(T l i sz:Nat)(path:List Nat)(off S:Nat)(c:AV)(k:Dl->Option R):Option R:=match path,arB P S c with
 | [],some (Te,d)=>bif (Nat.beq Te T&&(Nat.beq off 0&&(Nat.beq sz (P.cellsOf Te)&&szB P T (.dat T d))))then(d.toLst[i]?).bind fun e=>out n o (.dat T (canD P T e)) [l] [] k else none
 |_,_=>none
def pz(o:Oper)(T l i sz:Nat)(path:List Nat)(off S:Nat)(c v:AV)(k:Dl->Option R):Option R:=match path,arB P S c,v with
 | [],some (Te,d),.dat T' x=>bif (Nat.beq Te T&&(Nat.beq T' T&&(Nat.beq off 0&&Nat.beq sz (P.cellsOf Te))))then(d.toLst[i]?).bind fun _=>Jo o [l] [(l,.box S (.dat S (.lst (d.toLst.set i x))))] k else none
 |_,_,_=>none
def Nv(n:Nat)(o:Oper)(σ:St)(T:TypeId)(x:Operand)(k:Dl->Option R):Option R:=match opd P E.dt σ 0 x with
 | .rptr T' d=>bif (Nat.beq T' T&&szB P T (.dat T d))then out n o (.dat T (canD P T d)) [] [] k else none
 |  .ptr l path off=>match lk σ.hs l with
    | .box S c=>match getAt P S c path with
      |some (T',q,v)=>bif (Nat.beq T' T&&(Nat.beq q off&&(szB P T v&&(v.isAgg P==bO P T))))then out n o (v.canon P) [l] [] k else none
      |none=>none
    |_=>none
 |  .eptr l i sz path off=>match lk σ.hs l with
    | .row T5 es=>match slE P T5 with
      |some Te=>(es[i]?).bind fun e=>match getAt P Te (.dat Te e) path with
       |some (T',q,v)=>bif (Nat.beq T' T&&(Nat.beq q off&&(Nat.beq sz (P.cellsOf Te)&&(szB P T v&&(v.isAgg P==bO P T)))))then out n o (v.canon P) [l] [] k else none
       |none=>none
      |none=>none
    | .rowA T5 vs=>match slE P T5 with
      |some Te=>(vs[i]?).bind fun e=>match getAt P Te e path with
       |some (T',q,v)=>bif (Nat.beq T' T&&(Nat.beq q off&&(Nat.beq sz (P.cellsOf Te)&&(szB P T v&&(v.isAgg P==bO P T)))))then out n o (v.canon P) [l] [] k else none
       |none=>none
      |none=>none
    | .rowD T5 T2 c kk es h=>F4 P n o σ T l i sz off T5 T2 c kk es h k
    | .box S c=>uD P n o T l i sz path off S c k
    |_=>none
 |_=>none
def F5(o:Oper)(σ:St)(T:TypeId)(x y:Operand)(k:Dl->Option R):Option R:=
 bif (szB P T (opd P E.dt σ T y)&&!Nat.beq (P.cellsOf T) 0)then(match opd P E.dt σ 0 x with
 |  .ptr l path off=>match lk σ.hs l with
    | .box S c=>match setAt P T (opd P E.dt σ T y) S c path with
      |some (q,c')=>bif Nat.beq q off then Jo o [l] [(l,.box S c')] k else none
      |none=>none
    |_=>none
 |  .eptr l i sz path off=>match lk σ.hs l with
    | .row T5 es=>match slE P T5 with
      |some Te=>(es[i]?).bind fun e=>match setAt P T (opd P E.dt σ T y) Te (.dat Te e) path with
       |  some (q,c')=>match pk P (wrO σ.hs (frzW σ.hs (opd P E.dt σ T y).rws)) c' with
          |some (Te',e')=>bif (Nat.beq q off&&(Nat.beq sz (P.cellsOf Te)&&(compat P Te' Te&&!dV l (opd P E.dt σ T y).rws)))then Jo o (l::(opd P E.dt σ T y).rws) (frzW σ.hs (opd P E.dt σ T y).rws++[(l,.row T5 (es.set i e'))]) k else none
          |none=>none
       |none=>none
      |none=>none
    | .rowA T5 vs=>match slE P T5 with
      |some Te=>(vs[i]?).bind fun e=>match setAt P T (opd P E.dt σ T y) Te e path with
       |some (q,c')=>bif (Nat.beq q off&&Nat.beq sz (P.cellsOf Te))then Jo o [l] [(l,.rowA T5 (vs.set i c'))] k else none
       |none=>none
      |none=>none
    | .rowD T5 T2 c kk es h=>Au P o σ T l i sz path off T5 T2 c kk es h (opd P E.dt σ T y) k
    | .box S c=>pz P o T l i sz path off S c (opd P E.dt σ T y) k
    |_=>none
 |_=>none)else none
def uE(n:Nat)(o:Oper)(σ:St)(name:String)(first:List Operand)(nc:Nat)(k:Dl->Option R):Option R:=match first with
 |  [x]=>match opd P E.dt σ 0 x with
    | .ifc T _=>bif Nat.beq nc 0 then out n o (.mth T name) [] [] k else none
    |_=>none
 |_=>none
def pE(n:Nat)(o:Oper)(σ:St)(x:Operand)(k:Dl->Option R):Option R:=match opd P E.dt σ 0 x with
 | .rptr T d=>out n o (.rptr T d) [] [] k
 | .ptr l p q=>out n o (.ptr l p q) [] [] k
 | .eptr l i z p q=>out n o (.eptr l i z p q) [] [] k
 | .fn f c=>out n o (.fn f c) [] [] k
 |  .mth T name=>match vM P T name with
    |some _=>out n o (.mth T name) [] [] k
    |none=>none
 |  .dat T d=>match ppE P T with
    |some T2=>(idx d.toLst 0).bind fun e=>out n o (.rptr T2 e) [] [] k
    |none=>none
 |_=>none
def acf(n:Nat)(o:Oper)(op:BinOp)(T:TypeId)(vx:AV)(y:Operand)(k:Dl->Option R):Option R:=match y with
 |  .const .nilIface=>match P.underlying T with
    |some (.interface _)=>match vx with
     | .nif b=>match bT P (o.type::E.dt)with
       |some TB=>match op with
        | .eql=>out n o (.dat TB (.bool b)) [] [] k
        | .neq=>out n o (.dat TB (.bool (!b))) [] [] k
        |_=>none
       |none=>none
     |_=>none
    |_=>none
 |_=>none
def apX(n:Nat)(o:Oper)(σ:St)(op:BinOp)(T:TypeId)(x y:Operand)(k:Dl->Option R):Option R:=match y with
 |  .const (.pointer none)=>match ppE P T with
    |some _=>match opd P E.dt σ T x with
     | .dat T1 p=>bif Nat.beq T1 T then(match bT P (o.type::E.dt)with
       |some TB=>match op with
        | .eql=>out n o (.dat TB (.bool p.toLst.isEmpty)) [] [] k
        | .neq=>out n o (.dat TB (.bool (!p.toLst.isEmpty))) [] [] k
        |_=>none
       |none=>none)else none
     |_=>none
    |none=>none
 |_=>none
def apY(n:Nat)(o:Oper)(σ:St)(op:BinOp)(T:TypeId)(x y:Operand)(T':TypeId)(k:Dl->Option R):Option R:=match opd P E.dt σ T' y with
 |  .dat T2 q=>match opd P E.dt σ T x with
    | .dat T1 p=>bif (acP P T&&(Nat.beq T1 T&&Nat.beq T2 T))then(match bT P (o.type::E.dt)with
      |some TB=>match op with
       | .eql=>out n o (.dat TB (.bool (ptE p q))) [] [] k
       | .neq=>out n o (.dat TB (.bool (!(ptE p q)))) [] [] k
       |_=>none
      |none=>none)else apX P E n o σ op T x y k
    |_=>none
 |_=>acf P E n o op T (opd P E.dt σ T x) y k
def acg(n:Nat)(o:Oper)(σ:St)(op:BinOp)(T:TypeId)(x y:Operand)(T':TypeId)(k:Dl->Option R):Option R:=match ival P (opd P E.dt σ T x)with
 |  some (Tx,q,a)=>match ival P (opd P E.dt σ T' y)with
    |some (_,q',b)=>match op with
     | .shl=>bif decide (0<=b)then out n o (.dat Tx (.int (shlI q a b))) [] [] k else none
     | .shr=>bif decide (0<=b)then out n o (.dat Tx (.int (shrI q a b))) [] [] k else none
     |_=>bif decide (q=q')then ab3 P E n o op Tx q a b k else none
    |none=>none
 |  none=>match Ao P (opd P E.dt σ T x)with
    |some (Tx,a)=>match Ao P (opd P E.dt σ T' y)with
     |some (_,b)=>ab4 P E n o op Tx a b k
     |none=>none
    |none=>match Jl P (opd P E.dt σ T x)with
     |some a=>match Jl P (opd P E.dt σ T' y)with
      |some b=>bif isB P T then Nr P E n o op a b k else none
      |none=>none
     |none=>apY P E n o σ op T x y T' k
def ach(n:Nat)(o:Oper)(σ:St)(x:Operand)(k:Dl->Option R):Option R:=match Jl P (opd P E.dt σ o.type x)with
 |  some b=>match bT P (o.type::E.dt)with
    |some TB=>out n o (.dat TB (.bool (!b))) [] [] k
    |none=>none
 |none=>none
def aci(n:Nat)(o:Oper)(σ:St)(T:TypeId)(x:Operand)(k:Dl->Option R):Option R:=match ival P (opd P E.dt σ T x)with
 |some (Tx,q,a)=>out n o (.dat Tx (.int (q.wrap (0-a)))) [] [] k
 |none=>none
def F6(n:Nat)(o:Oper)(σ:St)(T:TypeId)(x:Operand)(k:Dl->Option R):Option R:=match ival P (opd P E.dt σ T x)with
 |some (Tx,q,a)=>out n o (.dat Tx (.int (complI q a))) [] [] k
 |none=>none
def uF(n:Nat)(o:Oper)(σ:St)(S1 S2:TypeId)(x:Operand)(k:Dl->Option R):Option R:=match ival P (opd P E.dt σ S1 x)with
 |  some (_,q,a)=>match P.underlying S2 with
    |some (.int q2)=>bif isI P S1 q then out n o (.dat S2 (.int (q2.wrap a))) [] [] k else none
    |_=>none
 |  none=>match Ao P (opd P E.dt σ S1 x)with
    |some (_,s)=>bif (isS P S1&&isS P S2)then out n o (.dat S2 (.str s)) [] [] k else none
    |none=>none
def Nw(    n:Nat)(o:Oper)(σ:St)(T:TypeId)(x y:Operand)(k:Dl->Option R):Option R:=match slE P T with
 |  some Te=>match rD P Te with
    |some z=>match gQ P E σ 0 (some x)with
     |some a=>match gQ P E σ 0 (some y)with
      |some b=>bif (!Nat.beq (P.cellsOf Te) 0)then
           new σ fun nm=>mkK (P.bytesOf Te) a b z fun es=>out n o (.row nm) [nm] [(nm,.row T es)] k
       else none
      |none=>none
     |none=>none
    |none=>none
 |none=>none
def Av(n:Nat)(o:Oper)(σ:St)(T:TypeId)(x:Operand)(lo hi:Option Operand)(k:Dl->Option R):Option R:=match opd P E.dt σ T x with
 |  .row l=>match lk σ.hs l with
    | .row _ es=>match gQ P E σ 0 lo with
      |some a=>match gQ P E σ es.length hi with
       |some b=>match slE P T with
        |some Te=>bif !Nat.beq (P.cellsOf Te) 0 then(cutL es a b).bind fun _=>out n o .dead [l] [] k else none
        |none=>none
       |none=>none
      |none=>none
    |_=>none
 |_=>none
def Ay(n:Nat)(o:Oper)(σ:St)(T:TypeId)(x:Operand)(lo hi:Option Operand)(k:Dl->Option R):Option R:=match lo,opd P E.dt σ T x with
 |  none,.row l=>match lk σ.hs l with
    | .row T5 es=>match gQ P E σ es.length hi with
      |some b=>match slE P T with
       |some Te=>bif dA P T5 Te then new σ fun nm=>(cutL es 0 b).bind fun rs=>out n o (.row nm) [l,nm] [(l,.gone),(nm,.row T5 rs)] k else none
       |none=>none
      |none=>none
    |_=>none
 |_,_=>none
def F7(n:Nat)(o:Oper)(σ:St)(T:TypeId)(x:Operand)(lo hi:Option Operand)(k:Dl->Option R):Option R:=bif E.sld o then Av P E n o σ T x lo hi k else bif E.cut o then Ay P E n o σ T x lo hi k else match Ao P (opd P E.dt σ T x)with
 |  some (Tx,s)=>match gQ P E σ 0 lo with
    |some a=>match gQ P E σ s.size hi with
     |some b=>bif isS P T then(cutS s a b).bind fun r=>out n o (.dat Tx (.str r)) [] [] k else none
     |none=>none
    |none=>none
 |  none=>match lval P (wrO σ.hs (frzW σ.hs (opd P E.dt σ T x).rws)) (opd P E.dt σ T x)with
    |some (Tx,Te,es)=>match gQ P E σ 0 lo with
     |some a=>match gQ P E σ es.length hi with
      |some b=>bif dA P T Te then(cutL es a b).bind fun r=>out n o (.dat Tx (.lst r)) (opd P E.dt σ T x).rws (frzW σ.hs (opd P E.dt σ T x).rws) k else none
      |none=>none
     |none=>none
    |none=>none
def lC(n:Nat)(o:Oper)(σ:St)(S:TypeId)(x:Operand)(i:Nat)(k:Dl->Option R):Option R:=match stF P S with
 |  some fs=>match fs[i]? with
    |some f=>bif !Nat.beq (P.cellsOf f.type) 0 then(match opd P E.dt σ 0 x with
     | .ptr l p q=>out n o (.ptr l (p++[i]) (q+f.offset)) [] [] k
     | .eptr l j z p q=>out n o (.eptr l j z (p++[i]) (q+f.offset)) [] [] k
     | .rptr S' d=>bif (Nat.beq S' S&&Nat.ble (f.offset+P.cellsOf f.type) (P.cellsOf S))then out n o (.rptr f.type (d.fld i)) [] [] k else none
     | .dat T2 d=>match ppE P T2 with
       |some S'=>(idx d.toLst 0).bind fun e=>bif (Nat.beq S' S&&Nat.ble (f.offset+P.cellsOf f.type) (P.cellsOf S))then out n o (.rptr f.type (e.fld i)) [] [] k else none
       |none=>none
     |_=>none)else none
    |none=>none
 |none=>none
def F8(n:Nat)(o:Oper)(σ:St)(S:TypeId)(x:Operand)(i:Nat)(k:Dl->Option R):Option R:=match stF P S with
 |  some fs=>match fs[i]? with
    |some f=>match pk P [] (opd P E.dt σ S x)with
     |some (S',d)=>bif (Nat.beq S' S&&(Nat.ble (f.offset+P.cellsOf f.type) (P.cellsOf S)&&szB P f.type (.dat f.type (d.fld i))))then out n o (.dat f.type (canD P f.type (d.fld i))) [] [] k else none
     |none=>none
    |none=>none
 |none=>none
def lD(n:Nat)(o:Oper)(σ:St)(T:TypeId)(x y:Operand)(k:Dl->Option R):Option R:=match gQ P E σ 0 (some y)with
 |  some i=>match opd P E.dt σ T x with
    | .row l=>match lk σ.hs l with
      | .row T5 es=>match slE P T5 with
        |some Te=>bif dA P T Te then(inL es i).bind fun _=>out n o (.eptr l i.toNat (P.cellsOf Te) [] 0) [l] [] k else none
        |none=>none
      | .rowA T5 vs=>match slE P T5 with
        |some Te=>bif (dA P T Te&&(decide (0<=i)&&decide (i<(vs.length:Int))))then out n o (.eptr l i.toNat (P.cellsOf Te) [] 0) [l] [] k else none
        |none=>none
      | .rowD T5 _ _ _ es _=>match slE P T5 with
        |some Te=>bif dA P T Te then(inL es i).bind fun _=>out n o (.eptr l i.toNat (P.cellsOf Te) [] 0) [l] [] k else none
        |none=>none
      | .frz T5 es=>match slE P T5 with
        |some Te=>bif dA P T Te then(idx es i).bind fun e=>out n o (.rptr Te e) [l] [] k else none
        |none=>none
      |_=>none
    | .ptr l [] 0=>match lk σ.hs l with
      | .box S c=>match arB P S c with
        |some (Te,d)=>bif Nat.beq S T then(inL d.toLst i).bind fun _=>out n o (.eptr l i.toNat (P.cellsOf Te) [] 0) [l] [] k else none
        |none=>none
      |_=>none
    | v=>match lval P [] v with
      |some (_,Te,es)=>bif dA P T Te then(idx es i).bind fun e=>out n o (.rptr Te e) [] [] k else none
      |none=>none
 |none=>none
def F9(n:Nat)(o:Oper)(σ:St)(T:TypeId)(x y:Operand)(k:Dl->Option R):Option R:=match Ao P (opd P E.dt σ T x)with
 |  some (_,s)=>match gQ P E σ 0 (some y)with
    |some i=>bif (isS P T&&isI P o.type .u8)then(idxS s i).bind fun c=>out n o (.dat o.type (.int c)) [] [] k else none
    |none=>none
 |  none=>match opd P E.dt σ T x with
    | .dat T' d=>match P.underlying T' with
      |some (.array len Te)=>match gQ P E σ 0 (some y)with
       |some i=>bif (Nat.beq T' T&&(Nat.beq (P.cellsOf T') (len*P.cellsOf Te)&&szB P Te (.dat Te (.int 0))))then(idx d.toLst i).bind fun e=>out n o (.dat Te (canD P Te e)) [] [] k else none
       |none=>none
      |_=>none
    |_=>none
def Az(T:TypeId):Option (TypeId×TypeId):=match P.underlying T with
 |some (.map K V)=>bif (isS P K&&!bO P V)then some (K,V)else none
 |_=>none
def acj(T:TypeId):Option Dt:=match P.info? T with
 |  some i=>match i.zero with
    |some z=>bif pq z then none else rD P T
    |none=>none
 |none=>none
def apZ(P:Program)(T:TypeId):Bool:=match P.info? T with
 |  some i=>(match i.zero with
    |some (.slice none 0 0)=>true
    |_=>false)
 |none=>false
def AA(n     :    Nat)(o:Oper)(σ:St)(T:TypeId)(x y:Operand)(two:Bool)(k:Dl->Option R):Option R:=match Az P T with
 |  some (KT,V)=>match acj P V with
    |some z=>match opd P E.dt σ T x with
     | .row l=>   match lk σ.hs l with
       |  .map T5 es=>match Az P T5 with
          |some ( K5,V5)=>match Ao P (opd P E.dt σ KT y)with
           |some (_,s)=>bif (Nat.beq K5 KT&&Nat.beq V5 V)then
             (bif two then(match bT P E.dt with
                  |some TB=>out n o (.tup [.dat V (mgetD es s z),.dat TB (.bool (mhas es s))]) [l] [] k
                  |none=>none)
             else(bif scT P V then out n o (.dat V (canD P V (mgetD es s z))) [l] [] k else bif mhas es s then out n o (.dat V (canD P V (mgetD es s z))) [l] [] k else bif apZ P V then out n o (.nils V) [l] [] k else none))else none
           |none=>none
          |none=>none
       |_=>none
     |_=>none
    |none=>none
 |none=>none
def uG(n:Nat)(o:Oper)(σ:St)(T:TypeId)(k:Dl->Option R):Option R:=match Az P T with
 |some _=>new σ fun nm=>out n o (.row nm) [nm] [(nm,.map T [])] k
 |none=>none
def lF(o:Oper)(σ:St)(T:TypeId)(x y u:Operand)(k:Dl->Option R):Option R:=match Az P T with
 |  some (KT,V)=>match opd P E.dt σ T x with
    | .row l=>match lk σ.hs l with
      | .map T5 es=>match Az P T5 with
        | some (_,V5)=>match Ao P (opd P E.dt σ KT y)with
          |some (_,s)=>match pk P (wrO σ.hs (frzW σ.hs (opd P E.dt σ V u).rws)) (opd P E.dt σ V u)with
           |some (TV,d)=>bif (compat P TV V5&&(!bO P TV&&!dV l (opd P E.dt σ V u).rws))then Jo o (l::(opd P E.dt σ V u).rws) (frzW σ.hs (opd P E.dt σ V u).rws++[(l,.map T5 (mput es s d))]) k else none
           |none=>none
          |none=>none
        |none=>none
      |_=>none
    |_=>none
 |none=>none
def AB:List (Nat×List Value)->Nat->Option (List Value)
 | [],_=>none
 |t::r,g=>bif Nat.beq t.1 g then some t.2 else AB r g
def aco(Te:TypeId)(sz:Nat):Nat->List Value->Option (List Dt)
 |0,_=>some []
 |  m+1,cs=>match avC P 8 Te (cs.take sz)with
    |some v=>match pk P [] v with
     |some (T',d)=>bif Nat.beq T' Te then(match aco Te sz m (cs.drop sz)with
      |some ds=>some (d::ds)
      |none=>none)else none
     |none=>none
    |none=>none
def acp(n:Nat)(o:Oper)(σ:St)(T:TypeId)(g:Nat)(y:Operand)(k:Dl->Option R):Option R:=match P.underlying T with
 |  some (.array len Te)=>match AB tabs g with
    |some cs=>match aco P Te (P.cellsOf Te) len cs with
     |some ds=>match gQ P E σ 0 (some y)with
      |some i=>bif (!Nat.beq (P.cellsOf Te) 0&&Nat.beq cs.length (len*P.cellsOf Te))then(idx ds i).bind fun e=>out n o (.rptr Te e) [] [] k else none
      |none=>none
     |none=>none
    |none=>none
 |_=>none
def uI(n:Nat)(o:Oper)(σ:St)(x:Operand)(i:Nat)(k:Dl->Option R):Option R:=match opd P E.dt σ 0 x with
 |  .tup vs=>match vs[i]? with
    |some (.tup _)=>none
    |some v=>out n o v [] [] k
    |none=>none
 |_=>none
def pF(n:Nat)(o:Oper)(σ:St)(f:FuncId)(first:Nat)(caps:List Operand)(k:Dl->Option R):Option R:=
 bif (Nat.beq first 0&&Jm P (caps.map (opd P E.dt σ 0)))then out n o (.fn f (caps.map (opd P E.dt σ 0))) [] [] k else none
def acr(n:Nat)(o:Oper)(σ:St)(T:TypeId)(x:Operand)(k:Dl->Option R):Option R:=
 bif isI P o.type .i64 then(match Ao P (opd P E.dt σ T x)with
 |some (_,s)=>bif isS P T then out n o (.dat o.type (.int s.size)) [] [] k else none
 |  none=>match slE P T with
    |some _=>match opd P E.dt σ T x with
     | .row l=>match lk σ.hs l with
       | .row _ es=>out n o (.dat o.type (.int es.length)) [l] [] k
       | .rowA _ vs=>out n o (.dat o.type (.int vs.length)) [l] [] k
       | .rowD _ _ _ _ es _=>out n o (.dat o.type (.int es.length)) [l] [] k
       | .frz T5 es=>bif (slE P T5).isSome then out n o (.dat o.type (.int es.length)) [l] [] k else none
       |_=>none
     | v=>match lval P [] v with
       |some (_,_,es)=>out n o (.dat o.type (.int es.length)) [] [] k
       |none=>none
    |none=>none)else none
def acs(n:Nat)(o:Oper)(σ:St)(T T':TypeId)(x y:Operand)(k:Dl->Option R):Option R:=match ival P (opd P E.dt σ T x)with
 |  some (Tx,q,a)=>match ival P (opd P E.dt σ T' y)with
    |some (_,q',b)=>bif decide (q=q')then out n o (.dat Tx (.int (bif decide (b<a)then b else a))) [] [] k else none
    |none=>none
 |none=>none
def acu(n:Nat)(o:Oper)(σ:St)(T T':TypeId)(x y:Operand)(k:Dl->Option R):Option R:=match ival P (opd P E.dt σ T x)with
 |  some (Tx,q,a)=>match ival P (opd P E.dt σ T' y)with
    |some (_,q',b)=>bif decide (q=q')then out n o (.dat Tx (.int (bif decide (a<b)then b else a))) [] [] k else none
    |none=>none
 |none=>none
def DU(n:Nat)(o:Oper)(σ:St)(b:Builtin)(xs:List Operand)(Ts:List TypeId)(k:Dl->Option R):Option R:=match b,xs,Ts with
 | .len,[x],[T]=>acr P E n o σ T x k
 | .append,[x,y],[T,T']=>bif isS P T' then uy P n o σ T T' (opd P E.dt σ T x) (opd P E.dt σ T' y) k else uw P n o σ T T' (opd P E.dt σ T x) (opd P E.dt σ T' y) k
 | .min,[x,y],[T,T']=>acs P E n o σ T T' x y k
 | .max,[x,y],[T,T']=>acu P E n o σ T T' x y k
 |_,_,_=>none
def evO(n:Nat)(o:Oper)(σ:St)(k:Dl->Option R):Option R:=
 match o.op with
 | .move x=>out n o (opd P E.dt σ o.type x) [] [] k
 | .assign x=>out n o (opd P E.dt σ o.type x) [] [] k
 | .pick c x y=>Nu P E n o σ c x y k
 | .alloc T=>FW P n o σ T k
 | .box T x=>acd P E n o σ T x k
 | .build T parts=>Ap P E n o σ T parts.toList k
 | .buildSlice T len parts=>uz P E n o σ T len parts.toList k
 | .load T x=>Nv P E n o σ T x k
 | .store T x y=>F5 P E o σ T x y k
 | .nilCheck x=>pE P E n o σ x k
 | .binOp op T x y T'=>acg P E n o σ op T x y T' k
 | .unOp .not _ x=>ach P E n o σ x k
 | .unOp .neg T x=>aci P E n o σ T x k
 | .unOp .xor T x=>F6 P E n o σ T x k
 |  .convert S1 S2 x=>match slE P S1 with
    |some Te=>FV P n o σ Te S2 (opd P E.dt σ S1 x) k
    |none=>uF P E n o σ S1 S2 x k
 | .makeSlice T x y=>Nw P E n o σ T x y k
 | .slice T x lo hi none=>F7 P E n o σ T x lo hi k
 | .fieldAddr S x i=>lC P E n o σ S x i k
 | .field S x i=>F8 P E n o σ S x i k
 | .indexAddr T (.global g) y=>acp P E n o σ T g y k
 | .indexAddr T x y=>lD P E n o σ T x y k
 | .lookup T x y two=>AA P E n o σ T x y two k
 | .makeMap T none=>uG P n o σ T k
 | .mapUpdate T x y u=>lF P E o σ T x y u k
 | .index T x y=>F9 P E n o σ T x y k
 | .extract x i=>uI P E n o σ x i k
 | .makeFunc (.func f) first caps=>pF P E n o σ f first.size caps.toList k
 | .makeFunc (.method name) first caps=>uE P E n o σ name first.toList caps.size k
 | .call ⟨.value g,xs,Ts⟩=>Ns P E call n o σ g xs.toList Ts.toList k
 | .call ⟨.builtin b,xs,Ts⟩=>DU P E n o σ b xs.toList Ts.toList k
 | .makeInterface T x=>FU P E n o σ T x k
 | .call ⟨.invoke g name,xs,Ts⟩=>ab8 P E call n o σ g name xs.toList Ts.toList k
 |_=>none
end
def tmpsOf:List Operand->List Nat
 | []=>[]
 | .tmp t::r=>t::tmpsOf r
 |_::r=>tmpsOf r
def gslot(ops:List Oper)(j:Nat):Option Nat:=match ops[j]? with
 |some o=>o.dst
 |none=>none
def Oper.reads(ops:List Oper)(o:Oper):List Nat:=(match o.guard with
 |some (j,_)=>(gslot ops j).toList
 |none=>[])++tmpsOf o.op.operands.toList
def Ub(a b:List Nat):Bool:=a.all fun x=>!dV x b
def indep(ops:List Oper)(p q:Oper×Dl):Bool:=
 Ub p.1.dst.toList (q.1.dst.toList++Oper.reads ops q.1)&&(Ub q.1.dst.toList (Oper.reads ops p.1)&&
 (Ub (p.2.wr.map (·.1)) (q.2.rd++q.2.wr.map (·.1))&&Ub (q.2.wr.map (·.1)) p.2.rd))
def rF(ancs:List Nat):List Edge->Nat
 | []=>0
 |e::r=>bif Region.binds .any e then Nat.lor (Nat.lor (2^e.on) (ancs.getD e.on 0)) (rF ancs r)else rF ancs r
def Jr(ops:List Oper)(q:Oper×Dl)(m:Nat):Nat->List (Oper×Dl)->Bool
 |_,[]=>true
 |i,p::r=>(Nat.testBit m i||indep ops p q)&&Jr ops q m (i+1) r
def uJ(ops:List Oper):List (Oper×Dl)->List Nat->List (Oper×Dl)->Bool
 |_,_,[]=>true
 |pre,ancs,q::r=>Jr ops q (rF ancs q.1.after.toList) 0 pre&&uJ ops (pre++[q]) (ancs++[rF ancs q.1.after.toList]) r
def jn{A:Type}(_ _ _:Nat)(_:St)(x:A):A:=x
def acv(P:Program):AV->Option (Option (TypeId×Bool))
 | .tup []=>some none
 |  .dat T (.bool b)=>match P.underlying T with
    |some .bool=>some (some (T,b))
    |_=>none
 |_=>none
noncomputable def same{R:Type}(a b:Option R):Option R:=open Classical in if a=b then a else none
theorem Uc{R:Type}{a b:Option R}{r:R}(h:same a b=some r):a=some r∧b=some r:=by
 unfold same at h;split at h
 ·rename_i e;exact⟨h,by rw[←e];exact h⟩
 ·cases h
def rowAt(σ:St)(f s:Nat):Option Nat:=match tk σ.ts s with
 | .row l=>some l
 |  .ptr b _ _=>match lk σ.hs b with
    | .box _ (.row l)=>some l
    | .box _ (.agg _ vs)=>match vs[f]? with
      |some (.row l)=>some l
      |_=>none
    |_=>none
 |_=>none
def avd(σ:St)(s:Nat):Option Nat:=match tk σ.ts s with
 | .dat _ d=>some d.toInt.toNat
 |_=>none
def ajM{  R: Type}(fc:Option (Nat×Nat×Nat))(σ:St)(k:St->Option R):Option R:=match fc with
 |none=>k σ
 |  some (f,s,t)=>match rowAt σ f s,avd σ t with
    |some l, some i=>match lk σ.hs l with
     | .rowD T5 T2 c kk es none=>match lk σ.hs kk with
       |  .tok T4 ls=>bif Nat.beq T4 T2 then
           new σ fun nm=>(es[i]?).bind fun e=>bif lkd c e then(ls[i]?).bind fun e2=>
             k ⟨σ.ts,aX (aX (aX (aX σ.hs l (.rowD T5 T2 c (nm+1) es (some (i,nm)))) kk .gone) nm (.row T2 e2.toLst)) (nm+1) (.tok T2 (ls.set i (.lst []))),σ.k0⟩else none
          else none
       |_=>none
     |_=>none
    |_,_=>none
section
variable{R:Type}(P:Program)(E:Env)(call:FuncId->List AV->List Ob->(Res->Option R)->Option R)
def Js(n:Nat)(o:Oper)(k:Dl->Option R):Option R:=match o.dst with
 |some d=>bif Nat.blt d n then k ⟨some (.tup []),[],[]⟩else none
 |none=>k ⟨none,[],[]⟩
def iQ(n:Nat)(ops:List Oper):List Oper->St->List (Oper×Dl)->(St->List (Oper×Dl)->Option R)->Option R
 | [],σ,tr,k=>k σ tr
 |  o::r,  σ,tr,k=>match o.guard with
    |none=>evO P E call n o σ fun X=>iQ n ops r (σ.app o.dst X) ((o,X)::tr) k
    |some (j,want)=>match gslot ops j with
     |some d=>match acv P (tk σ.ts d)with
      |some none=>Js n o fun X=>iQ n ops r (σ.app o.dst X) ((o,X)::tr) k
      |some (some (T,b))=>bif b then
           (bif want then evO P E call n o (σ.put d (.dat T (.bool true))) fun X=>iQ n ops r ((σ.put d (.dat T (.bool true))).app o.dst X) ((o,X)::tr) k
            else Js n o fun X=>iQ n ops r ((σ.put d (.dat T (.bool true))).app o.dst X) ((o,X)::tr) k)
       else
           (bif want then Js n o fun X=>iQ n ops r ((σ.put d (.dat T (.bool false))).app o.dst X) ((o,X)::tr) k
            else evO P E call n o (σ.put d (.dat T (.bool false))) fun X=>iQ n ops r ((σ.put d (.dat T (.bool false))).app o.dst X) ((o,X)::tr) k)
      |none=>none
     |none=>none
def pkC(hs:List Ob)(v:AV):AV:=match pk P hs v with
 |some (T,d)=> .dat T (canD P T d)
 |none=>v
def fQ(q:TypeId->Bool)(hs:List Ob):Nat->List Ob->List Ob
 |_,[]=>[]
 |  0,.box T c::r=>(bif q T then .box T c else match pk P hs c with
    |some (T',d)=>bif Nat.beq T' T then .box T (.dat T (canD P T d))else .box T c
    |none=> .box T c)::fQ q hs 0 r
 |0,o::r=>o::fQ q hs 0 r
 |k+1,o::r=>o::fQ q hs k r
def rG(σ:St):List Nat->List Nat
 | []=>[]
 |  s ::r=>(match tk σ.ts s with
    | .ptr l _ _=>(match lk σ.hs l with
      | .box _ c=>c.rws
      |_=>[])
    |v=>v.rws)++rG σ r
def nilAll(σ:St):List Nat->St
 | []=>σ
 |  s::r=>nilAll (match tk σ.ts s with
    | .ptr l _ _=>nilBox P σ l
    |_=>nilSlot P σ s) r
def Qg:Nat->List Ob->List Nat
 |0,_=>[]
 |_,[]=>[]
 |k+1,o::r=>o.nms++Qg k r
def geB(k:Nat):List Nat->List Nat
 | []=>[]
 |l::r=>bif Nat.ble k l then l::geB k r else geB k r
def vJ(hs:List Ob)(k0:Nat)(vs:List AV):List Nat:=upto 0 k0++geB k0 (reach hs 1000 (AV.nmsL vs++Qg k0 hs) [])
def relab(σ:St):St:=
 let src:=vJ σ.hs σ.k0 σ.ts
 bif nodupB src then⟨AV.renL (ix src) σ.ts,gF (ix src) σ.hs src,σ.k0⟩else σ
def mvV(l nm:Nat)(v:AV):AV:=match v with
 | .row k=>bif Nat.beq k l then .row nm else .row k
 |v=>v
def mvO(l nm:Nat):Ob->Ob
 | .box T c=> .box T (mvV l nm c)
 |o=>o
def mvAt(σ:St)(l:Nat):St:=bif (Nat.blt l σ.k0&&Nat.ble σ.k0 σ.hs.length)then(match lk σ.hs l with
 | .row T es=>⟨σ.ts.map (mvV l σ.hs.length),(aX (aX σ.hs l .gone) σ.hs.length (.row T es)).map (mvO l σ.hs.length),σ.k0⟩
 |_=>σ)else σ
def mvSlot(σ:St)(t:Nat):St:=match tk σ.ts t with
 | .row l=>mvAt σ l
 |  .ptr b _ _=>match lk σ.hs b with
    | .box _ (.row l)=>mvAt σ l
    |_=>σ
 |_=>σ
def mvU(l nm:Nat):Nat->Option Nat:=fun k=>bif Nat.beq k l then some nm else some k
def atK:Ob->Bool
 | .row _ _=>true
 | .rowD _ _ _ _ _ none=>true
 | .tok _ _=>true
 |_=>false
def mvAtR(σ:St)(l:Nat):St:=bif (Nat.blt l σ.k0&&(Nat.ble σ.k0 σ.hs.length&&atK (lk σ.hs l)))then
 ⟨AV.renL (mvU l σ.hs.length) σ.ts,(aX (aX σ.hs l .gone) σ.hs.length (lk σ.hs l)).map (Ob.ren (mvU l σ.hs.length)),σ.k0⟩else σ
def mvRL(σ:St):List Nat->St
 | []=>σ
 |l::r=>mvRL (mvAtR σ l) r
def mvBoxR(σ:St)(s:Nat):St:=match tk σ.ts s with
 |  .ptr b _ _=>match lk σ.hs b with
    | .box _ (.agg _ vs)=>mvRL σ (rC σ.hs (AV.rwsL vs))
    |_=>σ
 |_=>σ
def mvL(σ:St):List Nat->St
 | []=>σ
 |t::r=>mvL (bif (Nat.ble 4000000 t&&Nat.blt t 100000000)then mvBoxR σ (t-4000000)else mvSlot σ t) r
def lG(σ:St):List Nat->List Nat
 | []=>[]
 |s::r=>bif Nat.ble 1000000 s&&!dV (s-1000000) (AV.rwsL σ.ts)then(s-1000000)::lG σ r else lG σ r
def unfAt(σ:St)(l:Nat):St:=match lk σ.hs l with
 |  .rowD T5 T2 c k es (some (i,m))=>match lk σ.hs k,lk σ.hs m with
    | .tok T3 ls,.row T4 ds=>bif (Nat.beq T3 T2&&(Nat.beq T4 T2&&Nat.ble σ.k0 σ.hs.length))then⟨σ.ts,aX (aX (aX (aX σ.hs l (.rowD T5 T2 c σ.hs.length es none)) k .gone) m .gone) σ.hs.length (.tok T2 (ls.set i (.lst ds))),σ.k0⟩else σ
    |_,_=>σ
 |_=>σ
def unfL(σ:St):List Nat->St
 | []=>σ
 |l::r=>unfL (unfAt σ l) r
def frzDAt(σ:St)(l:Nat):St:=match lk σ.hs l with
 |  .rowD T5 T2 c k es none=>match lk σ.hs k with
    | .tok T3 ls=>bif Nat.beq T3 T2 then⟨σ.ts,aX (aX σ.hs l (.row T5 (frzD c es ls))) k .gone,σ.k0⟩else σ
    |_=>σ
 |_=>σ
def toDAt(c:Option Nat)(σ:St)(l:Nat):St:=match lk σ.hs l with
 |  .row T5 []=>match slE P T5 with
    |some Te=>match rM P Te c with
     |some (T2,_)=>match slE P T2 with
      |some _=>bif Nat.ble σ.k0 σ.hs.length then⟨σ.ts,aX (aX σ.hs l (.rowD T5 T2 c σ.hs.length [] none)) σ.hs.length (.tok T2 []),σ.k0⟩else σ
      |none=>σ
     |none=>σ
    |none=>σ
 |_=>σ
def cOf:Nat->Option Nat
 |0=>none
 |f+1=>some f
def deepC(σ:St)(cc l:Nat):St:=bif Nat.beq cc 99 then frzDAt σ l else toDAt P (cOf cc) σ l
def deep1(σ:St)(s cc:Nat):St:=match tk σ.ts s with
 | .row l=>deepC P σ cc l
 |  .ptr b _ _=>match lk σ.hs b with
    | .box _ (.row l)=>deepC P σ cc l
    |_=>σ
 |_=>σ
def deep2(σ:St)(f s cc:Nat):St:=match tk σ.ts s with
 |  .ptr b _ _=>match lk σ.hs b with
    | .box _ (.agg _ vs)=>match vs[f]? with
      |some (.row l)=>deepC P σ cc l
      |_=>σ
    |_=>σ
 |_=>σ
def deepL(σ:St):List Nat->St
 | []=>σ
 |t::r=>deepL (bif Nat.ble 100000000 t then deep2 P σ ((t-100000000)/1000000) ((t-100000000)%1000000/100) (t%100)else bif Nat.ble 2000000 t then deep1 P σ ((t-2000000)/100) ((t-2000000)%100)else σ) r
def dS(f:FuncId)(key:Nat)(σ:St):St:=match E.keep f key with
 |none=>σ
 |  some (kp,fz,rw)=>
    let σ1:St:=⟨iU kp (uL kp) σ.ts 0,σ.hs,σ.k0⟩
    let σ2:St:=⟨σ1.ts,gonN (frzN σ1.hs (rG σ1 fz)) (lG σ1 fz),σ1.k0⟩
    let σ3:=deepL P (mvL (nilAll P (unfL σ2 (upto 0 σ2.hs.length)) rw) rw) rw
    let σ4:St:=⟨σ3.ts.map (pkC P σ3.hs),fQ P E.npk σ3.hs 0 σ3.hs,σ3.k0⟩
    relab σ4
def DV:Code->Bool
 | .seq a _=>DV a
 | .block _ c=>DV c
 | .loop _=>true
 | .scope c=>DV c
 | .cond _ a _=>DV a
 |_=>false
def firstId:Code->Nat
 | .region id _ _=>id
 | .seq a _=>firstId a
 | .block _ c=>firstId c
 | .loop c=>firstId c
 | .scope c=>firstId c
 | .cond _ a b=>bif DV a then 0 else bif Nat.beq (firstId a) 0 then(bif DV b then 0 else firstId b)else firstId a
 |_=>0
def nextK(J:Nat->Nat->Nat->St->Option R->Option R)(f:FuncId)(key:Nat)(σ:St)(g:St->Option R):Option R:=match (bif Nat.beq key 0 then none else E.keep f key)with
 |none=>g σ
 |some _=>J 0 key 0 (dS P E f key σ) (g (dS P E f key σ))
def acw(nx:St->Option R)(k:Exit->St->Option R):Exit->St->Option R
 | .normal,σ=>nx σ
 |e,σ=>k e σ
def Ny(id:Nat)(k:Exit->St->Option R):Exit->St->Option R
 | .exit id',σ=>bif Nat.beq id' id then k .normal σ else k (.exit id') σ
 |e,σ=>k e σ
def Nz(k:Exit->St->Option R):Exit->St->Option R
 | .goto _,_=>none
 |e,σ=>k e σ
def vK(J:Nat->Nat->Nat->St->Option R->Option R)(key:Nat)(head:St->St)(body:St->(Exit->St->Option R)->Option R):Nat->St->(Exit->St->Option R)->Option R
 |0,_,_=>none
 |m+1,σ,k=>body σ (acw (fun σ'=>J 1 key m (head σ') (vK J key head body m (head σ') k)) k)
def ev0(J:Nat->Nat->Nat->St->Option R->Option R)(m:Nat)(f:FuncId)(n:Nat):Code->St->(Exit->St->Option R)->Option R
 | .skip,σ,k=>k .normal σ
 | .region _ ops false,σ,k=>iQ P E call n ops.toList ops.toList σ [] fun σ' _=>k .normal σ'
 | .region id ops true,σ,k=>ajM (E.foc f id) σ fun σ=>iQ P E call n ops.toList ops.toList σ [] fun σ' tr=>bif (gI 0 ops.toList&&uJ ops.toList [] [] tr.reverse)then k .normal σ' else none
 | .seq a b,σ,k=>ev0 J m f n a σ (acw (fun σ'=>nextK P E J f (firstId b) σ' fun s=>ev0 J m f n b s k) k)
 |  .cond x a b,σ,k=>match Jl P (opd P E.dt σ 0 x)with
    |some t=>bif t then ev0 J m f n a σ k else ev0 J m f n b σ k
    |none=>none
 | .block id c,σ,k=>ev0 J m f n c σ (Ny id k)
 | .loop c,σ,k=>J 1 (firstId c) m (dS P E f (firstId c) σ) (vK J (firstId c) (dS P E f (firstId c)) (ev0 J m f n c) m (dS P E f (firstId c) σ) k)
 | .exit id,σ,k=>k (.exit id) σ
 | .label _,σ,k=>k .normal σ
 | .scope c,σ,k=>ev0 J m f n c σ (Nz k)
 | .ret,σ,k=>k .ret σ
 |_,_,_=>none
def bnd(o:Oper)(j:Nat):Bool:=o.after.toList.any fun e=>Region.binds .any e&&Nat.beq e.on j
def ajN(o0 o1 o2 o3:Oper):Bool:=gI 0 [o0,o1,o2,o3]&&bnd o1 0&&bnd o2 0&&bnd o3 1&&bnd o3 2
def atL:Op->Bool
 | .store _ _ _=>true
 |_=>false
def ave:Op->Bool
 | .alloc _=>true
 |_=>false
def noG(o:Oper):Bool:=match o.guard with
 |none=>true
 |some _=>false
def acy:Code->Code->Option (Oper×Oper×Oper×Oper)
 |  .region _ ops true,.cond _ _ _=>match ops with
    | ⟨[o0,o1,o2,o3]⟩=>bif (ave o0.op&&(atL o1.op&&(atL o2.op&&(ajN o0 o1 o2 o3&&(noG o0&&(noG o1&&(noG o2&&noG o3)))))))then some (o0,o1,o2,o3)else none
    |_=>none
 |_,_=>none
def Ud(n:Nat)(o0 o1 o2 o3:Oper)(σ:St)(k:St->St->Option R):Option R:=
 evO P E call n o0 σ fun d0=>evO P E call n o1 (σ.app o0.dst d0) fun d1=>evO P E call n o2 ((σ.app o0.dst d0).app o1.dst d1) fun d2=>evO P E call n o3 (((σ.app o0.dst d0).app o1.dst d1).app o2.dst d2) fun d3=>
 evO P E call n o2 (σ.app o0.dst d0) fun e2=>evO P E call n o1 ((σ.app o0.dst d0).app o2.dst e2) fun e1=>evO P E call n o3 (((σ.app o0.dst d0).app o2.dst e2).app o1.dst e1) fun e3=>
 k ((((σ.app o0.dst d0).app o1.dst d1).app o2.dst d2).app o3.dst d3) ((((σ.app o0.dst d0).app o2.dst e2).app o1.dst e1).app o3.dst e3)
def Ue:Nat->List AV->List AV->List Nat
 |i,a::r,b::s=>bif lu a b then i::Ue (i+1) r s else Ue (i+1) r s
 |_,_,_=>[]
def atM:Ob->Ob->Bool
 | .free,.free=>true
 |_,_=>false
def Qh:List Ob->List Ob->Bool
 | [],[]=>true
 |a::r,b::s=>(ab5 a b||atM a b)&&Qh r s
 |_,_=>false
def acz(a b:St):Bool:=nu a.ts b.ts&&(Qh a.hs b.hs&&Nat.beq a.k0 b.k0)
def rmD(d:Option Nat)(l:List Nat):List Nat:=match d with
 |some d=>l.filter fun i=>!Nat.beq i d
 |none=>l
def mrg(f:FuncId)(d:Option Nat)(a b:St):Option St:=
 bif acz (dS P {E with keep:=fun _ _=>some (rmD d (Ue 0 a.ts b.ts),[],[])} f 1 a) (dS P {E with keep:=fun _ _=>some (rmD d (Ue 0 a.ts b.ts),[],[])} f 1 b)then some (dS P {E with keep:=fun _ _=>some (rmD d (Ue 0 a.ts b.ts),[],[])} f 1 a)else none
def inn(m:Nat)(f:FuncId)(n:Nat)(c:Code)(σ:St):Option (Exit×St):=ev0 P E (fun _ _ _ _=>none) (fun _ _ _ _ x=>x) m f n c σ fun e s=>some (e,s)
noncomputable def ev(J:Nat->Nat->Nat->St->Option R->Option R)(m:Nat)(f:FuncId)(n:Nat):Code->St->(Exit->St->Option R)->Option R
 | .skip,σ,k=>k .normal σ
 | .region _ ops false,σ,k=>iQ P E call n ops.toList ops.toList σ [] fun σ' _=>k .normal σ'
 | .region id ops true,σ,k=>ajM (E.foc f id) σ fun σ=>iQ P E call n ops.toList ops.toList σ [] fun σ' tr=>bif (gI 0 ops.toList&&uJ ops.toList [] [] tr.reverse)then k .normal σ' else none
 | .seq a b,σ,k=>match acy a b with
   |none=>ev J m f n a σ (acw (fun σ'=>nextK P E J f (firstId b) σ' fun s=>ev J m f n b s k) k)
   |some q=>bif E.sam f then(Ud P E call n q.1 q.2.1 q.2.2.1 q.2.2.2 σ fun σA σB=>same (ev J m f n b σA k) (ev J m f n b σB k))else
    Ud P E call n q.1 q.2.1 q.2.2.1 q.2.2.2 σ fun σA σB=>match inn P E m f n b σA,inn P E m f n b σB with
    |some (.normal,s1),some (.normal,s2)=>(match mrg P E f q.1.dst s1 s2 with
     |some s=>k .normal s
     |none=>none)
    |_,_=>none
 | .cond x a b,σ,k=>match Jl P (opd P E.dt σ 0 x)with
   |some t=>bif t then ev J m f n a σ k else ev J m f n b σ k
   |none=>none
 | .block id c,σ,k=>ev J m f n c σ (Ny id k)
 | .loop c,σ,k=>J 1 (firstId c) m (dS P E f (firstId c) σ) (vK J (firstId c) (dS P E f (firstId c)) (ev J m f n c) m (dS P E f (firstId c) σ) k)
 | .exit id,σ,k=>k (.exit id) σ
 | .label _,σ,k=>k .normal σ
 | .scope c,σ,k=>ev J m f n c σ (Nz k)
 | .ret,σ,k=>k .ret σ
 |_,_,_=>none
def NA(σ:St):List ResultVar->Option (List AV)
 | []=>some []
 |  .tmp t::r=>match tk σ.ts t with
    | .dead=>none
    | .tup _=>none
    | v=>match NA σ r with
      |some vs=>some (v::vs)
      |none=>none
 |  .cell p T::r=>match tk σ.ts p with
    | .ptr l [] 0=>match lk σ.hs l with
      | .box T' c=>bif (Nat.beq T' T&&(szB P T c&&(c.isAgg P==bO P T)))then(match NA σ r with
        |some vs=>some (c::vs)
        |none=>none)else none
      |_=>none
    |_=>none
def AJ:List AV->Bool
 | []=>true
 |  v::r=>(match v with
    | .dead=>false
    | .tup _=>false
    |_=>true)&&AJ r
def iR:List AV->AV
 | [v]=>v
 |vs=> .tup vs
def fin(f:FuncId)(fn:Func)(σ:St):Option Res:=match NA P σ fn.results.toList with
 |  some vs=>bif E.raw f then
     let r1:=AV.n2rL P vs σ.hs.length
     let hs1:=jZ σ.hs σ.hs.length r1.2
     let src:=vJ hs1 σ.k0 r1.1
     bif (nodupB src&&Nat.ble σ.k0 σ.hs.length)then(bif AJ (AV.renL (ix src) r1.1)then some ((iR r1.1).ren (ix src),gF (ix src) hs1 src)else none)else none
    else
     let hs1:=frzN σ.hs (AV.rwsL vs)
     let us:=vs.map (pkC P hs1)
     let src:=vJ hs1 σ.k0 us
     bif nodupB src then(bif AJ (AV.renL (ix src) us)then some ((iR us).ren (ix src),gF (ix src) hs1 src)else none)else none
 |none=>none
end
def mvAll(σ:St):List ResultVar->St
 | []=>σ
 | .tmp t::r=>mvAll (mvSlot σ t) r
 |_::r=>mvAll σ r
def flat1(P:Program)(σ:St)(l:Nat):St:=match lk σ.hs l with
 |  .rowA T vs=>match slE P T with
    |some Te=>match jH P (frzN σ.hs (AV.rwsL vs)) Te vs with
     |some ds=>⟨σ.ts,aX (frzN σ.hs (AV.rwsL vs)) l (.row T ds),σ.k0⟩
     |none=>σ
    |none=>σ
 |_=>σ
def flatL(P:Program)(σ:St):List Nat->St
 | []=>σ
 |l::r=>flatL P (flat1 P σ l) r
def NC(σ:St):List ResultVar->List Nat
 | []=>[]
 | .tmp t::r=>(tk σ.ts t).rws++NC σ r
 |_::r=>NC σ r
def exitSt(P:Program)(E:Env)(f:FuncId)(fn:Func)(σ:St):St:=bif E.raw f then mvAll (dS P E f 1000000 σ) fn.results.toList else(let σ1:=dS P E f 1000000 σ;flatL P σ1 (NC σ1 fn.results.toList))
def ND(P:Program)(E:Env)(f:FuncId)(fn:Func):Exit->St->Option Res
 | .ret,σ=>fin P E f fn (exitSt P E f fn σ)
 | .normal,σ=>fin P E f fn (exitSt P E f fn σ)
 |_,_=>none
noncomputable def run(P:Program)(E:Env):Nat->FuncId->List AV->List Ob->Option Res
 |0,_,_,_=>none
 |m+1,f,args,objs=>match E.orc f with
  |some oc=>oc args objs
  |none=>match E.fns f with
  |some fn=>match fn.body with
   |some c=>bif Nat.ble args.length fn.ntmps then ev P E (fun f a o K=>(run P E m f a o).bind K) jn (m+1) f fn.ntmps c ⟨args,objs,objs.length⟩ (ND P E f fn)else none
   |none=>none
  |none=>none
theorem aC{A:Type}{b:Bool}{x:Option A}{r:A}(h:(bif b then x else none)=some r):b=true∧x=some r:=by
 cases b with
 |true=>exact⟨rfl,h⟩
 |false=>cases h
theorem aF{a b:Bool}(h:(a&&b)=true):a=true:=by cases a<;>simp_all
theorem aB{a b:Bool}(h:(a&&b)=true):b=true:=by cases a<;>simp_all
theorem beq_eq{a b:Nat}(h:Nat.beq a b=true):a=b:=aO h
theorem kE{a b:Nat}(h:(!Nat.beq a b)=true):a≠b:=fun e=>by subst e;simp at h
section
variable{P:Program}{n:Nat}{o:Oper}{σ G:St}{x y:Operand}{v:AV}{T:TypeId}{R:Type}{E:Env}
theorem Qi{av:TypeId->List Value->Option AV}{cs:List Value}:∀{fs:List Field}{vs:List AV},avF av P cs fs=some vs->vs.length=fs.length∧∀(i:Nat)(f:Field)(v:AV),fs[i]? =some f->vs[i]? =some v->v= .dead∨av f.type ((cs.drop f.offset).take (P.cellsOf f.type))=some v
 | [],vs,h=>by simp only[avF,aA]at h;subst h;exact⟨rfl,fun i f v hf=>by simp at hf⟩
 |f::fs,vs,h=>by
  unfold avF at h;split at h
  ·rename_i us hus;cases h;obtain⟨h1,h2⟩:=Qi hus;refine⟨by simp[h1],fun i g u hg hu=>?_⟩;cases i with
   |    zero=>
        simp only[aN,aA]at hg hu;subst hg;split at hu;·rename_i v hv;subst hu;exact .inr hv
        ·subst hu;exact .inl rfl
   |succ i=>simp only[aR]at hg hu;exact h2 i g u hg hu
  ·cases h
theorem l9:∀{k:Nat}{T:TypeId}{cs:List Value}{v:AV},avC P k T cs=some v->(∀(ok:Nat->Prop)(w:World)(Z:Nat->Option Value),RA P ok w Z v cs)∧v.isAgg P=bO P T∧v≠ .dead∧(∀us,v≠ .tup us)∧(bO P T=false->cs.length=1)
 |0,_,_,_,h=>by simp[avC]at h
 |k+    1,T,cs,v,h=>by
  unfold avC at h;split at h
  ·rename_i q hu;split at h
   ·    rename_i q' m;obtain⟨h1,h2⟩:=aC h;cases h2;have e:q=q':=by simpa using aF h1
        subst e;have h3:q.min<=m:=by simpa using aF (aB h1)
        have h4:m<=q.max:=by simpa using aB (aB h1)
        exact⟨fun _ _ _=> .dat (.int hu h3 h4),rfl,by simp,by simp,fun _=>rfl⟩
   ·cases h
  ·rename_i hu;split at h;·cases h;exact⟨fun _ _ _=> .dat (.bool hu),rfl,by simp,by simp,fun _=>rfl⟩
   ·cases h
  ·rename_i hu;split at h
   ·    obtain⟨h1,h2⟩:=aC h;cases h2;exact⟨fun _ _ _=> .dat (.str hu (ak h1)),rfl,by simp,by simp,fun _=>rfl⟩
   ·cases h
  ·rename_i e hu;split at h;·cases h;exact⟨fun _ _ _=> .nils,by simp[AV.isAgg,bO,hu],by simp,by simp,fun _=>rfl⟩
   ·cases h
  ·rename_i fs hu;obtain⟨h1,h2⟩:=aC h;split at h2
   ·    rename_i vs hvs;cases h2;obtain⟨q1,q2⟩:=Qi hvs;refine⟨fun ok w Z=> .agg hu (by rw[q1];simp) (beq_eq (aF h1)) (fun c hc=>List.all_eq_true.1 (aB h1) c hc) fun i f u hf hu2=>by
         rcases q2 i f u (by simpa using hf) hu2 with rfl|h3;·exact .dead fun c hc=>List.all_eq_true.1 (aB h1) c (List.mem_of_mem_drop (List.mem_of_mem_take hc))
         ·exact(l9 h3).1 ok w Z,rfl,by simp,by simp,fun hf=>by simp[bO,hu]at hf⟩
   ·cases h2
  ·rename_i ms hu;split at h;·cases h;exact⟨fun _ _ _=> .nif,by simp[AV.isAgg,bO,hu],by simp,by simp,fun _=>rfl⟩
   ·cases h
  ·rename_i len Te hu;split at h
   ·    rename_i hb;obtain⟨h1,h2⟩:=aC h;cases h2;have e1:=beq_eq (aF h1);have e2:=beq_eq (aF (aB h1));have e3:=beq_eq (aF (aB (aB h1)));have e4:∀c∈cs,c= .bool false:=fun c hc=>by have:=List.all_eq_true.1 (aB (aB (aB h1))) c hc;cases c<;>simp[isF]at this;rw[this]
        refine⟨fun ok w Z=> .dat (.arr hu (by simp[offs]) (by rw[e1,e2]) (fun c hc=>by rw[e4 c hc];rfl) fun i d hd=>?_),rfl,by simp,by simp,fun hf=>by simp[bO,hu]at hf⟩;obtain⟨hi,rfl⟩:=by simpa [offs,List.getElem?_replicate]using hd
        rw[e3,Nat.mul_one];have hlt:i<cs.length:=by omega
        rw[aD hlt];simp only[List.take_succ_cons,List.take_zero];rw[e4 _ (aI hlt)];exact .bool hb
   ·cases h
  ·rename_i pe hu;split at h;·cases h;exact⟨fun _ _ _=> .dat (.nilp hu),rfl,by simp,by simp,fun _=>rfl⟩
   ·cases h
  ·cases h
theorem RV.const{ok:Nat->Prop}{w:World}{Z:Nat->Option Value}{z:Value}{k:Nat}(h:avC P k T z.cells.toList=some v)(hz:pq z=bO P T):RV P ok w Z v z:=by
 obtain⟨h1,h2,h3,h4,_⟩:=l9 h;refine RV.of1 h3 h4 ⟨fun hi=>?_,fun hi=>?_⟩
 ·rw[h2,←hz]at hi;cases z<;>simp[pq]at hi;exact⟨_,by simp[Value.cells],h1 _ _ _⟩
 ·rw[h2,←hz]at hi;have:=h1 ok w Z;cases z<;>simp[pq]at hi<;>simpa [Value.cells]using this
theorem acA{ok:Nat->Prop}{w:World}{Z:Nat->Option Value}{z:Value}:∀{Ts:List TypeId},RV P ok w Z (cst P z Ts) z
 | []=>trivial
 |T::r=>by
  unfold cst;split
  ·rename_i a ha;cases hb:pq z==bO P T with
   |true=>exact RV.const ha (by simpa using hb)
   |false=>exact trivial
  ·exact acA
theorem gK{D:List TypeId}:Ev P σ x (opd P D σ T x):=by
 cases x with
 |tmp t=>exact Ev.tmp rfl
 |const v=>exact fun _ _ _ _ _ _ _=>acA
 |func f=>exact Ev.fn
 |global g=>exact fun _ _ _ _ _ _ _=>trivial
def Agrs(σ σ':St)(xs:List Operand):Prop:=∀t∈tmpsOf xs,tk σ'.ts t=tk σ.ts t
theorem Jt{t:Nat}:∀{xs:List Operand},.tmp t∈xs->t∈tmpsOf xs
 | [],h=>by simp at h
 |y::r,h=>by
  rcases List.mem_cons.1 h with e|h1;·subst e;simp[tmpsOf]
  ·have:=Jt h1;cases y<;>simp[tmpsOf,this]
theorem gT{σ':St}{D:List TypeId}{xs:List Operand}(h:Agrs σ σ' xs)(hx:x∈xs):opd P D σ' T x=opd P D σ T x:=by
 cases x with
 |tmp t=>exact h t (Jt hx)
 |const v=>rfl
 |func f=>rfl
 |global g=>rfl
theorem jJ{σ':St}{D:List TypeId}{xs:List Operand}(h:Agrs σ σ' xs):∀{Ts:List TypeId}{ys:List Operand},(∀y∈ys,y∈xs)->bD P D σ' Ts ys=bD P D σ Ts ys
 | [],_,_=>by simp[bD]
 |_::_,[],_=>by simp[bD]
 |T::Ts,y::ys,hy=>by simp only[bD];rw[gT h (hy y (by simp)),jJ h fun z hz=>hy z (by simp[hz])]
theorem mg{D:List TypeId}:∀{Ts:List TypeId}{xs:List Operand},xs.length=Ts.length->EvXs P σ xs (bD P D σ Ts xs)
 | [],[],_=> .nil
 |T::Ts,x::xs,h=> .cons gK (mg (by simpa using h))
 | [],_::_,h=>by simp at h
 |_::_,[],h=>by simp at h
theorem gW{b:Bool}(h:Jl P v=some b):∃T d,v= .dat T d∧P.underlying T=some .bool∧b=d.toBool:=by
 unfold Jl at h;split at h
 ·split at h;·rename_i hu;cases h;exact⟨_,_,rfl,hu,rfl⟩
  ·cases h
 ·cases h
theorem dP{Tx:TypeId}{q:IntKind}{i:Int}(h:ival P v=some (Tx,q,i)):∃d,v= .dat Tx d∧P.underlying Tx=some (.int q)∧i=d.toInt:=by
 unfold ival at h;split at h
 ·split at h;·rename_i hu;cases h;exact⟨_,rfl,hu,rfl⟩
  ·cases h
 ·cases h
theorem eF{Tx:TypeId}{s:ByteArray}(h:Ao P v=some (Tx,s)):∃d,v= .dat Tx d∧P.underlying Tx=some .string∧s=d.toStr:=by
 unfold Ao at h;split at h
 ·split at h;·rename_i hu;cases h;exact⟨_,rfl,hu,rfl⟩
  ·cases h
 ·cases h
theorem mh{hs:List Ob}{Tx Te:TypeId}{es:List Dt}(h:lval P hs v=some (Tx,Te,es)):∃d,pk P hs v=some (Tx,d)∧P.underlying Tx=some (.slice Te)∧es=d.toLst:=by
 unfold lval at h;split at h
 ·rename_i T' d hp;split at h;·rename_i hu;cases h;exact⟨_,hp,hu,rfl⟩
  ·cases h
 ·cases h
theorem bF{Te:TypeId}(h:slE P T=some Te):P.underlying T=some (.slice Te):=by
 unfold slE at h;split at h;·rename_i hu;cases h;exact hu
 ·cases h
theorem eU{fs:Array Field}(h:stF P T=some fs):P.underlying T=some (.struct fs):=by
 unfold stF at h;split at h;·rename_i hu;cases h;exact hu
 ·cases h
theorem Ju(h:isB P T=true):P.underlying T=some .bool:=by
 unfold isB at h;split at h;·assumption
 ·cases h
theorem eX{k:IntKind}(h:isI P T k=true):P.underlying T=some (.int k):=by
 unfold isI at h;split at h
 ·rename_i k' hu;have e:k'=k:=by simpa using h
  subst e;exact hu
 ·cases h
theorem gB(h:isS P T=true):P.underlying T=some .string:=by
 unfold isS at h;split at h;·assumption
 ·cases h
theorem dx:∀{Ts:List TypeId}{TB:TypeId},bT P Ts=some TB->P.underlying TB=some .bool
 | [],_,h=>by simp[bT]at h
 |T::r,TB,h=>by
  unfold bT at h;cases hb:isB P T with
  |true=>rw[hb]at h;cases h;exact Ju hb
  |false=>rw[hb]at h;exact dx h
theorem bP{Te:TypeId}(h:dA P T Te=true):P.underlying T=some (.slice Te)∧P.cellsOf Te≠0:=by
 unfold dA at h;refine⟨?_,kE (aB h)⟩;have h1:=aF h;split at h1
 ·rename_i Te' he;have:=beq_eq h1;subst this;exact bF he
 ·cases h1
theorem dD(h:szB P T v=true):v≠ .dead∧(∀us,v≠ .tup us)∧(∃D,P.underlying T=some D)∧(v.isAgg P=false->P.cellsOf T=1)∧
  ∀(ok:Nat->Prop)(w:World)(Z:Nat->Option Value)(cs:List Value),RA P ok w Z v cs->(v.isAgg P=false->cs.length=1)->cs.length=P.cellsOf T:=by
 have h0:=aF h;have h1:=aB h;have hu:∃D,P.underlying T=some D:=Option.isSome_iff_exists.1 h0;unfold szA at h1;split at h1
 ·rename_i T' d;split at h1
  ·rename_i fs hfs;have e:=beq_eq h1;refine⟨by simp,by simp,hu,fun hi=>by simp[AV.isAgg,bO,hfs]at hi,fun ok w Z cs hr _=>?_⟩;cases hr with
   |dat hr=>rw[←e];exact(hr.agg_inv hfs).2.1
  ·rename_i m1 m2 hfs;have e:=beq_eq h1;refine⟨by simp,by simp,hu,fun hi=>by simp[AV.isAgg,bO,hfs]at hi,fun ok w Z cs hr _=>?_⟩;cases hr with
   |dat hr=>rw[←e];exact(hr.arr_inv hfs).2.2.1
  ·exact⟨by simp,by simp,hu,fun _=>beq_eq h1,fun ok w Z cs hr hl=>by rw[beq_eq h1];rename_i D hn1 hn2 hD;refine hl ?_;simp only[AV.isAgg,bO,hD];cases D<;>simp_all⟩
  ·cases h1
 ·rename_i T' vs;split at h1
  ·rename_i fs hfs;have e:=beq_eq h1;refine⟨by simp,by simp,hu,fun hi=>by simp[AV.isAgg,bO,hfs]at hi,fun ok w Z cs hr _=>?_⟩;cases hr with
   |agg _ _ hc _ _=>rw[←e];exact hc
  ·cases h1
 ·cases h1
 ·cases h1
 ·rename_i h3 h4 h5 h6;have hag:v.isAgg P=false:=by cases v<;>first|rfl|(exact absurd rfl (h3 _ _))|(exact absurd rfl (h4 _ _))
  exact⟨fun e=>h5 e,fun us e=>h6 us e,hu,fun _=>beq_eq h1,fun ok w Z cs hr hl=>by rw[beq_eq h1];exact hl hag⟩
theorem gD:∀{path:List Nat}{S:TypeId}{c:AV}{T:TypeId}{q:Nat}{v:AV},getAt P S c path=some (T,q,v)->GetAt P S c path q T v
 | [],S,c,T,q,v,h=>by
   have h':some (S,0,c)=some (T,q,v):=by simpa [getAt]using h
   cases h';exact .nil
 | i::p,  S,c,T,q,v,h=>by
   unfold getAt at h;split at h;·rename_i he;cases he
   ·rename_i S0 S' vs i' p' he;cases he;split at h
    ·   rename_i fs hfs;split at h
        ·rename_i f hf;split at h
         ·rename_i u hu;obtain⟨h1,h2⟩:=aC h;split at h2
          ·rename_i T' q' r hg;cases h2;have e:=beq_eq (aF h1);subst e;exact .agg (eU hfs) hf hu (ak (aB h1)) (gD hg)
          ·cases h2
         ·cases h
        ·cases h
    ·cases h
   ·rename_i S0 S' d i' p' he;cases he;split at h
    ·   rename_i fs hfs;split at h
        ·rename_i f hf;obtain⟨h1,h2⟩:=aC h;split at h2
         ·rename_i T' q' r hg;cases h2;have e:=beq_eq (aF h1);subst e;exact .dat (eU hfs) hf (ak (aB h1)) (gD hg)
         ·cases h2
        ·cases h
    ·cases h
   ·cases h
theorem iT{T':TypeId}:∀{path:List Nat}{S:TypeId}{c:AV}{q:Nat}{c':AV},setAt P T' v S c path=some (q,c')->SetAt P v T' S c path q c'
 | [],S,c,q,c',h=>by
   have h':(bif Nat.beq S T' then some (0,v)else none)=some (q,c'):=by simpa [setAt]using h
   obtain⟨h1,h2⟩:=aC h';cases h2;have:=beq_eq h1;subst this;exact .nil
 | i::p,  S,c,q,c',h=>by
   unfold setAt at h;split at h
   ·rename_i fs hfs;split at h
    ·   rename_i f hf;split at h
        ·rename_i vs hvs;split at h
         ·rename_i old hold;obtain⟨h1,h2⟩:=aC h;split at h2
          ·rename_i q' new hg;cases h2;have key:=SetAt.agg (v:=v) (T':=T') (eU hfs) h1 hf hold (iT hg);split at hvs
           ·obtain⟨e1,e2⟩:=aC hvs;cases e2;have:=beq_eq e1;subst this;exact key
           ·obtain⟨e1,e2⟩:=aC hvs;cases e2;have:=beq_eq e1;subst this;exact .dat (eU hfs) key
           ·cases hvs
          ·cases h2
         ·cases h
        ·cases h
    ·cases h
   ·cases h
theorem lH(h:zeroV P T=some v):ZeroA P T v:=by
 unfold zeroV at h;split at h
 ·rename_i i hi;split at h
  ·rename_i z hz;obtain⟨h1,h2⟩:=aC h;exact⟨i,z,hi,hz,beq_eq h1,(l9 h2).1⟩
  ·cases h
 ·cases h
theorem dK{d:Dt}(h:rD P T=some d):Zero P T d:=by
 unfold rD at h;split at h
 ·rename_i v hv;split at h
  ·rename_i T' d' hp;obtain⟨h1,h2⟩:=aC h;cases h2;have:=beq_eq h1;subst this;obtain⟨i,z,q1,q2,q3,q4⟩:=(lH hv).ex;exact⟨i,z,q1,q2,q3,fun ok w=>dB (Z:=fun _=>none) (hs:=[]) (fun l T es hl=>by simp[lk]at hl) (q4 ok w _) hp⟩
  ·cases h
 ·cases h
theorem AL{fs:Array Field}:∀{parts:List (Nat×Operand)}{vs us:List AV},BF P E σ fs parts vs=some us->BldL P σ fs parts vs us
 | [],vs,us,h=>by
   have h':some vs=some us:=by simpa [BF]using h
   cases h';exact .nil
 | (i,x)::r,vs,us,h=>by
   unfold BF at h;split at h
   ·rename_i f hf;obtain⟨h1,h2⟩:=aC h;obtain⟨q1,q2,q3,q4,q5⟩:=dD h1;exact .cons hf gK q1 q2 q5 (AL h2)
   ·cases h
theorem Jv{σ':St}{fs:Array Field}{xs:List Operand}(h:Agrs σ σ' xs):∀{parts:List (Nat×Operand)}{vs:List AV},(∀p∈parts,p.2∈xs)->BF P E σ' fs parts vs=BF P E σ fs parts vs
 | [],vs,_=>by simp[BF]
 |(i,x)::r,vs,hp=>by
  have hx:=hp (i,x) (by simp);unfold BF;split
  ·rename_i f hf;rw[gT h hx,Jv h fun p hq=>hp p (by simp[hq])]
  ·rfl
theorem gU{lo:Option Operand}{i:Int}(h:gQ P E σ 0 lo=some i):MX P σ lo i:=by
 cases lo with
 |none=>simp only[gQ,aA]at h;exact h.symm
 |some x=>
  simp only[gQ]at h;split at h
  ·rename_i Tx q i' hi;cases h;obtain⟨d,e1,e2,rfl⟩:=dP hi;refine⟨Tx,q,e2,?_⟩;have:=gK (P:=P) (σ:=σ) (x:=x) (T:=0) (D:=E.dt);rw[e1]at this;exact this.cint e2
  ·cases h
theorem wz{hi:Option Operand}{m:Nat}{i:Int}(h:gQ P E σ m hi=some i):R9 P σ m hi i:=by
 cases hi with
 |none=>simp only[gQ,aA]at h;exact h.symm
 |some x=>
  simp only[gQ]at h;split at h
  ·rename_i Tx q i' hi;cases h;obtain⟨d,e1,e2,rfl⟩:=dP hi;refine⟨Tx,q,e2,?_⟩;have:=gK (P:=P) (σ:=σ) (x:=x) (T:=0) (D:=E.dt);rw[e1]at this;exact this.cint e2
  ·cases h
theorem dQ{σ':St}{xs:List Operand}{m:Int}{b:Option Operand}(h:Agrs σ σ' xs)(hb:∀x,b=some x->x∈xs):gQ P E σ' m b=gQ P E σ m b:=by
 cases b with
 |none=>rfl
 |some x=>simp only[gQ];rw[gT h (hb x rfl)]
theorem jf{hs hs':List Ob}(v:AV):(∀l∈v.rws,lk hs' l=lk hs l)->pk P hs' v=pk P hs v:=by
 refine AV.rec (motive_1:=fun v=>(∀l∈v.rws,lk hs' l=lk hs l)->pk P hs' v=pk P hs v) (motive_2:=fun vs=>(∀l∈AV.rwsL vs,lk hs' l=lk hs l)->∀fs,pkL P hs' fs vs=pkL P hs fs vs) ?_ ?_ ?_ ?_ ?_ ?_ ?_ ?_ ?_ ?_ ?_ ?_ ?_ ?_ ?_ v;·intro T d _;rfl
 ·intro T vs ih h;simp only[pk];split
  ·rename_i fs _;rw[ih (by simpa [AV.rws]using h) fs.toList]
  ·rfl
 ·intro l h;simp only[pk];rw[h l (by simp[AV.rws])]
 ·intro l p o _;rfl
 ·intro l i z p o _;rfl
 ·intro T d _;rfl
 ·intro f c _ _;rfl
 ·intro vs _ _;rfl
 ·intro T _;rfl
 ·intro b _;rfl
 ·intro T v _ _;rfl
 ·intro T m _;rfl
 ·intro _;rfl
 ·intro _ fs;cases fs<;>rfl
 ·intro v vs h1 h2 h fs;cases fs with
  |nil=>rfl
  |cons f fs=>
   simp only[pkL];rw[h1 fun l hl=>h l (by simp[AV.rwsL,hl]),h2 (fun l hl=>h l (by simp[AV.rwsL,hl])) fs]
theorem Jw{l:Nat}{v:AV}:∀{vs:List AV},v∈vs->l∈v.rws->l∈AV.rwsL vs
 | [],h,_=>by simp at h
 |u::r,h,hl=>by
  rcases List.mem_cons.1 h with e|h;·subst e;simp[AV.rwsL,hl]
  ·simp[AV.rwsL,Jw h hl]
theorem AO{hs:List Ob}{T:TypeId}{d:Dt}(v:AV)(h:pk P [] v=some (T,d)):pk P hs v=some (T,d):=by
 have key:∀v:AV,∀T d,pk P [] v=some (T,d)->pk P hs v=some (T,d):=by
  intro v;refine AV.rec (motive_1:=fun v=>∀T d,pk P [] v=some (T,d)->pk P hs v=some (T,d)) (motive_2:=fun vs=>∀fs ds,pkL P [] fs vs=some ds->pkL P hs fs vs=some ds) ?_ ?_ ?_ ?_ ?_ ?_ ?_ ?_ ?_ ?_ ?_ ?_ ?_ ?_ ?_ v;·intro T d T' d' h;exact h
  ·intro T vs ih T' d' h;simp only[pk]at h ⊢
   split at h
   ·    rename_i fs hfs;split at h
        ·rename_i ds hds;rw[ih _ _ hds];exact h
        ·cases h
   ·cases h
  ·intro l T d h;simp[pk,lk]at h
  ·intro l p o T d h;simp[pk]at h
  ·intro l i z p o T d h;simp[pk]at h
  ·intro T d T' d' h;simp[pk]at h
  ·intro f c _ T' d' h;simp[pk]at h
  ·intro vs _ T' d' h;simp[pk]at h
  ·intro T T' d' h;exact h
  ·intro b T' d' h;simp[pk]at h
  ·intro T v _ T' d' h;simp[pk]at h
  ·intro T m T' d' h;simp[pk]at h
  ·intro T' d' h;simp[pk]at h
  ·intro fs ds h;cases fs with
   |nil=>exact h
   |cons f fs=>simp[pkL]at h
  ·intro  v vs h1 h2 fs ds h;cases fs with
   |nil=>simp[pkL]at h
   |    cons f fs=>
        unfold pkL at h ⊢
        split at h
        ·rename_i T d hv;rw[h1 _ _ hv];simp only;cases hc:compat P T f.type with
         |false=>rw[hc]at h;cases h
         |true=>
          rw[hc]at h;simp only[cond_true]at h ⊢
          split at h
          · rename_i us hus;rw[h2 _ _ hus];exact h
          ·cases h
        ·cases h
 exact key v T d h
theorem pG{hs:List Ob}{T2 k:Nat}{r:List Nat}{ls:List Dt}(h:DN hs T2 k r=some ls):k∈r∧lk hs k= .tok T2 ls:=by
 unfold DN at h;split at h;·cases h
 ·rename_i k' r';split at h
  ·rename_i T4 ls' hl;have hh_:=aC h;clear h;obtain⟨hc,h⟩:=hh_;have e1:=beq_eq (aF hc);have e2:=beq_eq (aB hc);subst e1 e2;cases h;exact⟨by simp,hl⟩
  ·cases h
theorem Uf{T2 k:Nat}{r:List Nat}{hs hs':List Ob}(h:∀l∈r,lk hs' l=lk hs l):DN hs' T2 k r=DN hs T2 k r:=by
 cases r with
 |nil=>rfl
 |cons a r=>simp only[DN,h a (by simp)]
theorem wB{ls:List Nat}{hs hs':List Ob}{j:Nat}{ob:Ob}(h:∀l∈ls,lk hs' l=lk hs l):∀l∈ls,lk (aX hs' j ob) l=lk (aX hs j ob) l:=fun l hl=>by
 rw[dH,dH];split;·rfl
 ·exact h l hl
theorem dL:∀{ls:List Nat}{hs hs':List Ob},(∀l∈ls,lk hs' l=lk hs l)->frzW hs' ls=frzW hs ls
 | [],hs,hs',_=>rfl
 |l::r,hs,hs',h=>by
  have hr:∀k∈r,lk hs' k=lk hs k:=fun k hk=>h k (by simp[hk]);unfold frzW;rw[h l (by simp)];split
  ·rename_i T es hl;congr 1;exact dL (wB hr)
  ·rename_i T T2 c k es hl;rw[Uf hr];split
   ·    rename_i ls hls;congr 1;congr 1;congr 1;exact dL (wB (wB (wB hr)))
   ·exact dL hr
  ·exact dL hr
theorem eG{ls:List Nat}:∀{ws:List (Nat×Ob)}{hs hs':List Ob},(∀l∈ls,lk hs' l=lk hs l)->∀l∈ls,lk (wrO hs' ws) l=lk (wrO hs ws) l
 | [],hs,hs',h,l,hl=>h l hl
 |(k,ob)::r,hs,hs',h,l,hl=>by
  refine eG (ls:=ls) (ws:=r) (hs:=aX hs k ob) (hs':=aX hs' k ob) (fun l hl=>?_) l hl;rw[dH,dH];split;·rfl
  ·exact h l hl
theorem fH:∀(a b:List (Nat×Ob))(hs:List Ob),wrO hs (a++b)=wrO (wrO hs a) b
 | [],b,hs=>rfl
 |(l,ob)::r,b,hs=>fH r b _
theorem Imp.freezeD{l k:Nat}{T T2:TypeId}{c:Option Nat}{es ls:List Dt}(hl:lk σ.hs l= .rowD T T2 c k es none)(hk:lk σ.hs k= .tok T2 ls):Imp P n σ ⟨σ.ts,aX (aX σ.hs l (.row T (frzD c es ls))) k .gone,σ.k0⟩:=by rintro ok0 w0 a w ⟨Z,r⟩;exact⟨Z,r.freezeD hl hk⟩
theorem Imp.frzW:∀(ls:List Nat){σ:St},Imp P n σ ⟨σ.ts,wrO σ.hs (frzW σ.hs ls),σ.k0⟩
 | [],σ=>Imp.refl
 |l::r,σ=>by
  unfold Am.frzW;split
  ·rename_i T es hl;have h1:Imp P n σ ⟨σ.ts,aX σ.hs l (.frz T es),σ.k0⟩:=by have h1:=Imp.frz1 (P:=P) (n:=n) (σ:=σ) l;unfold Am.frz1 at h1;rw[hl]at h1;exact h1
   exact h1.trans (Imp.frzW r (σ:=⟨σ.ts,aX σ.hs l (.frz T es),σ.k0⟩))
  ·rename_i T T2 c k es hl;split
   ·    rename_i ls hls;obtain⟨_,hk⟩:=pG hls;have hlk:l≠k:=fun e=>by rw[e,hk]at hl;cases hl
        have h1:=Imp.freezeD (P:=P) (n:=n) hl hk;have h2:Imp P n ⟨σ.ts,aX (aX σ.hs l (.row T (frzD c es ls))) k .gone,σ.k0⟩ ⟨σ.ts,aX (aX (aX σ.hs l (.row T (frzD c es ls))) k .gone) l (.frz T (frzD c es ls)),σ.k0⟩:=by
         have h1:=Imp.frz1 (P:=P) (n:=n) (σ:=⟨σ.ts,aX (aX σ.hs l (.row T (frzD c es ls))) k .gone,σ.k0⟩) l;unfold Am.frz1 at h1;have e:lk (aX (aX σ.hs l (.row T (frzD c es ls))) k .gone) l= .row T (frzD c es ls):=by rw[aV _ _ _ _ hlk,bL]
         simp only[e]at h1;exact h1
        exact(h1.trans h2).trans (Imp.frzW r (σ:=⟨σ.ts,aX (aX (aX σ.hs l (.row T (frzD c es ls))) k .gone) l (.frz T (frzD c es ls)),σ.k0⟩))
   ·exact Imp.frzW r
  ·exact Imp.frzW r
theorem acB{hs:List Ob}{l k:Nat}{ob:Ob}(h:lk hs l= .free)(hk:lk hs k≠ .free):lk (aX hs k ob) l= .free:=by rw[aV _ _ _ _ fun e=>hk (by rw[←e];exact h)];exact h
theorem fD:∀{ls:List Nat}{hs:List Ob}{l:Nat},lk hs l= .free->lk (wrO hs (Am.frzW hs ls)) l= .free
 | [],hs,l,h=>h
 |k::r,hs,l,h=>by
  unfold Am.frzW;split
  ·rename_i T es hl;exact fD (acB h (by rw[hl];nofun))
  ·rename_i T T2 c kk es hl;split
   ·    rename_i ls hls;obtain⟨_,hk⟩:=pG hls;refine fD ?_;have e1:l≠k:=fun e=>by rw[e,hl]at h;cases h
        have e2:l≠kk:=fun e=>by rw[e,hk]at h;cases h
        rw[aV _ _ _ _ e1,aV _ _ _ _ e2,aV _ _ _ _ e1];exact h
   ·exact fD h
  ·exact fD h
theorem fu:∀{ls:List Nat}{hs:List Ob}{l:Nat},l∉ls->lk (wrO hs (Am.frzW hs ls)) l=lk hs l
 | [],hs,l,h=>rfl
 |k::r,hs,l,h=>by
  simp only[List.mem_cons,not_or]at h;unfold Am.frzW;split
  ·rename_i T es hl;simp only[wrO];rw[fu h.2,aV _ _ _ _ h.1]
  ·rename_i T T2 c kk es hl;split
   ·    rename_i ls hls;obtain⟨hm,hk⟩:=pG hls;have e2:l≠kk:=fun e=>h.2 (by rw[e];exact hm);simp only[wrO];rw[fu h.2,aV _ _ _ _ h.1,aV _ _ _ _ e2,aV _ _ _ _ h.1]
   ·exact fu h.2
  ·exact fu h.2
theorem ap0(σ:St)(d:Option Nat)(X:Dl):(σ.app d X).k0=σ.k0:=rfl
end
structure Agr (o:Oper) (σ σ':St) (rd:List Nat):Prop where
 ts:Agrs σ σ' o.op.operands.toList
 hs:∀l∈rd,lk σ'.hs l=lk σ.hs l
 k0:σ'.k0=σ.k0
def OpS{R:Type}(P:Program)(n:Nat)(o:Oper)(σ:St)(k:Dl->Option R)(r:R):Prop:=
 ∃X,k X=some r∧∀σ',Agr o σ σ' X.rd->bC P n o σ' (σ'.app o.dst X)
section
variable{P:Program}{n:Nat}{o:Oper}{σ G:St}{x y:Operand}{v:AV}{T:TypeId}{R:Type}{E:Env}{k:Dl->Option R}{r:R}
theorem dF{rd:List Nat}{wr:List (Nat×Ob)}(h:out n o v rd wr k=some r):∃d,o.dst=some d∧d<n∧k ⟨some v,rd,wr⟩=some r:=by
 unfold out at h;split at h
 ·rename_i d hd;obtain⟨h1,h2⟩:=aC h;exact⟨d,hd,ak h1,h2⟩
 ·cases h
theorem gX{rd:List Nat}{wr:List (Nat×Ob)}(h:Jo o rd wr k=some r):o.dst=none∧k ⟨none,rd,wr⟩=some r:=by
 unfold Jo at h;split at h;·cases h
 ·rename_i hd;exact⟨hd,h⟩
theorem dI{f:Nat->Option R}(h:new σ f=some r):σ.k0<=σ.hs.length∧f σ.hs.length=some r:=by unfold new at h;obtain⟨h1,h2⟩:=aC h;exact⟨ak h1,h2⟩
theorem bn{rd:List Nat}(h:out n o v rd [] k=some r)(hv:∀σ',Agr o σ σ' rd->∀d,o.dst=some d->d<n->bC P n o σ' (σ'.put d v)):OpS P n o σ k r:=by obtain⟨d,hd,hn,hk⟩:=dF h;refine⟨_,hk,fun σ' ha=>?_⟩;have:=hv σ' ha d hd hn;rw[hd];exact this
theorem Qj{rd:List Nat}{l:Nat}{ob:Ob}(h:out n o v rd [(l,ob)] k=some r)(hv:∀σ',Agr o σ σ' rd->∀d,o.dst=some d->d<n->bC P n o σ' ((σ'.lay l ob).put d v)):OpS P n o σ k r:=by obtain⟨d,hd,hn,hk⟩:=dF h;refine⟨_,hk,fun σ' ha=>?_⟩;have:=hv σ' ha d hd hn;rw[hd];exact this
theorem fE{σ':St}{rd:List Nat}(ha:Agr o σ σ' rd)(hx:x∈o.op.operands.toList):Ev P σ' x (opd P E.dt σ T x):=by rw[←gT ha.ts hx];exact gK
theorem bf{σ':St}{rd:List Nat}{u:AV}(ha:Agr o σ σ' rd)(hx:x∈o.op.operands.toList)(hv:opd P E.dt σ T x=u):Ev P σ' x u:=by rw[←hv];exact fE ha hx
theorem ap1(ho:o.op= .move x)(h:out n o (opd P E.dt σ o.type x) [] [] k=some r):OpS P n o σ k r:=
 bn h fun σ' ha d hd hn=>aiI ho hd hn (fE ha (by rw[ho];simp[Op.operands]))
theorem acC(ho:o.op= .assign x)(h:out n o (opd P E.dt σ o.type x) [] [] k=some r):OpS P n o σ k r:=
 bn h fun σ' ha d hd hn=>R3 ho hd hn (fE ha (by rw[ho];simp[Op.operands]))
theorem ap2{c:Operand}(ho:o.op= .pick c x y)(h:Nu P E n o σ c x y k=some r):OpS P n o σ k r:=by
 unfold Nu at h;split at h
 ·rename_i b hb;obtain⟨TB,d0,e1,e2,rfl⟩:=gW hb;cases hd0:d0.toBool with
  |true=>
   rw[hd0]at h;exact bn h fun σ' ha d hd hn=>by have hc:=(bf (x:=c) ha (by rw[ho];simp[Op.operands]) e1).cbool e2;rw[hd0]at hc;exact Fe ho hd hn e2 hc (fE ha (by rw[ho];simp[Op.operands]))
  |false=>
   rw[hd0]at h;exact bn h fun σ' ha d hd hn=>by have hc:=(bf (x:=c) ha (by rw[ho];simp[Op.operands]) e1).cbool e2;rw[hd0]at hc;exact Bn ho hd hn e2 hc (fE ha (by rw[ho];simp[Op.operands]))
 ·cases h
theorem dJ(σ:St):lk σ.hs σ.hs.length= .free:=dG _ _ (aM _)
theorem ajO(ho:o.op= .alloc T)(h:FW P n o σ T k=some r):OpS P n o σ k r:=by
 unfold FW at h;split at h
 ·rename_i v hv;have hh_:=dI h;clear h;obtain⟨hk0,h⟩:=hh_;exact Qj h fun σ' ha d hd hn=>Yk ho hd hn (by rw[ha.hs _ (by simp)];exact dJ σ) (by rw[ha.k0];exact hk0) (lH hv)
 ·cases h
theorem atN(ho:o.op= .box T x)(h:acd P E n o σ T x k=some r):OpS P n o σ k r:=by unfold acd at h;have hh_:=aC h;clear h;obtain⟨hb,h⟩:=hh_;have hh_:=dI h;clear h;obtain⟨hk0,h⟩:=hh_;obtain⟨q1,q2,q3,q4,q5⟩:=dD hb;exact Qj h fun σ' ha d hd hn=>aoV ho hd hn (by rw[ha.hs _ (by simp)];exact dJ σ) (by rw[ha.k0];exact hk0) (fE ha (by rw[ho];simp[Op.operands])) q1 q2 q5
theorem ajP{parts:Array (Nat×Operand)}(ho:o.op= .build T parts)(h:FY P E n o σ T parts.toList k=some r):OpS P n o σ k r:=by
 unfold FY at h;split at h
 ·rename_i fs hfs;split at h
  ·rename_i T' vs hz;have hh_:=aC h;clear h;obtain⟨hc,h⟩:=hh_;have e:=beq_eq (aF hc);subst e;split at h
   ·    rename_i us hus;refine bn h fun σ' ha d hd hn=>Yp ho hd hn (eU hfs) (aF (aB hc)) (aB (aB hc)) (lH hz) ?_;have:BF P E σ' fs parts.toList vs=some us:=by rw[Jv ha.ts fun p hp=>by rw[ho];simp only[Op.operands];exact List.mem_map.2 ⟨p,hp,rfl⟩];exact hus
        exact AL this
   ·cases h
  ·cases h
 ·cases h
theorem avf{σ G:St}(h:∀(ok0:OkX)(w0:World)(a:Act)(w:World)(Z:Nat->Option Value),RelB P ok0 w0 n σ a w Z->bC P n o σ G):bC P n o σ G:=by rintro ok0 w0 a w ⟨Z,r⟩;exact h ok0 w0 a w Z r ok0 w0 a w ⟨Z,r⟩
theorem acD{l i sz off kk:Nat}{path:List Nat}{T5 T2:TypeId}{c:Option Nat}{es:List Dt}{hh:Option (Nat×Nat)}(ho:o.op= .load T x)(e1:opd P E.dt σ 0 x= .eptr l i sz path off)(hl:lk σ.hs l= .rowD T5 T2 c kk es hh)
  (h:Aq P n o σ T l i sz off T5 T2 c kk es hh k=some r):OpS P n o σ k r:=by
 have hx:x∈o.op.operands.toList:=by rw[ho];simp[Op.operands]
 unfold Aq at h;split at h
 ·rename_i Te E2 T4 ls h1 h2 h3;split at h
  ·rename_i T3 fo hf;have hh_:=aC h;clear h;obtain⟨hc,h⟩:=hh_;have f1:=beq_eq (aF hc);have f2:=beq_eq (aF (aB hc));have f3:=beq_eq (aF (aB (aB hc)));have f4:=beq_eq (aF (aB (aB (aB hc))));have f5:=beq_eq (aB (aB (aB (aB hc))));subst f1 f2 f4 f5;subst f3;have hh_:=dI h;clear h;obtain⟨hk0,h⟩:=hh_;have hh_:=aj.1 h;clear h;obtain⟨e,he,h⟩:=hh_;have hh_:=aC h;clear h;obtain⟨hlk,h⟩:=hh_;have hh_:=aj.1 h;clear h;obtain⟨e2,he2,h⟩:=hh_;obtain⟨d,hd,hn,hk⟩:=dF h;refine⟨_,hk,fun σ' ag=>?_⟩;rw[hd];have hk':lk σ'.hs kk= .tok T4 ls:=by rw[ag.hs kk (by simp)];exact h3
   refine avf fun _ _ _ _ _ r=>?_;exact Gj ho hd hn (bF h2) (bF h1) (bf ag hx e1) hf (by rw[ag.hs l (by simp)];exact hl) hk' he hlk (r.tok_lst hk' he2)
        (by rw[ag.hs _ (by simp)];exact dJ σ) (by rw[ag.hs _ (by simp)];exact dG _ _ (by omega)) (by omega) (by rw[ag.k0];exact hk0) (by rw[ag.k0];omega)
  ·cases h
 ·cases h
theorem ajQ{l i sz off kk i' m:Nat}{path:List Nat}{T5 T2:TypeId}{c:Option Nat}{es:List Dt}(ho:o.op= .load T x)(e1:opd P E.dt σ 0 x= .eptr l i sz path off)(hl:lk σ.hs l= .rowD T5 T2 c kk es (some (i',m)))
  (h:F3 P n o T l i sz off T5 T2 c es i' m k=some r):OpS P n o σ k r:=by
 have hx:x∈o.op.operands.toList:=by rw[ho];simp[Op.operands]
 unfold F3 at h;split at h
 ·rename_i Te E2 h1 h2;split at h
  ·rename_i T3 fo hf;have hh_:=aC h;clear h;obtain⟨hc,h⟩:=hh_;have f1:=beq_eq (aF hc);have f2:=beq_eq (aF (aB hc));have f4:=beq_eq (aF (aB (aB hc)));have f5:=beq_eq (aB (aB (aB hc)));subst f1 f2 f4 f5;have hh_:=aC h;clear h;obtain⟨hi,h⟩:=hh_;have f6:=beq_eq hi;subst f6;have hh_:=aj.1 h;clear h;obtain⟨e,he,h⟩:=hh_;have hh_:=aC h;clear h;obtain⟨hlk,h⟩:=hh_;obtain⟨d,hd,hn,hk⟩:=dF h;refine⟨_,hk,fun σ' ag=>?_⟩;rw[hd];exact JM ho hd hn (bF h2) (bF h1) (bf ag hx e1) hf (by rw[ag.hs l (by simp)];exact hl) he hlk
  ·cases h
 ·cases h
theorem ajR{l i sz off kk:Nat}{path:List Nat}{T5 T2:TypeId}{c:Option Nat}{es:List Dt}{hh:Option (Nat×Nat)}(ho:o.op= .load T x)(e1:opd P E.dt σ 0 x= .eptr l i sz path off)(hl:lk σ.hs l= .rowD T5 T2 c kk es hh)
  (h:F4 P n o σ T l i sz off T5 T2 c kk es hh k=some r):OpS P n o σ k r:=by
 unfold F4 at h;split at h;·exact ajQ ho e1 hl h
 ·exact acD ho e1 hl h
theorem acE{hs:List Ob}{Te T2 fo E2:TypeId}{c:Option Nat}{d':Dt}{m:Nat}(hu2:P.underlying T2=some (.slice E2))(hf:rM P Te c=some (T2,fo))(hm:ace c v=some m)(h:Ar P hs Te T2 c v=some d'):A9 P hs Te c fo v d' m:=by
 have hh:=lM hf;unfold ace at hm;split at hm
 ·cases hm;cases h;obtain⟨h1,h2⟩:=aqc (show (bif Nat.beq (P.cellsOf Te) 1 then some (Te,0)else none)=some (T2,fo)from hf);cases h2;exact D6 hu2 (beq_eq h1)
 ·split at hm
  ·rename_i m' hv;cases hm;simp only[Ar]at h;split at h
   ·    rename_i T3 e' hp;have hh_:=aC h;clear h;obtain⟨hc,h⟩:=hh_;have f1:=beq_eq (aF hc);have f2:=beq_eq (aB hc);subst f1 f2;cases h;exact UC hh hu2 hv hp
   ·cases h
  ·cases hm
 ·cases hm
theorem AP{m:Nat}:∀{ls:List Nat},∀l∈mF m ls,l∈ls
 |a::r,l,h=>by
  unfold mF at h;cases hb:Nat.beq a m with
  |true=>rw[hb]at h;exact aY _ (AP l h)
  |false=>
   rw[hb]at h;rcases List.mem_cons.1 h with h|h;·rw[h];exact bB
   ·exact aY _ (AP l h)
theorem DW{T2:TypeId}:∀{vs:List AV}{f:Nat},∀l∈AV.rwsL (vs.set f (.nils T2)),l∈AV.rwsL vs
 | [],_,_,h=>h
 |v::r,0,l,h=>by simp only[List.set_cons_zero,AV.rwsL,AV.rws,List.nil_append]at h;simp[AV.rwsL,h]
 |v::r,f+1,l,h=>by simp only[List.set_cons_succ,AV.rwsL,List.mem_append]at h;simp only[AV.rwsL,List.mem_append];exact h.imp id (DW l)
theorem Ug{hs hs':List Ob}{Te T2:TypeId}{c:Option Nat}(h:∀l∈v.rws,lk hs' l=lk hs l):Ar P hs' Te T2 c v=Ar P hs Te T2 c v:=by
 cases c with
 |none=>rfl
 |some f=>
  cases v with
  |agg T' vs=>
   simp only[Ar];rw[jf (hs:=hs) (hs':=hs') (.agg Te (vs.set f (.nils T2))) fun l hl=>h l (DW l hl)]
  |_=>rfl
theorem acF{l i sz off kk:Nat}{path:List Nat}{T5 T2:TypeId}{c:Option Nat}{es:List Dt}{hh:Option (Nat×Nat)}(ho:o.op= .store T x y)(hz:szB P T (opd P E.dt σ T y)=true)(h0:P.cellsOf T≠0)(e1:opd P E.dt σ 0 x= .eptr l i sz path off)(hl:lk σ.hs l= .rowD T5 T2 c kk es hh)
  (h:Au P o σ T l i sz path off T5 T2 c kk es hh (opd P E.dt σ T y) k=some r):OpS P n o σ k r:=by
 have hx:x∈o.op.operands.toList:=by rw[ho];simp[Op.operands]
 have hy:y∈o.op.operands.toList:=by rw[ho];simp[Op.operands]
 obtain⟨q1,q2,q3,q4,q5⟩:=dD hz;unfold Au at h;split at h
 ·rename_i Te m h1 hm;split at h
  ·rename_i T3 fo E2 d' hf h2 h3;have hh_:=aC h;clear h;obtain⟨hc,h⟩:=hh_;have f1:=beq_eq (aF hc);have f2:=beq_eq (aF (aB hc));have f3:=beq_eq (aF (aB (aB hc)));have f4:=beq_eq (aF (aB (aB (aB hc))));have hnm:l∉mF m (opd P E.dt σ T y).rws:=lI (by simpa using aB (aB (aB (aB hc))));subst f1 f2 f3 f4;have hh_:=aj.1 h;clear h;obtain⟨e,he,h⟩:=hh_;obtain⟨hd,hk⟩:=gX h;refine⟨_,hk,fun σ' ag=>?_⟩;rw[hd];have hagr:∀l∈(opd P E.dt σ Te y).rws,lk σ'.hs l=lk σ.hs l:=fun l hl=>ag.hs l (by simp[hl]);have hfw:frzW σ'.hs (mF m (opd P E.dt σ Te y).rws)=frzW σ.hs (mF m (opd P E.dt σ Te y).rws):=dL fun l hl=>hagr l (AP l hl);have hev:∀{z:Operand}{u:AV}{T0:TypeId},z∈o.op.operands.toList->opd P E.dt σ T0 z=u->Ev P (St.mk σ'.ts (wrO σ'.hs (frzW σ'.hs (mF m (opd P E.dt σ Te y).rws))) σ'.k0) z u:=by
        rintro z u T0 hz rfl;have e3:opd P E.dt (St.mk σ'.ts (wrO σ'.hs (frzW σ'.hs (mF m (opd P E.dt σ Te y).rws))) σ'.k0) T0 z=opd P E.dt σ T0 z:=by rw[←gT ag.ts hz];cases z<;>rfl
        rw[←e3];exact gK
   have key:=UA (σ:=St.mk σ'.ts (wrO σ'.hs (frzW σ'.hs (mF m (opd P E.dt σ Te y).rws))) σ'.k0) (n:=n) (i:=i) ho hd h0 (hev hx e1) (hev hy rfl) q1 q2 q5
        (by show lk (wrO σ'.hs _) l=_;rw[fu hnm,ag.hs l (by simp)];exact hl) (bF h1) (au.1 he).1 (lM hf) (fun _ _ e=>by cases e)
        (acE (bF h2) hf hm (by show Ar P (wrO σ'.hs _) Te _ c _=some d';rw[←h3,hfw];exact Ug fun l hl=>eG hagr l hl))
   have:=key.pre (Imp.frzW (σ:=σ') (mF m (opd P E.dt σ Te y).rws));have hfin:St.mk (TP σ'.ts none none) (wrO σ'.hs (frzW σ.hs (mF m (opd P E.dt σ Te y).rws)++[(l,.rowD T5 T3 c kk (es.set i d') (some (i,m)))])) σ'.k0=(St.mk σ'.ts (wrO σ'.hs (frzW σ'.hs (mF m (opd P E.dt σ Te y).rws))) σ'.k0).lay l (.rowD T5 T3 c kk (es.set i d') (some (i,m))):=by rw[fH,hfw];rfl
   rw[←hfin]at this;exact this
  ·cases h
 ·cases h
theorem AQ{S Te:TypeId}{c:AV}{d:Dt}(h:arB P S c=some (Te,d)):∃len,P.underlying S=some (.array len Te)∧c= .dat S d∧P.cellsOf S=len*P.cellsOf Te∧P.cellsOf Te≠0:=by
 unfold arB at h;split at h
 ·rename_i len Te' hu;split at h
  ·obtain⟨h1,h2⟩:=aC h;cases h2;have e:=beq_eq (aF h1);subst e;exact⟨len,hu,rfl,beq_eq (aF (aB h1)),kE (aB (aB h1))⟩
  ·cases h
 ·cases h
theorem Uh{l i sz off S:Nat}{path:List Nat}{c:AV}(ho:o.op= .load T x)(e1:opd P E.dt σ 0 x= .eptr l i sz path off)(hl:lk σ.hs l= .box S c)(h:uD P n o T l i sz path off S c k=some r):OpS P n o σ k r:=by
 have hx:x∈o.op.operands.toList:=by rw[ho];simp[Op.operands]
 unfold uD at h;split at h
 ·rename_i Te d hb;obtain⟨len,hu,rfl,hm,h0⟩:=AQ hb;have hh_:=aC h;clear h;obtain⟨hc,h⟩:=hh_;have e:=beq_eq (aF hc);subst e;have e2:=beq_eq (aF (aB hc));subst e2;have e3:=beq_eq (aF (aB (aB hc)));subst e3;obtain⟨q1,q2,⟨D,hD⟩,q4,q5⟩:=dD (aB (aB (aB hc)));have hh_:=aj.1 h;clear h;obtain⟨e0,he0,h⟩:=hh_;refine bn h fun σ' ha d' hd hn=>?_;have hl':lk σ'.hs l= .box S (.dat S d):=by rw[ha.hs l (by simp)];exact hl
  have:=(bf ha hx e1).arr (p':=[i]) hl';rw[Nat.add_zero]at this;exact(vk ho hd hn hD (fun hf=>q4 hf) this hl' (.arr hu hm he0) rfl (by simp)).can
 ·cases h
theorem NG{l i sz off S:Nat}{path:List Nat}{c:AV}(ho:o.op= .store T x y)(hz:szB P T (opd P E.dt σ T y)=true)(h0:P.cellsOf T≠0)(e1:opd P E.dt σ 0 x= .eptr l i sz path off)(hl:lk σ.hs l= .box S c)
  (h:pz P o T l i sz path off S c (opd P E.dt σ T y) k=some r):OpS P n o σ k r:=by
 have hx:x∈o.op.operands.toList:=by rw[ho];simp[Op.operands]
 have hy:y∈o.op.operands.toList:=by rw[ho];simp[Op.operands]
 obtain⟨q1,q2,q3,q4,q5⟩:=dD hz;unfold pz at h;split at h
 ·rename_i Te d T' x' hb e4;obtain⟨len,hu,rfl,hm,_⟩:=AQ hb;have hh_:=aC h;clear h;obtain⟨hc,h⟩:=hh_;have e:=beq_eq (aF hc);subst e;have e5:=beq_eq (aF (aB hc));subst e5;have e2:=beq_eq (aF (aB (aB hc)));subst e2;have e3:=beq_eq (aB (aB (aB hc)));subst e3;have hh_:=aj.1 h;clear h;obtain⟨e0,he0,h⟩:=hh_;obtain⟨hd,hk⟩:=gX h;refine⟨_,hk,fun σ' ha=>?_⟩;have hl':lk σ'.hs l= .box S (.dat S d):=by rw[ha.hs l (by simp)];exact hl
  have hp:=(bf ha hx e1).arr (p':=[i]) hl';rw[Nat.add_zero]at hp;have:=qg (n:=n) ho hd h0 hp (fE ha hy) q1 q2 q5 hl' (.arr hu hm (au.1 he0).1 e4);rw[hd];exact this
 ·cases h
theorem ap3(ho:o.op= .load T x)(h:Nv P E n o σ T x k=some r):OpS P n o σ k r:=by
 have hx:x∈o.op.operands.toList:=by rw[ho];simp[Op.operands]
 unfold Nv at h;split at h
 ·rename_i T' d0 e1;have hh_:=aC h;clear h;obtain⟨hc,h⟩:=hh_;have e:=beq_eq (aF hc);subst e;obtain⟨q1,q2,⟨D,hD⟩,q4,q5⟩:=dD (aB hc);exact bn h fun σ' ha d hd hn=>(Fh ho hd hn hD (fun hf=>q4 hf) (bf ha hx e1)).can
 ·rename_i l path off e1;split at h
  ·rename_i S c hl;split at h
   ·    rename_i T' q v hg;have hh_:=aC h;clear h;obtain⟨hc,h⟩:=hh_;have e:=beq_eq (aF hc);subst e;have e2:=beq_eq (aF (aB hc));subst e2;obtain⟨q1,q2,⟨D,hD⟩,q4,q5⟩:=dD (aF (aB (aB hc)));have hag:v.isAgg P=bO P T':=by simpa using aB (aB (aB hc))
        refine bn h fun σ' ha d hd hn=>?_;have key:=vk ho hd hn hD (fun hf=>q4 (by rw[hag];exact hf)) (bf ha hx e1) (by rw[ha.hs l (by simp)];exact hl) (gD hg) hag q2;cases v<;>first|exact key|exact key.can
   ·cases h
  ·cases h
 ·rename_i l i sz path off e1;split at h
  ·rename_i T5 es hl;split at h
   ·    rename_i Te hTe;have hh_:=aj.1 h;clear h;obtain⟨e0,he0,h⟩:=hh_;split at h
        ·rename_i T' q v hg;have hh_:=aC h;clear h;obtain⟨hc,h⟩:=hh_;have e:=beq_eq (aF hc);subst e;have e2:=beq_eq (aF (aB hc));subst e2;have e3:=beq_eq (aF (aB (aB hc)));subst e3;obtain⟨q1,q2,⟨D,hD⟩,q4,q5⟩:=dD (aF (aB (aB (aB hc))));have hag:v.isAgg P=bO P T':=by simpa using aB (aB (aB (aB hc)))
         refine bn h fun σ' ha d hd hn=>?_;have key:=Fq ho hd hn hD (fun hf=>q4 (by rw[hag];exact hf)) (bf ha hx e1) (by rw[ha.hs l (by simp)];exact hl) (bF hTe) he0 (gD hg) hag q2;cases v<;>first|exact key|exact key.can
        ·cases h
   ·cases h
  ·rename_i T5 vs hl;split at h
   ·    rename_i Te hTe;have hh_:=aj.1 h;clear h;obtain⟨e0,he0,h⟩:=hh_;split at h
        ·rename_i T' q v hg;have hh_:=aC h;clear h;obtain⟨hc,h⟩:=hh_;have e:=beq_eq (aF hc);subst e;have e2:=beq_eq (aF (aB hc));subst e2;have e3:=beq_eq (aF (aB (aB hc)));subst e3;obtain⟨q1,q2,⟨D,hD⟩,q4,q5⟩:=dD (aF (aB (aB (aB hc))));have hag:v.isAgg P=bO P T':=by simpa using aB (aB (aB (aB hc)))
         refine bn h fun σ' ha d hd hn=>?_;have key:=BK ho hd hn hD (fun hf=>q4 (by rw[hag];exact hf)) (bf ha hx e1) (by rw[ha.hs l (by simp)];exact hl) (bF hTe) he0 (gD hg) hag q2;cases v<;>first|exact key|exact key.can
        ·cases h
   ·cases h
  ·rename_i hl;exact ajR ho e1 hl h
  ·rename_i S c hl;exact Uh ho e1 hl h
  ·cases h
 ·cases h
theorem ajS(ho:o.op= .store T x y)(h:F5 P E o σ T x y k=some r):OpS P n o σ k r:=by
 have hx:x∈o.op.operands.toList:=by rw[ho];simp[Op.operands]
 have hy:y∈o.op.operands.toList:=by rw[ho];simp[Op.operands]
 unfold F5 at h;have hh_:=aC h;clear h;obtain⟨hc0,h⟩:=hh_;obtain⟨q1,q2,q3,q4,q5⟩:=dD (aF hc0);have h0:=kE (aB hc0);split at h
 ·rename_i l path off e1;split at h
  ·rename_i S c hl;split at h
   ·    rename_i q c' hs;have hh_:=aC h;clear h;obtain⟨hc,h⟩:=hh_;have e:=beq_eq hc;subst e;obtain⟨hd,hk⟩:=gX h;refine⟨_,hk,fun σ' ha=>?_⟩;have:=qg (n:=n) ho hd h0 (bf ha hx e1) (fE ha hy) q1 q2 q5 (by rw[ha.hs l (by simp)];exact hl) (iT hs);rw[hd];exact this
   ·cases h
  ·cases h
 ·rename_i l i sz path off e1;split at h
  ·rename_i T5 es hl;split at h
   ·    rename_i Te hTe;have hh_:=aj.1 h;clear h;obtain⟨e0,he0,h⟩:=hh_;split at h
        ·rename_i q c' hs;split at h
         ·rename_i Te' e' hpk;have hh_:=aC h;clear h;obtain⟨hc,h⟩:=hh_;have e:=beq_eq (aF hc);subst e;have e2:=beq_eq (aF (aB hc));subst e2;have hcmp:=aF (aB (aB hc));have hnm:l∉(opd P E.dt σ T y).rws:=lI (by simpa using aB (aB (aB hc)));obtain⟨hd,hk⟩:=gX h;refine⟨_,hk,fun σ' ha=>?_⟩;have hagr:∀l∈(opd P E.dt σ T y).rws,lk σ'.hs l=lk σ.hs l:=fun l hl=>ha.hs l (by simp[hl]);rw[hd];have key:bC P n o ⟨σ'.ts,wrO σ'.hs (frzW σ'.hs (opd P E.dt σ T y).rws),σ'.k0⟩ ((St.mk σ'.ts (wrO σ'.hs (frzW σ'.hs (opd P E.dt σ T y).rws)) σ'.k0).lay l (.row T5 (es.set i e'))):=by
           have hev:∀{z:Operand}{u:AV},Ev P σ' z u->z∈o.op.operands.toList->(∃T0,u=opd P E.dt σ T0 z)->Ev P (St.mk σ'.ts (wrO σ'.hs (frzW σ'.hs (opd P E.dt σ T y).rws)) σ'.k0) z u:=by
            rintro z u _ hz ⟨T0,rfl⟩;have e3:opd P E.dt (St.mk σ'.ts (wrO σ'.hs (frzW σ'.hs (opd P E.dt σ T y).rws)) σ'.k0) T0 z=opd P E.dt σ T0 z:=by rw[←gT ha.ts hz];cases z<;>rfl
            rw[←e3];exact gK
           refine Bp (n:=n) ho hd h0 (hev (bf ha hx e1) hx ⟨_,e1.symm⟩) (hev (fE ha hy) hy ⟨_,rfl⟩) q1 q2 q5 ?_ (bF hTe) he0 (iT hs) ?_
           ·show lk (wrO σ'.hs _) l=_;rw[fu hnm,ha.hs l (by simp)];exact hl
           ·intro ok0 w0 a w Z rb cs hra;refine RD.compat (dB rb.frzOK hra ?_) hcmp;show pk P (wrO σ'.hs (frzW σ'.hs (opd P E.dt σ T y).rws)) c'=_;rw[←hpk];refine jf c' fun l2 hl2=>?_;have hsub:∀l2∈c'.rws,l2∈(opd P E.dt σ T y).rws:=setAt_rws hs (by intro l3 h3;simp[AV.rws]at h3);rw[dL hagr];exact eG hagr l2 (hsub l2 hl2)
          have hfin:St.mk (TP σ'.ts none none) (wrO σ'.hs (frzW σ.hs (opd P E.dt σ T y).rws++[(l,.row T5 (es.set i e'))])) σ'.k0=(St.mk σ'.ts (wrO σ'.hs (frzW σ'.hs (opd P E.dt σ T y).rws)) σ'.k0).lay l (.row T5 (es.set i e')):=by rw[fH,dL hagr];rfl
          have:=key.pre (Imp.frzW (σ:=σ') (opd P E.dt σ T y).rws);rw[←hfin]at this;exact this
         ·cases h
        ·cases h
   ·cases h
  ·rename_i T5 vs hl;split at h
   ·    rename_i Te hTe;have hh_:=aj.1 h;clear h;obtain⟨e0,he0,h⟩:=hh_;split at h
        ·rename_i q c' hs;have hh_:=aC h;clear h;obtain⟨hc,h⟩:=hh_;have e:=beq_eq (aF hc);subst e;have e2:=beq_eq (aB hc);subst e2;obtain⟨hd,hk⟩:=gX h;refine⟨_,hk,fun σ' ha=>?_⟩;have:=A8 (n:=n) ho hd h0 (bf ha hx e1) (fE ha hy) q1 q2 q5 (by rw[ha.hs l (by simp)];exact hl) (bF hTe) he0 (iT hs);rw[hd];exact this
        ·cases h
   ·cases h
  ·rename_i hl;exact acF ho (aF hc0) h0 e1 hl h
  ·rename_i S c hl;exact NG ho (aF hc0) h0 e1 hl h
  ·cases h
 ·cases h
where setAt_rws {T':TypeId} {v:AV}:∀{path:List Nat}{S:TypeId}{c:AV}{q:Nat}{c':AV},setAt P T' v S c path=some (q,c')->(∀l∈c.rws,l∈v.rws)->∀l∈c'.rws,l∈v.rws
 | [],S,c,q,c',h,_=>by
   have h':(bif Nat.beq S T' then some (0,v)else none)=some (q,c'):=by simpa [setAt]using h
   obtain⟨_,h2⟩:=aC h';cases h2;exact fun l hl=>hl
 | i  ::p,S,c,    q,c',h,hc=>by
   unfold setAt at h;split at h
   ·  rename_i fs hfs;split at h
      ·rename_i f hf;split at h
       ·rename_i vs hvs;split at h
        · rename_i old hold;obtain⟨h1,h2⟩:=aC h;split at h2
          ·rename_i q' new hg;cases h2;have hvsr:∀l∈AV.rwsL vs,l∈v.rws:=by
                split at hvs
                · obtain⟨e1,e2⟩:=aC hvs;cases e2;exact hc
                · obtain⟨e1,e2⟩:=aC hvs;cases e2;intro l hl;exfalso;have:∀(fs:List Field)(j:Nat)(d:Dt),AV.rwsL (mK P fs j d)=[]:=by
                   intro fs;induction fs with
                   |nil=>intro j d;rfl
                   |cons f r ih=>intro j d;simp[mK,AV.rwsL,AV.rws,ih]
                  rw[show expl P fs _=mK P fs.toList 0 _ from rfl,this]at hl;simp at hl
                ·cases hvs
           have hnew:=setAt_rws hg fun l hl=>hvsr l (Jw (aK hold) hl);intro l hl;have hset:∀(us:List AV)(j:Nat),(∀l∈AV.rwsL us,l∈v.rws)->∀l∈AV.rwsL (us.set j new),l∈v.rws:=by
                intro us;induction us with
                |nil=>intro j hu l hl;simp[AV.rwsL]at hl
                | cons u r ih=>
                  intro j hu l hl;cases j with
                  |zero=>
                   simp only[List.set_cons_zero,AV.rwsL,List.mem_append]at hl;rcases hl with hl|hl;·exact hnew l hl
                   ·exact hu l (by simp[AV.rwsL,hl])
                  |succ j=>
                   simp only[List.set_cons_succ,AV.rwsL,List.mem_append]at hl;rcases hl with hl|hl;·exact hu l (by simp[AV.rwsL,hl])
                   ·exact ih j (fun l hl=>hu l (by simp[AV.rwsL,hl])) l hl
           exact hset vs i hvsr l hl
          ·cases h2
        ·cases h
       ·cases h
      ·cases h
   ·cases h
end
section
variable{P:Program}{n:Nat}{o:Oper}{σ G:St}{x y:Operand}{v:AV}{T:TypeId}{R:Type}{E:Env}{k:Dl->Option R}{r:R}
theorem eu{d:Nat}(ho:o.op= .nilCheck x)(hd:o.dst=some d)(hn:d<n)(hx:Ev P σ x v)
  (hv:∀(ok:Nat->Prop)(w:World)(Z:Nat->Option Value)(z:Value),RV P ok w Z v z->(∃ad,z= .pointer (some ad))∨∃f a b,z= .func (.func f) a b):bC P n o σ (σ.put d v):=
 aZ hd hn fun ok0 w0 a w Z r=>by
  have h:=hx _ _ _ _ _ _ r;rcases hv _ _ _ _ h with⟨ad,e⟩| ⟨f,a1,b1,e⟩;·exact⟨_,by simp[execOp,ho,e],e▸h⟩
  ·exact⟨_,by simp[execOp,ho,e],e▸h⟩
theorem vX{d f:Nat}{T:TypeId}{name:String}(ho:o.op= .nilCheck x)(hd:o.dst=some d)(hn:d<n)(hx:Ev P σ x (.mth T name))(hm:vM P T name=some f):bC P n o σ (σ.put d (.mth T name)):=
 aZ hd hn fun ok0 w0 a w Z r=>by
  have h:=hx _ _ _ _ _ _ r;have h2:=h.2 rfl;generalize hz:a.eval x=z at h h2;cases h2 with
  | @mth _ _ z cv=>
    refine⟨_,?_,h⟩;have hk:∀j:Nat,(nilAhead (j+Made.depth) T z name).run P w= .ok (some false) w:=fun j=>Gh hm (j+99) z w;have hp:(program).run P w= .ok P w:=rfl;unfold execOp;simp only[ho,hz,List.getElem?_toArray,aN,Sem.run_bind,hp,Result.andThen_ok,hk];rfl
theorem NH(ho:o.op= .nilCheck x)(h:pE P E n o σ x k=some r):OpS P n o σ k r:=by
 have hx:x∈o.op.operands.toList:=by rw[ho];simp[Op.operands]
 unfold pE at h;split at h
 ·rename_i T d0 e1;exact bn h fun σ' ha d hd hn=>eu ho hd hn (bf ha hx e1) fun ok w Z z hz=>by
   have:=hz.2 rfl;cases this with
   |rptr=>exact .inl ⟨_,rfl⟩
 ·rename_i l p q e1;exact bn h fun σ' ha d hd hn=>eu ho hd hn (bf ha hx e1) fun ok w Z z hz=>by
   have:=hz.2 rfl;cases this with
   |ptr=>exact .inl ⟨_,rfl⟩
 ·rename_i l i z p q e1;exact bn h fun σ' ha d hd hn=>eu ho hd hn (bf ha hx e1) fun ok w Z z hz=>by
   have:=hz.2 rfl;cases this with
   |eptr=>exact .inl ⟨_,rfl⟩
   |eptrB=>exact .inl ⟨_,rfl⟩
 ·rename_i f c e1;exact bn h fun σ' ha d hd hn=>eu ho hd hn (bf ha hx e1) fun ok w Z z hz=>by
   have:=hz.2 rfl;cases this with
   |fn=>exact .inr ⟨_,_,_,rfl⟩
 ·rename_i T name e1;split at h
  ·rename_i f hm;exact bn h fun σ' ha d hd hn=>vX ho hd hn (bf ha hx e1) hm
  ·cases h
 ·rename_i T d0 e1;split at h
  ·rename_i T2 hT2;have hh_:=aj.1 h;clear h;obtain⟨e0,he0,h⟩:=hh_;exact bn h fun σ' ha d hd hn=>eu ho hd hn ((bf ha hx e1).pd (lK hT2) he0) fun ok w Z z hz=>by
        have:=hz.2 rfl;cases this with
        |rptr=>exact .inl ⟨_,rfl⟩
  ·cases h
 ·cases h
theorem atO{op:BinOp}{T T' Tx Ty:TypeId}{q:IntKind}{a b:Int}(ho:o.op= .binOp op T x y T')(hux:P.underlying Tx=some (.int q))(huy:P.underlying Ty=some (.int q))
  (hx:∀σ',Agr o σ σ' []->Ev P σ' x (.dat Tx (.int a)))(hy:∀σ',Agr o σ σ' []->Ev P σ' y (.dat Ty (.int b)))(h:ab3 P E n o op Tx q a b k=some r):OpS P n o σ k r:=by
 unfold ab3 at h;simp only at h;cases op with
 |add=>exact bn h fun σ' ha d hd hn=>aoA ho hd hn hux huy (hx σ' ha) (hy σ' ha)
 |sub=>exact bn h fun σ' ha d hd hn=>aoB ho hd hn hux huy (hx σ' ha) (hy σ' ha)
 |mul=>exact bn h fun σ' ha d hd hn=>aoC ho hd hn hux huy (hx σ' ha) (hy σ' ha)
 |quo=>
  simp only at h;by_cases hb:b=0;·simp[hb]at h
  ·simp only[hb,decide_false,cond_false]at h;exact bn h fun σ' ha d hd hn=>aoD ho hd hn hux huy (hx σ' ha) (hy σ' ha) hb
 |rem=>
  simp only at h;by_cases hb:b=0;·simp[hb]at h
  ·simp only[hb,decide_false,cond_false]at h;exact bn h fun σ' ha d hd hn=>aoE ho hd hn hux huy (hx σ' ha) (hy σ' ha) hb
 |and=>exact bn h fun σ' ha d hd hn=>aoF ho hd hn hux huy (hx σ' ha) (hy σ' ha)
 |or=>exact bn h fun σ' ha d hd hn=>arD ho hd hn hux huy (hx σ' ha) (hy σ' ha)
 |xor=>exact bn h fun σ' ha d hd hn=>aoG ho hd hn hux huy (hx σ' ha) (hy σ' ha)
 |andNot=>exact bn h fun σ' ha d hd hn=>aoH ho hd hn hux huy (hx σ' ha) (hy σ' ha)
 |lss=>
  simp only at h;split at h;·rename_i TB hTB;exact bn h fun σ' ha d hd hn=>aoI ho hd hn (dx hTB) hux huy (hx σ' ha) (hy σ' ha)
  ·cases h
 |leq=>
  simp only at h;split at h;·rename_i TB hTB;exact bn h fun σ' ha d hd hn=>aoJ ho hd hn (dx hTB) hux huy (hx σ' ha) (hy σ' ha)
  ·cases h
 |gtr=>
  simp only at h;split at h;·rename_i TB hTB;exact bn h fun σ' ha d hd hn=>aoK ho hd hn (dx hTB) hux huy (hx σ' ha) (hy σ' ha)
  ·cases h
 |geq=>
  simp only at h;split at h;·rename_i TB hTB;exact bn h fun σ' ha d hd hn=>aoL ho hd hn (dx hTB) hux huy (hx σ' ha) (hy σ' ha)
  ·cases h
 |eql=>
  simp only at h;split at h;·rename_i TB hTB;exact bn h fun σ' ha d hd hn=>aoM ho hd hn (dx hTB) hux huy (hx σ' ha) (hy σ' ha)
  ·cases h
 |neq=>
  simp only at h;split at h;·rename_i TB hTB;exact bn h fun σ' ha d hd hn=>aoN ho hd hn (dx hTB) hux huy (hx σ' ha) (hy σ' ha)
  ·cases h
 |_=>cases h
theorem atP{op:BinOp}{T T' Tx Ty:TypeId}{a b:ByteArray}(ho:o.op= .binOp op T x y T')(hux:P.underlying Tx=some .string)(huy:P.underlying Ty=some .string)
  (hx:∀σ',Agr o σ σ' []->Ev P σ' x (.dat Tx (.str a)))(hy:∀σ',Agr o σ σ' []->Ev P σ' y (.dat Ty (.str b)))(h:ab4 P E n o op Tx a b k=some r):OpS P n o σ k r:=by
 unfold ab4 at h;simp only at h;cases op with
 |add=>
  simp only at h;have hh_:=aC h;clear h;obtain⟨hs,h⟩:=hh_;exact bn h fun σ' ha d hd hn=>aoR ho hd hn hux huy (hx σ' ha) (hy σ' ha) (by have:=ak hs;unfold maxLen;omega)
 |lss=>
  simp only at h;split at h;·rename_i TB hTB;exact bn h fun σ' ha d hd hn=>aoQ ho hd hn (dx hTB) hux huy (hx σ' ha) (hy σ' ha)
  ·cases h
 |eql=>
  simp only at h;split at h;·rename_i TB hTB;exact bn h fun σ' ha d hd hn=>aoO ho hd hn (dx hTB) hux huy (hx σ' ha) (hy σ' ha)
  ·cases h
 |neq=>
  simp only at h;split at h;·rename_i TB hTB;exact bn h fun σ' ha d hd hn=>aoP ho hd hn (dx hTB) hux huy (hx σ' ha) (hy σ' ha)
  ·cases h
 |_=>cases h
theorem ap4{op:BinOp}{T T' Tx Ty:TypeId}{a b:Bool}(ho:o.op= .binOp op T x y T')(hu:P.underlying T=some .bool)(hux:P.underlying Tx=some .bool)(huy:P.underlying Ty=some .bool)
  (hx:∀σ',Agr o σ σ' []->Ev P σ' x (.dat Tx (.bool a)))(hy:∀σ',Agr o σ σ' []->Ev P σ' y (.dat Ty (.bool b)))(h:Nr P E n o op a b k=some r):OpS P n o σ k r:=by
 unfold Nr at h;simp only at h;cases op with
 |eql=>
  simp only at h;split at h;·rename_i TB hTB;exact bn h fun σ' ha d hd hn=>aoS ho hd hn (dx hTB) hu hux huy (hx σ' ha) (hy σ' ha)
  ·cases h
 |neq=>
  simp only at h;split at h;·rename_i TB hTB;exact bn h fun σ' ha d hd hn=>aoT ho hd hn (dx hTB) hu hux huy (hx σ' ha) (hy σ' ha)
  ·cases h
 |_=>cases h
theorem atQ{op:BinOp}{T T':TypeId}(ho:o.op= .binOp op T x y T')(h:acf P E n o op T (opd P E.dt σ T x) y k=some r):OpS P n o σ k r:=by
 have hx:x∈o.op.operands.toList:=by rw[ho];simp[Op.operands]
 unfold acf at h;split at h
 ·split  at h
  ·rename_i ms hu;split at h
   ·    rename_i e1;split at h
        ·rename_i TB hTB;split at h;·exact bn h fun σ' ha d hd hn=>Uw ho hd hn (dx hTB) hu (bf ha hx e1)
         ·exact bn h fun σ' ha d hd hn=>Ux ho hd hn (dx hTB) hu (bf ha hx e1)
         ·cases h
        ·cases h
   ·cases h
  ·cases h
 ·cases h
theorem avg{op:BinOp}{T T':TypeId}(ho:o.op= .binOp op T x y T')(h:apX P E n o σ op T x y k=some r):OpS P n o σ k r:=by
 have hx:x∈o.op.operands.toList:=by rw[ho];simp[Op.operands]
 unfold apX at h;split at h
 ·split  at h
  ·rename_i T2 hT2;split at h
   ·    rename_i T1 p e1;have hh_:=aC h;clear h;obtain⟨hc,h⟩:=hh_;rw[beq_eq hc]at e1;split at h
        ·rename_i TB hTB;split at h;·exact bn h fun σ' ha d hd hn=>Qq ho hd hn (dx hTB) (lK hT2) (bf ha hx e1) (.inl ⟨rfl,rfl⟩)
         ·exact bn h fun σ' ha d hd hn=>Qq ho hd hn (dx hTB) (lK hT2) (bf ha hx e1) (.inr ⟨rfl,rfl⟩)
         ·cases h
        ·cases h
   ·cases h
  ·cases h
 ·cases h
theorem avh{op:BinOp}{T T':TypeId}(ho:o.op= .binOp op T x y T')(h:apY P E n o σ op T x y T' k=some r):OpS P n o σ k r:=by
 have hx:x∈o.op.operands.toList:=by rw[ho];simp[Op.operands]
 have hy:y∈o.op.operands.toList:=by rw[ho];simp[Op.operands]
 unfold apY at h;split at h
 ·rename_i T2 q e2;split at h
  ·rename_i T1 p e1;cases hc:(acP P T&&(Nat.beq T1 T&&Nat.beq T2 T))with
   |    false=>
        rw[hc]at h;exact avg ho h
   |true=>
   rw[hc]at h;simp only[cond_true]at h;have u1:=beq_eq (aF (aB hc));have u2:=beq_eq (aB (aB hc));rw[u1]at e1;rw[u2]at e2;split at h
   ·    rename_i TB hTB;split at h;·exact bn h fun σ' ha d hd hn=>ams ho hd hn (dx hTB) (aF hc) (bf ha hx e1) (bf ha hy e2) (.inl ⟨rfl,rfl⟩)
        ·exact bn h fun σ' ha d hd hn=>ams ho hd hn (dx hTB) (aF hc) (bf ha hx e1) (bf ha hy e2) (.inr ⟨rfl,rfl⟩)
        ·cases h
   ·cases h
  ·cases h
 ·exact atQ ho h
theorem atS{op:BinOp}{T T':TypeId}(ho:o.op= .binOp op T x y T')(h:acg P E n o σ op T x y T' k=some r):OpS P n o σ k r:=by
 have hx:x∈o.op.operands.toList:=by rw[ho];simp[Op.operands]
 have hy:y∈o.op.operands.toList:=by rw[ho];simp[Op.operands]
 unfold acg at h;split at h
 ·rename_i Tx q a ha;obtain⟨d1,e1,u1,rfl⟩:=dP ha;split at h
  ·rename_i Ty q' b hb;obtain⟨d2,e2,u2,rfl⟩:=dP hb;split at h
   ·    obtain⟨hq,h⟩:=aC h;exact bn h fun σ' ag d hd hn=>alp ho hd hn u1 u2 ((bf ag hx e1).cint u1) ((bf ag hy e2).cint u2) (of_decide_eq_true hq) (.inl ⟨rfl,rfl⟩)
   ·    obtain⟨hq,h⟩:=aC h;exact bn h fun σ' ag d hd hn=>alp ho hd hn u1 u2 ((bf ag hx e1).cint u1) ((bf ag hy e2).cint u2) (of_decide_eq_true hq) (.inr ⟨rfl,rfl⟩)
   ·    have hh_:=aC h;clear h;obtain⟨hq,h⟩:=hh_;have hq':q=q':=by simpa using hq
        subst hq';exact atO ho u1 u2 (fun σ' ag=>(bf ag hx e1).cint u1) (fun σ' ag=>(bf ag hy e2).cint u2) h
  ·cases h
 ·split  at h
  ·rename_i Tx a ha;obtain⟨d1,e1,u1,rfl⟩:=eF ha;split at h
   ·    rename_i Ty b hb;obtain⟨d2,e2,u2,rfl⟩:=eF hb;exact atP ho u1 u2 (fun σ' ag=>(bf ag hx e1).cstr u1) (fun σ' ag=>(bf ag hy e2).cstr u2) h
   ·cases h
  ·split at h
   ·    rename_i a ha;obtain⟨Tx,d1,e1,u1,rfl⟩:=gW ha;split at h
        ·rename_i b hb;obtain⟨Ty,d2,e2,u2,rfl⟩:=gW hb;have hh_:=aC h;clear h;obtain⟨hq,h⟩:=hh_;exact ap4 ho (Ju hq) u1 u2 (fun σ' ag=>(bf ag hx e1).cbool u1) (fun σ' ag=>(bf ag hy e2).cbool u2) h
        ·cases h
   ·exact avh ho h
theorem atT{T0:TypeId}(ho:o.op= .unOp .not T0 x)(h:ach P E n o σ x k=some r):OpS P n o σ k r:=by
 have hx:x∈o.op.operands.toList:=by rw[ho];simp[Op.operands]
 unfold ach at h;split at h
 ·rename_i b hb;obtain⟨Tx,d1,e1,u1,rfl⟩:=gW hb;split at h
  ·rename_i TB hTB;refine bn h fun σ' ha d hd hn=>?_;have key:=aoz ho hd hn u1 ((bf ha hx e1).cbool u1);exact key.weak fun ok w Z z hz=>by have:=(RV.bool u1 hz).2;rw[this];exact RV.mk_bool (dx hTB)
  ·cases h
 ·cases h
theorem atU(ho:o.op= .unOp .neg T x)(h:aci P E n o σ T x k=some r):OpS P n o σ k r:=by
 have hx:x∈o.op.operands.toList:=by rw[ho];simp[Op.operands]
 unfold aci at h;split at h
 ·rename_i Tx q a ha;obtain⟨d1,e1,u1,rfl⟩:=dP ha;exact bn h fun σ' ha d hd hn=>aoU ho hd hn u1 ((bf ha hx e1).cint u1)
 ·cases h
theorem ajT(ho:o.op= .unOp .xor T x)(h:F6 P E n o σ T x k=some r):OpS P n o σ k r:=by
 have hx:x∈o.op.operands.toList:=by rw[ho];simp[Op.operands]
 unfold F6 at h;split at h
 ·rename_i Tx q a ha;obtain⟨d1,e1,u1,rfl⟩:=dP ha;exact bn h fun σ' ha d hd hn=>Yj ho hd hn u1 ((bf ha hx e1).cint u1)
 ·cases h
theorem Ui{S1 S2:TypeId}(ho:o.op= .convert S1 S2 x)(h:uF P E n o σ S1 S2 x k=some r):OpS P n o σ k r:=by
 have hx:x∈o.op.operands.toList:=by rw[ho];simp[Op.operands]
 unfold uF at h;split at h
 ·rename_i Tx q a ha;obtain⟨d1,e1,u1,rfl⟩:=dP ha;split at h
  ·rename_i q2 hu2;have hh_:=aC h;clear h;obtain⟨hq,h⟩:=hh_;exact bn h fun σ' ha d hd hn=>Hl ho hd hn (eX hq) hu2 u1 ((bf ha hx e1).cint u1)
  ·cases h
 ·split at h
  ·rename_i Tx a ha;obtain⟨d1,e1,u1,rfl⟩:=eF ha;have hh_:=aC h;clear h;obtain⟨hq,h⟩:=hh_;exact bn h fun σ' ha d hd hn=>Ho ho hd hn (gB (aF hq)) (gB (aB hq)) u1 ((bf ha hx e1).cstr u1)
  ·cases h
theorem ap5(ho:o.op= .makeSlice T x y)(h:Nw P E n o σ T x y k=some r):OpS P n o σ k r:=by
 unfold Nw at h;split at h
 ·rename_i Te hTe;split at h
  ·rename_i z hz;split at h
   ·    rename_i a ha;split at h
        ·rename_i b hb;have hh_:=aC h;clear h;obtain⟨hc,h⟩:=hh_;have hh_:=dI h;clear h;obtain⟨hk0,h⟩:=hh_;obtain⟨es,p1,p2,p3,p4,p5,h⟩:=Yo h;subst p4;refine Qj h fun σ' ag d hd hn=>?_;have e1:MX P σ' (some x) a:=gU (E:=E) (by rw[dQ ag.ts (by intro z hz;cases hz;rw[ho];simp[Op.operands])];exact ha);have e2:MX P σ' (some y) b:=gU (E:=E) (by rw[dQ ag.ts (by intro z hz;cases hz;rw[ho];simp[Op.operands])];exact hb);obtain⟨TI,k1,u1,v1⟩:=e1;obtain⟨TJ,k2,u2,v2⟩:=e2;exact aiL ho hd hn (bF hTe) (by rw[ag.hs _ (by simp)];exact dJ σ) (by rw[ag.k0];exact hk0) (dK hz) (kE hc) p5 u1 u2 v1 v2 p1 p2 p3
        ·cases h
   ·cases h
  ·cases h
 ·cases h
theorem AR{σ':St}{hs:List Ob}{k0:Nat}{rd:List Nat}(ha:Agr o σ σ' rd){D:List TypeId}(hx:x∈o.op.operands.toList):Ev P (St.mk σ'.ts hs k0) x (opd P D σ T x):=by
 have e3:opd P D (St.mk σ'.ts hs k0) T x=opd P D σ T x:=by rw[←gT ha.ts hx];cases x<;>rfl
 rw[←e3];exact gK
theorem Agr.frz{σ':St}{ls:List Nat}{rd:List Nat}(ha:Agr o σ σ' rd)(h:∀l∈ls,l∈rd):frzW σ'.hs ls=frzW σ.hs ls:=dL fun l hl=>ha.hs l (h l hl)
theorem BG{d l:Nat}{T3 Te:TypeId}{lo hi:Option Operand}{i j:Int}{es:List Dt}(ho:o.op= .slice T x lo hi none)(hd:o.dst=some d)(hn:d<n)(hu:P.underlying T=some (.slice Te))(h0c:P.cellsOf Te≠0)
  (hx:Ev P σ x (.row l))(hl:lk σ.hs l= .row T3 es)(hlo:MX P σ lo i)(hhi:R9 P σ es.length hi j)(h0:0<=i)(hij:i<=j)(hj:j<=es.length):bC P n o σ (σ.put d .dead):=
 aZ hd hn fun ok0 w0 a w Z r=>by
  have e1:=cO (hx _ _ _ _ _ _ r);have hob:=r.hs l;rw[hl,e1]at hob;obtain⟨E',xs,_,hown,_⟩:=jQ hob;have hz:∃ao cap,a.eval x= .slice ao es.length cap∧es.length<=cap:=by
   rcases hown.2 with⟨h1,h2⟩| ⟨g,cap,cur,h1,_,_,h3,h4,_⟩;·exact⟨none,0,by rw[h1,h2],by rw[h2];exact aS _⟩
   ·exact⟨_,cap,h1,by omega⟩
  obtain⟨ao,cap,ex,hlc⟩:=hz;have hb:=jU (cap:=cap) r true hlo hhi h0 hij hj hlc;cases hinf:P.info? Te with
  |none=>simp[Program.cellsOf,hinf]at h0c
  |some inf=>
   have hs:inf.size=P.cellsOf Te:=by simp[Program.cellsOf,hinf]
   exact⟨.slice (if cap=i.toNat then ao else ao.map (·.add (i.toNat*P.cellsOf Te))) (j.toNat-i.toNat) (cap-i.toNat),by simp[execOp,ho,ex,Instr.sliceAt,Instr.slice,run_underlying hu,hb,sizeOf,typeInfo,hinf,hs],trivial⟩
theorem acG{lo hi:Option Operand}(ho:o.op= .slice T x lo hi none)(h:Av P E n o σ T x lo hi k=some r):OpS P n o σ k r:=by
 have hx:x∈o.op.operands.toList:=by rw[ho];simp[Op.operands]
 have hlo:∀z,lo=some z->z∈o.op.operands.toList:=by intro z hz;rw[ho,hz];simp[Op.operands]
 have hhi:∀z,hi=some z->z∈o.op.operands.toList:=by intro z hz;rw[ho,hz];simp[Op.operands]
 unfold Av at h;split at h
 ·rename_i l e1;split at h
  ·rename_i T3 es hl;split at h
   ·    rename_i a ha;split at h
        ·rename_i b hb;split at h
         ·rename_i Te hTe;have hh_:=aC h;clear h;obtain⟨hc,h⟩:=hh_;have hh_:=aj.1 h;clear h;obtain⟨rs,hrs,h⟩:=hh_;obtain⟨p1,p2,p3,p4⟩:=tq hrs;obtain⟨d,hd,hn,hk⟩:=dF h;refine⟨_,hk,fun σ' ag=>?_⟩;have key:=BG (σ:=σ') ho hd hn (bF hTe) (kE hc) (bf ag hx e1) (by rw[ag.hs l (by simp)];exact hl) (gU (E:=E) (by rw[dQ ag.ts hlo];exact ha)) (wz (E:=E) (by rw[dQ ag.ts hhi];exact hb)) p1 p2 p3;rw[hd];exact key
         ·cases h
        ·cases h
   ·cases h
  ·cases h
 ·cases h
theorem ap6{d l l':Nat}{T3 Te:TypeId}{hi:Option Operand}{j:Int}{es:List Dt}(ho:o.op= .slice T x none hi none)(hd:o.dst=some d)(hn:d<n)(hu:P.underlying T=some (.slice Te))(hu3:P.underlying T3=some (.slice Te))(h0c:P.cellsOf Te≠0)
  (hx:Ev P σ x (.row l))(hl:lk σ.hs l= .row T3 es)(hf:lk σ.hs l'= .free)(hk0:σ.k0<=l')(hhi:R9 P σ es.length hi j)(h0:0<=j)(hj:j<=es.length):bC P n o σ (((σ.lay l .gone).lay l' (.row T3 (es.take j.toNat))).put d (.row l')):=by
 rintro ok0 w0 a w ⟨Z,r⟩ K Q hK;have e1:=cO (hx _ _ _ _ _ _ r);have hob:=r.hs l;rw[hl,e1]at hob;obtain⟨E',xs,hu',hown,hone,hrd⟩:=jQ hob;obtain rfl:Te=E':=by rw[hu3]at hu';cases hu';rfl
 have hz:∃ao cap,a.eval x= .slice ao es.length cap∧es.length<=cap∧w.ownsRow 0 Te (P.cellsOf Te) (.slice ao j.toNat cap) j.toNat (xs.take (j.toNat*P.cellsOf Te)):=by
  have hlen:=hown.1;have hmul:j.toNat*P.cellsOf Te<=es.length*P.cellsOf Te:=aH _ (by omega);rcases hown.2 with⟨h1,h2⟩| ⟨g,cap,cur,h1,g2,hh,h3,h4,g5,g6⟩;·exact⟨none,0,by rw[h1,h2],by rw[h2];exact aS _,by rw[List.length_take];omega,.inl ⟨by rw[show j.toNat=0 by omega],by omega⟩⟩
  ·refine⟨_,cap,h1,h3,by rw[List.length_take];omega,.inr ⟨g,cap,cur,rfl,g2,hh,by omega,h4,g5,?_⟩⟩;rw[←g6,List.take_take,Nat.min_eq_left hmul]
 obtain⟨ao,cap,ex,hlc,hown'⟩:=hz;have hb:=jU (cap:=cap) r true (lo:=none) (i:=0) rfl hhi (by omega) h0 hj hlc;obtain⟨inf,hinf⟩:∃inf,P.info? Te=some inf:=by
  cases hinf:P.info? Te with
  |none=>simp[Program.cellsOf,hinf]at h0c
  |some inf=>exact⟨inf,rfl⟩
 have hs:inf.size=P.cellsOf Te:=by simp[Program.cellsOf,hinf]
 have hrun:(execOp a.eval o).run P w= .ok (.value (.slice ao j.toNat cap)) w:=by
  have hadd:(ao.map fun q=>q.add 0)=ao:=by cases ao<;>simp[Addr.add]
  simp only[Option.map_none,Int.toNat_zero]at hb;simp[execOp,ho,ex,Instr.sliceAt,Instr.slice,run_underlying hu,hb,sizeOf,typeInfo,hinf,hs,hadd]
 unfold Oper.wp;rw[hrun];refine hK _ _ ?_;rw[hd];have hlown:∀b,Blk (a.eval x) b->owns σ.hs Z l b:=fun b hb=>⟨by rw[hl];rfl,_,e1,hb⟩;have hnew:=r.take l l' (.row T3 (es.take j.toNat)) (.slice ao j.toNat cap) w (by rw[hl];simp) hf hk0 rfl rfl rfl (aM _)
  (fun b hb hne=>rfl)
  (fun b hb=> .inr (hlown b (by
   rw[ex];rcases hb with hb| ⟨_,e,_⟩;·exact .inl (by cases ao<;>exact hb)
   ·cases e)))
  (fun hex hk=>by
   refine⟨Te,_,_,rfl,hu3,(by rw[List.length_take,Nat.min_eq_left (by omega)];exact hown'),fun u hu2=>hone u (List.mem_of_mem_take hu2),fun i' d' hd'=>?_⟩;rw[List.getElem?_take]at hd';split at hd'
   ·    rename_i hlt;have hmul:(i'+1)*P.cellsOf Te<=j.toNat*P.cellsOf Te:=aH _ hlt;rw[Nat.add_mul,Nat.one_mul]at hmul;have e:((xs.take (j.toNat*P.cellsOf Te)).drop (i'*P.cellsOf Te)).take (P.cellsOf Te)=(xs.drop (i'*P.cellsOf Te)).take (P.cellsOf Te):=by
         apply List.ext_getElem?;intro k;rw[cu,cu];split;·rw[List.getElem?_take,if_pos (by omega)]
         ·rfl
        rw[e];exact(hrd i' d' hd').mono hk
   ·cases hd')
 exact Rel.put hnew hn (jS (bG _ _ _) rfl)
theorem acH{lo hi:Option Operand}(ho:o.op= .slice T x lo hi none)(h:Ay P E n o σ T x lo hi k=some r):OpS P n o σ k r:=by
 have hx:x∈o.op.operands.toList:=by rw[ho];simp[Op.operands]
 have hhi:∀z,hi=some z->z∈o.op.operands.toList:=by intro z hz;rw[ho,hz];simp[Op.operands]
 unfold Ay at h;split at h
 ·rename_i l e1;split at h
  ·rename_i T5 es hl;split at h
   ·    rename_i b hb;split at h
        ·rename_i Te hTe;have hh_:=aC h;clear h;obtain⟨hc,h⟩:=hh_;have hh_:=dI h;clear h;obtain⟨hk0,h⟩:=hh_;have hh_:=aj.1 h;clear h;obtain⟨rs,hrs,h⟩:=hh_;obtain⟨p1,p2,p3,p4⟩:=tq hrs;obtain⟨u2,h0c⟩:=bP hc;subst p4;obtain⟨d,hd,hn,hk⟩:=dF h;refine⟨_,hk,fun σ' ag=>?_⟩;have key:=ap6 (σ:=σ') (l':=σ.hs.length) ho hd hn (bF hTe) u2 h0c (bf ag hx e1) (by rw[ag.hs l (by simp)];exact hl) (by rw[ag.hs _ (by simp)];exact dJ σ) (by rw[ag.k0];exact hk0) (wz (E:=E) (by rw[dQ ag.ts hhi];exact hb)) p2 p3;rw[hd];simp only[Int.toNat_zero,aQ,Nat.sub_zero];exact key
        ·cases h
   ·cases h
  ·cases h
 ·cases h
theorem ajU{lo hi:Option Operand}(ho:o.op= .slice T x lo hi none)(h:F7 P E n o σ T x lo hi k=some r):OpS P n o σ k r:=by
 have hx:x∈o.op.operands.toList:=by rw[ho];simp[Op.operands]
 have hlo:∀z,lo=some z->z∈o.op.operands.toList:=by intro z hz;rw[ho,hz];simp[Op.operands]
 have hhi:∀z,hi=some z->z∈o.op.operands.toList:=by intro z hz;rw[ho,hz];simp[Op.operands]
 unfold F7 at h;cases hsl:E.sld o with
 |true=>
  rw[hsl,cond_true]at h;exact acG ho h
 |false=>
 rw[hsl,cond_false]at h;cases hct:E.cut o with
 |true=>
  rw[hct,cond_true]at h;exact acH ho h
 |false=>
 rw[hct,cond_false]at h;split at h
 ·rename_i Tx s hs;obtain⟨d1,e1,u1,rfl⟩:=eF hs;split at h
  ·rename_i a ha;split at h
   ·    rename_i b hb;have hh_:=aC h;clear h;obtain⟨hc,h⟩:=hh_;have hh_:=aj.1 h;clear h;obtain⟨rs,hrs,h⟩:=hh_;obtain⟨p1,p2,p3,p4⟩:=R8 hrs;subst p4;exact bn h fun σ' ag d hd hn=>Fw ho hd hn (gB hc) u1 ((bf ag hx e1).cstr u1) (gU (E:=E) (by rw[dQ ag.ts hlo];exact ha)) (wz (E:=E) (by rw[dQ ag.ts hhi];exact hb)) p1 p2 p3
   ·cases h
  ·cases h
 ·split  at h
  ·rename_i Tx Te es hl;obtain⟨d1,hp,u1,rfl⟩:=mh hl;split at h
   ·    rename_i a ha;split at h
        ·rename_i b hb;have hh_:=aC h;clear h;obtain⟨hc,h⟩:=hh_;have hh_:=aj.1 h;clear h;obtain⟨rs,hrs,h⟩:=hh_;obtain⟨p1,p2,p3,p4⟩:=tq hrs;subst p4;obtain⟨d,hd,hn,hk⟩:=dF h;refine⟨_,hk,fun σ' ag=>?_⟩;have hfw:=ag.frz (ls:=(opd P E.dt σ T x).rws) fun l hl=>hl;obtain⟨u2,h0c⟩:=bP hc;have hpk:pk P (wrO σ'.hs (frzW σ'.hs (opd P E.dt σ T x).rws)) (opd P E.dt σ T x)=some (Tx,d1):=by rw[←hp,hfw];exact jf _ fun l hl=>eG (fun l hl=>ag.hs l hl) l hl
         have hev:Ev P (St.mk σ'.ts (wrO σ'.hs (frzW σ'.hs (opd P E.dt σ T x).rws)) σ'.k0) x (.dat Tx d1):=Ev.pk (AR ag hx) hpk;have hlo':gQ P E (St.mk σ'.ts (wrO σ'.hs (frzW σ'.hs (opd P E.dt σ T x).rws)) σ'.k0) 0 lo=some a:=by rw[←ha];exact dQ (fun t ht=>ag.ts t ht) hlo
         have hhi':gQ P E (St.mk σ'.ts (wrO σ'.hs (frzW σ'.hs (opd P E.dt σ T x).rws)) σ'.k0) (d1.toLst.length:Nat) hi=some b:=by rw[←hb];exact dQ (fun t ht=>ag.ts t ht) hhi
         have key:=(Fx ho hd hn u2 u1 h0c (hev.clst u1) (gU hlo') (wz hhi') p1 p2 p3).pre (Imp.frzW (σ:=σ') (opd P E.dt σ T x).rws);rw[hd];rw[hfw]at key;exact key
        ·cases h
   ·cases h
  ·cases h
theorem Jy{S:TypeId}{i:Nat}(ho:o.op= .fieldAddr S x i)(h:lC P E n o σ S x i k=some r):OpS P n o σ k r:=by
 have hx:x∈o.op.operands.toList:=by rw[ho];simp[Op.operands]
 unfold lC at h;split at h
 ·rename_i fs hfs;split at h
  ·rename_i f hf;have hh_:=aC h;clear h;obtain⟨hc,h⟩:=hh_;split at h
   ·    rename_i l p q e1;exact bn h fun σ' ha d hd hn=>sW ho hd hn (eU hfs) hf (kE hc) (bf ha hx e1)
   ·    rename_i l j z p q e1;exact bn h fun σ' ha d hd hn=>qc ho hd hn (eU hfs) hf (kE hc) (bf ha hx e1)
   ·    rename_i S' d0 e1;have hh_:=aC h;clear h;obtain⟨hc2,h⟩:=hh_;have e:=beq_eq (aF hc2);subst e;exact bn h fun σ' ha d hd hn=>iI ho hd hn (eU hfs) hf (kE hc) (ak (aB hc2)) (bf ha hx e1)
   ·    rename_i T2 d0 e1;split at h
        ·rename_i S' hS';have hh_:=aj.1 h;clear h;obtain⟨e0,he0,h⟩:=hh_;have hh_:=aC h;clear h;obtain⟨hc2,h⟩:=hh_;have e:=beq_eq (aF hc2);subst e;exact bn h fun σ' ha d hd hn=>iI ho hd hn (eU hfs) hf (kE hc) (ak (aB hc2)) ((bf ha hx e1).pd (lK hS') he0)
        ·cases h
   ·cases h
  ·cases h
 ·cases h
theorem ajV{S:TypeId}{i:Nat}(ho:o.op= .field S x i)(h:F8 P E n o σ S x i k=some r):OpS P n o σ k r:=by
 have hx:x∈o.op.operands.toList:=by rw[ho];simp[Op.operands]
 unfold F8 at h;split at h
 ·rename_i fs hfs;split at h
  ·rename_i f hf;split at h
   ·    rename_i S' d0 hp;have hh_:=aC h;clear h;obtain⟨hc,h⟩:=hh_;have e:=beq_eq (aF hc);subst e;obtain⟨q1,q2,⟨D,hD⟩,q4,q5⟩:=dD (aB (aB hc));exact bn h fun σ' ha d hd hn=>(Yq ho hd hn (eU hfs) hf hD (fun hf2=>q4 hf2) (ak (aF (aB hc))) (Ev.pk (fE ha hx) (AO _ hp))).can
   ·cases h
  ·cases h
 ·cases h
theorem Jz(ho:o.op= .indexAddr T x y)(h:lD P E n o σ T x y k=some r):OpS P n o σ k r:=by
 have hx:x∈o.op.operands.toList:=by rw[ho];simp[Op.operands]
 have hy:∀z,some y=some z->z∈o.op.operands.toList:=by intro z hz;cases hz;rw[ho];simp[Op.operands]
 unfold lD at h;split at h
 ·rename_i i hi;have hidx:∀σ' rd,Agr o σ σ' rd->∃TI k,P.underlying TI=some (.int k)∧Ev P σ' y (.dat TI (.int i)):=fun σ' rd ag=>gU (lo:=some y) (E:=E) (by rw[dQ ag.ts hy];exact hi);split at h
  ·rename_i l e1;split at h
   ·    rename_i T5 es hl;split at h
        ·rename_i Te hTe;have hh_:=aC h;clear h;obtain⟨hc,h⟩:=hh_;have hh_:=aj.1 h;clear h;obtain⟨u,hu,h⟩:=hh_;obtain⟨p1,p2⟩:=yX hu;obtain⟨u2,h0c⟩:=bP hc;refine bn h fun σ' ag d hd hn=>?_;obtain⟨TI,k1,v1,v2⟩:=hidx σ' _ ag;exact Fj ho hd hn u2 h0c v1 (bf ag hx e1) v2 (by rw[ag.hs l (by simp)];exact hl) (bF hTe) p1 p2
        ·cases h
   ·    rename_i T5 vs hl;split at h
        ·rename_i Te hTe;have hh_:=aC h;clear h;obtain⟨hc,h⟩:=hh_;obtain⟨u2,h0c⟩:=bP (aF hc);refine bn h fun σ' ag d hd hn=>?_;obtain⟨TI,k1,v1,v2⟩:=hidx σ' _ ag;exact BJ ho hd hn u2 h0c v1 (bf ag hx e1) v2 (by rw[ag.hs l (by simp)];exact hl) (by simpa using aF (aB hc)) (by simpa using aB (aB hc))
        ·cases h
   ·    rename_i T5 T2 c kk es hh hl;split at h
        ·rename_i Te hTe;have hh_:=aC h;clear h;obtain⟨hc,h⟩:=hh_;have hh_:=aj.1 h;clear h;obtain⟨u,hu,h⟩:=hh_;obtain⟨p1,p2⟩:=yX hu;obtain⟨u2,h0c⟩:=bP hc;refine bn h fun σ' ag d hd hn=>?_;obtain⟨TI,k1,v1,v2⟩:=hidx σ' _ ag;exact BL ho hd hn u2 h0c v1 (bf ag hx e1) v2 (by rw[ag.hs l (by simp)];exact hl) p1 p2
        ·cases h
   ·    rename_i T5 es hl;split at h
        ·rename_i Te hTe;have hh_:=aC h;clear h;obtain⟨hc,h⟩:=hh_;have hh_:=aj.1 h;clear h;obtain⟨e0,he0,h⟩:=hh_;obtain⟨p1,p2⟩:=ql he0;obtain⟨u2,h0c⟩:=bP hc;refine bn h fun σ' ag d hd hn=>?_;obtain⟨TI,k1,v1,v2⟩:=hidx σ' _ ag;exact qh ho hd hn u2 (bF hTe) h0c v1 ((bf ag hx e1).frz (by rw[ag.hs l (by simp)];exact hl)) v2 p1 p2
        ·cases h
   ·cases h
  ·rename_i l e1;split at h
   ·    rename_i S c hl;split at h
        ·rename_i Te d0 hb;obtain⟨len,hu,rfl,hm,h0⟩:=AQ hb;have hh_:=aC h;clear h;obtain⟨hc,h⟩:=hh_;have e:=beq_eq hc;subst e;have hh_:=aj.1 h;clear h;obtain⟨u,hu2,h⟩:=hh_;obtain⟨p1,p2⟩:=yX hu2;refine bn h fun σ' ag d hd hn=>?_;obtain⟨TI,k1,v1,v2⟩:=hidx σ' _ ag;exact Fp ho hd hn hu h0 v1 (bf ag hx e1) v2 (by rw[ag.hs l (by simp)];exact hl) p1 p2
        ·cases h
   ·cases h
  ·rename_i v0 hne;split at h
   ·    rename_i Tx Te es hl;obtain⟨d1,hp,u1,rfl⟩:=mh hl;have hh_:=aC h;clear h;obtain⟨hc,h⟩:=hh_;have hh_:=aj.1 h;clear h;obtain⟨e0,he0,h⟩:=hh_;obtain⟨p1,p2⟩:=ql he0;obtain⟨u2,h0c⟩:=bP hc;refine bn h fun σ' ag d hd hn=>?_;obtain⟨TI,k1,v1,v2⟩:=hidx σ' _ ag;exact qh ho hd hn u2 u1 h0c v1 ((Ev.pk (fE ag hx) (AO _ hp)).clst u1) v2 p1 p2
   ·cases h
 ·cases h
theorem ajW(ho:o.op= .index T x y)(h:F9 P E n o σ T x y k=some r):OpS P n o σ k r:=by
 have hx:x∈o.op.operands.toList:=by rw[ho];simp[Op.operands]
 have hy:∀z,some y=some z->z∈o.op.operands.toList:=by intro z hz;cases hz;rw[ho];simp[Op.operands]
 unfold F9 at h;split at h
 ·rename_i Tx s hs;obtain⟨d1,e1,u1,rfl⟩:=eF hs;split at h
  ·rename_i i hi;have hh_:=aC h;clear h;obtain⟨hc,h⟩:=hh_;have hh_:=aj.1 h;clear h;obtain⟨c,hc2,h⟩:=hh_;obtain⟨p1,u,p2,rfl⟩:=R7 hc2;refine bn h fun σ' ag d hd hn=>?_;obtain⟨TI,k1,v1,v2⟩:=gU (lo:=some y) (E:=E) (σ:=σ') (i:=i) (by rw[dQ ag.ts hy];exact hi);exact Fg ho hd hn v1 (eX (aB hc)) (gB (aF hc)) u1 ((bf ag hx e1).cstr u1) v2 p1 p2
  ·cases h
 ·split  at h
  ·rename_i T' e he;split at h
   ·    rename_i len Te hu;split at h
        ·rename_i i hi;have hh_:=aC h;clear h;obtain⟨hc,h⟩:=hh_;have hh_:=aj.1 h;clear h;obtain⟨q,hq,h⟩:=hh_;obtain⟨p1,p2⟩:=ql hq;have eT:=beq_eq (aF hc);subst eT;obtain⟨_,_,⟨D,hD⟩,h1,_⟩:=dD (aB (aB hc));refine bn h fun σ' ag d hd hn=>?_;obtain⟨TI,k1,v1,v2⟩:=gU (lo:=some y) (E:=E) (σ:=σ') (i:=i) (by rw[dQ ag.ts hy];exact hi);exact(Hz ho hd hn hu hD h1 (beq_eq (aF (aB hc))) v1 (bf ag hx he) v2 p1 p2).can
        ·cases h
   ·cases h
  ·cases h
theorem Uj{i:Nat}(ho:o.op= .extract x i)(h:uI P E n o σ x i k=some r):OpS P n o σ k r:=by
 have hx:x∈o.op.operands.toList:=by rw[ho];simp[Op.operands]
 unfold uI at h;split at h
 ·rename_i vs e1;split at h;·cases h
  ·rename_i v0 hne hv;exact bn h fun σ' ha d hd hn=>MS ho hd hn (bf ha hx e1) hv fun us e=>hne us e
  ·cases h
 ·cases h
theorem pI:∀{vs:List AV},Jm P vs=true->∀v∈vs,v.isAgg P=false∧v≠ .dead∧∀us,v≠ .tup us
 | [],_,v,hv=>by simp at hv
 |u::r,h,v,hv=>by
  unfold Jm at h;rcases List.mem_cons.1 hv with e|hv
  ·subst e;have h1:=aF h;split at h1;·cases h1
   ·cases h1
   ·    rename_i h3 h4;exact⟨by simpa using h1,fun e=>h4 e,fun us e=>h3 us e⟩
  ·exact pI (aB h) v hv
theorem acI{D:List TypeId}:∀{xs:List Operand},EvXs P σ xs (xs.map (opd P D σ T))
 | []=> .nil
 |x::xs=> .cons gK acI
theorem JA{d:Nat}{f:FuncId}{first:Array Operand}{xs:List Operand}{caps:List AV}(ho:o.op= .makeFunc (.func f) first xs.toArray)(hf:first.size=0)(hd:o.dst=some d)(hn:d<n)(ha:EvXs P σ xs caps)(hc:∀v∈caps,v.isAgg P=false∧v≠ .dead∧∀us,v≠ .tup us):bC P n o σ (σ.put d (.fn f caps)):=
 aZ hd hn fun ok0 w0 a w Z r=>by
  have hfe:first= #[]:=Array.eq_empty_of_size_eq_zero hf
  subst hfe;have h:=ha.rvs r;refine⟨.func (.func f) #[] (xs.map a.eval).toArray,by simp[execOp,ho,Instr.makeFunc,List.map_toArray],⟨fun hi=>by simp[AV.isAgg]at hi,fun _=> .fn (by simpa using h.len) fun i av hv=>?_⟩⟩;obtain⟨z,h1,h2⟩:=h.get i av hv;have hm:=hc av (aK hv);have e:(xs.map a.eval).toArray.getD i undef=z:=by simp only[Array.getD_eq_getD_getElem?,List.getElem?_toArray,h1,Option.getD_some]
  rw[e];exact(RV.to1 hm.2.1 hm.2.2 h2).2 hm.1
theorem NI{f:FuncId}{first caps:Array Operand}(ho:o.op= .makeFunc (.func f) first caps)(h:pF P E n o σ f first.size caps.toList k=some r):OpS P n o σ k r:=by
 unfold pF at h;have hh_:=aC h;clear h;obtain⟨hc,h⟩:=hh_;refine bn h fun σ' ag d hd hn=>JA (xs:=caps.toList) (by rw[ho]) (beq_eq (aF hc)) hd hn ?_ (pI (aB hc));have e:caps.toList.map (opd P E.dt σ' 0)=caps.toList.map (opd P E.dt σ 0):=by refine List.map_congr_left fun z hz=>gT ag.ts ?_;rw[ho];simp[Op.operands,hz]
 rw[←e];exact acI
theorem NJ{d:Nat}{name:String}{T:TypeId}{v:AV}{x:Operand}(ho:o.op= .makeFunc (.method name) #[x] #[])(hd:o.dst=some d)(hn:d<n)(hx:Ev P σ x (.ifc T v)):bC P n o σ (σ.put d (.mth T name)):=
 aZ hd hn fun ok0 w0 a w Z r=>by
  have h:=(hx _ _ _ _ _ _ r).2 rfl;generalize hz:a.eval x=z at h;obtain⟨z',rfl⟩:∃z',z= .iface T z':=by
   cases h with
   |ifc1 _ _=>exact⟨_,rfl⟩
   |ifcA _ _=>exact⟨_,rfl⟩
  exact⟨.func (.method name) #[.iface T z'] #[],by simp[execOp,ho,Instr.makeFunc,hz],⟨fun hi=>by simp[AV.isAgg]at hi,fun _=> .mth⟩⟩
theorem Uk{name:String}{first caps:Array Operand}(ho:o.op= .makeFunc (.method name) first caps)(h:uE P E n o σ name first.toList caps.size k=some r):OpS P n o σ k r:=by
 unfold uE at h;split at h
 ·rename_i x hf;split at h
  ·rename_i T v e1;obtain⟨hc,h⟩:=aC h;have ec:caps= #[]:=Array.eq_empty_of_size_eq_zero (beq_eq hc);have ef:first= #[x]:=by apply Array.ext';simpa using hf
   subst ec ef;have hx:x∈o.op.operands.toList:=by rw[ho];simp[Op.operands]
   exact bn h fun σ' ag d hd hn=>NJ ho hd hn (bf ag hx e1)
  ·cases h
 ·cases h
theorem atV{xs:Array Operand}{Ts:Array TypeId}(ho:o.op= .call ⟨.builtin .len,xs,Ts⟩)(hxs:xs.toList=[x])(hTs:Ts.toList=[T])(h:acr P E n o σ T x k=some r):OpS P n o σ k r:=by
 have hxs':xs= #[x]:=by apply Array.ext';simpa using hxs
 have hTs':Ts= #[T]:=by apply Array.ext';simpa using hTs
 subst hxs' hTs';have hx:x∈o.op.operands.toList:=by rw[ho];simp[Op.operands,Call.operands]
 unfold acr at h;have hh_:=aC h;clear h;obtain⟨hI,h⟩:=hh_;split at h
 ·rename_i Tx s hs;obtain⟨d1,e1,u1,rfl⟩:=eF hs;have hh_:=aC h;clear h;obtain⟨hc,h⟩:=hh_;exact bn h fun σ' ag d hd hn=>MQ ho hd hn (eX hI) (gB hc) u1 ((bf ag hx e1).cstr u1)
 ·split  at h
  ·rename_i Te hTe;split at h
   ·    rename_i l e1;split at h
        ·rename_i T5 es hl;exact bn h fun σ' ag d hd hn=>MR ho hd hn (eX hI) (bF hTe) (bf ag hx e1) (by rw[ag.hs l (by simp)];exact hl)
        ·rename_i T5 vs hl;exact bn h fun σ' ag d hd hn=>JK (E:=0) ho hd hn (eX hI) (bF hTe) (bf ag hx e1) (by rw[ag.hs l (by simp)];exact hl)
        ·rename_i T5 T2 c kk es hh hl;exact bn h fun σ' ag d hd hn=>JQ (E:=0) ho hd hn (eX hI) (bF hTe) (bf ag hx e1) (by rw[ag.hs l (by simp)];exact hl)
        ·rename_i T5 es hl;have hh_:=aC h;clear h;obtain⟨hsl,h⟩:=hh_;obtain⟨E5,hE5⟩:=Option.isSome_iff_exists.1 hsl;refine bn h fun σ' ag d hd hn=>?_;have hl':lk σ'.hs l= .frz T5 es:=by rw[ag.hs l (by simp)];exact hl
         exact yU ho hd hn (eX hI) (bF hTe) (bF hE5) ((bf ag hx e1).frz hl')
        ·cases h
   ·    split at h
        ·rename_i Tx Te2 es hl;obtain⟨d1,hp,u1,rfl⟩:=mh hl;exact bn h fun σ' ag d hd hn=>yU ho hd hn (eX hI) (bF hTe) u1 ((Ev.pk (fE ag hx) (AO _ hp)).clst u1)
        ·cases h
  ·cases h
theorem ap7{d:Nat}{k:IntKind}{T3 T4 T1 T2:TypeId}{p q:Int}(ho:o.op= .call ⟨.builtin .max,#[x,y],#[T1,T2]⟩)(hd:o.dst=some d)(hn:d<n)
  (hu:P.underlying T3=some (.int k))(hu':P.underlying T4=some (.int k))(hx:Ev P σ x (.dat T3 (.int p)))(hy:Ev P σ y (.dat T4 (.int q))):bC P n o σ (σ.put d (.dat T3 (.int (bif decide (p<q)then q else p)))):=
 aZ hd hn fun ok0 w0 a w Z r=>by
  obtain⟨_,e1,b1,b2⟩:=RV.int hu (hx _ _ _ _ _ _ r);obtain⟨_,e2,b3,b4⟩:=RV.int hu' (hy _ _ _ _ _ _ r);simp only[Dt.toInt]at e1 e2 b1 b2 b3 b4;refine⟨.int k (bif decide (p<q)then q else p),?_,RV.mk_int hu ?_ ?_⟩;·by_cases h:p<q<;>simp[execOp,ho,e1,e2,resolve,invoke,builtin,Builtin.max_,Builtin.max2,h]
  ·by_cases h:p<q<;>simp[h,b1,b3]
  ·by_cases h:p<q<;>simp[h,b2,b4]
theorem ap8{d:Nat}{k:IntKind}{T3 T4 T1 T2:TypeId}{p q:Int}(ho:o.op= .call ⟨.builtin .min,#[x,y],#[T1,T2]⟩)(hd:o.dst=some d)(hn:d<n)
  (hu:P.underlying T3=some (.int k))(hu':P.underlying T4=some (.int k))(hx:Ev P σ x (.dat T3 (.int p)))(hy:Ev P σ y (.dat T4 (.int q))):bC P n o σ (σ.put d (.dat T3 (.int (bif decide (q<p)then q else p)))):=
 aZ hd hn fun ok0 w0 a w Z r=>by
  obtain⟨_,e1,b1,b2⟩:=RV.int hu (hx _ _ _ _ _ _ r);obtain⟨_,e2,b3,b4⟩:=RV.int hu' (hy _ _ _ _ _ _ r);simp only[Dt.toInt]at e1 e2 b1 b2 b3 b4;refine⟨.int k (bif decide (q<p)then q else p),?_,RV.mk_int hu ?_ ?_⟩;·by_cases h:q<p<;>simp[execOp,ho,e1,e2,resolve,invoke,builtin,Builtin.min_,Builtin.min2,h]
  ·by_cases h:q<p<;>simp[h,b1,b3]
  ·by_cases h:q<p<;>simp[h,b2,b4]
theorem two{A:Type}{xs:Array A}{a b:A}(h:xs.toList=[a,b]):xs= #[a,b]:=by apply Array.ext';simpa using h
theorem atW{xs:Array Operand}{Ts:Array TypeId}{T':TypeId}(ho:o.op= .call ⟨.builtin .min,xs,Ts⟩)(hxs:xs.toList=[x,y])(hTs:Ts.toList=[T,T'])(h:acs P E n o σ T T' x y k=some r):OpS P n o σ k r:=by
 have hxs':=two hxs;have hTs':=two hTs;subst hxs' hTs';have hx:x∈o.op.operands.toList:=by rw[ho];simp[Op.operands,Call.operands]
 have hy:y∈o.op.operands.toList:=by rw[ho];simp[Op.operands,Call.operands]
 unfold acs at h;split at h
 ·rename_i Tx q a ha;obtain⟨d1,e1,u1,rfl⟩:=dP ha;split at h
  ·rename_i Ty q' b hb;obtain⟨d2,e2,u2,rfl⟩:=dP hb;have hh_:=aC h;clear h;obtain⟨hq,h⟩:=hh_;have hq':q=q':=by simpa using hq
   subst hq';exact bn h fun σ' ag d hd hn=>ap8 ho hd hn u1 u2 ((bf ag hx e1).cint u1) ((bf ag hy e2).cint u2)
  ·cases h
 ·cases h
theorem atX{xs:Array Operand}{Ts:Array TypeId}{T':TypeId}(ho:o.op= .call ⟨.builtin .max,xs,Ts⟩)(hxs:xs.toList=[x,y])(hTs:Ts.toList=[T,T'])(h:acu P E n o σ T T' x y k=some r):OpS P n o σ k r:=by
 have hxs':=two hxs;have hTs':=two hTs;subst hxs' hTs';have hx:x∈o.op.operands.toList:=by rw[ho];simp[Op.operands,Call.operands]
 have hy:y∈o.op.operands.toList:=by rw[ho];simp[Op.operands,Call.operands]
 unfold acu at h;split at h
 ·rename_i Tx q a ha;obtain⟨d1,e1,u1,rfl⟩:=dP ha;split at h
  ·rename_i Ty q' b hb;obtain⟨d2,e2,u2,rfl⟩:=dP hb;have hh_:=aC h;clear h;obtain⟨hq,h⟩:=hh_;have hq':q=q':=by simpa using hq
   subst hq';exact bn h fun σ' ag d hd hn=>ap7 ho hd hn u1 u2 ((bf ag hx e1).cint u1) ((bf ag hy e2).cint u2)
  ·cases h
 ·cases h
theorem iE{KT V:TypeId}(h:Az P T=some (KT,V)):P.underlying T=some (.map KT V)∧P.underlying KT=some .string∧bO P V=false:=by
 unfold Az at h;split at h
 ·rename_i K V' hu;obtain⟨h1,h2⟩:=aC h;cases h2;exact⟨hu,gB (aF h1),by simpa using aB h1⟩
 ·cases h
theorem NK{z:Dt}(h:acj P T=some z):∃(i:TypeInfo)(zv:Value),P.info? T=some i∧i.zero=some zv∧∀(ok:Nat->Prop)(w:World),RD P ok w T z [zv]:=by
 unfold acj at h;split at h
 ·rename_i i hi;split at h
  ·rename_i zv hz;cases hb:pq zv with
   |true=>rw[hb]at h;cases h
   |    false=>
        rw[hb]at h;obtain⟨i',z',q1,q2,q3,q4⟩:=(dK h).ex;rw[hi]at q1;cases q1
        rw[hz]at q2;cases q2
        refine⟨_,zv,hi,hz,fun ok w=>?_⟩;have e:zv.cells.toList=[zv]:=by cases zv<;>first|rfl|cases hb
        rw[←e];exact q4 ok w
  ·cases h
 ·cases h
theorem amr{A:Type}{b:Bool}{u v:Option A}{q:A}(h:(bif b then u else v)=some q):(b=true∧u=some q)∨(b=false∧v=some q):=by cases b<;>simp_all
theorem Ul(h:apZ P T=true):∃(i:TypeInfo),P.info? T=some i∧i.zero=some (.slice none 0 0):=by
 unfold apZ at h;split at h
 ·rename_i i hi;split at h;·rename_i hz;exact⟨i,hi,hz⟩
  ·cases h
 ·cases h
theorem acJ{    two:Bool}(ho:o.op= .lookup T x y two)(h:AA P E n o σ T x y two k=some r):OpS P n o σ k r:=by
 have hx:x∈o.op.operands.toList:=by rw[ho];simp[Op.operands]
 have hy:y∈o.op.operands.toList:=by rw[ho];simp[Op.operands]
 unfold AA at h;split at h
 ·rename_i KT V hkv;obtain⟨u1,u2,u3⟩:=iE hkv;split at h
  ·rename_i z hz;have hz':=NK hz;split at h
   ·    rename_i l e1;split at h
        ·rename_i T5 es hl;split at h
         ·rename_i K5 V5 hkv5;obtain⟨p1,p2,p3⟩:=iE hkv5;split at h
          ·rename_i TS s hs;obtain⟨d2,e2,us,rfl⟩:=eF hs;have hh_:=aC h;clear h;obtain⟨hc,h⟩:=hh_;have c1:=beq_eq (aF hc);have c2:=beq_eq (aB hc);subst c1;subst c2
           cases two with
           |  true=>
              simp only[cond_true]at h;split at h
              · rename_i TB hTB;exact bn h fun σ' ag d hd hn=>NU ho hd hn u1 u2 u3 (dx hTB) hz' us (bf ag hx e1) ((bf ag hy e2).cstr us) (by rw[ag.hs l (by simp)];exact hl) p1
              ·cases h
           |  false=>
              simp only[cond_false]at h;rcases amr h with⟨_,h⟩| ⟨_,h⟩;·exact bn h fun σ' ag d hd hn=>(D5 ho hd hn u1 u2 u3 hz' us (bf ag hx e1) ((bf ag hy e2).cstr us) (by rw[ag.hs l (by simp)];exact hl) p1).can
              · rcases amr h with⟨_,h⟩| ⟨hm,h⟩;·exact bn h fun σ' ag d hd hn=>(D5 ho hd hn u1 u2 u3 hz' us (bf ag hx e1) ((bf ag hy e2).cstr us) (by rw[ag.hs l (by simp)];exact hl) p1).can
                ·obtain⟨hnz,h⟩:=aC h;exact bn h fun σ' ag d hd hn=>NT ho hd hn u1 u2 (Ul hnz) us (bf ag hx e1) ((bf ag hy e2).cstr us) (by rw[ag.hs l (by simp)];exact hl) p1 hm
          ·cases h
         ·cases h
        ·cases h
   ·cases h
  ·cases h
 ·cases h
theorem Um(ho:o.op= .makeMap T none)(h:uG P n o σ T k=some r):OpS P n o σ k r:=by
 unfold uG at h;split at h
 ·rename_i kv hkv;obtain⟨KT,V⟩:=kv;obtain⟨u1,u2,u3⟩:=iE hkv;have hh_:=dI h;clear h;obtain⟨hk0,h⟩:=hh_;exact Qj h fun σ' ag d hd hn=>NV ho hd hn u1 u2 (by rw[ag.hs _ (by simp)];exact dJ σ) (by rw[ag.k0];exact hk0)
 ·cases h
theorem JB{u:Operand}(ho:o.op= .mapUpdate T x y u)(h:lF P E o σ T x y u k=some r):OpS P n o σ k r:=by
 have hx:x∈o.op.operands.toList:=by rw[ho];simp[Op.operands]
 have hy:y∈o.op.operands.toList:=by rw[ho];simp[Op.operands]
 have hu:u∈o.op.operands.toList:=by rw[ho];simp[Op.operands]
 unfold lF at h;split at h
 ·rename_i KT V hkv;obtain⟨u1,u2,u3⟩:=iE hkv;split at h
  ·rename_i l e1;split at h
   ·    rename_i T5 es hl;split at h
        ·rename_i K5 V5 hkv5;obtain⟨p1,p2,p3⟩:=iE hkv5;split at h
         ·rename_i TS s hs;obtain⟨d2,e2,us,rfl⟩:=eF hs;split at h
          ·rename_i TV dv hpk;have hh_:=aC h;clear h;obtain⟨hc,h⟩:=hh_;have hnm:l∉(opd P E.dt σ V u).rws:=lI (by simpa using aB (aB hc));obtain⟨hd,hk⟩:=gX h;refine⟨_,hk,fun σ' ag=>?_⟩;have hagr:∀l2∈(opd P E.dt σ V u).rws,lk σ'.hs l2=lk σ.hs l2:=fun l2 hl2=>ag.hs l2 (by simp[hl2]);rw[hd];have hev:∀{z:Operand}{w:AV}{T0:TypeId},z∈o.op.operands.toList->opd P E.dt σ T0 z=w->Ev P (St.mk σ'.ts (wrO σ'.hs (frzW σ'.hs (opd P E.dt σ V u).rws)) σ'.k0) z w:=by
              rintro z w T0 hz rfl;have e3:opd P E.dt (St.mk σ'.ts (wrO σ'.hs (frzW σ'.hs (opd P E.dt σ V u).rws)) σ'.k0) T0 z=opd P E.dt σ T0 z:=by rw[←gT ag.ts hz];cases z<;>rfl
              rw[←e3];exact gK
           have hpk2:pk P (wrO σ'.hs (frzW σ'.hs (opd P E.dt σ V u).rws)) (opd P E.dt σ V u)=some (TV,dv):=by rw[←hpk,dL hagr];exact jf _ fun l2 hl2=>eG hagr l2 hl2
           have key:bC P n o ⟨σ'.ts,wrO σ'.hs (frzW σ'.hs (opd P E.dt σ V u).rws),σ'.k0⟩ ((St.mk σ'.ts (wrO σ'.hs (frzW σ'.hs (opd P E.dt σ V u).rws)) σ'.k0).lay l (.map T5 (mput es d2.toStr dv))):=by refine Gi (n:=n) ho hd u1 u2 p1 (by simpa using aF (aB hc)) (aF hc) us (hev hx e1) ((hev hy e2).cstr us) (Ev.pk (hev hu rfl) hpk2) ?_;show lk (wrO σ'.hs _) l=_;rw[fu hnm,ag.hs l (by simp)];exact hl
           have hfin:St.mk (TP σ'.ts none none) (wrO σ'.hs (frzW σ.hs (opd P E.dt σ V u).rws++[(l,.map T5 (mput es d2.toStr dv))])) σ'.k0=(St.mk σ'.ts (wrO σ'.hs (frzW σ'.hs (opd P E.dt σ V u).rws)) σ'.k0).lay l (.map T5 (mput es d2.toStr dv)):=by rw[fH,dL hagr];rfl
           have:=key.pre (Imp.frzW (σ:=σ') (opd P E.dt σ V u).rws);rw[←hfin]at this;exact this
          ·cases h
         ·cases h
        ·cases h
   ·cases h
  ·cases h
 ·cases h
theorem uK:∀{ts:List (Nat×List Value)}{g:Nat}{cs:List Value},AB ts g=some cs->(g,cs)∈ts
 | [],_,_,h=>by cases h
 |t::r,g,cs,h=>by
  unfold AB at h;cases hb:Nat.beq t.1 g with
  |true=>
   rw[hb]at h;cases h;have e:=beq_eq hb;subst e;exact bB
  |false=>
   rw[hb]at h;exact aY _ (uK h)
theorem JC{Te:TypeId}{sz:Nat}:∀{m:Nat}{cs:List Value}{ds:List Dt},aco P Te sz m cs=some ds->∀(i:Nat)(d:Dt),ds[i]? =some d->∀(ok:Nat->Prop)(w:World),RD P ok w Te d ((cs.drop (i*sz)).take sz)∧i<m
 |0,cs,ds,h,i,d,hd,ok,w=>by unfold aco at h;cases h;simp at hd
 |m+    1,cs,ds,h,i,d,hd,ok,w=>by
  unfold aco at h;split at h
  ·rename_i v hv;split at h
   ·    rename_i T' d' hp;obtain⟨h1,h2⟩:=aC h;have e:=beq_eq h1;subst e;split at h2
        ·rename_i ds' hds;cases h2;cases i with
         |zero=>
          simp only[aN,aA]at hd;subst hd;refine⟨?_,by omega⟩;simp only[Nat.zero_mul,aQ];exact dB (Z:=fun _=>none) (hs:=[]) (fun l T es hl=>by simp[lk]at hl) ((l9 hv).1 ok w _) hp
         |succ i=>
          simp only[aR]at hd;obtain⟨q1,q2⟩:=JC hds i d hd ok w;rw[List.drop_drop,show sz+i*sz=(i+1)*sz by rw[Nat.succ_mul];omega]at q1;exact⟨q1,by omega⟩
        ·cases h2
   ·cases h
  ·cases h
theorem atY{g:Nat}(ho:o.op= .indexAddr T (.global g) y)(h:acp P E n o σ T g y k=some r):OpS P n o σ k r:=by
 have hy:y∈o.op.operands.toList:=by rw[ho];simp[Op.operands]
 unfold acp at h;split at h
 ·rename_i len Te hu;split at h
  ·rename_i cs hcs;split at h
   ·    rename_i ds hds;split at h
        ·rename_i i hi;have hh_:=aC h;clear h;obtain⟨hc,h⟩:=hh_;have hh_:=aj.1 h;clear h;obtain⟨e,he,h⟩:=hh_;obtain⟨p1,p2⟩:=ql he;have h0:=kE (aF hc);have hlen:=beq_eq (aB hc);refine bn h fun σ' ag d hd hn=>?_;obtain⟨TI,k1,v1,v2⟩:=gU (lo:=some y) (E:=E) (σ:=σ') (i:=i) (by rw[dQ ag.ts (by intro z hz;cases hz;exact hy)];exact hi);refine aZ hd hn fun ok0 w0 a w Z r=>?_;obtain⟨_,e2,_⟩:=RV.int v1 (v2 _ _ _ _ _ _ r);simp only[Dt.toInt]at e2;obtain⟨hok,TT,fr,hblk⟩:=r.tab.1 _ (uK hcs);have hmul:∀m,m<len->m*P.cellsOf Te+P.cellsOf Te<=len*P.cellsOf Te:=fun m hm=>by have:=aH (P.cellsOf Te) (show m+1<=len from hm);rw[Nat.succ_mul]at this;exact this
         have hq:=JC hds i.toNat e p2;have hlt:=(hq (fun _=>True) w).2;have hm:=hmul _ hlt;refine⟨.pointer (some ((⟨g,0,none⟩:Addr).add (i.toNat*P.cellsOf Te))),?_,vZ (cs:=(cs.drop (i.toNat*P.cellsOf Te)).take (P.cellsOf Te)) (by rw[block_add];exact hok) (by rw[List.length_take,List.length_drop];omega) (fun j v hv=>?_) (hq _ w).1⟩
         ·have hii:i<len:=by omega
          cases hin:P.info? Te with
          |none=>simp[Program.cellsOf,hin]at h0
          |some inf=>
           unfold execOp;simp only[ho,e2,Sem.run_bind];have ea:a.eval (.global g)= .pointer (some ⟨g,0,none⟩):=rfl;rw[ea];simp[Instr.indexAt,asIntOf,run_underlying hu,Instr.sureAddr,p1,hii,sizeOf,typeInfo,hin,Program.cellsOf]
         ·rw[add_add,d9,Nat.zero_add];rw[List.getElem?_take]at hv;split at hv
          ·rename_i hj;rw[List.getElem?_drop]at hv;have hb:w.heap[g]? =some (.cells cs.toArray TT fr):=hblk;simp only[World.cell?,hb];simpa using hv
          ·cases hv
        ·cases h
   ·cases h
  ·cases h
 ·cases h
end
section
variable{P:Program}{n:Nat}{o:Oper}{σ G:St}{x y:Operand}{v:AV}{T:TypeId}{R:Type}{E:Env}{k:Dl->Option R}{r:R}
theorem NM{T T':TypeId}(h:compat P T T'=true):bO P T=bO P T':=by
 unfold compat at h;rw[Bool.or_eq_true]at h;rcases h with h|h;·rw[beq_eq h]
 ·unfold bO;split at h;·rename_i h1 h2;rw[h1,h2]
  ·rename_i h1 h2;rw[h1,h2]
  ·rename_i h1 h2;rw[h1,h2]
  ·rename_i h1 h2;rw[h1,h2]
  ·cases h
theorem RV.compat{ok:Nat->Prop}{w:World}{Z:Nat->Option Value}{z:Value}{d:Dt}{T':TypeId}(h:RV P ok w Z (.dat T d) z)(hc:Am.compat P T T'=true):RV P ok w Z (.dat T' d) z:=by
 have he:=NM hc;cases ha:bO P T with
 |true=>
  obtain⟨cs,e,q⟩:=(RV.dat_agg ha).1 h;exact(RV.dat_agg (by rw[←he];exact ha)).2 ⟨cs,e,q.compat hc⟩
 |false=>exact(RV.dat_one (by rw[←he];exact ha)).2 (((RV.dat_one ha).1 h).compat hc)
theorem Ga{D:List TypeId}{Te:TypeId}{G:St}:∀{xs:List Operand}{ds:List Dt},(∀z∈xs,Ev P G z (opd P D σ Te z))->jH P G.hs Te (xs.map (opd P D σ Te))=some ds->EvL P G Te xs ds
 | [],ds,_,h=>by
   have h':some []=some ds:=by simpa [jH]using h
   cases h';exact .nil
 | z::xs,ds,hev,h=>by
   simp only[List.map_cons]at h;unfold jH at h;split at h
   ·rename_i T' d hp;obtain⟨hc,h2⟩:=aC h;split at h2
    ·   rename_i ds' hds;cases h2;refine .cons ?_ (Ga (fun u hu=>hev u (by simp[hu])) hds);have:=Ev.pk (hev z (by simp)) hp;exact fun ok0 w0 n a w Z r=>(this _ _ _ _ _ _ r).compat (aF hc)
    ·cases h2
   ·cases h
theorem Qk{hs:List Ob}{Te:TypeId}{vs:List AV}{ds:List Dt}(h:jH P hs Te vs=some ds)(hne:vs≠[]):∀d',szB P Te (.dat Te d')=true:=by
 cases vs with
 |nil=>exact absurd rfl hne
 |cons v r=>
  unfold jH at h;split at h
  ·rename_i T' d hp;obtain⟨hc,h2⟩:=aC h;intro d';exact aB hc
  ·cases h
theorem JD{hs hs':List Ob}{Te:TypeId}:∀{vs:List AV},(∀l∈AV.rwsL vs,lk hs' l=lk hs l)->jH P hs' Te vs=jH P hs Te vs
 | [],_=>rfl
 |v::r,h=>by unfold jH;rw[jf (hs:=hs) (hs':=hs') v fun l hl=>h l (by simp[AV.rwsL,hl]),JD (vs:=r) fun l hl=>h l (by simp[AV.rwsL,hl])]
theorem mo:∀{j:Nat}{parts:List (Nat×Operand)},dense j parts=true->parts=((parts.map (·.2)).zipIdx j).map fun p=>(p.2,p.1)
 |_,[],_=>rfl
 |j,(i,x)::r,h=>by simp only[dense]at h;have e:=beq_eq (aF h);subst e;have ih:=mo (aB h);simp only[List.map_cons,List.zipIdx_cons];rw[←ih]
theorem JE{hs:List Ob}{Te:TypeId}:∀{vs:List AV}{ds:List Dt},jH P [] Te vs=some ds->jH P hs Te vs=some ds
 | [],_,h=>h
 |v::r,ds,h=>by
  unfold jH at h ⊢
  split at h
  ·rename_i T d hp;rw[AO v hp];obtain⟨hc,h2⟩:=aC h;split at h2
   ·    rename_i ds' hds;cases h2;simp only[hc,cond_true,JE hds]
   ·cases h2
  ·cases h
theorem NN{parts:Array (Nat×Operand)}{len:Nat}{Te:TypeId}{zi:TypeInfo}{za:Value}{ds:List Dt}(ho:o.op= .build T parts)(hu:P.underlying T=some (.array len Te))(hzi:P.info? T=some zi)(hza:zi.zero=some za)
  (hds:jH P [] Te ((parts.toList.map (·.2)).map (opd P E.dt σ Te))=some ds)(hc:(dense 0 parts.toList&&(Nat.beq len parts.toList.length&&(!Nat.beq len 0&&(!Nat.beq (P.cellsOf Te) 0&&(Nat.beq za.cells.size (len*P.cellsOf Te)&&Nat.beq (P.cellsOf T) (len*P.cellsOf Te))))))=true)
  (h:out n o (.dat T (.lst ds)) [] [] k=some r):OpS P n o σ k r:=by
 have hmem:∀z∈parts.toList.map (·.2),z∈o.op.operands.toList:=by intro z hz;rw[ho];simpa [Op.operands]using hz
 have hlen:len=(parts.toList.map (·.2)).length:=by rw[List.length_map];exact beq_eq (aF (aB hc))
 have hpos:parts.toList.map (·.2)≠[]:=by intro e;rw[e]at hlen;exact kE (aF (aB (aB hc))) hlen
 have hsz:=Qk hds (by simpa using hpos);refine bn h fun σ' ag d hd hn=>Ht ho hd hn hu hzi hza (beq_eq (aF (aB (aB (aB (aB hc)))))) (beq_eq (aB (aB (aB (aB (aB hc)))))) (kE (aF (aB (aB (aB hc))))) (mo (aF hc)) hlen
  (Ga (fun z hz=>fE ag (hmem z hz)) (JE hds)) (fun d'=>(dD (hsz d')).2.2.2.2)
theorem acK{parts:Array (Nat×Operand)}(ho:o.op= .build T parts)(h:Ap P E n o σ T parts.toList k=some r):OpS P n o σ k r:=by
 unfold Ap at h;split at h;·exact ajP ho h
 ·unfold Jq at h;split at h
  ·rename_i len Te hu;split at h
   ·    rename_i zi hzi;split at h
        ·rename_i za hza;split at h
         ·rename_i ds hds;have hh_:=aC h;clear h;obtain⟨hc,h⟩:=hh_;exact NN ho hu hzi hza hds hc h
         ·cases h
        ·cases h
   ·cases h
  ·cases h
theorem Gb{len:Nat}{parts:Array (Nat×Operand)}(ho:o.op= .buildSlice T len parts)(h:jX P E n o σ T len parts.toList k=some r):OpS P n o σ k r:=by
 unfold jX at h;split at h
 ·rename_i Te hTe;split at h
  ·rename_i z hz;split at h
   ·    rename_i ds hds;have hh_:=aC h;clear h;obtain⟨hc,h⟩:=hh_;have hh_:=dI h;clear h;obtain⟨hk0,h⟩:=hh_;obtain⟨d,hd,hn,hk⟩:=dF h;refine⟨_,hk,fun σ' ag=>?_⟩;have hmap:(parts.toList.map fun p=>opd P E.dt σ Te p.2)=(parts.toList.map (·.2)).map (opd P E.dt σ Te):=by rw[List.map_map];rfl
        rw[hmap]at hds hk ⊢
        rw[hmap]at ag;have hagr:∀l∈AV.rwsL ((parts.toList.map (·.2)).map (opd P E.dt σ Te)),lk σ'.hs l=lk σ.hs l:=fun l hl=>ag.hs l (aY _ hl);have hfw:=dL hagr;have hmem:∀z∈parts.toList.map (·.2),z∈o.op.operands.toList:=by intro z hz;rw[ho];simpa [Op.operands]using hz
        have hds':jH P (wrO σ'.hs (frzW σ'.hs (AV.rwsL ((parts.toList.map (·.2)).map (opd P E.dt σ Te))))) Te ((parts.toList.map (·.2)).map (opd P E.dt σ Te))=some ds:=by rw[←hds,hfw];exact JD fun l hl=>eG hagr l hl
        have hlen:len=(parts.toList.map (·.2)).length:=by rw[List.length_map];exact beq_eq (aF (aB hc))
        have hpos:parts.toList.map (·.2)≠[]:=by intro e;rw[e]at hlen;exact kE (aF (aB (aB hc))) hlen
        have hsz:=Qk hds (by simpa using hpos);have key:=(Br (σ:=St.mk σ'.ts (wrO σ'.hs (frzW σ'.hs (AV.rwsL ((parts.toList.map (·.2)).map (opd P E.dt σ Te))))) σ'.k0) (l:=σ.hs.length) (ds:=ds) ho hd hn (bF hTe) (by
          refine fD ?_;rw[ag.hs _ (by simp)];exact dJ σ) (by show σ'.k0<=_;rw[ag.k0];exact hk0) (dK hz) (kE (aF (aB (aB (aB hc))))) (mo (aF hc)) hlen hpos
          (ak (aB (aB (aB (aB hc))))) (Ga (fun z hz=>AR ag (hmem z hz)) hds') (fun d'=>(dD (hsz d')).2.2.2.2)).pre (Imp.frzW (σ:=σ') (AV.rwsL ((parts.toList.map (·.2)).map (opd P E.dt σ Te))))
        rw[hd];have hfin:St.mk (TP σ'.ts (some d) (some (.row σ.hs.length))) (wrO σ'.hs (frzW σ.hs (AV.rwsL ((parts.toList.map (·.2)).map (opd P E.dt σ Te)))++[(σ.hs.length,.row T ds)])) σ'.k0=
          ((St.mk σ'.ts (wrO σ'.hs (frzW σ'.hs (AV.rwsL ((parts.toList.map (·.2)).map (opd P E.dt σ Te))))) σ'.k0).lay σ.hs.length (.row T ds)).put d (.row σ.hs.length):=by
         rw[fH,hfw];rfl
        show bC P n o σ' (St.mk _ _ _);rw[hfin];exact key
   ·cases h
  ·cases h
 ·cases h
theorem Gc{Te:TypeId}{vy:AV}{rd:List Nat}{ds:List Dt}(h:(match vy with
   |    .row l=>match lk σ.hs l with
        | .row T5 ds=>bif dA P T5 Te then some ([l],ds)else none
        | .frz T5 ds=>bif dA P T5 Te then some ([l],ds)else none
        |_=>none
   |    v=>match lval P [] v with
        |some (_,Te',ds)=>bif Nat.beq Te' Te then some ([],ds)else none
        |none=>none:Option (List Nat×List Dt))=some (rd,ds))(G:St)(hev:Ev P G y vy)(hag:∀l∈rd,lk G.hs l=lk σ.hs l):qj P G y Te ds:=by
 split at h
 ·rename_i l;split at h
  ·rename_i T5 ds' hl;obtain⟨hc,h2⟩:=aC h;cases h2;exact .row hev (by rw[hag l (by simp)];exact hl) (bP hc).1
  ·rename_i T5 ds' hl;obtain⟨hc,h2⟩:=aC h;cases h2;exact .lst (bP hc).1 (hev.frz (by rw[hag l (by simp)];exact hl))
  ·cases h
 ·split at h
  ·rename_i Tx Te' ds' hl;obtain⟨hc,h2⟩:=aC h;cases h2;obtain⟨d1,hp,u1,rfl⟩:=mh hl;have e:=beq_eq hc;subst e;exact .lst u1 ((Ev.pk hev (AO _ hp)).clst u1)
  ·cases h
theorem append_nil{d l l':Nat}{Te T5 T0:TypeId}{ds:List Dt}{z:Dt}(ho:o.op= .call {callee:= .builtin .append,args:= #[x,y],argTypes:= #[T,T]})(hd:o.dst=some d)(hn:d<n)(hu:P.underlying T=some (.slice Te))(hu5:P.underlying T5=some (.slice Te))
  (hz:Zero P Te z)(h0:P.cellsOf Te≠0)(hbd:ds.length*P.bytesOf Te<=140737488355328)(hx:Ev P σ x (.nils T0))(hfl:lk σ.hs l= .free)(hkl:σ.k0<=l)(hf:lk σ.hs l'= .free)(hll:l'≠l)(hk0:σ.k0<=l')(hy:qj P σ y Te ds)(hlim:ds.length<=137438953472):
  bC P n o σ (((σ.lay l .gone).lay l' (.row T5 ds)).put d (.row l')):=by
 rintro ok0 w0 a w ⟨Z,r⟩ K Q hK;have ex:a.eval x= .slice none 0 0:=by
  have h1:=(hx _ _ _ _ _ _ r).2 rfl;generalize a.eval x=q at h1;cases h1 with
  |nils=>rfl
 have r1:=r.nilrow hu5 hfl hkl;have hy1:=hy _ _ _ _ _ _ r;obtain⟨A,c,ys,ey,hyl,hyone,hyc,hynone,hyrd⟩:=hy1;have hob0:=r1.hs l;have hl1:lk (σ.lay l (.row T5 [])).hs l= .row T5 []:=bL _ _ _;rw[hl1,bG]at hob0;have key:=vo (σ:=σ.lay l (.row T5 [])) (l:=l) (l':=l') (E:=Te) (T5:=T5) (es:=[]) (ds:=ds) ho hd hn hu hu5 hz h0 (by simpa using hbd) r1 (by rw[ex];exact bG _ _ _) hl1
  (by show lk (aX σ.hs l _) l'=_;rw[aV _ _ _ _ hll];exact hf) hk0 ey hyl hyone hyc hynone (fun i d' hd'=>(hyrd i d' hd').mono (fun b hb=>⟨⟨hb.1,hb.2.1,fun j hj=>?_⟩,rfl⟩)) (by simpa using hlim) K Q (fun a' w' r'=>hK a' w' ?_)
 ·exact key
 ·obtain⟨q1,z',q2,q3⟩:=hj;by_cases hjl:j=l
  ·subst hjl;rw[bG]at q2;cases q2;simp[Blk,blk]at q3
  ·rw[bR _ _ _ _ hjl]at q2;have q1':(lk (aX σ.hs l (.row T5 [])) j).isOwn=true:=q1;rw[aV _ _ _ _ hjl]at q1';exact hb.2.2 j ⟨q1',z',q2,q3⟩
 ·have hcongr:Imp P n ((((σ.lay l (.row T5 [])).lay l .gone).lay l' (.row T5 ([]++ds))).put d (.row l')) (((σ.lay l .gone).lay l' (.row T5 ds)).put d (.row l')):=by
   refine Rel.congr (fun j=> .inr rfl) (fun j=>?_) rfl;show lk (aX (aX σ.hs l .gone) l' _) j=lk (aX (aX (aX σ.hs l (.row T5 [])) l .gone) l' _) j;rw[dH,dH,dH,dH,dH];simp only[List.nil_append];split;·rfl
   ·split<;>rfl
  exact hcongr _ _ _ _ r'
theorem JF{xs:Array Operand}{Ts:Array TypeId}{T':TypeId}(ho:o.op= .call ⟨.builtin .append,xs,Ts⟩)(hxs:xs.toList=[x,y])(hTs:Ts.toList=[T,T'])(h:rE P n o σ T T' (opd P E.dt σ T x) (opd P E.dt σ T' y) k=some r):OpS P n o σ k r:=by
 have hxs':=two hxs;have hTs':=two hTs;subst hxs' hTs';have hx:x∈o.op.operands.toList:=by rw[ho];simp[Op.operands,Call.operands]
 have hy:y∈o.op.operands.toList:=by rw[ho];simp[Op.operands,Call.operands]
 unfold rE at h;split at h
 ·rename_i Te z hTe hz;rw[hTe]at hz;have hh_:=aC h;clear h;obtain⟨hc,h⟩:=hh_;have e:=beq_eq (aF hc);subst e;have h0:=kE (aB hc);split at h
  ·rename_i rd ds hsrc;split at h
   ·    rename_i l e1;split at h
        ·rename_i T5 es hl;have hh_:=aC h;clear h;obtain⟨hc5,h⟩:=hh_;have hh_:=dI h;clear h;obtain⟨hk0,h⟩:=hh_;have hh_:=tu h;clear h;obtain⟨rs,hrs,h⟩:=hh_;obtain⟨p1,p2,p3⟩:=tC hrs;subst p2;obtain⟨d,hd,hn,hk⟩:=dF h;refine⟨_,hk,fun σ' ag=>?_⟩;have key:=R5 (σ:=σ') (l:=l) (l':=σ.hs.length) ho hd hn (bF hTe) (bP hc5).1 (dK hz) h0 p3 (bf ag hx e1) (by rw[ag.hs l (by simp)];exact hl) (by rw[ag.hs _ (by simp)];exact dJ σ) (by rw[ag.k0];exact hk0)
          (Gc hsrc σ' (fE ag hy) fun l2 hl2=>ag.hs l2 (by simp[hl2])) p1
         rw[hd];exact key
        ·rename_i T5 T2 c kk es hl;split at h
         ·rename_i T4 ls hlk;have hh_:=aC h;clear h;obtain⟨hc,h⟩:=hh_;have hc5:=aF hc;have f1:=beq_eq (aF (aB hc));subst f1;have hpl:∀e∈ds,lkd c e=false:=fun e he=>by simpa using List.all_eq_true.1 (aB (aB hc)) e he
          have hh_:=dI h;clear h;obtain⟨hk0,h⟩:=hh_;have hh_:=tu h;clear h;obtain⟨rs,hrs,h⟩:=hh_;obtain⟨p1,p2,p3⟩:=tC hrs;subst p2;obtain⟨d,hd,hn,hk⟩:=dF h;refine⟨_,hk,fun σ' ag=>?_⟩;have key:=N7 (σ:=σ') (l:=l) (l':=σ.hs.length+1) (q:=σ.hs.length) ho hd hn (bF hTe) (bP hc5).1 (dK hz) h0 p3 (bf ag hx e1) (by rw[ag.hs l (by simp)];exact hl) (by rw[ag.hs kk (by simp)];exact hlk)
           (by rw[ag.hs _ (by simp)];exact dG _ _ (by omega)) (by rw[ag.k0];omega) (by rw[ag.hs _ (by simp)];exact dJ σ) (by rw[ag.k0];exact hk0) (by omega)
           (Gc hsrc σ' (fE ag hy) fun l2 hl2=>ag.hs l2 (by simp[hl2])) hpl p1
          rw[hd];exact key
         ·cases h
        ·cases h
   ·    rename_i T5 e1;have hh_:=aC h;clear h;obtain⟨hc5,h⟩:=hh_;have hh_:=dI h;clear h;obtain⟨hk0,h⟩:=hh_;have hh_:=tu h;clear h;obtain⟨rs,hrs,h⟩:=hh_;obtain⟨p1,p2,p3⟩:=tC hrs;simp only[List.nil_append]at p2;subst p2;obtain⟨d,hd,hn,hk⟩:=dF h;refine⟨_,hk,fun σ' ag=>?_⟩;have key:=append_nil (σ:=σ') (l:=σ.hs.length) (l':=σ.hs.length+1) ho hd hn (bF hTe) (bP hc5).1 (dK hz) h0 (by simpa using p3) (bf ag hx e1) (by rw[ag.hs _ (by simp)];exact dJ σ) (by rw[ag.k0];exact hk0)
         (by rw[ag.hs _ (by simp)];exact dG _ _ (by omega)) (by omega) (by rw[ag.k0];omega) (Gc hsrc σ' (fE ag hy) fun l2 hl2=>ag.hs l2 (by simp[hl2])) (by simpa using p1)
        rw[hd];exact key
   ·cases h
  ·cases h
 ·cases h
theorem DX{Te:TypeId}{ob:Ob}{vs:List AV}(h:apV P Te ob=some vs):rJ P Te ob vs:=by
 cases ob with
 |row T es=>
  obtain⟨h1,h2⟩:=aC (show (bif dA P T Te then some (es.map (.dat Te))else none)=some vs from h);cases h2;exact .inl ⟨T,es,rfl,(bP h1).1,rfl⟩
 |rowA T us=>
  obtain⟨h1,h2⟩:=aC (show (bif dA P T Te then some us else none)=some vs from h);cases h2;exact .inr ⟨T,rfl,(bP h1).1⟩
 |_=>cases h
theorem NP{ob:Ob}{T5 T2 kk:Nat}{es:List Dt}(h:ab9 ob=some (T5,T2,kk,es)):ob= .rowD T5 T2 none kk es none:=by
 unfold ab9 at h;split at h;·cases h;rfl
 ·cases h
theorem Un{ob:Ob}{T m:Nat}(h:apW ob=some (T,m)):ob= .rowA T [.row m]:=by
 unfold apW at h;split at h;·cases h;rfl
 ·cases h
theorem Uo{l l2 T5 T2 kk Tr m:Nat}{es:List Dt}{xs:Array Operand}{Ts:Array TypeId}{T':TypeId}(ho:o.op= .call ⟨.builtin .append,xs,Ts⟩)(hxs:xs.toList=[x,y])(hTs:Ts.toList=[T,T'])(e1:opd P E.dt σ T x= .row l)(e2:opd P E.dt σ T' y= .row l2)
  (hl:lk σ.hs l= .rowD T5 T2 none kk es none)(hl2:lk σ.hs l2= .rowA Tr [.row m])(h:uq P n o σ T T' l l2 T5 T2 kk es Tr m k=some r):OpS P n o σ k r:=by
 have hxs':=two hxs;have hTs':=two hTs;subst hxs' hTs';have hx:x∈o.op.operands.toList:=by rw[ho];simp[Op.operands,Call.operands]
 have hy:y∈o.op.operands.toList:=by rw[ho];simp[Op.operands,Call.operands]
 unfold uq at h;split at h
 ·rename_i Te z hTe hz;rw[hTe]at hz;split at h
  ·rename_i T4 ls E2 hlk hE2;have hh_:=aC h;clear h;obtain⟨hc,h⟩:=hh_;have c1:=beq_eq (aF hc);have hc:=aB hc;have c2:=beq_eq (aF hc);have hc:=aB hc;have c3:=beq_eq (aF hc);have hc:=aB hc;have c5:=bP (aF hc);have hc:=aB hc;have cr:=bP (aF hc);have hc:=aB hc;have c0:=beq_eq (aF hc);have hc:=aB hc;have cb:=ak (aF hc);have cl:=ak (aB hc);subst c1 c2 c3;have hh_:=dI h;clear h;obtain⟨hk0,h⟩:=hh_;obtain⟨d,hd,hn,hk⟩:=dF h;refine⟨_,hk,fun σ' ag=>?_⟩;have hu2:=bF hE2;have hh:gZ P T4 none T4 0:=⟨c0,by rw[c0];exact Nat.one_pos,.inl ⟨rfl,rfl,rfl⟩⟩;have key:=N8 (σ:=σ') (l:=l) (l2:=l2) (l':=σ.hs.length+1) (q:=σ.hs.length) ho hd hn (bF hTe) c5.1 hh hu2 (dK hz) (by rw[c0];exact Nat.one_ne_zero) (by have:=Nat.mul_le_mul cl cb;omega) (bf ag hx e1) (by rw[ag.hs l (by simp)];exact hl) (by rw[ag.hs kk (by simp)];exact hlk)
        (by rw[ag.hs _ (by simp)];exact dG _ _ (by omega)) (by rw[ag.k0];omega) (by rw[ag.hs _ (by simp)];exact dJ σ) (by rw[ag.k0];exact hk0) (by omega)
        (bf ag hy e2) (by rw[ag.hs l2 (by simp)];exact hl2) cr.1 (D6 (m:=m) hu2 c0) cl
   rw[hd];exact key
  ·cases h
 ·cases h
theorem Uq{xs:Array Operand}{Ts:Array TypeId}{T':TypeId}(ho:o.op= .call ⟨.builtin .append,xs,Ts⟩)(hxs:xs.toList=[x,y])(hTs:Ts.toList=[T,T'])(h:uw P n o σ T T' (opd P E.dt σ T x) (opd P E.dt σ T' y) k=some r):OpS P n o σ k r:=by
 unfold uw at h;split at h
 ·rename_i l l2 e1 e2;split at h
  ·rename_i T5 T2 kk es Tr m q1 q2;exact Uo ho hxs hTs e1 e2 (NP q1) (Un q2) h
  cases hb:(ajL (lk σ.hs l2)||ajL (lk σ.hs l))with
  |false=>
   rw[hb,cond_false]at h;exact JF ho hxs hTs (by rw[e1,e2];exact h)
  |true=>
   rw[hb,cond_true]at h;have hxs':=two hxs;have hTs':=two hTs;subst hxs' hTs';have hx:x∈o.op.operands.toList:=by rw[ho];simp[Op.operands,Call.operands]
   have hy:y∈o.op.operands.toList:=by rw[ho];simp[Op.operands,Call.operands]
   unfold DR at h;split at h
   ·    rename_i Te z hTe hz;rw[hTe]at hz;have hh_:=aC h;clear h;obtain⟨hc,h⟩:=hh_;have e:=beq_eq (aF hc);subst e;split at h
        ·rename_i es ds h1 h2;have hh_:=aC h;clear h;obtain⟨hl,h⟩:=hh_;have hh_:=dI h;clear h;obtain⟨hk0,h⟩:=hh_;obtain⟨d,hd,hn,hk⟩:=dF h;refine⟨_,hk,fun σ' ag=>?_⟩;have key:=NZ (σ:=σ') (l:=l) (l2:=l2) (l':=σ.hs.length) ho hd hn (bF hTe) (dK hz) (kE (aF (aB hc))) (ak (aB (aB hc))) (bf ag hx e1) (ag.hs l (by simp)) (DX h1) (by rw[ag.hs _ (by simp)];exact dJ σ) (by rw[ag.k0];exact hk0) (bf ag hy e2) (ag.hs l2 (by simp)) (DX h2) (ak hl);rw[hd];exact key
        ·cases h
   ·cases h
 ·exact JF ho hxs hTs h
theorem Ql{D:List TypeId}{Te:TypeId}{G:St}:∀{xs:List Operand},(∀z∈xs,Ev P G z (opd P D σ Te z))->(xs.all fun z=>szB P Te (opd P D σ Te z))=true->EvLA P G Te xs (xs.map (opd P D σ Te))
 | [],_,_=> .nil
 |z::xs,hev,h=>by simp only[List.all_cons,aJ]at h;obtain⟨q1,q2,_,_,q5⟩:=dD h.1;exact .cons (hev z (by simp)) q1 q2 q5 (Ql (fun u hu=>hev u (by simp[hu])) h.2)
theorem Ur{len:Nat}{parts:Array (Nat×Operand)}(ho:o.op= .buildSlice T len parts)(h:uz P E n o σ T len parts.toList k=some r):OpS P n o σ k r:=by
 unfold uz at h;cases hb:E.nest o with
 |false=>rw[hb,cond_false]at h;exact Gb ho h
 |true=>
  rw[hb,cond_true]at h;unfold DT at h;split at h
  ·rename_i Te hTe;split at h
   ·    rename_i z hz;have hh_:=aC h;clear h;obtain⟨hc0,h⟩:=hh_;have hc:=aB hc0;have hh_:=dI h;clear h;obtain⟨hk0,h⟩:=hh_;obtain⟨d,hd,hn,hk⟩:=dF h;refine⟨_,hk,fun σ' ag=>?_⟩;have hmem:∀z∈parts.toList.map (·.2),z∈o.op.operands.toList:=by intro z hz;rw[ho];simpa [Op.operands]using hz
        have hlen:len=(parts.toList.map (·.2)).length:=by rw[List.length_map];exact beq_eq (aF (aB hc))
        have hpos:parts.toList.map (·.2)≠[]:=by intro e;rw[e]at hlen;exact kE (aF (aB (aB hc))) hlen
        have key:=NY (σ:=σ') (l:=σ.hs.length) ho hd hn (bF hTe) (by rw[ag.hs _ (by simp)];exact dJ σ) (by rw[ag.k0];exact hk0) (dK hz) (kE (aF (aB (aB (aB hc))))) (mo (aF hc)) hlen hpos
         (ak (aB (aB (aB (aB hc))))) (Ql (D:=E.dt) (σ:=σ) (fun z hz=>fE ag (hmem z hz)) (aF hc0))
        rw[hd];exact key
   ·cases h
  ·cases h
theorem ajX{A:Type}{b:Bool}{u v:Option A}{q:A}(h:(bif b then u else v)=some q):(b=true∧u=some q)∨(b=false∧v=some q):=by
 cases b;·exact .inr ⟨rfl,h⟩
 ·exact .inl ⟨rfl,h⟩
theorem Us{xs:Array Operand}{Ts:Array TypeId}{T':TypeId}(ho:o.op= .call ⟨.builtin .append,xs,Ts⟩)(hxs:xs.toList=[x,y])(hTs:Ts.toList=[T,T'])(h:uy P n o σ T T' (opd P E.dt σ T x) (opd P E.dt σ T' y) k=some r):OpS P n o σ k r:=by
 have hxs':=two hxs;have hTs':=two hTs;subst hxs' hTs';have hx:x∈o.op.operands.toList:=by rw[ho];simp[Op.operands,Call.operands]
 have hy:y∈o.op.operands.toList:=by rw[ho];simp[Op.operands,Call.operands]
 unfold uy at h;split at h
 ·rename_i Te hTe;obtain⟨hc,h⟩:=aC h;have hu8:=aF hc;have hS:=gB (aB hc);unfold u8B at hu8;have he:=eX (aF hu8);have hinf:=aB hu8;split at hinf
  ·rename_i i hi;have h1:=beq_eq (aF hinf);have h2:=beq_eq (aF (aB hinf));have h3:=aB (aB hinf);split at h3
   ·    rename_i m hm;have hm0:m=0:=of_decide_eq_true h3;subst hm0;split at h
        ·rename_i T2 s e2;obtain⟨d1,e3,u2,rfl⟩:=eF e2;split at h
         ·rename_i l e1;split at h
          ·rename_i T5 es hl;obtain⟨hc5,h⟩:=aC h;obtain⟨hk0,h⟩:=dI h;obtain⟨rs,hrs,h⟩:=aj.1 h;obtain⟨p1,p2⟩:=Hu hrs;subst p2;obtain⟨d,hd,hn,hk⟩:=dF h;refine⟨_,hk,fun σ' ag=>?_⟩;have key:=BH (σ:=σ') (l:=l) (l':=σ.hs.length) ho hd hn (bF hTe) (bP hc5).1 hS u2 he hi hm h1 h2 (bf ag hx e1) (by rw[ag.hs l (by simp)];exact hl) (by rw[ag.hs _ (by simp)];exact dJ σ) (by rw[ag.k0];exact hk0) ((bf ag hy e3).cstr u2) p1;rw[hd];exact key
          ·cases h
         ·cases h
        ·cases h
   ·cases h3
  ·cases hinf
 ·cases h
theorem ajY{S1 S2 Te:TypeId}(ho:o.op= .convert S1 S2 x)(hTe:slE P S1=some Te)(h:FV P n o σ Te S2 (opd P E.dt σ S1 x) k=some r):OpS P n o σ k r:=by
 have hx:x∈o.op.operands.toList:=by rw[ho];simp[Op.operands]
 unfold FV at h;obtain⟨hc,h⟩:=aC h;have he:=eX (aF hc);have hc1:=beq_eq (aF (aB hc));have hS:=gB (aB (aB hc));split at h
 ·rename_i rd ds hsrc;obtain⟨s,hs,h⟩:=aj.1 h;unfold at0 at hs;obtain⟨hb,hs⟩:=aC hs;have hlen:=ak hb;cases hs;obtain⟨d,hd,hn,hk⟩:=dF h;refine⟨_,hk,fun σ' ag=>?_⟩;have key:=BI (σ:=σ') ho hd hn (bF hTe) hS he hc1 (Gc hsrc σ' (fE ag hx) fun l2 hl2=>ag.hs l2 (by simp[hl2])) hlen;rw[hd];exact key
 ·cases h
