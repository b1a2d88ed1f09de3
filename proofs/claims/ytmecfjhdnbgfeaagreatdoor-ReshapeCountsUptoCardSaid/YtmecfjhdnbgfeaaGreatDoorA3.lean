/- The abstract machine, part 10: the machine itself.
The abstract machine,part 11:regions,code,functions.
The abstract machine,part 12:what the helpers compute is so.
The abstract machine,part 13:each operation of the machine is so in the model.
The abstract machine,part 14:each operation of the machine is so in the model,continued.
The abstract machine,part 15:slice literals,append,calls.
The abstract machine,part 16:calls.
The abstract machine,part 17:regions.
The abstract machine:a region of four operations whose two stores may come in either order.
The abstract machine,part 18:THE SOUNDNESS OF THE MACHINE.
The abstract machine,part 19:places in a function's code;results as plain values.
The abstract machine,part 20:values in their plain forms (a type's data as Lean values).
The abstract machine,part G:contracts as a table (a function's arguments and results by their kinds). -/
import Derived.Test.YtmecfjhdnbgfeaaGreatDoorA2
set_option linter.all false
namespace Go.Am
open Go.RowKit
abbrev Res:=AV×List Ob
structure Env where
 dt:List TypeId
 fns:FuncId->Option Func
 keep:FuncId->Nat->Option (List Nat×List Nat×List Nat)
 raw:FuncId->Bool
 own:FuncId->Bool
 lnd:FuncId->Bool
 nd:FuncId->List Nat:=fun _=>[]
 pkb:FuncId->Bool:=fun _=>false
 nest:Oper->Bool:=fun _=>false
 rdo:FuncId->Bool:=fun _=>false
 sld:Oper->Bool:=fun _=>false
 npk:TypeId->Bool:=fun _=>false
 fzc:FuncId->Bool:=fun _=>false
 pty:TypeId->Option TypeId:=fun _=>none
 orc:FuncId->Option (List AV->List Ob->Option (AV×List Ob))
def avF(av:TypeId->List Value->Option AV)(P:Program)(cs:List Value):List Field->Option (List AV)
 | []=>some []
 |  f::fs=>match avF av P cs fs with
    |some vs=>some ((match av f.type ((cs.drop f.offset).take (P.cellsOf f.type))with
     |some v=>v
     |none=> .dead)::vs)
    |none=>none
def avC(P:Program):Nat->TypeId->List Value->Option AV
 |0,_,_=>none
 |  k+1,T,cs=>match P.underlying T with
    |some (.int q)=>match cs with
     | [.int q' m]=>bif (decide (q=q')&&(decide (q.min<=m)&&decide (m<=q.max)))then some (.dat T (.int m))else none
     |_=>none
    |some .bool=>match cs with
     | [.bool b]=>some (.dat T (.bool b))
     |_=>none
    |some .string=>match cs with
     | [.string s]=>bif Nat.ble s.size maxLen then some (.dat T (.str s))else none
     |_=>none
    |some (.slice _)=>match cs with
     | [.slice none 0 0]=>some (.nils T)
     |_=>none
    |some (.struct fs)=>bif (Nat.beq cs.length (P.cellsOf T)&&cs.all (·.oneCell'))then(match avF (avC P k) P cs fs.toList with
     |some vs=>some (.agg T vs)
     |none=>none)else none
    |some (.interface _)=>match cs with
     | [.nilIface]=>some (.nif true)
     |_=>none
    |some (.pointer _)=>match cs with
     | [.pointer none]=>some (.dat T (.lst []))
     |_=>none
    |_=>none
def Dj:Value->Bool
 | .agg _=>true
 |_=>false
def cst(P:Program)(v:Value):List TypeId->AV
 | []=> .dead
 |  T::r=>match avC P 8 T v.cells.toList with
    |some a=>bif Dj v==d9 P T then a else .dead
    |none=>cst P v r
def zeroV(P:Program)(T:TypeId):Option AV:=match P.info? T with
 |  some i=>match i.zero with
    |some z=>bif Nat.beq z.cells.size (P.cellsOf T)then avC P 8 T z.cells.toList else none
    |none=>none
 |none=>none
def opd(P:Program)(D:List TypeId)(σ:St)(T:TypeId):Operand->AV
 | .tmp t=>tk σ.ts t
 | .const v=>cst P v (T::D)
 | .func f=> .fn f []
 | .global _=> .dead
def cZ(P:Program)(D:List TypeId)(σ:St):List TypeId->List Operand->List AV
 |T::Ts,x::xs=>opd P D σ T x::cZ P D σ Ts xs
 |_,_=>[]
def Ut(P:Program):AV->Option Bool
 |  .dat T d=>match P.underlying T with
    |some .bool=>some d.toBool
    |_=>none
 |_=>none
def ival(P:Program):AV->Option (TypeId×IntKind×Int)
 |  .dat T d=>match P.underlying T with
    |some (.int k)=>some (T,k,d.toInt)
    |_=>none
 |_=>none
def KU(P:Program):AV->Option (TypeId×ByteArray)
 |  .dat T d=>match P.underlying T with
    |some .string=>some (T,d.toStr)
    |_=>none
 |_=>none
def lval(P:Program)(hs:List Ob)(v:AV):Option (TypeId×TypeId×List Dt):=match pk P hs v with
 |  some (T,d)=>match P.underlying T with
    |some (.slice E)=>some (T,E,d.toLst)
    |_=>none
 |none=>none
def isB(P:Program)(T:TypeId):Bool:=match P.underlying T with
 |some .bool=>true
 |_=>false
def bT(P:Program):List TypeId->Option TypeId
 | []=>none
 |T::r=>bif isB P T then some T else bT P r
def isI(P:Program)(T:TypeId)(k:IntKind):Bool:=match P.underlying T with
 |some (.int k')=>decide (k'=k)
 |_=>false
def isS(P:Program)(T:TypeId):Bool:=match P.underlying T with
 |some .string=>true
 |_=>false
def slE(P:Program)(T:TypeId):Option TypeId:=match P.underlying T with
 |some (.slice E)=>some E
 |_=>none
def stF(P:Program)(T:TypeId):Option (Array Field):=match P.underlying T with
 |some (.struct fs)=>some fs
 |_=>none
def szA(P:Program)(T:TypeId):AV->Bool
 |  .dat T' _=>match P.underlying T' with
    |some (.struct _)=>Nat.beq (P.cellsOf T') (P.cellsOf T)
    |some (.array _ _)=>Nat.beq (P.cellsOf T') (P.cellsOf T)
    |some _=>Nat.beq (P.cellsOf T) 1
    |none=>false
 |  .agg T' _=>match P.underlying T' with
    |some (.struct _)=>Nat.beq (P.cellsOf T') (P.cellsOf T)
    |_=>false
 | .dead=>false
 | .tup _=>false
 |_=>Nat.beq (P.cellsOf T) 1
def szB(P:Program)(T:TypeId)(v:AV):Bool:=(P.underlying T).isSome&&szA P T v
def getAt(P:Program):TypeId->AV->List Nat->Option (TypeId×Nat×AV)
 |S,c,[]=>some (S,0,c)
 |  S,.agg S' vs,i::p=>match stF P S with
    |some fs=>match fs[i]? with
     |some f=>match vs[i]? with
      |some v=>bif (Nat.beq S' S&&Nat.ble (f.offset+P.cellsOf f.type) (P.cellsOf S))then(match getAt P f.type v p with
       |some (T,q,r)=>some (T,f.offset+q,r)
       |none=>none)else none
      |none=>none
     |none=>none
    |none=>none
 |  S,.dat S' d,i::p=>match stF P S with
    |some fs=>match fs[i]? with
     |some f=>bif (Nat.beq S' S&&Nat.ble (f.offset+P.cellsOf f.type) (P.cellsOf S))then(match getAt P f.type (.dat f.type (d.fld i)) p with
       |some (T,q,r)=>some (T,f.offset+q,r)
       |none=>none)else none
     |none=>none
    |none=>none
 |_,_,_::_=>none
def setAt(P:Program)(T':TypeId)(v:AV):TypeId->AV->List Nat->Option (Nat×AV)
 |S,_,[]=>bif Nat.beq S T' then some (0,v)else none
 |  S,c,i::p=>match stF P S with
    |some fs=>match fs[i]? with
     |some f=>match (match c with
        | .agg S' vs=>bif Nat.beq S' S then some vs else none
        | .dat S' d=>bif Nat.beq S' S then some (expl P fs d)else none
        |_=>none:Option (List AV))with
      | some vs=>match vs[i]? with
        |some old=>bif layB P S fs then(match setAt P T' v f.type old p with
         |some (q,new)=>some (f.offset+q,.agg S (vs.set i new))
         |none=>none)else none
        |none=>none
      |none=>none
     |none=>none
    |none=>none
def AV.canon(P:Program):AV->AV
 | .dat T d=> .dat T (canD P T d)
 |v=>v
structure Dl where
 v:Option AV
 rd:List Nat
 wr:List (Nat×Ob)
def wrO(hs:List Ob):List (Nat×Ob)->List Ob
 | []=>hs
 |(l,o)::r=>wrO (bG hs l o) r
def abZ(ts:List AV):Option Nat->Option AV->List AV
 |some d,some v=>xR ts d v
 |_,_=>ts
def St.app(σ:St)(dst:Option Nat)(Y:Dl):St:=⟨abZ σ.ts dst Y.v,wrO σ.hs Y.wr,σ.k0⟩
mutual
def AV.nms:AV->List Nat
 | .agg _ vs=>AV.nmsL vs
 | .row l=>[l]
 | .ptr l _ _=>[l]
 | .eptr l _ _ _ _=>[l]
 | .fn _ vs=>AV.nmsL vs
 | .tup vs=>AV.nmsL vs
 | .ifc _ v=>AV.nms v
 |_=>[]
def AV.nmsL:List AV->List Nat
 | []=>[]
 |v::r=>AV.nms v++AV.nmsL r
end
mutual
def AV.rws:AV->List Nat
 | .agg _ vs=>AV.rwsL vs
 | .row l=>[l]
 | .tup vs=>AV.rwsL vs
 | .ifc _ v=>AV.rws v
 |_=>[]
def AV.rwsL:List AV->List Nat
 | []=>[]
 |v::r=>AV.rws v++AV.rwsL r
end
def Ob.nms:Ob->List Nat
 | .box _ c=>c.nms
 | .rowA _ vs=>AV.nmsL vs
 | .rowD _ _ _ k _ none=>[k]
 | .rowD _ _ _ k _ (some (_,l))=>[k,l]
 |_=>[]
def reach(hs:List Ob):Nat->List Nat->List Nat->List Nat
 |0,_,acc=>acc
 |_+1,[],acc=>acc
 |k+1,l::todo,acc=>bif om l acc then reach hs k todo acc else reach hs k ((lk hs l).nms++todo) (acc++[l])
def Pj(hs:List Ob)(T2 k:Nat):List Nat->Option (List Dt)
 | []=>none
 |  k'::_=>match lk hs k' with
    | .tok T4 ls=>bif Nat.beq k' k&&Nat.beq T4 T2 then some ls else none
    |_=>none
def frzW(hs:List Ob):List Nat->List (Nat×Ob)
 | []=>[]
 |  l ::r=>match lk hs l with
    | .row T es=>(l,.frz T es)::frzW (bG hs l (.frz T es)) r
    | .rowD T T2 c k es none=>match Pj hs T2 k r with
      |some ls=>(l,.row T (frzD c es ls))::(k,.gone)::(l,.frz T (frzD c es ls))::frzW (bG (bG (bG hs l (.row T (frzD c es ls))) k .gone) l (.frz T (frzD c es ls))) r
      |none=>frzW hs r
    |_=>frzW hs r
def ab0(P:Program)(pty:TypeId->Option TypeId)(hs:List Ob)(l:Nat):Option Ob:=match lk hs l with
 |  .box T c=>match pty T with
    |some PT=>match ppE P PT with
     |some T2=>match pk P hs c with
      |some (T',d)=>bif (Nat.beq T' T&&Nat.beq T2 T)then some (.frz PT [d])else none
      |none=>none
     |none=>none
    |none=>none
 |_=>none
def fzbW(P:Program)(pty:TypeId->Option TypeId)(hs:List Ob):List Nat->List (Nat×Ob)
 | []=>[]
 |  l::r=>match ab0 P pty hs l with
    |some o=>(l,o)::fzbW P pty (bG hs l o) r
    |none=>fzbW P pty hs r
def iQ:List AV->List Nat
 | []=>[]
 |  v::r=>(match v with
    | .ptr l [] 0=>[l]
    |_=>[])++iQ r
def pkZ(hs:List Ob)(v:AV):AV:=match v with
 |  .ptr l [] 0=>(match lk hs l with
    | .frz T es=> .dat T (.lst es)
    |_=>v)
 |v=>v
def ad1(k:Nat):List TypeId->List (Nat×Ob)
 | []=>[]
 |T::r=>(k,.row T [])::ad1 (k+1) r
def wm(ρ:Nat->Option Nat)(nm:Nat):List Nat->List Ob->List (Nat×Ob)
 |_,[]=>[]
 | [],o::os=>(nm,o.ren ρ)::wm ρ (nm+1) [] os
 |l::src,o::os=>(l,o.ren ρ)::wm ρ nm src os
def RU:AV->Bool
 | .nils _=>true
 |_=>false
def pkA(P:Program)(b:Bool)(hs:List Ob)(v:AV):AV:=bif (b&&RU v)then v else match pk P hs v with
 |some (T,d)=> .dat T d
 |none=>v
def dn1(P:Program)(v:AV):AV:=match v with
 |  .nils T=>match P.underlying T with
    |some (.slice _)=> .dat T (.lst [])
    |_=>v
 |_=>v
def dnL(P:Program)(ps:List Nat):Nat->List AV->List AV
 |_,[]=>[]
 |k,v::r=>(bif om k ps then dn1 P v else v)::dnL P ps (k+1) r
def qV(P:Program)(hs:List Ob)(v:AV):AV:=match v with
 |  .ptr l [] 0=>match lk hs l with
    | .box T c=>match pk P hs c with
      |some (T',d)=>bif Nat.beq T' T then .rptr T d else v
      |none=>v
    |_=>v
 |_=>v
def Ae(P:Program)(hs:List Ob)(v:AV):AV:=match v with
 | .fn f caps=> .fn f (caps.map (qV P hs))
 |_=>qV P hs v
def J8(hs:List Ob):List Nat->List Nat
 | []=>[]
 |  l::r=>(match lk hs l with
    | .rowD _ _ _ k _ _=>[l,k]
    |_=>[l])++J8 hs r
def dP(hs:List Ob):List Nat->List Nat
 | []=>[]
 |  l::r=>(match lk hs l with
    | .box _ c=>J8 hs c.rws
    |_=>[])++dP hs r
def upto:Nat->Nat->List Nat
 |_,0=>[]
 |k,m+1=>k::upto (k+1) m
def allNames(hs:List Ob):List Nat->Bool
 | []=>true
 |  l::r=>(match lk hs l with
    | .free=>false
    |_=>true)&&allNames hs r
def Uu(P:Program):List AV->Bool
 | []=>true
 |  v::r=>(match v with
    | .tup _=>false
    | .dead=>false
    |v=>!v.isAgg P)&&Uu P r
section
variable{R:Type}(P:Program)(E:Env)(call:FuncId->List AV->List Ob->(Res->Option R)->Option R)
def out(n:Nat)(o:Oper)(v:AV)(rd:List Nat)(wr:List (Nat×Ob))(k:Dl->Option R):Option R:=match o.dst with
 |some d=>bif Nat.blt d n then k ⟨some v,rd,wr⟩else none
 |none=>none
def Xw(o:Oper)(rd:List Nat)(wr:List (Nat×Ob))(k:Dl->Option R):Option R:=match o.dst with
 |some _=>none
 |none=>k ⟨none,rd,wr⟩
def new(σ:St)(k:Nat->Option R):Option R:=bif Nat.ble σ.k0 σ.hs.length then k σ.hs.length else none
def ad2(n:Nat)(o:Oper)(op:BinOp)(T:TypeId)(q:IntKind)(a b:Int)(k:Dl->Option R):Option R:=
 let cmp (r:Bool):Option R:=match bT P (o.type::E.dt)with
    |some TB=>out n o (.dat TB (.bool r)) [] [] k
    |none=>none
 match op with
 | .add=>out n o (.dat T (.int (q.wrap (a+b)))) [] [] k
 | .sub=>out n o (.dat T (.int (q.wrap (a-b)))) [] [] k
 | .mul=>out n o (.dat T (.int (q.wrap (a*b)))) [] [] k
 | .quo=>bif decide (b=0)then none else out n o (.dat T (.int (q.wrap (a.tdiv b)))) [] [] k
 | .rem=>bif decide (b=0)then none else out n o (.dat T (.int (a.tmod b))) [] [] k
 | .and=>out n o (.dat T (.int (andI q a b))) [] [] k
 | .or=>out n o (.dat T (.int (orI q a b))) [] [] k
 | .xor=>out n o (.dat T (.int (xorI q a b))) [] [] k
 | .andNot=>out n o (.dat T (.int (bicI q a b))) [] [] k
 | .lss=>cmp (decide (a<b))
 | .leq=>cmp (decide (a<=b))
 | .gtr=>cmp (decide (b<a))
 | .geq=>cmp (decide (b<=a))
 | .eql=>cmp (a==b)
 | .neq=>cmp (a !=b)
 |_=>none
def ad3(n:Nat)(o:Oper)(op:BinOp)(T:TypeId)(a b:ByteArray)(k:Dl->Option R):Option R:=
 let cmp (r:Bool):Option R:=match bT P (o.type::E.dt)with
    |some TB=>out n o (.dat TB (.bool r)) [] [] k
    |none=>none
 match op with
 | .add=>bif Nat.ble (a.size+b.size) 1152921504606846976 then out n o (.dat T (.str (a++b))) [] [] k else none
 | .lss=>cmp (Op.bytesLess a.toList b.toList)
 | .eql=>cmp (a.toList==b.toList)
 | .neq=>cmp (!(a.toList==b.toList))
 |_=>none
def Xx(n:Nat)(o:Oper)(op:BinOp)(a b:Bool)(k:Dl->Option R):Option R:=
 let cmp (r:Bool):Option R:=match bT P (o.type::E.dt)with
    |some TB=>out n o (.dat TB (.bool r)) [] [] k
    |none=>none
 match op with
 | .eql=>cmp (a==b)
 | .neq=>cmp (!(a==b))
 |_=>none
def Oa(σ:St)(fs:Array Field):List (Nat×Operand)->List AV->Option (List AV)
 | [],vs=>some vs
 |  (i,x)::r,vs=>match fs[i]? with
    |some f=>bif szB P f.type (opd P E.dt σ f.type x)then Oa σ fs r (vs.set i (opd P E.dt σ f.type x))else none
    |none=>none
def dense:Nat->List (Nat×Operand)->Bool
 |_,[]=>true
 |j,(i,_)::r=>Nat.beq i j&&dense (j+1) r
def xX(hs:List Ob)(Te:TypeId):List AV->Option (List Dt)
 | []=>some []
 |  v::r=>match pk P hs v with
    |some (T,d)=>bif (compat P T Te&&szB P Te (.dat Te d))then(match xX hs Te r with
     |some ds=>some (d::ds)
     |none=>none)else none
    |none=>none
def uV(σ:St)(m:Int):Option Operand->Option Int
 |none=>some m
 |  some x=>match ival P (opd P E.dt σ 0 x)with
    |some (_,_,i)=>some i
    |none=>none
def ab1(n:Nat)(o:Oper):Bool:=match o.dst with
 |some d=>Nat.blt d n
 |none=>true
def Cz:Ob->Ob
 |  .box T c=>match pk P [] c with
    |some (T',d)=>bif Nat.beq T' T then .box T (.dat T (canD P T d))else .box T c
    |none=> .box T c
 |o=>o
def akA(b:Bool)(os:List Ob):List Ob:=bif b then os.map (Cz P)else os
mutual
def Uv:Dt->Dt->Bool
 | .int a,.int b=>decide (a=b)
 | .bool a,.bool b=>decide (a=b)
 | .str a,.str b=>a==b
 | .agg a,.agg b=>CB a b
 | .lst a,.lst b=>CB a b
 |_,_=>false
def CB:List Dt->List Dt->Bool
 | [],[]=>true
 |a::r,b::s=>Uv a b&&CB r s
 |_,_=>false
end
mutual
theorem Zu:∀{a b:Dt},Uv a b=true->a=b
 | .int a,b,h=>by cases b<;>simp only[Uv]at h<;>first|cases h|(rw[of_decide_eq_true h])
 | .bool a,b,h=>by cases b<;>simp only[Uv]at h<;>first|cases h|(rw[of_decide_eq_true h])
 | .str a,b,h=>by cases b<;>simp only[Uv]at h<;>first|cases h|(rw[(u6 _ _).1 h])
 | .agg a,b,h=>by cases b<;>simp only[Uv]at h<;>first|cases h|(rw[EK h])
 | .lst a,b,h=>by cases b<;>simp only[Uv]at h<;>first|cases h|(rw[EK h])
theorem EK:∀{a b:List Dt},CB a b=true->a=b
 | [],b,h=>by cases b<;>simp only[CB]at h<;>first|rfl|cases h
 |x::r,b,h=>by
  cases b with
  |nil=>simp only[CB]at h;cases h
  |cons y s=>
   simp only[CB,aM]at h;rw[Zu h.1,EK h.2]
end
mutual
def BR:AV->AV->Bool
 | .dat T a,.dat S b=>Nat.beq T S&&Uv a b
 | .agg T a,.agg S b=>Nat.beq T S&&CG a b
 | .row a,.row b=>Nat.beq a b
 | .ptr a p i,.ptr b q j=>Nat.beq a b&&(decide (p=q)&&Nat.beq i j)
 | .fn f a,.fn g b=>Nat.beq f g&&CG a b
 | .nils T,.nils S=>Nat.beq T S
 | .dead,.dead=>true
 |_,_=>false
def CG:List AV->List AV->Bool
 | [],[]=>true
 |a::r,b::s=>BR a b&&CG r s
 |_,_=>false
end
mutual
theorem Zv:∀{a b:AV},BR a b=true->a=b
 | .dat T a,b,h=>by cases b<;>simp only[BR,aM]at h<;>first|cases h;done|(rw[aU h.1,Zu h.2])
 | .agg T a,b,h=>by cases b<;>simp only[BR,aM]at h<;>first|cases h;done|(rw[aU h.1,xY h.2])
 | .row a,b,h=>by cases b<;>simp only[BR]at h<;>first|cases h;done|(rw[aU h])
 | .ptr a p i,b,h=>by cases b<;>simp only[BR,aM]at h<;>first|cases h;done|(rw[aU h.1,of_decide_eq_true h.2.1,aU h.2.2])
 | .fn f a,b,h=>by cases b<;>simp only[BR,aM]at h<;>first|cases h;done|(rw[aU h.1,xY h.2])
 | .nils T,b,h=>by cases b<;>simp only[BR]at h<;>first|cases h;done|(rw[aU h])
 | .dead,b,h=>by cases b<;>simp only[BR]at h<;>first|rfl|cases h
 | .eptr _ _ _ _ _,b,h=>by simp only[BR]at h;cases h
 | .rptr _ _,b,h=>by simp only[BR]at h;cases h
 | .tup _,b,h=>by simp only[BR]at h;cases h
 | .nif _,b,h=>by simp only[BR]at h;cases h
 | .ifc _ _,b,h=>by simp only[BR]at h;cases h
theorem xY:∀{a b:List AV},CG a b=true->a=b
 | [],b,h=>by cases b<;>simp only[CG]at h<;>first|rfl|cases h
 |x::r,b,h=>by
  cases b with
  |nil=>simp only[CG]at h;cases h
  |cons y s=>
   simp only[CG,aM]at h;rw[Zv h.1,xY h.2]
end
def ad4:Ob->Ob->Bool
 | .box T a,.box S b=>Nat.beq T S&&BR a b
 | .row T a,.row S b=>Nat.beq T S&&CB a b
 | .rowA T a,.rowA S b=>Nat.beq T S&&CG a b
 | .frz T a,.frz S b=>Nat.beq T S&&CB a b
 | .map T a,.map S b=>Nat.beq T S&&CB a b
 | .gone,.gone=>true
 |_,_=>false
theorem Zw{a b:Ob}(h:ad4 a b=true):a=b:=by cases a<;>cases b<;>simp only[ad4,aM]at h<;>first|rfl|cases h;done|(rw[aU h.1,Zv h.2])|(rw[aU h.1,EK h.2])|(rw[aU h.1,xY h.2])
def ad5(hs:List Ob)(src:List Nat):List (Nat×Ob)->List (Nat×Ob)
 | []=>[]
 |(l,o)::r=>bif (om l src&&ad4 o (lk hs l))then ad5 hs src r else(l,o)::ad5 hs src r
def keepW(b:Bool)(hs:List Ob)(src:List Nat)(ws:List (Nat×Ob)):List (Nat×Ob):=bif (b&&nodupB (ws.map (·.1)))then ad5 hs src ws else ws
def uW(n:Nat)(o:Oper)(σ:St)(f:FuncId)(as:List AV)(hs1:List Ob)(rd0:List Nat)(wr0:List (Nat×Ob))(nm:Nat)(src:List Nat)(k:Dl->Option R):Option R:=
 bif (nodupB src&&(allNames hs1 src&&Nat.ble σ.k0 σ.hs.length))then
    call f (AV.renL (ix src) as) (akA P (E.pkb f) (sZ (ix src) hs1 src)) fun q=>
     bif (Nat.ble src.length q.2.length&&ab1 n o)then
      k ⟨o.dst.map fun _=>q.1.ren (bkN src nm),rd0++(src++upto σ.hs.length ((nm-σ.hs.length)+(q.2.length-src.length))),wr0++keepW (E.rdo f) hs1 src (wm (bkN src nm) nm src q.2)⟩
     else none
 else none
def scT(T:TypeId):Bool:=match P.underlying T with
 |some (.int _)=>true
 |some .bool=>true
 |some .string=>true
 |_=>false
def scV:AV->Bool
 | .dat T _=>scT P T
 |_=>false
def scR:AV->Bool
 | .tup vs=>vs.all (scV P)
 |v=>scV P v
def ad6(f:FuncId):Bool:=match E.fns f with
 |some fn=>fn.resultTypes.toList.all (scT P)
 |none=>false
def isNil{A:Type}:List A->Bool
 | []=>true
 |_=>false
def Xy(n:Nat)(o:Oper)(σ:St)(g:Operand)(xs:List Operand)(Ts:List TypeId)(k:Dl->Option R):Option R:=
 match opd P E.dt σ 0 g with
 |  .fn f caps=>bif (Nat.beq xs.length Ts.length&&Uu P caps)then
    (bif E.own f then
     let r1:=AV.n2rL P (dnL P (E.nd f) 0 (cZ P E.dt σ Ts xs)) σ.hs.length
     let hs1:=zD σ.hs σ.hs.length r1.2
     uW P E call n o σ f (r1.1++caps) hs1 [] (ad1 σ.hs.length r1.2) (σ.hs.length+r1.2.length) (reach hs1 1000 (AV.nmsL (r1.1++caps)) []) k
    else bif E.fzc f then
     let bs:=iQ (cZ P E.dt σ Ts xs)
     let L:=AV.rwsL (cZ P E.dt σ Ts xs)++dP σ.hs bs
     let hs1:=wrO σ.hs (frzW σ.hs L)
     let hs2:=wrO hs1 (fzbW P E.pty hs1 bs)
     uW P E call n o σ f ((cZ P E.dt σ Ts xs).map (fun v=>pkZ hs2 (pkA P (E.raw f) hs2 v))++caps) hs2 (L++bs) (frzW σ.hs L++fzbW P E.pty hs1 bs) σ.hs.length (reach hs2 1000 (AV.nmsL ((cZ P E.dt σ Ts xs).map (fun v=>pkZ hs2 (pkA P (E.raw f) hs2 v))++caps)) []) k
    else
     let rws:=AV.rwsL (cZ P E.dt σ Ts xs)
     let fw:=frzW σ.hs rws
     let hs1:=wrO σ.hs fw
     let as1:=(cZ P E.dt σ Ts xs).map (pkA P (E.raw f) hs1)
     bif (ad6 P E f&&isNil (AV.nmsL (as1++caps)))then
        call f (AV.renL (ix []) (as1++caps)) [] fun q=>bif (scR P q.1&&(isNil q.2&&ab1 n o))then k ⟨o.dst.map fun _=>q.1,rws,[]⟩else none
     else
        let bx:=AV.nmsL (cZ P E.dt σ Ts xs++caps)
        let L:=rws++dP σ.hs bx
        let hs2:=wrO σ.hs (frzW σ.hs L)
        let as2:=(cZ P E.dt σ Ts xs).map fun v=>Ae P hs2 (pkA P (E.raw f) hs2 v)
        let cs2:=caps.map (qV P hs2)
        bif (E.lnd f&&(ad6 P E f&&isNil (AV.nmsL (as2++cs2))))then
          call f (AV.renL (ix []) (as2++cs2)) [] fun q=>bif (scR P q.1&&(isNil q.2&&ab1 n o))then k ⟨o.dst.map fun _=>q.1,L++bx,[]⟩else none
        else
          uW P E call n o σ f (as1++caps) hs1 rws fw σ.hs.length (reach hs1 1000 (AV.nmsL (as1++caps)) []) k)
    else none
 |_=>none
def Xz:AV->Bool
 | .dead=>false
 | .tup _=>false
 |_=>true
def RX(n:Nat)(o:Oper)(σ:St)(T:TypeId)(x:Operand)(k:Dl->Option R):Option R:=
 bif (PI P T&&Xz (opd P E.dt σ T x))then out n o (.ifc T (opd P E.dt σ T x)) [] [] k else none
def ad7(n:Nat)(o:Oper)(σ:St)(g:Operand)(name:String)(xs:List Operand)(Ts:List TypeId)(k:Dl->Option R):Option R:=
 match opd P E.dt σ 0 g with
 |  .ifc T v=>match ZL P T name with
    |some f=>bif (Nat.beq xs.length Ts.length&&(Xz v&&!E.own f))then
      let rws:=AV.rwsL (v::cZ P E.dt σ Ts xs)
      let fw:=frzW σ.hs rws
      let hs1:=wrO σ.hs fw
      let as1:=(v::cZ P E.dt σ Ts xs).map (pkA P (E.raw f) hs1)
      uW P E call n o σ f as1 hs1 rws fw σ.hs.length (reach hs1 1000 (AV.nmsL as1) []) k
     else none
    |none=>none
 |_=>none
def j3(T Te:TypeId):Bool:=(match slE P T with
 |some Te'=>Nat.beq Te' Te
 |none=>false)&&!Nat.beq (P.cellsOf Te) 0
def IU(T:TypeId):Option Dt:=match zeroV P T with
 |  some v=>match pk P [] v with
    |some (T',d)=>bif Nat.beq T' T then some d else none
    |none=>none
 |none=>none
def EL(   n:Nat)(o:Oper)(σ:St)(T T':TypeId)(vx vy:AV)(k:Dl->Option R):Option R:=
 match slE P T,IU P ((slE P T).getD 0)with
 |  some Te,some _=>bif (Nat.beq T T'&&!Nat.beq (P.cellsOf Te) 0)then
    match (match vy with
     | .row l=>match lk σ.hs l with
       | .row T5 ds=>bif j3 P T5 Te then some ([l],ds)else none
       | .frz T5 ds=>bif j3 P T5 Te then some ([l],ds)else none
       |_=>none
     | v=>match lval P [] v with
       |some (_,Te',ds)=>bif Nat.beq Te' Te then some ([],ds)else none
       |none=>none:Option (List Nat×List Dt))with
    |some (rd,ds)=>match vx with
     | .row l=>match lk σ.hs l with
       | .row T5 es=>bif j3 P T5 Te then new σ fun nm=>adf (P.bytesOf Te) es ds fun rs=>out n o (.row nm) (l::nm::rd) [(l,.gone),(nm,.row T5 rs)] k else none
       | .rowD T5 T2 c kk es none=>match lk σ.hs kk with
         | .tok T4 ls=>bif j3 P T5 Te&&(Nat.beq T4 T2&&ds.all fun e=>!lkd c e)then new σ fun nm=>adf (P.bytesOf Te) es ds fun rs=>
          out n o (.row (nm+1)) (l::kk::nm::(nm+1)::rd) [(l,.rowD T5 T2 c nm es none),(kk,.gone),(nm,.tok T2 (ls++List.replicate ds.length (.lst []))),(l,.gone),(nm+1,.rowD T5 T2 c nm rs none)] k else none
         |_=>none
       |_=>none
     | .nils T5=>bif j3 P T5 Te then new σ fun nm=>adf (P.bytesOf Te) [] ds fun rs=>out n o (.row (nm+1)) (nm::(nm+1)::rd) [(nm,.gone),(nm+1,.row T5 rs)] k else none
     |_=>none
    |none=>none
    else none
 |_,_=>none
def alR(P:Program)(Te:TypeId):Ob->Option (List AV)
 | .row T es=>bif j3 P T Te then some (es.map (.dat Te))else none
 | .rowA T vs=>bif j3 P T Te then some vs else none
 |_=>none
def Pk(n:Nat)(o:Oper)(σ:St)(T T':TypeId)(l l2:Nat)(k:Dl->Option R):Option R:=
 match slE P T,IU P ((slE P T).getD 0)with
 |  some Te,some _=>bif (Nat.beq T T'&&(!Nat.beq (P.cellsOf Te) 0&&Nat.ble (P.bytesOf Te) 1024))then
    match alR P Te (lk σ.hs l),alR P Te (lk σ.hs l2)with
    |some es,some ds=>bif Nat.ble (es.length+ds.length) 137438953472 then
     new σ fun nm=>out n o (.row nm) [l,nm,l2] [(l,.gone),(nm,.rowA T (es++ds))] k else none
    |_,_=>none
    else none
 |_,_=>none
def aiX:Ob->Bool
 | .rowA _ _=>true
 |_=>false
def Gt(n:Nat)(o:Oper)(σ:St)(T T':TypeId)(vx vy:AV)(k:Dl->Option R):Option R:=match vx,vy with
 | .row l,.row l2=>bif (aiX (lk σ.hs l2)||aiX (lk σ.hs l))then Pk P n o σ T T' l l2 k else EL P n o σ T T' (.row l) (.row l2) k
 |vx,vy=>EL P n o σ T T' vx vy k
def u8B(T:TypeId):Bool:=isI P T .u8&&(match P.info? T with
 |  some i=>Nat.beq i.size 1&&(Nat.beq i.bytes 1&&(match i.zero with
    |some (.int .u8 m)=>decide (m=0)
    |_=>false))
 |none=>false)
def Gu(n:Nat)(o:Oper)(σ:St)(T T':TypeId)(vx vy:AV)(k:Dl->Option R):Option R:=
 match slE P T with
 |  some Te=>bif (u8B P Te&&isS P T')then
    match KU P vy with
    |some (_,s)=>match vx with
     | .row l=>match lk σ.hs l with
       | .row T5 es=>bif j3 P T5 Te then new σ fun nm=>(app es (bytesD s)).bind fun rs=>out n o (.row nm) [l,nm] [(l,.gone),(nm,.row T5 rs)] k else none
       |_=>none
     |_=>none
    |none=>none
    else none
 |none=>none
def RY(n:Nat)(o:Oper)(σ:St)(Te S2:TypeId)(vy:AV)(k:Dl->Option R):Option R:=
 bif (isI P Te .u8&&(Nat.beq (P.cellsOf Te) 1&&isS P S2))then
    match (match vy with
     | .row l=>match lk σ.hs l with
       | .row T5 ds=>bif j3 P T5 Te then some ([l],ds)else none
       | .frz T5 ds=>bif j3 P T5 Te then some ([l],ds)else none
       |_=>none
     | v=>match lval P [] v with
       |some (_,Te',ds)=>bif Nat.beq Te' Te then some ([],ds)else none
       |none=>none:Option (List Nat×List Dt))with
    |some (rd,ds)=>(aow ds).bind fun s=>out n o (.dat S2 (.str s)) rd [] k
    |none=>none
 else none
def XA(n:Nat)(o:Oper)(σ:St)(c x y:Operand)(k:Dl->Option R):Option R:=match Ut P (opd P E.dt σ 0 c)with
 |some b=>bif b then out n o (opd P E.dt σ o.type x) [] [] k else out n o (opd P E.dt σ o.type y) [] [] k
 |none=>none
def RZ(n:Nat)(o:Oper)(σ:St)(T:TypeId)(k:Dl->Option R):Option R:=match zeroV P T with
 |some v=>new σ fun nm=>out n o (.ptr nm [] 0) [nm] [(nm,.box T v)] k
 |none=>none
def ad8(n:Nat)(o:Oper)(σ:St)(T:TypeId)(x:Operand)(k:Dl->Option R):Option R:=
 bif szB P T (opd P E.dt σ T x)then new σ fun nm=>out n o (.ptr nm [] 0) [nm] [(nm,.box T (opd P E.dt σ T x))] k else none
def R3(n:Nat)(o:Oper)(σ:St)(T:TypeId)(parts:List (Nat×Operand))(k:Dl->Option R):Option R:=match stF P T with
 |  some fs=>match zeroV P T with
    |some (.agg T' vs)=>bif (Nat.beq T' T&&(layB P T fs&&Ue P fs))then(match Oa P E σ fs parts vs with
     |some us=>out n o (.agg T us) [] [] k
     |none=>none)else none
    |_=>none
 |none=>none
def Uw(n:Nat)(o:Oper)(σ:St)(T:TypeId)(parts:List (Nat×Operand))(k:Dl->Option R):Option R:=
 match P.underlying T with
    |some (.array len Te)=>match P.info? T with
     | some zi=>match zi.zero with
       |some za=>match xX P [] Te ((parts.map (·.2)).map (opd P E.dt σ Te))with
        |some ds=>bif (dense 0 parts&&(Nat.beq len parts.length&&(!Nat.beq len 0&&(!Nat.beq (P.cellsOf Te) 0&&(Nat.beq za.cells.size (len*P.cellsOf Te)&&Nat.beq (P.cellsOf T) (len*P.cellsOf Te))))))then out n o (.dat T (.lst ds)) [] [] k else none
        |none=>none
       |none=>none
     |none=>none
    |_=>none
def KV(n:Nat)(o:Oper)(σ:St)(T:TypeId)(parts:List (Nat×Operand))(k:Dl->Option R):Option R:=match stF P T with
 |some _=>R3 P E n o σ T parts k
 |none=>Uw P E n o σ T parts k
def yU(n:Nat)(o:Oper)(σ:St)(T:TypeId)(len:Nat)(parts:List (Nat×Operand))(k:Dl->Option R):Option R:=match slE P T with
 |  some Te=>match IU P Te with
    |some _=>match xX P (wrO σ.hs (frzW σ.hs (AV.rwsL (parts.map fun p=>opd P E.dt σ Te p.2)))) Te (parts.map fun p=>opd P E.dt σ Te p.2)with
     |some ds=>bif (dense 0 parts&&(Nat.beq len parts.length&&(!Nat.beq len 0&&(!Nat.beq (P.cellsOf Te) 0&&Nat.ble (len*P.cellsOf Te) 16777216))))then
       new σ fun nm=>out n o (.row nm) (nm::AV.rwsL (parts.map fun p=>opd P E.dt σ Te p.2)) (frzW σ.hs (AV.rwsL (parts.map fun p=>opd P E.dt σ Te p.2))++[(nm,.row T ds)]) k
      else none
     |none=>none
    |none=>none
 |none=>none
def Pm(n:Nat)(o:Oper)(σ:St)(T:TypeId)(len:Nat)(parts:List (Nat×Operand))(k:Dl->Option R):Option R:=match slE P T with
 |  some Te=>match IU P Te with
    |some _=>bif ((parts.map (·.2)).all (fun x=>szB P Te (opd P E.dt σ Te x))&&(dense 0 parts&&(Nat.beq len parts.length&&(!Nat.beq len 0&&(!Nat.beq (P.cellsOf Te) 0&&Nat.ble (len*P.cellsOf Te) 16777216)))))then
      new σ fun nm=>out n o (.row nm) [nm] [(nm,.rowA T ((parts.map (·.2)).map (opd P E.dt σ Te)))] k
     else none
    |none=>none
 |none=>none
def Gv(n:Nat)(o:Oper)(σ:St)(T:TypeId)(len:Nat)(parts:List (Nat×Operand))(k:Dl->Option R):Option R:=
 bif E.nest o then Pm P E n o σ T len parts k else yU P E n o σ T len parts k
def R4(n:Nat)(o:Oper)(σ:St)(T l i sz off:Nat)(T5 T2:TypeId)(c:Option Nat)(kk:Nat)(es:List Dt)(h:Option (Nat×Nat))(k:Dl->Option R):Option R:=match h,slE P T5,slE P T,lk σ.hs kk with
 |  none,some Te,some _,.tok T4 ls=>match LC P Te c with
    |some (T3,fo)=>bif (Nat.beq T3 T&&(Nat.beq T2 T&&(Nat.beq T4 T&&(Nat.beq fo off&&Nat.beq sz (P.cellsOf Te)))))then
      new σ fun nm=>(es[i]?).bind fun e=>bif lkd c e then(ls[i]?).bind fun e2=>
         out n o (.row nm) [l,kk,nm,nm+1] [(l,.rowD T5 T c (nm+1) es (some (i,nm))),(kk,.gone),(nm,.row T e2.toLst),(nm+1,.tok T (ls.set i (.lst [])))] k else none
     else none
    |none=>none
 |_,_,_,_=>none
def ad9(c:Option Nat)(v:AV):Option Nat:=match c,v with
 |none,.row m=>some m
 |  some f,.agg _ vs=>match vs[f]? with
    |some (.row m)=>some m
    |_=>none
 |_,_=>none
def BS(m:Nat):List Nat->List Nat
 | []=>[]
 |l::r=>bif Nat.beq l m then BS m r else l::BS m r
def KW(hs:List Ob)(Te T2:TypeId)(c:Option Nat)(v:AV):Option Dt:=match c,v with
 |none,_=>some (.bool true)
 |  some f,.agg T' vs=>match pk P hs (.agg Te (vs.set f (.nils T2)))with
    |some (T3,e')=>bif (Nat.beq T' Te&&Nat.beq T3 Te)then some (hol (some f) e' (.bool true))else none
    |none=>none
 |_,_=>none
def KX(o:Oper)(σ:St)(T l i sz:Nat)(path:List Nat)(off:Nat)(T5 T2:TypeId)(c:Option Nat)(kk:Nat)(es:List Dt)(h:Option (Nat×Nat))(v:AV)(k:Dl->Option R):Option R:=match h,path,slE P T5,ad9 c v with
 |  none,[],some Te,some m=>match LC P Te c,slE P T2,KW P (wrO σ.hs (frzW σ.hs (BS m v.rws))) Te T2 c v with
    |some (T3,_),some _,some d'=>bif (Nat.beq T3 T2&&(Nat.beq Te T&&(Nat.beq off 0&&(Nat.beq sz (P.cellsOf T)&&!om l (BS m v.rws)))))then
      (es[i]?).bind fun _=>Xw o (l::v.rws) (frzW σ.hs (BS m v.rws)++[(l,.rowD T5 T2 c kk (es.set i d') (some (i,m)))]) k
     else none
    |_,_,_=>none
 |_,_,_,_=>none
def XB(n:Nat)(o:Oper)(σ:St)(T:TypeId)(x:Operand)(k:Dl->Option R):Option R:=match opd P E.dt σ 0 x with
 | .rptr T' d=>bif (Nat.beq T' T&&szB P T (.dat T d))then out n o (.dat T (canD P T d)) [] [] k else none
 |  .ptr l path off=>match lk σ.hs l with
    | .box S c=>match getAt P S c path with
      |some (T',q,v)=>bif (Nat.beq T' T&&(Nat.beq q off&&(szB P T v&&(v.isAgg P==d9 P T))))then out n o (v.canon P) [l] [] k else none
      |none=>none
    |_=>none
 |  .eptr l i sz path off=>match lk σ.hs l with
    | .row T5 es=>match slE P T5 with
      |some Te=>(es[i]?).bind fun e=>match getAt P Te (.dat Te e) path with
       |some (T',q,v)=>bif (Nat.beq T' T&&(Nat.beq q off&&(Nat.beq sz (P.cellsOf Te)&&(szB P T v&&(v.isAgg P==d9 P T)))))then out n o (v.canon P) [l] [] k else none
       |none=>none
      |none=>none
    | .rowA T5 vs=>match slE P T5 with
      |some Te=>(vs[i]?).bind fun e=>match getAt P Te e path with
       |some (T',q,v)=>bif (Nat.beq T' T&&(Nat.beq q off&&(Nat.beq sz (P.cellsOf Te)&&(szB P T v&&(v.isAgg P==d9 P T)))))then out n o (v.canon P) [l] [] k else none
       |none=>none
      |none=>none
    | .rowD T5 T2 c kk es h=>R4 P n o σ T l i sz off T5 T2 c kk es h k
    |_=>none
 |_=>none
def R5(o:Oper)(σ:St)(T:TypeId)(x y:Operand)(k:Dl->Option R):Option R:=
 bif (szB P T (opd P E.dt σ T y)&&!Nat.beq (P.cellsOf T) 0)then(match opd P E.dt σ 0 x with
 |  .ptr l path off=>match lk σ.hs l with
    | .box S c=>match setAt P T (opd P E.dt σ T y) S c path with
      |some (q,c')=>bif Nat.beq q off then Xw o [l] [(l,.box S c')] k else none
      |none=>none
    |_=>none
 |  .eptr l i sz path off=>match lk σ.hs l with
    | .row T5 es=>match slE P T5 with
      |some Te=>(es[i]?).bind fun e=>match setAt P T (opd P E.dt σ T y) Te (.dat Te e) path with
       |  some (q,c')=>match pk P (wrO σ.hs (frzW σ.hs (opd P E.dt σ T y).rws)) c' with
          |some (Te',e')=>bif (Nat.beq q off&&(Nat.beq sz (P.cellsOf Te)&&(compat P Te' Te&&!om l (opd P E.dt σ T y).rws)))then Xw o (l::(opd P E.dt σ T y).rws) (frzW σ.hs (opd P E.dt σ T y).rws++[(l,.row T5 (es.set i e'))]) k else none
          |none=>none
       |none=>none
      |none=>none
    | .rowA T5 vs=>match slE P T5 with
      |some Te=>(vs[i]?).bind fun e=>match setAt P T (opd P E.dt σ T y) Te e path with
       |some (q,c')=>bif (Nat.beq q off&&Nat.beq sz (P.cellsOf Te))then Xw o [l] [(l,.rowA T5 (vs.set i c'))] k else none
       |none=>none
      |none=>none
    | .rowD T5 T2 c kk es h=>KX P o σ T l i sz path off T5 T2 c kk es h (opd P E.dt σ T y) k
    |_=>none
 |_=>none)else none
def Dk(n:Nat)(o:Oper)(σ:St)(x:Operand)(k:Dl->Option R):Option R:=match opd P E.dt σ 0 x with
 | .rptr T d=>out n o (.rptr T d) [] [] k
 | .ptr l p q=>out n o (.ptr l p q) [] [] k
 | .eptr l i z p q=>out n o (.eptr l i z p q) [] [] k
 | .fn f c=>out n o (.fn f c) [] [] k
 |  .dat T d=>match ppE P T with
    |some T2=>(idx d.toLst 0).bind fun e=>out n o (.rptr T2 e) [] [] k
    |none=>none
 |_=>none
def aea(n:Nat)(o:Oper)(op:BinOp)(T:TypeId)(vx:AV)(y:Operand)(k:Dl->Option R):Option R:=match y with
 |  .const .nilIface=>match P.underlying T with
    |some (.interface _)=>match vx with
     | .nif b=>match bT P (o.type::E.dt)with
       |some TB=>match op with
        | .eql=>out n o (.dat TB (.bool b)) [] [] k
        | .neq=>out n o (.dat TB (.bool (!b))) [] [] k
        |_=>none
       |none=>none
     |_=>none
    |_=>none
 |_=>none
def alS(n:Nat)(o:Oper)(σ:St)(op:BinOp)(T:TypeId)(x y:Operand)(k:Dl->Option R):Option R:=match y with
 |  .const (.pointer none)=>match ppE P T with
    |some _=>match opd P E.dt σ T x with
     | .dat T1 p=>bif Nat.beq T1 T then(match bT P (o.type::E.dt)with
       |some TB=>match op with
        | .eql=>out n o (.dat TB (.bool p.toLst.isEmpty)) [] [] k
        | .neq=>out n o (.dat TB (.bool (!p.toLst.isEmpty))) [] [] k
        |_=>none
       |none=>none)else none
     |_=>none
    |none=>none
 |_=>none
def alT(n:Nat)(o:Oper)(σ:St)(op:BinOp)(T:TypeId)(x y:Operand)(T':TypeId)(k:Dl->Option R):Option R:=match opd P E.dt σ T' y with
 |  .dat T2 q=>match opd P E.dt σ T x with
    | .dat T1 p=>bif (aeQ P T&&(Nat.beq T1 T&&Nat.beq T2 T))then(match bT P (o.type::E.dt)with
      |some TB=>match op with
       | .eql=>out n o (.dat TB (.bool (ptE p q))) [] [] k
       | .neq=>out n o (.dat TB (.bool (!(ptE p q)))) [] [] k
       |_=>none
      |none=>none)else alS P E n o σ op T x y k
    |_=>none
 |_=>aea P E n o op T (opd P E.dt σ T x) y k
def aeb(n:Nat)(o:Oper)(σ:St)(op:BinOp)(T:TypeId)(x y:Operand)(T':TypeId)(k:Dl->Option R):Option R:=match ival P (opd P E.dt σ T x)with
 |  some (Tx,q,a)=>match ival P (opd P E.dt σ T' y)with
    |some (_,q',b)=>match op with
     | .shl=>bif decide (0<=b)then out n o (.dat Tx (.int (shlI q a b))) [] [] k else none
     | .shr=>bif decide (0<=b)then out n o (.dat Tx (.int (shrI q a b))) [] [] k else none
     |_=>bif decide (q=q')then ad2 P E n o op Tx q a b k else none
    |none=>none
 |  none=>match KU P (opd P E.dt σ T x)with
    |some (Tx,a)=>match KU P (opd P E.dt σ T' y)with
     |some (_,b)=>ad3 P E n o op Tx a b k
     |none=>none
    |none=>match Ut P (opd P E.dt σ T x)with
     |some a=>match Ut P (opd P E.dt σ T' y)with
      |some b=>bif isB P T then Xx P E n o op a b k else none
      |none=>none
     |none=>alT P E n o σ op T x y T' k
def aec(n:Nat)(o:Oper)(σ:St)(x:Operand)(k:Dl->Option R):Option R:=match Ut P (opd P E.dt σ o.type x)with
 |  some b=>match bT P (o.type::E.dt)with
    |some TB=>out n o (.dat TB (.bool (!b))) [] [] k
    |none=>none
 |none=>none
def aed(n:Nat)(o:Oper)(σ:St)(T:TypeId)(x:Operand)(k:Dl->Option R):Option R:=match ival P (opd P E.dt σ T x)with
 |some (Tx,q,a)=>out n o (.dat Tx (.int (q.wrap (0-a)))) [] [] k
 |none=>none
def R6(n:Nat)(o:Oper)(σ:St)(T:TypeId)(x:Operand)(k:Dl->Option R):Option R:=match ival P (opd P E.dt σ T x)with
 |some (Tx,q,a)=>out n o (.dat Tx (.int (complI q a))) [] [] k
 |none=>none
def Gw(n:Nat)(o:Oper)(σ:St)(S1 S2:TypeId)(x:Operand)(k:Dl->Option R):Option R:=match ival P (opd P E.dt σ S1 x)with
 |  some (_,q,a)=>match P.underlying S2 with
    |some (.int q2)=>bif isI P S1 q then out n o (.dat S2 (.int (q2.wrap a))) [] [] k else none
    |_=>none
 |  none=>match KU P (opd P E.dt σ S1 x)with
    |some (_,s)=>bif (isS P S1&&isS P S2)then out n o (.dat S2 (.str s)) [] [] k else none
    |none=>none
def XC(    n:Nat)(o:Oper)(σ:St)(T:TypeId)(x y:Operand)(k:Dl->Option R):Option R:=match slE P T with
 |  some Te=>match IU P Te with
    |some z=>match uV P E σ 0 (some x)with
     |some a=>match uV P E σ 0 (some y)with
      |some b=>bif (!Nat.beq (P.cellsOf Te) 0)then
           new σ fun nm=>mkK (P.bytesOf Te) a b z fun es=>out n o (.row nm) [nm] [(nm,.row T es)] k
       else none
      |none=>none
     |none=>none
    |none=>none
 |none=>none
def KY(n:Nat)(o:Oper)(σ:St)(T:TypeId)(x:Operand)(lo hi:Option Operand)(k:Dl->Option R):Option R:=match opd P E.dt σ T x with
 |  .row l=>match lk σ.hs l with
    | .row _ es=>match uV P E σ 0 lo with
      |some a=>match uV P E σ es.length hi with
       |some b=>match slE P T with
        |some Te=>bif !Nat.beq (P.cellsOf Te) 0 then(cutL es a b).bind fun _=>out n o .dead [l] [] k else none
        |none=>none
       |none=>none
      |none=>none
    |_=>none
 |_=>none
def R7(n:Nat)(o:Oper)(σ:St)(T:TypeId)(x:Operand)(lo hi:Option Operand)(k:Dl->Option R):Option R:=bif E.sld o then KY P E n o σ T x lo hi k else match KU P (opd P E.dt σ T x)with
 |  some (Tx,s)=>match uV P E σ 0 lo with
    |some a=>match uV P E σ s.size hi with
     |some b=>bif isS P T then(cutS s a b).bind fun r=>out n o (.dat Tx (.str r)) [] [] k else none
     |none=>none
    |none=>none
 |  none=>match lval P (wrO σ.hs (frzW σ.hs (opd P E.dt σ T x).rws)) (opd P E.dt σ T x)with
    |some (Tx,Te,es)=>match uV P E σ 0 lo with
     |some a=>match uV P E σ es.length hi with
      |some b=>bif j3 P T Te then(cutL es a b).bind fun r=>out n o (.dat Tx (.lst r)) (opd P E.dt σ T x).rws (frzW σ.hs (opd P E.dt σ T x).rws) k else none
      |none=>none
     |none=>none
    |none=>none
def Af(n:Nat)(o:Oper)(σ:St)(S:TypeId)(x:Operand)(i:Nat)(k:Dl->Option R):Option R:=match stF P S with
 |  some fs=>match fs[i]? with
    |some f=>bif !Nat.beq (P.cellsOf f.type) 0 then(match opd P E.dt σ 0 x with
     | .ptr l p q=>out n o (.ptr l (p++[i]) (q+f.offset)) [] [] k
     | .eptr l j z p q=>out n o (.eptr l j z (p++[i]) (q+f.offset)) [] [] k
     | .rptr S' d=>bif (Nat.beq S' S&&Nat.ble (f.offset+P.cellsOf f.type) (P.cellsOf S))then out n o (.rptr f.type (d.fld i)) [] [] k else none
     | .dat T2 d=>match ppE P T2 with
       |some S'=>(idx d.toLst 0).bind fun e=>bif (Nat.beq S' S&&Nat.ble (f.offset+P.cellsOf f.type) (P.cellsOf S))then out n o (.rptr f.type (e.fld i)) [] [] k else none
       |none=>none
     |_=>none)else none
    |none=>none
 |none=>none
def R8(n:Nat)(o:Oper)(σ:St)(S:TypeId)(x:Operand)(i:Nat)(k:Dl->Option R):Option R:=match stF P S with
 |  some fs=>match fs[i]? with
    |some f=>match pk P [] (opd P E.dt σ S x)with
     |some (S',d)=>bif (Nat.beq S' S&&(Nat.ble (f.offset+P.cellsOf f.type) (P.cellsOf S)&&szB P f.type (.dat f.type (d.fld i))))then out n o (.dat f.type (canD P f.type (d.fld i))) [] [] k else none
     |none=>none
    |none=>none
 |none=>none
def Ag(n:Nat)(o:Oper)(σ:St)(T:TypeId)(x y:Operand)(k:Dl->Option R):Option R:=match uV P E σ 0 (some y)with
 |  some i=>match opd P E.dt σ T x with
    | .row l=>match lk σ.hs l with
      | .row T5 es=>match slE P T5 with
        |some Te=>bif j3 P T Te then(inL es i).bind fun _=>out n o (.eptr l i.toNat (P.cellsOf Te) [] 0) [l] [] k else none
        |none=>none
      | .rowA T5 vs=>match slE P T5 with
        |some Te=>bif (j3 P T Te&&(decide (0<=i)&&decide (i<(vs.length:Int))))then out n o (.eptr l i.toNat (P.cellsOf Te) [] 0) [l] [] k else none
        |none=>none
      | .rowD T5 _ _ _ es _=>match slE P T5 with
        |some Te=>bif j3 P T Te then(inL es i).bind fun _=>out n o (.eptr l i.toNat (P.cellsOf Te) [] 0) [l] [] k else none
        |none=>none
      | .frz T5 es=>match slE P T5 with
        |some Te=>bif j3 P T Te then(idx es i).bind fun e=>out n o (.rptr Te e) [l] [] k else none
        |none=>none
      |_=>none
    | v=>match lval P [] v with
      |some (_,Te,es)=>bif j3 P T Te then(idx es i).bind fun e=>out n o (.rptr Te e) [] [] k else none
      |none=>none
 |none=>none
def R9(n:Nat)(o:Oper)(σ:St)(T:TypeId)(x y:Operand)(k:Dl->Option R):Option R:=match KU P (opd P E.dt σ T x)with
 |  some (_,s)=>match uV P E σ 0 (some y)with
    |some i=>bif (isS P T&&isI P o.type .u8)then(idxS s i).bind fun c=>out n o (.dat o.type (.int c)) [] [] k else none
    |none=>none
 |  none=>match opd P E.dt σ T x with
    | .dat T' d=>match P.underlying T' with
      |some (.array len Te)=>match uV P E σ 0 (some y)with
       |some i=>bif (Nat.beq T' T&&(Nat.beq (P.cellsOf T') (len*P.cellsOf Te)&&szB P Te (.dat Te (.int 0))))then(idx d.toLst i).bind fun e=>out n o (.dat Te (canD P Te e)) [] [] k else none
       |none=>none
      |_=>none
    |_=>none
def KZ(T:TypeId):Option (TypeId×TypeId):=match P.underlying T with
 |some (.map K V)=>bif (isS P K&&!d9 P V)then some (K,V)else none
 |_=>none
def aee(T:TypeId):Option Dt:=match P.info? T with
 |  some i=>match i.zero with
    |some z=>bif Dj z then none else IU P T
    |none=>none
 |none=>none
def alU(P:Program)(T:TypeId):Bool:=match P.info? T with
 |  some i=>(match i.zero with
    |some (.slice none 0 0)=>true
    |_=>false)
 |none=>false
def K3(n     :    Nat)(o:Oper)(σ:St)(T:TypeId)(x y:Operand)(two:Bool)(k:Dl->Option R):Option R:=match KZ P T with
 |  some (KT,V)=>match aee P V with
    |some z=>match opd P E.dt σ T x with
     | .row l=>   match lk σ.hs l with
       |  .map T5 es=>match KZ P T5 with
          |some ( K5,V5)=>match KU P (opd P E.dt σ KT y)with
           |some (_,s)=>bif (Nat.beq K5 KT&&Nat.beq V5 V)then
             (bif two then(match bT P E.dt with
                  |some TB=>out n o (.tup [.dat V (mgetD es s z),.dat TB (.bool (mhas es s))]) [l] [] k
                  |none=>none)
             else(bif scT P V then out n o (.dat V (canD P V (mgetD es s z))) [l] [] k else bif mhas es s then out n o (.dat V (canD P V (mgetD es s z))) [l] [] k else bif alU P V then out n o (.nils V) [l] [] k else none))else none
           |none=>none
          |none=>none
       |_=>none
     |_=>none
    |none=>none
 |none=>none
def Gx(n:Nat)(o:Oper)(σ:St)(T:TypeId)(k:Dl->Option R):Option R:=match KZ P T with
 |some _=>new σ fun nm=>out n o (.row nm) [nm] [(nm,.map T [])] k
 |none=>none
def Ah(o:Oper)(σ:St)(T:TypeId)(x y u:Operand)(k:Dl->Option R):Option R:=match KZ P T with
 |  some (KT,V)=>match opd P E.dt σ T x with
    | .row l=>match lk σ.hs l with
      | .map T5 es=>match KZ P T5 with
        | some (_,V5)=>match KU P (opd P E.dt σ KT y)with
          |some (_,s)=>match pk P (wrO σ.hs (frzW σ.hs (opd P E.dt σ V u).rws)) (opd P E.dt σ V u)with
           |some (TV,d)=>bif (compat P TV V5&&(!d9 P TV&&!om l (opd P E.dt σ V u).rws))then Xw o (l::(opd P E.dt σ V u).rws) (frzW σ.hs (opd P E.dt σ V u).rws++[(l,.map T5 (mput es s d))]) k else none
           |none=>none
          |none=>none
        |none=>none
      |_=>none
    |_=>none
 |none=>none
def K4:List (Nat×List Value)->Nat->Option (List Value)
 | [],_=>none
 |t::r,g=>bif Nat.beq t.1 g then some t.2 else K4 r g
def aef(Te:TypeId)(sz:Nat):Nat->List Value->Option (List Dt)
 |0,_=>some []
 |  m+1,cs=>match avC P 8 Te (cs.take sz)with
    |some v=>match pk P [] v with
     |some (T',d)=>bif Nat.beq T' Te then(match aef Te sz m (cs.drop sz)with
      |some ds=>some (d::ds)
      |none=>none)else none
     |none=>none
    |none=>none
def aeg(n:Nat)(o:Oper)(σ:St)(T:TypeId)(g:Nat)(y:Operand)(k:Dl->Option R):Option R:=match P.underlying T with
 |  some (.array len Te)=>match K4 tabs g with
    |some cs=>match aef P Te (P.cellsOf Te) len cs with
     |some ds=>match uV P E σ 0 (some y)with
      |some i=>bif (!Nat.beq (P.cellsOf Te) 0&&Nat.beq cs.length (len*P.cellsOf Te))then(idx ds i).bind fun e=>out n o (.rptr Te e) [] [] k else none
      |none=>none
     |none=>none
    |none=>none
 |_=>none
def Gy(n:Nat)(o:Oper)(σ:St)(x:Operand)(i:Nat)(k:Dl->Option R):Option R:=match opd P E.dt σ 0 x with
 |  .tup vs=>match vs[i]? with
    |some (.tup _)=>none
    |some v=>out n o v [] [] k
    |none=>none
 |_=>none
def Dm(n:Nat)(o:Oper)(σ:St)(f:FuncId)(first:Nat)(caps:List Operand)(k:Dl->Option R):Option R:=
 bif (Nat.beq first 0&&Uu P (caps.map (opd P E.dt σ 0)))then out n o (.fn f (caps.map (opd P E.dt σ 0))) [] [] k else none
def aeh(n:Nat)(o:Oper)(σ:St)(T:TypeId)(x:Operand)(k:Dl->Option R):Option R:=
 bif isI P o.type .i64 then(match KU P (opd P E.dt σ T x)with
 |some (_,s)=>bif isS P T then out n o (.dat o.type (.int s.size)) [] [] k else none
 |  none=>match slE P T with
    |some _=>match opd P E.dt σ T x with
     | .row l=>match lk σ.hs l with
       | .row _ es=>out n o (.dat o.type (.int es.length)) [l] [] k
       | .rowA _ vs=>out n o (.dat o.type (.int vs.length)) [l] [] k
       | .rowD _ _ _ _ es _=>out n o (.dat o.type (.int es.length)) [l] [] k
       | .frz T5 es=>bif (slE P T5).isSome then out n o (.dat o.type (.int es.length)) [l] [] k else none
       |_=>none
     | v=>match lval P [] v with
       |some (_,_,es)=>out n o (.dat o.type (.int es.length)) [] [] k
       |none=>none
    |none=>none)else none
def aei(n:Nat)(o:Oper)(σ:St)(T T':TypeId)(x y:Operand)(k:Dl->Option R):Option R:=match ival P (opd P E.dt σ T x)with
 |  some (Tx,q,a)=>match ival P (opd P E.dt σ T' y)with
    |some (_,q',b)=>bif decide (q=q')then out n o (.dat Tx (.int (bif decide (b<a)then b else a))) [] [] k else none
    |none=>none
 |none=>none
def aej(n:Nat)(o:Oper)(σ:St)(T T':TypeId)(x y:Operand)(k:Dl->Option R):Option R:=match ival P (opd P E.dt σ T x)with
 |  some (Tx,q,a)=>match ival P (opd P E.dt σ T' y)with
    |some (_,q',b)=>bif decide (q=q')then out n o (.dat Tx (.int (bif decide (a<b)then b else a))) [] [] k else none
    |none=>none
 |none=>none
def Pn(n:Nat)(o:Oper)(σ:St)(b:Builtin)(xs:List Operand)(Ts:List TypeId)(k:Dl->Option R):Option R:=match b,xs,Ts with
 | .len,[x],[T]=>aeh P E n o σ T x k
 | .append,[x,y],[T,T']=>bif isS P T' then Gu P n o σ T T' (opd P E.dt σ T x) (opd P E.dt σ T' y) k else Gt P n o σ T T' (opd P E.dt σ T x) (opd P E.dt σ T' y) k
 | .min,[x,y],[T,T']=>aei P E n o σ T T' x y k
 | .max,[x,y],[T,T']=>aej P E n o σ T T' x y k
 |_,_,_=>none
def evO(n:Nat)(o:Oper)(σ:St)(k:Dl->Option R):Option R:=
 match o.op with
 | .move x=>out n o (opd P E.dt σ o.type x) [] [] k
 | .assign x=>out n o (opd P E.dt σ o.type x) [] [] k
 | .pick c x y=>XA P E n o σ c x y k
 | .alloc T=>RZ P n o σ T k
 | .box T x=>ad8 P E n o σ T x k
 | .build T parts=>KV P E n o σ T parts.toList k
 | .buildSlice T len parts=>Gv P E n o σ T len parts.toList k
 | .load T x=>XB P E n o σ T x k
 | .store T x y=>R5 P E o σ T x y k
 | .nilCheck x=>Dk P E n o σ x k
 | .binOp op T x y T'=>aeb P E n o σ op T x y T' k
 | .unOp .not _ x=>aec P E n o σ x k
 | .unOp .neg T x=>aed P E n o σ T x k
 | .unOp .xor T x=>R6 P E n o σ T x k
 |  .convert S1 S2 x=>match slE P S1 with
    |some Te=>RY P n o σ Te S2 (opd P E.dt σ S1 x) k
    |none=>Gw P E n o σ S1 S2 x k
 | .makeSlice T x y=>XC P E n o σ T x y k
 | .slice T x lo hi none=>R7 P E n o σ T x lo hi k
 | .fieldAddr S x i=>Af P E n o σ S x i k
 | .field S x i=>R8 P E n o σ S x i k
 | .indexAddr T (.global g) y=>aeg P E n o σ T g y k
 | .indexAddr T x y=>Ag P E n o σ T x y k
 | .lookup T x y two=>K3 P E n o σ T x y two k
 | .makeMap T none=>Gx P n o σ T k
 | .mapUpdate T x y u=>Ah P E o σ T x y u k
 | .index T x y=>R9 P E n o σ T x y k
 | .extract x i=>Gy P E n o σ x i k
 | .makeFunc (.func f) first caps=>Dm P E n o σ f first.size caps.toList k
 | .call ⟨.value g,xs,Ts⟩=>Xy P E call n o σ g xs.toList Ts.toList k
 | .call ⟨.builtin b,xs,Ts⟩=>Pn P E n o σ b xs.toList Ts.toList k
 | .makeInterface T x=>RX P E n o σ T x k
 | .call ⟨.invoke g name,xs,Ts⟩=>ad7 P E call n o σ g name xs.toList Ts.toList k
 |_=>none
end
def tmpsOf:List Operand->List Nat
 | []=>[]
 | .tmp t::r=>t::tmpsOf r
 |_::r=>tmpsOf r
def gslot(ops:List Oper)(j:Nat):Option Nat:=match ops[j]? with
 |some o=>o.dst
 |none=>none
def Oper.reads(ops:List Oper)(o:Oper):List Nat:=(match o.guard with
 |some (j,_)=>(gslot ops j).toList
 |none=>[])++tmpsOf o.op.operands.toList
def ab2(a b:List Nat):Bool:=a.all fun x=>!om x b
def indep(ops:List Oper)(p q:Oper×Dl):Bool:=
 ab2 p.1.dst.toList (q.1.dst.toList++Oper.reads ops q.1)&&(ab2 q.1.dst.toList (Oper.reads ops p.1)&&
 (ab2 (p.2.wr.map (·.1)) (q.2.rd++q.2.wr.map (·.1))&&ab2 (q.2.wr.map (·.1)) p.2.rd))
def EM(ancs:List Nat):List Edge->Nat
 | []=>0
 |e::r=>bif Region.binds .any e then Nat.lor (Nat.lor (2^e.on) (ancs.getD e.on 0)) (EM ancs r)else EM ancs r
def Ux(ops:List Oper)(q:Oper×Dl)(m:Nat):Nat->List (Oper×Dl)->Bool
 |_,[]=>true
 |i,p::r=>(Nat.testBit m i||indep ops p q)&&Ux ops q m (i+1) r
def Gz(ops:List Oper):List (Oper×Dl)->List Nat->List (Oper×Dl)->Bool
 |_,_,[]=>true
 |pre,ancs,q::r=>Ux ops q (EM ancs q.1.after.toList) 0 pre&&Gz ops (pre++[q]) (ancs++[EM ancs q.1.after.toList]) r
def jn{A:Type}(_ _ _:Nat)(_:St)(x:A):A:=x
def aek(P:Program):AV->Option (Option (TypeId×Bool))
 | .tup []=>some none
 |  .dat T (.bool b)=>match P.underlying T with
    |some .bool=>some (some (T,b))
    |_=>none
 |_=>none
section
variable{R:Type}(P:Program)(E:Env)(call:FuncId->List AV->List Ob->(Res->Option R)->Option R)
def Uy(n:Nat)(o:Oper)(k:Dl->Option R):Option R:=match o.dst with
 |some d=>bif Nat.blt d n then k ⟨some (.tup []),[],[]⟩else none
 |none=>k ⟨none,[],[]⟩
def wo(n:Nat)(ops:List Oper):List Oper->St->List (Oper×Dl)->(St->List (Oper×Dl)->Option R)->Option R
 | [],σ,tr,k=>k σ tr
 |  o::r,  σ,tr,k=>match o.guard with
    |none=>evO P E call n o σ fun Y=>wo n ops r (σ.app o.dst Y) ((o,Y)::tr) k
    |some (j,want)=>match gslot ops j with
     |some d=>match aek P (tk σ.ts d)with
      |some none=>Uy n o fun Y=>wo n ops r (σ.app o.dst Y) ((o,Y)::tr) k
      |some (some (T,b))=>bif b then
           (bif want then evO P E call n o (σ.put d (.dat T (.bool true))) fun Y=>wo n ops r ((σ.put d (.dat T (.bool true))).app o.dst Y) ((o,Y)::tr) k
            else Uy n o fun Y=>wo n ops r ((σ.put d (.dat T (.bool true))).app o.dst Y) ((o,Y)::tr) k)
       else
           (bif want then Uy n o fun Y=>wo n ops r ((σ.put d (.dat T (.bool false))).app o.dst Y) ((o,Y)::tr) k
            else evO P E call n o (σ.put d (.dat T (.bool false))) fun Y=>wo n ops r ((σ.put d (.dat T (.bool false))).app o.dst Y) ((o,Y)::tr) k)
      |none=>none
     |none=>none
def pkC(hs:List Ob)(v:AV):AV:=match pk P hs v with
 |some (T,d)=> .dat T (canD P T d)
 |none=>v
def rR(q:TypeId->Bool)(hs:List Ob):Nat->List Ob->List Ob
 |_,[]=>[]
 |  0,.box T c::r=>(bif q T then .box T c else match pk P hs c with
    |some (T',d)=>bif Nat.beq T' T then .box T (.dat T (canD P T d))else .box T c
    |none=> .box T c)::rR q hs 0 r
 |0,o::r=>o::rR q hs 0 r
 |k+1,o::r=>o::rR q hs k r
def EN(σ:St):List Nat->List Nat
 | []=>[]
 |  s ::r=>(match tk σ.ts s with
    | .ptr l _ _=>(match lk σ.hs l with
      | .box _ c=>c.rws
      |_=>[])
    |v=>v.rws)++EN σ r
def nilAll(σ:St):List Nat->St
 | []=>σ
 |  s::r=>nilAll (match tk σ.ts s with
    | .ptr l _ _=>nilBox P σ l
    |_=>nilSlot P σ s) r
def Zx:Nat->List Ob->List Nat
 |0,_=>[]
 |_,[]=>[]
 |k+1,o::r=>o.nms++Zx k r
def geB(k:Nat):List Nat->List Nat
 | []=>[]
 |l::r=>bif Nat.ble k l then l::geB k r else geB k r
def IV(hs:List Ob)(k0:Nat)(vs:List AV):List Nat:=upto 0 k0++geB k0 (reach hs 1000 (AV.nmsL vs++Zx k0 hs) [])
def relab(σ:St):St:=
 let src:=IV σ.hs σ.k0 σ.ts
 bif nodupB src then⟨AV.renL (ix src) σ.ts,sZ (ix src) σ.hs src,σ.k0⟩else σ
def mvV(l nm:Nat)(v:AV):AV:=match v with
 | .row k=>bif Nat.beq k l then .row nm else .row k
 |v=>v
def mvO(l nm:Nat):Ob->Ob
 | .box T c=> .box T (mvV l nm c)
 |o=>o
def mvAt(σ:St)(l:Nat):St:=bif (Nat.blt l σ.k0&&Nat.ble σ.k0 σ.hs.length)then(match lk σ.hs l with
 | .row T es=>⟨σ.ts.map (mvV l σ.hs.length),(bG (bG σ.hs l .gone) σ.hs.length (.row T es)).map (mvO l σ.hs.length),σ.k0⟩
 |_=>σ)else σ
def mvSlot(σ:St)(t:Nat):St:=match tk σ.ts t with
 | .row l=>mvAt σ l
 |  .ptr b _ _=>match lk σ.hs b with
    | .box _ (.row l)=>mvAt σ l
    |_=>σ
 |_=>σ
def mvL(σ:St):List Nat->St
 | []=>σ
 |t::r=>mvL (mvSlot σ t) r
def Ai(σ:St):List Nat->List Nat
 | []=>[]
 |s::r=>bif Nat.ble 1000000 s&&!om (s-1000000) (AV.rwsL σ.ts)then(s-1000000)::Ai σ r else Ai σ r
def unfAt(σ:St)(l:Nat):St:=match lk σ.hs l with
 |  .rowD T5 T2 c k es (some (i,m))=>match lk σ.hs k,lk σ.hs m with
    | .tok T3 ls,.row T4 ds=>bif (Nat.beq T3 T2&&(Nat.beq T4 T2&&Nat.ble σ.k0 σ.hs.length))then⟨σ.ts,bG (bG (bG (bG σ.hs l (.rowD T5 T2 c σ.hs.length es none)) k .gone) m .gone) σ.hs.length (.tok T2 (ls.set i (.lst ds))),σ.k0⟩else σ
    |_,_=>σ
 |_=>σ
def unfL(σ:St):List Nat->St
 | []=>σ
 |l::r=>unfL (unfAt σ l) r
def frzDAt(σ:St)(l:Nat):St:=match lk σ.hs l with
 |  .rowD T5 T2 c k es none=>match lk σ.hs k with
    | .tok T3 ls=>bif Nat.beq T3 T2 then⟨σ.ts,bG (bG σ.hs l (.row T5 (frzD c es ls))) k .gone,σ.k0⟩else σ
    |_=>σ
 |_=>σ
def toDAt(c:Option Nat)(σ:St)(l:Nat):St:=match lk σ.hs l with
 |  .row T5 []=>match slE P T5 with
    |some Te=>match LC P Te c with
     |some (T2,_)=>match slE P T2 with
      |some _=>bif Nat.ble σ.k0 σ.hs.length then⟨σ.ts,bG (bG σ.hs l (.rowD T5 T2 c σ.hs.length [] none)) σ.hs.length (.tok T2 []),σ.k0⟩else σ
      |none=>σ
     |none=>σ
    |none=>σ
 |_=>σ
def cOf:Nat->Option Nat
 |0=>none
 |f+1=>some f
def deepC(σ:St)(cc l:Nat):St:=bif Nat.beq cc 99 then frzDAt σ l else toDAt P (cOf cc) σ l
def deep1(σ:St)(s cc:Nat):St:=match tk σ.ts s with
 | .row l=>deepC P σ cc l
 |  .ptr b _ _=>match lk σ.hs b with
    | .box _ (.row l)=>deepC P σ cc l
    |_=>σ
 |_=>σ
def deepL(σ:St):List Nat->St
 | []=>σ
 |t::r=>deepL (bif Nat.ble 2000000 t then deep1 P σ ((t-2000000)/100) ((t-2000000)%100)else σ) r
def mZ(f:FuncId)(key:Nat)(σ:St):St:=match E.keep f key with
 |none=>σ
 |  some (kp,fz,rw)=>
    let σ1:St:=⟨wE kp (GU kp) σ.ts 0,σ.hs,σ.k0⟩
    let σ2:St:=⟨σ1.ts,gonN (frzN σ1.hs (EN σ1 fz)) (Ai σ1 fz),σ1.k0⟩
    let σ3:=deepL P (mvL (nilAll P (unfL σ2 (upto 0 σ2.hs.length)) rw) rw) rw
    let σ4:St:=⟨σ3.ts.map (pkC P σ3.hs),rR P E.npk σ3.hs 0 σ3.hs,σ3.k0⟩
    relab σ4
def IW:Code->Bool
 | .seq a _=>IW a
 | .block _ c=>IW c
 | .loop _=>true
 | .scope c=>IW c
 | .cond _ a _=>IW a
 |_=>false
def firstId:Code->Nat
 | .region id _ _=>id
 | .seq a _=>firstId a
 | .block _ c=>firstId c
 | .loop c=>firstId c
 | .scope c=>firstId c
 | .cond _ a b=>bif IW a then 0 else bif Nat.beq (firstId a) 0 then(bif IW b then 0 else firstId b)else firstId a
 |_=>0
def nextId:Code->Nat
 | .region id _ _=>id
 | .seq a _=>nextId a
 | .block _ c=>nextId c
 | .scope c=>nextId c
 | .cond _ a b=>bif IW a then 0 else bif Nat.beq (firstId a) 0 then(bif IW b then 0 else firstId b)else firstId a
 |_=>0
def nextK(J:Nat->Nat->Nat->St->Option R->Option R)(f:FuncId)(key:Nat)(σ:St)(g:St->Option R):Option R:=match (bif Nat.beq key 0 then none else E.keep f key)with
 |none=>g σ
 |some _=>J 0 key 0 (mZ P E f key σ) (g (mZ P E f key σ))
def ael(nx:St->Option R)(k:Exit->St->Option R):Exit->St->Option R
 | .normal,σ=>nx σ
 |e,σ=>k e σ
def XD(id:Nat)(k:Exit->St->Option R):Exit->St->Option R
 | .exit id',σ=>bif Nat.beq id' id then k .normal σ else k (.exit id') σ
 |e,σ=>k e σ
def XE(k:Exit->St->Option R):Exit->St->Option R
 | .goto _,_=>none
 |e,σ=>k e σ
def IX(J:Nat->Nat->Nat->St->Option R->Option R)(key:Nat)(head:St->St)(body:St->(Exit->St->Option R)->Option R):Nat->St->(Exit->St->Option R)->Option R
 |0,_,_=>none
 |m+1,σ,k=>body σ (ael (fun σ'=>J 1 key m (head σ') (IX J key head body m (head σ') k)) k)
def ev0(J:Nat->Nat->Nat->St->Option R->Option R)(m:Nat)(f:FuncId)(n:Nat):Code->St->(Exit->St->Option R)->Option R
 | .skip,σ,k=>k .normal σ
 | .region _ ops false,σ,k=>wo P E call n ops.toList ops.toList σ [] fun σ' _=>k .normal σ'
 | .region _ ops true,σ,k=>wo P E call n ops.toList ops.toList σ [] fun σ' tr=>bif (tO 0 ops.toList&&Gz ops.toList [] [] tr.reverse)then k .normal σ' else none
 | .seq a b,σ,k=>ev0 J m f n a σ (ael (fun σ'=>nextK P E J f (nextId b) σ' fun s=>ev0 J m f n b s k) k)
 |  .cond x a b,σ,k=>match Ut P (opd P E.dt σ 0 x)with
    |some t=>bif t then ev0 J m f n a σ k else ev0 J m f n b σ k
    |none=>none
 | .block id c,σ,k=>ev0 J m f n c σ (XD id k)
 | .loop c,σ,k=>J 1 (firstId c) m (mZ P E f (firstId c) σ) (IX J (firstId c) (mZ P E f (firstId c)) (ev0 J m f n c) m (mZ P E f (firstId c) σ) k)
 | .exit id,σ,k=>k (.exit id) σ
 | .label _,σ,k=>k .normal σ
 | .scope c,σ,k=>ev0 J m f n c σ (XE k)
 | .ret,σ,k=>k .ret σ
 |_,_,_=>none
def bnd(o:Oper)(j:Nat):Bool:=o.after.toList.any fun e=>Region.binds .any e&&Nat.beq e.on j
def aiY(o0 o1 o2 o3:Oper):Bool:=tO 0 [o0,o1,o2,o3]&&bnd o1 0&&bnd o2 0&&bnd o3 1&&bnd o3 2
def aof:Op->Bool
 | .store _ _ _=>true
 |_=>false
def aqo:Op->Bool
 | .alloc _=>true
 |_=>false
def noG(o:Oper):Bool:=match o.guard with
 |none=>true
 |some _=>false
def aiZ:Code->Code->Option (Oper×Oper×Oper×Oper)
 |  .region _ ops true,.cond _ _ _=>match ops with
    | ⟨[o0,o1,o2,o3]⟩=>bif (aqo o0.op&&(aof o1.op&&(aof o2.op&&(aiY o0 o1 o2 o3&&(noG o0&&(noG o1&&(noG o2&&noG o3)))))))then some (o0,o1,o2,o3)else none
    |_=>none
 |_,_=>none
def alV(n:Nat)(o0 o1 o2 o3:Oper)(σ:St)(k:St->St->Option R):Option R:=
 evO P E call n o0 σ fun d0=>evO P E call n o1 (σ.app o0.dst d0) fun d1=>evO P E call n o2 ((σ.app o0.dst d0).app o1.dst d1) fun d2=>evO P E call n o3 (((σ.app o0.dst d0).app o1.dst d1).app o2.dst d2) fun d3=>
 evO P E call n o2 (σ.app o0.dst d0) fun e2=>evO P E call n o1 ((σ.app o0.dst d0).app o2.dst e2) fun e1=>evO P E call n o3 (((σ.app o0.dst d0).app o2.dst e2).app o1.dst e1) fun e3=>
 k ((((σ.app o0.dst d0).app o1.dst d1).app o2.dst d2).app o3.dst d3) ((((σ.app o0.dst d0).app o2.dst e2).app o1.dst e1).app o3.dst e3)
def ab3:Nat->List AV->List AV->List Nat
 |i,a::r,b::s=>bif BR a b then i::ab3 (i+1) r s else ab3 (i+1) r s
 |_,_,_=>[]
def aog:Ob->Ob->Bool
 | .free,.free=>true
 |_,_=>false
def Zy:List Ob->List Ob->Bool
 | [],[]=>true
 |a::r,b::s=>(ad4 a b||aog a b)&&Zy r s
 |_,_=>false
def aem(a b:St):Bool:=CG a.ts b.ts&&(Zy a.hs b.hs&&Nat.beq a.k0 b.k0)
def rmD(d:Option Nat)(l:List Nat):List Nat:=match d with
 |some d=>l.filter fun i=>!Nat.beq i d
 |none=>l
def mrg(f:FuncId)(d:Option Nat)(a b:St):Option St:=
 bif aem (mZ P {E with keep:=fun _ _=>some (rmD d (ab3 0 a.ts b.ts),[],[])} f 1 a) (mZ P {E with keep:=fun _ _=>some (rmD d (ab3 0 a.ts b.ts),[],[])} f 1 b)then some (mZ P {E with keep:=fun _ _=>some (rmD d (ab3 0 a.ts b.ts),[],[])} f 1 a)else none
def inn(m:Nat)(f:FuncId)(n:Nat)(c:Code)(σ:St):Option (Exit×St):=ev0 P E (fun _ _ _ _=>none) (fun _ _ _ _ x=>x) m f n c σ fun e s=>some (e,s)
def ev(J:Nat->Nat->Nat->St->Option R->Option R)(m:Nat)(f:FuncId)(n:Nat):Code->St->(Exit->St->Option R)->Option R
 | .skip,σ,k=>k .normal σ
 | .region _ ops false,σ,k=>wo P E call n ops.toList ops.toList σ [] fun σ' _=>k .normal σ'
 | .region _ ops true,σ,k=>wo P E call n ops.toList ops.toList σ [] fun σ' tr=>bif (tO 0 ops.toList&&Gz ops.toList [] [] tr.reverse)then k .normal σ' else none
 |  .seq a b,σ,k=>match aiZ a b with
    |none=>ev J m f n a σ (ael (fun σ'=>nextK P E J f (nextId b) σ' fun s=>ev J m f n b s k) k)
    |some q=>alV P E call n q.1 q.2.1 q.2.2.1 q.2.2.2 σ fun σA σB=>match inn P E m f n b σA,inn P E m f n b σB with
     | some (.normal,s1),some (.normal,s2)=>(match mrg P E f q.1.dst s1 s2 with
       |some s=>k .normal s
       |none=>none)
     |_,_=>none
 |  .cond x a b,σ,k=>match Ut P (opd P E.dt σ 0 x)with
    |some t=>bif t then ev J m f n a σ k else ev J m f n b σ k
    |none=>none
 | .block id c,σ,k=>ev J m f n c σ (XD id k)
 | .loop c,σ,k=>J 1 (firstId c) m (mZ P E f (firstId c) σ) (IX J (firstId c) (mZ P E f (firstId c)) (ev J m f n c) m (mZ P E f (firstId c) σ) k)
 | .exit id,σ,k=>k (.exit id) σ
 | .label _,σ,k=>k .normal σ
 | .scope c,σ,k=>ev J m f n c σ (XE k)
 | .ret,σ,k=>k .ret σ
 |_,_,_=>none
def XF(σ:St):List ResultVar->Option (List AV)
 | []=>some []
 |  .tmp t::r=>match tk σ.ts t with
    | .dead=>none
    | .tup _=>none
    | v=>match XF σ r with
      |some vs=>some (v::vs)
      |none=>none
 |  .cell p T::r=>match tk σ.ts p with
    | .ptr l [] 0=>match lk σ.hs l with
      | .box T' c=>bif (Nat.beq T' T&&(szB P T c&&(c.isAgg P==d9 P T)))then(match XF σ r with
        |some vs=>some (c::vs)
        |none=>none)else none
      |_=>none
    |_=>none
def K6:List AV->Bool
 | []=>true
 |  v::r=>(match v with
    | .dead=>false
    | .tup _=>false
    |_=>true)&&K6 r
def wu:List AV->AV
 | [v]=>v
 |vs=> .tup vs
def fin(f:FuncId)(fn:Func)(σ:St):Option Res:=match XF P σ fn.results.toList with
 |  some vs=>bif E.raw f then
     let r1:=AV.n2rL P vs σ.hs.length
     let hs1:=zD σ.hs σ.hs.length r1.2
     let src:=IV hs1 σ.k0 r1.1
     bif (nodupB src&&Nat.ble σ.k0 σ.hs.length)then(bif K6 (AV.renL (ix src) r1.1)then some ((wu r1.1).ren (ix src),sZ (ix src) hs1 src)else none)else none
    else
     let hs1:=frzN σ.hs (AV.rwsL vs)
     let us:=vs.map (pkC P hs1)
     let src:=IV hs1 σ.k0 us
     bif nodupB src then(bif K6 (AV.renL (ix src) us)then some ((wu us).ren (ix src),sZ (ix src) hs1 src)else none)else none
 |none=>none
end
def mvAll(σ:St):List ResultVar->St
 | []=>σ
 | .tmp t::r=>mvAll (mvSlot σ t) r
 |_::r=>mvAll σ r
def flat1(P:Program)(σ:St)(l:Nat):St:=match lk σ.hs l with
 |  .rowA T vs=>match slE P T with
    |some Te=>match xX P (frzN σ.hs (AV.rwsL vs)) Te vs with
     |some ds=>⟨σ.ts,bG (frzN σ.hs (AV.rwsL vs)) l (.row T ds),σ.k0⟩
     |none=>σ
    |none=>σ
 |_=>σ
def flatL(P:Program)(σ:St):List Nat->St
 | []=>σ
 |l::r=>flatL P (flat1 P σ l) r
def XG(σ:St):List ResultVar->List Nat
 | []=>[]
 | .tmp t::r=>(tk σ.ts t).rws++XG σ r
 |_::r=>XG σ r
def exitSt(P:Program)(E:Env)(f:FuncId)(fn:Func)(σ:St):St:=bif E.raw f then mvAll (mZ P E f 1000000 σ) fn.results.toList else(let σ1:=mZ P E f 1000000 σ;flatL P σ1 (XG σ1 fn.results.toList))
def Sb(P:Program)(E:Env)(f:FuncId)(fn:Func):Exit->St->Option Res
 | .ret,σ=>fin P E f fn (exitSt P E f fn σ)
 | .normal,σ=>fin P E f fn (exitSt P E f fn σ)
 |_,_=>none
def run(P:Program)(E:Env):Nat->FuncId->List AV->List Ob->Option Res
 |0,_,_,_=>none
 |  m+1,f,args,objs=>match E.orc f with
    |some oc=>oc args objs
    |none=>match E.fns f with
    |some fn=>match fn.body with
     |some c=>bif Nat.ble args.length fn.ntmps then ev P E (fun f a o K=>(run P E m f a o).bind K) jn (m+1) f fn.ntmps c ⟨args,objs,objs.length⟩ (Sb P E f fn)else none
     |none=>none
    |none=>none
theorem aN{A:Type}{b:Bool}{x:Option A}{r:A}(h:(bif b then x else none)=some r):b=true∧x=some r:=by
 cases b with
 |true=>exact⟨rfl,h⟩
 |false=>cases h
theorem bg{a b:Bool}(h:(a&&b)=true):a=true:=by cases a<;>simp_all
theorem aO{a b:Bool}(h:(a&&b)=true):b=true:=by cases a<;>simp_all
theorem beq_eq{a b:Nat}(h:Nat.beq a b=true):a=b:=aU h
theorem Aj{a b:Nat}(h:(!Nat.beq a b)=true):a≠b:=fun e=>by subst e;simp at h
section
variable{P:Program}{n:Nat}{o:Oper}{σ τ:St}{x y:Operand}{v:AV}{T:TypeId}{R:Type}{E:Env}
theorem Zz{av:TypeId->List Value->Option AV}{cs:List Value}:∀{fs:List Field}{vs:List AV},avF av P cs fs=some vs->vs.length=fs.length∧∀(i:Nat)(f:Field)(v:AV),fs[i]? =some f->vs[i]? =some v->v= .dead∨av f.type ((cs.drop f.offset).take (P.cellsOf f.type))=some v
 | [],vs,h=>by simp only[avF,aH]at h;subst h;exact⟨rfl,fun i f v hf=>by simp at hf⟩
 |f::fs,vs,h=>by
  unfold avF at h;split at h
  ·rename_i us hus;cases h;obtain⟨h1,h2⟩:=Zz hus;refine⟨by simp[h1],fun i g u hg hu=>?_⟩;cases i with
   |    zero=>
        simp only[bf,aH]at hg hu;subst hg;split at hu;·rename_i v hv;subst hu;exact .inr hv
        ·subst hu;exact .inl rfl
   |succ i=>simp only[aZ]at hg hu;exact h2 i g u hg hu
  ·cases h
theorem BG:∀{k:Nat}{T:TypeId}{cs:List Value}{v:AV},avC P k T cs=some v->(∀(ok:Nat->Prop)(w:World)(β:Nat->Option Value),RA P ok w β v cs)∧v.isAgg P=d9 P T∧v≠ .dead∧(∀us,v≠ .tup us)∧(d9 P T=false->cs.length=1)
 |0,_,_,_,h=>by simp[avC]at h
 |k+    1,T,cs,v,h=>by
  unfold avC at h;split at h
  ·rename_i q hu;split at h
   ·    rename_i q' m;obtain⟨h1,h2⟩:=aN h;cases h2;have e:q=q':=by simpa using bg h1
        subst e;have h3:q.min<=m:=by simpa using bg (aO h1)
        have h4:m<=q.max:=by simpa using aO (aO h1)
        exact⟨fun _ _ _=> .dat (.int hu h3 h4),rfl,by simp,by simp,fun _=>rfl⟩
   ·cases h
  ·rename_i hu;split at h;·cases h;exact⟨fun _ _ _=> .dat (.bool hu),rfl,by simp,by simp,fun _=>rfl⟩
   ·cases h
  ·rename_i hu;split at h
   ·    obtain⟨h1,h2⟩:=aN h;cases h2;exact⟨fun _ _ _=> .dat (.str hu (aK h1)),rfl,by simp,by simp,fun _=>rfl⟩
   ·cases h
  ·rename_i e hu;split at h;·cases h;exact⟨fun _ _ _=> .nils,by simp[AV.isAgg,d9,hu],by simp,by simp,fun _=>rfl⟩
   ·cases h
  ·rename_i fs hu;obtain⟨h1,h2⟩:=aN h;split at h2
   ·    rename_i vs hvs;cases h2;obtain⟨q1,q2⟩:=Zz hvs;refine⟨fun ok w β=> .agg hu (by rw[q1];simp) (beq_eq (bg h1)) (fun c hc=>List.all_eq_true.1 (aO h1) c hc) fun i f u hf hu2=>by
         rcases q2 i f u (by simpa using hf) hu2 with rfl|h3;·exact .dead fun c hc=>List.all_eq_true.1 (aO h1) c (List.mem_of_mem_drop (List.mem_of_mem_take hc))
         ·exact(BG h3).1 ok w β,rfl,by simp,by simp,fun hf=>by simp[d9,hu]at hf⟩
   ·cases h2
  ·rename_i ms hu;split at h;·cases h;exact⟨fun _ _ _=> .nif,by simp[AV.isAgg,d9,hu],by simp,by simp,fun _=>rfl⟩
   ·cases h
  ·rename_i pe hu;split at h;·cases h;exact⟨fun _ _ _=> .dat (.nilp hu),rfl,by simp,by simp,fun _=>rfl⟩
   ·cases h
  ·cases h
theorem RV.const{ok:Nat->Prop}{w:World}{β:Nat->Option Value}{z:Value}{k:Nat}(h:avC P k T z.cells.toList=some v)(hz:Dj z=d9 P T):RV P ok w β v z:=by
 obtain⟨h1,h2,h3,h4,_⟩:=BG h;refine RV.of1 h3 h4 ⟨fun hi=>?_,fun hi=>?_⟩
 ·rw[h2,←hz]at hi;cases z<;>simp[Dj]at hi;exact⟨_,by simp[Value.cells],h1 _ _ _⟩
 ·rw[h2,←hz]at hi;have:=h1 ok w β;cases z<;>simp[Dj]at hi<;>simpa [Value.cells]using this
theorem aen{ok:Nat->Prop}{w:World}{β:Nat->Option Value}{z:Value}:∀{Ts:List TypeId},RV P ok w β (cst P z Ts) z
 | []=>trivial
 |T::r=>by
  unfold cst;split
  ·rename_i a ha;cases hb:Dj z==d9 P T with
   |true=>exact RV.const ha (by simpa using hb)
   |false=>exact trivial
  ·exact aen
theorem tX{D:List TypeId}:Ev P σ x (opd P D σ T x):=by
 cases x with
 |tmp t=>exact Ev.tmp rfl
 |const v=>exact fun _ _ _ _ _ _ _=>aen
 |func f=>exact Ev.fn
 |global g=>exact fun _ _ _ _ _ _ _=>trivial
def Agrs(σ σ':St)(xs:List Operand):Prop:=∀t∈tmpsOf xs,tk σ'.ts t=tk σ.ts t
theorem Uz{t:Nat}:∀{xs:List Operand},.tmp t∈xs->t∈tmpsOf xs
 | [],h=>by simp at h
 |y::r,h=>by
  rcases List.mem_cons.1 h with e|h1;·subst e;simp[tmpsOf]
  ·have:=Uz h1;cases y<;>simp[tmpsOf,this]
theorem uD{σ':St}{D:List TypeId}{xs:List Operand}(h:Agrs σ σ' xs)(hx:x∈xs):opd P D σ' T x=opd P D σ T x:=by
 cases x with
 |tmp t=>exact h t (Uz hx)
 |const v=>rfl
 |func f=>rfl
 |global g=>rfl
theorem Ak{σ':St}{D:List TypeId}{xs:List Operand}(h:Agrs σ σ' xs):∀{Ts:List TypeId}{ys:List Operand},(∀y∈ys,y∈xs)->cZ P D σ' Ts ys=cZ P D σ Ts ys
 | [],_,_=>by simp[cZ]
 |_::_,[],_=>by simp[cZ]
 |T::Ts,y::ys,hy=>by simp only[cZ];rw[uD h (hy y (by simp)),Ak h fun z hz=>hy z (by simp[hz])]
theorem EO{D:List TypeId}:∀{Ts:List TypeId}{xs:List Operand},xs.length=Ts.length->EvXs P σ xs (cZ P D σ Ts xs)
 | [],[],_=> .nil
 |T::Ts,x::xs,h=> .cons tX (EO (by simpa using h))
 | [],_::_,h=>by simp at h
 |_::_,[],h=>by simp at h
theorem uK{b:Bool}(h:Ut P v=some b):∃T d,v= .dat T d∧P.underlying T=some .bool∧b=d.toBool:=by
 unfold Ut at h;split at h
 ·split at h;·rename_i hu;cases h;exact⟨_,_,rfl,hu,rfl⟩
  ·cases h
 ·cases h
theorem mD{Tx:TypeId}{q:IntKind}{i:Int}(h:ival P v=some (Tx,q,i)):∃d,v= .dat Tx d∧P.underlying Tx=some (.int q)∧i=d.toInt:=by
 unfold ival at h;split at h
 ·split at h;·rename_i hu;cases h;exact⟨_,rfl,hu,rfl⟩
  ·cases h
 ·cases h
theorem oQ{Tx:TypeId}{s:ByteArray}(h:KU P v=some (Tx,s)):∃d,v= .dat Tx d∧P.underlying Tx=some .string∧s=d.toStr:=by
 unfold KU at h;split at h
 ·split at h;·rename_i hu;cases h;exact⟨_,rfl,hu,rfl⟩
  ·cases h
 ·cases h
theorem BH{hs:List Ob}{Tx Te:TypeId}{es:List Dt}(h:lval P hs v=some (Tx,Te,es)):∃d,pk P hs v=some (Tx,d)∧P.underlying Tx=some (.slice Te)∧es=d.toLst:=by
 unfold lval at h;split at h
 ·rename_i T' d hp;split at h;·rename_i hu;cases h;exact⟨_,hp,hu,rfl⟩
  ·cases h
 ·cases h
theorem dK{Te:TypeId}(h:slE P T=some Te):P.underlying T=some (.slice Te):=by
 unfold slE at h;split at h;·rename_i hu;cases h;exact hu
 ·cases h
theorem pO{fs:Array Field}(h:stF P T=some fs):P.underlying T=some (.struct fs):=by
 unfold stF at h;split at h;·rename_i hu;cases h;exact hu
 ·cases h
theorem UA(h:isB P T=true):P.underlying T=some .bool:=by
 unfold isB at h;split at h;·assumption
 ·cases h
theorem pQ{k:IntKind}(h:isI P T k=true):P.underlying T=some (.int k):=by
 unfold isI at h;split at h
 ·rename_i k' hu;have e:k'=k:=by simpa using h
  subst e;exact hu
 ·cases h
theorem sU(h:isS P T=true):P.underlying T=some .string:=by
 unfold isS at h;split at h;·assumption
 ·cases h
theorem iX:∀{Ts:List TypeId}{TB:TypeId},bT P Ts=some TB->P.underlying TB=some .bool
 | [],_,h=>by simp[bT]at h
 |T::r,TB,h=>by
  unfold bT at h;cases hb:isB P T with
  |true=>rw[hb]at h;cases h;exact UA hb
  |false=>rw[hb]at h;exact iX h
theorem fH{Te:TypeId}(h:j3 P T Te=true):P.underlying T=some (.slice Te)∧P.cellsOf Te≠0:=by
 unfold j3 at h;refine⟨?_,Aj (aO h)⟩;have h1:=bg h;split at h1
 ·rename_i Te' he;have:=beq_eq h1;subst this;exact dK he
 ·cases h1
theorem kN(h:szB P T v=true):v≠ .dead∧(∀us,v≠ .tup us)∧(∃D,P.underlying T=some D)∧(v.isAgg P=false->P.cellsOf T=1)∧
  ∀(ok:Nat->Prop)(w:World)(β:Nat->Option Value)(cs:List Value),RA P ok w β v cs->(v.isAgg P=false->cs.length=1)->cs.length=P.cellsOf T:=by
 have h0:=bg h;have h1:=aO h;have hu:∃D,P.underlying T=some D:=Option.isSome_iff_exists.1 h0;unfold szA at h1;split at h1
 ·rename_i T' d;split at h1
  ·rename_i fs hfs;have e:=beq_eq h1;refine⟨by simp,by simp,hu,fun hi=>by simp[AV.isAgg,d9,hfs]at hi,fun ok w β cs hr _=>?_⟩;cases hr with
   |dat hr=>rw[←e];exact(hr.agg_inv hfs).2.1
  ·rename_i m1 m2 hfs;have e:=beq_eq h1;refine⟨by simp,by simp,hu,fun hi=>by simp[AV.isAgg,d9,hfs]at hi,fun ok w β cs hr _=>?_⟩;cases hr with
   |dat hr=>rw[←e];exact(hr.arr_inv hfs).2.2.1
  ·exact⟨by simp,by simp,hu,fun _=>beq_eq h1,fun ok w β cs hr hl=>by rw[beq_eq h1];rename_i D hn1 hn2 hD;refine hl ?_;simp only[AV.isAgg,d9,hD];cases D<;>simp_all⟩
  ·cases h1
 ·rename_i T' vs;split at h1
  ·rename_i fs hfs;have e:=beq_eq h1;refine⟨by simp,by simp,hu,fun hi=>by simp[AV.isAgg,d9,hfs]at hi,fun ok w β cs hr _=>?_⟩;cases hr with
   |agg _ _ hc _ _=>rw[←e];exact hc
  ·cases h1
 ·cases h1
 ·cases h1
 ·rename_i h3 h4 h5 h6;have hag:v.isAgg P=false:=by cases v<;>first|rfl|(exact absurd rfl (h3 _ _))|(exact absurd rfl (h4 _ _))
  exact⟨fun e=>h5 e,fun us e=>h6 us e,hu,fun _=>beq_eq h1,fun ok w β cs hr hl=>by rw[beq_eq h1];exact hl hag⟩
theorem sV:∀{path:List Nat}{S:TypeId}{c:AV}{T:TypeId}{q:Nat}{v:AV},getAt P S c path=some (T,q,v)->GetAt P S c path q T v
 | [],S,c,T,q,v,h=>by
   have h':some (S,0,c)=some (T,q,v):=by simpa [getAt]using h
   cases h';exact .nil
 | i::p,  S,c,T,q,v,h=>by
   unfold getAt at h;split at h;·rename_i he;cases he
   ·rename_i S0 S' vs i' p' he;cases he;split at h
    ·   rename_i fs hfs;split at h
        ·rename_i f hf;split at h
         ·rename_i u hu;obtain⟨h1,h2⟩:=aN h;split at h2
          ·rename_i T' q' r hg;cases h2;have e:=beq_eq (bg h1);subst e;exact .agg (pO hfs) hf hu (aK (aO h1)) (sV hg)
          ·cases h2
         ·cases h
        ·cases h
    ·cases h
   ·rename_i S0 S' d i' p' he;cases he;split at h
    ·   rename_i fs hfs;split at h
        ·rename_i f hf;obtain⟨h1,h2⟩:=aN h;split at h2
         ·rename_i T' q' r hg;cases h2;have e:=beq_eq (bg h1);subst e;exact .dat (pO hfs) hf (aK (aO h1)) (sV hg)
         ·cases h2
        ·cases h
    ·cases h
   ·cases h
theorem wz{T':TypeId}:∀{path:List Nat}{S:TypeId}{c:AV}{q:Nat}{c':AV},setAt P T' v S c path=some (q,c')->SetAt P v T' S c path q c'
 | [],S,c,q,c',h=>by
   have h':(bif Nat.beq S T' then some (0,v)else none)=some (q,c'):=by simpa [setAt]using h
   obtain⟨h1,h2⟩:=aN h';cases h2;have:=beq_eq h1;subst this;exact .nil
 | i::p,  S,c,q,c',h=>by
   unfold setAt at h;split at h
   ·rename_i fs hfs;split at h
    ·   rename_i f hf;split at h
        ·rename_i vs hvs;split at h
         ·rename_i old hold;obtain⟨h1,h2⟩:=aN h;split at h2
          ·rename_i q' new hg;cases h2;have key:=SetAt.agg (v:=v) (T':=T') (pO hfs) h1 hf hold (wz hg);split at hvs
           ·obtain⟨e1,e2⟩:=aN hvs;cases e2;have:=beq_eq e1;subst this;exact key
           ·obtain⟨e1,e2⟩:=aN hvs;cases e2;have:=beq_eq e1;subst this;exact .dat (pO hfs) key
           ·cases hvs
          ·cases h2
         ·cases h
        ·cases h
    ·cases h
   ·cases h
theorem Al(h:zeroV P T=some v):ZeroA P T v:=by
 unfold zeroV at h;split at h
 ·rename_i i hi;split at h
  ·rename_i z hz;obtain⟨h1,h2⟩:=aN h;exact⟨i,z,hi,hz,beq_eq h1,(BG h2).1⟩
  ·cases h
 ·cases h
theorem mO{d:Dt}(h:IU P T=some d):Zero P T d:=by
 unfold IU at h;split at h
 ·rename_i v hv;split at h
  ·rename_i T' d' hp;obtain⟨h1,h2⟩:=aN h;cases h2;have:=beq_eq h1;subst this;obtain⟨i,z,q1,q2,q3,q4⟩:=(Al hv).ex;exact⟨i,z,q1,q2,q3,fun ok w=>jX (β:=fun _=>none) (hs:=[]) (fun l T es hl=>by simp[lk]at hl) (q4 ok w _) hp⟩
  ·cases h
 ·cases h
theorem K7{fs:Array Field}:∀{parts:List (Nat×Operand)}{vs us:List AV},Oa P E σ fs parts vs=some us->BldL P σ fs parts vs us
 | [],vs,us,h=>by
   have h':some vs=some us:=by simpa [Oa]using h
   cases h';exact .nil
 | (i,x)::r,vs,us,h=>by
   unfold Oa at h;split at h
   ·rename_i f hf;obtain⟨h1,h2⟩:=aN h;obtain⟨q1,q2,q3,q4,q5⟩:=kN h1;exact .cons hf tX q1 q2 q5 (K7 h2)
   ·cases h
theorem UC{σ':St}{fs:Array Field}{xs:List Operand}(h:Agrs σ σ' xs):∀{parts:List (Nat×Operand)}{vs:List AV},(∀p∈parts,p.2∈xs)->Oa P E σ' fs parts vs=Oa P E σ fs parts vs
 | [],vs,_=>by simp[Oa]
 |(i,x)::r,vs,hp=>by
  have hx:=hp (i,x) (by simp);unfold Oa;split
  ·rename_i f hf;rw[uD h hx,UC h fun p hq=>hp p (by simp[hq])]
  ·rfl
theorem uE{lo:Option Operand}{i:Int}(h:uV P E σ 0 lo=some i):Xi P σ lo i:=by
 cases lo with
 |none=>simp only[uV,aH]at h;exact h.symm
 |some x=>
  simp only[uV]at h;split at h
  ·rename_i Tx q i' hi;cases h;obtain⟨d,e1,e2,rfl⟩:=mD hi;refine⟨Tx,q,e2,?_⟩;have:=tX (P:=P) (σ:=σ) (x:=x) (T:=0) (D:=E.dt);rw[e1]at this;exact this.cint e2
  ·cases h
theorem Sc{hi:Option Operand}{m:Nat}{i:Int}(h:uV P E σ m hi=some i):adk P σ m hi i:=by
 cases hi with
 |none=>simp only[uV,aH]at h;exact h.symm
 |some x=>
  simp only[uV]at h;split at h
  ·rename_i Tx q i' hi;cases h;obtain⟨d,e1,e2,rfl⟩:=mD hi;refine⟨Tx,q,e2,?_⟩;have:=tX (P:=P) (σ:=σ) (x:=x) (T:=0) (D:=E.dt);rw[e1]at this;exact this.cint e2
  ·cases h
theorem nH{σ':St}{xs:List Operand}{m:Int}{b:Option Operand}(h:Agrs σ σ' xs)(hb:∀x,b=some x->x∈xs):uV P E σ' m b=uV P E σ m b:=by
 cases b with
 |none=>rfl
 |some x=>simp only[uV];rw[uD h (hb x rfl)]
theorem yV{hs hs':List Ob}(v:AV):(∀l∈v.rws,lk hs' l=lk hs l)->pk P hs' v=pk P hs v:=by
 refine AV.rec (motive_1:=fun v=>(∀l∈v.rws,lk hs' l=lk hs l)->pk P hs' v=pk P hs v) (motive_2:=fun vs=>(∀l∈AV.rwsL vs,lk hs' l=lk hs l)->∀fs,pkL P hs' fs vs=pkL P hs fs vs) ?_ ?_ ?_ ?_ ?_ ?_ ?_ ?_ ?_ ?_ ?_ ?_ ?_ ?_ v;·intro T d _;rfl
 ·intro T vs ih h;simp only[pk];split
  ·rename_i fs _;rw[ih (by simpa [AV.rws]using h) fs.toList]
  ·rfl
 ·intro l h;simp only[pk];rw[h l (by simp[AV.rws])]
 ·intro l p o _;rfl
 ·intro l i z p o _;rfl
 ·intro T d _;rfl
 ·intro f c _ _;rfl
 ·intro vs _ _;rfl
 ·intro T _;rfl
 ·intro b _;rfl
 ·intro T v _ _;rfl
 ·intro _;rfl
 ·intro _ fs;cases fs<;>rfl
 ·intro v vs h1 h2 h fs;cases fs with
  |nil=>rfl
  |cons f fs=>
   simp only[pkL];rw[h1 fun l hl=>h l (by simp[AV.rwsL,hl]),h2 (fun l hl=>h l (by simp[AV.rwsL,hl])) fs]
theorem UD{l:Nat}{v:AV}:∀{vs:List AV},v∈vs->l∈v.rws->l∈AV.rwsL vs
 | [],h,_=>by simp at h
 |u::r,h,hl=>by
  rcases List.mem_cons.1 h with e|h;·subst e;simp[AV.rwsL,hl]
  ·simp[AV.rwsL,UD h hl]
theorem K8{hs:List Ob}{T:TypeId}{d:Dt}(v:AV)(h:pk P [] v=some (T,d)):pk P hs v=some (T,d):=by
 have key:∀v:AV,∀T d,pk P [] v=some (T,d)->pk P hs v=some (T,d):=by
  intro v;refine AV.rec (motive_1:=fun v=>∀T d,pk P [] v=some (T,d)->pk P hs v=some (T,d)) (motive_2:=fun vs=>∀fs ds,pkL P [] fs vs=some ds->pkL P hs fs vs=some ds) ?_ ?_ ?_ ?_ ?_ ?_ ?_ ?_ ?_ ?_ ?_ ?_ ?_ ?_ v;·intro T d T' d' h;exact h
  ·intro T vs ih T' d' h;simp only[pk]at h ⊢
   split at h
   ·    rename_i fs hfs;split at h
        ·rename_i ds hds;rw[ih _ _ hds];exact h
        ·cases h
   ·cases h
  ·intro l T d h;simp[pk,lk]at h
  ·intro l p o T d h;simp[pk]at h
  ·intro l i z p o T d h;simp[pk]at h
  ·intro T d T' d' h;simp[pk]at h
  ·intro f c _ T' d' h;simp[pk]at h
  ·intro vs _ T' d' h;simp[pk]at h
  ·intro T T' d' h;exact h
  ·intro b T' d' h;simp[pk]at h
  ·intro T v _ T' d' h;simp[pk]at h
  ·intro T' d' h;simp[pk]at h
  ·intro fs ds h;cases fs with
   |nil=>exact h
   |cons f fs=>simp[pkL]at h
  ·intro  v vs h1 h2 fs ds h;cases fs with
   |nil=>simp[pkL]at h
   |    cons f fs=>
        unfold pkL at h ⊢
        split at h
        ·rename_i T d hv;rw[h1 _ _ hv];simp only;cases hc:compat P T f.type with
         |false=>rw[hc]at h;cases h
         |true=>
          rw[hc]at h;simp only[cond_true]at h ⊢
          split at h
          · rename_i us hus;rw[h2 _ _ hus];exact h
          ·cases h
        ·cases h
 exact key v T d h
theorem Dn{hs:List Ob}{T2 k:Nat}{r:List Nat}{ls:List Dt}(h:Pj hs T2 k r=some ls):k∈r∧lk hs k= .tok T2 ls:=by
 unfold Pj at h;split at h;·cases h
 ·rename_i k' r';split at h
  ·rename_i T4 ls' hl;have hh_:=aN h;clear h;obtain⟨hc,h⟩:=hh_;have e1:=beq_eq (bg hc);have e2:=beq_eq (aO hc);subst e1 e2;cases h;exact⟨by simp,hl⟩
  ·cases h
theorem ab4{T2 k:Nat}{r:List Nat}{hs hs':List Ob}(h:∀l∈r,lk hs' l=lk hs l):Pj hs' T2 k r=Pj hs T2 k r:=by
 cases r with
 |nil=>rfl
 |cons a r=>simp only[Pj,h a (by simp)]
theorem J9{ls:List Nat}{hs hs':List Ob}{j:Nat}{ob:Ob}(h:∀l∈ls,lk hs' l=lk hs l):∀l∈ls,lk (bG hs' j ob) l=lk (bG hs j ob) l:=fun l hl=>by
 rw[jV,jV];split;·rfl
 ·exact h l hl
theorem kP:∀{ls:List Nat}{hs hs':List Ob},(∀l∈ls,lk hs' l=lk hs l)->frzW hs' ls=frzW hs ls
 | [],hs,hs',_=>rfl
 |l::r,hs,hs',h=>by
  have hr:∀k∈r,lk hs' k=lk hs k:=fun k hk=>h k (by simp[hk]);unfold frzW;rw[h l (by simp)];split
  ·rename_i T es hl;congr 1;exact kP (J9 hr)
  ·rename_i T T2 c k es hl;rw[ab4 hr];split
   ·    rename_i ls hls;congr 1;congr 1;congr 1;exact kP (J9 (J9 (J9 hr)))
   ·exact kP hr
  ·exact kP hr
theorem oU{ls:List Nat}:∀{ws:List (Nat×Ob)}{hs hs':List Ob},(∀l∈ls,lk hs' l=lk hs l)->∀l∈ls,lk (wrO hs' ws) l=lk (wrO hs ws) l
 | [],hs,hs',h,l,hl=>h l hl
 |(k,ob)::r,hs,hs',h,l,hl=>by
  refine oU (ls:=ls) (ws:=r) (hs:=bG hs k ob) (hs':=bG hs' k ob) (fun l hl=>?_) l hl;rw[jV,jV];split;·rfl
  ·exact h l hl
theorem qL:∀(a b:List (Nat×Ob))(hs:List Ob),wrO hs (a++b)=wrO (wrO hs a) b
 | [],b,hs=>rfl
 |(l,ob)::r,b,hs=>qL r b _
theorem Imp.freezeD{l k:Nat}{T T2:TypeId}{c:Option Nat}{es ls:List Dt}(hl:lk σ.hs l= .rowD T T2 c k es none)(hk:lk σ.hs k= .tok T2 ls):Imp P n σ ⟨σ.ts,bG (bG σ.hs l (.row T (frzD c es ls))) k .gone,σ.k0⟩:=by rintro ok0 w0 a w ⟨β,r⟩;exact⟨β,r.freezeD hl hk⟩
theorem Imp.frzW:∀(ls:List Nat){σ:St},Imp P n σ ⟨σ.ts,wrO σ.hs (frzW σ.hs ls),σ.k0⟩
 | [],σ=>Imp.refl
 |l::r,σ=>by
  unfold Am.frzW;split
  ·rename_i T es hl;have h1:Imp P n σ ⟨σ.ts,bG σ.hs l (.frz T es),σ.k0⟩:=by have h1:=Imp.frz1 (P:=P) (n:=n) (σ:=σ) l;unfold Am.frz1 at h1;rw[hl]at h1;exact h1
   exact h1.trans (Imp.frzW r (σ:=⟨σ.ts,bG σ.hs l (.frz T es),σ.k0⟩))
  ·rename_i T T2 c k es hl;split
   ·    rename_i ls hls;obtain⟨_,hk⟩:=Dn hls;have hlk:l≠k:=fun e=>by rw[e,hk]at hl;cases hl
        have h1:=Imp.freezeD (P:=P) (n:=n) hl hk;have h2:Imp P n ⟨σ.ts,bG (bG σ.hs l (.row T (frzD c es ls))) k .gone,σ.k0⟩ ⟨σ.ts,bG (bG (bG σ.hs l (.row T (frzD c es ls))) k .gone) l (.frz T (frzD c es ls)),σ.k0⟩:=by
         have h1:=Imp.frz1 (P:=P) (n:=n) (σ:=⟨σ.ts,bG (bG σ.hs l (.row T (frzD c es ls))) k .gone,σ.k0⟩) l;unfold Am.frz1 at h1;have e:lk (bG (bG σ.hs l (.row T (frzD c es ls))) k .gone) l= .row T (frzD c es ls):=by rw[bE _ _ _ _ hlk,dV]
         simp only[e]at h1;exact h1
        exact(h1.trans h2).trans (Imp.frzW r (σ:=⟨σ.ts,bG (bG (bG σ.hs l (.row T (frzD c es ls))) k .gone) l (.frz T (frzD c es ls)),σ.k0⟩))
   ·exact Imp.frzW r
  ·exact Imp.frzW r
theorem aeo{hs:List Ob}{l k:Nat}{ob:Ob}(h:lk hs l= .free)(hk:lk hs k≠ .free):lk (bG hs k ob) l= .free:=by rw[bE _ _ _ _ fun e=>hk (by rw[←e];exact h)];exact h
theorem qx:∀{ls:List Nat}{hs:List Ob}{l:Nat},lk hs l= .free->lk (wrO hs (Am.frzW hs ls)) l= .free
 | [],hs,l,h=>h
 |k::r,hs,l,h=>by
  unfold Am.frzW;split
  ·rename_i T es hl;exact qx (aeo h (by rw[hl];nofun))
  ·rename_i T T2 c kk es hl;split
   ·    rename_i ls hls;obtain⟨_,hk⟩:=Dn hls;refine qx ?_;have e1:l≠k:=fun e=>by rw[e,hl]at h;cases h
        have e2:l≠kk:=fun e=>by rw[e,hk]at h;cases h
        rw[bE _ _ _ _ e1,bE _ _ _ _ e2,bE _ _ _ _ e1];exact h
   ·exact qx h
  ·exact qx h
theorem qp:∀{ls:List Nat}{hs:List Ob}{l:Nat},l∉ls->lk (wrO hs (Am.frzW hs ls)) l=lk hs l
 | [],hs,l,h=>rfl
 |k::r,hs,l,h=>by
  simp only[List.mem_cons,not_or]at h;unfold Am.frzW;split
  ·rename_i T es hl;simp only[wrO];rw[qp h.2,bE _ _ _ _ h.1]
  ·rename_i T T2 c kk es hl;split
   ·    rename_i ls hls;obtain⟨hm,hk⟩:=Dn hls;have e2:l≠kk:=fun e=>h.2 (by rw[e];exact hm);simp only[wrO];rw[qp h.2,bE _ _ _ _ h.1,bE _ _ _ _ e2,bE _ _ _ _ h.1]
   ·exact qp h.2
  ·exact qp h.2
theorem alW(σ:St)(d:Option Nat)(Y:Dl):(σ.app d Y).k0=σ.k0:=rfl
end
structure Agr (o:Oper) (σ σ':St) (rd:List Nat):Prop where
 ts:Agrs σ σ' o.op.operands.toList
 hs:∀l∈rd,lk σ'.hs l=lk σ.hs l
 k0:σ'.k0=σ.k0
def OpS{R:Type}(P:Program)(n:Nat)(o:Oper)(σ:St)(k:Dl->Option R)(r:R):Prop:=
 ∃Y,k Y=some r∧∀σ',Agr o σ σ' Y.rd->dw P n o σ' (σ'.app o.dst Y)
section
variable{P:Program}{n:Nat}{o:Oper}{σ τ:St}{x y:Operand}{v:AV}{T:TypeId}{R:Type}{E:Env}{k:Dl->Option R}{r:R}
theorem mE{rd:List Nat}{wr:List (Nat×Ob)}(h:out n o v rd wr k=some r):∃d,o.dst=some d∧d<n∧k ⟨some v,rd,wr⟩=some r:=by
 unfold out at h;split at h
 ·rename_i d hd;obtain⟨h1,h2⟩:=aN h;exact⟨d,hd,aK h1,h2⟩
 ·cases h
theorem xZ{rd:List Nat}{wr:List (Nat×Ob)}(h:Xw o rd wr k=some r):o.dst=none∧k ⟨none,rd,wr⟩=some r:=by
 unfold Xw at h;split at h;·cases h
 ·rename_i hd;exact⟨hd,h⟩
theorem nI{f:Nat->Option R}(h:new σ f=some r):σ.k0<=σ.hs.length∧f σ.hs.length=some r:=by unfold new at h;obtain⟨h1,h2⟩:=aN h;exact⟨aK h1,h2⟩
theorem bZ{rd:List Nat}(h:out n o v rd [] k=some r)(hv:∀σ',Agr o σ σ' rd->∀d,o.dst=some d->d<n->dw P n o σ' (σ'.put d v)):OpS P n o σ k r:=by obtain⟨d,hd,hn,hk⟩:=mE h;refine⟨_,hk,fun σ' ha=>?_⟩;have:=hv σ' ha d hd hn;rw[hd];exact this
theorem ZA{rd:List Nat}{l:Nat}{ob:Ob}(h:out n o v rd [(l,ob)] k=some r)(hv:∀σ',Agr o σ σ' rd->∀d,o.dst=some d->d<n->dw P n o σ' ((σ'.lay l ob).put d v)):OpS P n o σ k r:=by obtain⟨d,hd,hn,hk⟩:=mE h;refine⟨_,hk,fun σ' ha=>?_⟩;have:=hv σ' ha d hd hn;rw[hd];exact this
theorem qM{σ':St}{rd:List Nat}(ha:Agr o σ σ' rd)(hx:x∈o.op.operands.toList):Ev P σ' x (opd P E.dt σ T x):=by rw[←uD ha.ts hx];exact tX
theorem cK{σ':St}{rd:List Nat}{u:AV}(ha:Agr o σ σ' rd)(hx:x∈o.op.operands.toList)(hv:opd P E.dt σ T x=u):Ev P σ' x u:=by rw[←hv];exact qM ha hx
theorem alX(ho:o.op= .move x)(h:out n o (opd P E.dt σ o.type x) [] [] k=some r):OpS P n o σ k r:=
 bZ h fun σ' ha d hd hn=>aiC ho hd hn (qM ha (by rw[ho];simp[Op.operands]))
theorem aep(ho:o.op= .assign x)(h:out n o (opd P E.dt σ o.type x) [] [] k=some r):OpS P n o σ k r:=
 bZ h fun σ' ha d hd hn=>abH ho hd hn (qM ha (by rw[ho];simp[Op.operands]))
theorem alY{c:Operand}(ho:o.op= .pick c x y)(h:XA P E n o σ c x y k=some r):OpS P n o σ k r:=by
 unfold XA at h;split at h
 ·rename_i b hb;obtain⟨TB,d0,e1,e2,rfl⟩:=uK hb;cases hd0:d0.toBool with
  |true=>
   rw[hd0]at h;exact bZ h fun σ' ha d hd hn=>by have hc:=(cK (x:=c) ha (by rw[ho];simp[Op.operands]) e1).cbool e2;rw[hd0]at hc;exact Ri ho hd hn e2 hc (qM ha (by rw[ho];simp[Op.operands]))
  |false=>
   rw[hd0]at h;exact bZ h fun σ' ha d hd hn=>by have hc:=(cK (x:=c) ha (by rw[ho];simp[Op.operands]) e1).cbool e2;rw[hd0]at hc;exact NV ho hd hn e2 hc (qM ha (by rw[ho];simp[Op.operands]))
 ·cases h
theorem nJ(σ:St):lk σ.hs σ.hs.length= .free:=ng _ _ (aj _)
theorem ai0(ho:o.op= .alloc T)(h:RZ P n o σ T k=some r):OpS P n o σ k r:=by
 unfold RZ at h;split at h
 ·rename_i v hv;have hh_:=nI h;clear h;obtain⟨hk0,h⟩:=hh_;exact ZA h fun σ' ha d hd hn=>adb ho hd hn (by rw[ha.hs _ (by simp)];exact nJ σ) (by rw[ha.k0];exact hk0) (Al hv)
 ·cases h
theorem aoh(ho:o.op= .box T x)(h:ad8 P E n o σ T x k=some r):OpS P n o σ k r:=by unfold ad8 at h;have hh_:=aN h;clear h;obtain⟨hb,h⟩:=hh_;have hh_:=nI h;clear h;obtain⟨hk0,h⟩:=hh_;obtain⟨q1,q2,q3,q4,q5⟩:=kN hb;exact ZA h fun σ' ha d hd hn=>alm ho hd hn (by rw[ha.hs _ (by simp)];exact nJ σ) (by rw[ha.k0];exact hk0) (qM ha (by rw[ho];simp[Op.operands])) q1 q2 q5
theorem ai1{parts:Array (Nat×Operand)}(ho:o.op= .build T parts)(h:R3 P E n o σ T parts.toList k=some r):OpS P n o σ k r:=by
 unfold R3 at h;split at h
 ·rename_i fs hfs;split at h
  ·rename_i T' vs hz;have hh_:=aN h;clear h;obtain⟨hc,h⟩:=hh_;have e:=beq_eq (bg hc);subst e;split at h
   ·    rename_i us hus;refine bZ h fun σ' ha d hd hn=>adi ho hd hn (pO hfs) (bg (aO hc)) (aO (aO hc)) (Al hz) ?_;have:Oa P E σ' fs parts.toList vs=some us:=by rw[UC ha.ts fun p hp=>by rw[ho];simp only[Op.operands];exact List.mem_map.2 ⟨p,hp,rfl⟩];exact hus
        exact K7 this
   ·cases h
  ·cases h
 ·cases h
theorem aqp{σ τ:St}(h:∀(ok0:OkX)(w0:World)(a:Act)(w:World)(β:Nat->Option Value),RelB P ok0 w0 n σ a w β->dw P n o σ τ):dw P n o σ τ:=by rintro ok0 w0 a w ⟨β,r⟩;exact h ok0 w0 a w β r ok0 w0 a w ⟨β,r⟩
theorem ai2{l i sz off kk:Nat}{path:List Nat}{T5 T2:TypeId}{c:Option Nat}{es:List Dt}{hh:Option (Nat×Nat)}(ho:o.op= .load T x)(e1:opd P E.dt σ 0 x= .eptr l i sz path off)(hl:lk σ.hs l= .rowD T5 T2 c kk es hh)
  (h:R4 P n o σ T l i sz off T5 T2 c kk es hh k=some r):OpS P n o σ k r:=by
 have hx:x∈o.op.operands.toList:=by rw[ho];simp[Op.operands]
 unfold R4 at h;split at h
 ·rename_i Te E2 T4 ls h1 h2 h3;split at h
  ·rename_i T3 fo hf;have hh_:=aN h;clear h;obtain⟨hc,h⟩:=hh_;have f1:=beq_eq (bg hc);have f2:=beq_eq (bg (aO hc));have f3:=beq_eq (bg (aO (aO hc)));have f4:=beq_eq (bg (aO (aO (aO hc))));have f5:=beq_eq (aO (aO (aO (aO hc))));subst f1 f2 f4 f5;subst f3;have hh_:=nI h;clear h;obtain⟨hk0,h⟩:=hh_;have hh_:=ak.1 h;clear h;obtain⟨e,he,h⟩:=hh_;have hh_:=aN h;clear h;obtain⟨hlk,h⟩:=hh_;have hh_:=ak.1 h;clear h;obtain⟨e2,he2,h⟩:=hh_;obtain⟨d,hd,hn,hk⟩:=mE h;refine⟨_,hk,fun σ' ag=>?_⟩;rw[hd];have hk':lk σ'.hs kk= .tok T4 ls:=by rw[ag.hs kk (by simp)];exact h3
   refine aqp fun _ _ _ _ _ r=>?_;exact Sw ho hd hn (dK h2) (dK h1) (cK ag hx e1) hf (by rw[ag.hs l (by simp)];exact hl) hk' he hlk (r.tok_lst hk' he2)
        (by rw[ag.hs _ (by simp)];exact nJ σ) (by rw[ag.hs _ (by simp)];exact ng _ _ (by omega)) (by omega) (by rw[ag.k0];exact hk0) (by rw[ag.k0];omega)
  ·cases h
 ·cases h
theorem aer{hs:List Ob}{Te T2 fo E2:TypeId}{c:Option Nat}{d':Dt}{m:Nat}(hu2:P.underlying T2=some (.slice E2))(hf:LC P Te c=some (T2,fo))(hm:ad9 c v=some m)(h:KW P hs Te T2 c v=some d'):Sz P hs Te c fo v d' m:=by
 have hh:=EU hf;unfold ad9 at hm;split at hm
 ·cases hm;cases h;obtain⟨h1,h2⟩:=al9 (show (bif Nat.beq (P.cellsOf Te) 1 then some (Te,0)else none)=some (T2,fo)from hf);cases h2;exact acE hu2 (beq_eq h1)
 ·split at hm
  ·rename_i m' hv;cases hm;simp only[KW]at h;split at h
   ·    rename_i T3 e' hp;have hh_:=aN h;clear h;obtain⟨hc,h⟩:=hh_;have f1:=beq_eq (bg hc);have f2:=beq_eq (aO hc);subst f1 f2;cases h;exact acF hh hu2 hv hp
   ·cases h
  ·cases hm
 ·cases hm
theorem K9{m:Nat}:∀{ls:List Nat},∀l∈BS m ls,l∈ls
 |a::r,l,h=>by
  unfold BS at h;cases hb:Nat.beq a m with
  |true=>rw[hb]at h;exact bD _ (K9 l h)
  |false=>
   rw[hb]at h;rcases List.mem_cons.1 h with h|h;·rw[h];exact bA
   ·exact bD _ (K9 l h)
theorem Po{T2:TypeId}:∀{vs:List AV}{f:Nat},∀l∈AV.rwsL (vs.set f (.nils T2)),l∈AV.rwsL vs
 | [],_,_,h=>h
 |v::r,0,l,h=>by simp only[List.set_cons_zero,AV.rwsL,AV.rws,List.nil_append]at h;simp[AV.rwsL,h]
 |v::r,f+1,l,h=>by simp only[List.set_cons_succ,AV.rwsL,List.mem_append]at h;simp only[AV.rwsL,List.mem_append];exact h.imp id (Po l)
theorem ab5{hs hs':List Ob}{Te T2:TypeId}{c:Option Nat}(h:∀l∈v.rws,lk hs' l=lk hs l):KW P hs' Te T2 c v=KW P hs Te T2 c v:=by
 cases c with
 |none=>rfl
 |some f=>
  cases v with
  |agg T' vs=>
   simp only[KW];rw[yV (hs:=hs) (hs':=hs') (.agg Te (vs.set f (.nils T2))) fun l hl=>h l (Po l hl)]
  |_=>rfl
theorem aes{l i sz off kk:Nat}{path:List Nat}{T5 T2:TypeId}{c:Option Nat}{es:List Dt}{hh:Option (Nat×Nat)}(ho:o.op= .store T x y)(hz:szB P T (opd P E.dt σ T y)=true)(h0:P.cellsOf T≠0)(e1:opd P E.dt σ 0 x= .eptr l i sz path off)(hl:lk σ.hs l= .rowD T5 T2 c kk es hh)
  (h:KX P o σ T l i sz path off T5 T2 c kk es hh (opd P E.dt σ T y) k=some r):OpS P n o σ k r:=by
 have hx:x∈o.op.operands.toList:=by rw[ho];simp[Op.operands]
 have hy:y∈o.op.operands.toList:=by rw[ho];simp[Op.operands]
 obtain⟨q1,q2,q3,q4,q5⟩:=kN hz;unfold KX at h;split at h
 ·rename_i Te m h1 hm;split at h
  ·rename_i T3 fo E2 d' hf h2 h3;have hh_:=aN h;clear h;obtain⟨hc,h⟩:=hh_;have f1:=beq_eq (bg hc);have f2:=beq_eq (bg (aO hc));have f3:=beq_eq (bg (aO (aO hc)));have f4:=beq_eq (bg (aO (aO (aO hc))));have hnm:l∉BS m (opd P E.dt σ T y).rws:=Aq (by simpa using aO (aO (aO (aO hc))));subst f1 f2 f3 f4;have hh_:=ak.1 h;clear h;obtain⟨e,he,h⟩:=hh_;obtain⟨hd,hk⟩:=xZ h;refine⟨_,hk,fun σ' ag=>?_⟩;rw[hd];have hagr:∀l∈(opd P E.dt σ Te y).rws,lk σ'.hs l=lk σ.hs l:=fun l hl=>ag.hs l (by simp[hl]);have hfw:frzW σ'.hs (BS m (opd P E.dt σ Te y).rws)=frzW σ.hs (BS m (opd P E.dt σ Te y).rws):=kP fun l hl=>hagr l (K9 l hl);have hev:∀{z:Operand}{u:AV}{T0:TypeId},z∈o.op.operands.toList->opd P E.dt σ T0 z=u->Ev P (St.mk σ'.ts (wrO σ'.hs (frzW σ'.hs (BS m (opd P E.dt σ Te y).rws))) σ'.k0) z u:=by
        rintro z u T0 hz rfl;have e3:opd P E.dt (St.mk σ'.ts (wrO σ'.hs (frzW σ'.hs (BS m (opd P E.dt σ Te y).rws))) σ'.k0) T0 z=opd P E.dt σ T0 z:=by rw[←uD ag.ts hz];cases z<;>rfl
        rw[←e3];exact tX
   have key:=acD (σ:=St.mk σ'.ts (wrO σ'.hs (frzW σ'.hs (BS m (opd P E.dt σ Te y).rws))) σ'.k0) (n:=n) (i:=i) ho hd h0 (hev hx e1) (hev hy rfl) q1 q2 q5
        (by show lk (wrO σ'.hs _) l=_;rw[qp hnm,ag.hs l (by simp)];exact hl) (dK h1) (au.1 he).1 (EU hf) (fun _ _ e=>by cases e)
        (aer (dK h2) hf hm (by show KW P (wrO σ'.hs _) Te _ c _=some d';rw[←h3,hfw];exact ab5 fun l hl=>oU hagr l hl))
   have:=key.pre (Imp.frzW (σ:=σ') (BS m (opd P E.dt σ Te y).rws));have hfin:St.mk (abZ σ'.ts none none) (wrO σ'.hs (frzW σ.hs (BS m (opd P E.dt σ Te y).rws)++[(l,.rowD T5 T3 c kk (es.set i d') (some (i,m)))])) σ'.k0=(St.mk σ'.ts (wrO σ'.hs (frzW σ'.hs (BS m (opd P E.dt σ Te y).rws))) σ'.k0).lay l (.rowD T5 T3 c kk (es.set i d') (some (i,m))):=by rw[qL,hfw];rfl
   rw[←hfin]at this;exact this
  ·cases h
 ·cases h
theorem alZ(ho:o.op= .load T x)(h:XB P E n o σ T x k=some r):OpS P n o σ k r:=by
 have hx:x∈o.op.operands.toList:=by rw[ho];simp[Op.operands]
 unfold XB at h;split at h
 ·rename_i T' d0 e1;have hh_:=aN h;clear h;obtain⟨hc,h⟩:=hh_;have e:=beq_eq (bg hc);subst e;obtain⟨q1,q2,⟨D,hD⟩,q4,q5⟩:=kN (aO hc);exact bZ h fun σ' ha d hd hn=>(Rk ho hd hn hD (fun hf=>q4 hf) (cK ha hx e1)).can
 ·rename_i l path off e1;split at h
  ·rename_i S c hl;split at h
   ·    rename_i T' q v hg;have hh_:=aN h;clear h;obtain⟨hc,h⟩:=hh_;have e:=beq_eq (bg hc);subst e;have e2:=beq_eq (bg (aO hc));subst e2;obtain⟨q1,q2,⟨D,hD⟩,q4,q5⟩:=kN (bg (aO (aO hc)));have hag:v.isAgg P=d9 P T':=by simpa using aO (aO (aO hc))
        refine bZ h fun σ' ha d hd hn=>?_;have key:=T9 ho hd hn hD (fun hf=>q4 (by rw[hag];exact hf)) (cK ha hx e1) (by rw[ha.hs l (by simp)];exact hl) (sV hg) hag q2;cases v<;>first|exact key|exact key.can
   ·cases h
  ·cases h
 ·rename_i l i sz path off e1;split at h
  ·rename_i T5 es hl;split at h
   ·    rename_i Te hTe;have hh_:=ak.1 h;clear h;obtain⟨e0,he0,h⟩:=hh_;split at h
        ·rename_i T' q v hg;have hh_:=aN h;clear h;obtain⟨hc,h⟩:=hh_;have e:=beq_eq (bg hc);subst e;have e2:=beq_eq (bg (aO hc));subst e2;have e3:=beq_eq (bg (aO (aO hc)));subst e3;obtain⟨q1,q2,⟨D,hD⟩,q4,q5⟩:=kN (bg (aO (aO (aO hc))));have hag:v.isAgg P=d9 P T':=by simpa using aO (aO (aO (aO hc)))
         refine bZ h fun σ' ha d hd hn=>?_;have key:=Rn ho hd hn hD (fun hf=>q4 (by rw[hag];exact hf)) (cK ha hx e1) (by rw[ha.hs l (by simp)];exact hl) (dK hTe) he0 (sV hg) hag q2;cases v<;>first|exact key|exact key.can
        ·cases h
   ·cases h
  ·rename_i T5 vs hl;split at h
   ·    rename_i Te hTe;have hh_:=ak.1 h;clear h;obtain⟨e0,he0,h⟩:=hh_;split at h
        ·rename_i T' q v hg;have hh_:=aN h;clear h;obtain⟨hc,h⟩:=hh_;have e:=beq_eq (bg hc);subst e;have e2:=beq_eq (bg (aO hc));subst e2;have e3:=beq_eq (bg (aO (aO hc)));subst e3;obtain⟨q1,q2,⟨D,hD⟩,q4,q5⟩:=kN (bg (aO (aO (aO hc))));have hag:v.isAgg P=d9 P T':=by simpa using aO (aO (aO (aO hc)))
         refine bZ h fun σ' ha d hd hn=>?_;have key:=Oh ho hd hn hD (fun hf=>q4 (by rw[hag];exact hf)) (cK ha hx e1) (by rw[ha.hs l (by simp)];exact hl) (dK hTe) he0 (sV hg) hag q2;cases v<;>first|exact key|exact key.can
        ·cases h
   ·cases h
  ·rename_i hl;exact ai2 ho e1 hl h
  ·cases h
 ·cases h
theorem ai3(ho:o.op= .store T x y)(h:R5 P E o σ T x y k=some r):OpS P n o σ k r:=by
 have hx:x∈o.op.operands.toList:=by rw[ho];simp[Op.operands]
 have hy:y∈o.op.operands.toList:=by rw[ho];simp[Op.operands]
 unfold R5 at h;have hh_:=aN h;clear h;obtain⟨hc0,h⟩:=hh_;obtain⟨q1,q2,q3,q4,q5⟩:=kN (bg hc0);have h0:=Aj (aO hc0);split at h
 ·rename_i l path off e1;split at h
  ·rename_i S c hl;split at h
   ·    rename_i q c' hs;have hh_:=aN h;clear h;obtain⟨hc,h⟩:=hh_;have e:=beq_eq hc;subst e;obtain⟨hd,hk⟩:=xZ h;refine⟨_,hk,fun σ' ha=>?_⟩;have:=Rl (n:=n) ho hd h0 (cK ha hx e1) (qM ha hy) q1 q2 q5 (by rw[ha.hs l (by simp)];exact hl) (wz hs);rw[hd];exact this
   ·cases h
  ·cases h
 ·rename_i l i sz path off e1;split at h
  ·rename_i T5 es hl;split at h
   ·    rename_i Te hTe;have hh_:=ak.1 h;clear h;obtain⟨e0,he0,h⟩:=hh_;split at h
        ·rename_i q c' hs;split at h
         ·rename_i Te' e' hpk;have hh_:=aN h;clear h;obtain⟨hc,h⟩:=hh_;have e:=beq_eq (bg hc);subst e;have e2:=beq_eq (bg (aO hc));subst e2;have hcmp:=bg (aO (aO hc));have hnm:l∉(opd P E.dt σ T y).rws:=Aq (by simpa using aO (aO (aO hc)));obtain⟨hd,hk⟩:=xZ h;refine⟨_,hk,fun σ' ha=>?_⟩;have hagr:∀l∈(opd P E.dt σ T y).rws,lk σ'.hs l=lk σ.hs l:=fun l hl=>ha.hs l (by simp[hl]);rw[hd];have key:dw P n o ⟨σ'.ts,wrO σ'.hs (frzW σ'.hs (opd P E.dt σ T y).rws),σ'.k0⟩ ((St.mk σ'.ts (wrO σ'.hs (frzW σ'.hs (opd P E.dt σ T y).rws)) σ'.k0).lay l (.row T5 (es.set i e'))):=by
           have hev:∀{z:Operand}{u:AV},Ev P σ' z u->z∈o.op.operands.toList->(∃T0,u=opd P E.dt σ T0 z)->Ev P (St.mk σ'.ts (wrO σ'.hs (frzW σ'.hs (opd P E.dt σ T y).rws)) σ'.k0) z u:=by
            rintro z u _ hz ⟨T0,rfl⟩;have e3:opd P E.dt (St.mk σ'.ts (wrO σ'.hs (frzW σ'.hs (opd P E.dt σ T y).rws)) σ'.k0) T0 z=opd P E.dt σ T0 z:=by rw[←uD ha.ts hz];cases z<;>rfl
            rw[←e3];exact tX
           refine NY (n:=n) ho hd h0 (hev (cK ha hx e1) hx ⟨_,e1.symm⟩) (hev (qM ha hy) hy ⟨_,rfl⟩) q1 q2 q5 ?_ (dK hTe) he0 (wz hs) ?_
           ·show lk (wrO σ'.hs _) l=_;rw[qp hnm,ha.hs l (by simp)];exact hl
           ·intro ok0 w0 a w β rb cs hra;refine RD.compat (jX rb.frzOK hra ?_) hcmp;show pk P (wrO σ'.hs (frzW σ'.hs (opd P E.dt σ T y).rws)) c'=_;rw[←hpk];refine yV c' fun l2 hl2=>?_;have hsub:∀l2∈c'.rws,l2∈(opd P E.dt σ T y).rws:=setAt_rws hs (by intro l3 h3;simp[AV.rws]at h3);rw[kP hagr];exact oU hagr l2 (hsub l2 hl2)
          have hfin:St.mk (abZ σ'.ts none none) (wrO σ'.hs (frzW σ.hs (opd P E.dt σ T y).rws++[(l,.row T5 (es.set i e'))])) σ'.k0=(St.mk σ'.ts (wrO σ'.hs (frzW σ'.hs (opd P E.dt σ T y).rws)) σ'.k0).lay l (.row T5 (es.set i e')):=by rw[qL,kP hagr];rfl
          have:=key.pre (Imp.frzW (σ:=σ') (opd P E.dt σ T y).rws);rw[←hfin]at this;exact this
         ·cases h
        ·cases h
   ·cases h
  ·rename_i T5 vs hl;split at h
   ·    rename_i Te hTe;have hh_:=ak.1 h;clear h;obtain⟨e0,he0,h⟩:=hh_;split at h
        ·rename_i q c' hs;have hh_:=aN h;clear h;obtain⟨hc,h⟩:=hh_;have e:=beq_eq (bg hc);subst e;have e2:=beq_eq (aO hc);subst e2;obtain⟨hd,hk⟩:=xZ h;refine⟨_,hk,fun σ' ha=>?_⟩;have:=LB (n:=n) ho hd h0 (cK ha hx e1) (qM ha hy) q1 q2 q5 (by rw[ha.hs l (by simp)];exact hl) (dK hTe) he0 (wz hs);rw[hd];exact this
        ·cases h
   ·cases h
  ·rename_i hl;exact aes ho (bg hc0) h0 e1 hl h
  ·cases h
 ·cases h
where setAt_rws {T':TypeId} {v:AV}:∀{path:List Nat}{S:TypeId}{c:AV}{q:Nat}{c':AV},setAt P T' v S c path=some (q,c')->(∀l∈c.rws,l∈v.rws)->∀l∈c'.rws,l∈v.rws
 | [],S,c,q,c',h,_=>by
   have h':(bif Nat.beq S T' then some (0,v)else none)=some (q,c'):=by simpa [setAt]using h
   obtain⟨_,h2⟩:=aN h';cases h2;exact fun l hl=>hl
 | i  ::p,S,c,    q,c',h,hc=>by
   unfold setAt at h;split at h
   ·  rename_i fs hfs;split at h
      ·rename_i f hf;split at h
       ·rename_i vs hvs;split at h
        · rename_i old hold;obtain⟨h1,h2⟩:=aN h;split at h2
          ·rename_i q' new hg;cases h2;have hvsr:∀l∈AV.rwsL vs,l∈v.rws:=by
                split at hvs
                · obtain⟨e1,e2⟩:=aN hvs;cases e2;exact hc
                · obtain⟨e1,e2⟩:=aN hvs;cases e2;intro l hl;exfalso;have:∀(fs:List Field)(j:Nat)(d:Dt),AV.rwsL (Cw P fs j d)=[]:=by
                   intro fs;induction fs with
                   |nil=>intro j d;rfl
                   |cons f r ih=>intro j d;simp[Cw,AV.rwsL,AV.rws,ih]
                  rw[show expl P fs _=Cw P fs.toList 0 _ from rfl,this]at hl;simp at hl
                ·cases hvs
           have hnew:=setAt_rws hg fun l hl=>hvsr l (UD (aV hold) hl);intro l hl;have hset:∀(us:List AV)(j:Nat),(∀l∈AV.rwsL us,l∈v.rws)->∀l∈AV.rwsL (us.set j new),l∈v.rws:=by
                intro us;induction us with
                |nil=>intro j hu l hl;simp[AV.rwsL]at hl
                | cons u r ih=>
                  intro j hu l hl;cases j with
                  |zero=>
                   simp only[List.set_cons_zero,AV.rwsL,List.mem_append]at hl;rcases hl with hl|hl;·exact hnew l hl
                   ·exact hu l (by simp[AV.rwsL,hl])
                  |succ j=>
                   simp only[List.set_cons_succ,AV.rwsL,List.mem_append]at hl;rcases hl with hl|hl;·exact hu l (by simp[AV.rwsL,hl])
                   ·exact ih j (fun l hl=>hu l (by simp[AV.rwsL,hl])) l hl
           exact hset vs i hvsr l hl
          ·cases h2
        ·cases h
       ·cases h
      ·cases h
   ·cases h
end
section
variable{P:Program}{n:Nat}{o:Oper}{σ τ:St}{x y:Operand}{v:AV}{T:TypeId}{R:Type}{E:Env}{k:Dl->Option R}{r:R}
theorem oH{d:Nat}(ho:o.op= .nilCheck x)(hd:o.dst=some d)(hn:d<n)(hx:Ev P σ x v)
  (hv:∀(ok:Nat->Prop)(w:World)(β:Nat->Option Value)(z:Value),RV P ok w β v z->(∃ad,z= .pointer (some ad))∨∃f a b,z= .func (.func f) a b):dw P n o σ (σ.put d v):=
 bJ hd hn fun ok0 w0 a w β r=>by
  have h:=hx _ _ _ _ _ _ r;rcases hv _ _ _ _ h with⟨ad,e⟩| ⟨f,a1,b1,e⟩;·exact⟨_,by simp[execOp,ho,e],e▸h⟩
  ·exact⟨_,by simp[execOp,ho,e],e▸h⟩
theorem XH(ho:o.op= .nilCheck x)(h:Dk P E n o σ x k=some r):OpS P n o σ k r:=by
 have hx:x∈o.op.operands.toList:=by rw[ho];simp[Op.operands]
 unfold Dk at h;split at h
 ·rename_i T d0 e1;exact bZ h fun σ' ha d hd hn=>oH ho hd hn (cK ha hx e1) fun ok w β z hz=>by
   have:=hz.2 rfl;cases this with
   |rptr=>exact .inl ⟨_,rfl⟩
 ·rename_i l p q e1;exact bZ h fun σ' ha d hd hn=>oH ho hd hn (cK ha hx e1) fun ok w β z hz=>by
   have:=hz.2 rfl;cases this with
   |ptr=>exact .inl ⟨_,rfl⟩
 ·rename_i l i z p q e1;exact bZ h fun σ' ha d hd hn=>oH ho hd hn (cK ha hx e1) fun ok w β z hz=>by
   have:=hz.2 rfl;cases this with
   |eptr=>exact .inl ⟨_,rfl⟩
 ·rename_i f c e1;exact bZ h fun σ' ha d hd hn=>oH ho hd hn (cK ha hx e1) fun ok w β z hz=>by
   have:=hz.2 rfl;cases this with
   |fn=>exact .inr ⟨_,_,_,rfl⟩
 ·rename_i T d0 e1;split at h
  ·rename_i T2 hT2;have hh_:=ak.1 h;clear h;obtain⟨e0,he0,h⟩:=hh_;exact bZ h fun σ' ha d hd hn=>oH ho hd hn ((cK ha hx e1).pd (Au hT2) he0) fun ok w β z hz=>by
        have:=hz.2 rfl;cases this with
        |rptr=>exact .inl ⟨_,rfl⟩
  ·cases h
 ·cases h
theorem aoi{op:BinOp}{T T' Tx Ty:TypeId}{q:IntKind}{a b:Int}(ho:o.op= .binOp op T x y T')(hux:P.underlying Tx=some (.int q))(huy:P.underlying Ty=some (.int q))
  (hx:∀σ',Agr o σ σ' []->Ev P σ' x (.dat Tx (.int a)))(hy:∀σ',Agr o σ σ' []->Ev P σ' y (.dat Ty (.int b)))(h:ad2 P E n o op Tx q a b k=some r):OpS P n o σ k r:=by
 unfold ad2 at h;simp only at h;cases op with
 |add=>exact bZ h fun σ' ha d hd hn=>ak0 ho hd hn hux huy (hx σ' ha) (hy σ' ha)
 |sub=>exact bZ h fun σ' ha d hd hn=>ak1 ho hd hn hux huy (hx σ' ha) (hy σ' ha)
 |mul=>exact bZ h fun σ' ha d hd hn=>ak2 ho hd hn hux huy (hx σ' ha) (hy σ' ha)
 |quo=>
  simp only at h;by_cases hb:b=0;·simp[hb]at h
  ·simp only[hb,decide_false,cond_false]at h;exact bZ h fun σ' ha d hd hn=>ak3 ho hd hn hux huy (hx σ' ha) (hy σ' ha) hb
 |rem=>
  simp only at h;by_cases hb:b=0;·simp[hb]at h
  ·simp only[hb,decide_false,cond_false]at h;exact bZ h fun σ' ha d hd hn=>ak4 ho hd hn hux huy (hx σ' ha) (hy σ' ha) hb
 |and=>exact bZ h fun σ' ha d hd hn=>ak5 ho hd hn hux huy (hx σ' ha) (hy σ' ha)
 |or=>exact bZ h fun σ' ha d hd hn=>anD ho hd hn hux huy (hx σ' ha) (hy σ' ha)
 |xor=>exact bZ h fun σ' ha d hd hn=>ak6 ho hd hn hux huy (hx σ' ha) (hy σ' ha)
 |andNot=>exact bZ h fun σ' ha d hd hn=>ak7 ho hd hn hux huy (hx σ' ha) (hy σ' ha)
 |lss=>
  simp only at h;split at h;·rename_i TB hTB;exact bZ h fun σ' ha d hd hn=>ak8 ho hd hn (iX hTB) hux huy (hx σ' ha) (hy σ' ha)
  ·cases h
 |leq=>
  simp only at h;split at h;·rename_i TB hTB;exact bZ h fun σ' ha d hd hn=>ak9 ho hd hn (iX hTB) hux huy (hx σ' ha) (hy σ' ha)
  ·cases h
 |gtr=>
  simp only at h;split at h;·rename_i TB hTB;exact bZ h fun σ' ha d hd hn=>ala ho hd hn (iX hTB) hux huy (hx σ' ha) (hy σ' ha)
  ·cases h
 |geq=>
  simp only at h;split at h;·rename_i TB hTB;exact bZ h fun σ' ha d hd hn=>alb ho hd hn (iX hTB) hux huy (hx σ' ha) (hy σ' ha)
  ·cases h
 |eql=>
  simp only at h;split at h;·rename_i TB hTB;exact bZ h fun σ' ha d hd hn=>alc ho hd hn (iX hTB) hux huy (hx σ' ha) (hy σ' ha)
  ·cases h
 |neq=>
  simp only at h;split at h;·rename_i TB hTB;exact bZ h fun σ' ha d hd hn=>ald ho hd hn (iX hTB) hux huy (hx σ' ha) (hy σ' ha)
  ·cases h
 |_=>cases h
theorem aoj{op:BinOp}{T T' Tx Ty:TypeId}{a b:ByteArray}(ho:o.op= .binOp op T x y T')(hux:P.underlying Tx=some .string)(huy:P.underlying Ty=some .string)
  (hx:∀σ',Agr o σ σ' []->Ev P σ' x (.dat Tx (.str a)))(hy:∀σ',Agr o σ σ' []->Ev P σ' y (.dat Ty (.str b)))(h:ad3 P E n o op Tx a b k=some r):OpS P n o σ k r:=by
 unfold ad3 at h;simp only at h;cases op with
 |add=>
  simp only at h;have hh_:=aN h;clear h;obtain⟨hs,h⟩:=hh_;exact bZ h fun σ' ha d hd hn=>alh ho hd hn hux huy (hx σ' ha) (hy σ' ha) (by have:=aK hs;unfold maxLen;omega)
 |lss=>
  simp only at h;split at h;·rename_i TB hTB;exact bZ h fun σ' ha d hd hn=>alg ho hd hn (iX hTB) hux huy (hx σ' ha) (hy σ' ha)
  ·cases h
 |eql=>
  simp only at h;split at h;·rename_i TB hTB;exact bZ h fun σ' ha d hd hn=>ale ho hd hn (iX hTB) hux huy (hx σ' ha) (hy σ' ha)
  ·cases h
 |neq=>
  simp only at h;split at h;·rename_i TB hTB;exact bZ h fun σ' ha d hd hn=>alf ho hd hn (iX hTB) hux huy (hx σ' ha) (hy σ' ha)
  ·cases h
 |_=>cases h
theorem al0{op:BinOp}{T T' Tx Ty:TypeId}{a b:Bool}(ho:o.op= .binOp op T x y T')(hu:P.underlying T=some .bool)(hux:P.underlying Tx=some .bool)(huy:P.underlying Ty=some .bool)
  (hx:∀σ',Agr o σ σ' []->Ev P σ' x (.dat Tx (.bool a)))(hy:∀σ',Agr o σ σ' []->Ev P σ' y (.dat Ty (.bool b)))(h:Xx P E n o op a b k=some r):OpS P n o σ k r:=by
 unfold Xx at h;simp only at h;cases op with
 |eql=>
  simp only at h;split at h;·rename_i TB hTB;exact bZ h fun σ' ha d hd hn=>ali ho hd hn (iX hTB) hu hux huy (hx σ' ha) (hy σ' ha)
  ·cases h
 |neq=>
  simp only at h;split at h;·rename_i TB hTB;exact bZ h fun σ' ha d hd hn=>alj ho hd hn (iX hTB) hu hux huy (hx σ' ha) (hy σ' ha)
  ·cases h
 |_=>cases h
theorem aok{op:BinOp}{T T':TypeId}(ho:o.op= .binOp op T x y T')(h:aea P E n o op T (opd P E.dt σ T x) y k=some r):OpS P n o σ k r:=by
 have hx:x∈o.op.operands.toList:=by rw[ho];simp[Op.operands]
 unfold aea at h;split at h
 ·split  at h
  ·rename_i ms hu;split at h
   ·    rename_i e1;split at h
        ·rename_i TB hTB;split at h;·exact bZ h fun σ' ha d hd hn=>acz ho hd hn (iX hTB) hu (cK ha hx e1)
         ·exact bZ h fun σ' ha d hd hn=>acA ho hd hn (iX hTB) hu (cK ha hx e1)
         ·cases h
        ·cases h
   ·cases h
  ·cases h
 ·cases h
theorem aqr{op:BinOp}{T T':TypeId}(ho:o.op= .binOp op T x y T')(h:alS P E n o σ op T x y k=some r):OpS P n o σ k r:=by
 have hx:x∈o.op.operands.toList:=by rw[ho];simp[Op.operands]
 unfold alS at h;split at h
 ·split  at h
  ·rename_i T2 hT2;split at h
   ·    rename_i T1 p e1;have hh_:=aN h;clear h;obtain⟨hc,h⟩:=hh_;rw[beq_eq hc]at e1;split at h
        ·rename_i TB hTB;split at h;·exact bZ h fun σ' ha d hd hn=>ZM ho hd hn (iX hTB) (Au hT2) (cK ha hx e1) (.inl ⟨rfl,rfl⟩)
         ·exact bZ h fun σ' ha d hd hn=>ZM ho hd hn (iX hTB) (Au hT2) (cK ha hx e1) (.inr ⟨rfl,rfl⟩)
         ·cases h
        ·cases h
   ·cases h
  ·cases h
 ·cases h
theorem aqs{op:BinOp}{T T':TypeId}(ho:o.op= .binOp op T x y T')(h:alT P E n o σ op T x y T' k=some r):OpS P n o σ k r:=by
 have hx:x∈o.op.operands.toList:=by rw[ho];simp[Op.operands]
 have hy:y∈o.op.operands.toList:=by rw[ho];simp[Op.operands]
 unfold alT at h;split at h
 ·rename_i T2 q e2;split at h
  ·rename_i T1 p e1;cases hc:(aeQ P T&&(Nat.beq T1 T&&Nat.beq T2 T))with
   |    false=>
        rw[hc]at h;exact aqr ho h
   |true=>
   rw[hc]at h;simp only[cond_true]at h;have u1:=beq_eq (bg (aO hc));have u2:=beq_eq (aO (aO hc));rw[u1]at e1;rw[u2]at e2;split at h
   ·    rename_i TB hTB;split at h;·exact bZ h fun σ' ha d hd hn=>akD ho hd hn (iX hTB) (bg hc) (cK ha hx e1) (cK ha hy e2) (.inl ⟨rfl,rfl⟩)
        ·exact bZ h fun σ' ha d hd hn=>akD ho hd hn (iX hTB) (bg hc) (cK ha hx e1) (cK ha hy e2) (.inr ⟨rfl,rfl⟩)
        ·cases h
   ·cases h
  ·cases h
 ·exact aok ho h
theorem aol{op:BinOp}{T T':TypeId}(ho:o.op= .binOp op T x y T')(h:aeb P E n o σ op T x y T' k=some r):OpS P n o σ k r:=by
 have hx:x∈o.op.operands.toList:=by rw[ho];simp[Op.operands]
 have hy:y∈o.op.operands.toList:=by rw[ho];simp[Op.operands]
 unfold aeb at h;split at h
 ·rename_i Tx q a ha;obtain⟨d1,e1,u1,rfl⟩:=mD ha;split at h
  ·rename_i Ty q' b hb;obtain⟨d2,e2,u2,rfl⟩:=mD hb;split at h
   ·    obtain⟨hq,h⟩:=aN h;exact bZ h fun σ' ag d hd hn=>akp ho hd hn u1 u2 ((cK ag hx e1).cint u1) ((cK ag hy e2).cint u2) (of_decide_eq_true hq) (.inl ⟨rfl,rfl⟩)
   ·    obtain⟨hq,h⟩:=aN h;exact bZ h fun σ' ag d hd hn=>akp ho hd hn u1 u2 ((cK ag hx e1).cint u1) ((cK ag hy e2).cint u2) (of_decide_eq_true hq) (.inr ⟨rfl,rfl⟩)
   ·    have hh_:=aN h;clear h;obtain⟨hq,h⟩:=hh_;have hq':q=q':=by simpa using hq
        subst hq';exact aoi ho u1 u2 (fun σ' ag=>(cK ag hx e1).cint u1) (fun σ' ag=>(cK ag hy e2).cint u2) h
  ·cases h
 ·split  at h
  ·rename_i Tx a ha;obtain⟨d1,e1,u1,rfl⟩:=oQ ha;split at h
   ·    rename_i Ty b hb;obtain⟨d2,e2,u2,rfl⟩:=oQ hb;exact aoj ho u1 u2 (fun σ' ag=>(cK ag hx e1).cstr u1) (fun σ' ag=>(cK ag hy e2).cstr u2) h
   ·cases h
  ·split at h
   ·    rename_i a ha;obtain⟨Tx,d1,e1,u1,rfl⟩:=uK ha;split at h
        ·rename_i b hb;obtain⟨Ty,d2,e2,u2,rfl⟩:=uK hb;have hh_:=aN h;clear h;obtain⟨hq,h⟩:=hh_;exact al0 ho (UA hq) u1 u2 (fun σ' ag=>(cK ag hx e1).cbool u1) (fun σ' ag=>(cK ag hy e2).cbool u2) h
        ·cases h
   ·exact aqs ho h
theorem aom{T0:TypeId}(ho:o.op= .unOp .not T0 x)(h:aec P E n o σ x k=some r):OpS P n o σ k r:=by
 have hx:x∈o.op.operands.toList:=by rw[ho];simp[Op.operands]
 unfold aec at h;split at h
 ·rename_i b hb;obtain⟨Tx,d1,e1,u1,rfl⟩:=uK hb;split at h
  ·rename_i TB hTB;refine bZ h fun σ' ha d hd hn=>?_;have key:=akZ ho hd hn u1 ((cK ha hx e1).cbool u1);exact key.weak fun ok w β z hz=>by have:=(RV.bool u1 hz).2;rw[this];exact RV.mk_bool (iX hTB)
  ·cases h
 ·cases h
theorem aon(ho:o.op= .unOp .neg T x)(h:aed P E n o σ T x k=some r):OpS P n o σ k r:=by
 have hx:x∈o.op.operands.toList:=by rw[ho];simp[Op.operands]
 unfold aed at h;split at h
 ·rename_i Tx q a ha;obtain⟨d1,e1,u1,rfl⟩:=mD ha;exact bZ h fun σ' ha d hd hn=>alk ho hd hn u1 ((cK ha hx e1).cint u1)
 ·cases h
theorem ai4(ho:o.op= .unOp .xor T x)(h:R6 P E n o σ T x k=some r):OpS P n o σ k r:=by
 have hx:x∈o.op.operands.toList:=by rw[ho];simp[Op.operands]
 unfold R6 at h;split at h
 ·rename_i Tx q a ha;obtain⟨d1,e1,u1,rfl⟩:=mD ha;exact bZ h fun σ' ha d hd hn=>ada ho hd hn u1 ((cK ha hx e1).cint u1)
 ·cases h
theorem ab6{S1 S2:TypeId}(ho:o.op= .convert S1 S2 x)(h:Gw P E n o σ S1 S2 x k=some r):OpS P n o σ k r:=by
 have hx:x∈o.op.operands.toList:=by rw[ho];simp[Op.operands]
 unfold Gw at h;split at h
 ·rename_i Tx q a ha;obtain⟨d1,e1,u1,rfl⟩:=mD ha;split at h
  ·rename_i q2 hu2;have hh_:=aN h;clear h;obtain⟨hq,h⟩:=hh_;exact bZ h fun σ' ha d hd hn=>TW ho hd hn (pQ hq) hu2 u1 ((cK ha hx e1).cint u1)
  ·cases h
 ·split at h
  ·rename_i Tx a ha;obtain⟨d1,e1,u1,rfl⟩:=oQ ha;have hh_:=aN h;clear h;obtain⟨hq,h⟩:=hh_;exact bZ h fun σ' ha d hd hn=>TY ho hd hn (sU (bg hq)) (sU (aO hq)) u1 ((cK ha hx e1).cstr u1)
  ·cases h
theorem al1(ho:o.op= .makeSlice T x y)(h:XC P E n o σ T x y k=some r):OpS P n o σ k r:=by
 unfold XC at h;split at h
 ·rename_i Te hTe;split at h
  ·rename_i z hz;split at h
   ·    rename_i a ha;split at h
        ·rename_i b hb;have hh_:=aN h;clear h;obtain⟨hc,h⟩:=hh_;have hh_:=nI h;clear h;obtain⟨hk0,h⟩:=hh_;obtain⟨es,p1,p2,p3,p4,p5,h⟩:=adh h;subst p4;refine ZA h fun σ' ag d hd hn=>?_;have e1:Xi P σ' (some x) a:=uE (E:=E) (by rw[nH ag.ts (by intro z hz;cases hz;rw[ho];simp[Op.operands])];exact ha);have e2:Xi P σ' (some y) b:=uE (E:=E) (by rw[nH ag.ts (by intro z hz;cases hz;rw[ho];simp[Op.operands])];exact hb);obtain⟨TI,k1,u1,v1⟩:=e1;obtain⟨TJ,k2,u2,v2⟩:=e2;exact aiF ho hd hn (dK hTe) (by rw[ag.hs _ (by simp)];exact nJ σ) (by rw[ag.k0];exact hk0) (mO hz) (Aj hc) p5 u1 u2 v1 v2 p1 p2 p3
        ·cases h
   ·cases h
  ·cases h
 ·cases h
theorem Lc{σ':St}{hs:List Ob}{k0:Nat}{rd:List Nat}(ha:Agr o σ σ' rd){D:List TypeId}(hx:x∈o.op.operands.toList):Ev P (St.mk σ'.ts hs k0) x (opd P D σ T x):=by
 have e3:opd P D (St.mk σ'.ts hs k0) T x=opd P D σ T x:=by rw[←uD ha.ts hx];cases x<;>rfl
 rw[←e3];exact tX
theorem Agr.frz{σ':St}{ls:List Nat}{rd:List Nat}(ha:Agr o σ σ' rd)(h:∀l∈ls,l∈rd):frzW σ'.hs ls=frzW σ.hs ls:=kP fun l hl=>ha.hs l (h l hl)
theorem Oc{d l:Nat}{T3 Te:TypeId}{lo hi:Option Operand}{i j:Int}{es:List Dt}(ho:o.op= .slice T x lo hi none)(hd:o.dst=some d)(hn:d<n)(hu:P.underlying T=some (.slice Te))(h0c:P.cellsOf Te≠0)
  (hx:Ev P σ x (.row l))(hl:lk σ.hs l= .row T3 es)(hlo:Xi P σ lo i)(hhi:adk P σ es.length hi j)(h0:0<=i)(hij:i<=j)(hj:j<=es.length):dw P n o σ (σ.put d .dead):=
 bJ hd hn fun ok0 w0 a w β r=>by
  have e1:=jW (hx _ _ _ _ _ _ r);have hob:=r.hs l;rw[hl,e1]at hob;obtain⟨E',xs,_,hown,_⟩:=zU hob;have hz:∃ao cap,a.eval x= .slice ao es.length cap∧es.length<=cap:=by
   rcases hown.2 with⟨h1,h2⟩| ⟨g,cap,cur,h1,_,_,h3,h4,_⟩;·exact⟨none,0,by rw[h1,h2],by rw[h2];exact aI _⟩
   ·exact⟨_,cap,h1,by omega⟩
  obtain⟨ao,cap,ex,hlc⟩:=hz;have hb:=CZ (cap:=cap) r true hlo hhi h0 hij hj hlc;cases hinf:P.info? Te with
  |none=>simp[Program.cellsOf,hinf]at h0c
  |some inf=>
   have hs:inf.size=P.cellsOf Te:=by simp[Program.cellsOf,hinf]
   exact⟨.slice (if cap=i.toNat then ao else ao.map (·.add (i.toNat*P.cellsOf Te))) (j.toNat-i.toNat) (cap-i.toNat),by simp[execOp,ho,ex,Instr.sliceAt,Instr.slice,run_underlying hu,hb,sizeOf,typeInfo,hinf,hs],trivial⟩
theorem aeu{lo hi:Option Operand}(ho:o.op= .slice T x lo hi none)(h:KY P E n o σ T x lo hi k=some r):OpS P n o σ k r:=by
 have hx:x∈o.op.operands.toList:=by rw[ho];simp[Op.operands]
 have hlo:∀z,lo=some z->z∈o.op.operands.toList:=by intro z hz;rw[ho,hz];simp[Op.operands]
 have hhi:∀z,hi=some z->z∈o.op.operands.toList:=by intro z hz;rw[ho,hz];simp[Op.operands]
 unfold KY at h;split at h
 ·rename_i l e1;split at h
  ·rename_i T3 es hl;split at h
   ·    rename_i a ha;split at h
        ·rename_i b hb;split at h
         ·rename_i Te hTe;have hh_:=aN h;clear h;obtain⟨hc,h⟩:=hh_;have hh_:=ak.1 h;clear h;obtain⟨rs,hrs,h⟩:=hh_;obtain⟨p1,p2,p3,p4⟩:=O9 hrs;obtain⟨d,hd,hn,hk⟩:=mE h;refine⟨_,hk,fun σ' ag=>?_⟩;have key:=Oc (σ:=σ') ho hd hn (dK hTe) (Aj hc) (cK ag hx e1) (by rw[ag.hs l (by simp)];exact hl) (uE (E:=E) (by rw[nH ag.ts hlo];exact ha)) (Sc (E:=E) (by rw[nH ag.ts hhi];exact hb)) p1 p2 p3;rw[hd];exact key
         ·cases h
        ·cases h
   ·cases h
  ·cases h
 ·cases h
theorem ai5{lo hi:Option Operand}(ho:o.op= .slice T x lo hi none)(h:R7 P E n o σ T x lo hi k=some r):OpS P n o σ k r:=by
 have hx:x∈o.op.operands.toList:=by rw[ho];simp[Op.operands]
 have hlo:∀z,lo=some z->z∈o.op.operands.toList:=by intro z hz;rw[ho,hz];simp[Op.operands]
 have hhi:∀z,hi=some z->z∈o.op.operands.toList:=by intro z hz;rw[ho,hz];simp[Op.operands]
 unfold R7 at h;cases hsl:E.sld o with
 |true=>
  rw[hsl,cond_true]at h;exact aeu ho h
 |false=>
 rw[hsl,cond_false]at h;split at h
 ·rename_i Tx s hs;obtain⟨d1,e1,u1,rfl⟩:=oQ hs;split at h
  ·rename_i a ha;split at h
   ·    rename_i b hb;have hh_:=aN h;clear h;obtain⟨hc,h⟩:=hh_;have hh_:=ak.1 h;clear h;obtain⟨rs,hrs,h⟩:=hh_;obtain⟨p1,p2,p3,p4⟩:=abM hrs;subst p4;exact bZ h fun σ' ag d hd hn=>Rq ho hd hn (sU hc) u1 ((cK ag hx e1).cstr u1) (uE (E:=E) (by rw[nH ag.ts hlo];exact ha)) (Sc (E:=E) (by rw[nH ag.ts hhi];exact hb)) p1 p2 p3
   ·cases h
  ·cases h
 ·split  at h
  ·rename_i Tx Te es hl;obtain⟨d1,hp,u1,rfl⟩:=BH hl;split at h
   ·    rename_i a ha;split at h
        ·rename_i b hb;have hh_:=aN h;clear h;obtain⟨hc,h⟩:=hh_;have hh_:=ak.1 h;clear h;obtain⟨rs,hrs,h⟩:=hh_;obtain⟨p1,p2,p3,p4⟩:=O9 hrs;subst p4;obtain⟨d,hd,hn,hk⟩:=mE h;refine⟨_,hk,fun σ' ag=>?_⟩;have hfw:=ag.frz (ls:=(opd P E.dt σ T x).rws) fun l hl=>hl;obtain⟨u2,h0c⟩:=fH hc;have hpk:pk P (wrO σ'.hs (frzW σ'.hs (opd P E.dt σ T x).rws)) (opd P E.dt σ T x)=some (Tx,d1):=by rw[←hp,hfw];exact yV _ fun l hl=>oU (fun l hl=>ag.hs l hl) l hl
         have hev:Ev P (St.mk σ'.ts (wrO σ'.hs (frzW σ'.hs (opd P E.dt σ T x).rws)) σ'.k0) x (.dat Tx d1):=Ev.pk (Lc ag hx) hpk;have hlo':uV P E (St.mk σ'.ts (wrO σ'.hs (frzW σ'.hs (opd P E.dt σ T x).rws)) σ'.k0) 0 lo=some a:=by rw[←ha];exact nH (fun t ht=>ag.ts t ht) hlo
         have hhi':uV P E (St.mk σ'.ts (wrO σ'.hs (frzW σ'.hs (opd P E.dt σ T x).rws)) σ'.k0) (d1.toLst.length:Nat) hi=some b:=by rw[←hb];exact nH (fun t ht=>ag.ts t ht) hhi
         have key:=(Rt ho hd hn u2 u1 h0c (hev.clst u1) (uE hlo') (Sc hhi') p1 p2 p3).pre (Imp.frzW (σ:=σ') (opd P E.dt σ T x).rws);rw[hd];rw[hfw]at key;exact key
        ·cases h
   ·cases h
  ·cases h
theorem UE{S:TypeId}{i:Nat}(ho:o.op= .fieldAddr S x i)(h:Af P E n o σ S x i k=some r):OpS P n o σ k r:=by
 have hx:x∈o.op.operands.toList:=by rw[ho];simp[Op.operands]
 unfold Af at h;split at h
 ·rename_i fs hfs;split at h
  ·rename_i f hf;have hh_:=aN h;clear h;obtain⟨hc,h⟩:=hh_;split at h
   ·    rename_i l p q e1;exact bZ h fun σ' ha d hd hn=>Ga ho hd hn (pO hfs) hf (Aj hc) (cK ha hx e1)
   ·    rename_i l j z p q e1;exact bZ h fun σ' ha d hd hn=>Eu ho hd hn (pO hfs) hf (Aj hc) (cK ha hx e1)
   ·    rename_i S' d0 e1;have hh_:=aN h;clear h;obtain⟨hc2,h⟩:=hh_;have e:=beq_eq (bg hc2);subst e;exact bZ h fun σ' ha d hd hn=>vY ho hd hn (pO hfs) hf (Aj hc) (aK (aO hc2)) (cK ha hx e1)
   ·    rename_i T2 d0 e1;split at h
        ·rename_i S' hS';have hh_:=ak.1 h;clear h;obtain⟨e0,he0,h⟩:=hh_;have hh_:=aN h;clear h;obtain⟨hc2,h⟩:=hh_;have e:=beq_eq (bg hc2);subst e;exact bZ h fun σ' ha d hd hn=>vY ho hd hn (pO hfs) hf (Aj hc) (aK (aO hc2)) ((cK ha hx e1).pd (Au hS') he0)
        ·cases h
   ·cases h
  ·cases h
 ·cases h
theorem ai6{S:TypeId}{i:Nat}(ho:o.op= .field S x i)(h:R8 P E n o σ S x i k=some r):OpS P n o σ k r:=by
 have hx:x∈o.op.operands.toList:=by rw[ho];simp[Op.operands]
 unfold R8 at h;split at h
 ·rename_i fs hfs;split at h
  ·rename_i f hf;split at h
   ·    rename_i S' d0 hp;have hh_:=aN h;clear h;obtain⟨hc,h⟩:=hh_;have e:=beq_eq (bg hc);subst e;obtain⟨q1,q2,⟨D,hD⟩,q4,q5⟩:=kN (aO (aO hc));exact bZ h fun σ' ha d hd hn=>(adj ho hd hn (pO hfs) hf hD (fun hf2=>q4 hf2) (aK (bg (aO hc))) (Ev.pk (qM ha hx) (K8 _ hp))).can
   ·cases h
  ·cases h
 ·cases h
theorem UF(ho:o.op= .indexAddr T x y)(h:Ag P E n o σ T x y k=some r):OpS P n o σ k r:=by
 have hx:x∈o.op.operands.toList:=by rw[ho];simp[Op.operands]
 have hy:∀z,some y=some z->z∈o.op.operands.toList:=by intro z hz;cases hz;rw[ho];simp[Op.operands]
 unfold Ag at h;split at h
 ·rename_i i hi;have hidx:∀σ' rd,Agr o σ σ' rd->∃TI k,P.underlying TI=some (.int k)∧Ev P σ' y (.dat TI (.int i)):=fun σ' rd ag=>uE (lo:=some y) (E:=E) (by rw[nH ag.ts hy];exact hi);split at h
  ·rename_i l e1;split at h
   ·    rename_i T5 es hl;split at h
        ·rename_i Te hTe;have hh_:=aN h;clear h;obtain⟨hc,h⟩:=hh_;have hh_:=ak.1 h;clear h;obtain⟨u,hu,h⟩:=hh_;obtain⟨p1,p2⟩:=Ud hu;obtain⟨u2,h0c⟩:=fH hc;refine bZ h fun σ' ag d hd hn=>?_;obtain⟨TI,k1,v1,v2⟩:=hidx σ' _ ag;exact Rm ho hd hn u2 h0c v1 (cK ag hx e1) v2 (by rw[ag.hs l (by simp)];exact hl) (dK hTe) p1 p2
        ·cases h
   ·    rename_i T5 vs hl;split at h
        ·rename_i Te hTe;have hh_:=aN h;clear h;obtain⟨hc,h⟩:=hh_;obtain⟨u2,h0c⟩:=fH (bg hc);refine bZ h fun σ' ag d hd hn=>?_;obtain⟨TI,k1,v1,v2⟩:=hidx σ' _ ag;exact Og ho hd hn u2 h0c v1 (cK ag hx e1) v2 (by rw[ag.hs l (by simp)];exact hl) (by simpa using bg (aO hc)) (by simpa using aO (aO hc))
        ·cases h
   ·    rename_i T5 T2 c kk es hh hl;split at h
        ·rename_i Te hTe;have hh_:=aN h;clear h;obtain⟨hc,h⟩:=hh_;have hh_:=ak.1 h;clear h;obtain⟨u,hu,h⟩:=hh_;obtain⟨p1,p2⟩:=Ud hu;obtain⟨u2,h0c⟩:=fH hc;refine bZ h fun σ' ag d hd hn=>?_;obtain⟨TI,k1,v1,v2⟩:=hidx σ' _ ag;exact Oi ho hd hn u2 h0c v1 (cK ag hx e1) v2 (by rw[ag.hs l (by simp)];exact hl) p1 p2
        ·cases h
   ·    rename_i T5 es hl;split at h
        ·rename_i Te hTe;have hh_:=aN h;clear h;obtain⟨hc,h⟩:=hh_;have hh_:=ak.1 h;clear h;obtain⟨e0,he0,h⟩:=hh_;obtain⟨p1,p2⟩:=EA he0;obtain⟨u2,h0c⟩:=fH hc;refine bZ h fun σ' ag d hd hn=>?_;obtain⟨TI,k1,v1,v2⟩:=hidx σ' _ ag;exact Ey ho hd hn u2 (dK hTe) h0c v1 ((cK ag hx e1).frz (by rw[ag.hs l (by simp)];exact hl)) v2 p1 p2
        ·cases h
   ·cases h
  ·rename_i v0 hne;split at h
   ·    rename_i Tx Te es hl;obtain⟨d1,hp,u1,rfl⟩:=BH hl;have hh_:=aN h;clear h;obtain⟨hc,h⟩:=hh_;have hh_:=ak.1 h;clear h;obtain⟨e0,he0,h⟩:=hh_;obtain⟨p1,p2⟩:=EA he0;obtain⟨u2,h0c⟩:=fH hc;refine bZ h fun σ' ag d hd hn=>?_;obtain⟨TI,k1,v1,v2⟩:=hidx σ' _ ag;exact Ey ho hd hn u2 u1 h0c v1 ((Ev.pk (qM ag hx) (K8 _ hp)).clst u1) v2 p1 p2
   ·cases h
 ·cases h
theorem ai7(ho:o.op= .index T x y)(h:R9 P E n o σ T x y k=some r):OpS P n o σ k r:=by
 have hx:x∈o.op.operands.toList:=by rw[ho];simp[Op.operands]
 have hy:∀z,some y=some z->z∈o.op.operands.toList:=by intro z hz;cases hz;rw[ho];simp[Op.operands]
 unfold R9 at h;split at h
 ·rename_i Tx s hs;obtain⟨d1,e1,u1,rfl⟩:=oQ hs;split at h
  ·rename_i i hi;have hh_:=aN h;clear h;obtain⟨hc,h⟩:=hh_;have hh_:=ak.1 h;clear h;obtain⟨c,hc2,h⟩:=hh_;obtain⟨p1,u,p2,rfl⟩:=abL hc2;refine bZ h fun σ' ag d hd hn=>?_;obtain⟨TI,k1,v1,v2⟩:=uE (lo:=some y) (E:=E) (σ:=σ') (i:=i) (by rw[nH ag.ts hy];exact hi);exact Rj ho hd hn v1 (pQ (aO hc)) (sU (bg hc)) u1 ((cK ag hx e1).cstr u1) v2 p1 p2
  ·cases h
 ·split  at h
  ·rename_i T' e he;split at h
   ·    rename_i len Te hu;split at h
        ·rename_i i hi;have hh_:=aN h;clear h;obtain⟨hc,h⟩:=hh_;have hh_:=ak.1 h;clear h;obtain⟨q,hq,h⟩:=hh_;obtain⟨p1,p2⟩:=EA hq;have eT:=beq_eq (bg hc);subst eT;obtain⟨_,_,⟨D,hD⟩,h1,_⟩:=kN (aO (aO hc));refine bZ h fun σ' ag d hd hn=>?_;obtain⟨TI,k1,v1,v2⟩:=uE (lo:=some y) (E:=E) (σ:=σ') (i:=i) (by rw[nH ag.ts hy];exact hi);exact(Ug ho hd hn hu hD h1 (beq_eq (bg (aO hc))) v1 (cK ag hx he) v2 p1 p2).can
        ·cases h
   ·cases h
  ·cases h
theorem ab7{i:Nat}(ho:o.op= .extract x i)(h:Gy P E n o σ x i k=some r):OpS P n o σ k r:=by
 have hx:x∈o.op.operands.toList:=by rw[ho];simp[Op.operands]
 unfold Gy at h;split at h
 ·rename_i vs e1;split at h;·cases h
  ·rename_i v0 hne hv;exact bZ h fun σ' ha d hd hn=>Xe ho hd hn (cK ha hx e1) hv fun us e=>hne us e
  ·cases h
 ·cases h
theorem Dp:∀{vs:List AV},Uu P vs=true->∀v∈vs,v.isAgg P=false∧v≠ .dead∧∀us,v≠ .tup us
 | [],_,v,hv=>by simp at hv
 |u::r,h,v,hv=>by
  unfold Uu at h;rcases List.mem_cons.1 hv with e|hv
  ·subst e;have h1:=bg h;split at h1;·cases h1
   ·cases h1
   ·    rename_i h3 h4;exact⟨by simpa using h1,fun e=>h4 e,fun us e=>h3 us e⟩
  ·exact Dp (aO h) v hv
theorem aev{D:List TypeId}:∀{xs:List Operand},EvXs P σ xs (xs.map (opd P D σ T))
 | []=> .nil
 |x::xs=> .cons tX aev
theorem UG{d:Nat}{f:FuncId}{first:Array Operand}{xs:List Operand}{caps:List AV}(ho:o.op= .makeFunc (.func f) first xs.toArray)(hf:first.size=0)(hd:o.dst=some d)(hn:d<n)(ha:EvXs P σ xs caps)(hc:∀v∈caps,v.isAgg P=false∧v≠ .dead∧∀us,v≠ .tup us):dw P n o σ (σ.put d (.fn f caps)):=
 bJ hd hn fun ok0 w0 a w β r=>by
  have hfe:first= #[]:=Array.eq_empty_of_size_eq_zero hf
  subst hfe;have h:=ha.rvs r;refine⟨.func (.func f) #[] (xs.map a.eval).toArray,by simp[execOp,ho,Instr.makeFunc,List.map_toArray],⟨fun hi=>by simp[AV.isAgg]at hi,fun _=> .fn (by simpa using h.len) fun i av hv=>?_⟩⟩;obtain⟨z,h1,h2⟩:=h.get i av hv;have hm:=hc av (aV hv);have e:(xs.map a.eval).toArray.getD i undef=z:=by simp only[Array.getD_eq_getD_getElem?,List.getElem?_toArray,h1,Option.getD_some]
  rw[e];exact(RV.to1 hm.2.1 hm.2.2 h2).2 hm.1
theorem XI{f:FuncId}{first caps:Array Operand}(ho:o.op= .makeFunc (.func f) first caps)(h:Dm P E n o σ f first.size caps.toList k=some r):OpS P n o σ k r:=by
 unfold Dm at h;have hh_:=aN h;clear h;obtain⟨hc,h⟩:=hh_;refine bZ h fun σ' ag d hd hn=>UG (xs:=caps.toList) (by rw[ho]) (beq_eq (bg hc)) hd hn ?_ (Dp (aO hc));have e:caps.toList.map (opd P E.dt σ' 0)=caps.toList.map (opd P E.dt σ 0):=by refine List.map_congr_left fun z hz=>uD ag.ts ?_;rw[ho];simp[Op.operands,hz]
 rw[←e];exact aev
theorem aoo{xs:Array Operand}{Ts:Array TypeId}(ho:o.op= .call ⟨.builtin .len,xs,Ts⟩)(hxs:xs.toList=[x])(hTs:Ts.toList=[T])(h:aeh P E n o σ T x k=some r):OpS P n o σ k r:=by
 have hxs':xs= #[x]:=by apply Array.ext';simpa using hxs
 have hTs':Ts= #[T]:=by apply Array.ext';simpa using hTs
 subst hxs' hTs';have hx:x∈o.op.operands.toList:=by rw[ho];simp[Op.operands,Call.operands]
 unfold aeh at h;have hh_:=aN h;clear h;obtain⟨hI,h⟩:=hh_;split at h
 ·rename_i Tx s hs;obtain⟨d1,e1,u1,rfl⟩:=oQ hs;have hh_:=aN h;clear h;obtain⟨hc,h⟩:=hh_;exact bZ h fun σ' ag d hd hn=>Xc ho hd hn (pQ hI) (sU hc) u1 ((cK ag hx e1).cstr u1)
 ·split  at h
  ·rename_i Te hTe;split at h
   ·    rename_i l e1;split at h
        ·rename_i T5 es hl;exact bZ h fun σ' ag d hd hn=>Xd ho hd hn (pQ hI) (dK hTe) (cK ag hx e1) (by rw[ag.hs l (by simp)];exact hl)
        ·rename_i T5 vs hl;exact bZ h fun σ' ag d hd hn=>U9 (E:=0) ho hd hn (pQ hI) (dK hTe) (cK ag hx e1) (by rw[ag.hs l (by simp)];exact hl)
        ·rename_i T5 T2 c kk es hh hl;exact bZ h fun σ' ag d hd hn=>Vf (E:=0) ho hd hn (pQ hI) (dK hTe) (cK ag hx e1) (by rw[ag.hs l (by simp)];exact hl)
        ·rename_i T5 es hl;have hh_:=aN h;clear h;obtain⟨hsl,h⟩:=hh_;obtain⟨E5,hE5⟩:=Option.isSome_iff_exists.1 hsl;refine bZ h fun σ' ag d hd hn=>?_;have hl':lk σ'.hs l= .frz T5 es:=by rw[ag.hs l (by simp)];exact hl
         exact KA ho hd hn (pQ hI) (dK hTe) (dK hE5) ((cK ag hx e1).frz hl')
        ·cases h
   ·    split at h
        ·rename_i Tx Te2 es hl;obtain⟨d1,hp,u1,rfl⟩:=BH hl;exact bZ h fun σ' ag d hd hn=>KA ho hd hn (pQ hI) (dK hTe) u1 ((Ev.pk (qM ag hx) (K8 _ hp)).clst u1)
        ·cases h
  ·cases h
theorem al2{d:Nat}{k:IntKind}{T3 T4 T1 T2:TypeId}{p q:Int}(ho:o.op= .call ⟨.builtin .max,#[x,y],#[T1,T2]⟩)(hd:o.dst=some d)(hn:d<n)
  (hu:P.underlying T3=some (.int k))(hu':P.underlying T4=some (.int k))(hx:Ev P σ x (.dat T3 (.int p)))(hy:Ev P σ y (.dat T4 (.int q))):dw P n o σ (σ.put d (.dat T3 (.int (bif decide (p<q)then q else p)))):=
 bJ hd hn fun ok0 w0 a w β r=>by
  obtain⟨_,e1,b1,b2⟩:=RV.int hu (hx _ _ _ _ _ _ r);obtain⟨_,e2,b3,b4⟩:=RV.int hu' (hy _ _ _ _ _ _ r);simp only[Dt.toInt]at e1 e2 b1 b2 b3 b4;refine⟨.int k (bif decide (p<q)then q else p),?_,RV.mk_int hu ?_ ?_⟩;·by_cases h:p<q<;>simp[execOp,ho,e1,e2,resolve,invoke,builtin,Builtin.max_,Builtin.max2,h]
  ·by_cases h:p<q<;>simp[h,b1,b3]
  ·by_cases h:p<q<;>simp[h,b2,b4]
theorem al3{d:Nat}{k:IntKind}{T3 T4 T1 T2:TypeId}{p q:Int}(ho:o.op= .call ⟨.builtin .min,#[x,y],#[T1,T2]⟩)(hd:o.dst=some d)(hn:d<n)
  (hu:P.underlying T3=some (.int k))(hu':P.underlying T4=some (.int k))(hx:Ev P σ x (.dat T3 (.int p)))(hy:Ev P σ y (.dat T4 (.int q))):dw P n o σ (σ.put d (.dat T3 (.int (bif decide (q<p)then q else p)))):=
 bJ hd hn fun ok0 w0 a w β r=>by
  obtain⟨_,e1,b1,b2⟩:=RV.int hu (hx _ _ _ _ _ _ r);obtain⟨_,e2,b3,b4⟩:=RV.int hu' (hy _ _ _ _ _ _ r);simp only[Dt.toInt]at e1 e2 b1 b2 b3 b4;refine⟨.int k (bif decide (q<p)then q else p),?_,RV.mk_int hu ?_ ?_⟩;·by_cases h:q<p<;>simp[execOp,ho,e1,e2,resolve,invoke,builtin,Builtin.min_,Builtin.min2,h]
  ·by_cases h:q<p<;>simp[h,b1,b3]
  ·by_cases h:q<p<;>simp[h,b2,b4]
theorem two{A:Type}{xs:Array A}{a b:A}(h:xs.toList=[a,b]):xs= #[a,b]:=by apply Array.ext';simpa using h
theorem aop{xs:Array Operand}{Ts:Array TypeId}{T':TypeId}(ho:o.op= .call ⟨.builtin .min,xs,Ts⟩)(hxs:xs.toList=[x,y])(hTs:Ts.toList=[T,T'])(h:aei P E n o σ T T' x y k=some r):OpS P n o σ k r:=by
 have hxs':=two hxs;have hTs':=two hTs;subst hxs' hTs';have hx:x∈o.op.operands.toList:=by rw[ho];simp[Op.operands,Call.operands]
 have hy:y∈o.op.operands.toList:=by rw[ho];simp[Op.operands,Call.operands]
 unfold aei at h;split at h
 ·rename_i Tx q a ha;obtain⟨d1,e1,u1,rfl⟩:=mD ha;split at h
  ·rename_i Ty q' b hb;obtain⟨d2,e2,u2,rfl⟩:=mD hb;have hh_:=aN h;clear h;obtain⟨hq,h⟩:=hh_;have hq':q=q':=by simpa using hq
   subst hq';exact bZ h fun σ' ag d hd hn=>al3 ho hd hn u1 u2 ((cK ag hx e1).cint u1) ((cK ag hy e2).cint u2)
  ·cases h
 ·cases h
theorem aoq{xs:Array Operand}{Ts:Array TypeId}{T':TypeId}(ho:o.op= .call ⟨.builtin .max,xs,Ts⟩)(hxs:xs.toList=[x,y])(hTs:Ts.toList=[T,T'])(h:aej P E n o σ T T' x y k=some r):OpS P n o σ k r:=by
 have hxs':=two hxs;have hTs':=two hTs;subst hxs' hTs';have hx:x∈o.op.operands.toList:=by rw[ho];simp[Op.operands,Call.operands]
 have hy:y∈o.op.operands.toList:=by rw[ho];simp[Op.operands,Call.operands]
 unfold aej at h;split at h
 ·rename_i Tx q a ha;obtain⟨d1,e1,u1,rfl⟩:=mD ha;split at h
  ·rename_i Ty q' b hb;obtain⟨d2,e2,u2,rfl⟩:=mD hb;have hh_:=aN h;clear h;obtain⟨hq,h⟩:=hh_;have hq':q=q':=by simpa using hq
   subst hq';exact bZ h fun σ' ag d hd hn=>al2 ho hd hn u1 u2 ((cK ag hx e1).cint u1) ((cK ag hy e2).cint u2)
  ·cases h
 ·cases h
theorem uX{KT V:TypeId}(h:KZ P T=some (KT,V)):P.underlying T=some (.map KT V)∧P.underlying KT=some .string∧d9 P V=false:=by
 unfold KZ at h;split at h
 ·rename_i K V' hu;obtain⟨h1,h2⟩:=aN h;cases h2;exact⟨hu,sU (bg h1),by simpa using aO h1⟩
 ·cases h
theorem XJ{z:Dt}(h:aee P T=some z):∃(i:TypeInfo)(zv:Value),P.info? T=some i∧i.zero=some zv∧∀(ok:Nat->Prop)(w:World),RD P ok w T z [zv]:=by
 unfold aee at h;split at h
 ·rename_i i hi;split at h
  ·rename_i zv hz;cases hb:Dj zv with
   |true=>rw[hb]at h;cases h
   |    false=>
        rw[hb]at h;obtain⟨i',z',q1,q2,q3,q4⟩:=(mO h).ex;rw[hi]at q1;cases q1
        rw[hz]at q2;cases q2
        refine⟨_,zv,hi,hz,fun ok w=>?_⟩;have e:zv.cells.toList=[zv]:=by cases zv<;>first|rfl|cases hb
        rw[←e];exact q4 ok w
  ·cases h
 ·cases h
theorem akB{A:Type}{b:Bool}{u v:Option A}{q:A}(h:(bif b then u else v)=some q):(b=true∧u=some q)∨(b=false∧v=some q):=by cases b<;>simp_all
theorem ab8(h:alU P T=true):∃(i:TypeInfo),P.info? T=some i∧i.zero=some (.slice none 0 0):=by
 unfold alU at h;split at h
 ·rename_i i hi;split at h;·rename_i hz;exact⟨i,hi,hz⟩
  ·cases h
 ·cases h
theorem aew{    two:Bool}(ho:o.op= .lookup T x y two)(h:K3 P E n o σ T x y two k=some r):OpS P n o σ k r:=by
 have hx:x∈o.op.operands.toList:=by rw[ho];simp[Op.operands]
 have hy:y∈o.op.operands.toList:=by rw[ho];simp[Op.operands]
 unfold K3 at h;split at h
 ·rename_i KT V hkv;obtain⟨u1,u2,u3⟩:=uX hkv;split at h
  ·rename_i z hz;have hz':=XJ hz;split at h
   ·    rename_i l e1;split at h
        ·rename_i T5 es hl;split at h
         ·rename_i K5 V5 hkv5;obtain⟨p1,p2,p3⟩:=uX hkv5;split at h
          ·rename_i TS s hs;obtain⟨d2,e2,us,rfl⟩:=oQ hs;have hh_:=aN h;clear h;obtain⟨hc,h⟩:=hh_;have c1:=beq_eq (bg hc);have c2:=beq_eq (aO hc);subst c1;subst c2
           cases two with
           |  true=>
              simp only[cond_true]at h;split at h
              · rename_i TB hTB;exact bZ h fun σ' ag d hd hn=>XZ ho hd hn u1 u2 u3 (iX hTB) hz' us (cK ag hx e1) ((cK ag hy e2).cstr us) (by rw[ag.hs l (by simp)];exact hl) p1
              ·cases h
           |  false=>
              simp only[cond_false]at h;rcases akB h with⟨_,h⟩| ⟨_,h⟩;·exact bZ h fun σ' ag d hd hn=>(PL ho hd hn u1 u2 u3 hz' us (cK ag hx e1) ((cK ag hy e2).cstr us) (by rw[ag.hs l (by simp)];exact hl) p1).can
              · rcases akB h with⟨_,h⟩| ⟨hm,h⟩;·exact bZ h fun σ' ag d hd hn=>(PL ho hd hn u1 u2 u3 hz' us (cK ag hx e1) ((cK ag hy e2).cstr us) (by rw[ag.hs l (by simp)];exact hl) p1).can
                ·obtain⟨hnz,h⟩:=aN h;exact bZ h fun σ' ag d hd hn=>XY ho hd hn u1 u2 (ab8 hnz) us (cK ag hx e1) ((cK ag hy e2).cstr us) (by rw[ag.hs l (by simp)];exact hl) p1 hm
          ·cases h
         ·cases h
        ·cases h
   ·cases h
  ·cases h
 ·cases h
theorem ab9(ho:o.op= .makeMap T none)(h:Gx P n o σ T k=some r):OpS P n o σ k r:=by
 unfold Gx at h;split at h
 ·rename_i kv hkv;obtain⟨KT,V⟩:=kv;obtain⟨u1,u2,u3⟩:=uX hkv;have hh_:=nI h;clear h;obtain⟨hk0,h⟩:=hh_;exact ZA h fun σ' ag d hd hn=>X0 ho hd hn u1 u2 (by rw[ag.hs _ (by simp)];exact nJ σ) (by rw[ag.k0];exact hk0)
 ·cases h
theorem UH{u:Operand}(ho:o.op= .mapUpdate T x y u)(h:Ah P E o σ T x y u k=some r):OpS P n o σ k r:=by
 have hx:x∈o.op.operands.toList:=by rw[ho];simp[Op.operands]
 have hy:y∈o.op.operands.toList:=by rw[ho];simp[Op.operands]
 have hu:u∈o.op.operands.toList:=by rw[ho];simp[Op.operands]
 unfold Ah at h;split at h
 ·rename_i KT V hkv;obtain⟨u1,u2,u3⟩:=uX hkv;split at h
  ·rename_i l e1;split at h
   ·    rename_i T5 es hl;split at h
        ·rename_i K5 V5 hkv5;obtain⟨p1,p2,p3⟩:=uX hkv5;split at h
         ·rename_i TS s hs;obtain⟨d2,e2,us,rfl⟩:=oQ hs;split at h
          ·rename_i TV dv hpk;have hh_:=aN h;clear h;obtain⟨hc,h⟩:=hh_;have hnm:l∉(opd P E.dt σ V u).rws:=Aq (by simpa using aO (aO hc));obtain⟨hd,hk⟩:=xZ h;refine⟨_,hk,fun σ' ag=>?_⟩;have hagr:∀l2∈(opd P E.dt σ V u).rws,lk σ'.hs l2=lk σ.hs l2:=fun l2 hl2=>ag.hs l2 (by simp[hl2]);rw[hd];have hev:∀{z:Operand}{w:AV}{T0:TypeId},z∈o.op.operands.toList->opd P E.dt σ T0 z=w->Ev P (St.mk σ'.ts (wrO σ'.hs (frzW σ'.hs (opd P E.dt σ V u).rws)) σ'.k0) z w:=by
              rintro z w T0 hz rfl;have e3:opd P E.dt (St.mk σ'.ts (wrO σ'.hs (frzW σ'.hs (opd P E.dt σ V u).rws)) σ'.k0) T0 z=opd P E.dt σ T0 z:=by rw[←uD ag.ts hz];cases z<;>rfl
              rw[←e3];exact tX
           have hpk2:pk P (wrO σ'.hs (frzW σ'.hs (opd P E.dt σ V u).rws)) (opd P E.dt σ V u)=some (TV,dv):=by rw[←hpk,kP hagr];exact yV _ fun l2 hl2=>oU hagr l2 hl2
           have key:dw P n o ⟨σ'.ts,wrO σ'.hs (frzW σ'.hs (opd P E.dt σ V u).rws),σ'.k0⟩ ((St.mk σ'.ts (wrO σ'.hs (frzW σ'.hs (opd P E.dt σ V u).rws)) σ'.k0).lay l (.map T5 (mput es d2.toStr dv))):=by refine Sv (n:=n) ho hd u1 u2 p1 (by simpa using bg (aO hc)) (bg hc) us (hev hx e1) ((hev hy e2).cstr us) (Ev.pk (hev hu rfl) hpk2) ?_;show lk (wrO σ'.hs _) l=_;rw[qp hnm,ag.hs l (by simp)];exact hl
           have hfin:St.mk (abZ σ'.ts none none) (wrO σ'.hs (frzW σ.hs (opd P E.dt σ V u).rws++[(l,.map T5 (mput es d2.toStr dv))])) σ'.k0=(St.mk σ'.ts (wrO σ'.hs (frzW σ'.hs (opd P E.dt σ V u).rws)) σ'.k0).lay l (.map T5 (mput es d2.toStr dv)):=by rw[qL,kP hagr];rfl
           have:=key.pre (Imp.frzW (σ:=σ') (opd P E.dt σ V u).rws);rw[←hfin]at this;exact this
          ·cases h
         ·cases h
        ·cases h
   ·cases h
  ·cases h
 ·cases h
theorem GA:∀{ts:List (Nat×List Value)}{g:Nat}{cs:List Value},K4 ts g=some cs->(g,cs)∈ts
 | [],_,_,h=>by cases h
 |t::r,g,cs,h=>by
  unfold K4 at h;cases hb:Nat.beq t.1 g with
  |true=>
   rw[hb]at h;cases h;have e:=beq_eq hb;subst e;exact bA
  |false=>
   rw[hb]at h;exact bD _ (GA h)
theorem UJ{Te:TypeId}{sz:Nat}:∀{m:Nat}{cs:List Value}{ds:List Dt},aef P Te sz m cs=some ds->∀(i:Nat)(d:Dt),ds[i]? =some d->∀(ok:Nat->Prop)(w:World),RD P ok w Te d ((cs.drop (i*sz)).take sz)∧i<m
 |0,cs,ds,h,i,d,hd,ok,w=>by unfold aef at h;cases h;simp at hd
 |m+    1,cs,ds,h,i,d,hd,ok,w=>by
  unfold aef at h;split at h
  ·rename_i v hv;split at h
   ·    rename_i T' d' hp;obtain⟨h1,h2⟩:=aN h;have e:=beq_eq h1;subst e;split at h2
        ·rename_i ds' hds;cases h2;cases i with
         |zero=>
          simp only[bf,aH]at hd;subst hd;refine⟨?_,by omega⟩;simp only[Nat.zero_mul,aQ];exact jX (β:=fun _=>none) (hs:=[]) (fun l T es hl=>by simp[lk]at hl) ((BG hv).1 ok w _) hp
         |succ i=>
          simp only[aZ]at hd;obtain⟨q1,q2⟩:=UJ hds i d hd ok w;rw[List.drop_drop,show sz+i*sz=(i+1)*sz by rw[Nat.succ_mul];omega]at q1;exact⟨q1,by omega⟩
        ·cases h2
   ·cases h
  ·cases h
theorem aor{g:Nat}(ho:o.op= .indexAddr T (.global g) y)(h:aeg P E n o σ T g y k=some r):OpS P n o σ k r:=by
 have hy:y∈o.op.operands.toList:=by rw[ho];simp[Op.operands]
 unfold aeg at h;split at h
 ·rename_i len Te hu;split at h
  ·rename_i cs hcs;split at h
   ·    rename_i ds hds;split at h
        ·rename_i i hi;have hh_:=aN h;clear h;obtain⟨hc,h⟩:=hh_;have hh_:=ak.1 h;clear h;obtain⟨e,he,h⟩:=hh_;obtain⟨p1,p2⟩:=EA he;have h0:=Aj (bg hc);have hlen:=beq_eq (aO hc);refine bZ h fun σ' ag d hd hn=>?_;obtain⟨TI,k1,v1,v2⟩:=uE (lo:=some y) (E:=E) (σ:=σ') (i:=i) (by rw[nH ag.ts (by intro z hz;cases hz;exact hy)];exact hi);refine bJ hd hn fun ok0 w0 a w β r=>?_;obtain⟨_,e2,_⟩:=RV.int v1 (v2 _ _ _ _ _ _ r);simp only[Dt.toInt]at e2;obtain⟨hok,TT,fr,hblk⟩:=r.tab.1 _ (GA hcs);have hmul:∀m,m<len->m*P.cellsOf Te+P.cellsOf Te<=len*P.cellsOf Te:=fun m hm=>by have:=aS (P.cellsOf Te) (show m+1<=len from hm);rw[Nat.succ_mul]at this;exact this
         have hq:=UJ hds i.toNat e p2;have hlt:=(hq (fun _=>True) w).2;have hm:=hmul _ hlt;refine⟨.pointer (some ((⟨g,0,none⟩:Addr).add (i.toNat*P.cellsOf Te))),?_,J3 (cs:=(cs.drop (i.toNat*P.cellsOf Te)).take (P.cellsOf Te)) (by rw[block_add];exact hok) (by rw[List.length_take,List.length_drop];omega) (fun j v hv=>?_) (hq _ w).1⟩
         ·have hii:i<len:=by omega
          cases hin:P.info? Te with
          |none=>simp[Program.cellsOf,hin]at h0
          |some inf=>
           unfold execOp;simp only[ho,e2,Sem.run_bind];have ea:a.eval (.global g)= .pointer (some ⟨g,0,none⟩):=rfl;rw[ea];simp[Instr.indexAt,asIntOf,run_underlying hu,Instr.sureAddr,p1,hii,sizeOf,typeInfo,hin,Program.cellsOf]
         ·rw[add_add,pz,Nat.zero_add];rw[List.getElem?_take]at hv;split at hv
          ·rename_i hj;rw[List.getElem?_drop]at hv;have hb:w.heap[g]? =some (.cells cs.toArray TT fr):=hblk;simp only[World.cell?,hb];simpa using hv
          ·cases hv
        ·cases h
   ·cases h
  ·cases h
 ·cases h
end
section
variable{P:Program}{n:Nat}{o:Oper}{σ τ:St}{x y:Operand}{v:AV}{T:TypeId}{R:Type}{E:Env}{k:Dl->Option R}{r:R}
theorem XK{T T':TypeId}(h:compat P T T'=true):d9 P T=d9 P T':=by
 unfold compat at h;rw[Bool.or_eq_true]at h;rcases h with h|h;·rw[beq_eq h]
 ·unfold d9;split at h;·rename_i h1 h2;rw[h1,h2]
  ·rename_i h1 h2;rw[h1,h2]
  ·rename_i h1 h2;rw[h1,h2]
  ·rename_i h1 h2;rw[h1,h2]
  ·cases h
theorem RV.compat{ok:Nat->Prop}{w:World}{β:Nat->Option Value}{z:Value}{d:Dt}{T':TypeId}(h:RV P ok w β (.dat T d) z)(hc:Am.compat P T T'=true):RV P ok w β (.dat T' d) z:=by
 have he:=XK hc;cases ha:d9 P T with
 |true=>
  obtain⟨cs,e,q⟩:=(RV.dat_agg ha).1 h;exact(RV.dat_agg (by rw[←he];exact ha)).2 ⟨cs,e,q.compat hc⟩
 |false=>exact(RV.dat_one (by rw[←he];exact ha)).2 (((RV.dat_one ha).1 h).compat hc)
theorem Sd{D:List TypeId}{Te:TypeId}{τ:St}:∀{xs:List Operand}{ds:List Dt},(∀z∈xs,Ev P τ z (opd P D σ Te z))->xX P τ.hs Te (xs.map (opd P D σ Te))=some ds->EvL P τ Te xs ds
 | [],ds,_,h=>by
   have h':some []=some ds:=by simpa [xX]using h
   cases h';exact .nil
 | z::xs,ds,hev,h=>by
   simp only[List.map_cons]at h;unfold xX at h;split at h
   ·rename_i T' d hp;obtain⟨hc,h2⟩:=aN h;split at h2
    ·   rename_i ds' hds;cases h2;refine .cons ?_ (Sd (fun u hu=>hev u (by simp[hu])) hds);have:=Ev.pk (hev z (by simp)) hp;exact fun ok0 w0 n a w β r=>(this _ _ _ _ _ _ r).compat (bg hc)
    ·cases h2
   ·cases h
theorem ZB{hs:List Ob}{Te:TypeId}{vs:List AV}{ds:List Dt}(h:xX P hs Te vs=some ds)(hne:vs≠[]):∀d',szB P Te (.dat Te d')=true:=by
 cases vs with
 |nil=>exact absurd rfl hne
 |cons v r=>
  unfold xX at h;split at h
  ·rename_i T' d hp;obtain⟨hc,h2⟩:=aN h;intro d';exact aO hc
  ·cases h
theorem UK{hs hs':List Ob}{Te:TypeId}:∀{vs:List AV},(∀l∈AV.rwsL vs,lk hs' l=lk hs l)->xX P hs' Te vs=xX P hs Te vs
 | [],_=>rfl
 |v::r,h=>by unfold xX;rw[yV (hs:=hs) (hs':=hs') v fun l hl=>h l (by simp[AV.rwsL,hl]),UK (vs:=r) fun l hl=>h l (by simp[AV.rwsL,hl])]
theorem BI:∀{j:Nat}{parts:List (Nat×Operand)},dense j parts=true->parts=((parts.map (·.2)).zipIdx j).map fun p=>(p.2,p.1)
 |_,[],_=>rfl
 |j,(i,x)::r,h=>by simp only[dense]at h;have e:=beq_eq (bg h);subst e;have ih:=BI (aO h);simp only[List.map_cons,List.zipIdx_cons];rw[←ih]
theorem UL{hs:List Ob}{Te:TypeId}:∀{vs:List AV}{ds:List Dt},xX P [] Te vs=some ds->xX P hs Te vs=some ds
 | [],_,h=>h
 |v::r,ds,h=>by
  unfold xX at h ⊢
  split at h
  ·rename_i T d hp;rw[K8 v hp];obtain⟨hc,h2⟩:=aN h;split at h2
   ·    rename_i ds' hds;cases h2;simp only[hc,cond_true,UL hds]
   ·cases h2
  ·cases h
theorem XL{parts:Array (Nat×Operand)}{len:Nat}{Te:TypeId}{zi:TypeInfo}{za:Value}{ds:List Dt}(ho:o.op= .build T parts)(hu:P.underlying T=some (.array len Te))(hzi:P.info? T=some zi)(hza:zi.zero=some za)
  (hds:xX P [] Te ((parts.toList.map (·.2)).map (opd P E.dt σ Te))=some ds)(hc:(dense 0 parts.toList&&(Nat.beq len parts.toList.length&&(!Nat.beq len 0&&(!Nat.beq (P.cellsOf Te) 0&&(Nat.beq za.cells.size (len*P.cellsOf Te)&&Nat.beq (P.cellsOf T) (len*P.cellsOf Te))))))=true)
  (h:out n o (.dat T (.lst ds)) [] [] k=some r):OpS P n o σ k r:=by
 have hmem:∀z∈parts.toList.map (·.2),z∈o.op.operands.toList:=by intro z hz;rw[ho];simpa [Op.operands]using hz
 have hlen:len=(parts.toList.map (·.2)).length:=by rw[List.length_map];exact beq_eq (bg (aO hc))
 have hpos:parts.toList.map (·.2)≠[]:=by intro e;rw[e]at hlen;exact Aj (bg (aO (aO hc))) hlen
 have hsz:=ZB hds (by simpa using hpos);refine bZ h fun σ' ag d hd hn=>Ub ho hd hn hu hzi hza (beq_eq (bg (aO (aO (aO (aO hc)))))) (beq_eq (aO (aO (aO (aO (aO hc)))))) (Aj (bg (aO (aO (aO hc))))) (BI (bg hc)) hlen
  (Sd (fun z hz=>qM ag (hmem z hz)) (UL hds)) (fun d'=>(kN (hsz d')).2.2.2.2)
theorem aex{parts:Array (Nat×Operand)}(ho:o.op= .build T parts)(h:KV P E n o σ T parts.toList k=some r):OpS P n o σ k r:=by
 unfold KV at h;split at h;·exact ai1 ho h
 ·unfold Uw at h;split at h
  ·rename_i len Te hu;split at h
   ·    rename_i zi hzi;split at h
        ·rename_i za hza;split at h
         ·rename_i ds hds;have hh_:=aN h;clear h;obtain⟨hc,h⟩:=hh_;exact XL ho hu hzi hza hds hc h
         ·cases h
        ·cases h
   ·cases h
  ·cases h
theorem Sg{len:Nat}{parts:Array (Nat×Operand)}(ho:o.op= .buildSlice T len parts)(h:yU P E n o σ T len parts.toList k=some r):OpS P n o σ k r:=by
 unfold yU at h;split at h
 ·rename_i Te hTe;split at h
  ·rename_i z hz;split at h
   ·    rename_i ds hds;have hh_:=aN h;clear h;obtain⟨hc,h⟩:=hh_;have hh_:=nI h;clear h;obtain⟨hk0,h⟩:=hh_;obtain⟨d,hd,hn,hk⟩:=mE h;refine⟨_,hk,fun σ' ag=>?_⟩;have hmap:(parts.toList.map fun p=>opd P E.dt σ Te p.2)=(parts.toList.map (·.2)).map (opd P E.dt σ Te):=by rw[List.map_map];rfl
        rw[hmap]at hds hk ⊢
        rw[hmap]at ag;have hagr:∀l∈AV.rwsL ((parts.toList.map (·.2)).map (opd P E.dt σ Te)),lk σ'.hs l=lk σ.hs l:=fun l hl=>ag.hs l (bD _ hl);have hfw:=kP hagr;have hmem:∀z∈parts.toList.map (·.2),z∈o.op.operands.toList:=by intro z hz;rw[ho];simpa [Op.operands]using hz
        have hds':xX P (wrO σ'.hs (frzW σ'.hs (AV.rwsL ((parts.toList.map (·.2)).map (opd P E.dt σ Te))))) Te ((parts.toList.map (·.2)).map (opd P E.dt σ Te))=some ds:=by rw[←hds,hfw];exact UK fun l hl=>oU hagr l hl
        have hlen:len=(parts.toList.map (·.2)).length:=by rw[List.length_map];exact beq_eq (bg (aO hc))
        have hpos:parts.toList.map (·.2)≠[]:=by intro e;rw[e]at hlen;exact Aj (bg (aO (aO hc))) hlen
        have hsz:=ZB hds (by simpa using hpos);have key:=(N7 (σ:=St.mk σ'.ts (wrO σ'.hs (frzW σ'.hs (AV.rwsL ((parts.toList.map (·.2)).map (opd P E.dt σ Te))))) σ'.k0) (l:=σ.hs.length) (ds:=ds) ho hd hn (dK hTe) (by
          refine qx ?_;rw[ag.hs _ (by simp)];exact nJ σ) (by show σ'.k0<=_;rw[ag.k0];exact hk0) (mO hz) (Aj (bg (aO (aO (aO hc))))) (BI (bg hc)) hlen hpos
          (aK (aO (aO (aO (aO hc))))) (Sd (fun z hz=>Lc ag (hmem z hz)) hds') (fun d'=>(kN (hsz d')).2.2.2.2)).pre (Imp.frzW (σ:=σ') (AV.rwsL ((parts.toList.map (·.2)).map (opd P E.dt σ Te))))
        rw[hd];have hfin:St.mk (abZ σ'.ts (some d) (some (.row σ.hs.length))) (wrO σ'.hs (frzW σ.hs (AV.rwsL ((parts.toList.map (·.2)).map (opd P E.dt σ Te)))++[(σ.hs.length,.row T ds)])) σ'.k0=
          ((St.mk σ'.ts (wrO σ'.hs (frzW σ'.hs (AV.rwsL ((parts.toList.map (·.2)).map (opd P E.dt σ Te))))) σ'.k0).lay σ.hs.length (.row T ds)).put d (.row σ.hs.length):=by
         rw[qL,hfw];rfl
        show dw P n o σ' (St.mk _ _ _);rw[hfin];exact key
   ·cases h
  ·cases h
 ·cases h
theorem Si{Te:TypeId}{vy:AV}{rd:List Nat}{ds:List Dt}(h:(match vy with
   |    .row l=>match lk σ.hs l with
        | .row T5 ds=>bif j3 P T5 Te then some ([l],ds)else none
        | .frz T5 ds=>bif j3 P T5 Te then some ([l],ds)else none
        |_=>none
   |    v=>match lval P [] v with
        |some (_,Te',ds)=>bif Nat.beq Te' Te then some ([],ds)else none
        |none=>none:Option (List Nat×List Dt))=some (rd,ds))(τ:St)(hev:Ev P τ y vy)(hag:∀l∈rd,lk τ.hs l=lk σ.hs l):Ez P τ y Te ds:=by
 split at h
 ·rename_i l;split at h
  ·rename_i T5 ds' hl;obtain⟨hc,h2⟩:=aN h;cases h2;exact .row hev (by rw[hag l (by simp)];exact hl) (fH hc).1
  ·rename_i T5 ds' hl;obtain⟨hc,h2⟩:=aN h;cases h2;exact .lst (fH hc).1 (hev.frz (by rw[hag l (by simp)];exact hl))
  ·cases h
 ·split at h
  ·rename_i Tx Te' ds' hl;obtain⟨hc,h2⟩:=aN h;cases h2;obtain⟨d1,hp,u1,rfl⟩:=BH hl;have e:=beq_eq hc;subst e;exact .lst u1 ((Ev.pk hev (K8 _ hp)).clst u1)
  ·cases h
theorem append_nil{d l l':Nat}{Te T5 T0:TypeId}{ds:List Dt}{z:Dt}(ho:o.op= .call {callee:= .builtin .append,args:= #[x,y],argTypes:= #[T,T]})(hd:o.dst=some d)(hn:d<n)(hu:P.underlying T=some (.slice Te))(hu5:P.underlying T5=some (.slice Te))
  (hz:Zero P Te z)(h0:P.cellsOf Te≠0)(hbd:ds.length*P.bytesOf Te<=140737488355328)(hx:Ev P σ x (.nils T0))(hfl:lk σ.hs l= .free)(hkl:σ.k0<=l)(hf:lk σ.hs l'= .free)(hll:l'≠l)(hk0:σ.k0<=l')(hy:Ez P σ y Te ds)(hlim:ds.length<=137438953472):
  dw P n o σ (((σ.lay l .gone).lay l' (.row T5 ds)).put d (.row l')):=by
 rintro ok0 w0 a w ⟨β,r⟩ K Q hK;have ex:a.eval x= .slice none 0 0:=by
  have h1:=(hx _ _ _ _ _ _ r).2 rfl;generalize a.eval x=q at h1;cases h1 with
  |nils=>rfl
 have r1:=r.nilrow hu5 hfl hkl;have hy1:=hy _ _ _ _ _ _ r;obtain⟨A,c,ys,ey,hyl,hyone,hyc,hynone,hyrd⟩:=hy1;have hob0:=r1.hs l;have hl1:lk (σ.lay l (.row T5 [])).hs l= .row T5 []:=dV _ _ _;rw[hl1,dJ]at hob0;have key:=IQ (σ:=σ.lay l (.row T5 [])) (l:=l) (l':=l') (E:=Te) (T5:=T5) (es:=[]) (ds:=ds) ho hd hn hu hu5 hz h0 (by simpa using hbd) r1 (by rw[ex];exact dJ _ _ _) hl1
  (by show lk (bG σ.hs l _) l'=_;rw[bE _ _ _ _ hll];exact hf) hk0 ey hyl hyone hyc hynone (fun i d' hd'=>(hyrd i d' hd').mono (fun b hb=>⟨⟨hb.1,hb.2.1,fun j hj=>?_⟩,rfl⟩)) (by simpa using hlim) K Q (fun a' w' r'=>hK a' w' ?_)
 ·exact key
 ·obtain⟨q1,z',q2,q3⟩:=hj;by_cases hjl:j=l
  ·subst hjl;rw[dJ]at q2;cases q2;simp[Blk,blk]at q3
  ·rw[eG _ _ _ _ hjl]at q2;have q1':(lk (bG σ.hs l (.row T5 [])) j).isOwn=true:=q1;rw[bE _ _ _ _ hjl]at q1';exact hb.2.2 j ⟨q1',z',q2,q3⟩
 ·have hcongr:Imp P n ((((σ.lay l (.row T5 [])).lay l .gone).lay l' (.row T5 ([]++ds))).put d (.row l')) (((σ.lay l .gone).lay l' (.row T5 ds)).put d (.row l')):=by
   refine Rel.congr (fun j=> .inr rfl) (fun j=>?_) rfl;show lk (bG (bG σ.hs l .gone) l' _) j=lk (bG (bG (bG σ.hs l (.row T5 [])) l .gone) l' _) j;rw[jV,jV,jV,jV,jV];simp only[List.nil_append];split;·rfl
   ·split<;>rfl
  exact hcongr _ _ _ _ r'
theorem UM{xs:Array Operand}{Ts:Array TypeId}{T':TypeId}(ho:o.op= .call ⟨.builtin .append,xs,Ts⟩)(hxs:xs.toList=[x,y])(hTs:Ts.toList=[T,T'])(h:EL P n o σ T T' (opd P E.dt σ T x) (opd P E.dt σ T' y) k=some r):OpS P n o σ k r:=by
 have hxs':=two hxs;have hTs':=two hTs;subst hxs' hTs';have hx:x∈o.op.operands.toList:=by rw[ho];simp[Op.operands,Call.operands]
 have hy:y∈o.op.operands.toList:=by rw[ho];simp[Op.operands,Call.operands]
 unfold EL at h;split at h
 ·rename_i Te z hTe hz;rw[hTe]at hz;have hh_:=aN h;clear h;obtain⟨hc,h⟩:=hh_;have e:=beq_eq (bg hc);subst e;have h0:=Aj (aO hc);split at h
  ·rename_i rd ds hsrc;split at h
   ·    rename_i l e1;split at h
        ·rename_i T5 es hl;have hh_:=aN h;clear h;obtain⟨hc5,h⟩:=hh_;have hh_:=nI h;clear h;obtain⟨hk0,h⟩:=hh_;have hh_:=Gc h;clear h;obtain⟨rs,hrs,h⟩:=hh_;obtain⟨p1,p2,p3⟩:=Gd hrs;subst p2;obtain⟨d,hd,hn,hk⟩:=mE h;refine⟨_,hk,fun σ' ag=>?_⟩;have key:=abJ (σ:=σ') (l:=l) (l':=σ.hs.length) ho hd hn (dK hTe) (fH hc5).1 (mO hz) h0 p3 (cK ag hx e1) (by rw[ag.hs l (by simp)];exact hl) (by rw[ag.hs _ (by simp)];exact nJ σ) (by rw[ag.k0];exact hk0)
          (Si hsrc σ' (qM ag hy) fun l2 hl2=>ag.hs l2 (by simp[hl2])) p1
         rw[hd];exact key
        ·rename_i T5 T2 c kk es hl;split at h
         ·rename_i T4 ls hlk;have hh_:=aN h;clear h;obtain⟨hc,h⟩:=hh_;have hc5:=bg hc;have f1:=beq_eq (bg (aO hc));subst f1;have hpl:∀e∈ds,lkd c e=false:=fun e he=>by simpa using List.all_eq_true.1 (aO (aO hc)) e he
          have hh_:=nI h;clear h;obtain⟨hk0,h⟩:=hh_;have hh_:=Gc h;clear h;obtain⟨rs,hrs,h⟩:=hh_;obtain⟨p1,p2,p3⟩:=Gd hrs;subst p2;obtain⟨d,hd,hn,hk⟩:=mE h;refine⟨_,hk,fun σ' ag=>?_⟩;have key:=X6 (σ:=σ') (l:=l) (l':=σ.hs.length+1) (q:=σ.hs.length) ho hd hn (dK hTe) (fH hc5).1 (mO hz) h0 p3 (cK ag hx e1) (by rw[ag.hs l (by simp)];exact hl) (by rw[ag.hs kk (by simp)];exact hlk)
           (by rw[ag.hs _ (by simp)];exact ng _ _ (by omega)) (by rw[ag.k0];omega) (by rw[ag.hs _ (by simp)];exact nJ σ) (by rw[ag.k0];exact hk0) (by omega)
           (Si hsrc σ' (qM ag hy) fun l2 hl2=>ag.hs l2 (by simp[hl2])) hpl p1
          rw[hd];exact key
         ·cases h
        ·cases h
   ·    rename_i T5 e1;have hh_:=aN h;clear h;obtain⟨hc5,h⟩:=hh_;have hh_:=nI h;clear h;obtain⟨hk0,h⟩:=hh_;have hh_:=Gc h;clear h;obtain⟨rs,hrs,h⟩:=hh_;obtain⟨p1,p2,p3⟩:=Gd hrs;simp only[List.nil_append]at p2;subst p2;obtain⟨d,hd,hn,hk⟩:=mE h;refine⟨_,hk,fun σ' ag=>?_⟩;have key:=append_nil (σ:=σ') (l:=σ.hs.length) (l':=σ.hs.length+1) ho hd hn (dK hTe) (fH hc5).1 (mO hz) h0 (by simpa using p3) (cK ag hx e1) (by rw[ag.hs _ (by simp)];exact nJ σ) (by rw[ag.k0];exact hk0)
         (by rw[ag.hs _ (by simp)];exact ng _ _ (by omega)) (by omega) (by rw[ag.k0];omega) (Si hsrc σ' (qM ag hy) fun l2 hl2=>ag.hs l2 (by simp[hl2])) (by simpa using p1)
        rw[hd];exact key
   ·cases h
  ·cases h
 ·cases h
theorem Pp{Te:TypeId}{ob:Ob}{vs:List AV}(h:alR P Te ob=some vs):ET P Te ob vs:=by
 cases ob with
 |row T es=>
  obtain⟨h1,h2⟩:=aN (show (bif j3 P T Te then some (es.map (.dat Te))else none)=some vs from h);cases h2;exact .inl ⟨T,es,rfl,(fH h1).1,rfl⟩
 |rowA T us=>
  obtain⟨h1,h2⟩:=aN (show (bif j3 P T Te then some us else none)=some vs from h);cases h2;exact .inr ⟨T,rfl,(fH h1).1⟩
 |_=>cases h
theorem acd{xs:Array Operand}{Ts:Array TypeId}{T':TypeId}(ho:o.op= .call ⟨.builtin .append,xs,Ts⟩)(hxs:xs.toList=[x,y])(hTs:Ts.toList=[T,T'])(h:Gt P n o σ T T' (opd P E.dt σ T x) (opd P E.dt σ T' y) k=some r):OpS P n o σ k r:=by
 unfold Gt at h;split at h
 ·rename_i l l2 e1 e2;cases hb:(aiX (lk σ.hs l2)||aiX (lk σ.hs l))with
  |false=>
   rw[hb,cond_false]at h;exact UM ho hxs hTs (by rw[e1,e2];exact h)
  |true=>
   rw[hb,cond_true]at h;have hxs':=two hxs;have hTs':=two hTs;subst hxs' hTs';have hx:x∈o.op.operands.toList:=by rw[ho];simp[Op.operands,Call.operands]
   have hy:y∈o.op.operands.toList:=by rw[ho];simp[Op.operands,Call.operands]
   unfold Pk at h;split at h
   ·    rename_i Te z hTe hz;rw[hTe]at hz;have hh_:=aN h;clear h;obtain⟨hc,h⟩:=hh_;have e:=beq_eq (bg hc);subst e;split at h
        ·rename_i es ds h1 h2;have hh_:=aN h;clear h;obtain⟨hl,h⟩:=hh_;have hh_:=nI h;clear h;obtain⟨hk0,h⟩:=hh_;obtain⟨d,hd,hn,hk⟩:=mE h;refine⟨_,hk,fun σ' ag=>?_⟩;have key:=X5 (σ:=σ') (l:=l) (l2:=l2) (l':=σ.hs.length) ho hd hn (dK hTe) (mO hz) (Aj (bg (aO hc))) (aK (aO (aO hc))) (cK ag hx e1) (ag.hs l (by simp)) (Pp h1) (by rw[ag.hs _ (by simp)];exact nJ σ) (by rw[ag.k0];exact hk0) (cK ag hy e2) (ag.hs l2 (by simp)) (Pp h2) (aK hl);rw[hd];exact key
        ·cases h
   ·cases h
 ·exact UM ho hxs hTs h
theorem ZC{D:List TypeId}{Te:TypeId}{τ:St}:∀{xs:List Operand},(∀z∈xs,Ev P τ z (opd P D σ Te z))->(xs.all fun z=>szB P Te (opd P D σ Te z))=true->EvLA P τ Te xs (xs.map (opd P D σ Te))
 | [],_,_=> .nil
 |z::xs,hev,h=>by simp only[List.all_cons,aM]at h;obtain⟨q1,q2,_,_,q5⟩:=kN h.1;exact .cons (hev z (by simp)) q1 q2 q5 (ZC (fun u hu=>hev u (by simp[hu])) h.2)
theorem ace{len:Nat}{parts:Array (Nat×Operand)}(ho:o.op= .buildSlice T len parts)(h:Gv P E n o σ T len parts.toList k=some r):OpS P n o σ k r:=by
 unfold Gv at h;cases hb:E.nest o with
 |false=>rw[hb,cond_false]at h;exact Sg ho h
 |true=>
  rw[hb,cond_true]at h;unfold Pm at h;split at h
  ·rename_i Te hTe;split at h
   ·    rename_i z hz;have hh_:=aN h;clear h;obtain⟨hc0,h⟩:=hh_;have hc:=aO hc0;have hh_:=nI h;clear h;obtain⟨hk0,h⟩:=hh_;obtain⟨d,hd,hn,hk⟩:=mE h;refine⟨_,hk,fun σ' ag=>?_⟩;have hmem:∀z∈parts.toList.map (·.2),z∈o.op.operands.toList:=by intro z hz;rw[ho];simpa [Op.operands]using hz
        have hlen:len=(parts.toList.map (·.2)).length:=by rw[List.length_map];exact beq_eq (bg (aO hc))
        have hpos:parts.toList.map (·.2)≠[]:=by intro e;rw[e]at hlen;exact Aj (bg (aO (aO hc))) hlen
        have key:=X4 (σ:=σ') (l:=σ.hs.length) ho hd hn (dK hTe) (by rw[ag.hs _ (by simp)];exact nJ σ) (by rw[ag.k0];exact hk0) (mO hz) (Aj (bg (aO (aO (aO hc))))) (BI (bg hc)) hlen hpos
         (aK (aO (aO (aO (aO hc))))) (ZC (D:=E.dt) (σ:=σ) (fun z hz=>qM ag (hmem z hz)) (bg hc0))
        rw[hd];exact key
   ·cases h
  ·cases h
theorem ai8{A:Type}{b:Bool}{u v:Option A}{q:A}(h:(bif b then u else v)=some q):(b=true∧u=some q)∨(b=false∧v=some q):=by
 cases b;·exact .inr ⟨rfl,h⟩
 ·exact .inl ⟨rfl,h⟩
theorem acf{xs:Array Operand}{Ts:Array TypeId}{T':TypeId}(ho:o.op= .call ⟨.builtin .append,xs,Ts⟩)(hxs:xs.toList=[x,y])(hTs:Ts.toList=[T,T'])(h:Gu P n o σ T T' (opd P E.dt σ T x) (opd P E.dt σ T' y) k=some r):OpS P n o σ k r:=by
 have hxs':=two hxs;have hTs':=two hTs;subst hxs' hTs';have hx:x∈o.op.operands.toList:=by rw[ho];simp[Op.operands,Call.operands]
 have hy:y∈o.op.operands.toList:=by rw[ho];simp[Op.operands,Call.operands]
 unfold Gu at h;split at h
 ·rename_i Te hTe;obtain⟨hc,h⟩:=aN h;have hu8:=bg hc;have hS:=sU (aO hc);unfold u8B at hu8;have he:=pQ (bg hu8);have hinf:=aO hu8;split at hinf
  ·rename_i i hi;have h1:=beq_eq (bg hinf);have h2:=beq_eq (bg (aO hinf));have h3:=aO (aO hinf);split at h3
   ·    rename_i m hm;have hm0:m=0:=of_decide_eq_true h3;subst hm0;split at h
        ·rename_i T2 s e2;obtain⟨d1,e3,u2,rfl⟩:=oQ e2;split at h
         ·rename_i l e1;split at h
          ·rename_i T5 es hl;obtain⟨hc5,h⟩:=aN h;obtain⟨hk0,h⟩:=nI h;obtain⟨rs,hrs,h⟩:=ak.1 h;obtain⟨p1,p2⟩:=Uc hrs;subst p2;obtain⟨d,hd,hn,hk⟩:=mE h;refine⟨_,hk,fun σ' ag=>?_⟩;have key:=Od (σ:=σ') (l:=l) (l':=σ.hs.length) ho hd hn (dK hTe) (fH hc5).1 hS u2 he hi hm h1 h2 (cK ag hx e1) (by rw[ag.hs l (by simp)];exact hl) (by rw[ag.hs _ (by simp)];exact nJ σ) (by rw[ag.k0];exact hk0) ((cK ag hy e3).cstr u2) p1;rw[hd];exact key
          ·cases h
         ·cases h
        ·cases h
   ·cases h3
  ·cases hinf
 ·cases h
theorem ai9{S1 S2 Te:TypeId}(ho:o.op= .convert S1 S2 x)(hTe:slE P S1=some Te)(h:RY P n o σ Te S2 (opd P E.dt σ S1 x) k=some r):OpS P n o σ k r:=by
 have hx:x∈o.op.operands.toList:=by rw[ho];simp[Op.operands]
 unfold RY at h;obtain⟨hc,h⟩:=aN h;have he:=pQ (bg hc);have hc1:=beq_eq (bg (aO hc));have hS:=sU (aO (aO hc));split at h
 ·rename_i rd ds hsrc;obtain⟨s,hs,h⟩:=ak.1 h;unfold aow at hs;obtain⟨hb,hs⟩:=aN hs;have hlen:=aK hb;cases hs;obtain⟨d,hd,hn,hk⟩:=mE h;refine⟨_,hk,fun σ' ag=>?_⟩;have key:=Oe (σ:=σ') ho hd hn (dK hTe) hS he hc1 (Si hsrc σ' (qM ag hx) fun l2 hl2=>ag.hs l2 (by simp[hl2])) hlen;rw[hd];exact key
 ·cases h
end
def CallOK{R:Type}(P:Program)(call:FuncId->List AV->List Ob->(Res->Option R)->Option R):Prop:=∀f args objs K r,call f args objs K=some r->∃q:Res,K q=some r∧FX P f args objs q.1 q.2∧HasBody P f
theorem uY{ρ:Nat->Option Nat}{c:Nat}:∀{os:List Ob}{src:List Nat}{nm:Nat}{hs:List Ob},c∉src->¬(nm<=c∧c<nm+(os.length-src.length))->lk (wrO hs (wm ρ nm src os)) c=lk hs c
 | [],src,nm,hs,_,_=>by cases src<;>rfl
 |o::os,[],nm,hs,h1,h2=>by simp only[wm,wrO];rw[uY (by simp) (by simp only[List.length_cons,List.length_nil]at h2 ⊢;omega),bE];intro e;subst e;simp only[List.length_cons,List.length_nil]at h2;omega
 |o::os,l::src,nm,hs,h1,h2=>by simp only[List.mem_cons,not_or]at h1;simp only[wm,wrO];rw[uY h1.2 (by simp only[List.length_cons]at h2 ⊢;omega),bE _ _ _ _ h1.1]
theorem Pq{ρ:Nat->Option Nat}:∀{os:List Ob}{src:List Nat}{nm:Nat}{hs:List Ob}{i l:Nat},src.Nodup->(∀l∈src,¬(nm<=l∧l<nm+(os.length-src.length)))->src.length<=os.length->src[i]? =some l->lk (wrO hs (wm ρ nm src os)) l=(lk os i).ren ρ
 | [],src,nm,hs,i,l,_,_,h3,h4=>by have:src=[]:=List.eq_nil_of_length_eq_zero (by simpa using h3);subst this;simp at h4
 |o::os,[],nm,hs,i,l,_,_,_,h4=>by simp at h4
 | o::os,m::src,nm,hs,i,l,h1,h2,h3,h4=>by
   obtain⟨hm,hnd⟩:=List.nodup_cons.1 h1;simp only[wm,wrO];cases i with
   |zero=>
    simp only[bf,aH]at h4;subst h4;rw[uY hm (by have:=h2 m (by simp);simp only[List.length_cons]at this ⊢;omega),dV];rfl
   |succ i=>
    simp only[aZ]at h4;rw[Pq hnd (fun l hl=>by have:=h2 l (by simp[hl]);simp only[List.length_cons]at this ⊢;omega) (by simpa using h3) h4];rfl
theorem GD{ρ:Nat->Option Nat}:∀{os:List Ob}{src:List Nat}{nm:Nat}{hs:List Ob}{j:Nat},(∀l∈src,¬(nm<=l∧l<nm+(os.length-src.length)))->src.length<=j->j<os.length->lk (wrO hs (wm ρ nm src os)) (nm+(j-src.length))=(lk os j).ren ρ
 | [],src,nm,hs,j,_,_,h3=>by simp at h3
 |o::os,[],nm,hs,j,h1,h2,h3=>by
  simp only[wm,wrO];cases j with
  |zero=>
   simp only[List.length_nil,Nat.sub_zero,Nat.add_zero];rw[uY (by simp) (by simp only[List.length_nil];omega),dV];rfl
  |succ j=>
   have:=GD (ρ:=ρ) (os:=os) (src:=[]) (nm:=nm+1) (hs:=bG hs nm (o.ren ρ)) (j:=j) (by simp) (by simp) (by simpa using h3);simp only[List.length_nil,Nat.sub_zero]at this ⊢
   rw[show nm+(j+1)=nm+1+j by omega,this];rfl
 |o::os,m::src,nm,hs,j,h1,h2,h3=>by
  simp only[wm,wrO];cases j with
  |zero=>simp at h2
  |succ j=>
   have:=GD (ρ:=ρ) (os:=os) (src:=src) (nm:=nm) (hs:=bG hs m (o.ren ρ)) (j:=j) (fun l hl=>by have:=h1 l (by simp[hl]);simp only[List.length_cons]at this ⊢;omega) (by simpa using h2) (by simpa using h3);simp only[List.length_cons]at this ⊢
   rw[show nm+(j+1-(src.length+1))=nm+(j-src.length) by omega,this];rfl
theorem aey{src:List Nat}{nm:Nat}{hs os:List Ob}(h1:src.Nodup)(h2:∀l∈src,¬(nm<=l∧l<nm+(os.length-src.length)))(h3:src.length<=os.length):BackH src nm hs os (wrO hs (wm (bkN src nm) nm src os)):=
 ⟨fun i l h=>Pq h1 h2 h3 h,fun j h4 h5=>GD h2 h4 h5,fun c h4 h5=>uY h4 h5⟩
theorem EP{hs:List Ob}:∀{src:List Nat},allNames hs src=true->∀l∈src,lk hs l≠ .free
 | [],_,l,hl=>by simp at hl
 |m::r,h,l,hl=>by
  unfold allNames at h;rcases List.mem_cons.1 hl with e|hl
  ·subst e;intro e;have:=bg h;rw[e]at this;cases this
  ·exact EP (aO h) l hl
theorem Ld{l:Nat}:∀{m k:Nat},k<=l->l<k+m->l∈upto k m
 |0,k,h1,h2=>by omega
 |m+1,k,h1,h2=>by
  simp only[upto,List.mem_cons];by_cases h:l=k;·exact .inl h
  ·exact .inr (Ld (by omega) (by omega))
theorem XM:∀(Ts:List TypeId)(hs:List Ob)(k:Nat),wrO hs (ad1 k Ts)=zD hs k Ts
 | [],_,_=>rfl
 |T::r,hs,k=>by simp only[ad1,wrO,zD];exact XM r _ _
theorem Pv:∀{Ts:List TypeId}{hs:List Ob}{k l:Nat},k+Ts.length<=l->lk hs l= .free->lk (zD hs k Ts) l= .free
 | [],_,_,_,_,h=>h
 |T::r,hs,k,l,h1,h2=>by simp only[List.length_cons]at h1;simp only[zD];refine Pv (by omega) ?_;rw[bE _ _ _ _ (by omega)];exact h2
theorem UN(ρ:Nat->Option Nat)(hs:List Ob):∀src:List Nat,(sZ ρ hs src).length=src.length
 | []=>rfl
 |_::r=>by simp[sZ,UN ρ hs r]
section
variable{P:Program}{n:Nat}{o:Oper}{σ τ:St}{x y:Operand}{v:AV}{T:TypeId}{R:Type}{E:Env}{k:Dl->Option R}{r:R}{call:FuncId->List AV->List Ob->(Res->Option R)->Option R}
theorem acg(o:Ob):(Cz P o).isOwn=o.isOwn:=by
 unfold Cz;split
 ·split;·cases Nat.beq _ _<;>rfl
  ·rfl
 ·rfl
theorem ach{ok:Nat->Prop}{w:World}{β:Nat->Option Value}{v:Option Value}{o:Ob}(h:ObOK P ok w β o v):ObOK P ok w β (Cz P o) v:=by
 unfold Cz;split
 ·rename_i T c;split
  ·rename_i T' d hp;cases hb:Nat.beq T' T;·exact h
   ·    have e:=beq_eq hb;subst e;obtain⟨b,cs,h1,h2,h3,h4⟩:=h;have hrd:=jX (hs:=[]) (fun l T es hl=>by cases l<;>cases hl) h4 hp;exact⟨b,cs,h1,h2,h3,.dat (by rw[Ew hrd];exact hrd)⟩
  ·exact h
 ·exact h
theorem IY(os:List Ob)(l:Nat):lk (os.map (Cz P)) l=Cz P (lk os l):=by
 induction os generalizing l with
 |nil=>rfl
 |cons o r ih=>cases l with
  |zero=>rfl
  |succ l=>exact ih l
theorem aez{f:FuncId}{args:List AV}{b:Bool}{os hs':List Ob}{res:AV}(h:FX P f args (akA P b os) res hs'):FX P f args os res hs':=by
 cases b;·exact h
 replace h:FX P f args (os.map (Cz P)) res hs':=h;intro ok w β zs h1 h2 h3 h4 h5;have hown:∀l b,owns (os.map (Cz P)) β l b↔owns os β l b:=fun l b=>by simp only[owns,IY,acg]
 have hX:XO (os.map (Cz P)) β=XO os β:=by funext b;apply propext;exact⟨fun⟨l,hl⟩=>⟨l,(hown l b).1 hl⟩,fun⟨l,hl⟩=>⟨l,(hown l b).2 hl⟩⟩
 have hc:=h ok w β zs (fun b hb=>by rw[hX];exact h1 b hb) (fun l=>by rw[IY];exact ach (h2 l)) (fun l l' b q1 q2=>h3 l l' b ((hown _ _).1 q1) ((hown _ _).1 q2)) h4 h5;refine hc.mono ?_;rintro e w' ⟨v,β',rfl,hf,hr⟩;obtain⟨f1,f2,f3,f4,f5⟩:=hf;rw[hX,List.length_map]at f2 hr;rw[hX]at f1;exact⟨v,β',rfl,⟨f1,f2,f3,fun l b q=>by have:=f4 l b q;rwa [hX]at this,fun l hl=>f5 l (by rw[List.length_map];exact hl)⟩,hr⟩
theorem Sj{src:List Nat}{hs:List Ob}:∀(ws:List (Nat×Ob))(hs':List Ob),(ws.map (·.1)).Nodup->(∀l∈src,l∈ws.map (·.1)->lk hs' l=lk hs l)->∀l,lk (wrO hs' (ad5 hs src ws)) l=lk (wrO hs' ws) l
 | [],_,_,_,_=>rfl
 |(k,o)::r,hs',hn,ha,l=>by
  simp only[List.map_cons,List.nodup_cons]at hn;unfold ad5;cases hb:om k src&&ad4 o (lk hs k)with
  |true=>
   simp only[cond_true];rw[Sj r hs' hn.2 (fun l h1 h2=>ha l h1 (bD _ h2)) l];have e1:lk hs' k=o:=by rw[ha k (yh.1 (bg hb)) (by simp),Zw (aO hb)]
   simp only[wrO];refine(oU (ls:=[l]) (fun c hc=>?_) l (by simp)).symm;rw[jV];split;·next h=>rw[h,e1]
   ·rfl
  |false=>
   simp only[cond_false,wrO];refine Sj r _ hn.2 (fun c h1 h2=>?_) l;rw[bE _ _ _ _ (fun e=>hn.1 (by rw[←e];exact h2))];exact ha c h1 (bD _ h2)
theorem aeA{b:Bool}{src:List Nat}{hs hs':List Ob}{ws:List (Nat×Ob)}(ha:∀l∈src,lk hs' l=lk hs l)(l:Nat):lk (wrO hs' (keepW b hs src ws)) l=lk (wrO hs' ws) l:=by
 unfold keepW;cases hb:b&&nodupB (ws.map (·.1))with
 |true=>exact Sj ws hs' (oV (aO hb)) (fun c hc _=>ha c hc) l
 |false=>rfl
theorem ZE(hcall:CallOK P call){f:FuncId}{as:List AV}{hs1:List Ob}{rd0:List Nat}{wr0:List (Nat×Ob)}{nm:Nat}{src:List Nat}
  (h1:hs1=wrO σ.hs wr0)(hnm:σ.hs.length<=nm)(hfree:∀l,nm<=l->lk hs1 l= .free)
  (hpre:∀σ' rd,Agr o σ σ' (rd0++rd)->(∀l,σ.hs.length<=l->l<nm->l∈rd)->∀(K:OkX)(w0:World)(a:Act)(w:World),Rel P K w0 n σ' a w->σ.k0<=σ.hs.length->∃(β1:Nat->Option Value)(zs:List Value),RelB P K w0 n ⟨σ'.ts,wrO σ'.hs wr0,σ'.k0⟩ a w β1∧(HasBody P f->(execOp a.eval o).run P w= .ok (.enter f zs.toArray) w)∧RVsX P (okOf K w0 w (wrO σ'.hs wr0) β1) w β1 as zs)
  (h:uW P E call n o σ f as hs1 rd0 wr0 nm src k=some r):OpS P n o σ k r:=by
 unfold uW at h;have hh_:=aN h;clear h;obtain⟨hc,h⟩:=hh_;have hh_:=hcall _ _ _ _ _ h;clear h;obtain⟨q,h,hfx,hbody⟩:=hh_;replace hfx:=aez hfx;have hh_:=aN h;clear h;obtain⟨hc2,h⟩:=hh_;have hnd:=oV (bg hc);have hsf:=EP (bg (aO hc));have hk0:σ.k0<=σ.hs.length:=aK (aO (aO hc));have hlen:=aK (bg hc2);have hsrcnew:∀l∈src,¬(nm<=l∧l<nm+(q.2.length-src.length)):=fun l hl hc=>hsf l hl (hfree l hc.1);refine⟨_,h,fun σ' ag=>?_⟩;have hagr1:∀l∈src++upto σ.hs.length ((nm-σ.hs.length)+(q.2.length-src.length)),lk (wrO σ'.hs wr0) l=lk hs1 l:=by intro l hl;rw[h1];exact oU (ls:=src++upto σ.hs.length ((nm-σ.hs.length)+(q.2.length-src.length))) (fun l hl=>ag.hs l (List.mem_append_right _ hl)) l hl
 have hobj:∀i l,src[i]? =some l->lk (sZ (ix src) hs1 src) i=(lk (wrO σ'.hs wr0) l).ren (ix src):=by intro i l hi;rw[Kc,hi];simp only[Sq];rw[hagr1 l (bB _ (aV hi))]
 have hfr:∀j,j<q.2.length-src.length->lk (wrO σ'.hs wr0) (nm+j)= .free:=by intro j hj;rw[hagr1 _ (List.mem_append_right _ (Ld (by omega) (by omega)))];exact hfree _ (by omega)
 have hsf':∀l∈src,lk (wrO σ'.hs wr0) l≠ .free:=fun l hl=>by rw[hagr1 l (bB _ hl)];exact hsf l hl
 intro K w0 a w rr Kt Q hK;obtain⟨β1,zs,r1,hrun,ha⟩:=hpre σ' _ ag (fun l h3 h4=>List.mem_append_right _ (Ld h3 (by omega))) K w0 a w rr hk0;have hback:=aey (hs:=wrO σ'.hs wr0) hnd hsrcnew hlen;refine aeP (σ:=St.mk σ'.ts (wrO σ'.hs wr0) σ'.k0) (as:=as) (res:=q.1) (hrun hbody) hnd (UN _ _ _) hobj hfx hfr (by show σ'.k0<=nm;rw[ag.k0];omega) hsf' hback r1 ha Kt Q fun z w' β'' h3 h4=>hK _ _ ?_;have hI:Imp P n (σ'.app o.dst ⟨o.dst.map fun _=>q.1.ren (bkN src nm),rd0++(src++upto σ.hs.length ((nm-σ.hs.length)+(q.2.length-src.length))),wr0++wm (bkN src nm) nm src q.2⟩) (σ'.app o.dst ⟨o.dst.map fun _=>q.1.ren (bkN src nm),rd0++(src++upto σ.hs.length ((nm-σ.hs.length)+(q.2.length-src.length))),wr0++keepW (E.rdo f) hs1 src (wm (bkN src nm) nm src q.2)⟩):=by refine Rel.congr (fun k=> .inr rfl) (fun l=>?_) rfl;unfold St.app;simp only;rw[qL,qL];exact aeA (fun c hc=>hagr1 c (bB _ hc)) l
 refine hI _ _ _ _ ?_;unfold St.app;simp only;rw[qL];cases hd:o.dst with
 |none=>exact⟨β'',h3⟩
 |some d=>
  have hn:d<n:=by have:=aO hc2;unfold ab1 at this;rw[hd]at this;exact aK this
  exact Rel.put h3 hn h4
theorem XP(hcall:CallOK P call){g:Operand}{xs:Array Operand}{Ts:Array TypeId}{f:FuncId}{as caps:List AV}{hs1:List Ob}{rd0:List Nat}{wr0:List (Nat×Ob)}{nm:Nat}{src:List Nat}(ho:o.op= .call ⟨.value g,xs,Ts⟩)(hcap:∀v∈caps,v.isAgg P=false∧∀us,v≠ .tup us)
  (h1:hs1=wrO σ.hs wr0)(hnm:σ.hs.length<=nm)(hfree:∀l,nm<=l->lk hs1 l= .free)
  (hpre:∀σ' rd,Agr o σ σ' (rd0++rd)->(∀l,σ.hs.length<=l->l<nm->l∈rd)->∀(K:OkX)(w0:World)(a:Act)(w:World),Rel P K w0 n σ' a w->σ.k0<=σ.hs.length->∃β1,RelB P K w0 n ⟨σ'.ts,wrO σ'.hs wr0,σ'.k0⟩ a w β1∧RV P (okOf K w0 w (wrO σ'.hs wr0) β1) w β1 (.fn f caps) (a.eval g)∧RVsX P (okOf K w0 w (wrO σ'.hs wr0) β1) w β1 as (xs.toList.map a.eval))
  (h:uW P E call n o σ f (as++caps) hs1 rd0 wr0 nm src k=some r):OpS P n o σ k r:=by
 refine ZE hcall h1 hnm hfree (fun σ' rd ag hin K w0 a w rr hk0=>?_) h;obtain⟨β1,r1,hg,ha⟩:=hpre σ' rd ag hin K w0 a w rr hk0;obtain⟨cv,ecv,hcv⟩:=U8 hg hcap;exact⟨β1,_,r1,fun hb=>PK (xs:=xs.toList) (by rw[ho]) hb a w ecv,ha.app hcv⟩
theorem RVsX.map_pk{b:Bool}{ok:Nat->Prop}{w:World}{β:Nat->Option Value}{hs:List Ob}{vs:List AV}{zs:List Value}(hf:Cx P ok w β hs)(hfa:∀l T es,lk hs l= .frz T es->d9 P T=false)(h:RVsX P ok w β vs zs):RVsX P ok w β (vs.map (pkA P b hs)) zs:=by
 induction h with
 |nil=>exact .nil
 |cons h _ ih=>
  refine .cons ?_ ih;unfold pkA;cases (b&&RU _)with
  |true=>exact h
  |false=>
  simp only[cond_false];split;·rename_i T d hp;exact h.pk hf hfa hp
  ·exact h
theorem RVsX.n2r{ok:Nat->Prop}{w:World}{β:Nat->Option Value}{vs:List AV}{zs:List Value}(h:RVsX P ok w β vs zs):∀k,GV β k (AV.n2rL P vs k).2.length->RVsX P ok w β (AV.n2rL P vs k).1 zs:=by
 induction h with
 |nil=>intro k _;exact .nil
 |cons h _ ih=>
  intro k hb;simp only[AV.n2rL,aD]at hb ⊢
  exact .cons (h.n2r k hb.left) (ih _ hb.right)
theorem RV.dn{ok:Nat->Prop}{w:World}{β:Nat->Option Value}{v:AV}{z:Value}(h:RV P ok w β v z):RV P ok w β (dn1 P v) z:=by
 unfold dn1;split
 ·split
  ·rename_i hu;have h1:=h.2 rfl;cases h1 with
   |nils=>exact(RV.dat_one (dS hu rfl)).2 (RD.nil hu)
  ·exact h
 ·exact h
theorem RVsX.dn{ok:Nat->Prop}{w:World}{β:Nat->Option Value}{vs:List AV}{zs:List Value}(ps:List Nat)(h:RVsX P ok w β vs zs):∀k,RVsX P ok w β (dnL P ps k vs) zs:=by
 induction h with
 |nil=>intro k;exact .nil
 |cons h _ ih=>
  intro k;refine .cons ?_ (ih _);cases om k ps;·exact h
  ·exact h.dn
theorem RVsX.mono{ok ok':Nat->Prop}{w w':World}{β β':Nat->Option Value}{vs:List AV}{zs:List Value}(h:RVsX P ok w β vs zs)(hk:∀b,ok b->ok' b∧w'.heap[b]? =w.heap[b]?)(hβ:Ext β β'):RVsX P ok' w' β' vs zs:=by
 induction h with
 |nil=>exact .nil
 |cons h _ ih=>exact .cons (h.mono hk hβ) ih
theorem Sk(P:Program):∀(vs:List AV)(k:Nat),∀T∈(AV.n2rL P vs k).2,∃E,P.underlying T=some (.slice E)
 | [],k,T,h=>by simp[AV.n2rL]at h
 |v::vs,k,T,h=>by
  simp only[AV.n2rL,List.mem_append]at h;rcases h with h|h;·exact XU P v k T h
  ·exact Sk P vs _ T h
theorem Sl{b:Bool}{hs hs':List Ob}:∀{vs:List AV},(∀l∈AV.rwsL vs,lk hs' l=lk hs l)->vs.map (pkA P b hs')=vs.map (pkA P b hs)
 | [],_=>rfl
 |v::r,h=>by simp only[List.map_cons];rw[Sl (vs:=r) fun l hl=>h l (by simp[AV.rwsL,hl])];congr 1;unfold pkA;rw[yV (hs:=hs) (hs':=hs') v fun l hl=>h l (by simp[AV.rwsL,hl])]
theorem Le:∀(Ts:List TypeId)(σ:St)(K:OkX)(w0 w:World)(a:Act)(β:Nat->Option Value)(k:Nat),RelB P K w0 n σ a w β->(∀T∈Ts,∃E,P.underlying T=some (.slice E))->(∀i,k<=i->i<k+Ts.length->lk σ.hs i= .free)->σ.k0<=k->
  ∃β',RelB P K w0 n ⟨σ.ts,zD σ.hs k Ts,σ.k0⟩ a w β'∧Ext β β'∧GV β' k Ts.length∧∀b,okOf K w0 w σ.hs β b->okOf K w0 w (zD σ.hs k Ts) β' b
 | [],σ,K,w0,w,a,β,k,r,_,_,_=>⟨β,r,Ext.refl _,fun i h1 h2=>by simp at h2;omega,fun b hb=>hb⟩
 |T::Ts,σ,K,w0,w,a,β,k,r,hT,hf,hk=>by
  obtain⟨E,hu⟩:=hT T (by simp);have hfk:=hf k (aj _) (by simp);have r1:=r.nilrow hu hfk hk;obtain⟨β',r2,e2,n2,o2⟩:=Le Ts (σ.lay k (.row T [])) K w0 w a _ (k+1) r1 (fun T' h=>hT T' (by simp[h])) (fun i hi hi2=>by show lk (bG σ.hs k _) i= .free;rw[bE _ _ _ _ (by omega)];exact hf i (by omega) (by simp;omega)) (by show σ.k0<=k+1;omega)
  have hb:β k=none:=by have:=r.hs k;rw[hfk]at this;exact this
  have e1:Ext β (upB β k (some (.slice none 0 0))):=fun i z hz=>by
   by_cases hik:i=k;·subst hik;rw[hb]at hz;cases hz
   ·rw[eG _ _ _ _ hik];exact hz
  refine⟨β',r2,e1.trans e2,fun i h1 h2=>?_,fun b hb2=>o2 b ⟨hb2.1,hb2.2.1,fun j hj=>?_⟩⟩
  ·by_cases hik:i=k;·subst hik;exact e2 _ _ (dJ _ _ _)
   ·exact n2 i (by omega) (by simp at h2 ⊢;omega)
  ·obtain⟨q1,z',q2,q3⟩:=hj;by_cases hjk:j=k
   ·    subst hjk;rw[dJ]at q2;cases q2;simp[Blk,blk]at q3
   ·    rw[eG _ _ _ _ hjk]at q2;have q1':(lk (bG σ.hs k (.row T [])) j).isOwn=true:=q1;rw[bE _ _ _ _ hjk]at q1';exact hb2.2.2 j ⟨q1',z',q2,q3⟩
theorem ZF{ok ok':Nat->Prop}{w w':World}{β β':Nat->Option Value}{v:AV}{z:Value}(hs:scV P v=true)(h:RV1 P ok w β v z):RV1 P ok' w' β' v z:=by
 cases v with
 |dat   T d=>
  simp only[scV,scT]at hs;have hag:d9 P T=false:=by unfold d9;split at hs<;>simp_all
  have h1:=h.2 hag;refine⟨fun e=>(by rw[show AV.isAgg P (.dat T d)=false from hag]at e;cases e),fun _=>?_⟩;cases h1 with
  |dat h1=>
   refine .dat ?_;split at hs
   ·    rename_i hu;obtain⟨e1,e2,e3,e4⟩:=h1.int_inv hu;rw[e1,e2];exact .int hu e3 e4
   ·    rename_i hu;obtain⟨e1,e2⟩:=h1.bool_inv hu;rw[e1,e2];exact .bool hu
   ·    rename_i hu;obtain⟨e1,e2,e3⟩:=h1.str_inv hu;rw[e1,e2];exact .str hu e3
   ·cases hs
 |_=>cases hs
theorem aja{ok ok':Nat->Prop}{w w':World}{β β':Nat->Option Value}{v:AV}{z:Value}(hs:scR P v=true)(h:RV P ok w β v z):RV P ok' w' β' v z:=by
 cases v with
 |tup vs=>
  obtain⟨arr,e,hl,h⟩:=h;exact⟨arr,e,hl,fun i av hv=>ZF (List.all_eq_true.1 hs av (aV hv)) (h i av hv)⟩
 |dat T d=>exact ZF hs h
 |_=>cases hs
theorem aeB(hcall:CallOK P call){g:Operand}{xs:Array Operand}{Ts:Array TypeId}{f:FuncId}{as caps:List AV}{rd:List Nat}(ho:o.op= .call ⟨.value g,xs,Ts⟩)(hcap:∀v∈caps,v.isAgg P=false∧∀us,v≠ .tup us)
  (hpre:∀σ',Agr o σ σ' rd->∀(K:OkX)(w0:World)(a:Act)(w:World),Rel P K w0 n σ' a w->∃hs1 β1,RelB P K w0 n ⟨σ'.ts,hs1,σ'.k0⟩ a w β1∧RV P (fun b=>b<w.heap.size) w β1 (.fn f caps) (a.eval g)∧RVsX P (fun b=>b<w.heap.size) w β1 as (xs.toList.map a.eval))
  (h:(call f (AV.renL (ix []) (as++caps)) [] fun q=>bif (scR P q.1&&(isNil q.2&&ab1 n o))then k ⟨o.dst.map fun _=>q.1,rd,[]⟩else none)=some r):OpS P n o σ k r:=by
 have hh_:=hcall _ _ _ _ _ h;clear h;obtain⟨q,h,hfx,hbody⟩:=hh_;have hh_:=aN h;clear h;obtain⟨hc2,h⟩:=hh_;have hsc:=bg hc2;have hnil:q.2=[]:=by
  have:=bg (aO hc2);cases hq:q.2 with
  |nil=>rfl
  |cons a b=>rw[hq]at this;cases this
 refine⟨_,h,fun σ' ag=>?_⟩;intro K w0 a w rr Kt Q hK;obtain⟨hs1,β1,r1,hg,ha⟩:=hpre σ' ag K w0 a w rr;obtain⟨β,rb⟩:=rr;obtain⟨cv,ecv,hcv⟩:=U8 hg hcap;have hargs:=(ha.app hcv).ren (yZ [] β1);have no:∀(β:Nat->Option Value) l b,¬owns [] β l b:=fun β l b h=>by obtain⟨h1,_⟩:=h;cases l<;>cases h1
 have hc:=hfx (fun b=>b<w.heap.size) w (tu [] β1) _ (fun b hb=>⟨hb,fun⟨l,hx⟩=>no _ _ _ hx⟩) (fun i=>by cases i<;>rfl) (fun l l' b h1=>(no _ _ _ h1).elim) hargs (r1.tab.mono fun b hb=>⟨hb.1,rfl⟩);rw[hnil]at hc;have ho':o.op= .call {callee:= .value g,args:=xs.toList.toArray,argTypes:=Ts}:=by rw[ho]
 unfold Oper.wp;rw[PK ho' hbody a w ecv,Oper.upon_enter];refine hc.mono ?_;rintro e w' ⟨z,β',rfl,fin,hz⟩;have hbel:Below w.heap.size w w':=⟨fin.below.os,fin.below.tape,fin.below.output,fin.below.size,fun b hb=>fin.below.block b hb (fun⟨l,hx⟩=>no _ _ _ hx)⟩;obtain⟨rg,_⟩:=rb.grow hbel;refine hK _ _ ?_;unfold St.app;simp only;cases hd:o.dst with
 |none=>exact⟨β,rg⟩
 |some d=>
  have hn:d<n:=by have:=aO (aO hc2);unfold ab1 at this;rw[hd]at this;exact aK this
  exact Rel.put rg hn (aja hsc hz)
theorem aos{A:Type}{b:Bool}{x y z:A}(h:(bif b then x else y)=z):(b=true∧x=z)∨(b=false∧y=z):=by cases b<;>simp_all
theorem UO:∀us vs:List AV,AV.nmsL (us++vs)=AV.nmsL us++AV.nmsL vs
 | [],vs=>by simp[AV.nmsL]
 |u::us,vs=>by simp[AV.nmsL,UO us vs]
theorem Lf{v:AV}{l:Nat}:∀{vs:List AV},v∈vs->l∈v.rws->l∈AV.rwsL vs
 |u::us,h,hl=>by
  simp only[AV.rwsL,List.mem_append];rcases List.mem_cons.1 h with e|h;·subst e;exact .inl hl
  ·exact .inr (Lf h hl)
theorem UQ{hs:List Ob}{ts:List AV}{k0:Nat}{K:OkX}{w0 w:World}{a:Act}{β:Nat->Option Value}{cs:List Value}(rb:RelB P K w0 n ⟨ts,hs,k0⟩ a w β)(h:RA P (fun b=>b<w.heap.size) w β v cs):RA P (fun b=>b<w.heap.size) w β (qV P hs v) cs:=by
 unfold qV;split
 ·rename_i l;split
  ·rename_i T c hl;split
   ·    rename_i T' d hp;cases hb:Nat.beq T' T;·exact h
        ·have e:=beq_eq hb;subst e;simp only[cond_true];have ho:=rb.hs l;rw[show lk (St.mk ts hs k0).hs l=lk hs l from rfl,hl]at ho;obtain⟨b,cc,e1,e2,e3,e4⟩:=ho;cases h with
         | @ptr _ b' off path hβ=>
           rw[e1]at hβ;simp only[aH,Value.pointer.injEq,Addr.mk.injEq,and_true]at hβ;subst hβ;have hrd:=jX rb.frzOK e4 hp;have hlt:b<w.heap.size:=(Array.getElem?_eq_some_iff.1 e2).1;refine .rptr (ad:=⟨b,0,none⟩) (cs:=cc.toList) hlt (by rw[Array.length_toList];exact e3) (fun j u hu=>?_) (hrd.mono fun b hb=>⟨hb.1,rfl⟩);rw[pz,Nat.zero_add];simp only[World.cell?,e2];rw[Array.getElem?_toList]at hu;simpa using hu
   ·exact h
  ·exact h
 ·exact h
theorem IZ{hs:List Ob}(hv:v.isAgg P=false∧∀us,v≠ .tup us):(qV P hs v).isAgg P=false∧∀us,qV P hs v≠ .tup us:=by
 unfold qV;split
 ·split
  ·split
   ·    cases Nat.beq _ _;·exact hv
        ·exact⟨rfl,fun us h=>by cases h⟩
   ·exact hv
  ·exact hv
 ·exact hv
theorem UR{hs:List Ob}{ts:List AV}{k0:Nat}{K:OkX}{w0 w:World}{a:Act}{β:Nat->Option Value}{z:Value}(rb:RelB P K w0 n ⟨ts,hs,k0⟩ a w β)(h:RV P (fun b=>b<w.heap.size) w β v z):RV P (fun b=>b<w.heap.size) w β (Ae P hs v) z:=by
 cases v with
 |fn f caps=>
  have h1:=h.2 rfl;refine⟨fun hi=>(by cases hi),fun _=>?_⟩;show RA P _ w β (.fn f (caps.map (qV P hs))) [z];cases h1 with
  | @fn _ _ cv hl hh=>
    refine .fn (by rw[List.length_map];exact hl) fun i av hav=>?_;rw[List.getElem?_map]at hav;obtain⟨u,hu,rfl⟩:=bn.1 hav;exact UQ rb (hh i u hu)
 |ptr l path off=>
  have h1:=h.2 rfl;have h2:=UQ rb h1;have hp:(AV.ptr l path off).isAgg P=false∧∀us,AV.ptr l path off≠ .tup us:=⟨rfl,fun us h=>by cases h⟩;have h3:=IZ (hs:=hs) hp;show RV P _ w β (qV P hs (.ptr l path off)) z;have h4:RV1 P (fun b=>b<w.heap.size) w β (qV P hs (.ptr l path off)) z:=⟨fun hi=>(by rw[h3.1]at hi;cases hi),fun _=>h2⟩;exact h4.toRV h3.2
 |_=>exact h
theorem yc{T:TypeId}{c:AV}:∀{ls:List Nat}{hs:List Ob}{l:Nat},lk (wrO hs (Am.frzW hs ls)) l= .box T c->lk hs l= .box T c
 | [],hs,l,h=>h
 |k::r,hs,l,h=>by
  unfold Am.frzW at h;split at h
  ·rename_i T' es hl;have h2:=yc (ls:=r) (hs:=bG hs k (.frz T' es)) h;rw[jV]at h2;split at h2;·cases h2
   ·exact h2
  ·rename_i T' T2 c' kk es hl;split at h
   ·    rename_i ls hls;have h2:=yc (ls:=r) (hs:=bG (bG (bG hs k (.row T' (frzD c' es ls))) kk .gone) k (.frz T' (frzD c' es ls))) h;simp only[jV]at h2;split at h2;·cases h2
        ·split at h2;·cases h2
         ·first|exact h2|(split at h2;·cases h2;·exact h2)
   ·exact yc h
  ·exact yc h
theorem I4{hs:List Ob}{q:Nat}:∀{ls:List Nat},q∈ls->q∈J8 hs ls
 |k::r,h=>by
  simp only[J8,List.mem_append];rcases List.mem_cons.1 h with rfl|h;·left;split<;>simp
  ·exact .inr (I4 h)
theorem Ao{hs:List Ob}{T:TypeId}{c:AV}{l q:Nat}:∀{ls:List Nat},l∈ls->lk hs l= .box T c->q∈c.rws->q∈dP hs ls
 |k::r,h,hl,hq=>by
  simp only[dP,List.mem_append];rcases List.mem_cons.1 h with rfl|h;·left;rw[hl];exact I4 hq
  ·exact .inr (Ao h hl hq)
theorem Pw{hs hs':List Ob}(h1:∀l∈v.nms,lk hs' l=lk hs l)(h2:∀l∈v.nms,∀T c,lk hs l= .box T c->∀q∈c.rws,lk hs' q=lk hs q):qV P hs' v=qV P hs v:=by
 cases v with
 |ptr   l path off=>
  have hl:l∈(AV.ptr l path off).nms:=by simp[AV.nms]
  cases path with
  |nil    =>
   cases off with
   |    zero=>
        simp only[qV,h1 l hl];cases hk:lk hs l with
        | box T c=>
          simp only;rw[yV (P:=P) (hs:=hs) (hs':=hs') c (h2 l hl T c hk)]
        |_=>rfl
   |succ _=>rfl
  |cons _ _=>rfl
 |_=>rfl
theorem xJ{hs hs':List Ob}:∀{vs:List AV},(∀l∈AV.nmsL vs,lk hs' l=lk hs l)->(∀l∈AV.nmsL vs,∀T c,lk hs l= .box T c->∀q∈c.rws,lk hs' q=lk hs q)->vs.map (qV P hs')=vs.map (qV P hs)
 | [],_,_=>rfl
 |v::r,h1,h2=>by simp only[List.map_cons];rw[Pw (fun l hl=>h1 l (by simp[AV.nmsL,hl])) (fun l hl=>h2 l (by simp[AV.nmsL,hl])),xJ (vs:=r) (fun l hl=>h1 l (by simp[AV.nmsL,hl])) (fun l hl=>h2 l (by simp[AV.nmsL,hl]))]
theorem aci{hs hs':List Ob}(h1:∀l∈v.nms,lk hs' l=lk hs l)(h2:∀l∈v.nms,∀T c,lk hs l= .box T c->∀q∈c.rws,lk hs' q=lk hs q):Ae P hs' v=Ae P hs v:=by
 cases v with
 |fn f caps=>
  show AV.fn f (caps.map (qV P hs'))=AV.fn f (caps.map (qV P hs));rw[xJ h1 h2]
 |ptr l path off=>exact Pw h1 h2
 |_=>rfl
theorem ZG{b:Bool}{hs:List Ob}:∀l∈(pkA P b hs v).nms,l∈v.nms:=by
 intro l hl;unfold pkA at hl;cases hb:(b&&RU v)
 ·rw[hb,cond_false]at hl;split at hl;·simp[AV.nms]at hl
  ·exact hl
 ·rw[hb,cond_true]at hl;exact hl
theorem Lg{b:Bool}{hs hs':List Ob}(h:∀l∈v.rws,lk hs' l=lk hs l):pkA P b hs' v=pkA P b hs v:=by unfold pkA;rw[yV (hs:=hs) (hs':=hs') v h]
theorem CJ{b:Bool}{hs hs':List Ob}:∀{vs:List AV},(∀l∈AV.rwsL vs,lk hs' l=lk hs l)->(∀l∈AV.nmsL vs,lk hs' l=lk hs l)->(∀l∈AV.nmsL vs,∀T c,lk hs l= .box T c->∀q∈c.rws,lk hs' q=lk hs q)->(vs.map fun v=>Ae P hs' (pkA P b hs' v))=vs.map fun v=>Ae P hs (pkA P b hs v)
 | [],_,_,_=>rfl
 |v::r,h0,h1,h2=>by
  simp only[List.map_cons];rw[Lg (hs:=hs) fun l hl=>h0 l (by simp[AV.rwsL,hl]),aci (fun l hl=>h1 l (by simp[AV.nmsL,ZG l hl])) (fun l hl=>h2 l (by simp[AV.nmsL,ZG l hl])),
   CJ (vs:=r) (fun l hl=>h0 l (by simp[AV.rwsL,hl])) (fun l hl=>h1 l (by simp[AV.nmsL,hl])) (fun l hl=>h2 l (by simp[AV.nmsL,hl]))]
theorem RVsX.map_lend{hs:List Ob}{ts:List AV}{k0:Nat}{K:OkX}{w0 w:World}{a:Act}{β:Nat->Option Value}{vs:List AV}{zs:List Value}(rb:RelB P K w0 n ⟨ts,hs,k0⟩ a w β)(h:RVsX P (fun b=>b<w.heap.size) w β vs zs):RVsX P (fun b=>b<w.heap.size) w β (vs.map (Ae P hs)) zs:=by
 induction h with
 |nil=>exact .nil
 |cons h _ ih=>exact .cons (UR rb h) ih
theorem GH{pty:TypeId->Option TypeId}{hs:List Ob}{l:Nat}{ob:Ob}(h:ab0 P pty hs l=some ob):∃T c PT d,lk hs l= .box T c∧P.underlying PT=some (.pointer T)∧pk P hs c=some (T,d)∧ob= .frz PT [d]:=by
 unfold ab0 at h;split at h
 ·rename_i T c hl;split at h
  ·rename_i PT hPT;split at h
   ·    rename_i T2 hT2;split at h
        ·rename_i T' d hp;obtain⟨hc,h⟩:=aN h;cases h;have e1:=beq_eq (bg hc);have e2:=beq_eq (aO hc);subst e1 e2;exact⟨_,c,PT,d,hl,Au hT2,hp,rfl⟩
        ·cases h
   ·cases h
  ·cases h
 ·cases h
theorem RelB.fzbW{K:OkX}{w0 w:World}{a:Act}{β:Nat->Option Value}{pty:TypeId->Option TypeId}:∀{bs:List Nat}{σ:St},RelB P K w0 n σ a w β->RelB P K w0 n ⟨σ.ts,wrO σ.hs (Am.fzbW P pty σ.hs bs),σ.k0⟩ a w β
 | [],σ,r=>r
 |l::bs,σ,r=>by
  unfold Am.fzbW;split
  ·rename_i ob h1;obtain⟨T,c,PT,d,h2,h3,h4,rfl⟩:=GH h1;exact RelB.fzbW (bs:=bs) (σ:=⟨σ.ts,bG σ.hs l (.frz PT [d]),σ.k0⟩) (r.frzBox h2 h4 h3)
  ·exact RelB.fzbW (bs:=bs) r
theorem aeC{pty:TypeId->Option TypeId}{hs hs':List Ob}{l:Nat}(h1:lk hs' l=lk hs l)(h2:∀T c,lk hs l= .box T c->∀q∈c.rws,lk hs' q=lk hs q):ab0 P pty hs' l=ab0 P pty hs l:=by
 unfold ab0;rw[h1];split
 ·rename_i T c hl;rw[yV (P:=P) (hs:=hs) (hs':=hs') c (h2 T c hl)]
 ·rfl
theorem Lh{pty:TypeId->Option TypeId}:∀{bs:List Nat}{hs hs':List Ob},(∀l∈bs,lk hs' l=lk hs l)->(∀l∈bs,∀T c,lk hs l= .box T c->∀q∈c.rws,lk hs' q=lk hs q)->fzbW P pty hs' bs=fzbW P pty hs bs
 | [],_,_,_,_=>rfl
 |l::bs,hs,hs',h1,h2=>by
  unfold fzbW;rw[aeC (h1 l (by simp)) (h2 l (by simp))];split
  ·rename_i ob hob;obtain⟨T0,c0,PT,d,_,_,_,rfl⟩:=GH hob;rw[Lh (bs:=bs) (hs:=bG hs l (.frz PT [d])) (hs':=bG hs' l (.frz PT [d])) (fun k hk=>?_) (fun k hk T c hkc q hq=>?_)]
   ·    rw[jV,jV];split;·rfl
        ·exact h1 k (by simp[hk])
   ·    rw[jV]at hkc;rw[jV,jV];split;·rfl
        ·split at hkc;·cases hkc
         ·exact h2 k (by simp[hk]) T c hkc q hq
  ·exact Lh (fun k hk=>h1 k (by simp[hk])) (fun k hk=>h2 k (by simp[hk]))
theorem GJ{pty:TypeId->Option TypeId}:∀{bs:List Nat}{hs:List Ob}{l:Nat},lk hs l= .free->lk (wrO hs (fzbW P pty hs bs)) l= .free
 | [],hs,l,h=>h
 |k::r,hs,l,h=>by
  unfold fzbW;split
  ·rename_i ob hob;obtain⟨T0,c0,PT,d,h2,_,_,rfl⟩:=GH hob;simp only[wrO];refine GJ ?_;rw[jV];split;·rename_i e;subst e;rw[h]at h2;cases h2
   ·exact h
  ·exact GJ h
theorem al4{ok:Nat->Prop}{w:World}{β:Nat->Option Value}{hs:List Ob}{z:Value}(hf:Cx P ok w β hs)(hfa:∀l T es,lk hs l= .frz T es->d9 P T=false)(h:RV P ok w β v z):RV P ok w β (pkZ hs v) z:=by
 unfold pkZ;split
 ·rename_i l;split
  ·rename_i T es hl;have h1:=h.2 rfl;obtain⟨z',e,hr⟩:=hf l T es hl;cases h1 with
   |    ptr hβ=>
        rw[hβ]at e;cases e;exact(RV.dat_one (hfa l T es hl)).2 hr
  ·exact h
 ·exact h
theorem RVsX.map_pkZ{b:Bool}{ok:Nat->Prop}{w:World}{β:Nat->Option Value}{hs:List Ob}{vs:List AV}{zs:List Value}(hf:Cx P ok w β hs)(hfa:∀l T es,lk hs l= .frz T es->d9 P T=false)(h:RVsX P ok w β vs zs):RVsX P ok w β (vs.map fun v=>pkZ hs (pkA P b hs v)) zs:=by
 have h2:=h.map_pk (b:=b) hf hfa;generalize hus:vs.map (pkA P b hs)=us at h2;have e:(vs.map fun v=>pkZ hs (pkA P b hs v))=us.map (pkZ hs):=by rw[←hus,List.map_map];rfl
 rw[e];clear e hus h;induction h2 with
 |nil=>exact .nil
 |cons h _ ih=>exact .cons (al4 hf hfa h) ih
theorem Px{l:Nat}:∀{vs:List AV},.ptr l [] 0∈vs->l∈iQ vs
 |u::us,h=>by
  simp only[iQ,List.mem_append];rcases List.mem_cons.1 h with e|h;·subst e;left;simp
  ·exact .inr (Px h)
theorem UU{b:Bool}{hs hs':List Ob}{vs:List AV}(h0:∀l∈AV.rwsL vs,lk hs' l=lk hs l)(h1:∀l∈iQ vs,lk hs' l=lk hs l):(vs.map fun v=>pkZ hs' (pkA P b hs' v))=vs.map fun v=>pkZ hs (pkA P b hs v):=by
 refine List.map_congr_left fun v hv=>?_;rw[Lg (hs:=hs) (hs':=hs') fun l hl=>h0 l (Lf hv hl)];cases v with
 |ptr l p q=>
  have e:pkA P b hs (.ptr l p q)= .ptr l p q:=by unfold pkA;cases b<;>rfl
  rw[e];match p,q with
  | [],0=>simp only[pkZ];rw[h1 l (Px hv)]
  | [],_+1=>rfl
  |_::_,_=>rfl
 |_=>
  unfold pkA;cases b<;>simp only[RU,Bool.and_false,Bool.and_true,cond_false,cond_true]<;>first|rfl|(split<;>rfl)
theorem s_call(hcall:CallOK P call){g:Operand}{xs:Array Operand}{Ts:Array TypeId}(ho:o.op= .call ⟨.value g,xs,Ts⟩)(h:Xy P E call n o σ g xs.toList Ts.toList k=some r):OpS P n o σ k r:=by
 have hg:g∈o.op.operands.toList:=by rw[ho];simp[Op.operands,Call.operands]
 have hxs:∀z∈xs.toList,z∈o.op.operands.toList:=by intro z hz;rw[ho];simp[Op.operands,Call.operands];right;simpa using hz
 unfold Xy at h;split at h
 ·rename_i f caps e1;have hh_:=aN h;clear h;obtain⟨hc,h⟩:=hh_;have hlen:=beq_eq (bg hc);have hcap:=Dp (aO hc);cases how:E.own f with
  |true=>
   rw[how]at h;simp only[cond_true]at h;refine XP hcall ho (fun v hv=>⟨(hcap v hv).1,(hcap v hv).2.2⟩) (XM _ _ _).symm (by omega) (fun l hl=>Pv hl (ng _ _ (by omega))) ?_ h;intro σ' rd ag hin K w0 a w rr hk0;obtain⟨β,rb⟩:=rr;obtain⟨β1,r1,ex1,nb1,ok1⟩:=Le (P:=P) (n:=n) _ σ' K w0 w a β σ.hs.length rb (Sk P (dnL P (E.nd f) 0 (cZ P E.dt σ Ts.toList xs.toList)) σ.hs.length) (fun i h3 h4=>by rw[ag.hs i (hin i h3 h4)];exact ng _ _ h3) (by rw[ag.k0];exact hk0)
   rw[←XM]at r1 ok1;have hk:∀b,okOf K w0 w σ'.hs β b->okOf K w0 w (wrO σ'.hs (ad1 σ.hs.length (AV.n2rL P (dnL P (E.nd f) 0 (cZ P E.dt σ Ts.toList xs.toList)) σ.hs.length).2)) β1 b∧w.heap[b]? =w.heap[b]? :=fun b hb=>⟨ok1 b hb,rfl⟩;have hopds:=(EO (P:=P) (σ:=σ') (D:=E.dt) hlen).rvs rb;rw[Ak ag.ts hxs]at hopds;exact⟨β1,r1,(cK ag hg e1 _ _ _ _ _ _ rb).mono hk ex1,((hopds.mono hk ex1).dn _ 0).n2r _ nb1⟩
  |false    =>
   rw[how]at h;simp only[cond_false]at h
   have    main:∀(L:List Nat),(∀l∈AV.rwsL (cZ P E.dt σ Ts.toList xs.toList),l∈L)->∀σ' rd,Agr o σ σ' (L++rd)->∀(K:OkX)(w0:World)(a:Act)(w:World),Rel P K w0 n σ' a w->∃β1,RelB P K w0 n ⟨σ'.ts,wrO σ'.hs (frzW σ.hs L),σ'.k0⟩ a w β1∧RV P (okOf K w0 w (wrO σ'.hs (frzW σ.hs L)) β1) w β1 (.fn f caps) (a.eval g)∧RVsX P (okOf K w0 w (wrO σ'.hs (frzW σ.hs L)) β1) w β1 ((cZ P E.dt σ Ts.toList xs.toList).map (pkA P (E.raw f) (wrO σ.hs (frzW σ.hs L)))) (xs.toList.map a.eval):=by
    intro L hL σ' rd ag K w0 a w rr;obtain⟨β,rb⟩:=rr;have hagr:∀l∈L,lk σ'.hs l=lk σ.hs l:=fun l hl=>ag.hs l (bB _ hl);have hfw:=kP hagr;obtain⟨β1,r1⟩:=Imp.frzW (P:=P) (n:=n) (σ:=σ') L K w0 a w ⟨β,rb⟩;rw[hfw]at r1;refine⟨β1,r1,?_,?_⟩
    ·    have:=Lc (P:=P) (T:=0) (D:=E.dt) (hs:=wrO σ'.hs (frzW σ.hs L)) (k0:=σ'.k0) ag hg;rw[e1]at this;exact this _ _ _ _ _ _ r1
    ·    have hopds:=(EO (P:=P) (σ:=St.mk σ'.ts (wrO σ'.hs (frzW σ.hs L)) σ'.k0) (D:=E.dt) hlen).rvs r1;rw[Ak (σ:=σ) (σ':=St.mk σ'.ts (wrO σ'.hs (frzW σ.hs L)) σ'.k0) (xs:=o.op.operands.toList) (fun t ht=>ag.ts t ht) hxs]at hopds;have:=hopds.map_pk (b:=E.raw f) r1.frzOK r1.frzAgg;have e3:(cZ P E.dt σ Ts.toList xs.toList).map (pkA P (E.raw f) (wrO σ'.hs (frzW σ.hs L)))=(cZ P E.dt σ Ts.toList xs.toList).map (pkA P (E.raw f) (wrO σ.hs (frzW σ.hs L))):=
           Sl fun l hl=>oU hagr l (hL l hl)
         rw[e3]at this;exact this
   cases hfz:E.fzc f with
   |    true=>
        rw[hfz]at h;simp only[cond_true]at h;rw[←qL]at h;refine XP hcall ho (fun v hv=>⟨(hcap v hv).1,(hcap v hv).2.2⟩) rfl (aj _) (fun l hl=>(by rw[qL];exact GJ (qx (ng _ _ hl)))) (fun σ' rd ag _ K w0 a w rr _=>?_) h;obtain⟨β,rb⟩:=rr;have hagL:∀l∈AV.rwsL (cZ P E.dt σ Ts.toList xs.toList)++dP σ.hs (iQ (cZ P E.dt σ Ts.toList xs.toList)),lk σ'.hs l=lk σ.hs l:=fun l hl=>ag.hs l (bB _ (bB _ hl));have hagB:∀l∈iQ (cZ P E.dt σ Ts.toList xs.toList),lk σ'.hs l=lk σ.hs l:=fun l hl=>ag.hs l (bB _ (List.mem_append_right _ hl));have hfw:=kP hagL;obtain⟨β1,r1⟩:=Imp.frzW (P:=P) (n:=n) (σ:=σ') (AV.rwsL (cZ P E.dt σ Ts.toList xs.toList)++dP σ.hs (iQ (cZ P E.dt σ Ts.toList xs.toList))) K w0 a w ⟨β,rb⟩;rw[hfw]at r1;have hwB:∀l,l∈AV.rwsL (cZ P E.dt σ Ts.toList xs.toList)++dP σ.hs (iQ (cZ P E.dt σ Ts.toList xs.toList))++iQ (cZ P E.dt σ Ts.toList xs.toList)->lk (wrO σ'.hs (frzW σ.hs (AV.rwsL (cZ P E.dt σ Ts.toList xs.toList)++dP σ.hs (iQ (cZ P E.dt σ Ts.toList xs.toList))))) l=lk (wrO σ.hs (frzW σ.hs (AV.rwsL (cZ P E.dt σ Ts.toList xs.toList)++dP σ.hs (iQ (cZ P E.dt σ Ts.toList xs.toList))))) l:=fun l hl=>
          oU (ls:=AV.rwsL (cZ P E.dt σ Ts.toList xs.toList)++dP σ.hs (iQ (cZ P E.dt σ Ts.toList xs.toList))++iQ (cZ P E.dt σ Ts.toList xs.toList)) (fun k hk=>ag.hs k (bB _ hk)) l hl
        have hfb:=Lh (P:=P) (pty:=E.pty) (bs:=iQ (cZ P E.dt σ Ts.toList xs.toList)) (fun l hl=>hwB l (List.mem_append_right _ hl)) (fun l hl T c hk q hq=>hwB q (bB _ (List.mem_append_right _ (Ao hl (yc hk) hq))));have r2:=RelB.fzbW (pty:=E.pty) (bs:=iQ (cZ P E.dt σ Ts.toList xs.toList)) r1;simp only at r2;rw[hfb,←qL]at r2;refine⟨β1,r2,?_,?_⟩
        · have:=Lc (P:=P) (T:=0) (D:=E.dt) (hs:=wrO σ'.hs (frzW σ.hs (AV.rwsL (cZ P E.dt σ Ts.toList xs.toList)++dP σ.hs (iQ (cZ P E.dt σ Ts.toList xs.toList)))++fzbW P E.pty (wrO σ.hs (frzW σ.hs (AV.rwsL (cZ P E.dt σ Ts.toList xs.toList)++dP σ.hs (iQ (cZ P E.dt σ Ts.toList xs.toList))))) (iQ (cZ P E.dt σ Ts.toList xs.toList)))) (k0:=σ'.k0) ag hg;rw[e1]at this;exact this _ _ _ _ _ _ r2
        · have hopds:=(EO (P:=P) (σ:=St.mk σ'.ts (wrO σ'.hs (frzW σ.hs (AV.rwsL (cZ P E.dt σ Ts.toList xs.toList)++dP σ.hs (iQ (cZ P E.dt σ Ts.toList xs.toList)))++fzbW P E.pty (wrO σ.hs (frzW σ.hs (AV.rwsL (cZ P E.dt σ Ts.toList xs.toList)++dP σ.hs (iQ (cZ P E.dt σ Ts.toList xs.toList))))) (iQ (cZ P E.dt σ Ts.toList xs.toList)))) σ'.k0) (D:=E.dt) hlen).rvs r2;rw[Ak (σ:=σ) (σ':=St.mk σ'.ts (wrO σ'.hs (frzW σ.hs (AV.rwsL (cZ P E.dt σ Ts.toList xs.toList)++dP σ.hs (iQ (cZ P E.dt σ Ts.toList xs.toList)))++fzbW P E.pty (wrO σ.hs (frzW σ.hs (AV.rwsL (cZ P E.dt σ Ts.toList xs.toList)++dP σ.hs (iQ (cZ P E.dt σ Ts.toList xs.toList))))) (iQ (cZ P E.dt σ Ts.toList xs.toList)))) σ'.k0) (xs:=o.op.operands.toList) (fun t ht=>ag.ts t ht) hxs]at hopds;have h5:=hopds.map_pkZ (b:=E.raw f) r2.frzOK r2.frzAgg;have hw2:∀l,l∈AV.rwsL (cZ P E.dt σ Ts.toList xs.toList)++dP σ.hs (iQ (cZ P E.dt σ Ts.toList xs.toList))++iQ (cZ P E.dt σ Ts.toList xs.toList)->lk (wrO σ'.hs (frzW σ.hs (AV.rwsL (cZ P E.dt σ Ts.toList xs.toList)++dP σ.hs (iQ (cZ P E.dt σ Ts.toList xs.toList)))++fzbW P E.pty (wrO σ.hs (frzW σ.hs (AV.rwsL (cZ P E.dt σ Ts.toList xs.toList)++dP σ.hs (iQ (cZ P E.dt σ Ts.toList xs.toList))))) (iQ (cZ P E.dt σ Ts.toList xs.toList)))) l=lk (wrO σ.hs (frzW σ.hs (AV.rwsL (cZ P E.dt σ Ts.toList xs.toList)++dP σ.hs (iQ (cZ P E.dt σ Ts.toList xs.toList)))++fzbW P E.pty (wrO σ.hs (frzW σ.hs (AV.rwsL (cZ P E.dt σ Ts.toList xs.toList)++dP σ.hs (iQ (cZ P E.dt σ Ts.toList xs.toList))))) (iQ (cZ P E.dt σ Ts.toList xs.toList)))) l:=fun l hl=>
            oU (ls:=AV.rwsL (cZ P E.dt σ Ts.toList xs.toList)++dP σ.hs (iQ (cZ P E.dt σ Ts.toList xs.toList))++iQ (cZ P E.dt σ Ts.toList xs.toList)) (fun k hk=>ag.hs k (bB _ hk)) l hl
          rw[UU (P:=P) (b:=E.raw f) (fun l hl=>hw2 l (bB _ (bB _ hl))) (fun l hl=>hw2 l (List.mem_append_right _ hl))]at h5;exact h5
   |false=>
   rw[hfz]at h;simp only[cond_false]at h;cases hl:(ad6 P E f&&isNil (AV.nmsL ((cZ P E.dt σ Ts.toList xs.toList).map (pkA P (E.raw f) (wrO σ.hs (frzW σ.hs (AV.rwsL (cZ P E.dt σ Ts.toList xs.toList)))))++caps)))with
   |    true=>
        rw[hl]at h;simp only[cond_true]at h;refine aeB hcall ho (fun v hv=>⟨(hcap v hv).1,(hcap v hv).2.2⟩) (fun σ' ag K w0 a w rr=>?_) h;obtain⟨β1,h1,h2,h3⟩:=main _ (fun l hl=>hl) σ' [] (by rw[List.append_nil];exact ag) K w0 a w rr;exact⟨_,β1,h1,h2.mono (fun b hb=>⟨hb.1,rfl⟩) (Ext.refl _),h3.mono (fun b hb=>⟨hb.1,rfl⟩) (Ext.refl _)⟩
   |    false=>
        rw[hl]at h;simp only[cond_false]at h;have hh_:=aos h;clear h;rcases hh_ with⟨_,h⟩| ⟨_,h⟩
        · refine aeB hcall ho (fun v hv=>?_) (fun σ' ag K w0 a w rr=>?_) h
          · obtain⟨u,hu,rfl⟩:=List.mem_map.1 hv;exact IZ ⟨(hcap u hu).1,(hcap u hu).2.2⟩
          · obtain⟨β1,h1,h2,h3⟩:=main _ (fun l hl=>bB _ hl) σ' _ ag K w0 a w rr;have hagr:∀l∈(AV.rwsL (cZ P E.dt σ Ts.toList xs.toList)++dP σ.hs (AV.nmsL (cZ P E.dt σ Ts.toList xs.toList++caps)))++AV.nmsL (cZ P E.dt σ Ts.toList xs.toList++caps),lk (wrO σ'.hs (frzW σ.hs (AV.rwsL (cZ P E.dt σ Ts.toList xs.toList)++dP σ.hs (AV.nmsL (cZ P E.dt σ Ts.toList xs.toList++caps))))) l=lk (wrO σ.hs (frzW σ.hs (AV.rwsL (cZ P E.dt σ Ts.toList xs.toList)++dP σ.hs (AV.nmsL (cZ P E.dt σ Ts.toList xs.toList++caps))))) l:=fun l hl=>oU ag.hs l hl;have hbox:∀l∈AV.nmsL (cZ P E.dt σ Ts.toList xs.toList++caps),∀T c,lk (wrO σ.hs (frzW σ.hs (AV.rwsL (cZ P E.dt σ Ts.toList xs.toList)++dP σ.hs (AV.nmsL (cZ P E.dt σ Ts.toList xs.toList++caps))))) l= .box T c->∀q∈c.rws,lk (wrO σ'.hs (frzW σ.hs (AV.rwsL (cZ P E.dt σ Ts.toList xs.toList)++dP σ.hs (AV.nmsL (cZ P E.dt σ Ts.toList xs.toList++caps))))) q=lk (wrO σ.hs (frzW σ.hs (AV.rwsL (cZ P E.dt σ Ts.toList xs.toList)++dP σ.hs (AV.nmsL (cZ P E.dt σ Ts.toList xs.toList++caps))))) q:=
             fun l hl T c hk q hq=>hagr q (bB _ (List.mem_append_right _ (Ao hl (yc hk) hq)))
            have hn:∀(us vs:List AV)(l:Nat),l∈AV.nmsL us∨l∈AV.nmsL vs->l∈AV.nmsL (us++vs):=fun us vs l h=>by rw[UO];exact List.mem_append.2 h
            have ea:=CJ (P:=P) (b:=E.raw f) (vs:=cZ P E.dt σ Ts.toList xs.toList) (fun l hl=>hagr l (bB _ (bB _ hl))) (fun l hl=>hagr l (List.mem_append_right _ (hn _ _ l (.inl hl)))) (fun l hl=>hbox l (hn _ _ l (.inl hl)));have ec:=xJ (P:=P) (vs:=caps) (fun l hl=>hagr l (List.mem_append_right _ (hn _ _ l (.inr hl)))) (fun l hl=>hbox l (hn _ _ l (.inr hl)));refine⟨_,β1,h1,?_,?_⟩
            ·rw[←ec];exact UR h1 (h2.mono (fun b hb=>⟨hb.1,rfl⟩) (Ext.refl _))
            ·rw[←ea];have h4:=(h3.mono (ok':=fun b=>b<w.heap.size) (w':=w) (fun b hb=>⟨hb.1,rfl⟩) (Ext.refl _)).map_lend h1;rw[List.map_map]at h4;have e5:((cZ P E.dt σ Ts.toList xs.toList).map fun v=>Ae P (wrO σ'.hs (frzW σ.hs (AV.rwsL (cZ P E.dt σ Ts.toList xs.toList)++dP σ.hs (AV.nmsL (cZ P E.dt σ Ts.toList xs.toList++caps))))) (pkA P (E.raw f) (wrO σ'.hs (frzW σ.hs (AV.rwsL (cZ P E.dt σ Ts.toList xs.toList)++dP σ.hs (AV.nmsL (cZ P E.dt σ Ts.toList xs.toList++caps))))) v))=(cZ P E.dt σ Ts.toList xs.toList).map (Ae P (wrO σ'.hs (frzW σ.hs (AV.rwsL (cZ P E.dt σ Ts.toList xs.toList)++dP σ.hs (AV.nmsL (cZ P E.dt σ Ts.toList xs.toList++caps)))))∘pkA P (E.raw f) (wrO σ.hs (frzW σ.hs (AV.rwsL (cZ P E.dt σ Ts.toList xs.toList)++dP σ.hs (AV.nmsL (cZ P E.dt σ Ts.toList xs.toList++caps)))))):=by refine List.map_congr_left fun v hv=>?_;have:pkA P (E.raw f) (wrO σ'.hs (frzW σ.hs (AV.rwsL (cZ P E.dt σ Ts.toList xs.toList)++dP σ.hs (AV.nmsL (cZ P E.dt σ Ts.toList xs.toList++caps))))) v=pkA P (E.raw f) (wrO σ.hs (frzW σ.hs (AV.rwsL (cZ P E.dt σ Ts.toList xs.toList)++dP σ.hs (AV.nmsL (cZ P E.dt σ Ts.toList xs.toList++caps))))) v:=Lg fun l hl=>hagr l (bB _ (bB _ (Lf hv hl)));show Ae P _ (pkA P _ _ v)=Ae P _ (pkA P _ _ v);rw[this]
             rw[e5];exact h4
        ·exact XP hcall ho (fun v hv=>⟨(hcap v hv).1,(hcap v hv).2.2⟩) rfl (aj _) (fun l hl=>qx (ng _ _ hl)) (fun σ' rd ag _ K w0 a w rr _=>main _ (fun l hl=>hl) σ' rd ag K w0 a w rr) h
 ·cases h
theorem I5(h:Xz v=true):v≠ .dead∧∀us,v≠ .tup us:=by
 constructor;·intro e;subst e;cases h
 ·intro us e;subst e;cases h
theorem ajb(ho:o.op= .makeInterface T x)(h:RX P E n o σ T x k=some r):OpS P n o σ k r:=by unfold RX at h;have hh_:=aN h;clear h;obtain⟨hc,h⟩:=hh_;obtain⟨h1,h2⟩:=I5 (aO hc);exact bZ h fun σ' ag d hd hn=>aeO ho hd hn (bg hc) (qM ag (by rw[ho];simp[Op.operands])) h1 h2
theorem aot(hcall:CallOK P call){g:Operand}{name:String}{xs:Array Operand}{Ts:Array TypeId}(ho:o.op= .call ⟨.invoke g name,xs,Ts⟩)(h:ad7 P E call n o σ g name xs.toList Ts.toList k=some r):OpS P n o σ k r:=by
 have hg:g∈o.op.operands.toList:=by rw[ho];simp[Op.operands,Call.operands]
 have hxs:∀z∈xs.toList,z∈o.op.operands.toList:=by intro z hz;rw[ho];simp[Op.operands,Call.operands];right;simpa using hz
 unfold ad7 at h;split at h
 ·rename_i Tv v e1;split at h
  ·rename_i f hm;have hh_:=aN h;clear h;obtain⟨hc,h⟩:=hh_;have hlen:=beq_eq (bg hc);obtain⟨hv1,hv2⟩:=I5 (bg (aO hc));refine ZE hcall rfl (aj _) (fun l hl=>qx (ng _ _ hl)) (fun σ' rd ag _ K w0 a w rr _=>?_) h;obtain⟨β,rb⟩:=rr;have hagr:∀l∈AV.rwsL (v::cZ P E.dt σ Ts.toList xs.toList),lk σ'.hs l=lk σ.hs l:=fun l hl=>ag.hs l (bB _ hl);have hfw:=kP hagr;obtain⟨β1,r1⟩:=Imp.frzW (P:=P) (n:=n) (σ:=σ') (AV.rwsL (v::cZ P E.dt σ Ts.toList xs.toList)) K w0 a w ⟨β,rb⟩;rw[hfw]at r1;have hrecv:=Lc (P:=P) (T:=0) (D:=E.dt) (hs:=wrO σ'.hs (frzW σ.hs (AV.rwsL (v::cZ P E.dt σ Ts.toList xs.toList)))) (k0:=σ'.k0) ag hg;rw[e1]at hrecv;obtain⟨z,ez,hz⟩:=ajg (hrecv _ _ _ _ _ _ r1) hv2;have hopds:=(EO (P:=P) (σ:=St.mk σ'.ts (wrO σ'.hs (frzW σ.hs (AV.rwsL (v::cZ P E.dt σ Ts.toList xs.toList)))) σ'.k0) (D:=E.dt) hlen).rvs r1;rw[Ak (σ:=σ) (σ':=St.mk σ'.ts (wrO σ'.hs (frzW σ.hs (AV.rwsL (v::cZ P E.dt σ Ts.toList xs.toList)))) σ'.k0) (xs:=o.op.operands.toList) (fun t ht=>ag.ts t ht) hxs]at hopds;have hall:=(RVsX.cons hz hopds).map_pk (b:=E.raw f) r1.frzOK r1.frzAgg;have e3:(v::cZ P E.dt σ Ts.toList xs.toList).map (pkA P (E.raw f) (wrO σ'.hs (frzW σ.hs (AV.rwsL (v::cZ P E.dt σ Ts.toList xs.toList)))))=(v::cZ P E.dt σ Ts.toList xs.toList).map (pkA P (E.raw f) (wrO σ.hs (frzW σ.hs (AV.rwsL (v::cZ P E.dt σ Ts.toList xs.toList))))):=
        Sl fun l hl=>oU hagr l hl
   rw[e3]at hall;exact⟨β1,_,r1,fun hb=>XW (xs:=xs.toList) (by rw[ho]) hb hm a w ez,hall⟩
  ·cases h
 ·cases h
theorem nQ(hcall:CallOK P call)(h:evO P E call n o σ k=some r):OpS P n o σ k r:=by
 unfold evO at h;split at h;·rename_i ho;exact alX ho h
 ·rename_i ho;exact aep ho h
 ·rename_i ho;exact alY ho h
 ·rename_i ho;exact ai0 ho h
 ·rename_i ho;exact aoh ho h
 ·rename_i ho;exact aex ho h
 ·rename_i ho;exact ace ho h
 ·rename_i ho;exact alZ ho h
 ·rename_i ho;exact ai3 ho h
 ·rename_i ho;exact XH ho h
 ·rename_i ho;exact aol ho h
 ·rename_i ho;exact aom ho h
 ·rename_i ho;exact aon ho h
 ·rename_i ho;exact ai4 ho h
 ·rename_i ho;split at h;·rename_i hTe;exact ai9 ho hTe h
  ·exact ab6 ho h
 ·rename_i ho;exact al1 ho h
 ·rename_i ho;exact ai5 ho h
 ·rename_i ho;exact UE ho h
 ·rename_i ho;exact ai6 ho h
 ·rename_i ho;exact aor ho h
 ·rename_i ho;exact UF ho h
 ·rename_i ho;exact aew ho h
 ·rename_i ho;exact ab9 ho h
 ·rename_i ho;exact UH ho h
 ·rename_i ho;exact ai7 ho h
 ·rename_i ho;exact ab7 ho h
 ·rename_i ho;exact XI ho h
 ·rename_i ho;exact s_call hcall ho h
 ·rename_i b xs Ts ho;unfold Pn at h;split at h;·rename_i hx hT;exact aoo ho hx hT h
  ·rename_i hx hT;rcases ai8 h with⟨_,h1⟩| ⟨_,h1⟩;·exact acf ho hx hT h1
   ·exact acd ho hx hT h1
  ·rename_i hx hT;exact aop ho hx hT h
  ·rename_i hx hT;exact aoq ho hx hT h
  ·cases h
 ·rename_i ho;exact ajb ho h
 ·rename_i ho;exact aot hcall ho h
 ·cases h
end
structure StEq (σ σ':St):Prop where
 ts:∀t,tk σ'.ts t=tk σ.ts t
 hs:∀l,lk σ'.hs l=lk σ.hs l
 k0:σ'.k0=σ.k0
structure AgrG (ops:List Oper) (o:Oper) (σ σ':St) (rd:List Nat):Prop where
 ts:∀t∈Oper.reads ops o,tk σ'.ts t=tk σ.ts t
 hs:∀l∈rd,lk σ'.hs l=lk σ.hs l
 k0:σ'.k0=σ.k0
def StepAgr(P:Program)(n:Nat)(ops:List Oper)(o:Oper)(σ:St)(Y:Dl):Prop:=∀σ',AgrG ops o σ σ' Y.rd->StepOK P n ops.toArray o σ' (σ'.app o.dst Y)
inductive Tr (P:Program) (n:Nat) (ops:List Oper):List Oper->St->List (Oper×Dl)->St->Prop where
 |nil {σ:St}:Tr P n ops [] σ [] σ
 |cons {o:Oper} {r:List Oper} {σ τ:St} {Y:Dl} {ds:List (Oper×Dl)} (h:StepAgr P n ops o σ Y) (t:Tr P n ops r (σ.app o.dst Y) ds τ):Tr P n ops (o::r) σ ((o,Y)::ds) τ
 |eq {r:List Oper} {σ σ1 τ:St} {ds:List (Oper×Dl)} (h:StEq σ σ1) (t:Tr P n ops r σ1 ds τ):Tr P n ops r σ ds τ
theorem dG{A:Type}{b:Bool}{x y:Option A}{r:A}(h:(bif b then x else y)=some r):(b=true∧x=some r)∨(b=false∧y=some r):=by
 cases b with
 |true=>exact .inl ⟨rfl,h⟩
 |false=>exact .inr ⟨rfl,h⟩
section
variable{P:Program}{n:Nat}{o:Oper}{σ τ:St}{R:Type}{E:Env}{call:FuncId->List AV->List Ob->(Res->Option R)->Option R}{r:R}{ops:List Oper}
theorem StEq.put{T:TypeId}{b:Bool}{d:Nat}(h:tk σ.ts d= .dat T (.bool b)):StEq σ (σ.put d (.dat T (.bool b))):=
 ⟨fun t=>by
  show tk (xR σ.ts d _) t=_;rw[uS];split;·rename_i e;rw[e,h]
  ·rfl,fun _=>rfl,rfl⟩
theorem StEq.imp(h:StEq σ τ):Imp P n σ τ:=Rel.congr (fun t=> .inr (h.ts t)) h.hs h.k0
theorem acj{v:AV}{T:TypeId}{b:Bool}(h:aek P v=some (some (T,b))):v= .dat T (.bool b)∧P.underlying T=some .bool:=by
 unfold aek at h;split at h;·cases h
 ·split at h;·rename_i hu;cases h;exact⟨rfl,hu⟩
  ·cases h
 ·cases h
theorem aco{v:AV}(h:aek P v=some none):v= .tup []:=by
 unfold aek at h;split at h;·rfl
 ·split at h<;>cases h
 ·cases h
theorem XQ{j d:Nat}(h:gslot ops j=some d):∃oj,ops.toArray[j]? =some oj∧oj.dst=some d:=by
 unfold gslot at h;split at h;·rename_i oj hj;exact⟨oj,by simpa using hj,h⟩
 ·cases h
theorem acp{t:Nat}(h:t∈tmpsOf o.op.operands.toList):t∈Oper.reads ops o:=by unfold Oper.reads;exact List.mem_append_right _ h
theorem UW{j d:Nat}{want:Bool}(hg:o.guard=some (j,want))(h:gslot ops j=some d):d∈Oper.reads ops o:=by unfold Oper.reads;refine bB _ ?_;rw[hg];simp[h]
theorem AgrG.toAgr{σ':St}{rd:List Nat}(h:AgrG ops o σ σ' rd):Agr o σ σ' rd:=⟨fun t ht=>h.ts t (acp ht),h.hs,h.k0⟩
theorem skip_some{k:Dl->Option R}(h:Uy n o k=some r):∃Y,k Y=some r∧Y.rd=[]∧Y.wr=[]∧((∃d,o.dst=some d∧d<n∧Y.v=some (.tup []))∨(o.dst=none∧Y.v=none)):=by
 unfold Uy at h;split at h
 ·rename_i d hd;obtain⟨h1,h2⟩:=aN h;exact⟨_,h2,rfl,rfl,.inl ⟨d,hd,aK h1,rfl⟩⟩
 ·rename_i hd;exact⟨_,h,rfl,rfl,.inr ⟨hd,rfl⟩⟩
theorem Li{Y:Dl}{d:Nat}{v:AV}(σ':St)(hw:Y.wr=[])(hd:o.dst=some d)(hv:Y.v=some v):σ'.app o.dst Y=σ'.put d v:=by unfold St.app;rw[hw,hd,hv];rfl
theorem Lj{Y:Dl}(σ':St)(hw:Y.wr=[])(hv:Y.v=none):σ'.app o.dst Y=σ':=by unfold St.app;rw[hw,hv];cases o.dst<;>rfl
theorem Ap(hcall:CallOK P call):∀{l:List Oper}{σ:St}{tr:List (Oper×Dl)}{k:St->List (Oper×Dl)->Option R},wo P E call n ops l σ tr k=some r->∃ds τ,Tr P n ops l σ ds τ∧k τ (ds.reverse++tr)=some r
 | [],σ,tr,k,h=>⟨[],σ,.nil,by simpa [wo]using h⟩
 |o::l,   σ,tr,k,h=>by
  have fin:∀{σ1:St}{Y:Dl},StEq σ σ1->StepAgr P n ops o σ1 Y->wo P E call n ops l (σ1.app o.dst Y) ((o,Y)::tr) k=some r->∃ds τ,Tr P n ops (o::l) σ ds τ∧k τ (ds.reverse++tr)=some r:=by intro σ1 Y h1 h2 h3;obtain⟨ds,τ,ht,hk⟩:=Ap hcall h3;exact⟨(o,Y)::ds,τ,.eq h1 (.cons h2 ht),by simpa using hk⟩
  have refl:StEq σ σ:=⟨fun _=>rfl,fun _=>rfl,rfl⟩;unfold wo at h;split at h
  ·rename_i hg;obtain⟨Y,hk,hs⟩:=nQ hcall h;exact fin refl (fun σ' ag=> .plain hg (hs σ' ag.toAgr)) hk
  ·rename_i j want hg;split at h
   ·    rename_i d hd;obtain⟨oj,hj,hdj⟩:=XQ hd;have hread:=UW hg hd;split at h
        ·rename_i hv;have hv':=aco hv;obtain⟨Y,hk,hr,hw,hc⟩:=skip_some h;refine fin refl (fun σ' ag=>?_) hk;have ht:tk σ'.ts d= .tup []:=by rw[ag.ts d hread];exact hv'
         rcases hc with⟨d',e1,e2,e3⟩| ⟨e1,e3⟩
         ·rw[Li σ' hw e1 e3];exact .skipU hg hj hdj ht e1 e2
         ·rw[Lj σ' hw e3];exact .skipU' hg hj hdj ht e1
        ·rename_i T b hv;obtain⟨hv',hu⟩:=acj hv;rcases dG h with⟨hb,h1⟩| ⟨hb,h1⟩
         ·subst hb;have heq:StEq σ (σ.put d (.dat T (.bool true))):=StEq.put hv';rcases dG h1 with⟨hw1,h2⟩| ⟨hw1,h2⟩
          ·subst hw1;obtain⟨Y,hk,hs⟩:=nQ hcall h2;exact fin heq (fun σ' ag=> .run hg hj hdj hu (by rw[ag.ts d hread];show tk (xR _ _ _) d=_;rw[uS];simp) rfl (hs σ' ag.toAgr)) hk
          ·subst hw1;obtain⟨Y,hk,hr,hw,hc⟩:=skip_some h2;refine fin heq (fun σ' ag=>?_) hk;have ht:tk σ'.ts d= .dat T (.bool true):=by rw[ag.ts d hread];show tk (xR _ _ _) d=_;rw[uS];simp
           rcases hc with⟨d',e1,e2,e3⟩| ⟨e1,e3⟩
           ·rw[Li σ' hw e1 e3];exact .skip hg hj hdj hu ht rfl e1 e2
           ·rw[Lj σ' hw e3];exact .skip' hg hj hdj hu ht rfl e1
         ·subst hb;have heq:StEq σ (σ.put d (.dat T (.bool false))):=StEq.put hv';rcases dG h1 with⟨hw1,h2⟩| ⟨hw1,h2⟩
          ·subst hw1;obtain⟨Y,hk,hr,hw,hc⟩:=skip_some h2;refine fin heq (fun σ' ag=>?_) hk;have ht:tk σ'.ts d= .dat T (.bool false):=by rw[ag.ts d hread];show tk (xR _ _ _) d=_;rw[uS];simp
           rcases hc with⟨d',e1,e2,e3⟩| ⟨e1,e3⟩
           ·rw[Li σ' hw e1 e3];exact .skip hg hj hdj hu ht rfl e1 e2
           ·rw[Lj σ' hw e3];exact .skip' hg hj hdj hu ht rfl e1
          ·subst hw1;obtain⟨Y,hk,hs⟩:=nQ hcall h2;exact fin heq (fun σ' ag=> .run hg hj hdj hu (by rw[ag.ts d hread];show tk (xR _ _ _) d=_;rw[uS];simp) rfl (hs σ' ag.toAgr)) hk
        ·cases h
   ·cases h
theorem Tr.lw{l:List Oper}{ds:List (Oper×Dl)}(h:Tr P n ops l σ ds τ):LW P n ops.toArray l σ (fun s=>s=τ):=by
 induction h with
 |nil=>exact LW.nil rfl
 |cons h _ ih=>exact LW.cons (h _ ⟨fun _ _=>rfl,fun _ _=>rfl,rfl⟩) ih
 |eq h _ ih=>exact fun ok0 w0 a w r Q hQ=>ih ok0 w0 a w (h.imp ok0 w0 a w r) Q hQ
def qW{A B:Type}(u:B->A->A)(L:Nat->Bool):Nat->List B->A->A
 |_,[],c=>c
 |i,x::r,c=>qW u L (i+1) r (bif L i then u x c else c)
theorem wB{A B:Type}{u:B->A->A}{L L':Nat->Bool}:∀{r:List B}{i:Nat}{c:A},(∀j x,r[j]? =some x->L (i+j)=L' (i+j)∨∀c,u x c=c)->qW u L i r c=qW u L' i r c
 | [],_,_,_=>rfl
 |x::r,i,c,h=>by
  simp only[qW];have h0:=h 0 x rfl;have hr:∀c,qW u L (i+1) r c=qW u L' (i+1) r c:=fun c=>wB fun j y hy=>by
   have:=h (j+1) y (by simpa using hy)
   rwa [show i+1+j=i+(j+1) by omega]
  rcases h0 with e|e;·rw[Nat.add_zero]at e;rw[e];exact hr _
  ·rw[e];cases L i<;>cases L' i<;>exact hr _
theorem Ll{A B:Type}{u:B->A->A}{L:Nat->Bool}:∀{r:List B}{i:Nat}{c:A},(∀j x,r[j]? =some x->L (i+j)=true->∀c,u x c=c)->qW u L i r c=c
 | [],_,_,_=>rfl
 |x::r,i,c,h=>by
  simp only[qW];have h0:=h 0 x rfl;rw[Nat.add_zero]at h0;have:(bif L i then u x c else c)=c:=by
   cases hL:L i with
   |true=>exact h0 hL c
   |false=>rfl
  rw[this];exact Ll fun j y hy hL=>h (j+1) y (by simpa using hy) (by rwa [show i+(j+1)=i+1+j by omega])
theorem Py{L:Nat->Bool}{i j:Nat}(h:j≠i):upL L i j=L j:=by
 unfold upL;cases hb:Nat.beq j i with
 |true=>exact absurd (beq_eq hb) h
 |false=>rfl
theorem aeD{L:Nat->Bool}{i:Nat}:upL L i i=true:=by simp[upL]
theorem Lm{A B:Type}{u:B->A->A}{L:Nat->Bool}:∀{r:List B}{k j:Nat}{x:B}{c:A},r[j]? =some x->L (k+j)=false->((∀c,u x c=c)∨∀j' y,j<j'->r[j']? =some y->L (k+j')=true->∀c,u y c=c)->qW u (upL L (k+j)) k r c=u x (qW u L k r c)
 | [],_,_,_,_,h,_,_=>by simp at h
 |y::r,k,0,x,c,h,hL,hh=>by
  simp only[bf,aH]at h;subst h;simp only[Nat.add_zero]at hL ⊢
  simp only[qW,aeD,cond_true,hL,cond_false];have e1:qW u (upL L k) (k+1) r (u y c)=qW u L (k+1) r (u y c):=wB fun j z hz=> .inl (Py (by omega));rw[e1];rcases hh with hh|hh;·rw[hh,hh]
  ·rw[Ll,Ll]
   ·    intro j z hz hLz;exact hh (j+1) z (by omega) (by simpa using hz) (by rwa [show k+(j+1)=k+1+j by omega])
   ·    intro j z hz hLz;exact hh (j+1) z (by omega) (by simpa using hz) (by rwa [show k+(j+1)=k+1+j by omega])
 |y::r,k,j+1,x,c,h,hL,hh=>by simp only[aZ]at h;simp only[qW];rw[Py (by omega),show k+(j+1)=k+1+j by omega];exact Lm h (by rwa [show k+(j+1)=k+1+j by omega]at hL) (hh.imp id fun hh j' z hj hz hLz=>hh (j'+1) z (by omega) (by simpa using hz) (by rwa [show k+(j'+1)=k+1+j' by omega]))
def uT(t:Nat)(p:Oper×Dl)(c:AV):AV:=match p.1.dst,p.2.v with
 |some d,some v=>if t=d then v else c
 |_,_=>c
def uWl(l:Nat):List (Nat×Ob)->Ob->Ob
 | [],c=>c
 |(k,ob)::r,c=>uWl l r (if l=k then ob else c)
def uH(l:Nat)(p:Oper×Dl)(c:Ob):Ob:=uWl l p.2.wr c
def SL(L:Nat->Bool):Nat->List (Oper×Dl)->St->St
 |_,[],σ=>σ
 |i,p::r,σ=>SL L (i+1) r (bif L i then σ.app p.1.dst p.2 else σ)
theorem GK(t:Nat)(p:Oper×Dl)(σ:St):tk (σ.app p.1.dst p.2).ts t=uT t p (tk σ.ts t):=by
 unfold St.app uT abZ;simp only;split
 ·rename_i d v h1 h2;simp only[h1,h2];rw[uS]
 ·rename_i h1;split;·rename_i d v h2 h3;exact absurd h3 (h1 d v h2)
  ·rfl
theorem akC(l:Nat):∀(ws:List (Nat×Ob))(hs:List Ob),lk (wrO hs ws) l=uWl l ws (lk hs l)
 | [],_=>rfl
 |(k,ob)::r,hs=>by simp only[wrO,uWl];rw[akC l r,jV]
theorem GN(l:Nat)(p:Oper×Dl)(σ:St):lk (σ.app p.1.dst p.2).hs l=uH l p (lk σ.hs l):=akC l _ _
theorem UY(t:Nat)(L:Nat->Bool):∀(r:List (Oper×Dl))(i:Nat)(σ:St),tk (SL L i r σ).ts t=qW (uT t) L i r (tk σ.ts t)
 | [],_,_=>rfl
 |p::r,i,σ=>by
  simp only[SL,qW];rw[UY t L r];cases L i with
  |true=>simp only[cond_true];rw[GK]
  |false=>rfl
theorem UZ(l:Nat)(L:Nat->Bool):∀(r:List (Oper×Dl))(i:Nat)(σ:St),lk (SL L i r σ).hs l=qW (uH l) L i r (lk σ.hs l)
 | [],_,_=>rfl
 |p::r,i,σ=>by
  simp only[SL,qW];rw[UZ l L r];cases L i with
  |true=>simp only[cond_true];rw[GN]
  |false=>rfl
theorem U0(L:Nat->Bool):∀(r:List (Oper×Dl))(i:Nat)(σ:St),(SL L i r σ).k0=σ.k0
 | [],_,_=>rfl
 |p::r,i,σ=>by simp only[SL];rw[U0 L r];cases L i<;>rfl
theorem aeE{t:Nat}{p:Oper×Dl}(h:t∉p.1.dst.toList)(c:AV):uT t p c=c:=by
 unfold uT;split
 ·rename_i d v h1 h2;rw[if_neg];intro e;subst e
  rw[h1]at h;simp at h
 ·rfl
theorem Sm{l:Nat}:∀{ws:List (Nat×Ob)},l∉ws.map (·.1)->∀c,uWl l ws c=c
 | [],_,_=>rfl
 |(k,ob)::r,h,c=>by simp only[List.map_cons,List.mem_cons,not_or]at h;simp only[uWl];rw[if_neg h.1];exact Sm h.2 c
theorem yg{a b:List Nat}(h:ab2 a b=true){x:Nat}(hx:x∈a):x∉b:=by unfold ab2 at h;have:=List.all_eq_true.1 h x hx;exact Aq (by simpa using this)
def al5(ops:List Oper)(all:List (Oper×Dl)):Prop:=∀i j p q,i<j->all[i]? =some p->all[j]? =some q->(∀L:Nat->Bool,Closed ops.toArray L->DepsL L q.1.after.toList->L i=true)∨indep ops p q=true
def aeF(ops:List Oper)(ancs:List Nat):Prop:=∀(j m:Nat),ancs[j]? =some m->∃oj:Oper,ops[j]? =some oj∧∀i:Nat,m.testBit i=true->∀L:Nat->Bool,Closed ops.toArray L->DepsL L oj.after.toList->L i=true
theorem wC{ancs:List Nat}(ha:aeF ops ancs):∀{es:List Edge}{i:Nat},(EM ancs es).testBit i=true->∀L:Nat->Bool,Closed ops.toArray L->DepsL L es->L i=true
 | [],i,h,L,_,_=>by simp[EM]at h
 |e::r,i,h,L,hc,hd=>by
  unfold EM at h;cases hb:Region.binds .any e with
  |false=>
   rw[hb]at h;exact wC ha (by simpa using h) L hc hd.2
  |true=>
   rw[hb]at h;have hLe:=hd.1 hb;have h':Nat.testBit ((2^e.on|||ancs.getD e.on 0)|||EM ancs r) i=true:=h;rw[Nat.testBit_or,Nat.testBit_or,Bool.or_eq_true,Bool.or_eq_true]at h';rcases h' with (h1|h1)|h1
   ·    rw[Nat.testBit_two_pow]at h1;have:e.on=i:=by simpa using h1
        subst this;exact hLe
   ·    cases hg:ancs[e.on]? with
        |none=>simp[List.getD,hg]at h1
        |some m=>
         obtain⟨oj,h2,h3⟩:=ha e.on m hg;have h4:m.testBit i=true:=by simpa [List.getD,hg]using h1
         exact h3 i h4 L hc (hc e.on oj (by simpa using h2) hLe)
   ·exact wC ha h1 L hc hd.2
theorem Pz{q:Oper×Dl}{m:Nat}:∀{pre:List (Oper×Dl)}{k:Nat},Ux ops q m k pre=true->∀i p,pre[i]? =some p->m.testBit (k+i)=true∨indep ops p q=true
 | [],_,_,i,p,h=>by simp at h
 |x::r,k,h,0,p,hp=>by simp only[bf,aH]at hp;subst hp;simp only[Ux]at h;have:=bg h;rw[Bool.or_eq_true]at this;exact this
 |x::r,k,h,i+1,p,hp=>by
  simp only[aZ]at hp;simp only[Ux]at h;have:=Pz (aO h) i p hp
  rwa [show k+1+i=k+(i+1) by omega]at this
theorem ER:∀{rest pre:List (Oper×Dl)}{ancs:List Nat},Gz ops pre ancs rest=true->aeF ops ancs->ancs.length=pre.length->(pre++rest).map (·.1)=ops->∀i j p q,i<j->pre.length<=j->(pre++rest)[i]? =some p->(pre++rest)[j]? =some q->(∀L:Nat->Bool,Closed ops.toArray L->DepsL L q.1.after.toList->L i=true)∨indep ops p q=true
 | [],pre,ancs,_,_,_,_,i,j,p,q,_,hj,_,hq=>by rw[List.append_nil]at hq;rw[List.getElem?_eq_none hj]at hq;cases hq
 | x::rest,pre,ancs,h,ha,hl,hm,i,j,p,q,hij,hj,hp,hq=>by
   simp only[Gz]at h;by_cases hje:j=pre.length
   ·subst hje;rw[List.getElem?_append_right (aj _),Nat.sub_self]at hq;simp only[bf,aH]at hq;subst hq;rw[List.getElem?_append_left hij]at hp;rcases Pz (bg h) i p hp with h1|h1
    ·   rw[Nat.zero_add]at h1;exact .inl fun L hc hd=>wC ha h1 L hc hd
    ·exact .inr h1
   ·have hx:ops[pre.length]? =some x.1:=by rw[←hm,List.getElem?_map,List.getElem?_append_right (aj _),Nat.sub_self];rfl
    have ha':aeF ops (ancs++[EM ancs x.1.after.toList]):=by
        intro k m hk;by_cases hkl:k<ancs.length
        ·rw[List.getElem?_append_left hkl]at hk;exact ha k m hk
        ·rw[List.getElem?_append_right (by omega)]at hk;have hk0:k=pre.length:=by have:=(au.1 hk).1;simp at this;omega
         subst hk0;rw[show pre.length-ancs.length=0 by omega]at hk;simp only[bf,aH]at hk;subst hk;exact⟨x.1,hx,fun i hi L hc hd=>wC ha hi L hc hd⟩
    have e:pre++x::rest=(pre++[x])++rest:=by simp
    rw[e]at hp hq hm;exact ER (aO h) ha' (by simp[hl]) hm i j p q hij (by simp;omega) hp hq
theorem Tr.len{l:List Oper}{ds:List (Oper×Dl)}(h:Tr P n ops l σ ds τ):ds.map (·.1)=l:=by
 induction h with
 |nil=>rfl
 |cons _ _ ih=>simp[ih]
 |eq _ _ ih=>exact ih
theorem Tr.fin{l:List Oper}{ds:List (Oper×Dl)}(h:Tr P n ops l σ ds τ)(L:Nat->Bool):∀k,(∀j,j<ds.length->L (k+j)=true)->∀σ0,StEq σ0 σ->StEq (SL L k ds σ0) τ:=by
 induction h with
 |nil=>intro k _ σ0 h0;exact h0
 | @cons o r σ τ Y ds _ _ ih=>
   intro k hL σ0 h0;simp only[SL];have:=hL 0 (by simp);rw[Nat.add_zero]at this;rw[this,cond_true];refine ih (k+1) (fun j hj=>by have:=hL (j+1) (by simp;omega);rwa [show k+1+j=k+(j+1) by omega]) _ ?_;exact⟨fun t=>by rw[GK t (o,Y),GK t (o,Y),h0.ts],fun l=>by rw[GN l (o,Y),GN l (o,Y),h0.hs],h0.k0⟩
 | eq h _ ih=>
   intro k hL σ0 h0;exact ih k hL σ0 ⟨fun t=>(h.ts t).trans (h0.ts t),fun l=>(h.hs l).trans (h0.hs l),h.k0.trans h0.k0⟩
theorem Tr.step{l:List Oper}{ds:List (Oper×Dl)}(h:Tr P n ops l σ ds τ):∀(k j:Nat)(p:Oper×Dl)(σ0:St),StEq σ0 σ->ds[j]? =some p->∃σ1,StepAgr P n ops p.1 σ1 p.2∧StEq (SL (fun i=>decide (i<k+j)) k ds σ0) σ1:=by
 induction h with
 |nil=>intro k j p σ0 _ hp;simp at hp
 | @cons o r σ τ Y ds hs _ ih=>
   intro k j p σ0 h0 hp;cases j with
   |zero=>
    simp only[bf,aH]at hp;subst hp;refine⟨σ,hs,?_⟩;have hno:∀(r:List (Oper×Dl))(i:Nat)(s:St),k<=i->SL (fun i=>decide (i<k+0)) i r s=s:=by
        intro r;induction r with
        |nil=>intro i s _;rfl
        |cons p r ih=>intro i s hi;simp only[SL];rw[show decide (i<k+0)=false by simp;omega];exact ih (i+1) s (by omega)
    rw[hno _ k σ0 (aj _)];exact h0
   |succ j=>
    simp only[aZ]at hp;simp only[SL];rw[show decide (k<k+(j+1))=true by simp,cond_true,show k+(j+1)=k+1+j by omega];exact ih (k+1) j p _ ⟨fun t=>by rw[GK t (o,Y),GK t (o,Y),h0.ts],fun l=>by rw[GN l (o,Y),GN l (o,Y),h0.hs],h0.k0⟩ hp
 | eq h _ ih=>
   intro k j p σ0 h0 hp;exact ih k j p σ0 ⟨fun t=>(h.ts t).trans (h0.ts t),fun l=>(h.hs l).trans (h0.hs l),h.k0.trans h0.k0⟩ hp
theorem PD{ds:List (Oper×Dl)}(hm:ds.map (·.1)=ops)(S:(Nat->Bool)->St):∀(l:List Oper)(k:Nat),ops.drop k=l->
  (∀i p,k<=i->ds[i]? =some p->∀L:Nat->Bool,L i=false->DepsL L p.1.after.toList->Closed ops.toArray L->∃σ',StepOK P n ops.toArray p.1 (S L) σ'∧Imp P n σ' (S (upL L i)))->DrawL P n ops.toArray S k l
 | [],_,_,_=> .nil
 |o::l,k,hd,h=>by
  have hk:k<ops.length:=by
   rcases Nat.lt_or_ge k ops.length with h1|h1;·exact h1
   ·rw[List.drop_eq_nil_of_le h1]at hd;cases hd
  rw[aG hk]at hd;obtain⟨e1,e2⟩:=List.cons.inj hd;have hkd:k<ds.length:=by rw[←List.length_map (f:=(·.1)),hm];exact hk
  have hp:ds[k]? =some ds[k]:=aA hkd;have ho:ds[k].1=o:=by
   rw[←e1];have:(ds.map (·.1))[k]? =ops[k]? :=by rw[hm]
   rw[List.getElem?_map,hp,aA hk]at this;simpa using this
  refine .cons (fun L h1 h2 h3=>?_) (PD hm S l (k+1) e2 fun i p hi=>h i p (by omega));have:=h k ds[k] (aj _) hp L h1 (by rw[ho];exact h2) h3;rw[ho]at this;exact this
theorem Lp(hmix:P.follows .mixedOrders=true){id:Nat}{ds:List (Oper×Dl)}{Ψ:Exit->St->Prop}(h:Tr P n ops ops σ ds τ)(hb:tO 0 ops=true)(hg:Gz ops [] [] ds=true)(hp:∀τ',StEq τ τ'->Ψ .normal τ'):CW P n (.region id ops.toArray true) σ Ψ:=by
 have hm:=h.len;have hpairs:al5 ops ds:=fun i j p q hij h1 h2=>ER (pre:=[]) hg (fun j m hj=>by simp at hj) rfl (by simpa using hm) i j p q hij (aI _) (by simpa using h1) (by simpa using h2);have hlen:ds.length=ops.length:=by rw[←hm];simp
 have refl:StEq σ σ:=⟨fun _=>rfl,fun _=>rfl,rfl⟩;refine CW.draw (fun L=>SL L 0 ds σ) hmix hb ?_ ?_ ?_
 ·have:∀(r:List (Oper×Dl))(i:Nat)(s:St),SL (fun _=>false) i r s=s:=by
   intro r;induction r with
   |nil=>intro i s;rfl
   |cons p r ih=>intro i s;simp only[SL,cond_false];exact ih (i+1) s
  rw[this];exact Imp.refl
 ·refine PD hm _ ops 0 (by simp) fun i p _ hpi L hLi hdep hcl=>?_;obtain⟨σ1,hstep,heq⟩:=h.step 0 i p σ refl hpi;rw[Nat.zero_add]at heq;have hmem:∀j q,ds[j]? =some q->L j=true->DepsL L q.1.after.toList:=fun j q hq hLj=>by
   have:ops[j]? =some q.1:=by rw[←hm,List.getElem?_map,hq];rfl
   exact hcl j q.1 (by simpa using this) hLj
  have hdiff:∀j q,ds[j]? =some q->L j≠decide (j<i)->(j<i∧indep ops q p=true)∨(i<j∧indep ops p q=true):=by
   intro j q hq hne;rcases Nat.lt_trichotomy j i with hlt|heq2|hgt
   ·    left;refine⟨hlt,?_⟩;rcases hpairs j i q p hlt hq hpi with h1|h1
        ·exfalso;rw[h1 L hcl hdep]at hne;simp[hlt]at hne
        ·exact h1
   ·    subst heq2;rw[hLi]at hne;simp at hne
   ·    right;refine⟨hgt,?_⟩;have hLj:L j=true:=by
         cases hL:L j with
         |true=>rfl
         |false=>rw[hL]at hne;simp at hne;omega
        rcases hpairs i j p q hgt hpi hq with h1|h1
        ·exfalso;rw[h1 L hcl (hmem j q hq hLj)]at hLi;cases hLi
        ·exact h1
  have hagr:AgrG ops p.1 σ1 (SL L 0 ds σ) p.2.rd:=by
   refine⟨fun t ht=>?_,fun l hl=>?_,?_⟩
   ·    rw[heq.ts t,UY,UY];refine wB fun j q hq=>?_;rw[Nat.zero_add];by_cases hne:L j=decide (j<i);·exact .inl hne
        ·right;refine fun c=>aeE (fun htq=>?_) c;rcases hdiff j q hq hne with⟨_,h1⟩| ⟨_,h1⟩;·exact yg (bg h1) htq (List.mem_append_right _ ht)
         ·exact yg (bg (aO h1)) htq ht
   ·    rw[heq.hs l,UZ,UZ];refine wB fun j q hq=>?_;rw[Nat.zero_add];by_cases hne:L j=decide (j<i);·exact .inl hne
        ·right;refine fun c=>Sm (fun htq=>?_) c;rcases hdiff j q hq hne with⟨_,h1⟩| ⟨_,h1⟩;·exact yg (bg (aO (aO h1))) htq (bB _ hl)
         ·exact yg (aO (aO (aO h1))) htq hl
   ·rw[heq.k0,U0,U0]
  refine⟨_,hstep _ hagr,?_⟩;have hlater:∀j q,i<j->ds[j]? =some q->L j=true->indep ops p q=true:=by
   intro j q hij hq hLj;rcases hpairs i j p q hij hpi hq with h1|h1
   ·    exfalso;rw[h1 L hcl (hmem j q hq hLj)]at hLi;cases hLi
   ·exact h1
  refine StEq.imp ⟨fun t=>?_,fun l=>?_,?_⟩
  ·rw[   GK t p,UY,UY];have:=Lm (u:=uT t) (L:=L) (k:=0) (c:=tk σ.ts t) hpi (by rw[Nat.zero_add];exact hLi) (by
        by_cases ht:t∈p.1.dst.toList
        ·right;intro j q hij hq hLj c;rw[Nat.zero_add]at hLj;refine aeE (fun htq=>?_) c;exact yg (bg (hlater j q hij hq hLj)) ht (bB _ htq)
        ·exact .inl fun c=>aeE ht c)
   rwa [Nat.zero_add]at this
  ·rw[   GN l p,UZ,UZ];have:=Lm (u:=uH l) (L:=L) (k:=0) (c:=lk σ.hs l) hpi (by rw[Nat.zero_add];exact hLi) (by
        by_cases ht:l∈p.2.wr.map (·.1)
        ·right;intro j q hij hq hLj c;rw[Nat.zero_add]at hLj;refine Sm (fun htq=>?_) c;exact yg (bg (aO (aO (hlater j q hij hq hLj)))) ht (List.mem_append_right _ htq)
        ·exact .inl fun c=>Sm ht c)
   rwa [Nat.zero_add]at this
  ·rw[U0,alW,U0]
 ·intro L hL;have:=h.fin L 0 (fun j hj=>by rw[Nat.zero_add];exact hL j (by omega)) σ refl;exact hp _ ⟨fun t=>(this.ts t).symm,fun l=>(this.hs l).symm,this.k0.symm⟩
end
section
variable{P:Program}{n:Nat}{c c1 c2:Code}{σ τ:St}{Ψ Ψ':Exit->St->Prop}{o:Oper}
inductive DrawI (P:Program) (n:Nat) (ops:Array Oper) (I:(Nat->Bool)->St->Prop):Nat->List Oper->Prop where
 |nil {i:Nat}:DrawI P n ops I i []
 |cons {i:Nat} {o:Oper} {r:List Oper} (h:∀(L:Nat->Bool)(σ:St),I L σ->L i=false->DepsL L o.after.toList->Closed ops L->∃σ',StepOK P n ops o σ σ'∧I (upL L i) σ') (hr:DrawI P n ops I (i+1) r):DrawI P n ops I i (o::r)
theorem DrawI.get{ops:Array Oper}{I:(Nat->Bool)->St->Prop}{k:Nat}{l:List Oper}(h:DrawI P n ops I k l):∀(j:Nat)(o:Oper),l[j]? =some o->∀(L:Nat->Bool)(σ:St),I L σ->L (k+j)=false->DepsL L o.after.toList->Closed ops L->∃σ',StepOK P n ops o σ σ'∧I (upL L (k+j)) σ':=by
 induction h with
 |nil=>intro j o h;simp at h
 | @cons i o r h _ ih=>
   intro j o' hj;cases j with
   |zero=>simp only[bf,aH]at hj;subst hj;exact h
   |succ j=>
    simp only[aZ]at hj;have:=ih j o' hj;rw[show i+1+j=i+(j+1) by omega]at this;exact this
theorem acr{l:List Oper}{I:(Nat->Bool)->St->Prop}(hback:tO 0 l=true)(hd:DrawI P n l.toArray I 0 l){ok0:OkX}{w0:World}{Q:Exit->Act->World->Prop}
  (hfin:∀(L:Nat->Bool)(σ:St),I L σ->(∀i,i<l.length->L i=true)->∀a w,Rel P ok0 w0 n σ a w->Q .normal a w):
  ∀(fuel:Nat)(listed:Array Bool)(σ:St)(a:Act)(w:World),I (fun j=>listed.getD j false) σ->listed.size=l.length->listed.toList.count false<=fuel->Closed l.toArray (fun j=>listed.getD j false)->Rel P ok0 w0 n σ a w->wpAny P .any l.toArray Q fuel listed a w:=by
 have hall :∀listed:Array Bool,listed.size=l.length->Region.ready .any l.toArray listed=[]->∀i,i<l.length->listed.getD i false=true:=by
  intro listed hsz hr;intro i;induction i using Nat.strongRecOn with
  |_    i ih=>
   intro hi;cases hc:listed.getD i false with
   |true=>rfl
   |    false=>
        exfalso;have hne:i∈Region.ready .any l.toArray listed:=by
          refine mem_ready.2 ⟨by simpa using hi,?_,l[i],by simp[hi],fun e he hb=>?_⟩
          ·have hlt:i<listed.size:=by omega
           simp only[Array.getD,hlt,dif_pos]at hc ⊢
           exact hc
          ·have:=C8 hback i l[i] (by simp[hi]) e he hb;exact ih e.on (by omega) (by omega)
        rw[hr]at hne;simp at hne
 intro fuel;induction fuel with
 |zero=>
  intro listed σ a w hI hsz hcnt hcl r;have hnil:Region.ready .any l.toArray listed=[]:=by
   rw[List.eq_nil_iff_forall_not_mem];intro i hi;obtain⟨h1,h2,_⟩:=mem_ready.1 hi;have hlt:i<listed.size:=by rw[hsz];simpa using h1
   have h3:listed[i]=false:=by simpa [Array.getD,hlt]using h2
   have h4:List.count false listed.toList=0:=by omega
   rw[List.count_eq_zero]at h4;exact h4 (by rw[←h3];simp)
  exact⟨hnil,hfin _ σ hI (hall listed hsz hnil) a w r⟩
 |succ fuel ih=>
  intro listed σ a w hI hsz hcnt hcl r;refine⟨fun hnil=>hfin _ σ hI (hall listed hsz hnil) a w r,fun i hi=>?_⟩;obtain⟨h1,h2,o,ho,h3⟩:=mem_ready.1 hi;have hil:i<l.length:=by simpa using h1
  have hlt:i<listed.size:=by omega
  have hLi:listed.getD i false=false:=by
   have h2':listed[i]=false:=by simpa [Array.getD,hlt]using h2
   simp[Array.getD,hlt,h2']
  have ho':l[i]? =some o:=by simpa using ho
  obtain⟨σ',hstep,himp⟩:=hd.get i o ho' (fun j=>listed.getD j false) σ hI (by rw[Nat.zero_add];exact hLi) (DepsL.of h3) hcl;rw[Nat.zero_add]at himp;have hL:(fun j=>(listed.setIfInBounds i true).getD j false)=upL (fun j=>listed.getD j false) i:=by
   funext j;rw[Ky _ _ _ _ _ hlt];simp only[upL];by_cases hj:j=i;·subst hj;simp
   ·    have:Nat.beq j i=false:=by
          cases hb:Nat.beq j i with
          |true=>exact absurd (aU hb) hj
          |false=>rfl
        rw[if_neg hj,this];rfl
  have hcl':Closed l.toArray (fun j=>(listed.setIfInBounds i true).getD j false):=by
   rw[hL];intro j oj hoj hLj;simp only[upL]at hLj;refine DepsL.of fun e he hb=>?_;have hold:listed.getD e.on false=true:=by
        cases hb2:Nat.beq j i with
        | true=>
          have:=aU hb2;subst this;have:oj=o:=by rw[ho]at hoj;cases hoj;rfl
          subst this;exact h3 e he hb
        | false=>
          rw[hb2]at hLj;exact(hcl j oj hoj hLj).mem e he hb
   simp only[upL];cases Nat.beq e.on i with
   |true=>rfl
   |false=>exact hold
  have hcnt':(listed.setIfInBounds i true).toList.count false<=fuel:=by
   have h5:listed.toList[i]? =some false:=by
        have h2':listed[i]=false:=by simpa [Array.getD,hlt]using h2
        simp[hlt,h2']
   have h6:(listed.setIfInBounds i true).toList=listed.toList.set i true:=by simp
   rw[h6];have h7:=List.count_set (a:=true) (b:=false) (l:=listed.toList) (i:=i) (by simpa using hlt);have h8:listed.toList[i]'(by simpa using hlt)=false:=by have:=au.1 h5;exact this.2
   have hpos:0<listed.toList.count false:=List.count_pos_iff.2 (aV h5);rw[h7,h8];show (List.count false listed.toList-1)+0<=fuel;omega
  have hK:=fun a' w'(r':Rel P ok0 w0 n σ' a' w')=>ih (listed.setIfInBounds i true) σ' a' w' (by rw[hL];exact himp) (by simpa using hsz) hcnt' hcl' r';have:=hstep ok0 w0 a w r _ Q hK;unfold wpOp;rw[ho];simp only;split;·rename_i hw;rw[if_pos hw]at this;exact .inl this
  ·rename_i hw;rw[if_neg hw]at this;exact this
theorem CW.drawI{id:Nat}{l:List Oper}(I:(Nat->Bool)->St->Prop)(hm:P.follows .mixedOrders=true)(hback:tO 0 l=true)(h0:I (fun _=>false) σ)(hd:DrawI P n l.toArray I 0 l)
  (hfin:∀(L:Nat->Bool)(τ:St),I L τ->(∀i,i<l.length->L i=true)->Ψ .normal τ):CW P n (.region id l.toArray true) σ Ψ:=fun ok0 w0 a w r Q hQ=>by
 refine wp_region_any hm ?_;have hrep:∀j,(Array.replicate l.toArray.size false).getD j false=false:=by
  intro j;simp only[Array.getD];split;·simp
  ·rfl
 have hf:(fun j=>(Array.replicate l.toArray.size false).getD j false)=fun _=>false:=funext hrep;refine acr hback hd (fun L τ hI hL a' w' r'=>hQ _ _ _ _ (hfin L τ hI hL) r') _ _ σ a _ ?_ (by simp) ?_ ?_ r.drew;·rw[hf];exact h0
 ·refine Nat.le_trans (List.count_le_length) (by simp)
 ·rw[hf];intro j oj _ hc;cases hc
theorem wD{o:Oper}{j:Nat}{L:Nat->Bool}(h:bnd o j=true)(hd:DepsL L o.after.toList):L j=true:=by unfold bnd at h;obtain⟨e,he,h1⟩:=List.any_eq_true.1 h;obtain⟨h2,h3⟩:=aM _ _▸h1;have:=hd.mem e he h2;rw[aU h3]at this;exact this
def chI(σ σ0 σ1 σ2 σ12 σ21 σA σB:St)(L:Nat->Bool)(τ:St):Prop:=
 (L 0=false->τ=σ)∧(L 0=true->L 1=false->L 2=false->τ=σ0)∧(L 1=true->L 2=false->τ=σ1)∧(L 1=false->L 2=true->τ=σ2)∧(L 1=true->L 2=true->L 3=false->τ=σ12∨τ=σ21)∧(L 3=true->τ=σA∨τ=σB)
theorem Sn(hm:P.follows .mixedOrders=true){id:Nat}{o0 o1 o2 o3:Oper}{σ0 σ1 σ2 σ12 σ21 σA σB:St}(hc:aiY o0 o1 o2 o3=true)
  (s0:StepOK P n #[o0,o1,o2,o3] o0 σ σ0)(s1:StepOK P n #[o0,o1,o2,o3] o1 σ0 σ1)(s12:StepOK P n #[o0,o1,o2,o3] o2 σ1 σ12)(s3:StepOK P n #[o0,o1,o2,o3] o3 σ12 σA)
  (s2:StepOK P n #[o0,o1,o2,o3] o2 σ0 σ2)(s21:StepOK P n #[o0,o1,o2,o3] o1 σ2 σ21)(s3':StepOK P n #[o0,o1,o2,o3] o3 σ21 σB)(hA:Ψ .normal σA)(hB:Ψ .normal σB):CW P n (.region id #[o0,o1,o2,o3] true) σ Ψ:=by
 unfold aiY at hc;simp only[aM]at hc;obtain⟨⟨⟨⟨hb,c1⟩,c2⟩,c31⟩,c32⟩:=hc;have key:∀L:Nat->Bool,Closed #[o0,o1,o2,o3] L->(L 1=true->L 0=true)∧(L 2=true->L 0=true)∧(L 3=true->L 1=true∧L 2=true):=fun L h=>
  ⟨fun h1=>wD c1 (h 1 o1 rfl h1),fun h2=>wD c2 (h 2 o2 rfl h2),fun h3=>⟨wD c31 (h 3 o3 rfl h3),wD c32 (h 3 o3 rfl h3)⟩⟩
 refine CW.drawI (l:=[o0,o1,o2,o3]) (chI σ σ0 σ1 σ2 σ12 σ21 σA σB) hm hb ⟨fun _=>rfl,fun h=>(by cases h),fun h=>(by cases h),fun _ h=>(by cases h),fun h=>(by cases h),fun h=>(by cases h)⟩ ?_ ?_
 ·refine .cons (fun L τ hI h0 hd hcl=>?_) (.cons (fun L τ hI h1 hd hcl=>?_) (.cons (fun L τ hI h2 hd hcl=>?_) (.cons (fun L τ hI h3 hd hcl=>?_) .nil)))
  ·obtain⟨k1,k2,k3⟩:=key L hcl;obtain rfl:=hI.1 h0;have n1:L 1=false:=by cases h:L 1 with|false=>rfl|true=>rw[k1 h]at h0;cases h0
   have n2:L 2=false:=by cases h:L 2 with|false=>rfl|true=>rw[k2 h]at h0;cases h0
   have n3:L 3=false:=by cases h:L 3 with|false=>rfl|true=>rw[(k3 h).1]at n1;cases n1
   refine⟨σ0,s0,fun h=>(by cases h),fun _ _ _=>rfl,fun h=>?_,fun _ h=>?_,fun h=>?_,fun h=>?_⟩;·have h:L 1=true:=h;rw[n1]at h;cases h
   ·have h:L 2=true:=h;rw[n2]at h;cases h
   ·have h:L 1=true:=h;rw[n1]at h;cases h
   ·have h:L 3=true:=h;rw[n3]at h;cases h
  ·obtain⟨k1,k2,k3⟩:=key L hcl;have h0:L 0=true:=wD c1 hd;have n3:L 3=false:=by cases h:L 3 with|false=>rfl|true=>rw[(k3 h).1]at h1;cases h1
   cases h2:L 2 with
   |    false=>
        obtain rfl:=hI.2.1 h0 h1 h2;refine⟨σ1,s1,fun h=>?_,fun _ h=>(by cases h),fun _ _=>rfl,fun h=>(by cases h),fun _ h=>?_,fun h=>?_⟩;·have h:L 0=false:=h;rw[h0]at h;cases h
        ·have h:L 2=true:=h;rw[h2]at h;cases h
        ·have h:L 3=true:=h;rw[n3]at h;cases h
   |    true=>
        obtain rfl:=hI.2.2.2.1 h1 h2;refine⟨σ21,s21,fun h=>?_,fun _ h=>(by cases h),fun _ h=>?_,fun h=>(by cases h),fun _ _ _=> .inr rfl,fun h=>?_⟩;·have h:L 0=false:=h;rw[h0]at h;cases h
        ·have h:L 2=false:=h;rw[h2]at h;cases h
        ·have h:L 3=true:=h;rw[n3]at h;cases h
  ·obtain⟨k1,k2,k3⟩:=key L hcl;have h0:L 0=true:=wD c2 hd;have n3:L 3=false:=by cases h:L 3 with|false=>rfl|true=>rw[(k3 h).2]at h2;cases h2
   cases h1:L 1 with
   |    false=>
        obtain rfl:=hI.2.1 h0 h1 h2;refine⟨σ2,s2,fun h=>?_,fun _ _ h=>(by cases h),fun h=>?_,fun _ _=>rfl,fun h=>?_,fun h=>?_⟩;·have h:L 0=false:=h;rw[h0]at h;cases h
        ·have h:L 1=true:=h;rw[h1]at h;cases h
        ·have h:L 1=true:=h;rw[h1]at h;cases h
        ·have h:L 3=true:=h;rw[n3]at h;cases h
   |    true=>
        obtain rfl:=hI.2.2.1 h1 h2;refine⟨σ12,s12,fun h=>?_,fun _ _ h=>(by cases h),fun _ h=>(by cases h),fun h=>?_,fun _ _ _=> .inl rfl,fun h=>?_⟩;·have h:L 0=false:=h;rw[h0]at h;cases h
        ·have h:L 1=false:=h;rw[h1]at h;cases h
        ·have h:L 3=true:=h;rw[n3]at h;cases h
  ·have h1:L 1=true:=wD c31 hd;have h2:L 2=true:=wD c32 hd;obtain⟨k1,k2,k3⟩:=key L hcl;have h0:=k1 h1;have fin:∀τ',(τ'=σA∨τ'=σB)->chI σ σ0 σ1 σ2 σ12 σ21 σA σB (upL L 3) τ':=fun τ' ht=>by
        refine⟨fun h=>?_,fun _ h=>?_,fun _ h=>?_,fun h=>?_,fun _ _ h=>(by cases h),fun _=>ht⟩;·have h:L 0=false:=h;rw[h0]at h;cases h
        ·have h:L 1=false:=h;rw[h1]at h;cases h
        ·have h:L 2=false:=h;rw[h2]at h;cases h
        ·have h:L 1=false:=h;rw[h1]at h;cases h
   rcases hI.2.2.2.2.1 h1 h2 h3 with rfl|rfl;·exact⟨σA,s3,fin _ (.inl rfl)⟩
   ·exact⟨σB,s3',fin _ (.inr rfl)⟩
 ·intro L τ hI hL;rcases hI.2.2.2.2.2 (hL 3 (by simp))with rfl|rfl;·exact hA
  ·exact hB
end
section
variable{P:Program}{n:Nat}{σ τ:St}{R:Type}{E:Env}{call:FuncId->List AV->List Ob->(Res->Option R)->Option R}{r:R}{K:OkX}{w0 w:World}{a:Act}{β:Nat->Option Value}
theorem acs{hs:List Ob}{l k b:Nat}(h:owns (frz1 hs l) β k b):owns hs β k b:=by
 unfold frz1 at h;split at h
 ·rename_i T es hl;obtain⟨h1,z,h2,h3⟩:=h;by_cases hkl:k=l;·subst hkl;rw[dV]at h1;cases h1
  ·rw[bE _ _ _ _ hkl]at h1;exact⟨h1,z,h2,h3⟩
 ·exact h
theorem PE:∀{ls:List Nat}{hs:List Ob}{k b:Nat},owns (frzN hs ls) β k b->owns hs β k b
 | [],_,_,_,h=>h
 |l::r,hs,k,b,h=>acs (PE (ls:=r) h)
theorem RelB.frzN:∀{ls:List Nat}{σ:St},RelB P K w0 n σ a w β->RelB P K w0 n ⟨σ.ts,frzN σ.hs ls,σ.k0⟩ a w β
 | [],_,r=>r
 |l::ls,σ,r=>by
  have:RelB P K w0 n ⟨σ.ts,frz1 σ.hs l,σ.k0⟩ a w β:=by
   unfold frz1;split;·rename_i T es hl;exact r.frz hl
   ·exact r
  exact RelB.frzN (ls:=ls) this
theorem XR{f:AV->AV}(hf:f .dead= .dead):∀(ts:List AV)(k:Nat),tk (ts.map f) k=f (tk ts k)
 | [],k=>by simp[tk,hf]
 |v::r,0=>rfl
 |v::r,k+1=>by simp[tk,XR hf r k]
theorem aeG{hs:List Ob}:pkC P hs .dead= .dead:=rfl
theorem RV.pkC{ok:Nat->Prop}{w:World}{β:Nat->Option Value}{hs:List Ob}{v:AV}{z:Value}(hf:Cx P ok w β hs)(hfa:∀l T es,lk hs l= .frz T es->d9 P T=false)(h:RV P ok w β v z):RV P ok w β (pkC P hs v) z:=by
 unfold Am.pkC;split;·rename_i T d hp;exact(h.pk hf hfa hp).can
 ·exact h
theorem BJ{q:TypeId->Bool}{hs:List Ob}:∀{os:List Ob}{k l:Nat},lk (rR P q hs k os) l=lk os l∨∃T c d,lk os l= .box T c∧pk P hs c=some (T,d)∧lk (rR P q hs k os) l= .box T (.dat T (canD P T d))
 | [],k,l=>by cases k<;>exact .inl rfl
 |o::os,k+1,0=> .inl (by cases o<;>rfl)
 |o::os,k+1,l+1=>by have:=BJ (q:=q) (hs:=hs) (os:=os) (k:=k) (l:=l);cases o<;>simpa [rR,lk]using this
 |o::os,0,l+1=>by have:=BJ (q:=q) (hs:=hs) (os:=os) (k:=0) (l:=l);cases o<;>simpa [rR,lk]using this
 |o::os,0,0=>by
  cases o with
  |box   T c=>
   simp only[rR,lk];cases hq:q T with
   |true=>exact .inl rfl
   |false=>
   rw[cond_false];split
   ·    rename_i T' d hp;cases hb:Nat.beq T' T with
        |true=>
         have e:=beq_eq hb;subst e;exact .inr ⟨T',c,d,rfl,hp,rfl⟩
        |false=>exact .inl rfl
   ·exact .inl rfl
  |row T es=>exact .inl rfl
  |rowA T vs=>exact .inl rfl
  |frz T es=>exact .inl rfl
  |map T es=>exact .inl rfl
  |rowD=>exact .inl rfl
  |tok=>exact .inl rfl
  |gone=>exact .inl rfl
  |free=>exact .inl rfl
theorem RelB.packAll{q:TypeId->Bool}(r:RelB P K w0 n σ a w β)(k:Nat):RelB P K w0 n ⟨σ.ts.map (pkC P σ.hs),rR P q σ.hs k σ.hs,σ.k0⟩ a w β:=by
 have hown:∀l b,owns (rR P q σ.hs k σ.hs) β l b->owns σ.hs β l b:=by
  rintro l b ⟨h1,z,h2,h3⟩;rcases BJ (P:=P) (q:=q) (hs:=σ.hs) (os:=σ.hs) (k:=k) (l:=l)with e| ⟨T,c,d,e1,_,e3⟩;·rw[e]at h1;exact⟨h1,z,h2,h3⟩
  ·exact⟨by rw[e1];rfl,z,h2,h3⟩
 have hk:∀b,okOf K w0 w σ.hs β b->okOf K w0 w (rR P q σ.hs k σ.hs) β b∧w.heap[b]? =w.heap[b]? :=fun b hb=>⟨⟨hb.1,hb.2.1,fun l hl=>hb.2.2 l (hown l b hl)⟩,rfl⟩;refine⟨r.size,r.defers,r.below,fun t=>?_,fun l=>?_,fun l l' b h1 h2=>r.sep l l' b (hown _ _ h1) (hown _ _ h2),fun l b h1=>r.own l b (hown _ _ h1),r.ext,r.kk,r.tab.mono hk⟩
 ·show RV P _ w β (tk (σ.ts.map (pkC P σ.hs)) t) _;rw[XR aeG];exact((r.ts t).pkC r.frzOK r.frzAgg).mono hk (Ext.refl _)
 ·show ObOK P _ w β (lk (rR P q σ.hs k σ.hs) l) _;rcases BJ (P:=P) (q:=q) (hs:=σ.hs) (os:=σ.hs) (k:=k) (l:=l)with e| ⟨T,c,d,e1,e2,e3⟩;·rw[e];exact(r.hs l).mono hk (fun _ _ _ _ _=>rfl) (Ext.refl _)
  ·rw[e3];have hob:=r.hs l;rw[e1]at hob;obtain⟨b,cs,q1,q2,q3,q4⟩:=hob;have hrd:=jX r.frzOK q4 e2;exact⟨b,cs,q1,q2,q3,.dat (by rw[Ew hrd];exact hrd.mono hk)⟩
theorem U3:∀{m k i:Nat},i<m->(upto k m)[i]? =some (k+i)
 |0,k,i,h=>by omega
 |m+1,k,0,h=>rfl
 |m+1,k,i+1,h=>by simp only[upto,aZ];rw[U3 (by omega)];congr 1;omega
theorem U4:∀{m k:Nat},(upto k m).length=m
 |0,_=>rfl
 |m+1,k=>by simp[upto,U4]
theorem GQ{hs:List Ob}{k0:Nat}{vs:List AV}{i:Nat}(h:i<k0):(IV hs k0 vs)[i]? =some i:=by unfold IV;rw[List.getElem?_append_left (by rw[U4];exact h),U3 h,Nat.zero_add]
theorem Imp.relab:Imp P n σ (relab σ):=by
 rintro K w0 a w ⟨β,r⟩;unfold Am.relab;simp only;cases hb:nodupB (IV σ.hs σ.k0 σ.ts)with
 |false=>exact⟨β,r⟩
 |true=>exact⟨_,r.relabel _ (oV hb) (fun i hi=>GQ hi) _ fun k=> .inr (ZH _ _ _)⟩
theorem Imp.nilAll:∀(ls:List Nat)(σ:St),Imp P n σ (nilAll P σ ls)
 | [],_=>Imp.refl
 |s::ls,σ=>by
  unfold Am.nilAll;refine Imp.trans ?_ (Imp.nilAll ls _);split;·exact Imp.nilBox _
  ·exact Imp.nilSlot _
theorem aeH{f:Ob->Ob}(hf:f .free= .free):∀(hs:List Ob)(k:Nat),lk (hs.map f) k=f (lk hs k)
 | [],k=>by simp[lk,hf]
 |v::r,0=>rfl
 |v::r,k+1=>by simp[lk,aeH hf r k]
theorem ajc(l nm:Nat)(o:Ob):(mvO l nm o).isOwn=o.isOwn:=by cases o<;>rfl
theorem RA.mv{ok:Nat->Prop}{w:World}{β:Nat->Option Value}{l nm:Nat}{z:Value}{c:AV}{cs:List Value}(h1:β l=some z)(h2:β nm=some z)(h:RA P ok w β c cs):RA P ok w β (mvV l nm c) cs:=by
 unfold mvV;split
 ·rename_i k;cases hb:Nat.beq k l with
  |false=>exact h
  |true=>
   have e:=beq_eq hb;subst e;cases h with
   |    row h3 h4=>
        rw[h1]at h3;cases h3;exact .row h2 h4
 ·exact h
theorem RV.mv{ok:Nat->Prop}{w:World}{β:Nat->Option Value}{l nm:Nat}{z:Value}{c:AV}{x:Value}(h1:β l=some z)(h2:β nm=some z)(h:RV P ok w β c x):RV P ok w β (mvV l nm c) x:=by
 have e:∀k,c= .row k->RV P ok w β (mvV l nm (.row k)) x:=fun k hk=>by
  subst hk;have h':=RA.mv h1 h2 (h.2 rfl);cases hb:Nat.beq k l with
  |false=>simp only[mvV,hb,cond_false];exact h
  |true=>
   simp only[mvV,hb,cond_true]at h' ⊢
   exact⟨fun hi=>by simp[AV.isAgg]at hi,fun _=>h'⟩
 cases c with
 |row k=>exact e k rfl
 |_=>exact h
theorem RelB.mvAll(r:RelB P K w0 n σ a w β){l nm:Nat}{z:Value}(h1:β l=some z)(h2:β nm=some z):RelB P K w0 n ⟨σ.ts.map (mvV l nm),σ.hs.map (mvO l nm),σ.k0⟩ a w β:=by
 have hlk:∀k,lk (σ.hs.map (mvO l nm)) k=mvO l nm (lk σ.hs k):=fun k=>aeH rfl _ _;have hown:∀k b,owns (σ.hs.map (mvO l nm)) β k b↔owns σ.hs β k b:=fun k b=>by simp only[owns,hlk,ajc]
 have hk:∀b,okOf K w0 w σ.hs β b->okOf K w0 w (σ.hs.map (mvO l nm)) β b∧w.heap[b]? =w.heap[b]? :=fun b hb=>⟨⟨hb.1,hb.2.1,fun k hk=>hb.2.2 k ((hown k b).1 hk)⟩,rfl⟩;refine⟨r.size,r.defers,r.below,fun k=>?_,fun k=>?_,fun k k' b q1 q2=>r.sep k k' b ((hown _ _).1 q1) ((hown _ _).1 q2),fun k b q1=>r.own k b ((hown _ _).1 q1),r.ext,r.kk,r.tab.mono hk⟩
 ·show RV P _ w β (tk (σ.ts.map (mvV l nm)) k) _;rw[XR rfl];exact RV.mv h1 h2 ((r.ts k).mono hk (Ext.refl _))
 ·show ObOK P _ w β (lk (σ.hs.map (mvO l nm)) k) _;rw[hlk];have h3:=(r.hs k).mono hk (fun _ _ _ _ _=>rfl) (Ext.refl _);cases ho:lk σ.hs k with
  |box T c=>
   rw[ho]at h3;obtain⟨b,cs,q1,q2,q3,q4⟩:=h3;exact⟨b,cs,q1,q2,q3,RA.mv h1 h2 q4⟩
  |row T es=>rw[ho]at h3;exact h3
  |rowA T vs=>rw[ho]at h3;exact h3
  |frz T es=>rw[ho]at h3;exact h3
  |map T es=>rw[ho]at h3;exact h3
  |rowD=>rw[ho]at h3;exact h3
  |tok=>rw[ho]at h3;exact h3
  |gone=>trivial
  |free=>rw[ho]at h3;exact h3
theorem Imp.mvAt(l:Nat):Imp P n σ (mvAt σ l):=by
 rintro K w0 a w ⟨β,r⟩;unfold Am.mvAt;cases hb:(Nat.blt l σ.k0&&Nat.ble σ.k0 σ.hs.length)with
 |false=>exact⟨β,r⟩
 |true=>
  simp only[cond_true];split
  ·rename_i T es hl;have hk0:σ.k0<=σ.hs.length:=aK (aO hb);have hob:=r.hs l;rw[hl]at hob;have hob0:=hob;obtain⟨E,z,xs,hz,_⟩:=hob0;rw[hz]at hob;have r2:=r.take l σ.hs.length (.row T es) z w (by rw[hl];simp) (ng _ _ (aj _)) hk0 rfl rfl rfl (aj _) (fun _ _ _=>rfl) (fun b hb'=> .inr ⟨by rw[hl];rfl,z,hz,hb'⟩) (fun hext hk=>hob.mono hk (fun _ _ _ _ _=>rfl) hext);have hne:l≠σ.hs.length:=by have h5:l<σ.k0:=aK (bg hb);omega
   exact⟨_,r2.mvAll (l:=l) (nm:=σ.hs.length) (z:=z) (by rw[eG _ _ _ _ hne];exact hz) (dJ _ _ _)⟩
  ·exact⟨β,r⟩
theorem Imp.mvSlot(t:Nat):Imp P n σ (mvSlot σ t):=by
 unfold Am.mvSlot;split;·exact Imp.mvAt _
 ·split;·exact Imp.mvAt _
  ·exact Imp.refl
 ·exact Imp.refl
theorem Imp.mvL:∀(ts:List Nat)(σ:St),Imp P n σ (mvL σ ts)
 | [],_=>Imp.refl
 |t::ts,σ=>(Imp.mvSlot t).trans (Imp.mvL ts _)
theorem Imp.unfAt(l:Nat):Imp P n σ (unfAt σ l):=by
 unfold Am.unfAt;split
 ·rename_i T5 T2 c k es i m hl;split
  ·rename_i T3 ls T4 ds hk hm;cases hb:(Nat.beq T3 T2&&(Nat.beq T4 T2&&Nat.ble σ.k0 σ.hs.length))with
   |false=>exact Imp.refl
   |    true=>
        have e1:=beq_eq (bg hb);have e2:=beq_eq (bg (aO hb));subst e1 e2;rintro K w0 a w ⟨β,r⟩;exact r.unfocus hl hk hm (ng _ _ (aj _)) (aK (aO (aO hb)))
  ·exact Imp.refl
 ·exact Imp.refl
theorem Imp.unfL:∀(ls:List Nat)(σ:St),Imp P n σ (unfL σ ls)
 | [],_=>Imp.refl
 |l::ls,σ=>(Imp.unfAt l).trans (Imp.unfL ls _)
theorem Imp.frzDAt(l:Nat):Imp P n σ (frzDAt σ l):=by
 unfold Am.frzDAt;split
 ·rename_i T5 T2 c k es hl;split
  ·rename_i T3 ls hk;cases hb:Nat.beq T3 T2 with
   |false=>exact Imp.refl
   |    true=>
        have e1:=beq_eq hb;subst e1;exact Imp.freezeD hl hk
  ·exact Imp.refl
 ·exact Imp.refl
theorem Imp.toDAt(c:Option Nat)(l:Nat):Imp P n σ (toDAt P c σ l):=by
 unfold Am.toDAt;split
 ·rename_i T5 hl;split
  ·rename_i Te h1;split
   ·    rename_i T2 fo hf;split
        ·rename_i E2 h2;cases hb:Nat.ble σ.k0 σ.hs.length with
         |false=>exact Imp.refl
         |true=>
          rintro K w0 a w ⟨β,r⟩;exact r.toD hl (dK h1) (EU hf) (dK h2) (ng _ _ (aj _)) (aK hb)
        ·exact Imp.refl
   ·exact Imp.refl
  ·exact Imp.refl
 ·exact Imp.refl
theorem Imp.deepC(cc l:Nat):Imp P n σ (deepC P σ cc l):=by
 unfold Am.deepC;cases Nat.beq cc 99;·exact Imp.toDAt _ _
 ·exact Imp.frzDAt _
theorem Imp.deep1(s cc:Nat):Imp P n σ (deep1 P σ s cc):=by
 unfold Am.deep1;split;·exact Imp.deepC _ _
 ·split;·exact Imp.deepC _ _
  ·exact Imp.refl
 ·exact Imp.refl
theorem Imp.deepL:∀(ts:List Nat)(σ:St),Imp P n σ (deepL P σ ts)
 | [],_=>Imp.refl
 |t::ts,σ=>by
  refine Imp.trans ?_ (Imp.deepL ts _);cases Nat.ble 2000000 t;·exact Imp.refl
  ·exact Imp.deep1 _ _
theorem Imp.norm(f:FuncId)(key:Nat):Imp P n σ (mZ P E f key σ):=by
 unfold mZ;split;·exact Imp.refl
 ·rename_i kp fz rw _;simp only;refine Imp.trans (Rel.congr (τ:=⟨wE kp (GU kp) σ.ts 0,σ.hs,σ.k0⟩) (fun k=>ZI kp (GU kp) σ.ts 0 k) (fun _=>rfl) rfl) ?_;refine Imp.trans (Imp.frzN (EN ⟨wE kp (GU kp) σ.ts 0,σ.hs,σ.k0⟩ fz) ⟨wE kp (GU kp) σ.ts 0,σ.hs,σ.k0⟩) ?_;refine Imp.trans (Imp.gonN (Ai ⟨wE kp (GU kp) σ.ts 0,σ.hs,σ.k0⟩ fz) ⟨wE kp (GU kp) σ.ts 0,Am.frzN σ.hs (EN ⟨wE kp (GU kp) σ.ts 0,σ.hs,σ.k0⟩ fz),σ.k0⟩) ?_;refine Imp.trans (Imp.unfL (upto 0 (St.mk (wE kp (GU kp) σ.ts 0) (Am.gonN (Am.frzN σ.hs (EN ⟨wE kp (GU kp) σ.ts 0,σ.hs,σ.k0⟩ fz)) (Ai ⟨wE kp (GU kp) σ.ts 0,σ.hs,σ.k0⟩ fz)) σ.k0).hs.length) _) ?_;refine Imp.trans (Imp.nilAll rw _) ?_;refine Imp.trans (Imp.mvL rw _) ?_;refine Imp.trans (Imp.deepL rw _) ?_;refine Imp.trans ?_ Imp.relab;rintro K w0 a w ⟨β,r⟩;exact⟨β,r.packAll _⟩
def Post(P:Program)(n:Nat)(k:Exit->St->Option R)(r:R):Exit->St->Prop:=fun e τ=>∃τ0,Imp P n τ τ0∧k e τ0=some r
def JOK(J:Nat->Nat->Nat->St->Option R->Option R):Prop:=∀a b c s x r,J a b c s x=some r->x=some r
theorem jn_ok:JOK (R:=R) jn:=fun _ _ _ _ _ _ h=>h
theorem Dq{J:Nat->Nat->Nat->St->Option R->Option R}(hJ:JOK J){c:Code}{key:Nat}{head:St->St}{body:St->(Exit->St->Option R)->Option R}(hh:∀σ,Imp P n σ (head σ))(hb:∀σ k,body σ k=some r->CW P n c σ (Post P n k r)):∀{m:Nat}{σ:St}{k:Exit->St->Option R},IX J key head body m σ k=some r->CR P n c m σ (Post P n k r)
 |0,_,_,h=>by simp[IX]at h
 |m+1,σ,k,h=>by
  unfold IX at h;refine CR.step ((hb _ _ h).mono ?_);rintro e τ ⟨τ0,hi,hk⟩;cases e with
  |normal=>exact(Dq hJ hh hb (hJ _ _ _ _ _ _ hk)).imp (hi.trans (hh _))
  |exit id=>exact⟨τ0,hi,hk⟩
  |goto l=>exact⟨τ0,hi,hk⟩
  |ret=>exact⟨τ0,hi,hk⟩
  |panic ch=>exact⟨τ0,hi,hk⟩
  |outgrown=>exact⟨τ0,hi,hk⟩
theorem acu{J:Nat->Nat->Nat->St->Option R->Option R}(hJ:JOK J)(hcall:CallOK P call)(hmix:P.follows .mixedOrders=true)(m:Nat)(f:FuncId):∀(c:Code)(σ:St)(k:Exit->St->Option R),ev0 P E call J m f n c σ k=some r->CW P n c σ (Post P n k r):=by
 intro c;induction c with
 |skip=>intro σ k h;exact CW.skip ⟨σ,Imp.refl,by simpa [ev0]using h⟩
 |region id ops draw=>
  intro σ k h;have ea:ops=ops.toList.toArray:=by simp
  cases draw with
  |false=>
   simp only[ev0]at h;obtain⟨ds,τ,ht,hk⟩:=Ap hcall h;rw[ea];exact CW.region ht.lw fun s e=>by rw[e];exact⟨τ,Imp.refl,hk⟩
  |true=>
   simp only[ev0]at h;obtain⟨ds,τ,ht,hk⟩:=Ap hcall h;obtain⟨hc,hk⟩:=aN hk;rw[ea];refine Lp hmix ht (bg hc) (by simpa using aO hc) fun τ' he=>⟨τ,?_,hk⟩;exact StEq.imp ⟨fun t=>(he.ts t).symm,fun l=>(he.hs l).symm,he.k0.symm⟩
 |seq c1 c2 ih1 ih2=>
  intro σ k h;simp only[ev0]at h;refine CW.seq ((ih1 σ _ h).mono ?_);rintro e τ ⟨τ0,hi,hk⟩;cases e with
  |normal=>
   have hk':nextK P E J f (nextId c2) τ0 (fun s=>ev0 P E call J m f n c2 s k)=some r:=hk;unfold nextK at hk';split at hk';·exact(ih2 _ _ hk').imp hi
   ·exact(ih2 _ _ (hJ _ _ _ _ _ _ hk')).imp (hi.trans (Imp.norm _ _))
  |exit id=>exact⟨τ0,hi,hk⟩
  |goto l=>exact⟨τ0,hi,hk⟩
  |ret=>exact⟨τ0,hi,hk⟩
  |panic ch=>exact⟨τ0,hi,hk⟩
  |outgrown=>exact⟨τ0,hi,hk⟩
 |cond x c1 c2 ih1 ih2=>
  intro σ k h;simp only[ev0]at h;split at h
  ·rename_i t ht;obtain⟨T,d,e1,hu,rfl⟩:=uK ht;have hev:=tX (P:=P) (σ:=σ) (x:=x) (T:=0) (D:=E.dt);rw[e1]at hev;rcases dG h with⟨hb,h1⟩| ⟨hb,h1⟩;·exact CW.condT hu (hev.cbool hu) hb (ih1 σ k h1)
   ·exact CW.condF hu (hev.cbool hu) hb (ih2 σ k h1)
  ·cases h
 |block id c ih=>
  intro σ k h;simp only[ev0]at h;refine CW.block ((ih σ _ h).mono ?_);rintro e τ ⟨τ0,hi,hk⟩;cases e with
  |exit id'=>
   simp only[aiG];replace hk:(bif Nat.beq id' id then k .normal τ0 else k (.exit id') τ0)=some r:=hk;cases hb:Nat.beq id' id with
   |true=>rw[hb]at hk;exact⟨τ0,hi,hk⟩
   |false=>rw[hb]at hk;exact⟨τ0,hi,hk⟩
  |normal=>exact⟨τ0,hi,hk⟩
  |goto l=>exact⟨τ0,hi,hk⟩
  |ret=>exact⟨τ0,hi,hk⟩
  |panic ch=>exact⟨τ0,hi,hk⟩
  |outgrown=>exact⟨τ0,hi,hk⟩
 |loop c ih=>
  intro σ k h;simp only[ev0]at h;exact CW.loop ((Dq hJ (fun σ=>Imp.norm f (firstId c)) (fun σ k h=>ih σ k h) (hJ _ _ _ _ _ _ h)).imp (Imp.norm f (firstId c)))
 |rangeFunc=>intro σ k h;simp[ev0]at h
 |exit id=>intro σ k h;exact CW.exit ⟨σ,Imp.refl,by simpa [ev0]using h⟩
 |scope c ih=>
  intro σ k h;simp only[ev0]at h;have h1:=ih σ _ h;have h2:CW P n c σ (fun e τ=>(∀l,e≠ .goto l)∧Post P n k r e τ):=h1.mono (by
   rintro e τ ⟨τ0,hi,hk⟩;cases e with
   |goto l=>cases hk
   |normal=>exact⟨(fun l e=>by cases e),τ0,hi,hk⟩
   |exit id=>exact⟨(fun l e=>by cases e),τ0,hi,hk⟩
   |ret=>exact⟨(fun l e=>by cases e),τ0,hi,hk⟩
   |panic ch=>exact⟨(fun l e=>by cases e),τ0,hi,hk⟩
   |outgrown=>exact⟨(fun l e=>by cases e),τ0,hi,hk⟩)
  exact(CW.scope h2 fun l τ hc=>hc.1 l rfl).mono fun e τ hc=>hc.2
 |label l=>intro σ k h;exact CW.label ⟨σ,Imp.refl,by simpa [ev0]using h⟩
 |goto l=>intro σ k h;simp[ev0]at h
 |ret=>intro σ k h;exact CW.ret ⟨σ,Imp.refl,by simpa [ev0]using h⟩
 |refuse w=>intro σ k h;simp[ev0]at h
theorem ajd{c1 c2:Code}{q:Oper×Oper×Oper×Oper}(h:aiZ c1 c2=some q):(∃id,c1= .region id #[q.1,q.2.1,q.2.2.1,q.2.2.2] true)∧aiY q.1 q.2.1 q.2.2.1 q.2.2.2=true∧q.1.guard=none∧q.2.1.guard=none∧q.2.2.1.guard=none∧q.2.2.2.guard=none:=by
 have hg:∀o:Oper,noG o=true->o.guard=none:=fun o h=>by
  unfold noG at h;split at h;·assumption
  ·cases h
 unfold aiZ at h;split at h
 ·rename_i id ops _ _ _;split at h
  ·rename_i o0 o1 o2 o3;obtain⟨hb,h⟩:=aN h;cases h;simp only[aM]at hb;obtain⟨_,_,_,h4,h5,h6,h7,h8⟩:=hb;exact⟨⟨id,rfl⟩,h4,hg _ h5,hg _ h6,hg _ h7,hg _ h8⟩
  ·cases h
 ·cases h
theorem aje{a b:St}(h:aem a b=true):a=b:=by
 have hob:∀{x y:List Ob},Zy x y=true->x=y:=by
  intro x;induction x with
  |nil=>intro y h;cases y with|nil=>rfl|cons=>cases h
  |cons o r ih=>
   intro y h;cases y with
   |nil=>cases h
   |    cons p s=>
        rw[Zy,aM,Bool.or_eq_true]at h;rw[ih h.2];rcases h.1 with h1|h1;·rw[Zw h1]
        ·cases o<;>cases p<;>first|rfl|(unfold aog at h1;cases h1)
 unfold aem at h;simp only[aM]at h;obtain⟨h1,h2,h3⟩:=h;obtain⟨ts,hs,k0⟩:=a;obtain⟨ts',hs',k0'⟩:=b;have e1:ts=ts':=xY h1;have e2:hs=hs':=hob h2;have e3:k0=k0':=aU h3;rw[e1,e2,e3]
theorem PG(hmix:P.follows .mixedOrders=true){m:Nat}{f:FuncId}{c:Code}{e:Exit}{s:St}(h:inn P E m f n c σ=some (e,s)):CW P n c σ fun e' τ=>e'=e∧Imp P n τ s:=by
 have hJ:JOK (R:=Exit×St) fun _ _ _ _ x=>x:=fun _ _ _ _ _ _ h=>h;have hcall:CallOK (R:=Exit×St) P fun _ _ _ _=>none:=by intro f args objs K r h;cases h
 refine(acu hJ hcall hmix m f c σ _ h).mono ?_;rintro e' τ ⟨τ0,hi,hk⟩;cases hk;exact⟨rfl,hi⟩
theorem aeI(hcall:CallOK P call)(hmix:P.follows .mixedOrders=true){m:Nat}{f:FuncId}{c1 c2:Code}{q:Oper×Oper×Oper×Oper}{k:Exit->St->Option R}(hq:aiZ c1 c2=some q)
  (h:(alV P E call n q.1 q.2.1 q.2.2.1 q.2.2.2 σ fun σA σB=>match inn P E m f n c2 σA,inn P E m f n c2 σB with
   |    some (.normal,s1),some (.normal,s2)=>(match mrg P E f q.1.dst s1 s2 with
        |some s=>k .normal s
        |none=>none)
   |_,_=>none)=some r):CW P n (.seq c1 c2) σ (Post P n k r):=by
 obtain⟨⟨id,rfl⟩,hc,g0,g1,g2,g3⟩:=ajd hq;obtain⟨o0,o1,o2,o3⟩:=q;simp only at h hc g0 g1 g2 g3 ⊢
 unfold alV at h;have refl:∀(o:Oper)(s:St)(rd:List Nat),Agr o s s rd:=fun o s rd=>⟨fun _ _=>rfl,fun _ _=>rfl,rfl⟩;obtain⟨d0,h,t0⟩:=nQ hcall h;obtain⟨d1,h,t1⟩:=nQ hcall h;obtain⟨d2,h,t2⟩:=nQ hcall h;obtain⟨d3,h,t3⟩:=nQ hcall h;obtain⟨e2,h,u2⟩:=nQ hcall h;obtain⟨e1,h,u1⟩:=nQ hcall h;obtain⟨e3,h,u3⟩:=nQ hcall h;dsimp only at h;split at h
 ·rename_i s1 s2 hA hB;split at h
  ·rename_i s hs;unfold mrg at hs;obtain⟨hb,hs⟩:=aN hs;have he:=aje hb;cases hs;have pA:=PG hmix hA;have pB:=PG hmix hB;refine CW.seq (Sn hmix (Ψ:=fun e τ=>_) hc (.plain g0 (t0 _ (refl _ _ _))) (.plain g1 (t1 _ (refl _ _ _))) (.plain g2 (t2 _ (refl _ _ _))) (.plain g3 (t3 _ (refl _ _ _))) (.plain g2 (u2 _ (refl _ _ _))) (.plain g1 (u1 _ (refl _ _ _))) (.plain g3 (u3 _ (refl _ _ _))) ?_ ?_)
   ·    refine pA.mono ?_;rintro e' τ ⟨rfl,hi⟩;exact⟨_,hi.trans (Imp.norm _ _),h⟩
   ·    refine pB.mono ?_;rintro e' τ ⟨rfl,hi⟩;refine⟨_,hi.trans (Imp.norm (E:={E with keep:=fun _ _=>some (rmD o0.dst (ab3 0 s1.ts s2.ts),[],[])}) f 1),?_⟩;rw[←he];exact h
  ·cases h
 ·cases h
theorem aeJ{J:Nat->Nat->Nat->St->Option R->Option R}(hJ:JOK J)(hcall:CallOK P call)(hmix:P.follows .mixedOrders=true)(m:Nat)(f:FuncId):∀(c:Code)(σ:St)(k:Exit->St->Option R),ev P E call J m f n c σ k=some r->CW P n c σ (Post P n k r):=by
 intro c;induction c with
 |skip=>intro σ k h;exact CW.skip ⟨σ,Imp.refl,by simpa [ev]using h⟩
 |region id ops draw=>
  intro σ k h;have ea:ops=ops.toList.toArray:=by simp
  cases draw with
  |false=>
   simp only[ev]at h;obtain⟨ds,τ,ht,hk⟩:=Ap hcall h;rw[ea];exact CW.region ht.lw fun s e=>by rw[e];exact⟨τ,Imp.refl,hk⟩
  |true=>
   simp only[ev]at h;obtain⟨ds,τ,ht,hk⟩:=Ap hcall h;obtain⟨hc,hk⟩:=aN hk;rw[ea];refine Lp hmix ht (bg hc) (by simpa using aO hc) fun τ' he=>⟨τ,?_,hk⟩;exact StEq.imp ⟨fun t=>(he.ts t).symm,fun l=>(he.hs l).symm,he.k0.symm⟩
 |seq c1 c2 ih1 ih2=>
  intro σ k h;simp only[ev]at h;split at h
  rotate_left
  ·rename_i q hq;exact aeI hcall hmix hq h
  refine CW.seq ((ih1 σ _ h).mono ?_);rintro e τ ⟨τ0,hi,hk⟩;cases e with
  |normal=>
   have hk':nextK P E J f (nextId c2) τ0 (fun s=>ev P E call J m f n c2 s k)=some r:=hk;unfold nextK at hk';split at hk';·exact(ih2 _ _ hk').imp hi
   ·exact(ih2 _ _ (hJ _ _ _ _ _ _ hk')).imp (hi.trans (Imp.norm _ _))
  |exit id=>exact⟨τ0,hi,hk⟩
  |goto l=>exact⟨τ0,hi,hk⟩
  |ret=>exact⟨τ0,hi,hk⟩
  |panic ch=>exact⟨τ0,hi,hk⟩
  |outgrown=>exact⟨τ0,hi,hk⟩
 |cond x c1 c2 ih1 ih2=>
  intro σ k h;simp only[ev]at h;split at h
  ·rename_i t ht;obtain⟨T,d,e1,hu,rfl⟩:=uK ht;have hev:=tX (P:=P) (σ:=σ) (x:=x) (T:=0) (D:=E.dt);rw[e1]at hev;rcases dG h with⟨hb,h1⟩| ⟨hb,h1⟩;·exact CW.condT hu (hev.cbool hu) hb (ih1 σ k h1)
   ·exact CW.condF hu (hev.cbool hu) hb (ih2 σ k h1)
  ·cases h
 |block id c ih=>
  intro σ k h;simp only[ev]at h;refine CW.block ((ih σ _ h).mono ?_);rintro e τ ⟨τ0,hi,hk⟩;cases e with
  |exit id'=>
   simp only[aiG];replace hk:(bif Nat.beq id' id then k .normal τ0 else k (.exit id') τ0)=some r:=hk;cases hb:Nat.beq id' id with
   |true=>rw[hb]at hk;exact⟨τ0,hi,hk⟩
   |false=>rw[hb]at hk;exact⟨τ0,hi,hk⟩
  |normal=>exact⟨τ0,hi,hk⟩
  |goto l=>exact⟨τ0,hi,hk⟩
  |ret=>exact⟨τ0,hi,hk⟩
  |panic ch=>exact⟨τ0,hi,hk⟩
  |outgrown=>exact⟨τ0,hi,hk⟩
 |loop c ih=>
  intro σ k h;simp only[ev]at h;exact CW.loop ((Dq hJ (fun σ=>Imp.norm f (firstId c)) (fun σ k h=>ih σ k h) (hJ _ _ _ _ _ _ h)).imp (Imp.norm f (firstId c)))
 |rangeFunc=>intro σ k h;simp[ev]at h
 |exit id=>intro σ k h;exact CW.exit ⟨σ,Imp.refl,by simpa [ev]using h⟩
 |scope c ih=>
  intro σ k h;simp only[ev]at h;have h1:=ih σ _ h;have h2:CW P n c σ (fun e τ=>(∀l,e≠ .goto l)∧Post P n k r e τ):=h1.mono (by
   rintro e τ ⟨τ0,hi,hk⟩;cases e with
   |goto l=>cases hk
   |normal=>exact⟨(fun l e=>by cases e),τ0,hi,hk⟩
   |exit id=>exact⟨(fun l e=>by cases e),τ0,hi,hk⟩
   |ret=>exact⟨(fun l e=>by cases e),τ0,hi,hk⟩
   |panic ch=>exact⟨(fun l e=>by cases e),τ0,hi,hk⟩
   |outgrown=>exact⟨(fun l e=>by cases e),τ0,hi,hk⟩)
  exact(CW.scope h2 fun l τ hc=>hc.1 l rfl).mono fun e τ hc=>hc.2
 |label l=>intro σ k h;exact CW.label ⟨σ,Imp.refl,by simpa [ev]using h⟩
 |goto l=>intro σ k h;simp[ev]at h
 |ret=>intro σ k h;exact CW.ret ⟨σ,Imp.refl,by simpa [ev]using h⟩
 |refuse w=>intro σ k h;simp[ev]at h
def yX(tmps:Array Value):ResultVar->Sem Value
 | .tmp t=>pure (tmps.getD t undef)
 | .cell a t=>do loadVar t (←asAddr (tmps.getD a undef))
theorem Lr(r:RelB P K w0 n σ a w β):∀{rs:List ResultVar}{vs:List AV},XF P σ rs=some vs->
   ∃zs:List Value,(rs.mapM (yX a.tmps)).run P w= .ok zs w∧RVsX P (okOf K w0 w σ.hs β) w β vs zs∧∀v∈vs,v≠ .dead∧∀us,v≠ .tup us
 | [],vs,h=>by
   have h':some []=some vs:=by simpa [XF]using h
   cases h';exact⟨[],rfl,.nil,by simp⟩
 | .tmp t::rs,vs,h=>by
   unfold XF at h;split at h;·cases h
   ·cases h
   ·rename_i h3 h4;split at h
    ·   rename_i us hus;cases h;obtain⟨zs,q1,q2,q3⟩:=Lr r hus;refine⟨a.tmps.getD t undef::zs,by simp[List.mapM_cons,yX,q1],.cons (r.ts t) q2,fun v hv=>?_⟩;rcases List.mem_cons.1 hv with e|hv;·subst e;exact⟨h3,fun us e=>h4 us e⟩
        ·exact q3 v hv
    ·cases h
 | .cell p T::rs,vs,h=>by
   unfold XF at h;split at h
   ·rename_i l hp;split at h
    ·   rename_i T' c hl;obtain⟨hc,h2⟩:=aN h;clear h;have e:=beq_eq (bg hc);subst e;obtain⟨s1,s2,⟨D,hD⟩,s4,s5⟩:=kN (bg (aO hc));have hag:c.isAgg P=d9 P T':=by simpa using aO (aO hc)
        split at h2
        ·rename_i us hus;cases h2;obtain⟨zs,q1,q2,q3⟩:=Lr r hus;have hr:=r.ts p;rw[hp]at hr;have hr':=hr.2 rfl;generalize hz:a.tmps.getD p undef=z at hr';cases hr' with
         | @ptr _ b _ _ hb=>
           have hob:=r.hs l;rw[hl,hb]at hob;obtain⟨b',cs,e,hblk,hsz,hra⟩:=hob;cases e;obtain⟨zv,hrun,hrv⟩:=Bu (P:=P) (T:=T') (v:=c) (ok:=okOf K w0 w σ.hs β) (w:=w) (β:=β) (ad:=⟨b,0,none⟩) (cs:=cs.toList) hD (by simpa using hsz)
            (fun j u hj=>by rw[pz,Nat.zero_add,cell_of_row w b j cs T' (0,0) hblk];simpa using hj) (fun hf=>s4 (by rw[hag];exact hf)) hag hra s2
           refine⟨zv::zs,?_,.cons hrv q2,fun v hv=>?_⟩
           ·simp only[Instr.loadAt,Instr.sureAddr,Sem.run_bind,Sem.run_pure,Result.andThen_ok]at hrun;simp[List.mapM_cons,yX,hz,asAddr,hrun,q1]
           ·rcases List.mem_cons.1 hv with e|hv;·subst e;exact⟨s1,s2⟩
            ·exact q3 v hv
        ·cases h2
    ·cases h
   ·cases h
theorem XT{fn:Func}{zs:List Value}(hm:(fn.results.toList.mapM (yX a.tmps)).run P w= .ok zs w):(results fn a.tmps).run P w= .ok (if h:zs.toArray.size=1 then zs.toArray[0]else .tuple zs.toArray) w:=by
 have hm:(fn.results.mapM (yX a.tmps)).run P w= .ok zs.toArray w:=by
  have:fn.results.mapM (yX a.tmps)=(fn.results.toList.mapM (yX a.tmps))>>=fun l=>pure l.toArray:=by rw[Array.mapM_eq_mapM_toList];rfl
  rw[this,Sem.run_bind,hm];rfl
 have:results fn a.tmps=(fn.results.mapM (yX a.tmps))>>=fun vs=>pure (if h:vs.size=1 then vs[0]else .tuple vs):=by
  unfold results;have hf:(fun x=>match x with| .tmp t=>pure (a.tmps.getD t undef)| .cell a_1 t=>do loadVar t (←asAddr (a.tmps.getD a_1 undef)):ResultVar->Sem Value)=yX a.tmps:=by funext x;cases x<;>rfl
  rw[←hf];rfl
 rw[this,Sem.run_bind,hm];rfl
theorem RVsX.pack{ok:Nat->Prop}{vs:List AV}{zs:List Value}(h:RVsX P ok w β vs zs)(hv:∀v∈vs,v≠ .dead∧∀us,v≠ .tup us):RV P ok w β (wu vs) (if h:zs.toArray.size=1 then zs.toArray[0]else .tuple zs.toArray):=by
 match vs,zs,h,hv with
 | [v],[z],.cons h .nil,_=>simpa [wu]using h
 | [],[],.nil,_=>exact⟨#[],by simp,rfl,fun i av hv=>by simp at hv⟩
 |v1::v2::vr,z1::z2::zr,h,hv=>
  refine⟨(z1::z2::zr).toArray,by simp,by simpa using h.len,fun i av hav=>?_⟩;obtain⟨z,q1,q2⟩:=h.get i av hav;obtain⟨q3,q4⟩:=hv av (aV hav);have e:(z1::z2::zr).toArray.getD i undef=z:=by simp only[Array.getD_eq_getD_getElem?,List.getElem?_toArray,q1,Option.getD_some]
  rw[e];exact RV.to1 q3 q4 q2
theorem RVsX.mapC{ok:Nat->Prop}{hs:List Ob}{vs:List AV}{zs:List Value}(hf:Cx P ok w β hs)(hfa:∀l T es,lk hs l= .frz T es->d9 P T=false)(h:RVsX P ok w β vs zs):RVsX P ok w β (vs.map (pkC P hs)) zs:=by
 induction h with
 |nil=>exact .nil
 |cons h _ ih=>exact .cons (h.pkC hf hfa) ih
theorem Ls{src:List Nat}{ρ:Nat->Option Nat}{hs:List Ob}:∀b,okOf K w0 w hs β b->okOf K w0 w (sZ ρ hs src) (tu src β) b∧w.heap[b]? =w.heap[b]? :=by rintro b ⟨h1,h2,h3⟩;refine⟨⟨h1,h2,fun k hk=>?_⟩,rfl⟩;obtain⟨l,_,h5⟩:=yj hk;exact h3 l h5
theorem I6{ρ:Nat->Option Nat}:∀vs:List AV,(wu vs).ren ρ=wu (AV.renL ρ vs)
 | []=>rfl
 | [v]=>rfl
 |_::_::_=>rfl
theorem acv{f:FuncId}{fn:Func}{q:Res}(r:RelB P K w0 n σ a w β)(h:fin P E f fn σ=some q):∃z β',(results fn a.tmps).run P w= .ok z w∧RelB P K w0 n ⟨[],q.2,σ.k0⟩ a w β'∧RV P (okOf K w0 w q.2 β') w β' q.1 z:=by
 unfold fin at h;split at h
 ·rename_i vs hvs;obtain⟨zs,q1,q2,q3⟩:=Lr r hvs;have hres:=XT (fn:=fn) q1;cases hraw:E.raw f with
  |true=>
   rw[hraw]at h;simp only[cond_true]at h;obtain⟨src,hsrc⟩:∃src,IV (zD σ.hs σ.hs.length (AV.n2rL P vs σ.hs.length).2) σ.k0 (AV.n2rL P vs σ.hs.length).1=src:=⟨_,rfl⟩;rw[hsrc]at h;obtain⟨hc,h3⟩:=aN h;clear h;obtain⟨hc2,h4⟩:=aN h3;clear h3;cases h4;have hk0:σ.k0<=σ.hs.length:=aK (aO hc);obtain⟨β1,r1,ex1,nb1,ok1⟩:=Le (P:=P) (n:=n) _ σ K w0 w a β σ.hs.length r (Sk P vs σ.hs.length) (fun i h3 h4=>ng _ _ h3) hk0;have r2:=r1.relabel src (oV (bg hc)) (fun i hi=>by rw[←hsrc];exact GQ hi) [] (fun k=> .inl rfl);have hv1:=(q2.mono (fun b hb=>⟨ok1 b hb,rfl⟩) ex1).n2r _ nb1;have hv2:=(hv1.mono (Ls (src:=src) (ρ:=ix src)) (Ext.refl _)).ren (yZ src β1);refine⟨_,_,hres,r2,?_⟩;show RV P _ w _ ((wu _).ren _) _;rw[I6];exact hv2.pack (noDead_get hc2)
  |false=>
   rw[hraw]at h;simp only[cond_false]at h;obtain⟨src,hsrc⟩:∃src,IV (frzN σ.hs (AV.rwsL vs)) σ.k0 (vs.map (pkC P (frzN σ.hs (AV.rwsL vs))))=src:=⟨_,rfl⟩;rw[hsrc]at h;obtain⟨hc,h3⟩:=aN h;clear h;obtain⟨hc2,h4⟩:=aN h3;clear h3;cases h4;have r1:=r.frzN (ls:=AV.rwsL vs);have r2:=r1.relabel src (oV hc) (fun i hi=>by rw[←hsrc];exact GQ hi) [] (fun k=> .inl rfl);have hv1:=(q2.mono (fun b hb=>⟨⟨hb.1,hb.2.1,fun l hl=>hb.2.2 l (PE hl)⟩,rfl⟩) (Ext.refl _)).mapC r1.frzOK r1.frzAgg;have hv2:=(hv1.mono (Ls (src:=src) (ρ:=ix src)) (Ext.refl _)).ren (yZ src β);refine⟨_,_,hres,r2,?_⟩;show RV P _ w _ ((wu _).ren _) _;rw[I6];exact hv2.pack (noDead_get hc2)
 ·cases h
where noDead_get:∀{vs:List AV},K6 vs=true->∀v∈vs,v≠ .dead∧∀us,v≠ .tup us
 | [],_,v,hv=>by simp at hv
 |u   ::r,h,v,hv=>by
  unfold K6 at h;rcases List.mem_cons.1 hv with e|hv
  ·   subst e;have:=bg h;split at this;·cases this
      ·cases this
      ·rename_i h3 h4;exact⟨h3,fun us e=>h4 us e⟩
  ·exact noDead_get (aO h) v hv
structure EnvOK (P:Program) (E:Env):Prop where
 fns:∀f fn,E.fns f=some fn->P.funcs[f]? =some fn∧(fn.name== "runtime.NumGoroutine")=false
 orc:∀f oc args objs(q:Res),E.orc f=some oc->oc args objs=some q->FX P f args objs q.1 q.2∧HasBody P f
 mix:P.follows .mixedOrders=true
theorem aeK:∀(vs:List AV)(k:Nat),vs.length<=k->tk vs k= .dead
 | [],_,_=>rfl
 |_::r,0,h=>by simp at h
 |_::r,k+1,h=>by simp only[tk];exact aeK r k (by simpa using h)
theorem Imp.mvAll:∀(rs:List ResultVar)(σ:St),Imp P n σ (mvAll σ rs)
 | [],_=>Imp.refl
 | .tmp t::rs,σ=>(Imp.mvSlot t).trans (Imp.mvAll rs _)
 | .cell _ _::rs,σ=>Imp.mvAll rs σ
theorem U5:∀(ls:List Nat)(hs:List Ob)(l:Nat),(∀T es,lk hs l≠ .row T es)->lk (Am.frzN hs ls) l=lk hs l
 | [],_,_,_=>rfl
 |k::ls,hs,l,h=>by
  have h1:lk (frz1 hs k) l=lk hs l:=by
   unfold frz1;split
   ·    rename_i T es hk;refine bE _ _ _ _ fun e=>?_;subst e;exact h _ _ hk
   ·rfl
  show lk (Am.frzN (frz1 hs k) ls) l=lk hs l;rw[U5 ls (frz1 hs k) l (by rw[h1];exact h),h1]
theorem Lu{Te:TypeId}{hs:List Ob}{ok:Nat->Prop}{w:World}{β:Nat->Option Value}(hf:Cx P ok w β hs):∀{vs:List AV}{ds:List Dt},xX P hs Te vs=some ds->vs.length=ds.length∧∀(i:Nat)(d:Dt),ds[i]? =some d->∃v,vs[i]? =some v∧∀cs,RA P ok w β v cs->RD P ok w Te d cs
 | [],ds,h=>by
   have h':some []=some ds:=by simpa [xX]using h
   cases h';exact⟨rfl,fun i d hd=>by simp at hd⟩
 | v::vs,ds,h=>by
   unfold xX at h;split at h
   ·rename_i T d hp;obtain⟨hc,h2⟩:=aN h;split at h2
    ·   rename_i ds' hds;cases h2;obtain⟨q1,q2⟩:=Lu hf hds;refine⟨by simp[q1],fun i d' hd=>?_⟩;cases i with
        |zero=>
         simp only[bf,aH]at hd;subst hd;exact⟨v,rfl,fun cs hr=>(jX hf hr hp).compat (bg hc)⟩
        |succ i=>
         simp only[aZ]at hd;obtain⟨v',h1,h2⟩:=q2 i d' hd;exact⟨v',by simpa using h1,h2⟩
    ·cases h2
   ·cases h
theorem Imp.flat1(l:Nat):Imp P n σ (flat1 P σ l):=by
 unfold Am.flat1;split
 ·rename_i T vs hl;split
  ·rename_i Te hTe;split
   ·    rename_i ds hds;refine Imp.trans (Imp.frzN (AV.rwsL vs) σ) ?_;rintro K w0 a w ⟨β,r⟩;have hl2:lk (Am.frzN σ.hs (AV.rwsL vs)) l= .rowA T vs:=by rw[U5 _ _ _ (by intro T' es;rw[hl];simp)];exact hl
        have hob:=r.hs l;have hl3:lk (St.mk σ.ts (Am.frzN σ.hs (AV.rwsL vs)) σ.k0).hs l= .rowA T vs:=hl2;rw[hl3]at hob;obtain⟨E',z,xs,hz,hu,hown,hone,hr⟩:=hob;obtain rfl:Te=E':=by have:=dK hTe;rw[this]at hu;cases hu;rfl
        obtain⟨q1,q2⟩:=Lu r.frzOK hds;refine⟨_,r.upd l (.row T ds) (β l) w (.inl rfl) rfl rfl rfl (aj _) (fun _ _ _=>rfl) (fun z2 b2 _ hz2 hb2=> .inr ⟨by rw[hl3];rfl,z2,hz2,hb2⟩) fun hx hk=>?_⟩;refine⟨Te,z,xs,hz,hu,by rw[←q1];exact hown,hone,fun i d hd=>?_⟩;obtain⟨v,h1,h2⟩:=q2 i d hd;exact(h2 _ (hr i v h1)).mono hk
   ·exact Imp.refl
  ·exact Imp.refl
 ·exact Imp.refl
theorem Imp.flatL:∀(ls:List Nat)(σ:St),Imp P n σ (flatL P σ ls)
 | [],_=>Imp.refl
 |l::ls,σ=>(Imp.flat1 l).trans (Imp.flatL ls _)
theorem Imp.exitSt(f:FuncId)(fn:Func):Imp P n σ (exitSt P E f fn σ):=by
 unfold Am.exitSt;cases E.raw f with
 |true=>exact(Imp.norm f 1000000).trans (Imp.mvAll _ _)
 |false=>exact(Imp.norm f 1000000).trans (Imp.flatL _ _)
structure Sim (P:Program) (b q:Res):Prop where
 val:∀(ok:Nat->Prop)(w:World)(β:Nat->Option Value)(z:Value),RV P ok w β b.1 z->RV P ok w β q.1 z
 own:∀l,(lk q.2 l).isOwn=(lk b.2 l).isOwn
 obs:∀l(ok:Nat->Prop)(w:World)(β:Nat->Option Value)(v:Option Value),ObOK P ok w β (lk b.2 l) v->ObOK P ok w β (lk q.2 l) v
theorem Sim.refl(q:Res):Sim P q q:=⟨fun _ _ _ _ h=>h,fun _=>rfl,fun _ _ _ _ _ h=>h⟩
theorem FX_of{f:FuncId}{fn:Func}{c:Code}{args:List AV}{objs:List Ob}{m:Nat}{q:Res}{J:Nat->Nat->Nat->St->Option R->Option R}(hJ:JOK J)(hcall:CallOK P call)(hmix:P.follows .mixedOrders=true)(hf:P.funcs[f]? =some fn)(hc:fn.body=some c)(hlen':args.length<=fn.ntmps){dec:Res->Option R}
  (hd:∀(b:Res),dec b=some r->Sim P b q)
  (h:ev P E call J m f fn.ntmps c ⟨args,objs,objs.length⟩ (fun e σ=>(Sb P E f fn e σ).bind dec)=some r):FX P f args objs q.1 q.2:=by
 have hcw:=aeJ hJ hcall hmix m f c _ _ h;intro ok w β xs hok hobs hsep hxs htab;refine calls_of_wp hf hc ?_;have hxl:=hxs.len;have hkk:∀b,ok b->okOf ⟨ok,XO objs β,β,objs.length⟩ w w objs β b∧w.heap[b]? =w.heap[b]? :=fun b hb'=>⟨⟨(hok b hb').1,fun _=> .inl hb',fun l ho=>(hok b hb').2 ⟨l,ho⟩⟩,rfl⟩;have hrel:Rel P ⟨ok,XO objs β,β,objs.length⟩ w fn.ntmps ⟨args,objs,objs.length⟩ {tmps:=xs.toArray++Array.replicate (fn.ntmps-xs.toArray.size) undef,defers:=[]} w:=by
  refine⟨β,⟨by simp;omega,rfl,BelowX.refl _ _,fun k=>?_,fun l=>(hobs l).mono hkk (fun _ _ _ _ _=>rfl) (Ext.refl _),hsep,fun l b ho=> .inr ⟨l,ho⟩,fun l _=>rfl,rfl,htab.mono hkk⟩⟩;rcases Nat.lt_or_ge k xs.length with hlt|hge
  ·have e:(xs.toArray++Array.replicate (fn.ntmps-xs.toArray.size) undef).getD k undef=xs.getD k undef:=by rw[Array.getD_eq_getD_getElem?,Array.getElem?_append_left (by simpa using hlt)];simp[List.getD]
   rw[e];exact(hxs.tk k).mono hkk (Ext.refl _)
  ·have e:tk args k= .dead:=aeK _ _ (by omega);show RV P _ w β (tk args k) _;rw[e];trivial
 refine hcw _ w _ w hrel _ ?_;rintro e τ a' w' ⟨τ0,himp,hfin⟩ rr;obtain⟨β',r'⟩:=(himp.trans (Imp.exitSt (E:=E) f fn)) _ _ _ _ rr;obtain⟨b,hfin,hdec⟩:=ak.1 hfin;have hsim:=hd b hdec;have key:(e= .ret∨e= .normal)∧fin P E f fn (exitSt P E f fn τ0)=some b:=by
  unfold Sb at hfin;split at hfin;·exact⟨.inl rfl,hfin⟩
  ·exact⟨.inr rfl,hfin⟩
  ·cases hfin
 obtain⟨hek,hfin⟩:=key;obtain⟨z,β2,hrun,r2,hz⟩:=acv r' hfin;have hown:∀l b2,owns q.2 β2 l b2↔owns b.2 β2 l b2:=fun l b2=>by simp only[owns,hsim.own]
 have hoks:∀b2,okOf ⟨ok,XO objs β,β,objs.length⟩ w w' b.2 β2 b2->okOf ⟨ok,XO objs β,β,objs.length⟩ w w' q.2 β2 b2∧w'.heap[b2]? =w'.heap[b2]? :=fun b2 hb=>⟨⟨hb.1,hb.2.1,fun l hl=>hb.2.2 l ((hown l b2).1 hl)⟩,rfl⟩;have hF:FinX P ok w w' β β2 objs q.2:=⟨r2.below,fun l=>hsim.obs l _ _ _ _ ((r2.hs l).mono hoks (fun _ _ _ _ _=>rfl) (Ext.refl _)),fun l l' b2 h1 h2=>r2.sep l l' b2 ((hown _ _).1 h1) ((hown _ _).1 h2),fun l b2 h1=>r2.own l b2 ((hown _ _).1 h1),fun l hl=>r2.ext l hl⟩;have hz2:=hsim.val _ _ _ _ (hz.mono hoks (Ext.refl _));rcases hek with rfl|rfl;·exact⟨r'.defers,z,hrun,z,β2,rfl,hF,hz2⟩
 ·exact⟨r'.defers,z,hrun,z,β2,rfl,hF,hz2⟩
theorem GR(he:EnvOK P E):∀(m:Nat)(f:FuncId)(args:List AV)(objs:List Ob)(q:Res),run P E m f args objs=some q->FX P f args objs q.1 q.2∧HasBody P f
 |0,_,_,_,_,h=>by simp[run]at h
 |m+    1,f,args,objs,q,h=>by
  unfold run at h;split at h
  ·rename_i oc hoc;exact he.orc f oc args objs q hoc h
  ·split  at h
   ·    rename_i fn hfn;obtain⟨hf,hname⟩:=he.fns f fn hfn;split at h
        ·rename_i c hc;obtain⟨hlen,h⟩:=aN h;refine⟨?_,⟨fn,hf,by rw[hc];rfl,hname⟩⟩;refine FX_of (r:=q) (dec:=some) jn_ok (fun f args objs K r hr=>by obtain⟨q',h1,h2⟩:=ak.1 hr;exact⟨q',h2,GR he m f args objs q' h1⟩) he.mix hf hc (aK hlen) (fun b hb=>by cases hb;exact Sim.refl _) (E:=E) (m:=m+1) ?_
         have e:(fun e σ=>(Sb P E f fn e σ).bind some)=Sb P E f fn:=by funext e σ;cases Sb P E f fn e σ<;>rfl
         rw[e];exact h
        ·cases h
   ·cases h
end
def uZ:Code->List Nat->Code
 | .seq a _,0::p=>uZ a p
 | .seq _ b,_::p=>uZ b p
 | .cond _ a _,0::p=>uZ a p
 | .cond _ _ b,_::p=>uZ b p
 | .block _ c,_::p=>uZ c p
 | .loop c,_::p=>uZ c p
 | .scope c,_::p=>uZ c p
 |c,_=>c
section
variable{R:Type}(P:Program)(E:Env)(call:FuncId->List AV->List Ob->(Res->Option R)->Option R)(J:Nat->Nat->Nat->St->Option R->Option R)(m:Nat)(f:FuncId)(n:Nat)
def yY:Code->List Nat->List Nat->(Exit->St->Option R)->Exit->St->Option R
 | .seq a b,0::p,ms,k=>yY a p ms (ael (fun σ'=>nextK P E J f (nextId b) σ' fun s=>ev P E call J m f n b s k) k)
 | .seq _ b,_::p,ms,k=>yY b p ms k
 | .cond _ a _,0::p,ms,k=>yY a p ms k
 | .cond _ _ b,_::p,ms,k=>yY b p ms k
 | .block id c,_::p,ms,k=>yY c p ms (XD id k)
 | .loop c,_::p,M::ms,k=>yY c p ms (ael (fun σ'=>J 1 (firstId c) M (mZ P E f (firstId c) σ') (IX J (firstId c) (mZ P E f (firstId c)) (ev P E call J m f n c) M (mZ P E f (firstId c) σ') k)) k)
 | .scope c,_::p,ms,k=>yY c p ms (XE k)
 |_,_,_,k=>k
def finD(fn:Func)(dec:Res->Option R)(e:Exit)(σ:St):Option R:=(Sb P E f fn e σ).bind dec
def bodyOf(fn:Func):Code:=fn.body.getD .skip
def evAt(fn:Func)(dec:Res->Option R)(p ms:List Nat)(σ:St):Option R:=ev P E call J m f n (uZ (bodyOf fn) p) σ (yY P E call J m f n (bodyOf fn) p ms (finD P E f fn dec))
def aeL:Code->Code
 | .loop c=>c
 |c=>c
def loopAt(fn:Func)(dec:Res->Option R)(p ms:List Nat)(M:Nat)(σ:St):Option R:=
 IX J (firstId (aeL (uZ (bodyOf fn) p))) (mZ P E f (firstId (aeL (uZ (bodyOf fn) p)))) (ev P E call J m f n (aeL (uZ (bodyOf fn) p))) M σ (yY P E call J m f n (bodyOf fn) p ms (finD P E f fn dec))
end
def aou(ts:List AV):List (Nat×AV)->List AV
 | []=>ts
 |(k,v)::r=>aou (xR ts k v) r
def tsOf(l:List (Nat×AV)):List AV:=aou [] l
def jj{A:Type}(J:Nat->Nat->Nat->St->A->A)(a b c:Nat)(s:St)(e:St->A):A:=J a b c s (e s)
theorem aT{A:Type}(a b c:Nat)(s:St)(e:St->A):jj jn a b c s e=e s:=by rw[jj];rfl
section
variable{R:Type}{P:Program}{E:Env}{call:FuncId->List AV->List Ob->(Res->Option R)->Option R}{m n M:Nat}{f:FuncId}{fn:Func}{dec:Res->Option R}{p ms:List Nat}{σ:St}{g:(Nat->Nat->Nat->St->Option R->Option R)->Option R}{r:Option R}
end
end Go.Am
namespace Go.Am
open Go.RowKit Dt
section
variable{P:Program}{T:TypeId}{A:Type}{u v:AV}{us vs:List AV}
structure Cv (P:Program) (T:TypeId) (f:Dt->A) (g:A->Dt):Prop where
 rd:∀(ok:Nat->Prop)(w:World)(cs:List Value)(d:Dt),RD P ok w T d cs->RD P ok w T (g (f d)) cs
theorem Cv.int{k:IntKind}(hu:P.underlying T=some (.int k)):Cv P T toInt int:=⟨fun _ _ _ _ h=>by have:=(h.int_inv hu).1;rw[←this];exact h⟩
theorem Cv.bool(hu:P.underlying T=some .bool):Cv P T Dt.toBool bool:=⟨fun _ _ _ _ h=>by have:=(h.bool_inv hu).1;rw[←this];exact h⟩
theorem Cv.str(hu:P.underlying T=some .string):Cv P T toStr str:=⟨fun _ _ _ _ h=>by have:=(h.str_inv hu).1;rw[←this];exact h⟩
theorem Cv.lst{E:TypeId}(hu:P.underlying T=some (.slice E)):Cv P T toLst lst:=⟨fun _ _ _ _ h=>by have:=(h.lst_inv hu).1;rw[←this];exact h⟩
theorem Cv.dt:Cv P T (fun d:Dt=>d) (fun d=>d):=⟨fun _ _ _ _ h=>h⟩
structure Cn (P:Program) (u v:AV):Prop where
 ra:∀(ok:Nat->Prop)(w:World)(β:Nat->Option Value)(cs:List Value),RA P ok w β u cs->RA P ok w β v cs
 ag:v.isAgg P=u.isAgg P
theorem Cn.same:Cn P u u:=⟨fun _ _ _ _ h=>h,rfl⟩
theorem Cn.dat{f:Dt->A}{g:A->Dt}{d:Dt}(h:Cv P T f g):Cn P (.dat T d) (.dat T (g (f d))):=
 ⟨fun ok w β cs hr=>by cases hr with|dat hr=>exact .dat (h.rd ok w cs d hr),rfl⟩
structure CnL (P:Program) (us vs:List AV):Prop where
 len:vs.length=us.length
 get:∀(i:Nat)(v:AV),vs[i]? =some v->∃u,us[i]? =some u∧Cn P u v
theorem CnL.nil:CnL P [] []:=⟨rfl,fun i v h=>by simp at h⟩
theorem CnL.cons(h:Cn P u v)(r:CnL P us vs):CnL P (u::us) (v::vs):=⟨by simp[r.len],fun i x hx=>by
 cases i with
 |zero=>simp only[bf,aH]at hx;subst hx;exact⟨u,rfl,h⟩
 |succ i=>simpa using r.get i x (by simpa using hx)⟩
theorem Cn.agg(h:CnL P us vs):Cn P (.agg T us) (.agg T vs):=⟨fun ok w β cs hr=>by
 cases hr with
 |agg hu hl hc h1 hh=>
  refine .agg hu (by rw[h.len];exact hl) hc h1 fun i f v hf hv=>?_;obtain⟨u,h2,h3⟩:=h.get i v hv;exact h3.ra _ _ _ _ (hh i f u hf h2),rfl⟩
theorem Cn.fn{f:FuncId}(h:CnL P us vs):Cn P (.fn f us) (.fn f vs):=⟨fun ok w β cs hr=>by
 cases hr with
 |fn hl hh=>
  refine .fn (by rw[h.len];exact hl) fun i v hv=>?_;obtain⟨u,h2,h3⟩:=h.get i v hv;exact h3.ra _ _ _ _ (hh i u h2),rfl⟩
theorem Cn.ifc(h:Cn P u v):Cn P (.ifc T u) (.ifc T v):=⟨fun ok w β cs hr=>by
 cases hr with
 |ifc1 hi hh=>exact .ifc1 (by rw[h.ag];exact hi) (h.ra _ _ _ _ hh)
 |ifcA hi hh=>exact .ifcA (by rw[h.ag];exact hi) (h.ra _ _ _ _ hh),rfl⟩
theorem Cn.rv1(h:Cn P u v){ok:Nat->Prop}{w:World}{β:Nat->Option Value}{z:Value}(hr:RV1 P ok w β u z):RV1 P ok w β v z:=
 ⟨fun hi=>by obtain⟨cs,e,q⟩:=hr.1 (by rw[←h.ag];exact hi);exact⟨cs,e,h.ra _ _ _ _ q⟩,fun hi=>h.ra _ _ _ _ (hr.2 (by rw[←h.ag];exact hi))⟩
structure CnR (P:Program) (u v:AV):Prop where
 rv:∀(ok:Nat->Prop)(w:World)(β:Nat->Option Value)(z:Value),RV P ok w β u z->RV P ok w β v z
def AV.plainB:AV->Bool
 | .tup _=>false
 | .dead=>false
 |_=>true
theorem CnR.of(h:Cn P u v)(hu:u.plainB=true)(hv:v.plainB=true):CnR P u v:=⟨fun ok w β z hz=>by have h1:RV1 P ok w β u z:=RV.to1 (by rintro rfl;cases hu) (by rintro us rfl;cases hu) hz;exact(h.rv1 h1).toRV (by rintro us rfl;cases hv)⟩
theorem CnR.same:CnR P u u:=⟨fun _ _ _ _ h=>h⟩
theorem CnR.tup(h:CnL P us vs):CnR P (.tup us) (.tup vs):=⟨fun ok w β z hz=>by obtain⟨arr,e,hs,hr⟩:=hz;refine⟨arr,e,by rw[h.len];exact hs,fun i v hv=>?_⟩;obtain⟨u,h2,h3⟩:=h.get i v hv;exact h3.rv1 (hr i u h2)⟩
inductive CnA (P:Program):List AV->List AV->Prop where
 |nil:CnA P [] []
 |cons {u v:AV} {us vs:List AV} (h:CnR P u v) (r:CnA P us vs):CnA P (u::us) (v::vs)
theorem CnA.rvs(h:CnA P us vs){ok:Nat->Prop}{w:World}{β:Nat->Option Value}:∀{zs:List Value},RVsX P ok w β us zs->RVsX P ok w β vs zs:=by
 induction h with
 |nil=>intro zs h;exact h
 |cons hc _ ih=>
  intro zs hz;cases hz with
  |cons h1 h2=>exact .cons (hc.rv _ _ _ _ h1) (ih h2)
structure CnO (P:Program) (o o':Ob):Prop where
 own:o'.isOwn=o.isOwn
 obs:∀(ok:Nat->Prop)(w:World)(β:Nat->Option Value)(v:Option Value),ObOK P ok w β o v->ObOK P ok w β o' v
theorem CnO.same{o:Ob}:CnO P o o:=⟨rfl,fun _ _ _ _ h=>h⟩
theorem CnO.box(h:Cn P u v):CnO P (.box T u) (.box T v):=⟨rfl,fun ok w β x ⟨b,cs,h1,h2,h3,h4⟩=>⟨b,cs,h1,h2,h3,h.ra _ _ _ _ h4⟩⟩
inductive CnOL (P:Program):List Ob->List Ob->Prop where
 |nil:CnOL P [] []
 |cons {o o':Ob} {os os':List Ob} (h:CnO P o o') (r:CnOL P os os'):CnOL P (o::os) (o'::os')
theorem CnOL.len{os os':List Ob}(h:CnOL P os os'):os'.length=os.length:=by
 induction h with
 |nil=>rfl
 |cons _ _ ih=>simp[ih]
theorem CnOL.get{os os':List Ob}(h:CnOL P os os'):∀l,CnO P (lk os l) (lk os' l):=by
 induction h with
 |nil=>intro l;exact .same
 |cons h _ ih=>
  intro l;cases l with
  |zero=>exact h
  |succ l=>exact ih l
theorem Sim.of{a b:AV}{os os':List Ob}(h:CnR P a b)(ho:CnOL P os os'):Sim P (a,os) (b,os'):=
 ⟨h.rv,fun l=>(ho.get l).own,fun l=>(ho.get l).obs⟩
theorem FX.conv{f:FuncId}{args args':List AV}{objs objs' hs':List Ob}{res:AV}(h:FX P f args' objs' res hs')(ha:CnA P args args')(ho:CnOL P objs objs'):FX P f args objs res hs':=by
 intro ok w β zs h1 h2 h3 h4 h5;have hown:∀l b,owns objs' β l b↔owns objs β l b:=fun l b=>by simp only[owns,(ho.get l).own]
 have hX:XO objs' β=XO objs β:=by funext b;apply propext;exact⟨fun⟨l,hl⟩=>⟨l,(hown l b).1 hl⟩,fun⟨l,hl⟩=>⟨l,(hown l b).2 hl⟩⟩
 have hc:=h ok w β zs (fun b hb=>by rw[hX];exact h1 b hb) (fun l=>(ho.get l).obs _ _ _ _ (h2 l)) (fun l l' b q1 q2=>h3 l l' b ((hown _ _).1 q1) ((hown _ _).1 q2)) (ha.rvs h4) h5;refine hc.mono ?_;rintro e w' ⟨v,β',rfl,hf,hr⟩;obtain⟨f1,f2,f3,f4,f5⟩:=hf;rw[hX,ho.len]at f2 hr;rw[hX]at f1;exact⟨v,β',rfl,⟨f1,f2,f3,fun l b q=>by have:=f4 l b q;rwa [hX]at this,fun l hl=>f5 l (by rw[ho.len];exact hl)⟩,hr⟩
def natsB:List Nat->List Nat->Bool
 | [],[]=>true
 |a::r,b::s=>Nat.beq a b&&natsB r s
 |_,_=>false
theorem sW:∀{a b:List Nat},natsB a b=true->a=b
 | [],[],_=>rfl
 |a::r,b::s,h=>by have h1:=beq_eq (bg h);have h2:=sW (aO h);rw[h1,h2]
 | [],_::_,h=>by cases h
 |_::_,[],h=>by cases h
end
end Go.Am
namespace Go.Am
inductive SK where
 |l|i|b|s|a
inductive SA where
 |d (T:TypeId) (k:SK)
 |f (F:FuncId)
inductive SR where
 |d (T:TypeId) (k:SK)
 |t (l:List (TypeId×SK))
abbrev SK.T:SK->Type
 | .l=>List Dt
 | .i=>Int
 | .b=>Bool
 | .s=>ByteArray
 | .a=>Dt
def SK.w:(k:SK)->k.T->Dt
 | .l,x=> .lst x
 | .i,x=> .int x
 | .b,x=> .bool x
 | .s,x=> .str x
 | .a,x=>x
def SK.g:(k:SK)->Dt->k.T
 | .l,x=>x.toLst
 | .i,x=>x.toInt
 | .b,x=>x.toBool
 | .s,x=>x.toStr
 | .a,x=>x
def SK.ok(P:Program)(T:TypeId):SK->Prop
 | .l=>∃E,P.underlying T=some (.slice E)
 | .i=>∃k,P.underlying T=some (.int k)
 | .b=>P.underlying T=some .bool
 | .s=>P.underlying T=some .string
 | .a=>True
theorem SK.cn{P:Program}{T:TypeId}:∀{k:SK},k.ok P T->∀x:Dt,Cn P (.dat T x) (.dat T (k.w (k.g x)))
 | .l,⟨_,h⟩,_=> .dat (.lst h)
 | .i,⟨_,h⟩,_=> .dat (.int h)
 | .b,h,_=> .dat (.bool h)
 | .s,h,_=> .dat (.str h)
 | .a,_,_=> .same
def TT:List (TypeId×SK)->Type
 | []=>Unit
 | [p]=>p.2.T
 |p::q::r=>p.2.T×TT (q::r)
def TT.w:(l:List (TypeId×SK))->TT l->List AV
 | [],_=>[]
 | [p],x=>[.dat p.1 (p.2.w x)]
 |p::q::r,x=> .dat p.1 (p.2.w x.1)::TT.w (q::r) x.2
def acw(T:TypeId)(k:SK):AV->Option k.T
 | .dat S x=>bif Nat.beq S T then some (k.g x)else none
 |_=>none
theorem Ka{P:Program}{T:TypeId}{k:SK}{v:AV}{y:k.T}(ho:k.ok P T)(h:acw T k v=some y):Cn P v (.dat T (k.w y))∧v.plainB=true:=by
 unfold acw at h;split at h
 ·obtain⟨h1,h2⟩:=aN h;cases h2;cases beq_eq h1;exact⟨SK.cn ho _,rfl⟩
 ·cases h
def TT.g:(l:List (TypeId×SK))->List AV->Option (TT l)
 |  [],as=>match as with
    | []=>some ()
    |_::_=>none
 |  [p],as=>match as with
    | [v]=>acw p.1 p.2 v
    |_=>none
 |  p::q::r,as=>match as with
    |v::as=>(acw p.1 p.2 v).bind fun x=>(TT.g (q::r) as).bind fun y=>some (x,y)
    | []=>none
def SR.T:SR->Type
 | .d _ k=>k.T
 | .t l=>TT l
def SR.w:(s:SR)->s.T->AV
 | .d T k,x=> .dat T (k.w x)
 | .t l,x=> .tup (TT.w l x)
def SR.g:(s:SR)->Res->Option s.T
 |  .d T k,q=>match q with
    |(v,[])=>acw T k v
    |_=>none
 |  .t l,q=>match q with
    |(.tup as,[])=>TT.g l as
    |_=>none
def al6(P:Program):List (TypeId×SK)->Prop
 | []=>True
 |p::r=>p.2.ok P p.1∧al6 P r
def SR.ok(P:Program):SR->Prop
 | .d T k=>k.ok P T
 | .t l=>al6 P l
theorem TT.cn{P:Program}:∀{l:List (TypeId×SK)}{as:List AV}{y:TT l},al6 P l->TT.g l as=some y->CnL P as (TT.w l y)
 | [],as,y,_,h=>by
   cases as with
   |nil=>exact .nil
   |cons _ _=>cases h
 | [p],as,y,ho,h=>by
   match as,h with
   | [v],h=>exact .cons (Ka ho.1 h).1 .nil
   | [],h=>cases h
   |_::_::_,h=>cases h
 | p::q::r,as,y,ho,h=>by
   match as,h with
   |v::as,h=>
    obtain⟨x,h1,h2⟩:=ak.1 h;obtain⟨z,h3,h4⟩:=ak.1 h2;cases h4;exact .cons (Ka ho.1 h1).1 (TT.cn ho.2 h3)
   | [],h=>cases h
theorem SR.sim{P:Program}:∀{s:SR}{q:Res}{r:s.T},s.ok P->s.g q=some r->Sim P q (s.w r,[])
 | .d T k,q,r,ho,h=>by
   match q,h with
   |(v,[]),h=>
    obtain⟨h1,h2⟩:=Ka ho h;exact Sim.of (.of h1 h2 rfl) .nil
   |(_,_::_),h=>cases h
 | .t l,q,r,ho,h=>by
   match q,h with
   |(.tup as,[]),h=>exact Sim.of (.tup (TT.cn ho h)) .nil
   |(.tup _,_::_),h=>cases h
   |(.dat ..,_),h=>cases h
def CF:List SA->Type->Type
 | [],R=>R
 | .d _ k::t,R=>k.T->CF t R
 | .f _::t,R=>CF t R
def ap{R:Type}:(sh:List SA)->CF sh (Option R)->List AV->Option R
 |  [],F,as=>match as with
    | []=>F
    |_::_=>none
 |  .d T k::t,F,as=>match as with
    |v::as=>(acw T k v).bind fun x=>ap t (F x) as
    | []=>none
 |  .f c::t,F,as=>match as with
    | .fn d []::as=>bif Nat.beq d c then ap t F as else none
    |_=>none
def oksA(P:Program):List SA->Prop
 | []=>True
 | .d T k::r=>k.ok P T∧oksA P r
 | .f _::r=>oksA P r
def FG(P:Program)(f:FuncId)(s:SR):(sh:List SA)->CF sh (Option s.T)->(List AV->List AV)->Prop
 | [],F,k=>∀r,F=some r->FX P f (k []) [] (s.w r) []
 | .d T j::t,F,k=>∀x:j.T,FG P f s t (F x) fun as=>k (.dat T (j.w x)::as)
 | .f c::t,F,k=>FG P f s t F fun as=>k (.fn c []::as)
theorem aeM{P:Program}{f:FuncId}{s:SR}{r:s.T}:∀{sh:List SA}{F:CF sh (Option s.T)}{k:List AV->List AV}{as:List AV},oksA P sh->FG P f s sh F k->ap sh F as=some r->∃vs,CnA P as vs∧FX P f (k vs) [] (s.w r) []
 | [],F,k,as,_,hf,h=>by
   cases as with
   |nil=>exact⟨[],.nil,hf r h⟩
   |cons _ _=>cases h
 | .d T j::t,F,k,as,ho,hf,h=>by
   cases as with
   |nil=>cases h
   | cons v as=>
     obtain⟨x,h1,h2⟩:=ak.1 h;obtain⟨vs,h3,h4⟩:=aeM ho.2 (hf x) h2;obtain⟨h5,h6⟩:=Ka ho.1 h1;exact⟨_,.cons (.of h5 h6 rfl) h3,h4⟩
 | .f c::t,F,k,as,ho,hf,h=>by
   match as,h with
   | .fn d []::as,h=>
     obtain⟨h1,h2⟩:=aN h;cases beq_eq h1;obtain⟨vs,h3,h4⟩:=aeM (sh:=t) ho hf h2;exact⟨_,.cons .same h3,h4⟩
   | [],h=>cases h
structure Ent where
 sh:List SA
 s:SR
 F:CF sh (Option s.T)
def Ent.run{R:Type}(e:Ent)(args:List AV)(objs:List Ob)(K:Res->Option R):Option R:=match objs with
 | []=>(ap e.sh e.F args).bind fun r=>K (e.s.w r,[])
 |_::_=>none
structure EOK (P:Program) (f:FuncId) (e:Ent):Prop where
 ok:oksA P e.sh
 fx:FG P f e.s e.sh e.F fun l=>l
 hb:HasBody P f
theorem EOK.run{P:Program}{f:FuncId}{e:Ent}{R:Type}{args:List AV}{objs:List Ob}{K:Res->Option R}{r:R}(he:EOK P f e)(h:e.run args objs K=some r):∃q:Res,K q=some r∧FX P f args objs q.1 q.2∧HasBody P f:=by
 unfold Ent.run at h;cases objs with
 |nil=>
  obtain⟨x,h1,h2⟩:=ak.1 h;obtain⟨vs,h3,h4⟩:=aeM he.ok he.fx h1;exact⟨_,h2,h4.conv h3 .nil,he.hb⟩
 |cons _ _=>cases h
theorem EOK.st{P:Program}{f n:FuncId}{a e:Ent}{b:Option Ent}(h1:EOK P n a)(h2:b=some e->EOK P f e)(h:(bif Nat.beq f n then some a else b)=some e):EOK P f e:=by
 cases hb:Nat.beq f n with
 |true=>rw[hb]at h;cases h;cases beq_eq hb;exact h1
 |false=>rw[hb]at h;exact h2 h
def FZ{R:Type}:(sh:List SA)->CF sh (Option R)->Prop
 | [],F=>F=none
 | .d _ j::t,F=>∀x:j.T,FZ t (F x)
 | .f _::t,F=>FZ t F
theorem FZ.fg{P:Program}{f:FuncId}{s:SR}:∀{sh:List SA}{F:CF sh (Option s.T)}{k:List AV->List AV},FZ sh F->FG P f s sh F k
 | [],F,k,h=>by intro r h1;have h:F=none:=h;rw[h]at h1;cases h1
 | .d _ j::t,F,k,h=>fun x=>FZ.fg (h x)
 | .f _::t,F,k,h=>FZ.fg (sh:=t) h
