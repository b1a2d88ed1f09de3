/- The abstract machine, part 10: the machine itself.
The abstract machine,part 11:regions,code,functions.
The abstract machine,part 12:what the helpers compute is so.
The abstract machine,part 13:each operation of the machine is so in the model.
The abstract machine,part 14:each operation of the machine is so in the model,continued.
The abstract machine,part 15:slice literals,append,calls.
The abstract machine,part 16:calls.
The abstract machine,part 17:regions.
The abstract machine:a region of four operations whose two stores may come in either order.
The abstract machine,part 18:THE SOUNDNESS OF THE MACHINE.
The abstract machine,part 19:places in a function's code;results as plain values.
The abstract machine,part 20:values in their plain forms (a type's data as Lean values).
The abstract machine,part G:contracts as a table (a function's arguments and results by their kinds). -/
import Derived.Test.YtmecfjhdnbgfeaaGreatDoorA2
set_option linter.all false
namespace Go.Am
open Go.RowKit
abbrev Res:=AV×List Ob
structure Env where
 dt:List TypeId
 fns:FuncId->Option Func
 keep:FuncId->Nat->Option (List Nat×List Nat×List Nat)
 raw:FuncId->Bool
 own:FuncId->Bool
 lnd:FuncId->Bool
 nd:FuncId->List Nat:=fun _=>[]
 pkb:FuncId->Bool:=fun _=>false
 nest:Oper->Bool:=fun _=>false
 rdo:FuncId->Bool:=fun _=>false
 sld:Oper->Bool:=fun _=>false
 npk:TypeId->Bool:=fun _=>false
 fzc:FuncId->Bool:=fun _=>false
 pty:TypeId->Option TypeId:=fun _=>none
 orc:FuncId->Option (List AV->List Ob->Option (AV×List Ob))
def avF(av:TypeId->List Value->Option AV)(P:Program)(cs:List Value):List Field->Option (List AV)
 | []=>some []
 |  f::fs=>match avF av P cs fs with
    |some vs=>some ((match av f.type ((cs.drop f.offset).take (P.cellsOf f.type))with
     |some v=>v
     |none=> .dead)::vs)
    |none=>none
def avC(P:Program):Nat->TypeId->List Value->Option AV
 |0,_,_=>none
 |  k+1,T,cs=>match P.underlying T with
    |some (.int q)=>match cs with
     | [.int q' m]=>bif (decide (q=q')&&(decide (q.min<=m)&&decide (m<=q.max)))then some (.dat T (.int m))else none
     |_=>none
    |some .bool=>match cs with
     | [.bool b]=>some (.dat T (.bool b))
     |_=>none
    |some .string=>match cs with
     | [.string s]=>bif Nat.ble s.size maxLen then some (.dat T (.str s))else none
     |_=>none
    |some (.slice _)=>match cs with
     | [.slice none 0 0]=>some (.nils T)
     |_=>none
    |some (.struct fs)=>bif (Nat.beq cs.length (P.cellsOf T)&&cs.all (·.oneCell'))then(match avF (avC P k) P cs fs.toList with
     |some vs=>some (.agg T vs)
     |none=>none)else none
    |some (.interface _)=>match cs with
     | [.nilIface]=>some (.nif true)
     |_=>none
    |some (.pointer _)=>match cs with
     | [.pointer none]=>some (.dat T (.lst []))
     |_=>none
    |_=>none
def FP:Value->Bool
 | .agg _=>true
 |_=>false
def cst(P:Program)(v:Value):List TypeId->AV
 | []=> .dead
 |  T::r=>match avC P 8 T v.cells.toList with
    |some a=>bif FP v==eu P T then a else .dead
    |none=>cst P v r
def zeroV(P:Program)(T:TypeId):Option AV:=match P.info? T with
 |  some i=>match i.zero with
    |some z=>bif Nat.beq z.cells.size (P.cellsOf T)then avC P 8 T z.cells.toList else none
    |none=>none
 |none=>none
def opd(P:Program)(D:List TypeId)(σ:St)(T:TypeId):Operand->AV
 | .tmp t=>tk σ.ts t
 | .const v=>cst P v (T::D)
 | .func f=> .fn f []
 | .global _=> .dead
def dw(P:Program)(D:List TypeId)(σ:St):List TypeId->List Operand->List AV
 |T::Ts,x::xs=>opd P D σ T x::dw P D σ Ts xs
 |_,_=>[]
def Y7(P:Program):AV->Option Bool
 |  .dat T d=>match P.underlying T with
    |some .bool=>some d.toBool
    |_=>none
 |_=>none
def ival(P:Program):AV->Option (TypeId×IntKind×Int)
 |  .dat T d=>match P.underlying T with
    |some (.int k)=>some (T,k,d.toInt)
    |_=>none
 |_=>none
def Oe(P:Program):AV->Option (TypeId×ByteArray)
 |  .dat T d=>match P.underlying T with
    |some .string=>some (T,d.toStr)
    |_=>none
 |_=>none
def lval(P:Program)(hs:List Ob)(v:AV):Option (TypeId×TypeId×List Dt):=match pk P hs v with
 |  some (T,d)=>match P.underlying T with
    |some (.slice E)=>some (T,E,d.toLst)
    |_=>none
 |none=>none
def isB(P:Program)(T:TypeId):Bool:=match P.underlying T with
 |some .bool=>true
 |_=>false
def bT(P:Program):List TypeId->Option TypeId
 | []=>none
 |T::r=>bif isB P T then some T else bT P r
def isI(P:Program)(T:TypeId)(k:IntKind):Bool:=match P.underlying T with
 |some (.int k')=>decide (k'=k)
 |_=>false
def isS(P:Program)(T:TypeId):Bool:=match P.underlying T with
 |some .string=>true
 |_=>false
def slE(P:Program)(T:TypeId):Option TypeId:=match P.underlying T with
 |some (.slice E)=>some E
 |_=>none
def stF(P:Program)(T:TypeId):Option (Array Field):=match P.underlying T with
 |some (.struct fs)=>some fs
 |_=>none
def szA(P:Program)(T:TypeId):AV->Bool
 |  .dat T' _=>match P.underlying T' with
    |some (.struct _)=>Nat.beq (P.cellsOf T') (P.cellsOf T)
    |some (.array _ _)=>Nat.beq (P.cellsOf T') (P.cellsOf T)
    |some _=>Nat.beq (P.cellsOf T) 1
    |none=>false
 |  .agg T' _=>match P.underlying T' with
    |some (.struct _)=>Nat.beq (P.cellsOf T') (P.cellsOf T)
    |_=>false
 | .dead=>false
 | .tup _=>false
 |_=>Nat.beq (P.cellsOf T) 1
def szB(P:Program)(T:TypeId)(v:AV):Bool:=(P.underlying T).isSome&&szA P T v
def getAt(P:Program):TypeId->AV->List Nat->Option (TypeId×Nat×AV)
 |S,c,[]=>some (S,0,c)
 |  S,.agg S' vs,i::p=>match stF P S with
    |some fs=>match fs[i]? with
     |some f=>match vs[i]? with
      |some v=>bif (Nat.beq S' S&&Nat.ble (f.offset+P.cellsOf f.type) (P.cellsOf S))then(match getAt P f.type v p with
       |some (T,q,r)=>some (T,f.offset+q,r)
       |none=>none)else none
      |none=>none
     |none=>none
    |none=>none
 |  S,.dat S' d,i::p=>match stF P S with
    |some fs=>match fs[i]? with
     |some f=>bif (Nat.beq S' S&&Nat.ble (f.offset+P.cellsOf f.type) (P.cellsOf S))then(match getAt P f.type (.dat f.type (d.fld i)) p with
       |some (T,q,r)=>some (T,f.offset+q,r)
       |none=>none)else none
     |none=>none
    |none=>none
 |_,_,_::_=>none
def setAt(P:Program)(T':TypeId)(v:AV):TypeId->AV->List Nat->Option (Nat×AV)
 |S,_,[]=>bif Nat.beq S T' then some (0,v)else none
 |  S,c,i::p=>match stF P S with
    |some fs=>match fs[i]? with
     |some f=>match (match c with
        | .agg S' vs=>bif Nat.beq S' S then some vs else none
        | .dat S' d=>bif Nat.beq S' S then some (expl P fs d)else none
        |_=>none:Option (List AV))with
      | some vs=>match vs[i]? with
        |some old=>bif layB P S fs then(match setAt P T' v f.type old p with
         |some (q,new)=>some (f.offset+q,.agg S (vs.set i new))
         |none=>none)else none
        |none=>none
      |none=>none
     |none=>none
    |none=>none
def AV.canon(P:Program):AV->AV
 | .dat T d=> .dat T (canD P T d)
 |v=>v
structure Dl where
 v:Option AV
 rd:List Nat
 wr:List (Nat×Ob)
def wrO(hs:List Ob):List (Nat×Ob)->List Ob
 | []=>hs
 |(l,o)::r=>wrO (bI hs l o) r
def agJ(ts:List AV):Option Nat->Option AV->List AV
 |some d,some v=>zT ts d v
 |_,_=>ts
def St.app(σ:St)(dst:Option Nat)(Y:Dl):St:=⟨agJ σ.ts dst Y.v,wrO σ.hs Y.wr,σ.k0⟩
mutual
def AV.nms:AV->List Nat
 | .agg _ vs=>AV.nmsL vs
 | .row l=>[l]
 | .ptr l _ _=>[l]
 | .eptr l _ _ _ _=>[l]
 | .fn _ vs=>AV.nmsL vs
 | .tup vs=>AV.nmsL vs
 | .ifc _ v=>AV.nms v
 |_=>[]
def AV.nmsL:List AV->List Nat
 | []=>[]
 |v::r=>AV.nms v++AV.nmsL r
end
mutual
def AV.rws:AV->List Nat
 | .agg _ vs=>AV.rwsL vs
 | .row l=>[l]
 | .tup vs=>AV.rwsL vs
 | .ifc _ v=>AV.rws v
 |_=>[]
def AV.rwsL:List AV->List Nat
 | []=>[]
 |v::r=>AV.rws v++AV.rwsL r
end
def Ob.nms:Ob->List Nat
 | .box _ c=>c.nms
 | .rowA _ vs=>AV.nmsL vs
 | .rowD _ _ _ k _ none=>[k]
 | .rowD _ _ _ k _ (some (_,l))=>[k,l]
 |_=>[]
def reach(hs:List Ob):Nat->List Nat->List Nat->List Nat
 |0,_,acc=>acc
 |_+1,[],acc=>acc
 |k+1,l::todo,acc=>bif qb l acc then reach hs k todo acc else reach hs k ((lk hs l).nms++todo) (acc++[l])
def Uh(hs:List Ob)(T2 k:Nat):List Nat->Option (List Dt)
 | []=>none
 |  k'::_=>match lk hs k' with
    | .tok T4 ls=>bif Nat.beq k' k&&Nat.beq T4 T2 then some ls else none
    |_=>none
def frzW(hs:List Ob):List Nat->List (Nat×Ob)
 | []=>[]
 |  l ::r=>match lk hs l with
    | .row T es=>(l,.frz T es)::frzW (bI hs l (.frz T es)) r
    | .rowD T T2 c k es none=>match Uh hs T2 k r with
      |some ls=>(l,.row T (frzD c es ls))::(k,.gone)::(l,.frz T (frzD c es ls))::frzW (bI (bI (bI hs l (.row T (frzD c es ls))) k .gone) l (.frz T (frzD c es ls))) r
      |none=>frzW hs r
    |_=>frzW hs r
def agK(P:Program)(pty:TypeId->Option TypeId)(hs:List Ob)(l:Nat):Option Ob:=match lk hs l with
 |  .box T c=>match pty T with
    |some PT=>match ppE P PT with
     |some T2=>match pk P hs c with
      |some (T',d)=>bif (Nat.beq T' T&&Nat.beq T2 T)then some (.frz PT [d])else none
      |none=>none
     |none=>none
    |none=>none
 |_=>none
def fzbW(P:Program)(pty:TypeId->Option TypeId)(hs:List Ob):List Nat->List (Nat×Ob)
 | []=>[]
 |  l::r=>match agK P pty hs l with
    |some o=>(l,o)::fzbW P pty (bI hs l o) r
    |none=>fzbW P pty hs r
def iZ:List AV->List Nat
 | []=>[]
 |  v::r=>(match v with
    | .ptr l [] 0=>[l]
    |_=>[])++iZ r
def pkZ(hs:List Ob)(v:AV):AV:=match v with
 |  .ptr l [] 0=>(match lk hs l with
    | .frz T es=> .dat T (.lst es)
    |_=>v)
 |v=>v
def aiJ(k:Nat):List TypeId->List (Nat×Ob)
 | []=>[]
 |T::r=>(k,.row T [])::aiJ (k+1) r
def yx(ρ:Nat->Option Nat)(nm:Nat):List Nat->List Ob->List (Nat×Ob)
 |_,[]=>[]
 | [],o::os=>(nm,o.ren ρ)::yx ρ (nm+1) [] os
 |l::src,o::os=>(l,o.ren ρ)::yx ρ nm src os
def Wz:AV->Bool
 | .nils _=>true
 |_=>false
def pkA(P:Program)(b:Bool)(hs:List Ob)(v:AV):AV:=bif (b&&Wz v)then v else match pk P hs v with
 |some (T,d)=> .dat T d
 |none=>v
def dn1(P:Program)(v:AV):AV:=match v with
 |  .nils T=>match P.underlying T with
    |some (.slice _)=> .dat T (.lst [])
    |_=>v
 |_=>v
def dnL(P:Program)(ps:List Nat):Nat->List AV->List AV
 |_,[]=>[]
 |k,v::r=>(bif qb k ps then dn1 P v else v)::dnL P ps (k+1) r
def uf(P:Program)(hs:List Ob)(v:AV):AV:=match v with
 |  .ptr l [] 0=>match lk hs l with
    | .box T c=>match pk P hs c with
      |some (T',d)=>bif Nat.beq T' T then .rptr T d else v
      |none=>v
    |_=>v
 |_=>v
def CQ(P:Program)(hs:List Ob)(v:AV):AV:=match v with
 | .fn f caps=> .fn f (caps.map (uf P hs))
 |_=>uf P hs v
def Nn(hs:List Ob):List Nat->List Nat
 | []=>[]
 |  l::r=>(match lk hs l with
    | .rowD _ _ _ k _ _=>[l,k]
    |_=>[l])++Nn hs r
def dN(hs:List Ob):List Nat->List Nat
 | []=>[]
 |  l::r=>(match lk hs l with
    | .box _ c=>Nn hs c.rws
    |_=>[])++dN hs r
def upto:Nat->Nat->List Nat
 |_,0=>[]
 |k,m+1=>k::upto (k+1) m
def allNames(hs:List Ob):List Nat->Bool
 | []=>true
 |  l::r=>(match lk hs l with
    | .free=>false
    |_=>true)&&allNames hs r
def Y8(P:Program):List AV->Bool
 | []=>true
 |  v::r=>(match v with
    | .tup _=>false
    | .dead=>false
    |v=>!v.isAgg P)&&Y8 P r
section
variable{R:Type}(P:Program)(E:Env)(call:FuncId->List AV->List Ob->(Res->Option R)->Option R)
def out(n:Nat)(o:Oper)(v:AV)(rd:List Nat)(wr:List (Nat×Ob))(k:Dl->Option R):Option R:=match o.dst with
 |some d=>bif Nat.blt d n then k ⟨some v,rd,wr⟩else none
 |none=>none
def abF(o:Oper)(rd:List Nat)(wr:List (Nat×Ob))(k:Dl->Option R):Option R:=match o.dst with
 |some _=>none
 |none=>k ⟨none,rd,wr⟩
def new(σ:St)(k:Nat->Option R):Option R:=bif Nat.ble σ.k0 σ.hs.length then k σ.hs.length else none
def aiK(n:Nat)(o:Oper)(op:BinOp)(T:TypeId)(q:IntKind)(a b:Int)(k:Dl->Option R):Option R:=
 let cmp (r:Bool):Option R:=match bT P (o.type::E.dt)with
    |some TB=>out n o (.dat TB (.bool r)) [] [] k
    |none=>none
 match op with
 | .add=>out n o (.dat T (.int (q.wrap (a+b)))) [] [] k
 | .sub=>out n o (.dat T (.int (q.wrap (a-b)))) [] [] k
 | .mul=>out n o (.dat T (.int (q.wrap (a*b)))) [] [] k
 | .quo=>bif decide (b=0)then none else out n o (.dat T (.int (q.wrap (a.tdiv b)))) [] [] k
 | .rem=>bif decide (b=0)then none else out n o (.dat T (.int (a.tmod b))) [] [] k
 | .and=>out n o (.dat T (.int (andI q a b))) [] [] k
 | .or=>out n o (.dat T (.int (orI q a b))) [] [] k
 | .xor=>out n o (.dat T (.int (xorI q a b))) [] [] k
 | .andNot=>out n o (.dat T (.int (bicI q a b))) [] [] k
 | .lss=>cmp (decide (a<b))
 | .leq=>cmp (decide (a<=b))
 | .gtr=>cmp (decide (b<a))
 | .geq=>cmp (decide (b<=a))
 | .eql=>cmp (a==b)
 | .neq=>cmp (a !=b)
 |_=>none
def aiL(n:Nat)(o:Oper)(op:BinOp)(T:TypeId)(a b:ByteArray)(k:Dl->Option R):Option R:=
 let cmp (r:Bool):Option R:=match bT P (o.type::E.dt)with
    |some TB=>out n o (.dat TB (.bool r)) [] [] k
    |none=>none
 match op with
 | .add=>bif Nat.ble (a.size+b.size) 1152921504606846976 then out n o (.dat T (.str (a++b))) [] [] k else none
 | .lss=>cmp (Op.bytesLess a.toList b.toList)
 | .eql=>cmp (a.toList==b.toList)
 | .neq=>cmp (!(a.toList==b.toList))
 |_=>none
def abG(n:Nat)(o:Oper)(op:BinOp)(a b:Bool)(k:Dl->Option R):Option R:=
 let cmp (r:Bool):Option R:=match bT P (o.type::E.dt)with
    |some TB=>out n o (.dat TB (.bool r)) [] [] k
    |none=>none
 match op with
 | .eql=>cmp (a==b)
 | .neq=>cmp (!(a==b))
 |_=>none
def RJ(σ:St)(fs:Array Field):List (Nat×Operand)->List AV->Option (List AV)
 | [],vs=>some vs
 |  (i,x)::r,vs=>match fs[i]? with
    |some f=>bif szB P f.type (opd P E.dt σ f.type x)then RJ σ fs r (vs.set i (opd P E.dt σ f.type x))else none
    |none=>none
def dense:Nat->List (Nat×Operand)->Bool
 |_,[]=>true
 |j,(i,_)::r=>Nat.beq i j&&dense (j+1) r
def zW(hs:List Ob)(Te:TypeId):List AV->Option (List Dt)
 | []=>some []
 |  v::r=>match pk P hs v with
    |some (T,d)=>bif (compat P T Te&&szB P Te (.dat Te d))then(match zW hs Te r with
     |some ds=>some (d::ds)
     |none=>none)else none
    |none=>none
def wY(σ:St)(m:Int):Option Operand->Option Int
 |none=>some m
 |  some x=>match ival P (opd P E.dt σ 0 x)with
    |some (_,_,i)=>some i
    |none=>none
def agL(n:Nat)(o:Oper):Bool:=match o.dst with
 |some d=>Nat.blt d n
 |none=>true
def Fb:Ob->Ob
 |  .box T c=>match pk P [] c with
    |some (T',d)=>bif Nat.beq T' T then .box T (.dat T (canD P T d))else .box T c
    |none=> .box T c
 |o=>o
def apB(b:Bool)(os:List Ob):List Ob:=bif b then os.map (Fb P)else os
mutual
def Y9:Dt->Dt->Bool
 | .int a,.int b=>decide (a=b)
 | .bool a,.bool b=>decide (a=b)
 | .str a,.str b=>a==b
 | .agg a,.agg b=>Fe a b
 | .lst a,.lst b=>Fe a b
 |_,_=>false
def Fe:List Dt->List Dt->Bool
 | [],[]=>true
 |a::r,b::s=>Y9 a b&&Fe r s
 |_,_=>false
end
mutual
theorem aew:∀{a b:Dt},Y9 a b=true->a=b
 | .int a,b,h=>by cases b<;>simp only[Y9]at h<;>first|cases h|(rw[of_decide_eq_true h])
 | .bool a,b,h=>by cases b<;>simp only[Y9]at h<;>first|cases h|(rw[of_decide_eq_true h])
 | .str a,b,h=>by cases b<;>simp only[Y9]at h<;>first|cases h|(rw[(xq _ _).1 h])
 | .agg a,b,h=>by cases b<;>simp only[Y9]at h<;>first|cases h|(rw[H8 h])
 | .lst a,b,h=>by cases b<;>simp only[Y9]at h<;>first|cases h|(rw[H8 h])
theorem H8:∀{a b:List Dt},Fe a b=true->a=b
 | [],b,h=>by cases b<;>simp only[Fe]at h<;>first|rfl|cases h
 |x::r,b,h=>by
  cases b with
  |nil=>simp only[Fe]at h;cases h
  |cons y s=>
   simp only[Fe,aK]at h;rw[aew h.1,H8 h.2]
end
mutual
def Ew:AV->AV->Bool
 | .dat T a,.dat S b=>Nat.beq T S&&Y9 a b
 | .agg T a,.agg S b=>Nat.beq T S&&Fg a b
 | .row a,.row b=>Nat.beq a b
 | .ptr a p i,.ptr b q j=>Nat.beq a b&&(decide (p=q)&&Nat.beq i j)
 | .fn f a,.fn g b=>Nat.beq f g&&Fg a b
 | .nils T,.nils S=>Nat.beq T S
 | .dead,.dead=>true
 |_,_=>false
def Fg:List AV->List AV->Bool
 | [],[]=>true
 |a::r,b::s=>Ew a b&&Fg r s
 |_,_=>false
end
mutual
theorem aex:∀{a b:AV},Ew a b=true->a=b
 | .dat T a,b,h=>by cases b<;>simp only[Ew,aK]at h<;>first|cases h;done|(rw[aU h.1,aew h.2])
 | .agg T a,b,h=>by cases b<;>simp only[Ew,aK]at h<;>first|cases h;done|(rw[aU h.1,zX h.2])
 | .row a,b,h=>by cases b<;>simp only[Ew]at h<;>first|cases h;done|(rw[aU h])
 | .ptr a p i,b,h=>by cases b<;>simp only[Ew,aK]at h<;>first|cases h;done|(rw[aU h.1,of_decide_eq_true h.2.1,aU h.2.2])
 | .fn f a,b,h=>by cases b<;>simp only[Ew,aK]at h<;>first|cases h;done|(rw[aU h.1,zX h.2])
 | .nils T,b,h=>by cases b<;>simp only[Ew]at h<;>first|cases h;done|(rw[aU h])
 | .dead,b,h=>by cases b<;>simp only[Ew]at h<;>first|rfl|cases h
 | .eptr _ _ _ _ _,b,h=>by simp only[Ew]at h;cases h
 | .rptr _ _,b,h=>by simp only[Ew]at h;cases h
 | .tup _,b,h=>by simp only[Ew]at h;cases h
 | .nif _,b,h=>by simp only[Ew]at h;cases h
 | .ifc _ _,b,h=>by simp only[Ew]at h;cases h
theorem zX:∀{a b:List AV},Fg a b=true->a=b
 | [],b,h=>by cases b<;>simp only[Fg]at h<;>first|rfl|cases h
 |x::r,b,h=>by
  cases b with
  |nil=>simp only[Fg]at h;cases h
  |cons y s=>
   simp only[Fg,aK]at h;rw[aex h.1,zX h.2]
end
def aiM:Ob->Ob->Bool
 | .box T a,.box S b=>Nat.beq T S&&Ew a b
 | .row T a,.row S b=>Nat.beq T S&&Fe a b
 | .rowA T a,.rowA S b=>Nat.beq T S&&Fg a b
 | .frz T a,.frz S b=>Nat.beq T S&&Fe a b
 | .map T a,.map S b=>Nat.beq T S&&Fe a b
 | .gone,.gone=>true
 |_,_=>false
theorem aey{a b:Ob}(h:aiM a b=true):a=b:=by cases a<;>cases b<;>simp only[aiM,aK]at h<;>first|rfl|cases h;done|(rw[aU h.1,aex h.2])|(rw[aU h.1,H8 h.2])|(rw[aU h.1,zX h.2])
def aiN(hs:List Ob)(src:List Nat):List (Nat×Ob)->List (Nat×Ob)
 | []=>[]
 |(l,o)::r=>bif (qb l src&&aiM o (lk hs l))then aiN hs src r else(l,o)::aiN hs src r
def keepW(b:Bool)(hs:List Ob)(src:List Nat)(ws:List (Nat×Ob)):List (Nat×Ob):=bif (b&&nodupB (ws.map (·.1)))then aiN hs src ws else ws
def wZ(n:Nat)(o:Oper)(σ:St)(f:FuncId)(as:List AV)(hs1:List Ob)(rd0:List Nat)(wr0:List (Nat×Ob))(nm:Nat)(src:List Nat)(k:Dl->Option R):Option R:=
 bif (nodupB src&&(allNames hs1 src&&Nat.ble σ.k0 σ.hs.length))then
    call f (AV.renL (ix src) as) (apB P (E.pkb f) (vI (ix src) hs1 src)) fun q=>
     bif (Nat.ble src.length q.2.length&&agL n o)then
      k ⟨o.dst.map fun _=>q.1.ren (bkN src nm),rd0++(src++upto σ.hs.length ((nm-σ.hs.length)+(q.2.length-src.length))),wr0++keepW (E.rdo f) hs1 src (yx (bkN src nm) nm src q.2)⟩
     else none
 else none
def scT(T:TypeId):Bool:=match P.underlying T with
 |some (.int _)=>true
 |some .bool=>true
 |some .string=>true
 |_=>false
def scV:AV->Bool
 | .dat T _=>scT P T
 |_=>false
def scR:AV->Bool
 | .tup vs=>vs.all (scV P)
 |v=>scV P v
def aiO(f:FuncId):Bool:=match E.fns f with
 |some fn=>fn.resultTypes.toList.all (scT P)
 |none=>false
def isNil{A:Type}:List A->Bool
 | []=>true
 |_=>false
def abH(n:Nat)(o:Oper)(σ:St)(g:Operand)(xs:List Operand)(Ts:List TypeId)(k:Dl->Option R):Option R:=
 match opd P E.dt σ 0 g with
 |  .fn f caps=>bif (Nat.beq xs.length Ts.length&&Y8 P caps)then
    (bif E.own f then
     let r1:=AV.n2rL P (dnL P (E.nd f) 0 (dw P E.dt σ Ts xs)) σ.hs.length
     let hs1:=BS σ.hs σ.hs.length r1.2
     wZ P E call n o σ f (r1.1++caps) hs1 [] (aiJ σ.hs.length r1.2) (σ.hs.length+r1.2.length) (reach hs1 1000 (AV.nmsL (r1.1++caps)) []) k
    else bif E.fzc f then
     let bs:=iZ (dw P E.dt σ Ts xs)
     let L:=AV.rwsL (dw P E.dt σ Ts xs)++dN σ.hs bs
     let hs1:=wrO σ.hs (frzW σ.hs L)
     let hs2:=wrO hs1 (fzbW P E.pty hs1 bs)
     wZ P E call n o σ f ((dw P E.dt σ Ts xs).map (fun v=>pkZ hs2 (pkA P (E.raw f) hs2 v))++caps) hs2 (L++bs) (frzW σ.hs L++fzbW P E.pty hs1 bs) σ.hs.length (reach hs2 1000 (AV.nmsL ((dw P E.dt σ Ts xs).map (fun v=>pkZ hs2 (pkA P (E.raw f) hs2 v))++caps)) []) k
    else
     let rws:=AV.rwsL (dw P E.dt σ Ts xs)
     let fw:=frzW σ.hs rws
     let hs1:=wrO σ.hs fw
     let as1:=(dw P E.dt σ Ts xs).map (pkA P (E.raw f) hs1)
     bif (aiO P E f&&isNil (AV.nmsL (as1++caps)))then
        call f (AV.renL (ix []) (as1++caps)) [] fun q=>bif (scR P q.1&&(isNil q.2&&agL n o))then k ⟨o.dst.map fun _=>q.1,rws,[]⟩else none
     else
        let bx:=AV.nmsL (dw P E.dt σ Ts xs++caps)
        let L:=rws++dN σ.hs bx
        let hs2:=wrO σ.hs (frzW σ.hs L)
        let as2:=(dw P E.dt σ Ts xs).map fun v=>CQ P hs2 (pkA P (E.raw f) hs2 v)
        let cs2:=caps.map (uf P hs2)
        bif (E.lnd f&&(aiO P E f&&isNil (AV.nmsL (as2++cs2))))then
          call f (AV.renL (ix []) (as2++cs2)) [] fun q=>bif (scR P q.1&&(isNil q.2&&agL n o))then k ⟨o.dst.map fun _=>q.1,L++bx,[]⟩else none
        else
          wZ P E call n o σ f (as1++caps) hs1 rws fw σ.hs.length (reach hs1 1000 (AV.nmsL (as1++caps)) []) k)
    else none
 |_=>none
def abI:AV->Bool
 | .dead=>false
 | .tup _=>false
 |_=>true
def WA(n:Nat)(o:Oper)(σ:St)(T:TypeId)(x:Operand)(k:Dl->Option R):Option R:=
 bif (Ux P T&&abI (opd P E.dt σ T x))then out n o (.ifc T (opd P E.dt σ T x)) [] [] k else none
def aiP(n:Nat)(o:Oper)(σ:St)(g:Operand)(name:String)(xs:List Operand)(Ts:List TypeId)(k:Dl->Option R):Option R:=
 match opd P E.dt σ 0 g with
 |  .ifc T v=>match aeM P T name with
    |some f=>bif (Nat.beq xs.length Ts.length&&(abI v&&!E.own f))then
      let rws:=AV.rwsL (v::dw P E.dt σ Ts xs)
      let fw:=frzW σ.hs rws
      let hs1:=wrO σ.hs fw
      let as1:=(v::dw P E.dt σ Ts xs).map (pkA P (E.raw f) hs1)
      wZ P E call n o σ f as1 hs1 rws fw σ.hs.length (reach hs1 1000 (AV.nmsL as1) []) k
     else none
    |none=>none
 |_=>none
def kJ(T Te:TypeId):Bool:=(match slE P T with
 |some Te'=>Nat.beq Te' Te
 |none=>false)&&!Nat.beq (P.cellsOf Te) 0
def LC(T:TypeId):Option Dt:=match zeroV P T with
 |  some v=>match pk P [] v with
    |some (T',d)=>bif Nat.beq T' T then some d else none
    |none=>none
 |none=>none
def H9(   n:Nat)(o:Oper)(σ:St)(T T':TypeId)(vx vy:AV)(k:Dl->Option R):Option R:=
 match slE P T,LC P ((slE P T).getD 0)with
 |  some Te,some _=>bif (Nat.beq T T'&&!Nat.beq (P.cellsOf Te) 0)then
    match (match vy with
     | .row l=>match lk σ.hs l with
       | .row T5 ds=>bif kJ P T5 Te then some ([l],ds)else none
       | .frz T5 ds=>bif kJ P T5 Te then some ([l],ds)else none
       |_=>none
     | v=>match lval P [] v with
       |some (_,Te',ds)=>bif Nat.beq Te' Te then some ([],ds)else none
       |none=>none:Option (List Nat×List Dt))with
    |some (rd,ds)=>match vx with
     | .row l=>match lk σ.hs l with
       | .row T5 es=>bif kJ P T5 Te then new σ fun nm=>ahS (P.bytesOf Te) es ds fun rs=>out n o (.row nm) (l::nm::rd) [(l,.gone),(nm,.row T5 rs)] k else none
       | .rowD T5 T2 c kk es none=>match lk σ.hs kk with
         | .tok T4 ls=>bif kJ P T5 Te&&(Nat.beq T4 T2&&ds.all fun e=>!lkd c e)then new σ fun nm=>ahS (P.bytesOf Te) es ds fun rs=>
          out n o (.row (nm+1)) (l::kk::nm::(nm+1)::rd) [(l,.rowD T5 T2 c nm es none),(kk,.gone),(nm,.tok T2 (ls++List.replicate ds.length (.lst []))),(l,.gone),(nm+1,.rowD T5 T2 c nm rs none)] k else none
         |_=>none
       |_=>none
     | .nils T5=>bif kJ P T5 Te then new σ fun nm=>ahS (P.bytesOf Te) [] ds fun rs=>out n o (.row (nm+1)) (nm::(nm+1)::rd) [(nm,.gone),(nm+1,.row T5 rs)] k else none
     |_=>none
    |none=>none
    else none
 |_,_=>none
def aqP(P:Program)(Te:TypeId):Ob->Option (List AV)
 | .row T es=>bif kJ P T Te then some (es.map (.dat Te))else none
 | .rowA T vs=>bif kJ P T Te then some vs else none
 |_=>none
def Ui(n:Nat)(o:Oper)(σ:St)(T T':TypeId)(l l2:Nat)(k:Dl->Option R):Option R:=
 match slE P T,LC P ((slE P T).getD 0)with
 |  some Te,some _=>bif (Nat.beq T T'&&(!Nat.beq (P.cellsOf Te) 0&&Nat.ble (P.bytesOf Te) 1024))then
    match aqP P Te (lk σ.hs l),aqP P Te (lk σ.hs l2)with
    |some es,some ds=>bif Nat.ble (es.length+ds.length) 137438953472 then
     new σ fun nm=>out n o (.row nm) [l,nm,l2] [(l,.gone),(nm,.rowA T (es++ds))] k else none
    |_,_=>none
    else none
 |_,_=>none
def anA:Ob->Bool
 | .rowA _ _=>true
 |_=>false
def JG(n:Nat)(o:Oper)(σ:St)(T T':TypeId)(vx vy:AV)(k:Dl->Option R):Option R:=match vx,vy with
 | .row l,.row l2=>bif (anA (lk σ.hs l2)||anA (lk σ.hs l))then Ui P n o σ T T' l l2 k else H9 P n o σ T T' (.row l) (.row l2) k
 |vx,vy=>H9 P n o σ T T' vx vy k
def u8B(T:TypeId):Bool:=isI P T .u8&&(match P.info? T with
 |  some i=>Nat.beq i.size 1&&(Nat.beq i.bytes 1&&(match i.zero with
    |some (.int .u8 m)=>decide (m=0)
    |_=>false))
 |none=>false)
def JH(n:Nat)(o:Oper)(σ:St)(T T':TypeId)(vx vy:AV)(k:Dl->Option R):Option R:=
 match slE P T with
 |  some Te=>bif (u8B P Te&&isS P T')then
    match Oe P vy with
    |some (_,s)=>match vx with
     | .row l=>match lk σ.hs l with
       | .row T5 es=>bif kJ P T5 Te then new σ fun nm=>(app es (bytesD s)).bind fun rs=>out n o (.row nm) [l,nm] [(l,.gone),(nm,.row T5 rs)] k else none
       |_=>none
     |_=>none
    |none=>none
    else none
 |none=>none
def WB(n:Nat)(o:Oper)(σ:St)(Te S2:TypeId)(vy:AV)(k:Dl->Option R):Option R:=
 bif (isI P Te .u8&&(Nat.beq (P.cellsOf Te) 1&&isS P S2))then
    match (match vy with
     | .row l=>match lk σ.hs l with
       | .row T5 ds=>bif kJ P T5 Te then some ([l],ds)else none
       | .frz T5 ds=>bif kJ P T5 Te then some ([l],ds)else none
       |_=>none
     | v=>match lval P [] v with
       |some (_,Te',ds)=>bif Nat.beq Te' Te then some ([],ds)else none
       |none=>none:Option (List Nat×List Dt))with
    |some (rd,ds)=>(auw ds).bind fun s=>out n o (.dat S2 (.str s)) rd [] k
    |none=>none
 else none
def abJ(n:Nat)(o:Oper)(σ:St)(c x y:Operand)(k:Dl->Option R):Option R:=match Y7 P (opd P E.dt σ 0 c)with
 |some b=>bif b then out n o (opd P E.dt σ o.type x) [] [] k else out n o (opd P E.dt σ o.type y) [] [] k
 |none=>none
def WC(n:Nat)(o:Oper)(σ:St)(T:TypeId)(k:Dl->Option R):Option R:=match zeroV P T with
 |some v=>new σ fun nm=>out n o (.ptr nm [] 0) [nm] [(nm,.box T v)] k
 |none=>none
def aiQ(n:Nat)(o:Oper)(σ:St)(T:TypeId)(x:Operand)(k:Dl->Option R):Option R:=
 bif szB P T (opd P E.dt σ T x)then new σ fun nm=>out n o (.ptr nm [] 0) [nm] [(nm,.box T (opd P E.dt σ T x))] k else none
def WG(n:Nat)(o:Oper)(σ:St)(T:TypeId)(parts:List (Nat×Operand))(k:Dl->Option R):Option R:=match stF P T with
 |  some fs=>match zeroV P T with
    |some (.agg T' vs)=>bif (Nat.beq T' T&&(layB P T fs&&Yz P fs))then(match RJ P E σ fs parts vs with
     |some us=>out n o (.agg T us) [] [] k
     |none=>none)else none
    |_=>none
 |none=>none
def Za(n:Nat)(o:Oper)(σ:St)(T:TypeId)(parts:List (Nat×Operand))(k:Dl->Option R):Option R:=
 match P.underlying T with
    |some (.array len Te)=>match P.info? T with
     | some zi=>match zi.zero with
       |some za=>match zW P [] Te ((parts.map (·.2)).map (opd P E.dt σ Te))with
        |some ds=>bif (dense 0 parts&&(Nat.beq len parts.length&&(!Nat.beq len 0&&(!Nat.beq (P.cellsOf Te) 0&&(Nat.beq za.cells.size (len*P.cellsOf Te)&&Nat.beq (P.cellsOf T) (len*P.cellsOf Te))))))then out n o (.dat T (.lst ds)) [] [] k else none
        |none=>none
       |none=>none
     |none=>none
    |_=>none
def Og(n:Nat)(o:Oper)(σ:St)(T:TypeId)(parts:List (Nat×Operand))(k:Dl->Option R):Option R:=match stF P T with
 |some _=>WG P E n o σ T parts k
 |none=>Za P E n o σ T parts k
def Bj(n:Nat)(o:Oper)(σ:St)(T:TypeId)(len:Nat)(parts:List (Nat×Operand))(k:Dl->Option R):Option R:=match slE P T with
 |  some Te=>match LC P Te with
    |some _=>match zW P (wrO σ.hs (frzW σ.hs (AV.rwsL (parts.map fun p=>opd P E.dt σ Te p.2)))) Te (parts.map fun p=>opd P E.dt σ Te p.2)with
     |some ds=>bif (dense 0 parts&&(Nat.beq len parts.length&&(!Nat.beq len 0&&(!Nat.beq (P.cellsOf Te) 0&&Nat.ble (len*P.cellsOf Te) 16777216))))then
       new σ fun nm=>out n o (.row nm) (nm::AV.rwsL (parts.map fun p=>opd P E.dt σ Te p.2)) (frzW σ.hs (AV.rwsL (parts.map fun p=>opd P E.dt σ Te p.2))++[(nm,.row T ds)]) k
      else none
     |none=>none
    |none=>none
 |none=>none
def Uj(n:Nat)(o:Oper)(σ:St)(T:TypeId)(len:Nat)(parts:List (Nat×Operand))(k:Dl->Option R):Option R:=match slE P T with
 |  some Te=>match LC P Te with
    |some _=>bif ((parts.map (·.2)).all (fun x=>szB P Te (opd P E.dt σ Te x))&&(dense 0 parts&&(Nat.beq len parts.length&&(!Nat.beq len 0&&(!Nat.beq (P.cellsOf Te) 0&&Nat.ble (len*P.cellsOf Te) 16777216)))))then
      new σ fun nm=>out n o (.row nm) [nm] [(nm,.rowA T ((parts.map (·.2)).map (opd P E.dt σ Te)))] k
     else none
    |none=>none
 |none=>none
def JJ(n:Nat)(o:Oper)(σ:St)(T:TypeId)(len:Nat)(parts:List (Nat×Operand))(k:Dl->Option R):Option R:=
 bif E.nest o then Uj P E n o σ T len parts k else Bj P E n o σ T len parts k
def WH(n:Nat)(o:Oper)(σ:St)(T l i sz off:Nat)(T5 T2:TypeId)(c:Option Nat)(kk:Nat)(es:List Dt)(h:Option (Nat×Nat))(k:Dl->Option R):Option R:=match h,slE P T5,slE P T,lk σ.hs kk with
 |  none,some Te,some _,.tok T4 ls=>match OU P Te c with
    |some (T3,fo)=>bif (Nat.beq T3 T&&(Nat.beq T2 T&&(Nat.beq T4 T&&(Nat.beq fo off&&Nat.beq sz (P.cellsOf Te)))))then
      new σ fun nm=>(es[i]?).bind fun e=>bif lkd c e then(ls[i]?).bind fun e2=>
         out n o (.row nm) [l,kk,nm,nm+1] [(l,.rowD T5 T c (nm+1) es (some (i,nm))),(kk,.gone),(nm,.row T e2.toLst),(nm+1,.tok T (ls.set i (.lst [])))] k else none
     else none
    |none=>none
 |_,_,_,_=>none
def aiR(c:Option Nat)(v:AV):Option Nat:=match c,v with
 |none,.row m=>some m
 |  some f,.agg _ vs=>match vs[f]? with
    |some (.row m)=>some m
    |_=>none
 |_,_=>none
def Ey(m:Nat):List Nat->List Nat
 | []=>[]
 |l::r=>bif Nat.beq l m then Ey m r else l::Ey m r
def Oh(hs:List Ob)(Te T2:TypeId)(c:Option Nat)(v:AV):Option Dt:=match c,v with
 |none,_=>some (.bool true)
 |  some f,.agg T' vs=>match pk P hs (.agg Te (vs.set f (.nils T2)))with
    |some (T3,e')=>bif (Nat.beq T' Te&&Nat.beq T3 Te)then some (hol (some f) e' (.bool true))else none
    |none=>none
 |_,_=>none
def Oi(o:Oper)(σ:St)(T l i sz:Nat)(path:List Nat)(off:Nat)(T5 T2:TypeId)(c:Option Nat)(kk:Nat)(es:List Dt)(h:Option (Nat×Nat))(v:AV)(k:Dl->Option R):Option R:=match h,path,slE P T5,aiR c v with
 |  none,[],some Te,some m=>match OU P Te c,slE P T2,Oh P (wrO σ.hs (frzW σ.hs (Ey m v.rws))) Te T2 c v with
    |some (T3,_),some _,some d'=>bif (Nat.beq T3 T2&&(Nat.beq Te T&&(Nat.beq off 0&&(Nat.beq sz (P.cellsOf T)&&!qb l (Ey m v.rws)))))then
      (es[i]?).bind fun _=>abF o (l::v.rws) (frzW σ.hs (Ey m v.rws)++[(l,.rowD T5 T2 c kk (es.set i d') (some (i,m)))]) k
     else none
    |_,_,_=>none
 |_,_,_,_=>none
def abK(n:Nat)(o:Oper)(σ:St)(T:TypeId)(x:Operand)(k:Dl->Option R):Option R:=match opd P E.dt σ 0 x with
 | .rptr T' d=>bif (Nat.beq T' T&&szB P T (.dat T d))then out n o (.dat T (canD P T d)) [] [] k else none
 |  .ptr l path off=>match lk σ.hs l with
    | .box S c=>match getAt P S c path with
      |some (T',q,v)=>bif (Nat.beq T' T&&(Nat.beq q off&&(szB P T v&&(v.isAgg P==eu P T))))then out n o (v.canon P) [l] [] k else none
      |none=>none
    |_=>none
 |  .eptr l i sz path off=>match lk σ.hs l with
    | .row T5 es=>match slE P T5 with
      |some Te=>(es[i]?).bind fun e=>match getAt P Te (.dat Te e) path with
       |some (T',q,v)=>bif (Nat.beq T' T&&(Nat.beq q off&&(Nat.beq sz (P.cellsOf Te)&&(szB P T v&&(v.isAgg P==eu P T)))))then out n o (v.canon P) [l] [] k else none
       |none=>none
      |none=>none
    | .rowA T5 vs=>match slE P T5 with
      |some Te=>(vs[i]?).bind fun e=>match getAt P Te e path with
       |some (T',q,v)=>bif (Nat.beq T' T&&(Nat.beq q off&&(Nat.beq sz (P.cellsOf Te)&&(szB P T v&&(v.isAgg P==eu P T)))))then out n o (v.canon P) [l] [] k else none
       |none=>none
      |none=>none
    | .rowD T5 T2 c kk es h=>WH P n o σ T l i sz off T5 T2 c kk es h k
    |_=>none
 |_=>none
def WI(o:Oper)(σ:St)(T:TypeId)(x y:Operand)(k:Dl->Option R):Option R:=
 bif (szB P T (opd P E.dt σ T y)&&!Nat.beq (P.cellsOf T) 0)then(match opd P E.dt σ 0 x with
 |  .ptr l path off=>match lk σ.hs l with
    | .box S c=>match setAt P T (opd P E.dt σ T y) S c path with
      |some (q,c')=>bif Nat.beq q off then abF o [l] [(l,.box S c')] k else none
      |none=>none
    |_=>none
 |  .eptr l i sz path off=>match lk σ.hs l with
    | .row T5 es=>match slE P T5 with
      |some Te=>(es[i]?).bind fun e=>match setAt P T (opd P E.dt σ T y) Te (.dat Te e) path with
       |  some (q,c')=>match pk P (wrO σ.hs (frzW σ.hs (opd P E.dt σ T y).rws)) c' with
          |some (Te',e')=>bif (Nat.beq q off&&(Nat.beq sz (P.cellsOf Te)&&(compat P Te' Te&&!qb l (opd P E.dt σ T y).rws)))then abF o (l::(opd P E.dt σ T y).rws) (frzW σ.hs (opd P E.dt σ T y).rws++[(l,.row T5 (es.set i e'))]) k else none
          |none=>none
       |none=>none
      |none=>none
    | .rowA T5 vs=>match slE P T5 with
      |some Te=>(vs[i]?).bind fun e=>match setAt P T (opd P E.dt σ T y) Te e path with
       |some (q,c')=>bif (Nat.beq q off&&Nat.beq sz (P.cellsOf Te))then abF o [l] [(l,.rowA T5 (vs.set i c'))] k else none
       |none=>none
      |none=>none
    | .rowD T5 T2 c kk es h=>Oi P o σ T l i sz path off T5 T2 c kk es h (opd P E.dt σ T y) k
    |_=>none
 |_=>none)else none
def FR(n:Nat)(o:Oper)(σ:St)(x:Operand)(k:Dl->Option R):Option R:=match opd P E.dt σ 0 x with
 | .rptr T d=>out n o (.rptr T d) [] [] k
 | .ptr l p q=>out n o (.ptr l p q) [] [] k
 | .eptr l i z p q=>out n o (.eptr l i z p q) [] [] k
 | .fn f c=>out n o (.fn f c) [] [] k
 |  .dat T d=>match ppE P T with
    |some T2=>(idx d.toLst 0).bind fun e=>out n o (.rptr T2 e) [] [] k
    |none=>none
 |_=>none
def aiS(n:Nat)(o:Oper)(op:BinOp)(T:TypeId)(vx:AV)(y:Operand)(k:Dl->Option R):Option R:=match y with
 |  .const .nilIface=>match P.underlying T with
    |some (.interface _)=>match vx with
     | .nif b=>match bT P (o.type::E.dt)with
       |some TB=>match op with
        | .eql=>out n o (.dat TB (.bool b)) [] [] k
        | .neq=>out n o (.dat TB (.bool (!b))) [] [] k
        |_=>none
       |none=>none
     |_=>none
    |_=>none
 |_=>none
def aqQ(n:Nat)(o:Oper)(σ:St)(op:BinOp)(T:TypeId)(x y:Operand)(k:Dl->Option R):Option R:=match y with
 |  .const (.pointer none)=>match ppE P T with
    |some _=>match opd P E.dt σ T x with
     | .dat T1 p=>bif Nat.beq T1 T then(match bT P (o.type::E.dt)with
       |some TB=>match op with
        | .eql=>out n o (.dat TB (.bool p.toLst.isEmpty)) [] [] k
        | .neq=>out n o (.dat TB (.bool (!p.toLst.isEmpty))) [] [] k
        |_=>none
       |none=>none)else none
     |_=>none
    |none=>none
 |_=>none
def aqR(n:Nat)(o:Oper)(σ:St)(op:BinOp)(T:TypeId)(x y:Operand)(T':TypeId)(k:Dl->Option R):Option R:=match opd P E.dt σ T' y with
 |  .dat T2 q=>match opd P E.dt σ T x with
    | .dat T1 p=>bif (ajw P T&&(Nat.beq T1 T&&Nat.beq T2 T))then(match bT P (o.type::E.dt)with
      |some TB=>match op with
       | .eql=>out n o (.dat TB (.bool (ptE p q))) [] [] k
       | .neq=>out n o (.dat TB (.bool (!(ptE p q)))) [] [] k
       |_=>none
      |none=>none)else aqQ P E n o σ op T x y k
    |_=>none
 |_=>aiS P E n o op T (opd P E.dt σ T x) y k
def aiT(n:Nat)(o:Oper)(σ:St)(op:BinOp)(T:TypeId)(x y:Operand)(T':TypeId)(k:Dl->Option R):Option R:=match ival P (opd P E.dt σ T x)with
 |  some (Tx,q,a)=>match ival P (opd P E.dt σ T' y)with
    |some (_,q',b)=>match op with
     | .shl=>bif decide (0<=b)then out n o (.dat Tx (.int (shlI q a b))) [] [] k else none
     | .shr=>bif decide (0<=b)then out n o (.dat Tx (.int (shrI q a b))) [] [] k else none
     |_=>bif decide (q=q')then aiK P E n o op Tx q a b k else none
    |none=>none
 |  none=>match Oe P (opd P E.dt σ T x)with
    |some (Tx,a)=>match Oe P (opd P E.dt σ T' y)with
     |some (_,b)=>aiL P E n o op Tx a b k
     |none=>none
    |none=>match Y7 P (opd P E.dt σ T x)with
     |some a=>match Y7 P (opd P E.dt σ T' y)with
      |some b=>bif isB P T then abG P E n o op a b k else none
      |none=>none
     |none=>aqR P E n o σ op T x y T' k
def aiU(n:Nat)(o:Oper)(σ:St)(x:Operand)(k:Dl->Option R):Option R:=match Y7 P (opd P E.dt σ o.type x)with
 |  some b=>match bT P (o.type::E.dt)with
    |some TB=>out n o (.dat TB (.bool (!b))) [] [] k
    |none=>none
 |none=>none
def aiV(n:Nat)(o:Oper)(σ:St)(T:TypeId)(x:Operand)(k:Dl->Option R):Option R:=match ival P (opd P E.dt σ T x)with
 |some (Tx,q,a)=>out n o (.dat Tx (.int (q.wrap (0-a)))) [] [] k
 |none=>none
def WJ(n:Nat)(o:Oper)(σ:St)(T:TypeId)(x:Operand)(k:Dl->Option R):Option R:=match ival P (opd P E.dt σ T x)with
 |some (Tx,q,a)=>out n o (.dat Tx (.int (complI q a))) [] [] k
 |none=>none
def JK(n:Nat)(o:Oper)(σ:St)(S1 S2:TypeId)(x:Operand)(k:Dl->Option R):Option R:=match ival P (opd P E.dt σ S1 x)with
 |  some (_,q,a)=>match P.underlying S2 with
    |some (.int q2)=>bif isI P S1 q then out n o (.dat S2 (.int (q2.wrap a))) [] [] k else none
    |_=>none
 |  none=>match Oe P (opd P E.dt σ S1 x)with
    |some (_,s)=>bif (isS P S1&&isS P S2)then out n o (.dat S2 (.str s)) [] [] k else none
    |none=>none
def abL(   n:Nat)(o:Oper)(σ:St)(T:TypeId)(x y:Operand)(k:Dl->Option R):Option R:=match slE P T with
 |  some Te=>match LC P Te with
    |some z=>match wY P E σ 0 (some x)with
     |some a=>match wY P E σ 0 (some y)with
      |some b=>bif (!Nat.beq (P.cellsOf Te) 0)then
           new σ fun nm=>mkK (P.bytesOf Te) a b z fun es=>out n o (.row nm) [nm] [(nm,.row T es)] k
       else none
      |none=>none
     |none=>none
    |none=>none
 |none=>none
def Oj(n:Nat)(o:Oper)(σ:St)(T:TypeId)(x:Operand)(lo hi:Option Operand)(k:Dl->Option R):Option R:=match opd P E.dt σ T x with
 |  .row l=>match lk σ.hs l with
    | .row _ es=>match wY P E σ 0 lo with
      |some a=>match wY P E σ es.length hi with
       |some b=>match slE P T with
        |some Te=>bif !Nat.beq (P.cellsOf Te) 0 then(cutL es a b).bind fun _=>out n o .dead [l] [] k else none
        |none=>none
       |none=>none
      |none=>none
    |_=>none
 |_=>none
def WK(n:Nat)(o:Oper)(σ:St)(T:TypeId)(x:Operand)(lo hi:Option Operand)(k:Dl->Option R):Option R:=bif E.sld o then Oj P E n o σ T x lo hi k else match Oe P (opd P E.dt σ T x)with
 |  some (Tx,s)=>match wY P E σ 0 lo with
    |some a=>match wY P E σ s.size hi with
     |some b=>bif isS P T then(cutS s a b).bind fun r=>out n o (.dat Tx (.str r)) [] [] k else none
     |none=>none
    |none=>none
 |  none=>match lval P (wrO σ.hs (frzW σ.hs (opd P E.dt σ T x).rws)) (opd P E.dt σ T x)with
    |some (Tx,Te,es)=>match wY P E σ 0 lo with
     |some a=>match wY P E σ es.length hi with
      |some b=>bif kJ P T Te then(cutL es a b).bind fun r=>out n o (.dat Tx (.lst r)) (opd P E.dt σ T x).rws (frzW σ.hs (opd P E.dt σ T x).rws) k else none
      |none=>none
     |none=>none
    |none=>none
def CS(n:Nat)(o:Oper)(σ:St)(S:TypeId)(x:Operand)(i:Nat)(k:Dl->Option R):Option R:=match stF P S with
 |  some fs=>match fs[i]? with
    |some f=>bif !Nat.beq (P.cellsOf f.type) 0 then(match opd P E.dt σ 0 x with
     | .ptr l p q=>out n o (.ptr l (p++[i]) (q+f.offset)) [] [] k
     | .eptr l j z p q=>out n o (.eptr l j z (p++[i]) (q+f.offset)) [] [] k
     | .rptr S' d=>bif (Nat.beq S' S&&Nat.ble (f.offset+P.cellsOf f.type) (P.cellsOf S))then out n o (.rptr f.type (d.fld i)) [] [] k else none
     | .dat T2 d=>match ppE P T2 with
       |some S'=>(idx d.toLst 0).bind fun e=>bif (Nat.beq S' S&&Nat.ble (f.offset+P.cellsOf f.type) (P.cellsOf S))then out n o (.rptr f.type (e.fld i)) [] [] k else none
       |none=>none
     |_=>none)else none
    |none=>none
 |none=>none
def WL(n:Nat)(o:Oper)(σ:St)(S:TypeId)(x:Operand)(i:Nat)(k:Dl->Option R):Option R:=match stF P S with
 |  some fs=>match fs[i]? with
    |some f=>match pk P [] (opd P E.dt σ S x)with
     |some (S',d)=>bif (Nat.beq S' S&&(Nat.ble (f.offset+P.cellsOf f.type) (P.cellsOf S)&&szB P f.type (.dat f.type (d.fld i))))then out n o (.dat f.type (canD P f.type (d.fld i))) [] [] k else none
     |none=>none
    |none=>none
 |none=>none
def CU(n:Nat)(o:Oper)(σ:St)(T:TypeId)(x y:Operand)(k:Dl->Option R):Option R:=match wY P E σ 0 (some y)with
 |  some i=>match opd P E.dt σ T x with
    | .row l=>match lk σ.hs l with
      | .row T5 es=>match slE P T5 with
        |some Te=>bif kJ P T Te then(inL es i).bind fun _=>out n o (.eptr l i.toNat (P.cellsOf Te) [] 0) [l] [] k else none
        |none=>none
      | .rowA T5 vs=>match slE P T5 with
        |some Te=>bif (kJ P T Te&&(decide (0<=i)&&decide (i<(vs.length:Int))))then out n o (.eptr l i.toNat (P.cellsOf Te) [] 0) [l] [] k else none
        |none=>none
      | .rowD T5 _ _ _ es _=>match slE P T5 with
        |some Te=>bif kJ P T Te then(inL es i).bind fun _=>out n o (.eptr l i.toNat (P.cellsOf Te) [] 0) [l] [] k else none
        |none=>none
      | .frz T5 es=>match slE P T5 with
        |some Te=>bif kJ P T Te then(idx es i).bind fun e=>out n o (.rptr Te e) [l] [] k else none
        |none=>none
      |_=>none
    | v=>match lval P [] v with
      |some (_,Te,es)=>bif kJ P T Te then(idx es i).bind fun e=>out n o (.rptr Te e) [] [] k else none
      |none=>none
 |none=>none
def WM(n:Nat)(o:Oper)(σ:St)(T:TypeId)(x y:Operand)(k:Dl->Option R):Option R:=match Oe P (opd P E.dt σ T x)with
 |  some (_,s)=>match wY P E σ 0 (some y)with
    |some i=>bif (isS P T&&isI P o.type .u8)then(idxS s i).bind fun c=>out n o (.dat o.type (.int c)) [] [] k else none
    |none=>none
 |  none=>match opd P E.dt σ T x with
    | .dat T' d=>match P.underlying T' with
      |some (.array len Te)=>match wY P E σ 0 (some y)with
       |some i=>bif (Nat.beq T' T&&(Nat.beq (P.cellsOf T') (len*P.cellsOf Te)&&szB P Te (.dat Te (.int 0))))then(idx d.toLst i).bind fun e=>out n o (.dat Te (canD P Te e)) [] [] k else none
       |none=>none
      |_=>none
    |_=>none
def Ol(T:TypeId):Option (TypeId×TypeId):=match P.underlying T with
 |some (.map K V)=>bif (isS P K&&!eu P V)then some (K,V)else none
 |_=>none
def aiW(T:TypeId):Option Dt:=match P.info? T with
 |  some i=>match i.zero with
    |some z=>bif FP z then none else LC P T
    |none=>none
 |none=>none
def aqS(P:Program)(T:TypeId):Bool:=match P.info? T with
 |  some i=>(match i.zero with
    |some (.slice none 0 0)=>true
    |_=>false)
 |none=>false
def Om(n     :    Nat)(o:Oper)(σ:St)(T:TypeId)(x y:Operand)(two:Bool)(k:Dl->Option R):Option R:=match Ol P T with
 |  some (KT,V)=>match aiW P V with
    |some z=>match opd P E.dt σ T x with
     | .row l=>   match lk σ.hs l with
       |  .map T5 es=>match Ol P T5 with
          |some ( K5,V5)=>match Oe P (opd P E.dt σ KT y)with
           |some (_,s)=>bif (Nat.beq K5 KT&&Nat.beq V5 V)then
             (bif two then(match bT P E.dt with
                  |some TB=>out n o (.tup [.dat V (mgetD es s z),.dat TB (.bool (mhas es s))]) [l] [] k
                  |none=>none)
             else(bif scT P V then out n o (.dat V (canD P V (mgetD es s z))) [l] [] k else bif mhas es s then out n o (.dat V (canD P V (mgetD es s z))) [l] [] k else bif aqS P V then out n o (.nils V) [l] [] k else none))else none
           |none=>none
          |none=>none
       |_=>none
     |_=>none
    |none=>none
 |none=>none
def JL(n:Nat)(o:Oper)(σ:St)(T:TypeId)(k:Dl->Option R):Option R:=match Ol P T with
 |some _=>new σ fun nm=>out n o (.row nm) [nm] [(nm,.map T [])] k
 |none=>none
def CV(o:Oper)(σ:St)(T:TypeId)(x y u:Operand)(k:Dl->Option R):Option R:=match Ol P T with
 |  some (KT,V)=>match opd P E.dt σ T x with
    | .row l=>match lk σ.hs l with
      | .map T5 es=>match Ol P T5 with
        | some (_,V5)=>match Oe P (opd P E.dt σ KT y)with
          |some (_,s)=>match pk P (wrO σ.hs (frzW σ.hs (opd P E.dt σ V u).rws)) (opd P E.dt σ V u)with
           |some (TV,d)=>bif (compat P TV V5&&(!eu P TV&&!qb l (opd P E.dt σ V u).rws))then abF o (l::(opd P E.dt σ V u).rws) (frzW σ.hs (opd P E.dt σ V u).rws++[(l,.map T5 (mput es s d))]) k else none
           |none=>none
          |none=>none
        |none=>none
      |_=>none
    |_=>none
 |none=>none
def Oo:List (Nat×List Value)->Nat->Option (List Value)
 | [],_=>none
 |t::r,g=>bif Nat.beq t.1 g then some t.2 else Oo r g
def aiX(Te:TypeId)(sz:Nat):Nat->List Value->Option (List Dt)
 |0,_=>some []
 |  m+1,cs=>match avC P 8 Te (cs.take sz)with
    |some v=>match pk P [] v with
     |some (T',d)=>bif Nat.beq T' Te then(match aiX Te sz m (cs.drop sz)with
      |some ds=>some (d::ds)
      |none=>none)else none
     |none=>none
    |none=>none
def aiY(n:Nat)(o:Oper)(σ:St)(T:TypeId)(g:Nat)(y:Operand)(k:Dl->Option R):Option R:=match P.underlying T with
 |  some (.array len Te)=>match Oo tabs g with
    |some cs=>match aiX P Te (P.cellsOf Te) len cs with
     |some ds=>match wY P E σ 0 (some y)with
      |some i=>bif (!Nat.beq (P.cellsOf Te) 0&&Nat.beq cs.length (len*P.cellsOf Te))then(idx ds i).bind fun e=>out n o (.rptr Te e) [] [] k else none
      |none=>none
     |none=>none
    |none=>none
 |_=>none
def JM(n:Nat)(o:Oper)(σ:St)(x:Operand)(i:Nat)(k:Dl->Option R):Option R:=match opd P E.dt σ 0 x with
 |  .tup vs=>match vs[i]? with
    |some (.tup _)=>none
    |some v=>out n o v [] [] k
    |none=>none
 |_=>none
def FT(n:Nat)(o:Oper)(σ:St)(f:FuncId)(first:Nat)(caps:List Operand)(k:Dl->Option R):Option R:=
 bif (Nat.beq first 0&&Y8 P (caps.map (opd P E.dt σ 0)))then out n o (.fn f (caps.map (opd P E.dt σ 0))) [] [] k else none
def aiZ(n:Nat)(o:Oper)(σ:St)(T:TypeId)(x:Operand)(k:Dl->Option R):Option R:=
 bif isI P o.type .i64 then(match Oe P (opd P E.dt σ T x)with
 |some (_,s)=>bif isS P T then out n o (.dat o.type (.int s.size)) [] [] k else none
 |  none=>match slE P T with
    |some _=>match opd P E.dt σ T x with
     | .row l=>match lk σ.hs l with
       | .row _ es=>out n o (.dat o.type (.int es.length)) [l] [] k
       | .rowA _ vs=>out n o (.dat o.type (.int vs.length)) [l] [] k
       | .rowD _ _ _ _ es _=>out n o (.dat o.type (.int es.length)) [l] [] k
       | .frz T5 es=>bif (slE P T5).isSome then out n o (.dat o.type (.int es.length)) [l] [] k else none
       |_=>none
     | v=>match lval P [] v with
       |some (_,_,es)=>out n o (.dat o.type (.int es.length)) [] [] k
       |none=>none
    |none=>none)else none
def ai0(n:Nat)(o:Oper)(σ:St)(T T':TypeId)(x y:Operand)(k:Dl->Option R):Option R:=match ival P (opd P E.dt σ T x)with
 |  some (Tx,q,a)=>match ival P (opd P E.dt σ T' y)with
    |some (_,q',b)=>bif decide (q=q')then out n o (.dat Tx (.int (bif decide (b<a)then b else a))) [] [] k else none
    |none=>none
 |none=>none
def ai1(n:Nat)(o:Oper)(σ:St)(T T':TypeId)(x y:Operand)(k:Dl->Option R):Option R:=match ival P (opd P E.dt σ T x)with
 |  some (Tx,q,a)=>match ival P (opd P E.dt σ T' y)with
    |some (_,q',b)=>bif decide (q=q')then out n o (.dat Tx (.int (bif decide (a<b)then b else a))) [] [] k else none
    |none=>none
 |none=>none
def Uk(n:Nat)(o:Oper)(σ:St)(b:Builtin)(xs:List Operand)(Ts:List TypeId)(k:Dl->Option R):Option R:=match b,xs,Ts with
 | .len,[x],[T]=>aiZ P E n o σ T x k
 | .append,[x,y],[T,T']=>bif isS P T' then JH P n o σ T T' (opd P E.dt σ T x) (opd P E.dt σ T' y) k else JG P n o σ T T' (opd P E.dt σ T x) (opd P E.dt σ T' y) k
 | .min,[x,y],[T,T']=>ai0 P E n o σ T T' x y k
 | .max,[x,y],[T,T']=>ai1 P E n o σ T T' x y k
 |_,_,_=>none
def evO(n:Nat)(o:Oper)(σ:St)(k:Dl->Option R):Option R:=
 match o.op with
 | .move x=>out n o (opd P E.dt σ o.type x) [] [] k
 | .assign x=>out n o (opd P E.dt σ o.type x) [] [] k
 | .pick c x y=>abJ P E n o σ c x y k
 | .alloc T=>WC P n o σ T k
 | .box T x=>aiQ P E n o σ T x k
 | .build T parts=>Og P E n o σ T parts.toList k
 | .buildSlice T len parts=>JJ P E n o σ T len parts.toList k
 | .load T x=>abK P E n o σ T x k
 | .store T x y=>WI P E o σ T x y k
 | .nilCheck x=>FR P E n o σ x k
 | .binOp op T x y T'=>aiT P E n o σ op T x y T' k
 | .unOp .not _ x=>aiU P E n o σ x k
 | .unOp .neg T x=>aiV P E n o σ T x k
 | .unOp .xor T x=>WJ P E n o σ T x k
 |  .convert S1 S2 x=>match slE P S1 with
    |some Te=>WB P n o σ Te S2 (opd P E.dt σ S1 x) k
    |none=>JK P E n o σ S1 S2 x k
 | .makeSlice T x y=>abL P E n o σ T x y k
 | .slice T x lo hi none=>WK P E n o σ T x lo hi k
 | .fieldAddr S x i=>CS P E n o σ S x i k
 | .field S x i=>WL P E n o σ S x i k
 | .indexAddr T (.global g) y=>aiY P E n o σ T g y k
 | .indexAddr T x y=>CU P E n o σ T x y k
 | .lookup T x y two=>Om P E n o σ T x y two k
 | .makeMap T none=>JL P n o σ T k
 | .mapUpdate T x y u=>CV P E o σ T x y u k
 | .index T x y=>WM P E n o σ T x y k
 | .extract x i=>JM P E n o σ x i k
 | .makeFunc (.func f) first caps=>FT P E n o σ f first.size caps.toList k
 | .call ⟨.value g,xs,Ts⟩=>abH P E call n o σ g xs.toList Ts.toList k
 | .call ⟨.builtin b,xs,Ts⟩=>Uk P E n o σ b xs.toList Ts.toList k
 | .makeInterface T x=>WA P E n o σ T x k
 | .call ⟨.invoke g name,xs,Ts⟩=>aiP P E call n o σ g name xs.toList Ts.toList k
 |_=>none
end
def tmpsOf:List Operand->List Nat
 | []=>[]
 | .tmp t::r=>t::tmpsOf r
 |_::r=>tmpsOf r
def gslot(ops:List Oper)(j:Nat):Option Nat:=match ops[j]? with
 |some o=>o.dst
 |none=>none
def Oper.reads(ops:List Oper)(o:Oper):List Nat:=(match o.guard with
 |some (j,_)=>(gslot ops j).toList
 |none=>[])++tmpsOf o.op.operands.toList
def agM(a b:List Nat):Bool:=a.all fun x=>!qb x b
def indep(ops:List Oper)(p q:Oper×Dl):Bool:=
 agM p.1.dst.toList (q.1.dst.toList++Oper.reads ops q.1)&&(agM q.1.dst.toList (Oper.reads ops p.1)&&
 (agM (p.2.wr.map (·.1)) (q.2.rd++q.2.wr.map (·.1))&&agM (q.2.wr.map (·.1)) p.2.rd))
def Ia(ancs:List Nat):List Edge->Nat
 | []=>0
 |e::r=>bif Region.binds .any e then Nat.lor (Nat.lor (2^e.on) (ancs.getD e.on 0)) (Ia ancs r)else Ia ancs r
def Zb(ops:List Oper)(q:Oper×Dl)(m:Nat):Nat->List (Oper×Dl)->Bool
 |_,[]=>true
 |i,p::r=>(Nat.testBit m i||indep ops p q)&&Zb ops q m (i+1) r
def JN(ops:List Oper):List (Oper×Dl)->List Nat->List (Oper×Dl)->Bool
 |_,_,[]=>true
 |pre,ancs,q::r=>Zb ops q (Ia ancs q.1.after.toList) 0 pre&&JN ops (pre++[q]) (ancs++[Ia ancs q.1.after.toList]) r
def jn{A:Type}(_ _ _:Nat)(_:St)(x:A):A:=x
def ai2(P:Program):AV->Option (Option (TypeId×Bool))
 | .tup []=>some none
 |  .dat T (.bool b)=>match P.underlying T with
    |some .bool=>some (some (T,b))
    |_=>none
 |_=>none
section
variable{R:Type}(P:Program)(E:Env)(call:FuncId->List AV->List Ob->(Res->Option R)->Option R)
def Zc(n:Nat)(o:Oper)(k:Dl->Option R):Option R:=match o.dst with
 |some d=>bif Nat.blt d n then k ⟨some (.tup []),[],[]⟩else none
 |none=>k ⟨none,[],[]⟩
def yA(n:Nat)(ops:List Oper):List Oper->St->List (Oper×Dl)->(St->List (Oper×Dl)->Option R)->Option R
 | [],σ,tr,k=>k σ tr
 |  o::r,  σ,tr,k=>match o.guard with
    |none=>evO P E call n o σ fun Y=>yA n ops r (σ.app o.dst Y) ((o,Y)::tr) k
    |some (j,want)=>match gslot ops j with
     |some d=>match ai2 P (tk σ.ts d)with
      |some none=>Zc n o fun Y=>yA n ops r (σ.app o.dst Y) ((o,Y)::tr) k
      |some (some (T,b))=>bif b then
           (bif want then evO P E call n o (σ.put d (.dat T (.bool true))) fun Y=>yA n ops r ((σ.put d (.dat T (.bool true))).app o.dst Y) ((o,Y)::tr) k
            else Zc n o fun Y=>yA n ops r ((σ.put d (.dat T (.bool true))).app o.dst Y) ((o,Y)::tr) k)
       else
           (bif want then Zc n o fun Y=>yA n ops r ((σ.put d (.dat T (.bool false))).app o.dst Y) ((o,Y)::tr) k
            else evO P E call n o (σ.put d (.dat T (.bool false))) fun Y=>yA n ops r ((σ.put d (.dat T (.bool false))).app o.dst Y) ((o,Y)::tr) k)
      |none=>none
     |none=>none
def pkC(hs:List Ob)(v:AV):AV:=match pk P hs v with
 |some (T,d)=> .dat T (canD P T d)
 |none=>v
def uM(q:TypeId->Bool)(hs:List Ob):Nat->List Ob->List Ob
 |_,[]=>[]
 |  0,.box T c::r=>(bif q T then .box T c else match pk P hs c with
    |some (T',d)=>bif Nat.beq T' T then .box T (.dat T (canD P T d))else .box T c
    |none=> .box T c)::uM q hs 0 r
 |0,o::r=>o::uM q hs 0 r
 |k+1,o::r=>o::uM q hs k r
def Ib(σ:St):List Nat->List Nat
 | []=>[]
 |  s ::r=>(match tk σ.ts s with
    | .ptr l _ _=>(match lk σ.hs l with
      | .box _ c=>c.rws
      |_=>[])
    |v=>v.rws)++Ib σ r
def nilAll(σ:St):List Nat->St
 | []=>σ
 |  s::r=>nilAll (match tk σ.ts s with
    | .ptr l _ _=>nilBox P σ l
    |_=>nilSlot P σ s) r
def aez:Nat->List Ob->List Nat
 |0,_=>[]
 |_,[]=>[]
 |k+1,o::r=>o.nms++aez k r
def geB(k:Nat):List Nat->List Nat
 | []=>[]
 |l::r=>bif Nat.ble k l then l::geB k r else geB k r
def LD(hs:List Ob)(k0:Nat)(vs:List AV):List Nat:=upto 0 k0++geB k0 (reach hs 1000 (AV.nmsL vs++aez k0 hs) [])
def relab(σ:St):St:=
 let src:=LD σ.hs σ.k0 σ.ts
 bif nodupB src then⟨AV.renL (ix src) σ.ts,vI (ix src) σ.hs src,σ.k0⟩else σ
def mvV(l nm:Nat)(v:AV):AV:=match v with
 | .row k=>bif Nat.beq k l then .row nm else .row k
 |v=>v
def mvO(l nm:Nat):Ob->Ob
 | .box T c=> .box T (mvV l nm c)
 |o=>o
def mvAt(σ:St)(l:Nat):St:=bif (Nat.blt l σ.k0&&Nat.ble σ.k0 σ.hs.length)then(match lk σ.hs l with
 | .row T es=>⟨σ.ts.map (mvV l σ.hs.length),(bI (bI σ.hs l .gone) σ.hs.length (.row T es)).map (mvO l σ.hs.length),σ.k0⟩
 |_=>σ)else σ
def mvSlot(σ:St)(t:Nat):St:=match tk σ.ts t with
 | .row l=>mvAt σ l
 |  .ptr b _ _=>match lk σ.hs b with
    | .box _ (.row l)=>mvAt σ l
    |_=>σ
 |_=>σ
def mvL(σ:St):List Nat->St
 | []=>σ
 |t::r=>mvL (mvSlot σ t) r
def CX(σ:St):List Nat->List Nat
 | []=>[]
 |s::r=>bif Nat.ble 1000000 s&&!qb (s-1000000) (AV.rwsL σ.ts)then(s-1000000)::CX σ r else CX σ r
def unfAt(σ:St)(l:Nat):St:=match lk σ.hs l with
 |  .rowD T5 T2 c k es (some (i,m))=>match lk σ.hs k,lk σ.hs m with
    | .tok T3 ls,.row T4 ds=>bif (Nat.beq T3 T2&&(Nat.beq T4 T2&&Nat.ble σ.k0 σ.hs.length))then⟨σ.ts,bI (bI (bI (bI σ.hs l (.rowD T5 T2 c σ.hs.length es none)) k .gone) m .gone) σ.hs.length (.tok T2 (ls.set i (.lst ds))),σ.k0⟩else σ
    |_,_=>σ
 |_=>σ
def unfL(σ:St):List Nat->St
 | []=>σ
 |l::r=>unfL (unfAt σ l) r
def frzDAt(σ:St)(l:Nat):St:=match lk σ.hs l with
 |  .rowD T5 T2 c k es none=>match lk σ.hs k with
    | .tok T3 ls=>bif Nat.beq T3 T2 then⟨σ.ts,bI (bI σ.hs l (.row T5 (frzD c es ls))) k .gone,σ.k0⟩else σ
    |_=>σ
 |_=>σ
def toDAt(c:Option Nat)(σ:St)(l:Nat):St:=match lk σ.hs l with
 |  .row T5 []=>match slE P T5 with
    |some Te=>match OU P Te c with
     |some (T2,_)=>match slE P T2 with
      |some _=>bif Nat.ble σ.k0 σ.hs.length then⟨σ.ts,bI (bI σ.hs l (.rowD T5 T2 c σ.hs.length [] none)) σ.hs.length (.tok T2 []),σ.k0⟩else σ
      |none=>σ
     |none=>σ
    |none=>σ
 |_=>σ
def cOf:Nat->Option Nat
 |0=>none
 |f+1=>some f
def deepC(σ:St)(cc l:Nat):St:=bif Nat.beq cc 99 then frzDAt σ l else toDAt P (cOf cc) σ l
def deep1(σ:St)(s cc:Nat):St:=match tk σ.ts s with
 | .row l=>deepC P σ cc l
 |  .ptr b _ _=>match lk σ.hs b with
    | .box _ (.row l)=>deepC P σ cc l
    |_=>σ
 |_=>σ
def deepL(σ:St):List Nat->St
 | []=>σ
 |t::r=>deepL (bif Nat.ble 2000000 t then deep1 P σ ((t-2000000)/100) ((t-2000000)%100)else σ) r
def om(f:FuncId)(key:Nat)(σ:St):St:=match E.keep f key with
 |none=>σ
 |  some (kp,fz,rw)=>
    let σ1:St:=⟨yG kp (JZ kp) σ.ts 0,σ.hs,σ.k0⟩
    let σ2:St:=⟨σ1.ts,gonN (frzN σ1.hs (Ib σ1 fz)) (CX σ1 fz),σ1.k0⟩
    let σ3:=deepL P (mvL (nilAll P (unfL σ2 (upto 0 σ2.hs.length)) rw) rw) rw
    let σ4:St:=⟨σ3.ts.map (pkC P σ3.hs),uM P E.npk σ3.hs 0 σ3.hs,σ3.k0⟩
    relab σ4
def LG:Code->Bool
 | .seq a _=>LG a
 | .block _ c=>LG c
 | .loop _=>true
 | .scope c=>LG c
 | .cond _ a _=>LG a
 |_=>false
def firstId:Code->Nat
 | .region id _ _=>id
 | .seq a _=>firstId a
 | .block _ c=>firstId c
 | .loop c=>firstId c
 | .scope c=>firstId c
 | .cond _ a b=>bif LG a then 0 else bif Nat.beq (firstId a) 0 then(bif LG b then 0 else firstId b)else firstId a
 |_=>0
def nextId:Code->Nat
 | .region id _ _=>id
 | .seq a _=>nextId a
 | .block _ c=>nextId c
 | .scope c=>nextId c
 | .cond _ a b=>bif LG a then 0 else bif Nat.beq (firstId a) 0 then(bif LG b then 0 else firstId b)else firstId a
 |_=>0
def nextK(J:Nat->Nat->Nat->St->Option R->Option R)(f:FuncId)(key:Nat)(σ:St)(g:St->Option R):Option R:=match (bif Nat.beq key 0 then none else E.keep f key)with
 |none=>g σ
 |some _=>J 0 key 0 (om P E f key σ) (g (om P E f key σ))
def ai3(nx:St->Option R)(k:Exit->St->Option R):Exit->St->Option R
 | .normal,σ=>nx σ
 |e,σ=>k e σ
def abM(id:Nat)(k:Exit->St->Option R):Exit->St->Option R
 | .exit id',σ=>bif Nat.beq id' id then k .normal σ else k (.exit id') σ
 |e,σ=>k e σ
def abN(k:Exit->St->Option R):Exit->St->Option R
 | .goto _,_=>none
 |e,σ=>k e σ
def LH(J:Nat->Nat->Nat->St->Option R->Option R)(key:Nat)(head:St->St)(body:St->(Exit->St->Option R)->Option R):Nat->St->(Exit->St->Option R)->Option R
 |0,_,_=>none
 |m+1,σ,k=>body σ (ai3 (fun σ'=>J 1 key m (head σ') (LH J key head body m (head σ') k)) k)
def ev0(J:Nat->Nat->Nat->St->Option R->Option R)(m:Nat)(f:FuncId)(n:Nat):Code->St->(Exit->St->Option R)->Option R
 | .skip,σ,k=>k .normal σ
 | .region _ ops false,σ,k=>yA P E call n ops.toList ops.toList σ [] fun σ' _=>k .normal σ'
 | .region _ ops true,σ,k=>yA P E call n ops.toList ops.toList σ [] fun σ' tr=>bif (vS 0 ops.toList&&JN ops.toList [] [] tr.reverse)then k .normal σ' else none
 | .seq a b,σ,k=>ev0 J m f n a σ (ai3 (fun σ'=>nextK P E J f (nextId b) σ' fun s=>ev0 J m f n b s k) k)
 |  .cond x a b,σ,k=>match Y7 P (opd P E.dt σ 0 x)with
    |some t=>bif t then ev0 J m f n a σ k else ev0 J m f n b σ k
    |none=>none
 | .block id c,σ,k=>ev0 J m f n c σ (abM id k)
 | .loop c,σ,k=>J 1 (firstId c) m (om P E f (firstId c) σ) (LH J (firstId c) (om P E f (firstId c)) (ev0 J m f n c) m (om P E f (firstId c) σ) k)
 | .exit id,σ,k=>k (.exit id) σ
 | .label _,σ,k=>k .normal σ
 | .scope c,σ,k=>ev0 J m f n c σ (abN k)
 | .ret,σ,k=>k .ret σ
 |_,_,_=>none
def bnd(o:Oper)(j:Nat):Bool:=o.after.toList.any fun e=>Region.binds .any e&&Nat.beq e.on j
def anB(o0 o1 o2 o3:Oper):Bool:=vS 0 [o0,o1,o2,o3]&&bnd o1 0&&bnd o2 0&&bnd o3 1&&bnd o3 2
def auf:Op->Bool
 | .store _ _ _=>true
 |_=>false
def awu:Op->Bool
 | .alloc _=>true
 |_=>false
def noG(o:Oper):Bool:=match o.guard with
 |none=>true
 |some _=>false
def anC:Code->Code->Option (Oper×Oper×Oper×Oper)
 |  .region _ ops true,.cond _ _ _=>match ops with
    | ⟨[o0,o1,o2,o3]⟩=>bif (awu o0.op&&(auf o1.op&&(auf o2.op&&(anB o0 o1 o2 o3&&(noG o0&&(noG o1&&(noG o2&&noG o3)))))))then some (o0,o1,o2,o3)else none
    |_=>none
 |_,_=>none
def aqT(n:Nat)(o0 o1 o2 o3:Oper)(σ:St)(k:St->St->Option R):Option R:=
 evO P E call n o0 σ fun d0=>evO P E call n o1 (σ.app o0.dst d0) fun d1=>evO P E call n o2 ((σ.app o0.dst d0).app o1.dst d1) fun d2=>evO P E call n o3 (((σ.app o0.dst d0).app o1.dst d1).app o2.dst d2) fun d3=>
 evO P E call n o2 (σ.app o0.dst d0) fun e2=>evO P E call n o1 ((σ.app o0.dst d0).app o2.dst e2) fun e1=>evO P E call n o3 (((σ.app o0.dst d0).app o2.dst e2).app o1.dst e1) fun e3=>
 k ((((σ.app o0.dst d0).app o1.dst d1).app o2.dst d2).app o3.dst d3) ((((σ.app o0.dst d0).app o2.dst e2).app o1.dst e1).app o3.dst e3)
def agN:Nat->List AV->List AV->List Nat
 |i,a::r,b::s=>bif Ew a b then i::agN (i+1) r s else agN (i+1) r s
 |_,_,_=>[]
def aug:Ob->Ob->Bool
 | .free,.free=>true
 |_,_=>false
def aeA:List Ob->List Ob->Bool
 | [],[]=>true
 |a::r,b::s=>(aiM a b||aug a b)&&aeA r s
 |_,_=>false
def ai4(a b:St):Bool:=Fg a.ts b.ts&&(aeA a.hs b.hs&&Nat.beq a.k0 b.k0)
def rmD(d:Option Nat)(l:List Nat):List Nat:=match d with
 |some d=>l.filter fun i=>!Nat.beq i d
 |none=>l
def mrg(f:FuncId)(d:Option Nat)(a b:St):Option St:=
 bif ai4 (om P {E with keep:=fun _ _=>some (rmD d (agN 0 a.ts b.ts),[],[])} f 1 a) (om P {E with keep:=fun _ _=>some (rmD d (agN 0 a.ts b.ts),[],[])} f 1 b)then some (om P {E with keep:=fun _ _=>some (rmD d (agN 0 a.ts b.ts),[],[])} f 1 a)else none
def inn(m:Nat)(f:FuncId)(n:Nat)(c:Code)(σ:St):Option (Exit×St):=ev0 P E (fun _ _ _ _=>none) (fun _ _ _ _ x=>x) m f n c σ fun e s=>some (e,s)
def ev(J:Nat->Nat->Nat->St->Option R->Option R)(m:Nat)(f:FuncId)(n:Nat):Code->St->(Exit->St->Option R)->Option R
 | .skip,σ,k=>k .normal σ
 | .region _ ops false,σ,k=>yA P E call n ops.toList ops.toList σ [] fun σ' _=>k .normal σ'
 | .region _ ops true,σ,k=>yA P E call n ops.toList ops.toList σ [] fun σ' tr=>bif (vS 0 ops.toList&&JN ops.toList [] [] tr.reverse)then k .normal σ' else none
 |  .seq a b,σ,k=>match anC a b with
    |none=>ev J m f n a σ (ai3 (fun σ'=>nextK P E J f (nextId b) σ' fun s=>ev J m f n b s k) k)
    |some q=>aqT P E call n q.1 q.2.1 q.2.2.1 q.2.2.2 σ fun σA σB=>match inn P E m f n b σA,inn P E m f n b σB with
     | some (.normal,s1),some (.normal,s2)=>(match mrg P E f q.1.dst s1 s2 with
       |some s=>k .normal s
       |none=>none)
     |_,_=>none
 |  .cond x a b,σ,k=>match Y7 P (opd P E.dt σ 0 x)with
    |some t=>bif t then ev J m f n a σ k else ev J m f n b σ k
    |none=>none
 | .block id c,σ,k=>ev J m f n c σ (abM id k)
 | .loop c,σ,k=>J 1 (firstId c) m (om P E f (firstId c) σ) (LH J (firstId c) (om P E f (firstId c)) (ev J m f n c) m (om P E f (firstId c) σ) k)
 | .exit id,σ,k=>k (.exit id) σ
 | .label _,σ,k=>k .normal σ
 | .scope c,σ,k=>ev J m f n c σ (abN k)
 | .ret,σ,k=>k .ret σ
 |_,_,_=>none
def abO(σ:St):List ResultVar->Option (List AV)
 | []=>some []
 |  .tmp t::r=>match tk σ.ts t with
    | .dead=>none
    | .tup _=>none
    | v=>match abO σ r with
      |some vs=>some (v::vs)
      |none=>none
 |  .cell p T::r=>match tk σ.ts p with
    | .ptr l [] 0=>match lk σ.hs l with
      | .box T' c=>bif (Nat.beq T' T&&(szB P T c&&(c.isAgg P==eu P T)))then(match abO σ r with
        |some vs=>some (c::vs)
        |none=>none)else none
      |_=>none
    |_=>none
def Oq:List AV->Bool
 | []=>true
 |  v::r=>(match v with
    | .dead=>false
    | .tup _=>false
    |_=>true)&&Oq r
def yB:List AV->AV
 | [v]=>v
 |vs=> .tup vs
def fin(f:FuncId)(fn:Func)(σ:St):Option Res:=match abO P σ fn.results.toList with
 |  some vs=>bif E.raw f then
     let r1:=AV.n2rL P vs σ.hs.length
     let hs1:=BS σ.hs σ.hs.length r1.2
     let src:=LD hs1 σ.k0 r1.1
     bif (nodupB src&&Nat.ble σ.k0 σ.hs.length)then(bif Oq (AV.renL (ix src) r1.1)then some ((yB r1.1).ren (ix src),vI (ix src) hs1 src)else none)else none
    else
     let hs1:=frzN σ.hs (AV.rwsL vs)
     let us:=vs.map (pkC P hs1)
     let src:=LD hs1 σ.k0 us
     bif nodupB src then(bif Oq (AV.renL (ix src) us)then some ((yB us).ren (ix src),vI (ix src) hs1 src)else none)else none
 |none=>none
end
def mvAll(σ:St):List ResultVar->St
 | []=>σ
 | .tmp t::r=>mvAll (mvSlot σ t) r
 |_::r=>mvAll σ r
def flat1(P:Program)(σ:St)(l:Nat):St:=match lk σ.hs l with
 |  .rowA T vs=>match slE P T with
    |some Te=>match zW P (frzN σ.hs (AV.rwsL vs)) Te vs with
     |some ds=>⟨σ.ts,bI (frzN σ.hs (AV.rwsL vs)) l (.row T ds),σ.k0⟩
     |none=>σ
    |none=>σ
 |_=>σ
def flatL(P:Program)(σ:St):List Nat->St
 | []=>σ
 |l::r=>flatL P (flat1 P σ l) r
def abP(σ:St):List ResultVar->List Nat
 | []=>[]
 | .tmp t::r=>(tk σ.ts t).rws++abP σ r
 |_::r=>abP σ r
def exitSt(P:Program)(E:Env)(f:FuncId)(fn:Func)(σ:St):St:=bif E.raw f then mvAll (om P E f 1000000 σ) fn.results.toList else(let σ1:=om P E f 1000000 σ;flatL P σ1 (abP σ1 fn.results.toList))
def WO(P:Program)(E:Env)(f:FuncId)(fn:Func):Exit->St->Option Res
 | .ret,σ=>fin P E f fn (exitSt P E f fn σ)
 | .normal,σ=>fin P E f fn (exitSt P E f fn σ)
 |_,_=>none
def run(P:Program)(E:Env):Nat->FuncId->List AV->List Ob->Option Res
 |0,_,_,_=>none
 |  m+1,f,args,objs=>match E.orc f with
    |some oc=>oc args objs
    |none=>match E.fns f with
    |some fn=>match fn.body with
     |some c=>bif Nat.ble args.length fn.ntmps then ev P E (fun f a o K=>(run P E m f a o).bind K) jn (m+1) f fn.ntmps c ⟨args,objs,objs.length⟩ (WO P E f fn)else none
     |none=>none
    |none=>none
theorem aO{A:Type}{b:Bool}{x:Option A}{r:A}(h:(bif b then x else none)=some r):b=true∧x=some r:=by
 cases b with
 |true=>exact⟨rfl,h⟩
 |false=>cases h
theorem bg{a b:Bool}(h:(a&&b)=true):a=true:=by cases a<;>simp_all
theorem aQ{a b:Bool}(h:(a&&b)=true):b=true:=by cases a<;>simp_all
theorem beq_eq{a b:Nat}(h:Nat.beq a b=true):a=b:=aU h
theorem CY{a b:Nat}(h:(!Nat.beq a b)=true):a≠b:=fun e=>by subst e;simp at h
section
variable{P:Program}{n:Nat}{o:Oper}{σ τ:St}{x y:Operand}{v:AV}{T:TypeId}{R:Type}{E:Env}
theorem aeB{av:TypeId->List Value->Option AV}{cs:List Value}:∀{fs:List Field}{vs:List AV},avF av P cs fs=some vs->vs.length=fs.length∧∀(i:Nat)(f:Field)(v:AV),fs[i]? =some f->vs[i]? =some v->v= .dead∨av f.type ((cs.drop f.offset).take (P.cellsOf f.type))=some v
 | [],vs,h=>by simp only[avF,aG]at h;subst h;exact⟨rfl,fun i f v hf=>by simp at hf⟩
 |f::fs,vs,h=>by
  unfold avF at h;split at h
  ·rename_i us hus;cases h;obtain⟨h1,h2⟩:=aeB hus;refine⟨by simp[h1],fun i g u hg hu=>?_⟩;cases i with
   |    zero=>
        simp only[bf,aG]at hg hu;subst hg;split at hu;·rename_i v hv;subst hu;exact .inr hv
        ·subst hu;exact .inl rfl
   |succ i=>simp only[aZ]at hg hu;exact h2 i g u hg hu
  ·cases h
theorem Ej:∀{k:Nat}{T:TypeId}{cs:List Value}{v:AV},avC P k T cs=some v->(∀(ok:Nat->Prop)(w:World)(β:Nat->Option Value),RA P ok w β v cs)∧v.isAgg P=eu P T∧v≠ .dead∧(∀us,v≠ .tup us)∧(eu P T=false->cs.length=1)
 |0,_,_,_,h=>by simp[avC]at h
 |k+    1,T,cs,v,h=>by
  unfold avC at h;split at h
  ·rename_i q hu;split at h
   ·    rename_i q' m;obtain⟨h1,h2⟩:=aO h;cases h2;have e:q=q':=by simpa using bg h1
        subst e;have h3:q.min<=m:=by simpa using bg (aQ h1)
        have h4:m<=q.max:=by simpa using aQ (aQ h1)
        exact⟨fun _ _ _=> .dat (.int hu h3 h4),rfl,by simp,by simp,fun _=>rfl⟩
   ·cases h
  ·rename_i hu;split at h;·cases h;exact⟨fun _ _ _=> .dat (.bool hu),rfl,by simp,by simp,fun _=>rfl⟩
   ·cases h
  ·rename_i hu;split at h
   ·    obtain⟨h1,h2⟩:=aO h;cases h2;exact⟨fun _ _ _=> .dat (.str hu (aN h1)),rfl,by simp,by simp,fun _=>rfl⟩
   ·cases h
  ·rename_i e hu;split at h;·cases h;exact⟨fun _ _ _=> .nils,by simp[AV.isAgg,eu,hu],by simp,by simp,fun _=>rfl⟩
   ·cases h
  ·rename_i fs hu;obtain⟨h1,h2⟩:=aO h;split at h2
   ·    rename_i vs hvs;cases h2;obtain⟨q1,q2⟩:=aeB hvs;refine⟨fun ok w β=> .agg hu (by rw[q1];simp) (beq_eq (bg h1)) (fun c hc=>List.all_eq_true.1 (aQ h1) c hc) fun i f u hf hu2=>by
         rcases q2 i f u (by simpa using hf) hu2 with rfl|h3;·exact .dead fun c hc=>List.all_eq_true.1 (aQ h1) c (List.mem_of_mem_drop (List.mem_of_mem_take hc))
         ·exact(Ej h3).1 ok w β,rfl,by simp,by simp,fun hf=>by simp[eu,hu]at hf⟩
   ·cases h2
  ·rename_i ms hu;split at h;·cases h;exact⟨fun _ _ _=> .nif,by simp[AV.isAgg,eu,hu],by simp,by simp,fun _=>rfl⟩
   ·cases h
  ·rename_i pe hu;split at h;·cases h;exact⟨fun _ _ _=> .dat (.nilp hu),rfl,by simp,by simp,fun _=>rfl⟩
   ·cases h
  ·cases h
theorem RV.const{ok:Nat->Prop}{w:World}{β:Nat->Option Value}{z:Value}{k:Nat}(h:avC P k T z.cells.toList=some v)(hz:FP z=eu P T):RV P ok w β v z:=by
 obtain⟨h1,h2,h3,h4,_⟩:=Ej h;refine RV.of1 h3 h4 ⟨fun hi=>?_,fun hi=>?_⟩
 ·rw[h2,←hz]at hi;cases z<;>simp[FP]at hi;exact⟨_,by simp[Value.cells],h1 _ _ _⟩
 ·rw[h2,←hz]at hi;have:=h1 ok w β;cases z<;>simp[FP]at hi<;>simpa [Value.cells]using this
theorem ai5{ok:Nat->Prop}{w:World}{β:Nat->Option Value}{z:Value}:∀{Ts:List TypeId},RV P ok w β (cst P z Ts) z
 | []=>trivial
 |T::r=>by
  unfold cst;split
  ·rename_i a ha;cases hb:FP z==eu P T with
   |true=>exact RV.const ha (by simpa using hb)
   |false=>exact trivial
  ·exact ai5
theorem vV{D:List TypeId}:Ev P σ x (opd P D σ T x):=by
 cases x with
 |tmp t=>exact Ev.tmp rfl
 |const v=>exact fun _ _ _ _ _ _ _=>ai5
 |func f=>exact Ev.fn
 |global g=>exact fun _ _ _ _ _ _ _=>trivial
def Agrs(σ σ':St)(xs:List Operand):Prop:=∀t∈tmpsOf xs,tk σ'.ts t=tk σ.ts t
theorem Zd{t:Nat}:∀{xs:List Operand},.tmp t∈xs->t∈tmpsOf xs
 | [],h=>by simp at h
 |y::r,h=>by
  rcases List.mem_cons.1 h with e|h1;·subst e;simp[tmpsOf]
  ·have:=Zd h1;cases y<;>simp[tmpsOf,this]
theorem wG{σ':St}{D:List TypeId}{xs:List Operand}(h:Agrs σ σ' xs)(hx:x∈xs):opd P D σ' T x=opd P D σ T x:=by
 cases x with
 |tmp t=>exact h t (Zd hx)
 |const v=>rfl
 |func f=>rfl
 |global g=>rfl
theorem CZ{σ':St}{D:List TypeId}{xs:List Operand}(h:Agrs σ σ' xs):∀{Ts:List TypeId}{ys:List Operand},(∀y∈ys,y∈xs)->dw P D σ' Ts ys=dw P D σ Ts ys
 | [],_,_=>by simp[dw]
 |_::_,[],_=>by simp[dw]
 |T::Ts,y::ys,hy=>by simp only[dw];rw[wG h (hy y (by simp)),CZ h fun z hz=>hy z (by simp[hz])]
theorem Ic{D:List TypeId}:∀{Ts:List TypeId}{xs:List Operand},xs.length=Ts.length->EvXs P σ xs (dw P D σ Ts xs)
 | [],[],_=> .nil
 |T::Ts,x::xs,h=> .cons vV (Ic (by simpa using h))
 | [],_::_,h=>by simp at h
 |_::_,[],h=>by simp at h
theorem wL{b:Bool}(h:Y7 P v=some b):∃T d,v= .dat T d∧P.underlying T=some .bool∧b=d.toBool:=by
 unfold Y7 at h;split at h
 ·split at h;·rename_i hu;cases h;exact⟨_,_,rfl,hu,rfl⟩
  ·cases h
 ·cases h
theorem nH{Tx:TypeId}{q:IntKind}{i:Int}(h:ival P v=some (Tx,q,i)):∃d,v= .dat Tx d∧P.underlying Tx=some (.int q)∧i=d.toInt:=by
 unfold ival at h;split at h
 ·split at h;·rename_i hu;cases h;exact⟨_,rfl,hu,rfl⟩
  ·cases h
 ·cases h
theorem qQ{Tx:TypeId}{s:ByteArray}(h:Oe P v=some (Tx,s)):∃d,v= .dat Tx d∧P.underlying Tx=some .string∧s=d.toStr:=by
 unfold Oe at h;split at h
 ·split at h;·rename_i hu;cases h;exact⟨_,rfl,hu,rfl⟩
  ·cases h
 ·cases h
theorem El{hs:List Ob}{Tx Te:TypeId}{es:List Dt}(h:lval P hs v=some (Tx,Te,es)):∃d,pk P hs v=some (Tx,d)∧P.underlying Tx=some (.slice Te)∧es=d.toLst:=by
 unfold lval at h;split at h
 ·rename_i T' d hp;split at h;·rename_i hu;cases h;exact⟨_,hp,hu,rfl⟩
  ·cases h
 ·cases h
theorem dJ{Te:TypeId}(h:slE P T=some Te):P.underlying T=some (.slice Te):=by
 unfold slE at h;split at h;·rename_i hu;cases h;exact hu
 ·cases h
theorem rP{fs:Array Field}(h:stF P T=some fs):P.underlying T=some (.struct fs):=by
 unfold stF at h;split at h;·rename_i hu;cases h;exact hu
 ·cases h
theorem Ze(h:isB P T=true):P.underlying T=some .bool:=by
 unfold isB at h;split at h;·assumption
 ·cases h
theorem rQ{k:IntKind}(h:isI P T k=true):P.underlying T=some (.int k):=by
 unfold isI at h;split at h
 ·rename_i k' hu;have e:k'=k:=by simpa using h
  subst e;exact hu
 ·cases h
theorem vF(h:isS P T=true):P.underlying T=some .string:=by
 unfold isS at h;split at h;·assumption
 ·cases h
theorem jg:∀{Ts:List TypeId}{TB:TypeId},bT P Ts=some TB->P.underlying TB=some .bool
 | [],_,h=>by simp[bT]at h
 |T::r,TB,h=>by
  unfold bT at h;cases hb:isB P T with
  |true=>rw[hb]at h;cases h;exact Ze hb
  |false=>rw[hb]at h;exact jg h
theorem fK{Te:TypeId}(h:kJ P T Te=true):P.underlying T=some (.slice Te)∧P.cellsOf Te≠0:=by
 unfold kJ at h;refine⟨?_,CY (aQ h)⟩;have h1:=bg h;split at h1
 ·rename_i Te' he;have:=beq_eq h1;subst this;exact dJ he
 ·cases h1
theorem lS(h:szB P T v=true):v≠ .dead∧(∀us,v≠ .tup us)∧(∃D,P.underlying T=some D)∧(v.isAgg P=false->P.cellsOf T=1)∧
  ∀(ok:Nat->Prop)(w:World)(β:Nat->Option Value)(cs:List Value),RA P ok w β v cs->(v.isAgg P=false->cs.length=1)->cs.length=P.cellsOf T:=by
 have h0:=bg h;have h1:=aQ h;have hu:∃D,P.underlying T=some D:=Option.isSome_iff_exists.1 h0;unfold szA at h1;split at h1
 ·rename_i T' d;split at h1
  ·rename_i fs hfs;have e:=beq_eq h1;refine⟨by simp,by simp,hu,fun hi=>by simp[AV.isAgg,eu,hfs]at hi,fun ok w β cs hr _=>?_⟩;cases hr with
   |dat hr=>rw[←e];exact(hr.agg_inv hfs).2.1
  ·rename_i m1 m2 hfs;have e:=beq_eq h1;refine⟨by simp,by simp,hu,fun hi=>by simp[AV.isAgg,eu,hfs]at hi,fun ok w β cs hr _=>?_⟩;cases hr with
   |dat hr=>rw[←e];exact(hr.arr_inv hfs).2.2.1
  ·exact⟨by simp,by simp,hu,fun _=>beq_eq h1,fun ok w β cs hr hl=>by rw[beq_eq h1];rename_i D hn1 hn2 hD;refine hl ?_;simp only[AV.isAgg,eu,hD];cases D<;>simp_all⟩
  ·cases h1
 ·rename_i T' vs;split at h1
  ·rename_i fs hfs;have e:=beq_eq h1;refine⟨by simp,by simp,hu,fun hi=>by simp[AV.isAgg,eu,hfs]at hi,fun ok w β cs hr _=>?_⟩;cases hr with
   |agg _ _ hc _ _=>rw[←e];exact hc
  ·cases h1
 ·cases h1
 ·cases h1
 ·rename_i h3 h4 h5 h6;have hag:v.isAgg P=false:=by cases v<;>first|rfl|(exact absurd rfl (h3 _ _))|(exact absurd rfl (h4 _ _))
  exact⟨fun e=>h5 e,fun us e=>h6 us e,hu,fun _=>beq_eq h1,fun ok w β cs hr hl=>by rw[beq_eq h1];exact hl hag⟩
theorem vG:∀{path:List Nat}{S:TypeId}{c:AV}{T:TypeId}{q:Nat}{v:AV},getAt P S c path=some (T,q,v)->GetAt P S c path q T v
 | [],S,c,T,q,v,h=>by
   have h':some (S,0,c)=some (T,q,v):=by simpa [getAt]using h
   cases h';exact .nil
 | i::p,  S,c,T,q,v,h=>by
   unfold getAt at h;split at h;·rename_i he;cases he
   ·rename_i S0 S' vs i' p' he;cases he;split at h
    ·   rename_i fs hfs;split at h
        ·rename_i f hf;split at h
         ·rename_i u hu;obtain⟨h1,h2⟩:=aO h;split at h2
          ·rename_i T' q' r hg;cases h2;have e:=beq_eq (bg h1);subst e;exact .agg (rP hfs) hf hu (aN (aQ h1)) (vG hg)
          ·cases h2
         ·cases h
        ·cases h
    ·cases h
   ·rename_i S0 S' d i' p' he;cases he;split at h
    ·   rename_i fs hfs;split at h
        ·rename_i f hf;obtain⟨h1,h2⟩:=aO h;split at h2
         ·rename_i T' q' r hg;cases h2;have e:=beq_eq (bg h1);subst e;exact .dat (rP hfs) hf (aN (aQ h1)) (vG hg)
         ·cases h2
        ·cases h
    ·cases h
   ·cases h
theorem yC{T':TypeId}:∀{path:List Nat}{S:TypeId}{c:AV}{q:Nat}{c':AV},setAt P T' v S c path=some (q,c')->SetAt P v T' S c path q c'
 | [],S,c,q,c',h=>by
   have h':(bif Nat.beq S T' then some (0,v)else none)=some (q,c'):=by simpa [setAt]using h
   obtain⟨h1,h2⟩:=aO h';cases h2;have:=beq_eq h1;subst this;exact .nil
 | i::p,  S,c,q,c',h=>by
   unfold setAt at h;split at h
   ·rename_i fs hfs;split at h
    ·   rename_i f hf;split at h
        ·rename_i vs hvs;split at h
         ·rename_i old hold;obtain⟨h1,h2⟩:=aO h;split at h2
          ·rename_i q' new hg;cases h2;have key:=SetAt.agg (v:=v) (T':=T') (rP hfs) h1 hf hold (yC hg);split at hvs
           ·obtain⟨e1,e2⟩:=aO hvs;cases e2;have:=beq_eq e1;subst this;exact key
           ·obtain⟨e1,e2⟩:=aO hvs;cases e2;have:=beq_eq e1;subst this;exact .dat (rP hfs) key
           ·cases hvs
          ·cases h2
         ·cases h
        ·cases h
    ·cases h
   ·cases h
theorem C8(h:zeroV P T=some v):ZeroA P T v:=by
 unfold zeroV at h;split at h
 ·rename_i i hi;split at h
  ·rename_i z hz;obtain⟨h1,h2⟩:=aO h;exact⟨i,z,hi,hz,beq_eq h1,(Ej h2).1⟩
  ·cases h
 ·cases h
theorem nU{d:Dt}(h:LC P T=some d):Zero P T d:=by
 unfold LC at h;split at h
 ·rename_i v hv;split at h
  ·rename_i T' d' hp;obtain⟨h1,h2⟩:=aO h;cases h2;have:=beq_eq h1;subst this;obtain⟨i,z,q1,q2,q3,q4⟩:=(C8 hv).ex;exact⟨i,z,q1,q2,q3,fun ok w=>kF (β:=fun _=>none) (hs:=[]) (fun l T es hl=>by simp[lk]at hl) (q4 ok w _) hp⟩
  ·cases h
 ·cases h
theorem Ot{fs:Array Field}:∀{parts:List (Nat×Operand)}{vs us:List AV},RJ P E σ fs parts vs=some us->BldL P σ fs parts vs us
 | [],vs,us,h=>by
   have h':some vs=some us:=by simpa [RJ]using h
   cases h';exact .nil
 | (i,x)::r,vs,us,h=>by
   unfold RJ at h;split at h
   ·rename_i f hf;obtain⟨h1,h2⟩:=aO h;obtain⟨q1,q2,q3,q4,q5⟩:=lS h1;exact .cons hf vV q1 q2 q5 (Ot h2)
   ·cases h
theorem Zf{σ':St}{fs:Array Field}{xs:List Operand}(h:Agrs σ σ' xs):∀{parts:List (Nat×Operand)}{vs:List AV},(∀p∈parts,p.2∈xs)->RJ P E σ' fs parts vs=RJ P E σ fs parts vs
 | [],vs,_=>by simp[RJ]
 |(i,x)::r,vs,hp=>by
  have hx:=hp (i,x) (by simp);unfold RJ;split
  ·rename_i f hf;rw[wG h hx,Zf h fun p hq=>hp p (by simp[hq])]
  ·rfl
theorem wH{lo:Option Operand}{i:Int}(h:wY P E σ 0 lo=some i):abt P σ lo i:=by
 cases lo with
 |none=>simp only[wY,aG]at h;exact h.symm
 |some x=>
  simp only[wY]at h;split at h
  ·rename_i Tx q i' hi;cases h;obtain⟨d,e1,e2,rfl⟩:=nH hi;refine⟨Tx,q,e2,?_⟩;have:=vV (P:=P) (σ:=σ) (x:=x) (T:=0) (D:=E.dt);rw[e1]at this;exact this.cint e2
  ·cases h
theorem WQ{hi:Option Operand}{m:Nat}{i:Int}(h:wY P E σ m hi=some i):ahX P σ m hi i:=by
 cases hi with
 |none=>simp only[wY,aG]at h;exact h.symm
 |some x=>
  simp only[wY]at h;split at h
  ·rename_i Tx q i' hi;cases h;obtain⟨d,e1,e2,rfl⟩:=nH hi;refine⟨Tx,q,e2,?_⟩;have:=vV (P:=P) (σ:=σ) (x:=x) (T:=0) (D:=E.dt);rw[e1]at this;exact this.cint e2
  ·cases h
theorem oO{σ':St}{xs:List Operand}{m:Int}{b:Option Operand}(h:Agrs σ σ' xs)(hb:∀x,b=some x->x∈xs):wY P E σ' m b=wY P E σ m b:=by
 cases b with
 |none=>rfl
 |some x=>simp only[wY];rw[wG h (hb x rfl)]
theorem Bl{hs hs':List Ob}(v:AV):(∀l∈v.rws,lk hs' l=lk hs l)->pk P hs' v=pk P hs v:=by
 refine AV.rec (motive_1:=fun v=>(∀l∈v.rws,lk hs' l=lk hs l)->pk P hs' v=pk P hs v) (motive_2:=fun vs=>(∀l∈AV.rwsL vs,lk hs' l=lk hs l)->∀fs,pkL P hs' fs vs=pkL P hs fs vs) ?_ ?_ ?_ ?_ ?_ ?_ ?_ ?_ ?_ ?_ ?_ ?_ ?_ ?_ v;·intro T d _;rfl
 ·intro T vs ih h;simp only[pk];split
  ·rename_i fs _;rw[ih (by simpa [AV.rws]using h) fs.toList]
  ·rfl
 ·intro l h;simp only[pk];rw[h l (by simp[AV.rws])]
 ·intro l p o _;rfl
 ·intro l i z p o _;rfl
 ·intro T d _;rfl
 ·intro f c _ _;rfl
 ·intro vs _ _;rfl
 ·intro T _;rfl
 ·intro b _;rfl
 ·intro T v _ _;rfl
 ·intro _;rfl
 ·intro _ fs;cases fs<;>rfl
 ·intro v vs h1 h2 h fs;cases fs with
  |nil=>rfl
  |cons f fs=>
   simp only[pkL];rw[h1 fun l hl=>h l (by simp[AV.rwsL,hl]),h2 (fun l hl=>h l (by simp[AV.rwsL,hl])) fs]
theorem Zg{l:Nat}{v:AV}:∀{vs:List AV},v∈vs->l∈v.rws->l∈AV.rwsL vs
 | [],h,_=>by simp at h
 |u::r,h,hl=>by
  rcases List.mem_cons.1 h with e|h;·subst e;simp[AV.rwsL,hl]
  ·simp[AV.rwsL,Zg h hl]
theorem Ou{hs:List Ob}{T:TypeId}{d:Dt}(v:AV)(h:pk P [] v=some (T,d)):pk P hs v=some (T,d):=by
 have key:∀v:AV,∀T d,pk P [] v=some (T,d)->pk P hs v=some (T,d):=by
  intro v;refine AV.rec (motive_1:=fun v=>∀T d,pk P [] v=some (T,d)->pk P hs v=some (T,d)) (motive_2:=fun vs=>∀fs ds,pkL P [] fs vs=some ds->pkL P hs fs vs=some ds) ?_ ?_ ?_ ?_ ?_ ?_ ?_ ?_ ?_ ?_ ?_ ?_ ?_ ?_ v;·intro T d T' d' h;exact h
  ·intro T vs ih T' d' h;simp only[pk]at h ⊢
   split at h
   ·    rename_i fs hfs;split at h
        ·rename_i ds hds;rw[ih _ _ hds];exact h
        ·cases h
   ·cases h
  ·intro l T d h;simp[pk,lk]at h
  ·intro l p o T d h;simp[pk]at h
  ·intro l i z p o T d h;simp[pk]at h
  ·intro T d T' d' h;simp[pk]at h
  ·intro f c _ T' d' h;simp[pk]at h
  ·intro vs _ T' d' h;simp[pk]at h
  ·intro T T' d' h;exact h
  ·intro b T' d' h;simp[pk]at h
  ·intro T v _ T' d' h;simp[pk]at h
  ·intro T' d' h;simp[pk]at h
  ·intro fs ds h;cases fs with
   |nil=>exact h
   |cons f fs=>simp[pkL]at h
  ·intro  v vs h1 h2 fs ds h;cases fs with
   |nil=>simp[pkL]at h
   |    cons f fs=>
        unfold pkL at h ⊢
        split at h
        ·rename_i T d hv;rw[h1 _ _ hv];simp only;cases hc:compat P T f.type with
         |false=>rw[hc]at h;cases h
         |true=>
          rw[hc]at h;simp only[cond_true]at h ⊢
          split at h
          · rename_i us hus;rw[h2 _ _ hus];exact h
          ·cases h
        ·cases h
 exact key v T d h
theorem FU{hs:List Ob}{T2 k:Nat}{r:List Nat}{ls:List Dt}(h:Uh hs T2 k r=some ls):k∈r∧lk hs k= .tok T2 ls:=by
 unfold Uh at h;split at h;·cases h
 ·rename_i k' r';split at h
  ·rename_i T4 ls' hl;have hh_:=aO h;clear h;obtain⟨hc,h⟩:=hh_;have e1:=beq_eq (bg hc);have e2:=beq_eq (aQ hc);subst e1 e2;cases h;exact⟨by simp,hl⟩
  ·cases h
theorem agO{T2 k:Nat}{r:List Nat}{hs hs':List Ob}(h:∀l∈r,lk hs' l=lk hs l):Uh hs' T2 k r=Uh hs T2 k r:=by
 cases r with
 |nil=>rfl
 |cons a r=>simp only[Uh,h a (by simp)]
theorem Np{ls:List Nat}{hs hs':List Ob}{j:Nat}{ob:Ob}(h:∀l∈ls,lk hs' l=lk hs l):∀l∈ls,lk (bI hs' j ob) l=lk (bI hs j ob) l:=fun l hl=>by
 rw[kD,kD];split;·rfl
 ·exact h l hl
theorem lT:∀{ls:List Nat}{hs hs':List Ob},(∀l∈ls,lk hs' l=lk hs l)->frzW hs' ls=frzW hs ls
 | [],hs,hs',_=>rfl
 |l::r,hs,hs',h=>by
  have hr:∀k∈r,lk hs' k=lk hs k:=fun k hk=>h k (by simp[hk]);unfold frzW;rw[h l (by simp)];split
  ·rename_i T es hl;congr 1;exact lT (Np hr)
  ·rename_i T T2 c k es hl;rw[agO hr];split
   ·    rename_i ls hls;congr 1;congr 1;congr 1;exact lT (Np (Np (Np hr)))
   ·exact lT hr
  ·exact lT hr
theorem qR{ls:List Nat}:∀{ws:List (Nat×Ob)}{hs hs':List Ob},(∀l∈ls,lk hs' l=lk hs l)->∀l∈ls,lk (wrO hs' ws) l=lk (wrO hs ws) l
 | [],hs,hs',h,l,hl=>h l hl
 |(k,ob)::r,hs,hs',h,l,hl=>by
  refine qR (ls:=ls) (ws:=r) (hs:=bI hs k ob) (hs':=bI hs' k ob) (fun l hl=>?_) l hl;rw[kD,kD];split;·rfl
  ·exact h l hl
theorem tO:∀(a b:List (Nat×Ob))(hs:List Ob),wrO hs (a++b)=wrO (wrO hs a) b
 | [],b,hs=>rfl
 |(l,ob)::r,b,hs=>tO r b _
theorem Imp.freezeD{l k:Nat}{T T2:TypeId}{c:Option Nat}{es ls:List Dt}(hl:lk σ.hs l= .rowD T T2 c k es none)(hk:lk σ.hs k= .tok T2 ls):Imp P n σ ⟨σ.ts,bI (bI σ.hs l (.row T (frzD c es ls))) k .gone,σ.k0⟩:=by rintro ok0 w0 a w ⟨β,r⟩;exact⟨β,r.freezeD hl hk⟩
theorem Imp.frzW:∀(ls:List Nat){σ:St},Imp P n σ ⟨σ.ts,wrO σ.hs (frzW σ.hs ls),σ.k0⟩
 | [],σ=>Imp.refl
 |l::r,σ=>by
  unfold Am.frzW;split
  ·rename_i T es hl;have h1:Imp P n σ ⟨σ.ts,bI σ.hs l (.frz T es),σ.k0⟩:=by have h1:=Imp.frz1 (P:=P) (n:=n) (σ:=σ) l;unfold Am.frz1 at h1;rw[hl]at h1;exact h1
   exact h1.trans (Imp.frzW r (σ:=⟨σ.ts,bI σ.hs l (.frz T es),σ.k0⟩))
  ·rename_i T T2 c k es hl;split
   ·    rename_i ls hls;obtain⟨_,hk⟩:=FU hls;have hlk:l≠k:=fun e=>by rw[e,hk]at hl;cases hl
        have h1:=Imp.freezeD (P:=P) (n:=n) hl hk;have h2:Imp P n ⟨σ.ts,bI (bI σ.hs l (.row T (frzD c es ls))) k .gone,σ.k0⟩ ⟨σ.ts,bI (bI (bI σ.hs l (.row T (frzD c es ls))) k .gone) l (.frz T (frzD c es ls)),σ.k0⟩:=by
         have h1:=Imp.frz1 (P:=P) (n:=n) (σ:=⟨σ.ts,bI (bI σ.hs l (.row T (frzD c es ls))) k .gone,σ.k0⟩) l;unfold Am.frz1 at h1;have e:lk (bI (bI σ.hs l (.row T (frzD c es ls))) k .gone) l= .row T (frzD c es ls):=by rw[bE _ _ _ _ hlk,dU]
         simp only[e]at h1;exact h1
        exact(h1.trans h2).trans (Imp.frzW r (σ:=⟨σ.ts,bI (bI (bI σ.hs l (.row T (frzD c es ls))) k .gone) l (.frz T (frzD c es ls)),σ.k0⟩))
   ·exact Imp.frzW r
  ·exact Imp.frzW r
theorem ai6{hs:List Ob}{l k:Nat}{ob:Ob}(h:lk hs l= .free)(hk:lk hs k≠ .free):lk (bI hs k ob) l= .free:=by rw[bE _ _ _ _ fun e=>hk (by rw[←e];exact h)];exact h
theorem sM:∀{ls:List Nat}{hs:List Ob}{l:Nat},lk hs l= .free->lk (wrO hs (Am.frzW hs ls)) l= .free
 | [],hs,l,h=>h
 |k::r,hs,l,h=>by
  unfold Am.frzW;split
  ·rename_i T es hl;exact sM (ai6 h (by rw[hl];nofun))
  ·rename_i T T2 c kk es hl;split
   ·    rename_i ls hls;obtain⟨_,hk⟩:=FU hls;refine sM ?_;have e1:l≠k:=fun e=>by rw[e,hl]at h;cases h
        have e2:l≠kk:=fun e=>by rw[e,hk]at h;cases h
        rw[bE _ _ _ _ e1,bE _ _ _ _ e2,bE _ _ _ _ e1];exact h
   ·exact sM h
  ·exact sM h
theorem sG:∀{ls:List Nat}{hs:List Ob}{l:Nat},l∉ls->lk (wrO hs (Am.frzW hs ls)) l=lk hs l
 | [],hs,l,h=>rfl
 |k::r,hs,l,h=>by
  simp only[List.mem_cons,not_or]at h;unfold Am.frzW;split
  ·rename_i T es hl;simp only[wrO];rw[sG h.2,bE _ _ _ _ h.1]
  ·rename_i T T2 c kk es hl;split
   ·    rename_i ls hls;obtain⟨hm,hk⟩:=FU hls;have e2:l≠kk:=fun e=>h.2 (by rw[e];exact hm);simp only[wrO];rw[sG h.2,bE _ _ _ _ h.1,bE _ _ _ _ e2,bE _ _ _ _ h.1]
   ·exact sG h.2
  ·exact sG h.2
theorem aqU(σ:St)(d:Option Nat)(Y:Dl):(σ.app d Y).k0=σ.k0:=rfl
end
structure Agr (o:Oper) (σ σ':St) (rd:List Nat):Prop where
 ts:Agrs σ σ' o.op.operands.toList
 hs:∀l∈rd,lk σ'.hs l=lk σ.hs l
 k0:σ'.k0=σ.k0
def OpS{R:Type}(P:Program)(n:Nat)(o:Oper)(σ:St)(k:Dl->Option R)(r:R):Prop:=
 ∃Y,k Y=some r∧∀σ',Agr o σ σ' Y.rd->dz P n o σ' (σ'.app o.dst Y)
section
variable{P:Program}{n:Nat}{o:Oper}{σ τ:St}{x y:Operand}{v:AV}{T:TypeId}{R:Type}{E:Env}{k:Dl->Option R}{r:R}
theorem nI{rd:List Nat}{wr:List (Nat×Ob)}(h:out n o v rd wr k=some r):∃d,o.dst=some d∧d<n∧k ⟨some v,rd,wr⟩=some r:=by
 unfold out at h;split at h
 ·rename_i d hd;obtain⟨h1,h2⟩:=aO h;exact⟨d,hd,aN h1,h2⟩
 ·cases h
theorem zY{rd:List Nat}{wr:List (Nat×Ob)}(h:abF o rd wr k=some r):o.dst=none∧k ⟨none,rd,wr⟩=some r:=by
 unfold abF at h;split at h;·cases h
 ·rename_i hd;exact⟨hd,h⟩
theorem oP{f:Nat->Option R}(h:new σ f=some r):σ.k0<=σ.hs.length∧f σ.hs.length=some r:=by unfold new at h;obtain⟨h1,h2⟩:=aO h;exact⟨aN h1,h2⟩
theorem cB{rd:List Nat}(h:out n o v rd [] k=some r)(hv:∀σ',Agr o σ σ' rd->∀d,o.dst=some d->d<n->dz P n o σ' (σ'.put d v)):OpS P n o σ k r:=by obtain⟨d,hd,hn,hk⟩:=nI h;refine⟨_,hk,fun σ' ha=>?_⟩;have:=hv σ' ha d hd hn;rw[hd];exact this
theorem aeC{rd:List Nat}{l:Nat}{ob:Ob}(h:out n o v rd [(l,ob)] k=some r)(hv:∀σ',Agr o σ σ' rd->∀d,o.dst=some d->d<n->dz P n o σ' ((σ'.lay l ob).put d v)):OpS P n o σ k r:=by obtain⟨d,hd,hn,hk⟩:=nI h;refine⟨_,hk,fun σ' ha=>?_⟩;have:=hv σ' ha d hd hn;rw[hd];exact this
theorem tQ{σ':St}{rd:List Nat}(ha:Agr o σ σ' rd)(hx:x∈o.op.operands.toList):Ev P σ' x (opd P E.dt σ T x):=by rw[←wG ha.ts hx];exact vV
theorem dh{σ':St}{rd:List Nat}{u:AV}(ha:Agr o σ σ' rd)(hx:x∈o.op.operands.toList)(hv:opd P E.dt σ T x=u):Ev P σ' x u:=by rw[←hv];exact tQ ha hx
theorem aqV(ho:o.op= .move x)(h:out n o (opd P E.dt σ o.type x) [] [] k=some r):OpS P n o σ k r:=
 cB h fun σ' ha d hd hn=>am1 ho hd hn (tQ ha (by rw[ho];simp[Op.operands]))
theorem ai7(ho:o.op= .assign x)(h:out n o (opd P E.dt σ o.type x) [] [] k=some r):OpS P n o σ k r:=
 cB h fun σ' ha d hd hn=>ags ho hd hn (tQ ha (by rw[ho];simp[Op.operands]))
theorem aqW{c:Operand}(ho:o.op= .pick c x y)(h:abJ P E n o σ c x y k=some r):OpS P n o σ k r:=by
 unfold abJ at h;split at h
 ·rename_i b hb;obtain⟨TB,d0,e1,e2,rfl⟩:=wL hb;cases hd0:d0.toBool with
  |true=>
   rw[hd0]at h;exact cB h fun σ' ha d hd hn=>by have hc:=(dh (x:=c) ha (by rw[ho];simp[Op.operands]) e1).cbool e2;rw[hd0]at hc;exact VQ ho hd hn e2 hc (tQ ha (by rw[ho];simp[Op.operands]))
  |false=>
   rw[hd0]at h;exact cB h fun σ' ha d hd hn=>by have hc:=(dh (x:=c) ha (by rw[ho];simp[Op.operands]) e1).cbool e2;rw[hd0]at hc;exact RB ho hd hn e2 hc (tQ ha (by rw[ho];simp[Op.operands]))
 ·cases h
theorem oQ(σ:St):lk σ.hs σ.hs.length= .free:=oo _ _ (ak _)
theorem anD(ho:o.op= .alloc T)(h:WC P n o σ T k=some r):OpS P n o σ k r:=by
 unfold WC at h;split at h
 ·rename_i v hv;have hh_:=oP h;clear h;obtain⟨hk0,h⟩:=hh_;exact aeC h fun σ' ha d hd hn=>ahQ ho hd hn (by rw[ha.hs _ (by simp)];exact oQ σ) (by rw[ha.k0];exact hk0) (C8 hv)
 ·cases h
theorem auh(ho:o.op= .box T x)(h:aiQ P E n o σ T x k=some r):OpS P n o σ k r:=by unfold aiQ at h;have hh_:=aO h;clear h;obtain⟨hb,h⟩:=hh_;have hh_:=oP h;clear h;obtain⟨hk0,h⟩:=hh_;obtain⟨q1,q2,q3,q4,q5⟩:=lS hb;exact aeC h fun σ' ha d hd hn=>aqr ho hd hn (by rw[ha.hs _ (by simp)];exact oQ σ) (by rw[ha.k0];exact hk0) (tQ ha (by rw[ho];simp[Op.operands])) q1 q2 q5
theorem anE{parts:Array (Nat×Operand)}(ho:o.op= .build T parts)(h:WG P E n o σ T parts.toList k=some r):OpS P n o σ k r:=by
 unfold WG at h;split at h
 ·rename_i fs hfs;split at h
  ·rename_i T' vs hz;have hh_:=aO h;clear h;obtain⟨hc,h⟩:=hh_;have e:=beq_eq (bg hc);subst e;split at h
   ·    rename_i us hus;refine cB h fun σ' ha d hd hn=>ahV ho hd hn (rP hfs) (bg (aQ hc)) (aQ (aQ hc)) (C8 hz) ?_;have:RJ P E σ' fs parts.toList vs=some us:=by rw[Zf ha.ts fun p hp=>by rw[ho];simp only[Op.operands];exact List.mem_map.2 ⟨p,hp,rfl⟩];exact hus
        exact Ot this
   ·cases h
  ·cases h
 ·cases h
theorem awv{σ τ:St}(h:∀(ok0:OkX)(w0:World)(a:Act)(w:World)(β:Nat->Option Value),RelB P ok0 w0 n σ a w β->dz P n o σ τ):dz P n o σ τ:=by rintro ok0 w0 a w ⟨β,r⟩;exact h ok0 w0 a w β r ok0 w0 a w ⟨β,r⟩
theorem anF{l i sz off kk:Nat}{path:List Nat}{T5 T2:TypeId}{c:Option Nat}{es:List Dt}{hh:Option (Nat×Nat)}(ho:o.op= .load T x)(e1:opd P E.dt σ 0 x= .eptr l i sz path off)(hl:lk σ.hs l= .rowD T5 T2 c kk es hh)
  (h:WH P n o σ T l i sz off T5 T2 c kk es hh k=some r):OpS P n o σ k r:=by
 have hx:x∈o.op.operands.toList:=by rw[ho];simp[Op.operands]
 unfold WH at h;split at h
 ·rename_i Te E2 T4 ls h1 h2 h3;split at h
  ·rename_i T3 fo hf;have hh_:=aO h;clear h;obtain⟨hc,h⟩:=hh_;have f1:=beq_eq (bg hc);have f2:=beq_eq (bg (aQ hc));have f3:=beq_eq (bg (aQ (aQ hc)));have f4:=beq_eq (bg (aQ (aQ (aQ hc))));have f5:=beq_eq (aQ (aQ (aQ (aQ hc))));subst f1 f2 f4 f5;subst f3;have hh_:=oP h;clear h;obtain⟨hk0,h⟩:=hh_;have hh_:=au.1 h;clear h;obtain⟨e,he,h⟩:=hh_;have hh_:=aO h;clear h;obtain⟨hlk,h⟩:=hh_;have hh_:=au.1 h;clear h;obtain⟨e2,he2,h⟩:=hh_;obtain⟨d,hd,hn,hk⟩:=nI h;refine⟨_,hk,fun σ' ag=>?_⟩;rw[hd];have hk':lk σ'.hs kk= .tok T4 ls:=by rw[ag.hs kk (by simp)];exact h3
   refine awv fun _ _ _ _ _ r=>?_;exact Xc ho hd hn (dJ h2) (dJ h1) (dh ag hx e1) hf (by rw[ag.hs l (by simp)];exact hl) hk' he hlk (r.tok_lst hk' he2)
        (by rw[ag.hs _ (by simp)];exact oQ σ) (by rw[ag.hs _ (by simp)];exact oo _ _ (by omega)) (by omega) (by rw[ag.k0];exact hk0) (by rw[ag.k0];omega)
  ·cases h
 ·cases h
theorem ai8{hs:List Ob}{Te T2 fo E2:TypeId}{c:Option Nat}{d':Dt}{m:Nat}(hu2:P.underlying T2=some (.slice E2))(hf:OU P Te c=some (T2,fo))(hm:aiR c v=some m)(h:Oh P hs Te T2 c v=some d'):Xe P hs Te c fo v d' m:=by
 have hh:=Ij hf;unfold aiR at hm;split at hm
 ·cases hm;cases h;obtain⟨h1,h2⟩:=aq7 (show (bif Nat.beq (P.cellsOf Te) 1 then some (Te,0)else none)=some (T2,fo)from hf);cases h2;exact ahe hu2 (beq_eq h1)
 ·split at hm
  ·rename_i m' hv;cases hm;simp only[Oh]at h;split at h
   ·    rename_i T3 e' hp;have hh_:=aO h;clear h;obtain⟨hc,h⟩:=hh_;have f1:=beq_eq (bg hc);have f2:=beq_eq (aQ hc);subst f1 f2;cases h;exact ahf hh hu2 hv hp
   ·cases h
  ·cases hm
 ·cases hm
theorem Ov{m:Nat}:∀{ls:List Nat},∀l∈Ey m ls,l∈ls
 |a::r,l,h=>by
  unfold Ey at h;cases hb:Nat.beq a m with
  |true=>rw[hb]at h;exact bA _ (Ov l h)
  |false=>
   rw[hb]at h;rcases List.mem_cons.1 h with h|h;·rw[h];exact aS
   ·exact bA _ (Ov l h)
theorem Ul{T2:TypeId}:∀{vs:List AV}{f:Nat},∀l∈AV.rwsL (vs.set f (.nils T2)),l∈AV.rwsL vs
 | [],_,_,h=>h
 |v::r,0,l,h=>by simp only[List.set_cons_zero,AV.rwsL,AV.rws,List.nil_append]at h;simp[AV.rwsL,h]
 |v::r,f+1,l,h=>by simp only[List.set_cons_succ,AV.rwsL,List.mem_append]at h;simp only[AV.rwsL,List.mem_append];exact h.imp id (Ul l)
theorem agP{hs hs':List Ob}{Te T2:TypeId}{c:Option Nat}(h:∀l∈v.rws,lk hs' l=lk hs l):Oh P hs' Te T2 c v=Oh P hs Te T2 c v:=by
 cases c with
 |none=>rfl
 |some f=>
  cases v with
  |agg T' vs=>
   simp only[Oh];rw[Bl (hs:=hs) (hs':=hs') (.agg Te (vs.set f (.nils T2))) fun l hl=>h l (Ul l hl)]
  |_=>rfl
theorem ai9{l i sz off kk:Nat}{path:List Nat}{T5 T2:TypeId}{c:Option Nat}{es:List Dt}{hh:Option (Nat×Nat)}(ho:o.op= .store T x y)(hz:szB P T (opd P E.dt σ T y)=true)(h0:P.cellsOf T≠0)(e1:opd P E.dt σ 0 x= .eptr l i sz path off)(hl:lk σ.hs l= .rowD T5 T2 c kk es hh)
  (h:Oi P o σ T l i sz path off T5 T2 c kk es hh (opd P E.dt σ T y) k=some r):OpS P n o σ k r:=by
 have hx:x∈o.op.operands.toList:=by rw[ho];simp[Op.operands]
 have hy:y∈o.op.operands.toList:=by rw[ho];simp[Op.operands]
 obtain⟨q1,q2,q3,q4,q5⟩:=lS hz;unfold Oi at h;split at h
 ·rename_i Te m h1 hm;split at h
  ·rename_i T3 fo E2 d' hf h2 h3;have hh_:=aO h;clear h;obtain⟨hc,h⟩:=hh_;have f1:=beq_eq (bg hc);have f2:=beq_eq (bg (aQ hc));have f3:=beq_eq (bg (aQ (aQ hc)));have f4:=beq_eq (bg (aQ (aQ (aQ hc))));have hnm:l∉Ey m (opd P E.dt σ T y).rws:=Db (by simpa using aQ (aQ (aQ (aQ hc))));subst f1 f2 f3 f4;have hh_:=au.1 h;clear h;obtain⟨e,he,h⟩:=hh_;obtain⟨hd,hk⟩:=zY h;refine⟨_,hk,fun σ' ag=>?_⟩;rw[hd];have hagr:∀l∈(opd P E.dt σ Te y).rws,lk σ'.hs l=lk σ.hs l:=fun l hl=>ag.hs l (by simp[hl]);have hfw:frzW σ'.hs (Ey m (opd P E.dt σ Te y).rws)=frzW σ.hs (Ey m (opd P E.dt σ Te y).rws):=lT fun l hl=>hagr l (Ov l hl);have hev:∀{z:Operand}{u:AV}{T0:TypeId},z∈o.op.operands.toList->opd P E.dt σ T0 z=u->Ev P (St.mk σ'.ts (wrO σ'.hs (frzW σ'.hs (Ey m (opd P E.dt σ Te y).rws))) σ'.k0) z u:=by
        rintro z u T0 hz rfl;have e3:opd P E.dt (St.mk σ'.ts (wrO σ'.hs (frzW σ'.hs (Ey m (opd P E.dt σ Te y).rws))) σ'.k0) T0 z=opd P E.dt σ T0 z:=by rw[←wG ag.ts hz];cases z<;>rfl
        rw[←e3];exact vV
   have key:=ahd (σ:=St.mk σ'.ts (wrO σ'.hs (frzW σ'.hs (Ey m (opd P E.dt σ Te y).rws))) σ'.k0) (n:=n) (i:=i) ho hd h0 (hev hx e1) (hev hy rfl) q1 q2 q5
        (by show lk (wrO σ'.hs _) l=_;rw[sG hnm,ag.hs l (by simp)];exact hl) (dJ h1) (aA.1 he).1 (Ij hf) (fun _ _ e=>by cases e)
        (ai8 (dJ h2) hf hm (by show Oh P (wrO σ'.hs _) Te _ c _=some d';rw[←h3,hfw];exact agP fun l hl=>qR hagr l hl))
   have:=key.pre (Imp.frzW (σ:=σ') (Ey m (opd P E.dt σ Te y).rws));have hfin:St.mk (agJ σ'.ts none none) (wrO σ'.hs (frzW σ.hs (Ey m (opd P E.dt σ Te y).rws)++[(l,.rowD T5 T3 c kk (es.set i d') (some (i,m)))])) σ'.k0=(St.mk σ'.ts (wrO σ'.hs (frzW σ'.hs (Ey m (opd P E.dt σ Te y).rws))) σ'.k0).lay l (.rowD T5 T3 c kk (es.set i d') (some (i,m))):=by rw[tO,hfw];rfl
   rw[←hfin]at this;exact this
  ·cases h
 ·cases h
theorem aqX(ho:o.op= .load T x)(h:abK P E n o σ T x k=some r):OpS P n o σ k r:=by
 have hx:x∈o.op.operands.toList:=by rw[ho];simp[Op.operands]
 unfold abK at h;split at h
 ·rename_i T' d0 e1;have hh_:=aO h;clear h;obtain⟨hc,h⟩:=hh_;have e:=beq_eq (bg hc);subst e;obtain⟨q1,q2,⟨D,hD⟩,q4,q5⟩:=lS (aQ hc);exact cB h fun σ' ha d hd hn=>(VU ho hd hn hD (fun hf=>q4 hf) (dh ha hx e1)).can
 ·rename_i l path off e1;split at h
  ·rename_i S c hl;split at h
   ·    rename_i T' q v hg;have hh_:=aO h;clear h;obtain⟨hc,h⟩:=hh_;have e:=beq_eq (bg hc);subst e;have e2:=beq_eq (bg (aQ hc));subst e2;obtain⟨q1,q2,⟨D,hD⟩,q4,q5⟩:=lS (bg (aQ (aQ hc)));have hag:v.isAgg P=eu P T':=by simpa using aQ (aQ (aQ hc))
        refine cB h fun σ' ha d hd hn=>?_;have key:=Yu ho hd hn hD (fun hf=>q4 (by rw[hag];exact hf)) (dh ha hx e1) (by rw[ha.hs l (by simp)];exact hl) (vG hg) hag q2;cases v<;>first|exact key|exact key.can
   ·cases h
  ·cases h
 ·rename_i l i sz path off e1;split at h
  ·rename_i T5 es hl;split at h
   ·    rename_i Te hTe;have hh_:=au.1 h;clear h;obtain⟨e0,he0,h⟩:=hh_;split at h
        ·rename_i T' q v hg;have hh_:=aO h;clear h;obtain⟨hc,h⟩:=hh_;have e:=beq_eq (bg hc);subst e;have e2:=beq_eq (bg (aQ hc));subst e2;have e3:=beq_eq (bg (aQ (aQ hc)));subst e3;obtain⟨q1,q2,⟨D,hD⟩,q4,q5⟩:=lS (bg (aQ (aQ (aQ hc))));have hag:v.isAgg P=eu P T':=by simpa using aQ (aQ (aQ (aQ hc)))
         refine cB h fun σ' ha d hd hn=>?_;have key:=VY ho hd hn hD (fun hf=>q4 (by rw[hag];exact hf)) (dh ha hx e1) (by rw[ha.hs l (by simp)];exact hl) (dJ hTe) he0 (vG hg) hag q2;cases v<;>first|exact key|exact key.can
        ·cases h
   ·cases h
  ·rename_i T5 vs hl;split at h
   ·    rename_i Te hTe;have hh_:=au.1 h;clear h;obtain⟨e0,he0,h⟩:=hh_;split at h
        ·rename_i T' q v hg;have hh_:=aO h;clear h;obtain⟨hc,h⟩:=hh_;have e:=beq_eq (bg hc);subst e;have e2:=beq_eq (bg (aQ hc));subst e2;have e3:=beq_eq (bg (aQ (aQ hc)));subst e3;obtain⟨q1,q2,⟨D,hD⟩,q4,q5⟩:=lS (bg (aQ (aQ (aQ hc))));have hag:v.isAgg P=eu P T':=by simpa using aQ (aQ (aQ (aQ hc)))
         refine cB h fun σ' ha d hd hn=>?_;have key:=RQ ho hd hn hD (fun hf=>q4 (by rw[hag];exact hf)) (dh ha hx e1) (by rw[ha.hs l (by simp)];exact hl) (dJ hTe) he0 (vG hg) hag q2;cases v<;>first|exact key|exact key.can
        ·cases h
   ·cases h
  ·rename_i hl;exact anF ho e1 hl h
  ·cases h
 ·cases h
theorem anG(ho:o.op= .store T x y)(h:WI P E o σ T x y k=some r):OpS P n o σ k r:=by
 have hx:x∈o.op.operands.toList:=by rw[ho];simp[Op.operands]
 have hy:y∈o.op.operands.toList:=by rw[ho];simp[Op.operands]
 unfold WI at h;have hh_:=aO h;clear h;obtain⟨hc0,h⟩:=hh_;obtain⟨q1,q2,q3,q4,q5⟩:=lS (bg hc0);have h0:=CY (aQ hc0);split at h
 ·rename_i l path off e1;split at h
  ·rename_i S c hl;split at h
   ·    rename_i q c' hs;have hh_:=aO h;clear h;obtain⟨hc,h⟩:=hh_;have e:=beq_eq hc;subst e;obtain⟨hd,hk⟩:=zY h;refine⟨_,hk,fun σ' ha=>?_⟩;have:=VW (n:=n) ho hd h0 (dh ha hx e1) (tQ ha hy) q1 q2 q5 (by rw[ha.hs l (by simp)];exact hl) (yC hs);rw[hd];exact this
   ·cases h
  ·cases h
 ·rename_i l i sz path off e1;split at h
  ·rename_i T5 es hl;split at h
   ·    rename_i Te hTe;have hh_:=au.1 h;clear h;obtain⟨e0,he0,h⟩:=hh_;split at h
        ·rename_i q c' hs;split at h
         ·rename_i Te' e' hpk;have hh_:=aO h;clear h;obtain⟨hc,h⟩:=hh_;have e:=beq_eq (bg hc);subst e;have e2:=beq_eq (bg (aQ hc));subst e2;have hcmp:=bg (aQ (aQ hc));have hnm:l∉(opd P E.dt σ T y).rws:=Db (by simpa using aQ (aQ (aQ hc)));obtain⟨hd,hk⟩:=zY h;refine⟨_,hk,fun σ' ha=>?_⟩;have hagr:∀l∈(opd P E.dt σ T y).rws,lk σ'.hs l=lk σ.hs l:=fun l hl=>ha.hs l (by simp[hl]);rw[hd];have key:dz P n o ⟨σ'.ts,wrO σ'.hs (frzW σ'.hs (opd P E.dt σ T y).rws),σ'.k0⟩ ((St.mk σ'.ts (wrO σ'.hs (frzW σ'.hs (opd P E.dt σ T y).rws)) σ'.k0).lay l (.row T5 (es.set i e'))):=by
           have hev:∀{z:Operand}{u:AV},Ev P σ' z u->z∈o.op.operands.toList->(∃T0,u=opd P E.dt σ T0 z)->Ev P (St.mk σ'.ts (wrO σ'.hs (frzW σ'.hs (opd P E.dt σ T y).rws)) σ'.k0) z u:=by
            rintro z u _ hz ⟨T0,rfl⟩;have e3:opd P E.dt (St.mk σ'.ts (wrO σ'.hs (frzW σ'.hs (opd P E.dt σ T y).rws)) σ'.k0) T0 z=opd P E.dt σ T0 z:=by rw[←wG ha.ts hz];cases z<;>rfl
            rw[←e3];exact vV
           refine RG (n:=n) ho hd h0 (hev (dh ha hx e1) hx ⟨_,e1.symm⟩) (hev (tQ ha hy) hy ⟨_,rfl⟩) q1 q2 q5 ?_ (dJ hTe) he0 (yC hs) ?_
           ·show lk (wrO σ'.hs _) l=_;rw[sG hnm,ha.hs l (by simp)];exact hl
           ·intro ok0 w0 a w β rb cs hra;refine RD.compat (kF rb.frzOK hra ?_) hcmp;show pk P (wrO σ'.hs (frzW σ'.hs (opd P E.dt σ T y).rws)) c'=_;rw[←hpk];refine Bl c' fun l2 hl2=>?_;have hsub:∀l2∈c'.rws,l2∈(opd P E.dt σ T y).rws:=setAt_rws hs (by intro l3 h3;simp[AV.rws]at h3);rw[lT hagr];exact qR hagr l2 (hsub l2 hl2)
          have hfin:St.mk (agJ σ'.ts none none) (wrO σ'.hs (frzW σ.hs (opd P E.dt σ T y).rws++[(l,.row T5 (es.set i e'))])) σ'.k0=(St.mk σ'.ts (wrO σ'.hs (frzW σ'.hs (opd P E.dt σ T y).rws)) σ'.k0).lay l (.row T5 (es.set i e')):=by rw[tO,lT hagr];rfl
          have:=key.pre (Imp.frzW (σ:=σ') (opd P E.dt σ T y).rws);rw[←hfin]at this;exact this
         ·cases h
        ·cases h
   ·cases h
  ·rename_i T5 vs hl;split at h
   ·    rename_i Te hTe;have hh_:=au.1 h;clear h;obtain⟨e0,he0,h⟩:=hh_;split at h
        ·rename_i q c' hs;have hh_:=aO h;clear h;obtain⟨hc,h⟩:=hh_;have e:=beq_eq (bg hc);subst e;have e2:=beq_eq (aQ hc);subst e2;obtain⟨hd,hk⟩:=zY h;refine⟨_,hk,fun σ' ha=>?_⟩;have:=OT (n:=n) ho hd h0 (dh ha hx e1) (tQ ha hy) q1 q2 q5 (by rw[ha.hs l (by simp)];exact hl) (dJ hTe) he0 (yC hs);rw[hd];exact this
        ·cases h
   ·cases h
  ·rename_i hl;exact ai9 ho (bg hc0) h0 e1 hl h
  ·cases h
 ·cases h
where setAt_rws {T':TypeId} {v:AV}:∀{path:List Nat}{S:TypeId}{c:AV}{q:Nat}{c':AV},setAt P T' v S c path=some (q,c')->(∀l∈c.rws,l∈v.rws)->∀l∈c'.rws,l∈v.rws
 | [],S,c,q,c',h,_=>by
   have h':(bif Nat.beq S T' then some (0,v)else none)=some (q,c'):=by simpa [setAt]using h
   obtain⟨_,h2⟩:=aO h';cases h2;exact fun l hl=>hl
 | i  ::p,S,c,    q,c',h,hc=>by
   unfold setAt at h;split at h
   ·  rename_i fs hfs;split at h
      ·rename_i f hf;split at h
       ·rename_i vs hvs;split at h
        · rename_i old hold;obtain⟨h1,h2⟩:=aO h;split at h2
          ·rename_i q' new hg;cases h2;have hvsr:∀l∈AV.rwsL vs,l∈v.rws:=by
                split at hvs
                · obtain⟨e1,e2⟩:=aO hvs;cases e2;exact hc
                · obtain⟨e1,e2⟩:=aO hvs;cases e2;intro l hl;exfalso;have:∀(fs:List Field)(j:Nat)(d:Dt),AV.rwsL (E9 P fs j d)=[]:=by
                   intro fs;induction fs with
                   |nil=>intro j d;rfl
                   |cons f r ih=>intro j d;simp[E9,AV.rwsL,AV.rws,ih]
                  rw[show expl P fs _=E9 P fs.toList 0 _ from rfl,this]at hl;simp at hl
                ·cases hvs
           have hnew:=setAt_rws hg fun l hl=>hvsr l (Zg (aW hold) hl);intro l hl;have hset:∀(us:List AV)(j:Nat),(∀l∈AV.rwsL us,l∈v.rws)->∀l∈AV.rwsL (us.set j new),l∈v.rws:=by
                intro us;induction us with
                |nil=>intro j hu l hl;simp[AV.rwsL]at hl
                | cons u r ih=>
                  intro j hu l hl;cases j with
                  |zero=>
                   simp only[List.set_cons_zero,AV.rwsL,List.mem_append]at hl;rcases hl with hl|hl;·exact hnew l hl
                   ·exact hu l (by simp[AV.rwsL,hl])
                  |succ j=>
                   simp only[List.set_cons_succ,AV.rwsL,List.mem_append]at hl;rcases hl with hl|hl;·exact hu l (by simp[AV.rwsL,hl])
                   ·exact ih j (fun l hl=>hu l (by simp[AV.rwsL,hl])) l hl
           exact hset vs i hvsr l hl
          ·cases h2
        ·cases h
       ·cases h
      ·cases h
   ·cases h
end
section
variable{P:Program}{n:Nat}{o:Oper}{σ τ:St}{x y:Operand}{v:AV}{T:TypeId}{R:Type}{E:Env}{k:Dl->Option R}{r:R}
theorem qF{d:Nat}(ho:o.op= .nilCheck x)(hd:o.dst=some d)(hn:d<n)(hx:Ev P σ x v)
  (hv:∀(ok:Nat->Prop)(w:World)(β:Nat->Option Value)(z:Value),RV P ok w β v z->(∃ad,z= .pointer (some ad))∨∃f a b,z= .func (.func f) a b):dz P n o σ (σ.put d v):=
 bK hd hn fun ok0 w0 a w β r=>by
  have h:=hx _ _ _ _ _ _ r;rcases hv _ _ _ _ h with⟨ad,e⟩| ⟨f,a1,b1,e⟩;·exact⟨_,by simp[execOp,ho,e],e▸h⟩
  ·exact⟨_,by simp[execOp,ho,e],e▸h⟩
theorem abQ(ho:o.op= .nilCheck x)(h:FR P E n o σ x k=some r):OpS P n o σ k r:=by
 have hx:x∈o.op.operands.toList:=by rw[ho];simp[Op.operands]
 unfold FR at h;split at h
 ·rename_i T d0 e1;exact cB h fun σ' ha d hd hn=>qF ho hd hn (dh ha hx e1) fun ok w β z hz=>by
   have:=hz.2 rfl;cases this with
   |rptr=>exact .inl ⟨_,rfl⟩
 ·rename_i l p q e1;exact cB h fun σ' ha d hd hn=>qF ho hd hn (dh ha hx e1) fun ok w β z hz=>by
   have:=hz.2 rfl;cases this with
   |ptr=>exact .inl ⟨_,rfl⟩
 ·rename_i l i z p q e1;exact cB h fun σ' ha d hd hn=>qF ho hd hn (dh ha hx e1) fun ok w β z hz=>by
   have:=hz.2 rfl;cases this with
   |eptr=>exact .inl ⟨_,rfl⟩
 ·rename_i f c e1;exact cB h fun σ' ha d hd hn=>qF ho hd hn (dh ha hx e1) fun ok w β z hz=>by
   have:=hz.2 rfl;cases this with
   |fn=>exact .inr ⟨_,_,_,rfl⟩
 ·rename_i T d0 e1;split at h
  ·rename_i T2 hT2;have hh_:=au.1 h;clear h;obtain⟨e0,he0,h⟩:=hh_;exact cB h fun σ' ha d hd hn=>qF ho hd hn ((dh ha hx e1).pd (Dg hT2) he0) fun ok w β z hz=>by
        have:=hz.2 rfl;cases this with
        |rptr=>exact .inl ⟨_,rfl⟩
  ·cases h
 ·cases h
theorem aui{op:BinOp}{T T' Tx Ty:TypeId}{q:IntKind}{a b:Int}(ho:o.op= .binOp op T x y T')(hux:P.underlying Tx=some (.int q))(huy:P.underlying Ty=some (.int q))
  (hx:∀σ',Agr o σ σ' []->Ev P σ' x (.dat Tx (.int a)))(hy:∀σ',Agr o σ σ' []->Ev P σ' y (.dat Ty (.int b)))(h:aiK P E n o op Tx q a b k=some r):OpS P n o σ k r:=by
 unfold aiK at h;simp only at h;cases op with
 |add=>exact cB h fun σ' ha d hd hn=>ap5 ho hd hn hux huy (hx σ' ha) (hy σ' ha)
 |sub=>exact cB h fun σ' ha d hd hn=>ap6 ho hd hn hux huy (hx σ' ha) (hy σ' ha)
 |mul=>exact cB h fun σ' ha d hd hn=>ap7 ho hd hn hux huy (hx σ' ha) (hy σ' ha)
 |quo=>
  simp only at h;by_cases hb:b=0;·simp[hb]at h
  ·simp only[hb,decide_false,cond_false]at h;exact cB h fun σ' ha d hd hn=>ap8 ho hd hn hux huy (hx σ' ha) (hy σ' ha) hb
 |rem=>
  simp only at h;by_cases hb:b=0;·simp[hb]at h
  ·simp only[hb,decide_false,cond_false]at h;exact cB h fun σ' ha d hd hn=>ap9 ho hd hn hux huy (hx σ' ha) (hy σ' ha) hb
 |and=>exact cB h fun σ' ha d hd hn=>aqa ho hd hn hux huy (hx σ' ha) (hy σ' ha)
 |or=>exact cB h fun σ' ha d hd hn=>as6 ho hd hn hux huy (hx σ' ha) (hy σ' ha)
 |xor=>exact cB h fun σ' ha d hd hn=>aqb ho hd hn hux huy (hx σ' ha) (hy σ' ha)
 |andNot=>exact cB h fun σ' ha d hd hn=>aqc ho hd hn hux huy (hx σ' ha) (hy σ' ha)
 |lss=>
  simp only at h;split at h;·rename_i TB hTB;exact cB h fun σ' ha d hd hn=>aqd ho hd hn (jg hTB) hux huy (hx σ' ha) (hy σ' ha)
  ·cases h
 |leq=>
  simp only at h;split at h;·rename_i TB hTB;exact cB h fun σ' ha d hd hn=>aqe ho hd hn (jg hTB) hux huy (hx σ' ha) (hy σ' ha)
  ·cases h
 |gtr=>
  simp only at h;split at h;·rename_i TB hTB;exact cB h fun σ' ha d hd hn=>aqf ho hd hn (jg hTB) hux huy (hx σ' ha) (hy σ' ha)
  ·cases h
 |geq=>
  simp only at h;split at h;·rename_i TB hTB;exact cB h fun σ' ha d hd hn=>aqg ho hd hn (jg hTB) hux huy (hx σ' ha) (hy σ' ha)
  ·cases h
 |eql=>
  simp only at h;split at h;·rename_i TB hTB;exact cB h fun σ' ha d hd hn=>aqh ho hd hn (jg hTB) hux huy (hx σ' ha) (hy σ' ha)
  ·cases h
 |neq=>
  simp only at h;split at h;·rename_i TB hTB;exact cB h fun σ' ha d hd hn=>aqi ho hd hn (jg hTB) hux huy (hx σ' ha) (hy σ' ha)
  ·cases h
 |_=>cases h
theorem auj{op:BinOp}{T T' Tx Ty:TypeId}{a b:ByteArray}(ho:o.op= .binOp op T x y T')(hux:P.underlying Tx=some .string)(huy:P.underlying Ty=some .string)
  (hx:∀σ',Agr o σ σ' []->Ev P σ' x (.dat Tx (.str a)))(hy:∀σ',Agr o σ σ' []->Ev P σ' y (.dat Ty (.str b)))(h:aiL P E n o op Tx a b k=some r):OpS P n o σ k r:=by
 unfold aiL at h;simp only at h;cases op with
 |add=>
  simp only at h;have hh_:=aO h;clear h;obtain⟨hs,h⟩:=hh_;exact cB h fun σ' ha d hd hn=>aqm ho hd hn hux huy (hx σ' ha) (hy σ' ha) (by have:=aN hs;unfold maxLen;omega)
 |lss=>
  simp only at h;split at h;·rename_i TB hTB;exact cB h fun σ' ha d hd hn=>aql ho hd hn (jg hTB) hux huy (hx σ' ha) (hy σ' ha)
  ·cases h
 |eql=>
  simp only at h;split at h;·rename_i TB hTB;exact cB h fun σ' ha d hd hn=>aqj ho hd hn (jg hTB) hux huy (hx σ' ha) (hy σ' ha)
  ·cases h
 |neq=>
  simp only at h;split at h;·rename_i TB hTB;exact cB h fun σ' ha d hd hn=>aqk ho hd hn (jg hTB) hux huy (hx σ' ha) (hy σ' ha)
  ·cases h
 |_=>cases h
theorem aqY{op:BinOp}{T T' Tx Ty:TypeId}{a b:Bool}(ho:o.op= .binOp op T x y T')(hu:P.underlying T=some .bool)(hux:P.underlying Tx=some .bool)(huy:P.underlying Ty=some .bool)
  (hx:∀σ',Agr o σ σ' []->Ev P σ' x (.dat Tx (.bool a)))(hy:∀σ',Agr o σ σ' []->Ev P σ' y (.dat Ty (.bool b)))(h:abG P E n o op a b k=some r):OpS P n o σ k r:=by
 unfold abG at h;simp only at h;cases op with
 |eql=>
  simp only at h;split at h;·rename_i TB hTB;exact cB h fun σ' ha d hd hn=>aqn ho hd hn (jg hTB) hu hux huy (hx σ' ha) (hy σ' ha)
  ·cases h
 |neq=>
  simp only at h;split at h;·rename_i TB hTB;exact cB h fun σ' ha d hd hn=>aqo ho hd hn (jg hTB) hu hux huy (hx σ' ha) (hy σ' ha)
  ·cases h
 |_=>cases h
theorem auk{op:BinOp}{T T':TypeId}(ho:o.op= .binOp op T x y T')(h:aiS P E n o op T (opd P E.dt σ T x) y k=some r):OpS P n o σ k r:=by
 have hx:x∈o.op.operands.toList:=by rw[ho];simp[Op.operands]
 unfold aiS at h;split at h
 ·split  at h
  ·rename_i ms hu;split at h
   ·    rename_i e1;split at h
        ·rename_i TB hTB;split at h;·exact cB h fun σ' ha d hd hn=>ag9 ho hd hn (jg hTB) hu (dh ha hx e1)
         ·exact cB h fun σ' ha d hd hn=>aha ho hd hn (jg hTB) hu (dh ha hx e1)
         ·cases h
        ·cases h
   ·cases h
  ·cases h
 ·cases h
theorem aww{op:BinOp}{T T':TypeId}(ho:o.op= .binOp op T x y T')(h:aqQ P E n o σ op T x y k=some r):OpS P n o σ k r:=by
 have hx:x∈o.op.operands.toList:=by rw[ho];simp[Op.operands]
 unfold aqQ at h;split at h
 ·split  at h
  ·rename_i T2 hT2;split at h
   ·    rename_i T1 p e1;have hh_:=aO h;clear h;obtain⟨hc,h⟩:=hh_;rw[beq_eq hc]at e1;split at h
        ·rename_i TB hTB;split at h;·exact cB h fun σ' ha d hd hn=>aeN ho hd hn (jg hTB) (Dg hT2) (dh ha hx e1) (.inl ⟨rfl,rfl⟩)
         ·exact cB h fun σ' ha d hd hn=>aeN ho hd hn (jg hTB) (Dg hT2) (dh ha hx e1) (.inr ⟨rfl,rfl⟩)
         ·cases h
        ·cases h
   ·cases h
  ·cases h
 ·cases h
theorem awx{op:BinOp}{T T':TypeId}(ho:o.op= .binOp op T x y T')(h:aqR P E n o σ op T x y T' k=some r):OpS P n o σ k r:=by
 have hx:x∈o.op.operands.toList:=by rw[ho];simp[Op.operands]
 have hy:y∈o.op.operands.toList:=by rw[ho];simp[Op.operands]
 unfold aqR at h;split at h
 ·rename_i T2 q e2;split at h
  ·rename_i T1 p e1;cases hc:(ajw P T&&(Nat.beq T1 T&&Nat.beq T2 T))with
   |    false=>
        rw[hc]at h;exact aww ho h
   |true=>
   rw[hc]at h;simp only[cond_true]at h;have u1:=beq_eq (bg (aQ hc));have u2:=beq_eq (aQ (aQ hc));rw[u1]at e1;rw[u2]at e2;split at h
   ·    rename_i TB hTB;split at h;·exact cB h fun σ' ha d hd hn=>apE ho hd hn (jg hTB) (bg hc) (dh ha hx e1) (dh ha hy e2) (.inl ⟨rfl,rfl⟩)
        ·exact cB h fun σ' ha d hd hn=>apE ho hd hn (jg hTB) (bg hc) (dh ha hx e1) (dh ha hy e2) (.inr ⟨rfl,rfl⟩)
        ·cases h
   ·cases h
  ·cases h
 ·exact auk ho h
theorem aul{op:BinOp}{T T':TypeId}(ho:o.op= .binOp op T x y T')(h:aiT P E n o σ op T x y T' k=some r):OpS P n o σ k r:=by
 have hx:x∈o.op.operands.toList:=by rw[ho];simp[Op.operands]
 have hy:y∈o.op.operands.toList:=by rw[ho];simp[Op.operands]
 unfold aiT at h;split at h
 ·rename_i Tx q a ha;obtain⟨d1,e1,u1,rfl⟩:=nH ha;split at h
  ·rename_i Ty q' b hb;obtain⟨d2,e2,u2,rfl⟩:=nH hb;split at h
   ·    obtain⟨hq,h⟩:=aO h;exact cB h fun σ' ag d hd hn=>apn ho hd hn u1 u2 ((dh ag hx e1).cint u1) ((dh ag hy e2).cint u2) (of_decide_eq_true hq) (.inl ⟨rfl,rfl⟩)
   ·    obtain⟨hq,h⟩:=aO h;exact cB h fun σ' ag d hd hn=>apn ho hd hn u1 u2 ((dh ag hx e1).cint u1) ((dh ag hy e2).cint u2) (of_decide_eq_true hq) (.inr ⟨rfl,rfl⟩)
   ·    have hh_:=aO h;clear h;obtain⟨hq,h⟩:=hh_;have hq':q=q':=by simpa using hq
        subst hq';exact aui ho u1 u2 (fun σ' ag=>(dh ag hx e1).cint u1) (fun σ' ag=>(dh ag hy e2).cint u2) h
  ·cases h
 ·split  at h
  ·rename_i Tx a ha;obtain⟨d1,e1,u1,rfl⟩:=qQ ha;split at h
   ·    rename_i Ty b hb;obtain⟨d2,e2,u2,rfl⟩:=qQ hb;exact auj ho u1 u2 (fun σ' ag=>(dh ag hx e1).cstr u1) (fun σ' ag=>(dh ag hy e2).cstr u2) h
   ·cases h
  ·split at h
   ·    rename_i a ha;obtain⟨Tx,d1,e1,u1,rfl⟩:=wL ha;split at h
        ·rename_i b hb;obtain⟨Ty,d2,e2,u2,rfl⟩:=wL hb;have hh_:=aO h;clear h;obtain⟨hq,h⟩:=hh_;exact aqY ho (Ze hq) u1 u2 (fun σ' ag=>(dh ag hx e1).cbool u1) (fun σ' ag=>(dh ag hy e2).cbool u2) h
        ·cases h
   ·exact awx ho h
theorem aum{T0:TypeId}(ho:o.op= .unOp .not T0 x)(h:aiU P E n o σ x k=some r):OpS P n o σ k r:=by
 have hx:x∈o.op.operands.toList:=by rw[ho];simp[Op.operands]
 unfold aiU at h;split at h
 ·rename_i b hb;obtain⟨Tx,d1,e1,u1,rfl⟩:=wL hb;split at h
  ·rename_i TB hTB;refine cB h fun σ' ha d hd hn=>?_;have key:=ap4 ho hd hn u1 ((dh ha hx e1).cbool u1);exact key.weak fun ok w β z hz=>by have:=(RV.bool u1 hz).2;rw[this];exact RV.mk_bool (jg hTB)
  ·cases h
 ·cases h
theorem aun(ho:o.op= .unOp .neg T x)(h:aiV P E n o σ T x k=some r):OpS P n o σ k r:=by
 have hx:x∈o.op.operands.toList:=by rw[ho];simp[Op.operands]
 unfold aiV at h;split at h
 ·rename_i Tx q a ha;obtain⟨d1,e1,u1,rfl⟩:=nH ha;exact cB h fun σ' ha d hd hn=>aqp ho hd hn u1 ((dh ha hx e1).cint u1)
 ·cases h
theorem anH(ho:o.op= .unOp .xor T x)(h:WJ P E n o σ T x k=some r):OpS P n o σ k r:=by
 have hx:x∈o.op.operands.toList:=by rw[ho];simp[Op.operands]
 unfold WJ at h;split at h
 ·rename_i Tx q a ha;obtain⟨d1,e1,u1,rfl⟩:=nH ha;exact cB h fun σ' ha d hd hn=>ahP ho hd hn u1 ((dh ha hx e1).cint u1)
 ·cases h
theorem agQ{S1 S2:TypeId}(ho:o.op= .convert S1 S2 x)(h:JK P E n o σ S1 S2 x k=some r):OpS P n o σ k r:=by
 have hx:x∈o.op.operands.toList:=by rw[ho];simp[Op.operands]
 unfold JK at h;split at h
 ·rename_i Tx q a ha;obtain⟨d1,e1,u1,rfl⟩:=nH ha;split at h
  ·rename_i q2 hu2;have hh_:=aO h;clear h;obtain⟨hq,h⟩:=hh_;exact cB h fun σ' ha d hd hn=>Yr ho hd hn (rQ hq) hu2 u1 ((dh ha hx e1).cint u1)
  ·cases h
 ·split at h
  ·rename_i Tx a ha;obtain⟨d1,e1,u1,rfl⟩:=qQ ha;have hh_:=aO h;clear h;obtain⟨hq,h⟩:=hh_;exact cB h fun σ' ha d hd hn=>Yt ho hd hn (vF (bg hq)) (vF (aQ hq)) u1 ((dh ha hx e1).cstr u1)
  ·cases h
theorem aqZ(ho:o.op= .makeSlice T x y)(h:abL P E n o σ T x y k=some r):OpS P n o σ k r:=by
 unfold abL at h;split at h
 ·rename_i Te hTe;split at h
  ·rename_i z hz;split at h
   ·    rename_i a ha;split at h
        ·rename_i b hb;have hh_:=aO h;clear h;obtain⟨hc,h⟩:=hh_;have hh_:=oP h;clear h;obtain⟨hk0,h⟩:=hh_;obtain⟨es,p1,p2,p3,p4,p5,h⟩:=ahU h;subst p4;refine aeC h fun σ' ag d hd hn=>?_;have e1:abt P σ' (some x) a:=wH (E:=E) (by rw[oO ag.ts (by intro z hz;cases hz;rw[ho];simp[Op.operands])];exact ha);have e2:abt P σ' (some y) b:=wH (E:=E) (by rw[oO ag.ts (by intro z hz;cases hz;rw[ho];simp[Op.operands])];exact hb);obtain⟨TI,k1,u1,v1⟩:=e1;obtain⟨TJ,k2,u2,v2⟩:=e2;exact am4 ho hd hn (dJ hTe) (by rw[ag.hs _ (by simp)];exact oQ σ) (by rw[ag.k0];exact hk0) (nU hz) (CY hc) p5 u1 u2 v1 v2 p1 p2 p3
        ·cases h
   ·cases h
  ·cases h
 ·cases h
theorem Ow{σ':St}{hs:List Ob}{k0:Nat}{rd:List Nat}(ha:Agr o σ σ' rd){D:List TypeId}(hx:x∈o.op.operands.toList):Ev P (St.mk σ'.ts hs k0) x (opd P D σ T x):=by
 have e3:opd P D (St.mk σ'.ts hs k0) T x=opd P D σ T x:=by rw[←wG ha.ts hx];cases x<;>rfl
 rw[←e3];exact vV
theorem Agr.frz{σ':St}{ls:List Nat}{rd:List Nat}(ha:Agr o σ σ' rd)(h:∀l∈ls,l∈rd):frzW σ'.hs ls=frzW σ.hs ls:=lT fun l hl=>ha.hs l (h l hl)
theorem RL{d l:Nat}{T3 Te:TypeId}{lo hi:Option Operand}{i j:Int}{es:List Dt}(ho:o.op= .slice T x lo hi none)(hd:o.dst=some d)(hn:d<n)(hu:P.underlying T=some (.slice Te))(h0c:P.cellsOf Te≠0)
  (hx:Ev P σ x (.row l))(hl:lk σ.hs l= .row T3 es)(hlo:abt P σ lo i)(hhi:ahX P σ es.length hi j)(h0:0<=i)(hij:i<=j)(hj:j<=es.length):dz P n o σ (σ.put d .dead):=
 bK hd hn fun ok0 w0 a w β r=>by
  have e1:=kE (hx _ _ _ _ _ _ r);have hob:=r.hs l;rw[hl,e1]at hob;obtain⟨E',xs,_,hown,_⟩:=Cq hob;have hz:∃ao cap,a.eval x= .slice ao es.length cap∧es.length<=cap:=by
   rcases hown.2 with⟨h1,h2⟩| ⟨g,cap,cur,h1,_,_,h3,h4,_⟩;·exact⟨none,0,by rw[h1,h2],by rw[h2];exact aC _⟩
   ·exact⟨_,cap,h1,by omega⟩
  obtain⟨ao,cap,ex,hlc⟩:=hz;have hb:=FC (cap:=cap) r true hlo hhi h0 hij hj hlc;cases hinf:P.info? Te with
  |none=>simp[Program.cellsOf,hinf]at h0c
  |some inf=>
   have hs:inf.size=P.cellsOf Te:=by simp[Program.cellsOf,hinf]
   exact⟨.slice (if cap=i.toNat then ao else ao.map (·.add (i.toNat*P.cellsOf Te))) (j.toNat-i.toNat) (cap-i.toNat),by simp[execOp,ho,ex,Instr.sliceAt,Instr.slice,run_underlying hu,hb,sizeOf,typeInfo,hinf,hs],trivial⟩
theorem aja{lo hi:Option Operand}(ho:o.op= .slice T x lo hi none)(h:Oj P E n o σ T x lo hi k=some r):OpS P n o σ k r:=by
 have hx:x∈o.op.operands.toList:=by rw[ho];simp[Op.operands]
 have hlo:∀z,lo=some z->z∈o.op.operands.toList:=by intro z hz;rw[ho,hz];simp[Op.operands]
 have hhi:∀z,hi=some z->z∈o.op.operands.toList:=by intro z hz;rw[ho,hz];simp[Op.operands]
 unfold Oj at h;split at h
 ·rename_i l e1;split at h
  ·rename_i T3 es hl;split at h
   ·    rename_i a ha;split at h
        ·rename_i b hb;split at h
         ·rename_i Te hTe;have hh_:=aO h;clear h;obtain⟨hc,h⟩:=hh_;have hh_:=au.1 h;clear h;obtain⟨rs,hrs,h⟩:=hh_;obtain⟨p1,p2,p3,p4⟩:=TM hrs;obtain⟨d,hd,hn,hk⟩:=nI h;refine⟨_,hk,fun σ' ag=>?_⟩;have key:=RL (σ:=σ') ho hd hn (dJ hTe) (CY hc) (dh ag hx e1) (by rw[ag.hs l (by simp)];exact hl) (wH (E:=E) (by rw[oO ag.ts hlo];exact ha)) (WQ (E:=E) (by rw[oO ag.ts hhi];exact hb)) p1 p2 p3;rw[hd];exact key
         ·cases h
        ·cases h
   ·cases h
  ·cases h
 ·cases h
theorem anI{lo hi:Option Operand}(ho:o.op= .slice T x lo hi none)(h:WK P E n o σ T x lo hi k=some r):OpS P n o σ k r:=by
 have hx:x∈o.op.operands.toList:=by rw[ho];simp[Op.operands]
 have hlo:∀z,lo=some z->z∈o.op.operands.toList:=by intro z hz;rw[ho,hz];simp[Op.operands]
 have hhi:∀z,hi=some z->z∈o.op.operands.toList:=by intro z hz;rw[ho,hz];simp[Op.operands]
 unfold WK at h;cases hsl:E.sld o with
 |true=>
  rw[hsl,cond_true]at h;exact aja ho h
 |false=>
 rw[hsl,cond_false]at h;split at h
 ·rename_i Tx s hs;obtain⟨d1,e1,u1,rfl⟩:=qQ hs;split at h
  ·rename_i a ha;split at h
   ·    rename_i b hb;have hh_:=aO h;clear h;obtain⟨hc,h⟩:=hh_;have hh_:=au.1 h;clear h;obtain⟨rs,hrs,h⟩:=hh_;obtain⟨p1,p2,p3,p4⟩:=agx hrs;subst p4;exact cB h fun σ' ag d hd hn=>V4 ho hd hn (vF hc) u1 ((dh ag hx e1).cstr u1) (wH (E:=E) (by rw[oO ag.ts hlo];exact ha)) (WQ (E:=E) (by rw[oO ag.ts hhi];exact hb)) p1 p2 p3
   ·cases h
  ·cases h
 ·split  at h
  ·rename_i Tx Te es hl;obtain⟨d1,hp,u1,rfl⟩:=El hl;split at h
   ·    rename_i a ha;split at h
        ·rename_i b hb;have hh_:=aO h;clear h;obtain⟨hc,h⟩:=hh_;have hh_:=au.1 h;clear h;obtain⟨rs,hrs,h⟩:=hh_;obtain⟨p1,p2,p3,p4⟩:=TM hrs;subst p4;obtain⟨d,hd,hn,hk⟩:=nI h;refine⟨_,hk,fun σ' ag=>?_⟩;have hfw:=ag.frz (ls:=(opd P E.dt σ T x).rws) fun l hl=>hl;obtain⟨u2,h0c⟩:=fK hc;have hpk:pk P (wrO σ'.hs (frzW σ'.hs (opd P E.dt σ T x).rws)) (opd P E.dt σ T x)=some (Tx,d1):=by rw[←hp,hfw];exact Bl _ fun l hl=>qR (fun l hl=>ag.hs l hl) l hl
         have hev:Ev P (St.mk σ'.ts (wrO σ'.hs (frzW σ'.hs (opd P E.dt σ T x).rws)) σ'.k0) x (.dat Tx d1):=Ev.pk (Ow ag hx) hpk;have hlo':wY P E (St.mk σ'.ts (wrO σ'.hs (frzW σ'.hs (opd P E.dt σ T x).rws)) σ'.k0) 0 lo=some a:=by rw[←ha];exact oO (fun t ht=>ag.ts t ht) hlo
         have hhi':wY P E (St.mk σ'.ts (wrO σ'.hs (frzW σ'.hs (opd P E.dt σ T x).rws)) σ'.k0) (d1.toLst.length:Nat) hi=some b:=by rw[←hb];exact oO (fun t ht=>ag.ts t ht) hhi
         have key:=(V6 ho hd hn u2 u1 h0c (hev.clst u1) (wH hlo') (WQ hhi') p1 p2 p3).pre (Imp.frzW (σ:=σ') (opd P E.dt σ T x).rws);rw[hd];rw[hfw]at key;exact key
        ·cases h
   ·cases h
  ·cases h
theorem Zh{S:TypeId}{i:Nat}(ho:o.op= .fieldAddr S x i)(h:CS P E n o σ S x i k=some r):OpS P n o σ k r:=by
 have hx:x∈o.op.operands.toList:=by rw[ho];simp[Op.operands]
 unfold CS at h;split at h
 ·rename_i fs hfs;split at h
  ·rename_i f hf;have hh_:=aO h;clear h;obtain⟨hc,h⟩:=hh_;split at h
   ·    rename_i l p q e1;exact cB h fun σ' ha d hd hn=>Js ho hd hn (rP hfs) hf (CY hc) (dh ha hx e1)
   ·    rename_i l j z p q e1;exact cB h fun σ' ha d hd hn=>Ho ho hd hn (rP hfs) hf (CY hc) (dh ha hx e1)
   ·    rename_i S' d0 e1;have hh_:=aO h;clear h;obtain⟨hc2,h⟩:=hh_;have e:=beq_eq (bg hc2);subst e;exact cB h fun σ' ha d hd hn=>yt ho hd hn (rP hfs) hf (CY hc) (aN (aQ hc2)) (dh ha hx e1)
   ·    rename_i T2 d0 e1;split at h
        ·rename_i S' hS';have hh_:=au.1 h;clear h;obtain⟨e0,he0,h⟩:=hh_;have hh_:=aO h;clear h;obtain⟨hc2,h⟩:=hh_;have e:=beq_eq (bg hc2);subst e;exact cB h fun σ' ha d hd hn=>yt ho hd hn (rP hfs) hf (CY hc) (aN (aQ hc2)) ((dh ha hx e1).pd (Dg hS') he0)
        ·cases h
   ·cases h
  ·cases h
 ·cases h
theorem anJ{S:TypeId}{i:Nat}(ho:o.op= .field S x i)(h:WL P E n o σ S x i k=some r):OpS P n o σ k r:=by
 have hx:x∈o.op.operands.toList:=by rw[ho];simp[Op.operands]
 unfold WL at h;split at h
 ·rename_i fs hfs;split at h
  ·rename_i f hf;split at h
   ·    rename_i S' d0 hp;have hh_:=aO h;clear h;obtain⟨hc,h⟩:=hh_;have e:=beq_eq (bg hc);subst e;obtain⟨q1,q2,⟨D,hD⟩,q4,q5⟩:=lS (aQ (aQ hc));exact cB h fun σ' ha d hd hn=>(ahW ho hd hn (rP hfs) hf hD (fun hf2=>q4 hf2) (aN (bg (aQ hc))) (Ev.pk (tQ ha hx) (Ou _ hp))).can
   ·cases h
  ·cases h
 ·cases h
theorem Zi(ho:o.op= .indexAddr T x y)(h:CU P E n o σ T x y k=some r):OpS P n o σ k r:=by
 have hx:x∈o.op.operands.toList:=by rw[ho];simp[Op.operands]
 have hy:∀z,some y=some z->z∈o.op.operands.toList:=by intro z hz;cases hz;rw[ho];simp[Op.operands]
 unfold CU at h;split at h
 ·rename_i i hi;have hidx:∀σ' rd,Agr o σ σ' rd->∃TI k,P.underlying TI=some (.int k)∧Ev P σ' y (.dat TI (.int i)):=fun σ' rd ag=>wH (lo:=some y) (E:=E) (by rw[oO ag.ts hy];exact hi);split at h
  ·rename_i l e1;split at h
   ·    rename_i T5 es hl;split at h
        ·rename_i Te hTe;have hh_:=aO h;clear h;obtain⟨hc,h⟩:=hh_;have hh_:=au.1 h;clear h;obtain⟨u,hu,h⟩:=hh_;obtain⟨p1,p2⟩:=Yy hu;obtain⟨u2,h0c⟩:=fK hc;refine cB h fun σ' ag d hd hn=>?_;obtain⟨TI,k1,v1,v2⟩:=hidx σ' _ ag;exact VX ho hd hn u2 h0c v1 (dh ag hx e1) v2 (by rw[ag.hs l (by simp)];exact hl) (dJ hTe) p1 p2
        ·cases h
   ·    rename_i T5 vs hl;split at h
        ·rename_i Te hTe;have hh_:=aO h;clear h;obtain⟨hc,h⟩:=hh_;obtain⟨u2,h0c⟩:=fK (bg hc);refine cB h fun σ' ag d hd hn=>?_;obtain⟨TI,k1,v1,v2⟩:=hidx σ' _ ag;exact RP ho hd hn u2 h0c v1 (dh ag hx e1) v2 (by rw[ag.hs l (by simp)];exact hl) (by simpa using bg (aQ hc)) (by simpa using aQ (aQ hc))
        ·cases h
   ·    rename_i T5 T2 c kk es hh hl;split at h
        ·rename_i Te hTe;have hh_:=aO h;clear h;obtain⟨hc,h⟩:=hh_;have hh_:=au.1 h;clear h;obtain⟨u,hu,h⟩:=hh_;obtain⟨p1,p2⟩:=Yy hu;obtain⟨u2,h0c⟩:=fK hc;refine cB h fun σ' ag d hd hn=>?_;obtain⟨TI,k1,v1,v2⟩:=hidx σ' _ ag;exact RS ho hd hn u2 h0c v1 (dh ag hx e1) v2 (by rw[ag.hs l (by simp)];exact hl) p1 p2
        ·cases h
   ·    rename_i T5 es hl;split at h
        ·rename_i Te hTe;have hh_:=aO h;clear h;obtain⟨hc,h⟩:=hh_;have hh_:=au.1 h;clear h;obtain⟨e0,he0,h⟩:=hh_;obtain⟨p1,p2⟩:=Hu he0;obtain⟨u2,h0c⟩:=fK hc;refine cB h fun σ' ag d hd hn=>?_;obtain⟨TI,k1,v1,v2⟩:=hidx σ' _ ag;exact Hr ho hd hn u2 (dJ hTe) h0c v1 ((dh ag hx e1).frz (by rw[ag.hs l (by simp)];exact hl)) v2 p1 p2
        ·cases h
   ·cases h
  ·rename_i v0 hne;split at h
   ·    rename_i Tx Te es hl;obtain⟨d1,hp,u1,rfl⟩:=El hl;have hh_:=aO h;clear h;obtain⟨hc,h⟩:=hh_;have hh_:=au.1 h;clear h;obtain⟨e0,he0,h⟩:=hh_;obtain⟨p1,p2⟩:=Hu he0;obtain⟨u2,h0c⟩:=fK hc;refine cB h fun σ' ag d hd hn=>?_;obtain⟨TI,k1,v1,v2⟩:=hidx σ' _ ag;exact Hr ho hd hn u2 u1 h0c v1 ((Ev.pk (tQ ag hx) (Ou _ hp)).clst u1) v2 p1 p2
   ·cases h
 ·cases h
theorem anK(ho:o.op= .index T x y)(h:WM P E n o σ T x y k=some r):OpS P n o σ k r:=by
 have hx:x∈o.op.operands.toList:=by rw[ho];simp[Op.operands]
 have hy:∀z,some y=some z->z∈o.op.operands.toList:=by intro z hz;cases hz;rw[ho];simp[Op.operands]
 unfold WM at h;split at h
 ·rename_i Tx s hs;obtain⟨d1,e1,u1,rfl⟩:=qQ hs;split at h
  ·rename_i i hi;have hh_:=aO h;clear h;obtain⟨hc,h⟩:=hh_;have hh_:=au.1 h;clear h;obtain⟨c,hc2,h⟩:=hh_;obtain⟨p1,u,p2,rfl⟩:=agw hc2;refine cB h fun σ' ag d hd hn=>?_;obtain⟨TI,k1,v1,v2⟩:=wH (lo:=some y) (E:=E) (σ:=σ') (i:=i) (by rw[oO ag.ts hy];exact hi);exact VR ho hd hn v1 (rQ (aQ hc)) (vF (bg hc)) u1 ((dh ag hx e1).cstr u1) v2 p1 p2
  ·cases h
 ·split  at h
  ·rename_i T' e he;split at h
   ·    rename_i len Te hu;split at h
        ·rename_i i hi;have hh_:=aO h;clear h;obtain⟨hc,h⟩:=hh_;have hh_:=au.1 h;clear h;obtain⟨q,hq,h⟩:=hh_;obtain⟨p1,p2⟩:=Hu hq;have eT:=beq_eq (bg hc);subst eT;obtain⟨_,_,⟨D,hD⟩,h1,_⟩:=lS (aQ (aQ hc));refine cB h fun σ' ag d hd hn=>?_;obtain⟨TI,k1,v1,v2⟩:=wH (lo:=some y) (E:=E) (σ:=σ') (i:=i) (by rw[oO ag.ts hy];exact hi);exact(YB ho hd hn hu hD h1 (beq_eq (bg (aQ hc))) v1 (dh ag hx he) v2 p1 p2).can
        ·cases h
   ·cases h
  ·cases h
theorem agR{i:Nat}(ho:o.op= .extract x i)(h:JM P E n o σ x i k=some r):OpS P n o σ k r:=by
 have hx:x∈o.op.operands.toList:=by rw[ho];simp[Op.operands]
 unfold JM at h;split at h
 ·rename_i vs e1;split at h;·cases h
  ·rename_i v0 hne hv;exact cB h fun σ' ha d hd hn=>abo ho hd hn (dh ha hx e1) hv fun us e=>hne us e
  ·cases h
 ·cases h
theorem FV:∀{vs:List AV},Y8 P vs=true->∀v∈vs,v.isAgg P=false∧v≠ .dead∧∀us,v≠ .tup us
 | [],_,v,hv=>by simp at hv
 |u::r,h,v,hv=>by
  unfold Y8 at h;rcases List.mem_cons.1 hv with e|hv
  ·subst e;have h1:=bg h;split at h1;·cases h1
   ·cases h1
   ·    rename_i h3 h4;exact⟨by simpa using h1,fun e=>h4 e,fun us e=>h3 us e⟩
  ·exact FV (aQ h) v hv
theorem ajb{D:List TypeId}:∀{xs:List Operand},EvXs P σ xs (xs.map (opd P D σ T))
 | []=> .nil
 |x::xs=> .cons vV ajb
theorem Zj{d:Nat}{f:FuncId}{first:Array Operand}{xs:List Operand}{caps:List AV}(ho:o.op= .makeFunc (.func f) first xs.toArray)(hf:first.size=0)(hd:o.dst=some d)(hn:d<n)(ha:EvXs P σ xs caps)(hc:∀v∈caps,v.isAgg P=false∧v≠ .dead∧∀us,v≠ .tup us):dz P n o σ (σ.put d (.fn f caps)):=
 bK hd hn fun ok0 w0 a w β r=>by
  have hfe:first= #[]:=Array.eq_empty_of_size_eq_zero hf
  subst hfe;have h:=ha.rvs r;refine⟨.func (.func f) #[] (xs.map a.eval).toArray,by simp[execOp,ho,Instr.makeFunc,List.map_toArray],⟨fun hi=>by simp[AV.isAgg]at hi,fun _=> .fn (by simpa using h.len) fun i av hv=>?_⟩⟩;obtain⟨z,h1,h2⟩:=h.get i av hv;have hm:=hc av (aW hv);have e:(xs.map a.eval).toArray.getD i undef=z:=by simp only[Array.getD_eq_getD_getElem?,List.getElem?_toArray,h1,Option.getD_some]
  rw[e];exact(RV.to1 hm.2.1 hm.2.2 h2).2 hm.1
theorem abR{f:FuncId}{first caps:Array Operand}(ho:o.op= .makeFunc (.func f) first caps)(h:FT P E n o σ f first.size caps.toList k=some r):OpS P n o σ k r:=by
 unfold FT at h;have hh_:=aO h;clear h;obtain⟨hc,h⟩:=hh_;refine cB h fun σ' ag d hd hn=>Zj (xs:=caps.toList) (by rw[ho]) (beq_eq (bg hc)) hd hn ?_ (FV (aQ hc));have e:caps.toList.map (opd P E.dt σ' 0)=caps.toList.map (opd P E.dt σ 0):=by refine List.map_congr_left fun z hz=>wG ag.ts ?_;rw[ho];simp[Op.operands,hz]
 rw[←e];exact ajb
theorem auo{xs:Array Operand}{Ts:Array TypeId}(ho:o.op= .call ⟨.builtin .len,xs,Ts⟩)(hxs:xs.toList=[x])(hTs:Ts.toList=[T])(h:aiZ P E n o σ T x k=some r):OpS P n o σ k r:=by
 have hxs':xs= #[x]:=by apply Array.ext';simpa using hxs
 have hTs':Ts= #[T]:=by apply Array.ext';simpa using hTs
 subst hxs' hTs';have hx:x∈o.op.operands.toList:=by rw[ho];simp[Op.operands,Call.operands]
 unfold aiZ at h;have hh_:=aO h;clear h;obtain⟨hI,h⟩:=hh_;split at h
 ·rename_i Tx s hs;obtain⟨d1,e1,u1,rfl⟩:=qQ hs;have hh_:=aO h;clear h;obtain⟨hc,h⟩:=hh_;exact cB h fun σ' ag d hd hn=>abm ho hd hn (rQ hI) (vF hc) u1 ((dh ag hx e1).cstr u1)
 ·split  at h
  ·rename_i Te hTe;split at h
   ·    rename_i l e1;split at h
        ·rename_i T5 es hl;exact cB h fun σ' ag d hd hn=>abn ho hd hn (rQ hI) (dJ hTe) (dh ag hx e1) (by rw[ag.hs l (by simp)];exact hl)
        ·rename_i T5 vs hl;exact cB h fun σ' ag d hd hn=>ZG (E:=0) ho hd hn (rQ hI) (dJ hTe) (dh ag hx e1) (by rw[ag.hs l (by simp)];exact hl)
        ·rename_i T5 T2 c kk es hh hl;exact cB h fun σ' ag d hd hn=>ZL (E:=0) ho hd hn (rQ hI) (dJ hTe) (dh ag hx e1) (by rw[ag.hs l (by simp)];exact hl)
        ·rename_i T5 es hl;have hh_:=aO h;clear h;obtain⟨hsl,h⟩:=hh_;obtain⟨E5,hE5⟩:=Option.isSome_iff_exists.1 hsl;refine cB h fun σ' ag d hd hn=>?_;have hl':lk σ'.hs l= .frz T5 es:=by rw[ag.hs l (by simp)];exact hl
         exact NM ho hd hn (rQ hI) (dJ hTe) (dJ hE5) ((dh ag hx e1).frz hl')
        ·cases h
   ·    split at h
        ·rename_i Tx Te2 es hl;obtain⟨d1,hp,u1,rfl⟩:=El hl;exact cB h fun σ' ag d hd hn=>NM ho hd hn (rQ hI) (dJ hTe) u1 ((Ev.pk (tQ ag hx) (Ou _ hp)).clst u1)
        ·cases h
  ·cases h
theorem aq0{d:Nat}{k:IntKind}{T3 T4 T1 T2:TypeId}{p q:Int}(ho:o.op= .call ⟨.builtin .max,#[x,y],#[T1,T2]⟩)(hd:o.dst=some d)(hn:d<n)
  (hu:P.underlying T3=some (.int k))(hu':P.underlying T4=some (.int k))(hx:Ev P σ x (.dat T3 (.int p)))(hy:Ev P σ y (.dat T4 (.int q))):dz P n o σ (σ.put d (.dat T3 (.int (bif decide (p<q)then q else p)))):=
 bK hd hn fun ok0 w0 a w β r=>by
  obtain⟨_,e1,b1,b2⟩:=RV.int hu (hx _ _ _ _ _ _ r);obtain⟨_,e2,b3,b4⟩:=RV.int hu' (hy _ _ _ _ _ _ r);simp only[Dt.toInt]at e1 e2 b1 b2 b3 b4;refine⟨.int k (bif decide (p<q)then q else p),?_,RV.mk_int hu ?_ ?_⟩;·by_cases h:p<q<;>simp[execOp,ho,e1,e2,resolve,invoke,builtin,Builtin.max_,Builtin.max2,h]
  ·by_cases h:p<q<;>simp[h,b1,b3]
  ·by_cases h:p<q<;>simp[h,b2,b4]
theorem aq1{d:Nat}{k:IntKind}{T3 T4 T1 T2:TypeId}{p q:Int}(ho:o.op= .call ⟨.builtin .min,#[x,y],#[T1,T2]⟩)(hd:o.dst=some d)(hn:d<n)
  (hu:P.underlying T3=some (.int k))(hu':P.underlying T4=some (.int k))(hx:Ev P σ x (.dat T3 (.int p)))(hy:Ev P σ y (.dat T4 (.int q))):dz P n o σ (σ.put d (.dat T3 (.int (bif decide (q<p)then q else p)))):=
 bK hd hn fun ok0 w0 a w β r=>by
  obtain⟨_,e1,b1,b2⟩:=RV.int hu (hx _ _ _ _ _ _ r);obtain⟨_,e2,b3,b4⟩:=RV.int hu' (hy _ _ _ _ _ _ r);simp only[Dt.toInt]at e1 e2 b1 b2 b3 b4;refine⟨.int k (bif decide (q<p)then q else p),?_,RV.mk_int hu ?_ ?_⟩;·by_cases h:q<p<;>simp[execOp,ho,e1,e2,resolve,invoke,builtin,Builtin.min_,Builtin.min2,h]
  ·by_cases h:q<p<;>simp[h,b1,b3]
  ·by_cases h:q<p<;>simp[h,b2,b4]
theorem two{A:Type}{xs:Array A}{a b:A}(h:xs.toList=[a,b]):xs= #[a,b]:=by apply Array.ext';simpa using h
theorem aup{xs:Array Operand}{Ts:Array TypeId}{T':TypeId}(ho:o.op= .call ⟨.builtin .min,xs,Ts⟩)(hxs:xs.toList=[x,y])(hTs:Ts.toList=[T,T'])(h:ai0 P E n o σ T T' x y k=some r):OpS P n o σ k r:=by
 have hxs':=two hxs;have hTs':=two hTs;subst hxs' hTs';have hx:x∈o.op.operands.toList:=by rw[ho];simp[Op.operands,Call.operands]
 have hy:y∈o.op.operands.toList:=by rw[ho];simp[Op.operands,Call.operands]
 unfold ai0 at h;split at h
 ·rename_i Tx q a ha;obtain⟨d1,e1,u1,rfl⟩:=nH ha;split at h
  ·rename_i Ty q' b hb;obtain⟨d2,e2,u2,rfl⟩:=nH hb;have hh_:=aO h;clear h;obtain⟨hq,h⟩:=hh_;have hq':q=q':=by simpa using hq
   subst hq';exact cB h fun σ' ag d hd hn=>aq1 ho hd hn u1 u2 ((dh ag hx e1).cint u1) ((dh ag hy e2).cint u2)
  ·cases h
 ·cases h
theorem auq{xs:Array Operand}{Ts:Array TypeId}{T':TypeId}(ho:o.op= .call ⟨.builtin .max,xs,Ts⟩)(hxs:xs.toList=[x,y])(hTs:Ts.toList=[T,T'])(h:ai1 P E n o σ T T' x y k=some r):OpS P n o σ k r:=by
 have hxs':=two hxs;have hTs':=two hTs;subst hxs' hTs';have hx:x∈o.op.operands.toList:=by rw[ho];simp[Op.operands,Call.operands]
 have hy:y∈o.op.operands.toList:=by rw[ho];simp[Op.operands,Call.operands]
 unfold ai1 at h;split at h
 ·rename_i Tx q a ha;obtain⟨d1,e1,u1,rfl⟩:=nH ha;split at h
  ·rename_i Ty q' b hb;obtain⟨d2,e2,u2,rfl⟩:=nH hb;have hh_:=aO h;clear h;obtain⟨hq,h⟩:=hh_;have hq':q=q':=by simpa using hq
   subst hq';exact cB h fun σ' ag d hd hn=>aq0 ho hd hn u1 u2 ((dh ag hx e1).cint u1) ((dh ag hy e2).cint u2)
  ·cases h
 ·cases h
theorem w9{KT V:TypeId}(h:Ol P T=some (KT,V)):P.underlying T=some (.map KT V)∧P.underlying KT=some .string∧eu P V=false:=by
 unfold Ol at h;split at h
 ·rename_i K V' hu;obtain⟨h1,h2⟩:=aO h;cases h2;exact⟨hu,vF (bg h1),by simpa using aQ h1⟩
 ·cases h
theorem abS{z:Dt}(h:aiW P T=some z):∃(i:TypeInfo)(zv:Value),P.info? T=some i∧i.zero=some zv∧∀(ok:Nat->Prop)(w:World),RD P ok w T z [zv]:=by
 unfold aiW at h;split at h
 ·rename_i i hi;split at h
  ·rename_i zv hz;cases hb:FP zv with
   |true=>rw[hb]at h;cases h
   |    false=>
        rw[hb]at h;obtain⟨i',z',q1,q2,q3,q4⟩:=(nU h).ex;rw[hi]at q1;cases q1
        rw[hz]at q2;cases q2
        refine⟨_,zv,hi,hz,fun ok w=>?_⟩;have e:zv.cells.toList=[zv]:=by cases zv<;>first|rfl|cases hb
        rw[←e];exact q4 ok w
  ·cases h
 ·cases h
theorem apC{A:Type}{b:Bool}{u v:Option A}{q:A}(h:(bif b then u else v)=some q):(b=true∧u=some q)∨(b=false∧v=some q):=by cases b<;>simp_all
theorem agS(h:aqS P T=true):∃(i:TypeInfo),P.info? T=some i∧i.zero=some (.slice none 0 0):=by
 unfold aqS at h;split at h
 ·rename_i i hi;split at h;·rename_i hz;exact⟨i,hi,hz⟩
  ·cases h
 ·cases h
theorem ajc{    two:Bool}(ho:o.op= .lookup T x y two)(h:Om P E n o σ T x y two k=some r):OpS P n o σ k r:=by
 have hx:x∈o.op.operands.toList:=by rw[ho];simp[Op.operands]
 have hy:y∈o.op.operands.toList:=by rw[ho];simp[Op.operands]
 unfold Om at h;split at h
 ·rename_i KT V hkv;obtain⟨u1,u2,u3⟩:=w9 hkv;split at h
  ·rename_i z hz;have hz':=abS hz;split at h
   ·    rename_i l e1;split at h
        ·rename_i T5 es hl;split at h
         ·rename_i K5 V5 hkv5;obtain⟨p1,p2,p3⟩:=w9 hkv5;split at h
          ·rename_i TS s hs;obtain⟨d2,e2,us,rfl⟩:=qQ hs;have hh_:=aO h;clear h;obtain⟨hc,h⟩:=hh_;have c1:=beq_eq (bg hc);have c2:=beq_eq (aQ hc);subst c1;subst c2
           cases two with
           |  true=>
              simp only[cond_true]at h;split at h
              · rename_i TB hTB;exact cB h fun σ' ag d hd hn=>ab4 ho hd hn u1 u2 u3 (jg hTB) hz' us (dh ag hx e1) ((dh ag hy e2).cstr us) (by rw[ag.hs l (by simp)];exact hl) p1
              ·cases h
           |  false=>
              simp only[cond_false]at h;rcases apC h with⟨_,h⟩| ⟨_,h⟩;·exact cB h fun σ' ag d hd hn=>(Uz ho hd hn u1 u2 u3 hz' us (dh ag hx e1) ((dh ag hy e2).cstr us) (by rw[ag.hs l (by simp)];exact hl) p1).can
              · rcases apC h with⟨_,h⟩| ⟨hm,h⟩;·exact cB h fun σ' ag d hd hn=>(Uz ho hd hn u1 u2 u3 hz' us (dh ag hx e1) ((dh ag hy e2).cstr us) (by rw[ag.hs l (by simp)];exact hl) p1).can
                ·obtain⟨hnz,h⟩:=aO h;exact cB h fun σ' ag d hd hn=>ab3 ho hd hn u1 u2 (agS hnz) us (dh ag hx e1) ((dh ag hy e2).cstr us) (by rw[ag.hs l (by simp)];exact hl) p1 hm
          ·cases h
         ·cases h
        ·cases h
   ·cases h
  ·cases h
 ·cases h
theorem agT(ho:o.op= .makeMap T none)(h:JL P n o σ T k=some r):OpS P n o σ k r:=by
 unfold JL at h;split at h
 ·rename_i kv hkv;obtain⟨KT,V⟩:=kv;obtain⟨u1,u2,u3⟩:=w9 hkv;have hh_:=oP h;clear h;obtain⟨hk0,h⟩:=hh_;exact aeC h fun σ' ag d hd hn=>ab5 ho hd hn u1 u2 (by rw[ag.hs _ (by simp)];exact oQ σ) (by rw[ag.k0];exact hk0)
 ·cases h
theorem Zk{u:Operand}(ho:o.op= .mapUpdate T x y u)(h:CV P E o σ T x y u k=some r):OpS P n o σ k r:=by
 have hx:x∈o.op.operands.toList:=by rw[ho];simp[Op.operands]
 have hy:y∈o.op.operands.toList:=by rw[ho];simp[Op.operands]
 have hu:u∈o.op.operands.toList:=by rw[ho];simp[Op.operands]
 unfold CV at h;split at h
 ·rename_i KT V hkv;obtain⟨u1,u2,u3⟩:=w9 hkv;split at h
  ·rename_i l e1;split at h
   ·    rename_i T5 es hl;split at h
        ·rename_i K5 V5 hkv5;obtain⟨p1,p2,p3⟩:=w9 hkv5;split at h
         ·rename_i TS s hs;obtain⟨d2,e2,us,rfl⟩:=qQ hs;split at h
          ·rename_i TV dv hpk;have hh_:=aO h;clear h;obtain⟨hc,h⟩:=hh_;have hnm:l∉(opd P E.dt σ V u).rws:=Db (by simpa using aQ (aQ hc));obtain⟨hd,hk⟩:=zY h;refine⟨_,hk,fun σ' ag=>?_⟩;have hagr:∀l2∈(opd P E.dt σ V u).rws,lk σ'.hs l2=lk σ.hs l2:=fun l2 hl2=>ag.hs l2 (by simp[hl2]);rw[hd];have hev:∀{z:Operand}{w:AV}{T0:TypeId},z∈o.op.operands.toList->opd P E.dt σ T0 z=w->Ev P (St.mk σ'.ts (wrO σ'.hs (frzW σ'.hs (opd P E.dt σ V u).rws)) σ'.k0) z w:=by
              rintro z w T0 hz rfl;have e3:opd P E.dt (St.mk σ'.ts (wrO σ'.hs (frzW σ'.hs (opd P E.dt σ V u).rws)) σ'.k0) T0 z=opd P E.dt σ T0 z:=by rw[←wG ag.ts hz];cases z<;>rfl
              rw[←e3];exact vV
           have hpk2:pk P (wrO σ'.hs (frzW σ'.hs (opd P E.dt σ V u).rws)) (opd P E.dt σ V u)=some (TV,dv):=by rw[←hpk,lT hagr];exact Bl _ fun l2 hl2=>qR hagr l2 hl2
           have key:dz P n o ⟨σ'.ts,wrO σ'.hs (frzW σ'.hs (opd P E.dt σ V u).rws),σ'.k0⟩ ((St.mk σ'.ts (wrO σ'.hs (frzW σ'.hs (opd P E.dt σ V u).rws)) σ'.k0).lay l (.map T5 (mput es d2.toStr dv))):=by refine Xb (n:=n) ho hd u1 u2 p1 (by simpa using bg (aQ hc)) (bg hc) us (hev hx e1) ((hev hy e2).cstr us) (Ev.pk (hev hu rfl) hpk2) ?_;show lk (wrO σ'.hs _) l=_;rw[sG hnm,ag.hs l (by simp)];exact hl
           have hfin:St.mk (agJ σ'.ts none none) (wrO σ'.hs (frzW σ.hs (opd P E.dt σ V u).rws++[(l,.map T5 (mput es d2.toStr dv))])) σ'.k0=(St.mk σ'.ts (wrO σ'.hs (frzW σ'.hs (opd P E.dt σ V u).rws)) σ'.k0).lay l (.map T5 (mput es d2.toStr dv)):=by rw[tO,lT hagr];rfl
           have:=key.pre (Imp.frzW (σ:=σ') (opd P E.dt σ V u).rws);rw[←hfin]at this;exact this
          ·cases h
         ·cases h
        ·cases h
   ·cases h
  ·cases h
 ·cases h
theorem JO:∀{ts:List (Nat×List Value)}{g:Nat}{cs:List Value},Oo ts g=some cs->(g,cs)∈ts
 | [],_,_,h=>by cases h
 |t::r,g,cs,h=>by
  unfold Oo at h;cases hb:Nat.beq t.1 g with
  |true=>
   rw[hb]at h;cases h;have e:=beq_eq hb;subst e;exact aS
  |false=>
   rw[hb]at h;exact bA _ (JO h)
theorem Zl{Te:TypeId}{sz:Nat}:∀{m:Nat}{cs:List Value}{ds:List Dt},aiX P Te sz m cs=some ds->∀(i:Nat)(d:Dt),ds[i]? =some d->∀(ok:Nat->Prop)(w:World),RD P ok w Te d ((cs.drop (i*sz)).take sz)∧i<m
 |0,cs,ds,h,i,d,hd,ok,w=>by unfold aiX at h;cases h;simp at hd
 |m+    1,cs,ds,h,i,d,hd,ok,w=>by
  unfold aiX at h;split at h
  ·rename_i v hv;split at h
   ·    rename_i T' d' hp;obtain⟨h1,h2⟩:=aO h;have e:=beq_eq h1;subst e;split at h2
        ·rename_i ds' hds;cases h2;cases i with
         |zero=>
          simp only[bf,aG]at hd;subst hd;refine⟨?_,by omega⟩;simp only[Nat.zero_mul,aH];exact kF (β:=fun _=>none) (hs:=[]) (fun l T es hl=>by simp[lk]at hl) ((Ej hv).1 ok w _) hp
         |succ i=>
          simp only[aZ]at hd;obtain⟨q1,q2⟩:=Zl hds i d hd ok w;rw[List.drop_drop,show sz+i*sz=(i+1)*sz by rw[Nat.succ_mul];omega]at q1;exact⟨q1,by omega⟩
        ·cases h2
   ·cases h
  ·cases h
theorem aur{g:Nat}(ho:o.op= .indexAddr T (.global g) y)(h:aiY P E n o σ T g y k=some r):OpS P n o σ k r:=by
 have hy:y∈o.op.operands.toList:=by rw[ho];simp[Op.operands]
 unfold aiY at h;split at h
 ·rename_i len Te hu;split at h
  ·rename_i cs hcs;split at h
   ·    rename_i ds hds;split at h
        ·rename_i i hi;have hh_:=aO h;clear h;obtain⟨hc,h⟩:=hh_;have hh_:=au.1 h;clear h;obtain⟨e,he,h⟩:=hh_;obtain⟨p1,p2⟩:=Hu he;have h0:=CY (bg hc);have hlen:=beq_eq (aQ hc);refine cB h fun σ' ag d hd hn=>?_;obtain⟨TI,k1,v1,v2⟩:=wH (lo:=some y) (E:=E) (σ:=σ') (i:=i) (by rw[oO ag.ts (by intro z hz;cases hz;exact hy)];exact hi);refine bK hd hn fun ok0 w0 a w β r=>?_;obtain⟨_,e2,_⟩:=RV.int v1 (v2 _ _ _ _ _ _ r);simp only[Dt.toInt]at e2;obtain⟨hok,TT,fr,hblk⟩:=r.tab.1 _ (JO hcs);have hmul:∀m,m<len->m*P.cellsOf Te+P.cellsOf Te<=len*P.cellsOf Te:=fun m hm=>by have:=aT (P.cellsOf Te) (show m+1<=len from hm);rw[Nat.succ_mul]at this;exact this
         have hq:=Zl hds i.toNat e p2;have hlt:=(hq (fun _=>True) w).2;have hm:=hmul _ hlt;refine⟨.pointer (some ((⟨g,0,none⟩:Addr).add (i.toNat*P.cellsOf Te))),?_,Nh (cs:=(cs.drop (i.toNat*P.cellsOf Te)).take (P.cellsOf Te)) (by rw[block_add];exact hok) (by rw[List.length_take,List.length_drop];omega) (fun j v hv=>?_) (hq _ w).1⟩
         ·have hii:i<len:=by omega
          cases hin:P.info? Te with
          |none=>simp[Program.cellsOf,hin]at h0
          |some inf=>
           unfold execOp;simp only[ho,e2,Sem.run_bind];have ea:a.eval (.global g)= .pointer (some ⟨g,0,none⟩):=rfl;rw[ea];simp[Instr.indexAt,asIntOf,run_underlying hu,Instr.sureAddr,p1,hii,sizeOf,typeInfo,hin,Program.cellsOf]
         ·rw[add_add,qY,Nat.zero_add];rw[List.getElem?_take]at hv;split at hv
          ·rename_i hj;rw[List.getElem?_drop]at hv;have hb:w.heap[g]? =some (.cells cs.toArray TT fr):=hblk;simp only[World.cell?,hb];simpa using hv
          ·cases hv
        ·cases h
   ·cases h
  ·cases h
 ·cases h
end
section
variable{P:Program}{n:Nat}{o:Oper}{σ τ:St}{x y:Operand}{v:AV}{T:TypeId}{R:Type}{E:Env}{k:Dl->Option R}{r:R}
theorem abT{T T':TypeId}(h:compat P T T'=true):eu P T=eu P T':=by
 unfold compat at h;rw[Bool.or_eq_true]at h;rcases h with h|h;·rw[beq_eq h]
 ·unfold eu;split at h;·rename_i h1 h2;rw[h1,h2]
  ·rename_i h1 h2;rw[h1,h2]
  ·rename_i h1 h2;rw[h1,h2]
  ·rename_i h1 h2;rw[h1,h2]
  ·cases h
theorem RV.compat{ok:Nat->Prop}{w:World}{β:Nat->Option Value}{z:Value}{d:Dt}{T':TypeId}(h:RV P ok w β (.dat T d) z)(hc:Am.compat P T T'=true):RV P ok w β (.dat T' d) z:=by
 have he:=abT hc;cases ha:eu P T with
 |true=>
  obtain⟨cs,e,q⟩:=(RV.dat_agg ha).1 h;exact(RV.dat_agg (by rw[←he];exact ha)).2 ⟨cs,e,q.compat hc⟩
 |false=>exact(RV.dat_one (by rw[←he];exact ha)).2 (((RV.dat_one ha).1 h).compat hc)
theorem WR{D:List TypeId}{Te:TypeId}{τ:St}:∀{xs:List Operand}{ds:List Dt},(∀z∈xs,Ev P τ z (opd P D σ Te z))->zW P τ.hs Te (xs.map (opd P D σ Te))=some ds->EvL P τ Te xs ds
 | [],ds,_,h=>by
   have h':some []=some ds:=by simpa [zW]using h
   cases h';exact .nil
 | z::xs,ds,hev,h=>by
   simp only[List.map_cons]at h;unfold zW at h;split at h
   ·rename_i T' d hp;obtain⟨hc,h2⟩:=aO h;split at h2
    ·   rename_i ds' hds;cases h2;refine .cons ?_ (WR (fun u hu=>hev u (by simp[hu])) hds);have:=Ev.pk (hev z (by simp)) hp;exact fun ok0 w0 n a w β r=>(this _ _ _ _ _ _ r).compat (bg hc)
    ·cases h2
   ·cases h
theorem aeD{hs:List Ob}{Te:TypeId}{vs:List AV}{ds:List Dt}(h:zW P hs Te vs=some ds)(hne:vs≠[]):∀d',szB P Te (.dat Te d')=true:=by
 cases vs with
 |nil=>exact absurd rfl hne
 |cons v r=>
  unfold zW at h;split at h
  ·rename_i T' d hp;obtain⟨hc,h2⟩:=aO h;intro d';exact aQ hc
  ·cases h
theorem Zm{hs hs':List Ob}{Te:TypeId}:∀{vs:List AV},(∀l∈AV.rwsL vs,lk hs' l=lk hs l)->zW P hs' Te vs=zW P hs Te vs
 | [],_=>rfl
 |v::r,h=>by unfold zW;rw[Bl (hs:=hs) (hs':=hs') v fun l hl=>h l (by simp[AV.rwsL,hl]),Zm (vs:=r) fun l hl=>h l (by simp[AV.rwsL,hl])]
theorem Em:∀{j:Nat}{parts:List (Nat×Operand)},dense j parts=true->parts=((parts.map (·.2)).zipIdx j).map fun p=>(p.2,p.1)
 |_,[],_=>rfl
 |j,(i,x)::r,h=>by simp only[dense]at h;have e:=beq_eq (bg h);subst e;have ih:=Em (aQ h);simp only[List.map_cons,List.zipIdx_cons];rw[←ih]
theorem Zn{hs:List Ob}{Te:TypeId}:∀{vs:List AV}{ds:List Dt},zW P [] Te vs=some ds->zW P hs Te vs=some ds
 | [],_,h=>h
 |v::r,ds,h=>by
  unfold zW at h ⊢
  split at h
  ·rename_i T d hp;rw[Ou v hp];obtain⟨hc,h2⟩:=aO h;split at h2
   ·    rename_i ds' hds;cases h2;simp only[hc,cond_true,Zn hds]
   ·cases h2
  ·cases h
theorem abU{parts:Array (Nat×Operand)}{len:Nat}{Te:TypeId}{zi:TypeInfo}{za:Value}{ds:List Dt}(ho:o.op= .build T parts)(hu:P.underlying T=some (.array len Te))(hzi:P.info? T=some zi)(hza:zi.zero=some za)
  (hds:zW P [] Te ((parts.toList.map (·.2)).map (opd P E.dt σ Te))=some ds)(hc:(dense 0 parts.toList&&(Nat.beq len parts.toList.length&&(!Nat.beq len 0&&(!Nat.beq (P.cellsOf Te) 0&&(Nat.beq za.cells.size (len*P.cellsOf Te)&&Nat.beq (P.cellsOf T) (len*P.cellsOf Te))))))=true)
  (h:out n o (.dat T (.lst ds)) [] [] k=some r):OpS P n o σ k r:=by
 have hmem:∀z∈parts.toList.map (·.2),z∈o.op.operands.toList:=by intro z hz;rw[ho];simpa [Op.operands]using hz
 have hlen:len=(parts.toList.map (·.2)).length:=by rw[List.length_map];exact beq_eq (bg (aQ hc))
 have hpos:parts.toList.map (·.2)≠[]:=by intro e;rw[e]at hlen;exact CY (bg (aQ (aQ hc))) hlen
 have hsz:=aeD hds (by simpa using hpos);refine cB h fun σ' ag d hd hn=>Yw ho hd hn hu hzi hza (beq_eq (bg (aQ (aQ (aQ (aQ hc)))))) (beq_eq (aQ (aQ (aQ (aQ (aQ hc)))))) (CY (bg (aQ (aQ (aQ hc))))) (Em (bg hc)) hlen
  (WR (fun z hz=>tQ ag (hmem z hz)) (Zn hds)) (fun d'=>(lS (hsz d')).2.2.2.2)
theorem ajd{parts:Array (Nat×Operand)}(ho:o.op= .build T parts)(h:Og P E n o σ T parts.toList k=some r):OpS P n o σ k r:=by
 unfold Og at h;split at h;·exact anE ho h
 ·unfold Za at h;split at h
  ·rename_i len Te hu;split at h
   ·    rename_i zi hzi;split at h
        ·rename_i za hza;split at h
         ·rename_i ds hds;have hh_:=aO h;clear h;obtain⟨hc,h⟩:=hh_;exact abU ho hu hzi hza hds hc h
         ·cases h
        ·cases h
   ·cases h
  ·cases h
theorem WS{len:Nat}{parts:Array (Nat×Operand)}(ho:o.op= .buildSlice T len parts)(h:Bj P E n o σ T len parts.toList k=some r):OpS P n o σ k r:=by
 unfold Bj at h;split at h
 ·rename_i Te hTe;split at h
  ·rename_i z hz;split at h
   ·    rename_i ds hds;have hh_:=aO h;clear h;obtain⟨hc,h⟩:=hh_;have hh_:=oP h;clear h;obtain⟨hk0,h⟩:=hh_;obtain⟨d,hd,hn,hk⟩:=nI h;refine⟨_,hk,fun σ' ag=>?_⟩;have hmap:(parts.toList.map fun p=>opd P E.dt σ Te p.2)=(parts.toList.map (·.2)).map (opd P E.dt σ Te):=by rw[List.map_map];rfl
        rw[hmap]at hds hk ⊢
        rw[hmap]at ag;have hagr:∀l∈AV.rwsL ((parts.toList.map (·.2)).map (opd P E.dt σ Te)),lk σ'.hs l=lk σ.hs l:=fun l hl=>ag.hs l (bA _ hl);have hfw:=lT hagr;have hmem:∀z∈parts.toList.map (·.2),z∈o.op.operands.toList:=by intro z hz;rw[ho];simpa [Op.operands]using hz
        have hds':zW P (wrO σ'.hs (frzW σ'.hs (AV.rwsL ((parts.toList.map (·.2)).map (opd P E.dt σ Te))))) Te ((parts.toList.map (·.2)).map (opd P E.dt σ Te))=some ds:=by rw[←hds,hfw];exact Zm fun l hl=>qR hagr l hl
        have hlen:len=(parts.toList.map (·.2)).length:=by rw[List.length_map];exact beq_eq (bg (aQ hc))
        have hpos:parts.toList.map (·.2)≠[]:=by intro e;rw[e]at hlen;exact CY (bg (aQ (aQ hc))) hlen
        have hsz:=aeD hds (by simpa using hpos);have key:=(RI (σ:=St.mk σ'.ts (wrO σ'.hs (frzW σ'.hs (AV.rwsL ((parts.toList.map (·.2)).map (opd P E.dt σ Te))))) σ'.k0) (l:=σ.hs.length) (ds:=ds) ho hd hn (dJ hTe) (by
          refine sM ?_;rw[ag.hs _ (by simp)];exact oQ σ) (by show σ'.k0<=_;rw[ag.k0];exact hk0) (nU hz) (CY (bg (aQ (aQ (aQ hc))))) (Em (bg hc)) hlen hpos
          (aN (aQ (aQ (aQ (aQ hc))))) (WR (fun z hz=>Ow ag (hmem z hz)) hds') (fun d'=>(lS (hsz d')).2.2.2.2)).pre (Imp.frzW (σ:=σ') (AV.rwsL ((parts.toList.map (·.2)).map (opd P E.dt σ Te))))
        rw[hd];have hfin:St.mk (agJ σ'.ts (some d) (some (.row σ.hs.length))) (wrO σ'.hs (frzW σ.hs (AV.rwsL ((parts.toList.map (·.2)).map (opd P E.dt σ Te)))++[(σ.hs.length,.row T ds)])) σ'.k0=
          ((St.mk σ'.ts (wrO σ'.hs (frzW σ'.hs (AV.rwsL ((parts.toList.map (·.2)).map (opd P E.dt σ Te))))) σ'.k0).lay σ.hs.length (.row T ds)).put d (.row σ.hs.length):=by
         rw[tO,hfw];rfl
        show dz P n o σ' (St.mk _ _ _);rw[hfin];exact key
   ·cases h
  ·cases h
 ·cases h
theorem WT{Te:TypeId}{vy:AV}{rd:List Nat}{ds:List Dt}(h:(match vy with
   |    .row l=>match lk σ.hs l with
        | .row T5 ds=>bif kJ P T5 Te then some ([l],ds)else none
        | .frz T5 ds=>bif kJ P T5 Te then some ([l],ds)else none
        |_=>none
   |    v=>match lval P [] v with
        |some (_,Te',ds)=>bif Nat.beq Te' Te then some ([],ds)else none
        |none=>none:Option (List Nat×List Dt))=some (rd,ds))(τ:St)(hev:Ev P τ y vy)(hag:∀l∈rd,lk τ.hs l=lk σ.hs l):Ht P τ y Te ds:=by
 split at h
 ·rename_i l;split at h
  ·rename_i T5 ds' hl;obtain⟨hc,h2⟩:=aO h;cases h2;exact .row hev (by rw[hag l (by simp)];exact hl) (fK hc).1
  ·rename_i T5 ds' hl;obtain⟨hc,h2⟩:=aO h;cases h2;exact .lst (fK hc).1 (hev.frz (by rw[hag l (by simp)];exact hl))
  ·cases h
 ·split at h
  ·rename_i Tx Te' ds' hl;obtain⟨hc,h2⟩:=aO h;cases h2;obtain⟨d1,hp,u1,rfl⟩:=El hl;have e:=beq_eq hc;subst e;exact .lst u1 ((Ev.pk hev (Ou _ hp)).clst u1)
  ·cases h
theorem append_nil{d l l':Nat}{Te T5 T0:TypeId}{ds:List Dt}{z:Dt}(ho:o.op= .call {callee:= .builtin .append,args:= #[x,y],argTypes:= #[T,T]})(hd:o.dst=some d)(hn:d<n)(hu:P.underlying T=some (.slice Te))(hu5:P.underlying T5=some (.slice Te))
  (hz:Zero P Te z)(h0:P.cellsOf Te≠0)(hbd:ds.length*P.bytesOf Te<=140737488355328)(hx:Ev P σ x (.nils T0))(hfl:lk σ.hs l= .free)(hkl:σ.k0<=l)(hf:lk σ.hs l'= .free)(hll:l'≠l)(hk0:σ.k0<=l')(hy:Ht P σ y Te ds)(hlim:ds.length<=137438953472):
  dz P n o σ (((σ.lay l .gone).lay l' (.row T5 ds)).put d (.row l')):=by
 rintro ok0 w0 a w ⟨β,r⟩ K Q hK;have ex:a.eval x= .slice none 0 0:=by
  have h1:=(hx _ _ _ _ _ _ r).2 rfl;generalize a.eval x=q at h1;cases h1 with
  |nils=>rfl
 have r1:=r.nilrow hu5 hfl hkl;have hy1:=hy _ _ _ _ _ _ r;obtain⟨A,c,ys,ey,hyl,hyone,hyc,hynone,hyrd⟩:=hy1;have hob0:=r1.hs l;have hl1:lk (σ.lay l (.row T5 [])).hs l= .row T5 []:=dU _ _ _;rw[hl1,dI]at hob0;have key:=LB (σ:=σ.lay l (.row T5 [])) (l:=l) (l':=l') (E:=Te) (T5:=T5) (es:=[]) (ds:=ds) ho hd hn hu hu5 hz h0 (by simpa using hbd) r1 (by rw[ex];exact dI _ _ _) hl1
  (by show lk (bI σ.hs l _) l'=_;rw[bE _ _ _ _ hll];exact hf) hk0 ey hyl hyone hyc hynone (fun i d' hd'=>(hyrd i d' hd').mono (fun b hb=>⟨⟨hb.1,hb.2.1,fun j hj=>?_⟩,rfl⟩)) (by simpa using hlim) K Q (fun a' w' r'=>hK a' w' ?_)
 ·exact key
 ·obtain⟨q1,z',q2,q3⟩:=hj;by_cases hjl:j=l
  ·subst hjl;rw[dI]at q2;cases q2;simp[Blk,blk]at q3
  ·rw[eH _ _ _ _ hjl]at q2;have q1':(lk (bI σ.hs l (.row T5 [])) j).isOwn=true:=q1;rw[bE _ _ _ _ hjl]at q1';exact hb.2.2 j ⟨q1',z',q2,q3⟩
 ·have hcongr:Imp P n ((((σ.lay l (.row T5 [])).lay l .gone).lay l' (.row T5 ([]++ds))).put d (.row l')) (((σ.lay l .gone).lay l' (.row T5 ds)).put d (.row l')):=by
   refine Rel.congr (fun j=> .inr rfl) (fun j=>?_) rfl;show lk (bI (bI σ.hs l .gone) l' _) j=lk (bI (bI (bI σ.hs l (.row T5 [])) l .gone) l' _) j;rw[kD,kD,kD,kD,kD];simp only[List.nil_append];split;·rfl
   ·split<;>rfl
  exact hcongr _ _ _ _ r'
theorem Zo{xs:Array Operand}{Ts:Array TypeId}{T':TypeId}(ho:o.op= .call ⟨.builtin .append,xs,Ts⟩)(hxs:xs.toList=[x,y])(hTs:Ts.toList=[T,T'])(h:H9 P n o σ T T' (opd P E.dt σ T x) (opd P E.dt σ T' y) k=some r):OpS P n o σ k r:=by
 have hxs':=two hxs;have hTs':=two hTs;subst hxs' hTs';have hx:x∈o.op.operands.toList:=by rw[ho];simp[Op.operands,Call.operands]
 have hy:y∈o.op.operands.toList:=by rw[ho];simp[Op.operands,Call.operands]
 unfold H9 at h;split at h
 ·rename_i Te z hTe hz;rw[hTe]at hz;have hh_:=aO h;clear h;obtain⟨hc,h⟩:=hh_;have e:=beq_eq (bg hc);subst e;have h0:=CY (aQ hc);split at h
  ·rename_i rd ds hsrc;split at h
   ·    rename_i l e1;split at h
        ·rename_i T5 es hl;have hh_:=aO h;clear h;obtain⟨hc5,h⟩:=hh_;have hh_:=oP h;clear h;obtain⟨hk0,h⟩:=hh_;have hh_:=Ju h;clear h;obtain⟨rs,hrs,h⟩:=hh_;obtain⟨p1,p2,p3⟩:=Jv hrs;subst p2;obtain⟨d,hd,hn,hk⟩:=nI h;refine⟨_,hk,fun σ' ag=>?_⟩;have key:=agu (σ:=σ') (l:=l) (l':=σ.hs.length) ho hd hn (dJ hTe) (fK hc5).1 (nU hz) h0 p3 (dh ag hx e1) (by rw[ag.hs l (by simp)];exact hl) (by rw[ag.hs _ (by simp)];exact oQ σ) (by rw[ag.k0];exact hk0)
          (WT hsrc σ' (tQ ag hy) fun l2 hl2=>ag.hs l2 (by simp[hl2])) p1
         rw[hd];exact key
        ·rename_i T5 T2 c kk es hl;split at h
         ·rename_i T4 ls hlk;have hh_:=aO h;clear h;obtain⟨hc,h⟩:=hh_;have hc5:=bg hc;have f1:=beq_eq (bg (aQ hc));subst f1;have hpl:∀e∈ds,lkd c e=false:=fun e he=>by simpa using List.all_eq_true.1 (aQ (aQ hc)) e he
          have hh_:=oP h;clear h;obtain⟨hk0,h⟩:=hh_;have hh_:=Ju h;clear h;obtain⟨rs,hrs,h⟩:=hh_;obtain⟨p1,p2,p3⟩:=Jv hrs;subst p2;obtain⟨d,hd,hn,hk⟩:=nI h;refine⟨_,hk,fun σ' ag=>?_⟩;have key:=ab9 (σ:=σ') (l:=l) (l':=σ.hs.length+1) (q:=σ.hs.length) ho hd hn (dJ hTe) (fK hc5).1 (nU hz) h0 p3 (dh ag hx e1) (by rw[ag.hs l (by simp)];exact hl) (by rw[ag.hs kk (by simp)];exact hlk)
           (by rw[ag.hs _ (by simp)];exact oo _ _ (by omega)) (by rw[ag.k0];omega) (by rw[ag.hs _ (by simp)];exact oQ σ) (by rw[ag.k0];exact hk0) (by omega)
           (WT hsrc σ' (tQ ag hy) fun l2 hl2=>ag.hs l2 (by simp[hl2])) hpl p1
          rw[hd];exact key
         ·cases h
        ·cases h
   ·    rename_i T5 e1;have hh_:=aO h;clear h;obtain⟨hc5,h⟩:=hh_;have hh_:=oP h;clear h;obtain⟨hk0,h⟩:=hh_;have hh_:=Ju h;clear h;obtain⟨rs,hrs,h⟩:=hh_;obtain⟨p1,p2,p3⟩:=Jv hrs;simp only[List.nil_append]at p2;subst p2;obtain⟨d,hd,hn,hk⟩:=nI h;refine⟨_,hk,fun σ' ag=>?_⟩;have key:=append_nil (σ:=σ') (l:=σ.hs.length) (l':=σ.hs.length+1) ho hd hn (dJ hTe) (fK hc5).1 (nU hz) h0 (by simpa using p3) (dh ag hx e1) (by rw[ag.hs _ (by simp)];exact oQ σ) (by rw[ag.k0];exact hk0)
         (by rw[ag.hs _ (by simp)];exact oo _ _ (by omega)) (by omega) (by rw[ag.k0];omega) (WT hsrc σ' (tQ ag hy) fun l2 hl2=>ag.hs l2 (by simp[hl2])) (by simpa using p1)
        rw[hd];exact key
   ·cases h
  ·cases h
 ·cases h
theorem Um{Te:TypeId}{ob:Ob}{vs:List AV}(h:aqP P Te ob=some vs):Ii P Te ob vs:=by
 cases ob with
 |row T es=>
  obtain⟨h1,h2⟩:=aO (show (bif kJ P T Te then some (es.map (.dat Te))else none)=some vs from h);cases h2;exact .inl ⟨T,es,rfl,(fK h1).1,rfl⟩
 |rowA T us=>
  obtain⟨h1,h2⟩:=aO (show (bif kJ P T Te then some us else none)=some vs from h);cases h2;exact .inr ⟨T,rfl,(fK h1).1⟩
 |_=>cases h
theorem agU{xs:Array Operand}{Ts:Array TypeId}{T':TypeId}(ho:o.op= .call ⟨.builtin .append,xs,Ts⟩)(hxs:xs.toList=[x,y])(hTs:Ts.toList=[T,T'])(h:JG P n o σ T T' (opd P E.dt σ T x) (opd P E.dt σ T' y) k=some r):OpS P n o σ k r:=by
 unfold JG at h;split at h
 ·rename_i l l2 e1 e2;cases hb:(anA (lk σ.hs l2)||anA (lk σ.hs l))with
  |false=>
   rw[hb,cond_false]at h;exact Zo ho hxs hTs (by rw[e1,e2];exact h)
  |true=>
   rw[hb,cond_true]at h;have hxs':=two hxs;have hTs':=two hTs;subst hxs' hTs';have hx:x∈o.op.operands.toList:=by rw[ho];simp[Op.operands,Call.operands]
   have hy:y∈o.op.operands.toList:=by rw[ho];simp[Op.operands,Call.operands]
   unfold Ui at h;split at h
   ·    rename_i Te z hTe hz;rw[hTe]at hz;have hh_:=aO h;clear h;obtain⟨hc,h⟩:=hh_;have e:=beq_eq (bg hc);subst e;split at h
        ·rename_i es ds h1 h2;have hh_:=aO h;clear h;obtain⟨hl,h⟩:=hh_;have hh_:=oP h;clear h;obtain⟨hk0,h⟩:=hh_;obtain⟨d,hd,hn,hk⟩:=nI h;refine⟨_,hk,fun σ' ag=>?_⟩;have key:=ab8 (σ:=σ') (l:=l) (l2:=l2) (l':=σ.hs.length) ho hd hn (dJ hTe) (nU hz) (CY (bg (aQ hc))) (aN (aQ (aQ hc))) (dh ag hx e1) (ag.hs l (by simp)) (Um h1) (by rw[ag.hs _ (by simp)];exact oQ σ) (by rw[ag.k0];exact hk0) (dh ag hy e2) (ag.hs l2 (by simp)) (Um h2) (aN hl);rw[hd];exact key
        ·cases h
   ·cases h
 ·exact Zo ho hxs hTs h
theorem aeE{D:List TypeId}{Te:TypeId}{τ:St}:∀{xs:List Operand},(∀z∈xs,Ev P τ z (opd P D σ Te z))->(xs.all fun z=>szB P Te (opd P D σ Te z))=true->EvLA P τ Te xs (xs.map (opd P D σ Te))
 | [],_,_=> .nil
 |z::xs,hev,h=>by simp only[List.all_cons,aK]at h;obtain⟨q1,q2,_,_,q5⟩:=lS h.1;exact .cons (hev z (by simp)) q1 q2 q5 (aeE (fun u hu=>hev u (by simp[hu])) h.2)
theorem agV{len:Nat}{parts:Array (Nat×Operand)}(ho:o.op= .buildSlice T len parts)(h:JJ P E n o σ T len parts.toList k=some r):OpS P n o σ k r:=by
 unfold JJ at h;cases hb:E.nest o with
 |false=>rw[hb,cond_false]at h;exact WS ho h
 |true=>
  rw[hb,cond_true]at h;unfold Uj at h;split at h
  ·rename_i Te hTe;split at h
   ·    rename_i z hz;have hh_:=aO h;clear h;obtain⟨hc0,h⟩:=hh_;have hc:=aQ hc0;have hh_:=oP h;clear h;obtain⟨hk0,h⟩:=hh_;obtain⟨d,hd,hn,hk⟩:=nI h;refine⟨_,hk,fun σ' ag=>?_⟩;have hmem:∀z∈parts.toList.map (·.2),z∈o.op.operands.toList:=by intro z hz;rw[ho];simpa [Op.operands]using hz
        have hlen:len=(parts.toList.map (·.2)).length:=by rw[List.length_map];exact beq_eq (bg (aQ hc))
        have hpos:parts.toList.map (·.2)≠[]:=by intro e;rw[e]at hlen;exact CY (bg (aQ (aQ hc))) hlen
        have key:=ab7 (σ:=σ') (l:=σ.hs.length) ho hd hn (dJ hTe) (by rw[ag.hs _ (by simp)];exact oQ σ) (by rw[ag.k0];exact hk0) (nU hz) (CY (bg (aQ (aQ (aQ hc))))) (Em (bg hc)) hlen hpos
         (aN (aQ (aQ (aQ (aQ hc))))) (aeE (D:=E.dt) (σ:=σ) (fun z hz=>tQ ag (hmem z hz)) (bg hc0))
        rw[hd];exact key
   ·cases h
  ·cases h
theorem anL{A:Type}{b:Bool}{u v:Option A}{q:A}(h:(bif b then u else v)=some q):(b=true∧u=some q)∨(b=false∧v=some q):=by
 cases b;·exact .inr ⟨rfl,h⟩
 ·exact .inl ⟨rfl,h⟩
theorem agW{xs:Array Operand}{Ts:Array TypeId}{T':TypeId}(ho:o.op= .call ⟨.builtin .append,xs,Ts⟩)(hxs:xs.toList=[x,y])(hTs:Ts.toList=[T,T'])(h:JH P n o σ T T' (opd P E.dt σ T x) (opd P E.dt σ T' y) k=some r):OpS P n o σ k r:=by
 have hxs':=two hxs;have hTs':=two hTs;subst hxs' hTs';have hx:x∈o.op.operands.toList:=by rw[ho];simp[Op.operands,Call.operands]
 have hy:y∈o.op.operands.toList:=by rw[ho];simp[Op.operands,Call.operands]
 unfold JH at h;split at h
 ·rename_i Te hTe;obtain⟨hc,h⟩:=aO h;have hu8:=bg hc;have hS:=vF (aQ hc);unfold u8B at hu8;have he:=rQ (bg hu8);have hinf:=aQ hu8;split at hinf
  ·rename_i i hi;have h1:=beq_eq (bg hinf);have h2:=beq_eq (bg (aQ hinf));have h3:=aQ (aQ hinf);split at h3
   ·    rename_i m hm;have hm0:m=0:=of_decide_eq_true h3;subst hm0;split at h
        ·rename_i T2 s e2;obtain⟨d1,e3,u2,rfl⟩:=qQ e2;split at h
         ·rename_i l e1;split at h
          ·rename_i T5 es hl;obtain⟨hc5,h⟩:=aO h;obtain⟨hk0,h⟩:=oP h;obtain⟨rs,hrs,h⟩:=au.1 h;obtain⟨p1,p2⟩:=Yx hrs;subst p2;obtain⟨d,hd,hn,hk⟩:=nI h;refine⟨_,hk,fun σ' ag=>?_⟩;have key:=RN (σ:=σ') (l:=l) (l':=σ.hs.length) ho hd hn (dJ hTe) (fK hc5).1 hS u2 he hi hm h1 h2 (dh ag hx e1) (by rw[ag.hs l (by simp)];exact hl) (by rw[ag.hs _ (by simp)];exact oQ σ) (by rw[ag.k0];exact hk0) ((dh ag hy e3).cstr u2) p1;rw[hd];exact key
          ·cases h
         ·cases h
        ·cases h
   ·cases h3
  ·cases hinf
 ·cases h
theorem anM{S1 S2 Te:TypeId}(ho:o.op= .convert S1 S2 x)(hTe:slE P S1=some Te)(h:WB P n o σ Te S2 (opd P E.dt σ S1 x) k=some r):OpS P n o σ k r:=by
 have hx:x∈o.op.operands.toList:=by rw[ho];simp[Op.operands]
 unfold WB at h;obtain⟨hc,h⟩:=aO h;have he:=rQ (bg hc);have hc1:=beq_eq (bg (aQ hc));have hS:=vF (aQ (aQ hc));split at h
 ·rename_i rd ds hsrc;obtain⟨s,hs,h⟩:=au.1 h;unfold auw at hs;obtain⟨hb,hs⟩:=aO hs;have hlen:=aN hb;cases hs;obtain⟨d,hd,hn,hk⟩:=nI h;refine⟨_,hk,fun σ' ag=>?_⟩;have key:=RO (σ:=σ') ho hd hn (dJ hTe) hS he hc1 (WT hsrc σ' (tQ ag hx) fun l2 hl2=>ag.hs l2 (by simp[hl2])) hlen;rw[hd];exact key
 ·cases h
end
def CallOK{R:Type}(P:Program)(call:FuncId->List AV->List Ob->(Res->Option R)->Option R):Prop:=∀f args objs K r,call f args objs K=some r->∃q:Res,K q=some r∧FX P f args objs q.1 q.2∧HasBody P f
theorem xg{ρ:Nat->Option Nat}{c:Nat}:∀{os:List Ob}{src:List Nat}{nm:Nat}{hs:List Ob},c∉src->¬(nm<=c∧c<nm+(os.length-src.length))->lk (wrO hs (yx ρ nm src os)) c=lk hs c
 | [],src,nm,hs,_,_=>by cases src<;>rfl
 |o::os,[],nm,hs,h1,h2=>by simp only[yx,wrO];rw[xg (by simp) (by simp only[List.length_cons,List.length_nil]at h2 ⊢;omega),bE];intro e;subst e;simp only[List.length_cons,List.length_nil]at h2;omega
 |o::os,l::src,nm,hs,h1,h2=>by simp only[List.mem_cons,not_or]at h1;simp only[yx,wrO];rw[xg h1.2 (by simp only[List.length_cons]at h2 ⊢;omega),bE _ _ _ _ h1.1]
theorem Un{ρ:Nat->Option Nat}:∀{os:List Ob}{src:List Nat}{nm:Nat}{hs:List Ob}{i l:Nat},src.Nodup->(∀l∈src,¬(nm<=l∧l<nm+(os.length-src.length)))->src.length<=os.length->src[i]? =some l->lk (wrO hs (yx ρ nm src os)) l=(lk os i).ren ρ
 | [],src,nm,hs,i,l,_,_,h3,h4=>by have:src=[]:=List.eq_nil_of_length_eq_zero (by simpa using h3);subst this;simp at h4
 |o::os,[],nm,hs,i,l,_,_,_,h4=>by simp at h4
 | o::os,m::src,nm,hs,i,l,h1,h2,h3,h4=>by
   obtain⟨hm,hnd⟩:=List.nodup_cons.1 h1;simp only[yx,wrO];cases i with
   |zero=>
    simp only[bf,aG]at h4;subst h4;rw[xg hm (by have:=h2 m (by simp);simp only[List.length_cons]at this ⊢;omega),dU];rfl
   |succ i=>
    simp only[aZ]at h4;rw[Un hnd (fun l hl=>by have:=h2 l (by simp[hl]);simp only[List.length_cons]at this ⊢;omega) (by simpa using h3) h4];rfl
theorem JQ{ρ:Nat->Option Nat}:∀{os:List Ob}{src:List Nat}{nm:Nat}{hs:List Ob}{j:Nat},(∀l∈src,¬(nm<=l∧l<nm+(os.length-src.length)))->src.length<=j->j<os.length->lk (wrO hs (yx ρ nm src os)) (nm+(j-src.length))=(lk os j).ren ρ
 | [],src,nm,hs,j,_,_,h3=>by simp at h3
 |o::os,[],nm,hs,j,h1,h2,h3=>by
  simp only[yx,wrO];cases j with
  |zero=>
   simp only[List.length_nil,Nat.sub_zero,Nat.add_zero];rw[xg (by simp) (by simp only[List.length_nil];omega),dU];rfl
  |succ j=>
   have:=JQ (ρ:=ρ) (os:=os) (src:=[]) (nm:=nm+1) (hs:=bI hs nm (o.ren ρ)) (j:=j) (by simp) (by simp) (by simpa using h3);simp only[List.length_nil,Nat.sub_zero]at this ⊢
   rw[show nm+(j+1)=nm+1+j by omega,this];rfl
 |o::os,m::src,nm,hs,j,h1,h2,h3=>by
  simp only[yx,wrO];cases j with
  |zero=>simp at h2
  |succ j=>
   have:=JQ (ρ:=ρ) (os:=os) (src:=src) (nm:=nm) (hs:=bI hs m (o.ren ρ)) (j:=j) (fun l hl=>by have:=h1 l (by simp[hl]);simp only[List.length_cons]at this ⊢;omega) (by simpa using h2) (by simpa using h3);simp only[List.length_cons]at this ⊢
   rw[show nm+(j+1-(src.length+1))=nm+(j-src.length) by omega,this];rfl
theorem aje{src:List Nat}{nm:Nat}{hs os:List Ob}(h1:src.Nodup)(h2:∀l∈src,¬(nm<=l∧l<nm+(os.length-src.length)))(h3:src.length<=os.length):BackH src nm hs os (wrO hs (yx (bkN src nm) nm src os)):=
 ⟨fun i l h=>Un h1 h2 h3 h,fun j h4 h5=>JQ h2 h4 h5,fun c h4 h5=>xg h4 h5⟩
theorem Ie{hs:List Ob}:∀{src:List Nat},allNames hs src=true->∀l∈src,lk hs l≠ .free
 | [],_,l,hl=>by simp at hl
 |m::r,h,l,hl=>by
  unfold allNames at h;rcases List.mem_cons.1 hl with e|hl
  ·subst e;intro e;have:=bg h;rw[e]at this;cases this
  ·exact Ie (aQ h) l hl
theorem Ox{l:Nat}:∀{m k:Nat},k<=l->l<k+m->l∈upto k m
 |0,k,h1,h2=>by omega
 |m+1,k,h1,h2=>by
  simp only[upto,List.mem_cons];by_cases h:l=k;·exact .inl h
  ·exact .inr (Ox (by omega) (by omega))
theorem abV:∀(Ts:List TypeId)(hs:List Ob)(k:Nat),wrO hs (aiJ k Ts)=BS hs k Ts
 | [],_,_=>rfl
 |T::r,hs,k=>by simp only[aiJ,wrO,BS];exact abV r _ _
theorem Uo:∀{Ts:List TypeId}{hs:List Ob}{k l:Nat},k+Ts.length<=l->lk hs l= .free->lk (BS hs k Ts) l= .free
 | [],_,_,_,_,h=>h
 |T::r,hs,k,l,h1,h2=>by simp only[List.length_cons]at h1;simp only[BS];refine Uo (by omega) ?_;rw[bE _ _ _ _ (by omega)];exact h2
theorem Zp(ρ:Nat->Option Nat)(hs:List Ob):∀src:List Nat,(vI ρ hs src).length=src.length
 | []=>rfl
 |_::r=>by simp[vI,Zp ρ hs r]
section
variable{P:Program}{n:Nat}{o:Oper}{σ τ:St}{x y:Operand}{v:AV}{T:TypeId}{R:Type}{E:Env}{k:Dl->Option R}{r:R}{call:FuncId->List AV->List Ob->(Res->Option R)->Option R}
theorem agX(o:Ob):(Fb P o).isOwn=o.isOwn:=by
 unfold Fb;split
 ·split;·cases Nat.beq _ _<;>rfl
  ·rfl
 ·rfl
theorem agY{ok:Nat->Prop}{w:World}{β:Nat->Option Value}{v:Option Value}{o:Ob}(h:ObOK P ok w β o v):ObOK P ok w β (Fb P o) v:=by
 unfold Fb;split
 ·rename_i T c;split
  ·rename_i T' d hp;cases hb:Nat.beq T' T;·exact h
   ·    have e:=beq_eq hb;subst e;obtain⟨b,cs,h1,h2,h3,h4⟩:=h;have hrd:=kF (hs:=[]) (fun l T es hl=>by cases l<;>cases hl) h4 hp;exact⟨b,cs,h1,h2,h3,.dat (by rw[Hq hrd];exact hrd)⟩
  ·exact h
 ·exact h
theorem LJ(os:List Ob)(l:Nat):lk (os.map (Fb P)) l=Fb P (lk os l):=by
 induction os generalizing l with
 |nil=>rfl
 |cons o r ih=>cases l with
  |zero=>rfl
  |succ l=>exact ih l
theorem ajf{f:FuncId}{args:List AV}{b:Bool}{os hs':List Ob}{res:AV}(h:FX P f args (apB P b os) res hs'):FX P f args os res hs':=by
 cases b;·exact h
 replace h:FX P f args (os.map (Fb P)) res hs':=h;intro ok w β zs h1 h2 h3 h4 h5;have hown:∀l b,owns (os.map (Fb P)) β l b↔owns os β l b:=fun l b=>by simp only[owns,LJ,agX]
 have hX:XO (os.map (Fb P)) β=XO os β:=by funext b;apply propext;exact⟨fun⟨l,hl⟩=>⟨l,(hown l b).1 hl⟩,fun⟨l,hl⟩=>⟨l,(hown l b).2 hl⟩⟩
 have hc:=h ok w β zs (fun b hb=>by rw[hX];exact h1 b hb) (fun l=>by rw[LJ];exact agY (h2 l)) (fun l l' b q1 q2=>h3 l l' b ((hown _ _).1 q1) ((hown _ _).1 q2)) h4 h5;refine hc.mono ?_;rintro e w' ⟨v,β',rfl,hf,hr⟩;obtain⟨f1,f2,f3,f4,f5⟩:=hf;rw[hX,List.length_map]at f2 hr;rw[hX]at f1;exact⟨v,β',rfl,⟨f1,f2,f3,fun l b q=>by have:=f4 l b q;rwa [hX]at this,fun l hl=>f5 l (by rw[List.length_map];exact hl)⟩,hr⟩
theorem WU{src:List Nat}{hs:List Ob}:∀(ws:List (Nat×Ob))(hs':List Ob),(ws.map (·.1)).Nodup->(∀l∈src,l∈ws.map (·.1)->lk hs' l=lk hs l)->∀l,lk (wrO hs' (aiN hs src ws)) l=lk (wrO hs' ws) l
 | [],_,_,_,_=>rfl
 |(k,o)::r,hs',hn,ha,l=>by
  simp only[List.map_cons,List.nodup_cons]at hn;unfold aiN;cases hb:qb k src&&aiM o (lk hs k)with
  |true=>
   simp only[cond_true];rw[WU r hs' hn.2 (fun l h1 h2=>ha l h1 (bA _ h2)) l];have e1:lk hs' k=o:=by rw[ha k (Aa.1 (bg hb)) (by simp),aey (aQ hb)]
   simp only[wrO];refine(qR (ls:=[l]) (fun c hc=>?_) l (by simp)).symm;rw[kD];split;·next h=>rw[h,e1]
   ·rfl
  |false=>
   simp only[cond_false,wrO];refine WU r _ hn.2 (fun c h1 h2=>?_) l;rw[bE _ _ _ _ (fun e=>hn.1 (by rw[←e];exact h2))];exact ha c h1 (bA _ h2)
theorem ajg{b:Bool}{src:List Nat}{hs hs':List Ob}{ws:List (Nat×Ob)}(ha:∀l∈src,lk hs' l=lk hs l)(l:Nat):lk (wrO hs' (keepW b hs src ws)) l=lk (wrO hs' ws) l:=by
 unfold keepW;cases hb:b&&nodupB (ws.map (·.1))with
 |true=>exact WU ws hs' (qU (aQ hb)) (fun c hc _=>ha c hc) l
 |false=>rfl
theorem aeF(hcall:CallOK P call){f:FuncId}{as:List AV}{hs1:List Ob}{rd0:List Nat}{wr0:List (Nat×Ob)}{nm:Nat}{src:List Nat}
  (h1:hs1=wrO σ.hs wr0)(hnm:σ.hs.length<=nm)(hfree:∀l,nm<=l->lk hs1 l= .free)
  (hpre:∀σ' rd,Agr o σ σ' (rd0++rd)->(∀l,σ.hs.length<=l->l<nm->l∈rd)->∀(K:OkX)(w0:World)(a:Act)(w:World),Rel P K w0 n σ' a w->σ.k0<=σ.hs.length->∃(β1:Nat->Option Value)(zs:List Value),RelB P K w0 n ⟨σ'.ts,wrO σ'.hs wr0,σ'.k0⟩ a w β1∧(HasBody P f->(execOp a.eval o).run P w= .ok (.enter f zs.toArray) w)∧RVsX P (okOf K w0 w (wrO σ'.hs wr0) β1) w β1 as zs)
  (h:wZ P E call n o σ f as hs1 rd0 wr0 nm src k=some r):OpS P n o σ k r:=by
 unfold wZ at h;have hh_:=aO h;clear h;obtain⟨hc,h⟩:=hh_;have hh_:=hcall _ _ _ _ _ h;clear h;obtain⟨q,h,hfx,hbody⟩:=hh_;replace hfx:=ajf hfx;have hh_:=aO h;clear h;obtain⟨hc2,h⟩:=hh_;have hnd:=qU (bg hc);have hsf:=Ie (bg (aQ hc));have hk0:σ.k0<=σ.hs.length:=aN (aQ (aQ hc));have hlen:=aN (bg hc2);have hsrcnew:∀l∈src,¬(nm<=l∧l<nm+(q.2.length-src.length)):=fun l hl hc=>hsf l hl (hfree l hc.1);refine⟨_,h,fun σ' ag=>?_⟩;have hagr1:∀l∈src++upto σ.hs.length ((nm-σ.hs.length)+(q.2.length-src.length)),lk (wrO σ'.hs wr0) l=lk hs1 l:=by intro l hl;rw[h1];exact qR (ls:=src++upto σ.hs.length ((nm-σ.hs.length)+(q.2.length-src.length))) (fun l hl=>ag.hs l (List.mem_append_right _ hl)) l hl
 have hobj:∀i l,src[i]? =some l->lk (vI (ix src) hs1 src) i=(lk (wrO σ'.hs wr0) l).ren (ix src):=by intro i l hi;rw[Nr,hi];simp only[W9];rw[hagr1 l (bB _ (aW hi))]
 have hfr:∀j,j<q.2.length-src.length->lk (wrO σ'.hs wr0) (nm+j)= .free:=by intro j hj;rw[hagr1 _ (List.mem_append_right _ (Ox (by omega) (by omega)))];exact hfree _ (by omega)
 have hsf':∀l∈src,lk (wrO σ'.hs wr0) l≠ .free:=fun l hl=>by rw[hagr1 l (bB _ hl)];exact hsf l hl
 intro K w0 a w rr Kt Q hK;obtain⟨β1,zs,r1,hrun,ha⟩:=hpre σ' _ ag (fun l h3 h4=>List.mem_append_right _ (Ox h3 (by omega))) K w0 a w rr hk0;have hback:=aje (hs:=wrO σ'.hs wr0) hnd hsrcnew hlen;refine ajv (σ:=St.mk σ'.ts (wrO σ'.hs wr0) σ'.k0) (as:=as) (res:=q.1) (hrun hbody) hnd (Zp _ _ _) hobj hfx hfr (by show σ'.k0<=nm;rw[ag.k0];omega) hsf' hback r1 ha Kt Q fun z w' β'' h3 h4=>hK _ _ ?_;have hI:Imp P n (σ'.app o.dst ⟨o.dst.map fun _=>q.1.ren (bkN src nm),rd0++(src++upto σ.hs.length ((nm-σ.hs.length)+(q.2.length-src.length))),wr0++yx (bkN src nm) nm src q.2⟩) (σ'.app o.dst ⟨o.dst.map fun _=>q.1.ren (bkN src nm),rd0++(src++upto σ.hs.length ((nm-σ.hs.length)+(q.2.length-src.length))),wr0++keepW (E.rdo f) hs1 src (yx (bkN src nm) nm src q.2)⟩):=by refine Rel.congr (fun k=> .inr rfl) (fun l=>?_) rfl;unfold St.app;simp only;rw[tO,tO];exact ajg (fun c hc=>hagr1 c (bB _ hc)) l
 refine hI _ _ _ _ ?_;unfold St.app;simp only;rw[tO];cases hd:o.dst with
 |none=>exact⟨β'',h3⟩
 |some d=>
  have hn:d<n:=by have:=aQ hc2;unfold agL at this;rw[hd]at this;exact aN this
  exact Rel.put h3 hn h4
theorem abW(hcall:CallOK P call){g:Operand}{xs:Array Operand}{Ts:Array TypeId}{f:FuncId}{as caps:List AV}{hs1:List Ob}{rd0:List Nat}{wr0:List (Nat×Ob)}{nm:Nat}{src:List Nat}(ho:o.op= .call ⟨.value g,xs,Ts⟩)(hcap:∀v∈caps,v.isAgg P=false∧∀us,v≠ .tup us)
  (h1:hs1=wrO σ.hs wr0)(hnm:σ.hs.length<=nm)(hfree:∀l,nm<=l->lk hs1 l= .free)
  (hpre:∀σ' rd,Agr o σ σ' (rd0++rd)->(∀l,σ.hs.length<=l->l<nm->l∈rd)->∀(K:OkX)(w0:World)(a:Act)(w:World),Rel P K w0 n σ' a w->σ.k0<=σ.hs.length->∃β1,RelB P K w0 n ⟨σ'.ts,wrO σ'.hs wr0,σ'.k0⟩ a w β1∧RV P (okOf K w0 w (wrO σ'.hs wr0) β1) w β1 (.fn f caps) (a.eval g)∧RVsX P (okOf K w0 w (wrO σ'.hs wr0) β1) w β1 as (xs.toList.map a.eval))
  (h:wZ P E call n o σ f (as++caps) hs1 rd0 wr0 nm src k=some r):OpS P n o σ k r:=by
 refine aeF hcall h1 hnm hfree (fun σ' rd ag hin K w0 a w rr hk0=>?_) h;obtain⟨β1,r1,hg,ha⟩:=hpre σ' rd ag hin K w0 a w rr hk0;obtain⟨cv,ecv,hcv⟩:=ZF hg hcap;exact⟨β1,_,r1,fun hb=>Uy (xs:=xs.toList) (by rw[ho]) hb a w ecv,ha.app hcv⟩
theorem RVsX.map_pk{b:Bool}{ok:Nat->Prop}{w:World}{β:Nat->Option Value}{hs:List Ob}{vs:List AV}{zs:List Value}(hf:Fa P ok w β hs)(hfa:∀l T es,lk hs l= .frz T es->eu P T=false)(h:RVsX P ok w β vs zs):RVsX P ok w β (vs.map (pkA P b hs)) zs:=by
 induction h with
 |nil=>exact .nil
 |cons h _ ih=>
  refine .cons ?_ ih;unfold pkA;cases (b&&Wz _)with
  |true=>exact h
  |false=>
  simp only[cond_false];split;·rename_i T d hp;exact h.pk hf hfa hp
  ·exact h
theorem RVsX.n2r{ok:Nat->Prop}{w:World}{β:Nat->Option Value}{vs:List AV}{zs:List Value}(h:RVsX P ok w β vs zs):∀k,J2 β k (AV.n2rL P vs k).2.length->RVsX P ok w β (AV.n2rL P vs k).1 zs:=by
 induction h with
 |nil=>intro k _;exact .nil
 |cons h _ ih=>
  intro k hb;simp only[AV.n2rL,aB]at hb ⊢
  exact .cons (h.n2r k hb.left) (ih _ hb.right)
theorem RV.dn{ok:Nat->Prop}{w:World}{β:Nat->Option Value}{v:AV}{z:Value}(h:RV P ok w β v z):RV P ok w β (dn1 P v) z:=by
 unfold dn1;split
 ·split
  ·rename_i hu;have h1:=h.2 rfl;cases h1 with
   |nils=>exact(RV.dat_one (dR hu rfl)).2 (RD.nil hu)
  ·exact h
 ·exact h
theorem RVsX.dn{ok:Nat->Prop}{w:World}{β:Nat->Option Value}{vs:List AV}{zs:List Value}(ps:List Nat)(h:RVsX P ok w β vs zs):∀k,RVsX P ok w β (dnL P ps k vs) zs:=by
 induction h with
 |nil=>intro k;exact .nil
 |cons h _ ih=>
  intro k;refine .cons ?_ (ih _);cases qb k ps;·exact h
  ·exact h.dn
theorem RVsX.mono{ok ok':Nat->Prop}{w w':World}{β β':Nat->Option Value}{vs:List AV}{zs:List Value}(h:RVsX P ok w β vs zs)(hk:∀b,ok b->ok' b∧w'.heap[b]? =w.heap[b]?)(hβ:Ext β β'):RVsX P ok' w' β' vs zs:=by
 induction h with
 |nil=>exact .nil
 |cons h _ ih=>exact .cons (h.mono hk hβ) ih
theorem WW(P:Program):∀(vs:List AV)(k:Nat),∀T∈(AV.n2rL P vs k).2,∃E,P.underlying T=some (.slice E)
 | [],k,T,h=>by simp[AV.n2rL]at h
 |v::vs,k,T,h=>by
  simp only[AV.n2rL,List.mem_append]at h;rcases h with h|h;·exact ab0 P v k T h
  ·exact WW P vs _ T h
theorem WX{b:Bool}{hs hs':List Ob}:∀{vs:List AV},(∀l∈AV.rwsL vs,lk hs' l=lk hs l)->vs.map (pkA P b hs')=vs.map (pkA P b hs)
 | [],_=>rfl
 |v::r,h=>by simp only[List.map_cons];rw[WX (vs:=r) fun l hl=>h l (by simp[AV.rwsL,hl])];congr 1;unfold pkA;rw[Bl (hs:=hs) (hs':=hs') v fun l hl=>h l (by simp[AV.rwsL,hl])]
theorem Oy:∀(Ts:List TypeId)(σ:St)(K:OkX)(w0 w:World)(a:Act)(β:Nat->Option Value)(k:Nat),RelB P K w0 n σ a w β->(∀T∈Ts,∃E,P.underlying T=some (.slice E))->(∀i,k<=i->i<k+Ts.length->lk σ.hs i= .free)->σ.k0<=k->
  ∃β',RelB P K w0 n ⟨σ.ts,BS σ.hs k Ts,σ.k0⟩ a w β'∧Ext β β'∧J2 β' k Ts.length∧∀b,okOf K w0 w σ.hs β b->okOf K w0 w (BS σ.hs k Ts) β' b
 | [],σ,K,w0,w,a,β,k,r,_,_,_=>⟨β,r,Ext.refl _,fun i h1 h2=>by simp at h2;omega,fun b hb=>hb⟩
 |T::Ts,σ,K,w0,w,a,β,k,r,hT,hf,hk=>by
  obtain⟨E,hu⟩:=hT T (by simp);have hfk:=hf k (ak _) (by simp);have r1:=r.nilrow hu hfk hk;obtain⟨β',r2,e2,n2,o2⟩:=Oy Ts (σ.lay k (.row T [])) K w0 w a _ (k+1) r1 (fun T' h=>hT T' (by simp[h])) (fun i hi hi2=>by show lk (bI σ.hs k _) i= .free;rw[bE _ _ _ _ (by omega)];exact hf i (by omega) (by simp;omega)) (by show σ.k0<=k+1;omega)
  have hb:β k=none:=by have:=r.hs k;rw[hfk]at this;exact this
  have e1:Ext β (upB β k (some (.slice none 0 0))):=fun i z hz=>by
   by_cases hik:i=k;·subst hik;rw[hb]at hz;cases hz
   ·rw[eH _ _ _ _ hik];exact hz
  refine⟨β',r2,e1.trans e2,fun i h1 h2=>?_,fun b hb2=>o2 b ⟨hb2.1,hb2.2.1,fun j hj=>?_⟩⟩
  ·by_cases hik:i=k;·subst hik;exact e2 _ _ (dI _ _ _)
   ·exact n2 i (by omega) (by simp at h2 ⊢;omega)
  ·obtain⟨q1,z',q2,q3⟩:=hj;by_cases hjk:j=k
   ·    subst hjk;rw[dI]at q2;cases q2;simp[Blk,blk]at q3
   ·    rw[eH _ _ _ _ hjk]at q2;have q1':(lk (bI σ.hs k (.row T [])) j).isOwn=true:=q1;rw[bE _ _ _ _ hjk]at q1';exact hb2.2.2 j ⟨q1',z',q2,q3⟩
theorem aeG{ok ok':Nat->Prop}{w w':World}{β β':Nat->Option Value}{v:AV}{z:Value}(hs:scV P v=true)(h:RV1 P ok w β v z):RV1 P ok' w' β' v z:=by
 cases v with
 |dat   T d=>
  simp only[scV,scT]at hs;have hag:eu P T=false:=by unfold eu;split at hs<;>simp_all
  have h1:=h.2 hag;refine⟨fun e=>(by rw[show AV.isAgg P (.dat T d)=false from hag]at e;cases e),fun _=>?_⟩;cases h1 with
  |dat h1=>
   refine .dat ?_;split at hs
   ·    rename_i hu;obtain⟨e1,e2,e3,e4⟩:=h1.int_inv hu;rw[e1,e2];exact .int hu e3 e4
   ·    rename_i hu;obtain⟨e1,e2⟩:=h1.bool_inv hu;rw[e1,e2];exact .bool hu
   ·    rename_i hu;obtain⟨e1,e2,e3⟩:=h1.str_inv hu;rw[e1,e2];exact .str hu e3
   ·cases hs
 |_=>cases hs
theorem anN{ok ok':Nat->Prop}{w w':World}{β β':Nat->Option Value}{v:AV}{z:Value}(hs:scR P v=true)(h:RV P ok w β v z):RV P ok' w' β' v z:=by
 cases v with
 |tup vs=>
  obtain⟨arr,e,hl,h⟩:=h;exact⟨arr,e,hl,fun i av hv=>aeG (List.all_eq_true.1 hs av (aW hv)) (h i av hv)⟩
 |dat T d=>exact aeG hs h
 |_=>cases hs
theorem ajh(hcall:CallOK P call){g:Operand}{xs:Array Operand}{Ts:Array TypeId}{f:FuncId}{as caps:List AV}{rd:List Nat}(ho:o.op= .call ⟨.value g,xs,Ts⟩)(hcap:∀v∈caps,v.isAgg P=false∧∀us,v≠ .tup us)
  (hpre:∀σ',Agr o σ σ' rd->∀(K:OkX)(w0:World)(a:Act)(w:World),Rel P K w0 n σ' a w->∃hs1 β1,RelB P K w0 n ⟨σ'.ts,hs1,σ'.k0⟩ a w β1∧RV P (fun b=>b<w.heap.size) w β1 (.fn f caps) (a.eval g)∧RVsX P (fun b=>b<w.heap.size) w β1 as (xs.toList.map a.eval))
  (h:(call f (AV.renL (ix []) (as++caps)) [] fun q=>bif (scR P q.1&&(isNil q.2&&agL n o))then k ⟨o.dst.map fun _=>q.1,rd,[]⟩else none)=some r):OpS P n o σ k r:=by
 have hh_:=hcall _ _ _ _ _ h;clear h;obtain⟨q,h,hfx,hbody⟩:=hh_;have hh_:=aO h;clear h;obtain⟨hc2,h⟩:=hh_;have hsc:=bg hc2;have hnil:q.2=[]:=by
  have:=bg (aQ hc2);cases hq:q.2 with
  |nil=>rfl
  |cons a b=>rw[hq]at this;cases this
 refine⟨_,h,fun σ' ag=>?_⟩;intro K w0 a w rr Kt Q hK;obtain⟨hs1,β1,r1,hg,ha⟩:=hpre σ' ag K w0 a w rr;obtain⟨β,rb⟩:=rr;obtain⟨cv,ecv,hcv⟩:=ZF hg hcap;have hargs:=(ha.app hcv).ren (Bp [] β1);have no:∀(β:Nat->Option Value) l b,¬owns [] β l b:=fun β l b h=>by obtain⟨h1,_⟩:=h;cases l<;>cases h1
 have hc:=hfx (fun b=>b<w.heap.size) w (vJ [] β1) _ (fun b hb=>⟨hb,fun⟨l,hx⟩=>no _ _ _ hx⟩) (fun i=>by cases i<;>rfl) (fun l l' b h1=>(no _ _ _ h1).elim) hargs (r1.tab.mono fun b hb=>⟨hb.1,rfl⟩);rw[hnil]at hc;have ho':o.op= .call {callee:= .value g,args:=xs.toList.toArray,argTypes:=Ts}:=by rw[ho]
 unfold Oper.wp;rw[Uy ho' hbody a w ecv,Oper.upon_enter];refine hc.mono ?_;rintro e w' ⟨z,β',rfl,fin,hz⟩;have hbel:Below w.heap.size w w':=⟨fin.below.os,fin.below.tape,fin.below.output,fin.below.size,fun b hb=>fin.below.block b hb (fun⟨l,hx⟩=>no _ _ _ hx)⟩;obtain⟨rg,_⟩:=rb.grow hbel;refine hK _ _ ?_;unfold St.app;simp only;cases hd:o.dst with
 |none=>exact⟨β,rg⟩
 |some d=>
  have hn:d<n:=by have:=aQ (aQ hc2);unfold agL at this;rw[hd]at this;exact aN this
  exact Rel.put rg hn (anN hsc hz)
theorem aus{A:Type}{b:Bool}{x y z:A}(h:(bif b then x else y)=z):(b=true∧x=z)∨(b=false∧y=z):=by cases b<;>simp_all
theorem Zq:∀us vs:List AV,AV.nmsL (us++vs)=AV.nmsL us++AV.nmsL vs
 | [],vs=>by simp[AV.nmsL]
 |u::us,vs=>by simp[AV.nmsL,Zq us vs]
theorem Oz{v:AV}{l:Nat}:∀{vs:List AV},v∈vs->l∈v.rws->l∈AV.rwsL vs
 |u::us,h,hl=>by
  simp only[AV.rwsL,List.mem_append];rcases List.mem_cons.1 h with e|h;·subst e;exact .inl hl
  ·exact .inr (Oz h hl)
theorem Zr{hs:List Ob}{ts:List AV}{k0:Nat}{K:OkX}{w0 w:World}{a:Act}{β:Nat->Option Value}{cs:List Value}(rb:RelB P K w0 n ⟨ts,hs,k0⟩ a w β)(h:RA P (fun b=>b<w.heap.size) w β v cs):RA P (fun b=>b<w.heap.size) w β (uf P hs v) cs:=by
 unfold uf;split
 ·rename_i l;split
  ·rename_i T c hl;split
   ·    rename_i T' d hp;cases hb:Nat.beq T' T;·exact h
        ·have e:=beq_eq hb;subst e;simp only[cond_true];have ho:=rb.hs l;rw[show lk (St.mk ts hs k0).hs l=lk hs l from rfl,hl]at ho;obtain⟨b,cc,e1,e2,e3,e4⟩:=ho;cases h with
         | @ptr _ b' off path hβ=>
           rw[e1]at hβ;simp only[aG,Value.pointer.injEq,Addr.mk.injEq,and_true]at hβ;subst hβ;have hrd:=kF rb.frzOK e4 hp;have hlt:b<w.heap.size:=(Array.getElem?_eq_some_iff.1 e2).1;refine .rptr (ad:=⟨b,0,none⟩) (cs:=cc.toList) hlt (by rw[Array.length_toList];exact e3) (fun j u hu=>?_) (hrd.mono fun b hb=>⟨hb.1,rfl⟩);rw[qY,Nat.zero_add];simp only[World.cell?,e2];rw[Array.getElem?_toList]at hu;simpa using hu
   ·exact h
  ·exact h
 ·exact h
theorem LK{hs:List Ob}(hv:v.isAgg P=false∧∀us,v≠ .tup us):(uf P hs v).isAgg P=false∧∀us,uf P hs v≠ .tup us:=by
 unfold uf;split
 ·split
  ·split
   ·    cases Nat.beq _ _;·exact hv
        ·exact⟨rfl,fun us h=>by cases h⟩
   ·exact hv
  ·exact hv
 ·exact hv
theorem Zt{hs:List Ob}{ts:List AV}{k0:Nat}{K:OkX}{w0 w:World}{a:Act}{β:Nat->Option Value}{z:Value}(rb:RelB P K w0 n ⟨ts,hs,k0⟩ a w β)(h:RV P (fun b=>b<w.heap.size) w β v z):RV P (fun b=>b<w.heap.size) w β (CQ P hs v) z:=by
 cases v with
 |fn f caps=>
  have h1:=h.2 rfl;refine⟨fun hi=>(by cases hi),fun _=>?_⟩;show RA P _ w β (.fn f (caps.map (uf P hs))) [z];cases h1 with
  | @fn _ _ cv hl hh=>
    refine .fn (by rw[List.length_map];exact hl) fun i av hav=>?_;rw[List.getElem?_map]at hav;obtain⟨u,hu,rfl⟩:=bn.1 hav;exact Zr rb (hh i u hu)
 |ptr l path off=>
  have h1:=h.2 rfl;have h2:=Zr rb h1;have hp:(AV.ptr l path off).isAgg P=false∧∀us,AV.ptr l path off≠ .tup us:=⟨rfl,fun us h=>by cases h⟩;have h3:=LK (hs:=hs) hp;show RV P _ w β (uf P hs (.ptr l path off)) z;have h4:RV1 P (fun b=>b<w.heap.size) w β (uf P hs (.ptr l path off)) z:=⟨fun hi=>(by rw[h3.1]at hi;cases hi),fun _=>h2⟩;exact h4.toRV h3.2
 |_=>exact h
theorem zZ{T:TypeId}{c:AV}:∀{ls:List Nat}{hs:List Ob}{l:Nat},lk (wrO hs (Am.frzW hs ls)) l= .box T c->lk hs l= .box T c
 | [],hs,l,h=>h
 |k::r,hs,l,h=>by
  unfold Am.frzW at h;split at h
  ·rename_i T' es hl;have h2:=zZ (ls:=r) (hs:=bI hs k (.frz T' es)) h;rw[kD]at h2;split at h2;·cases h2
   ·exact h2
  ·rename_i T' T2 c' kk es hl;split at h
   ·    rename_i ls hls;have h2:=zZ (ls:=r) (hs:=bI (bI (bI hs k (.row T' (frzD c' es ls))) kk .gone) k (.frz T' (frzD c' es ls))) h;simp only[kD]at h2;split at h2;·cases h2
        ·split at h2;·cases h2
         ·first|exact h2|(split at h2;·cases h2;·exact h2)
   ·exact zZ h
  ·exact zZ h
theorem LM{hs:List Ob}{q:Nat}:∀{ls:List Nat},q∈ls->q∈Nn hs ls
 |k::r,h=>by
  simp only[Nn,List.mem_append];rcases List.mem_cons.1 h with rfl|h;·left;split<;>simp
  ·exact .inr (LM h)
theorem C9{hs:List Ob}{T:TypeId}{c:AV}{l q:Nat}:∀{ls:List Nat},l∈ls->lk hs l= .box T c->q∈c.rws->q∈dN hs ls
 |k::r,h,hl,hq=>by
  simp only[dN,List.mem_append];rcases List.mem_cons.1 h with rfl|h;·left;rw[hl];exact LM hq
  ·exact .inr (C9 h hl hq)
theorem Uq{hs hs':List Ob}(h1:∀l∈v.nms,lk hs' l=lk hs l)(h2:∀l∈v.nms,∀T c,lk hs l= .box T c->∀q∈c.rws,lk hs' q=lk hs q):uf P hs' v=uf P hs v:=by
 cases v with
 |ptr   l path off=>
  have hl:l∈(AV.ptr l path off).nms:=by simp[AV.nms]
  cases path with
  |nil    =>
   cases off with
   |    zero=>
        simp only[uf,h1 l hl];cases hk:lk hs l with
        | box T c=>
          simp only;rw[Bl (P:=P) (hs:=hs) (hs':=hs') c (h2 l hl T c hk)]
        |_=>rfl
   |succ _=>rfl
  |cons _ _=>rfl
 |_=>rfl
theorem zN{hs hs':List Ob}:∀{vs:List AV},(∀l∈AV.nmsL vs,lk hs' l=lk hs l)->(∀l∈AV.nmsL vs,∀T c,lk hs l= .box T c->∀q∈c.rws,lk hs' q=lk hs q)->vs.map (uf P hs')=vs.map (uf P hs)
 | [],_,_=>rfl
 |v::r,h1,h2=>by simp only[List.map_cons];rw[Uq (fun l hl=>h1 l (by simp[AV.nmsL,hl])) (fun l hl=>h2 l (by simp[AV.nmsL,hl])),zN (vs:=r) (fun l hl=>h1 l (by simp[AV.nmsL,hl])) (fun l hl=>h2 l (by simp[AV.nmsL,hl]))]
theorem agZ{hs hs':List Ob}(h1:∀l∈v.nms,lk hs' l=lk hs l)(h2:∀l∈v.nms,∀T c,lk hs l= .box T c->∀q∈c.rws,lk hs' q=lk hs q):CQ P hs' v=CQ P hs v:=by
 cases v with
 |fn f caps=>
  show AV.fn f (caps.map (uf P hs'))=AV.fn f (caps.map (uf P hs));rw[zN h1 h2]
 |ptr l path off=>exact Uq h1 h2
 |_=>rfl
theorem aeH{b:Bool}{hs:List Ob}:∀l∈(pkA P b hs v).nms,l∈v.nms:=by
 intro l hl;unfold pkA at hl;cases hb:(b&&Wz v)
 ·rw[hb,cond_false]at hl;split at hl;·simp[AV.nms]at hl
  ·exact hl
 ·rw[hb,cond_true]at hl;exact hl
theorem OA{b:Bool}{hs hs':List Ob}(h:∀l∈v.rws,lk hs' l=lk hs l):pkA P b hs' v=pkA P b hs v:=by unfold pkA;rw[Bl (hs:=hs) (hs':=hs') v h]
theorem Fh{b:Bool}{hs hs':List Ob}:∀{vs:List AV},(∀l∈AV.rwsL vs,lk hs' l=lk hs l)->(∀l∈AV.nmsL vs,lk hs' l=lk hs l)->(∀l∈AV.nmsL vs,∀T c,lk hs l= .box T c->∀q∈c.rws,lk hs' q=lk hs q)->(vs.map fun v=>CQ P hs' (pkA P b hs' v))=vs.map fun v=>CQ P hs (pkA P b hs v)
 | [],_,_,_=>rfl
 |v::r,h0,h1,h2=>by
  simp only[List.map_cons];rw[OA (hs:=hs) fun l hl=>h0 l (by simp[AV.rwsL,hl]),agZ (fun l hl=>h1 l (by simp[AV.nmsL,aeH l hl])) (fun l hl=>h2 l (by simp[AV.nmsL,aeH l hl])),
   Fh (vs:=r) (fun l hl=>h0 l (by simp[AV.rwsL,hl])) (fun l hl=>h1 l (by simp[AV.nmsL,hl])) (fun l hl=>h2 l (by simp[AV.nmsL,hl]))]
theorem RVsX.map_lend{hs:List Ob}{ts:List AV}{k0:Nat}{K:OkX}{w0 w:World}{a:Act}{β:Nat->Option Value}{vs:List AV}{zs:List Value}(rb:RelB P K w0 n ⟨ts,hs,k0⟩ a w β)(h:RVsX P (fun b=>b<w.heap.size) w β vs zs):RVsX P (fun b=>b<w.heap.size) w β (vs.map (CQ P hs)) zs:=by
 induction h with
 |nil=>exact .nil
 |cons h _ ih=>exact .cons (Zt rb h) ih
theorem JR{pty:TypeId->Option TypeId}{hs:List Ob}{l:Nat}{ob:Ob}(h:agK P pty hs l=some ob):∃T c PT d,lk hs l= .box T c∧P.underlying PT=some (.pointer T)∧pk P hs c=some (T,d)∧ob= .frz PT [d]:=by
 unfold agK at h;split at h
 ·rename_i T c hl;split at h
  ·rename_i PT hPT;split at h
   ·    rename_i T2 hT2;split at h
        ·rename_i T' d hp;obtain⟨hc,h⟩:=aO h;cases h;have e1:=beq_eq (bg hc);have e2:=beq_eq (aQ hc);subst e1 e2;exact⟨_,c,PT,d,hl,Dg hT2,hp,rfl⟩
        ·cases h
   ·cases h
  ·cases h
 ·cases h
theorem RelB.fzbW{K:OkX}{w0 w:World}{a:Act}{β:Nat->Option Value}{pty:TypeId->Option TypeId}:∀{bs:List Nat}{σ:St},RelB P K w0 n σ a w β->RelB P K w0 n ⟨σ.ts,wrO σ.hs (Am.fzbW P pty σ.hs bs),σ.k0⟩ a w β
 | [],σ,r=>r
 |l::bs,σ,r=>by
  unfold Am.fzbW;split
  ·rename_i ob h1;obtain⟨T,c,PT,d,h2,h3,h4,rfl⟩:=JR h1;exact RelB.fzbW (bs:=bs) (σ:=⟨σ.ts,bI σ.hs l (.frz PT [d]),σ.k0⟩) (r.frzBox h2 h4 h3)
  ·exact RelB.fzbW (bs:=bs) r
theorem aji{pty:TypeId->Option TypeId}{hs hs':List Ob}{l:Nat}(h1:lk hs' l=lk hs l)(h2:∀T c,lk hs l= .box T c->∀q∈c.rws,lk hs' q=lk hs q):agK P pty hs' l=agK P pty hs l:=by
 unfold agK;rw[h1];split
 ·rename_i T c hl;rw[Bl (P:=P) (hs:=hs) (hs':=hs') c (h2 T c hl)]
 ·rfl
theorem OB{pty:TypeId->Option TypeId}:∀{bs:List Nat}{hs hs':List Ob},(∀l∈bs,lk hs' l=lk hs l)->(∀l∈bs,∀T c,lk hs l= .box T c->∀q∈c.rws,lk hs' q=lk hs q)->fzbW P pty hs' bs=fzbW P pty hs bs
 | [],_,_,_,_=>rfl
 |l::bs,hs,hs',h1,h2=>by
  unfold fzbW;rw[aji (h1 l (by simp)) (h2 l (by simp))];split
  ·rename_i ob hob;obtain⟨T0,c0,PT,d,_,_,_,rfl⟩:=JR hob;rw[OB (bs:=bs) (hs:=bI hs l (.frz PT [d])) (hs':=bI hs' l (.frz PT [d])) (fun k hk=>?_) (fun k hk T c hkc q hq=>?_)]
   ·    rw[kD,kD];split;·rfl
        ·exact h1 k (by simp[hk])
   ·    rw[kD]at hkc;rw[kD,kD];split;·rfl
        ·split at hkc;·cases hkc
         ·exact h2 k (by simp[hk]) T c hkc q hq
  ·exact OB (fun k hk=>h1 k (by simp[hk])) (fun k hk=>h2 k (by simp[hk]))
theorem JU{pty:TypeId->Option TypeId}:∀{bs:List Nat}{hs:List Ob}{l:Nat},lk hs l= .free->lk (wrO hs (fzbW P pty hs bs)) l= .free
 | [],hs,l,h=>h
 |k::r,hs,l,h=>by
  unfold fzbW;split
  ·rename_i ob hob;obtain⟨T0,c0,PT,d,h2,_,_,rfl⟩:=JR hob;simp only[wrO];refine JU ?_;rw[kD];split;·rename_i e;subst e;rw[h]at h2;cases h2
   ·exact h
  ·exact JU h
theorem aq2{ok:Nat->Prop}{w:World}{β:Nat->Option Value}{hs:List Ob}{z:Value}(hf:Fa P ok w β hs)(hfa:∀l T es,lk hs l= .frz T es->eu P T=false)(h:RV P ok w β v z):RV P ok w β (pkZ hs v) z:=by
 unfold pkZ;split
 ·rename_i l;split
  ·rename_i T es hl;have h1:=h.2 rfl;obtain⟨z',e,hr⟩:=hf l T es hl;cases h1 with
   |    ptr hβ=>
        rw[hβ]at e;cases e;exact(RV.dat_one (hfa l T es hl)).2 hr
  ·exact h
 ·exact h
theorem RVsX.map_pkZ{b:Bool}{ok:Nat->Prop}{w:World}{β:Nat->Option Value}{hs:List Ob}{vs:List AV}{zs:List Value}(hf:Fa P ok w β hs)(hfa:∀l T es,lk hs l= .frz T es->eu P T=false)(h:RVsX P ok w β vs zs):RVsX P ok w β (vs.map fun v=>pkZ hs (pkA P b hs v)) zs:=by
 have h2:=h.map_pk (b:=b) hf hfa;generalize hus:vs.map (pkA P b hs)=us at h2;have e:(vs.map fun v=>pkZ hs (pkA P b hs v))=us.map (pkZ hs):=by rw[←hus,List.map_map];rfl
 rw[e];clear e hus h;induction h2 with
 |nil=>exact .nil
 |cons h _ ih=>exact .cons (aq2 hf hfa h) ih
theorem Ur{l:Nat}:∀{vs:List AV},.ptr l [] 0∈vs->l∈iZ vs
 |u::us,h=>by
  simp only[iZ,List.mem_append];rcases List.mem_cons.1 h with e|h;·subst e;left;simp
  ·exact .inr (Ur h)
theorem Zu{b:Bool}{hs hs':List Ob}{vs:List AV}(h0:∀l∈AV.rwsL vs,lk hs' l=lk hs l)(h1:∀l∈iZ vs,lk hs' l=lk hs l):(vs.map fun v=>pkZ hs' (pkA P b hs' v))=vs.map fun v=>pkZ hs (pkA P b hs v):=by
 refine List.map_congr_left fun v hv=>?_;rw[OA (hs:=hs) (hs':=hs') fun l hl=>h0 l (Oz hv hl)];cases v with
 |ptr l p q=>
  have e:pkA P b hs (.ptr l p q)= .ptr l p q:=by unfold pkA;cases b<;>rfl
  rw[e];match p,q with
  | [],0=>simp only[pkZ];rw[h1 l (Ur hv)]
  | [],_+1=>rfl
  |_::_,_=>rfl
 |_=>
  unfold pkA;cases b<;>simp only[Wz,Bool.and_false,Bool.and_true,cond_false,cond_true]<;>first|rfl|(split<;>rfl)
theorem s_call(hcall:CallOK P call){g:Operand}{xs:Array Operand}{Ts:Array TypeId}(ho:o.op= .call ⟨.value g,xs,Ts⟩)(h:abH P E call n o σ g xs.toList Ts.toList k=some r):OpS P n o σ k r:=by
 have hg:g∈o.op.operands.toList:=by rw[ho];simp[Op.operands,Call.operands]
 have hxs:∀z∈xs.toList,z∈o.op.operands.toList:=by intro z hz;rw[ho];simp[Op.operands,Call.operands];right;simpa using hz
 unfold abH at h;split at h
 ·rename_i f caps e1;have hh_:=aO h;clear h;obtain⟨hc,h⟩:=hh_;have hlen:=beq_eq (bg hc);have hcap:=FV (aQ hc);cases how:E.own f with
  |true=>
   rw[how]at h;simp only[cond_true]at h;refine abW hcall ho (fun v hv=>⟨(hcap v hv).1,(hcap v hv).2.2⟩) (abV _ _ _).symm (by omega) (fun l hl=>Uo hl (oo _ _ (by omega))) ?_ h;intro σ' rd ag hin K w0 a w rr hk0;obtain⟨β,rb⟩:=rr;obtain⟨β1,r1,ex1,nb1,ok1⟩:=Oy (P:=P) (n:=n) _ σ' K w0 w a β σ.hs.length rb (WW P (dnL P (E.nd f) 0 (dw P E.dt σ Ts.toList xs.toList)) σ.hs.length) (fun i h3 h4=>by rw[ag.hs i (hin i h3 h4)];exact oo _ _ h3) (by rw[ag.k0];exact hk0)
   rw[←abV]at r1 ok1;have hk:∀b,okOf K w0 w σ'.hs β b->okOf K w0 w (wrO σ'.hs (aiJ σ.hs.length (AV.n2rL P (dnL P (E.nd f) 0 (dw P E.dt σ Ts.toList xs.toList)) σ.hs.length).2)) β1 b∧w.heap[b]? =w.heap[b]? :=fun b hb=>⟨ok1 b hb,rfl⟩;have hopds:=(Ic (P:=P) (σ:=σ') (D:=E.dt) hlen).rvs rb;rw[CZ ag.ts hxs]at hopds;exact⟨β1,r1,(dh ag hg e1 _ _ _ _ _ _ rb).mono hk ex1,((hopds.mono hk ex1).dn _ 0).n2r _ nb1⟩
  |false    =>
   rw[how]at h;simp only[cond_false]at h
   have    main:∀(L:List Nat),(∀l∈AV.rwsL (dw P E.dt σ Ts.toList xs.toList),l∈L)->∀σ' rd,Agr o σ σ' (L++rd)->∀(K:OkX)(w0:World)(a:Act)(w:World),Rel P K w0 n σ' a w->∃β1,RelB P K w0 n ⟨σ'.ts,wrO σ'.hs (frzW σ.hs L),σ'.k0⟩ a w β1∧RV P (okOf K w0 w (wrO σ'.hs (frzW σ.hs L)) β1) w β1 (.fn f caps) (a.eval g)∧RVsX P (okOf K w0 w (wrO σ'.hs (frzW σ.hs L)) β1) w β1 ((dw P E.dt σ Ts.toList xs.toList).map (pkA P (E.raw f) (wrO σ.hs (frzW σ.hs L)))) (xs.toList.map a.eval):=by
    intro L hL σ' rd ag K w0 a w rr;obtain⟨β,rb⟩:=rr;have hagr:∀l∈L,lk σ'.hs l=lk σ.hs l:=fun l hl=>ag.hs l (bB _ hl);have hfw:=lT hagr;obtain⟨β1,r1⟩:=Imp.frzW (P:=P) (n:=n) (σ:=σ') L K w0 a w ⟨β,rb⟩;rw[hfw]at r1;refine⟨β1,r1,?_,?_⟩
    ·    have:=Ow (P:=P) (T:=0) (D:=E.dt) (hs:=wrO σ'.hs (frzW σ.hs L)) (k0:=σ'.k0) ag hg;rw[e1]at this;exact this _ _ _ _ _ _ r1
    ·    have hopds:=(Ic (P:=P) (σ:=St.mk σ'.ts (wrO σ'.hs (frzW σ.hs L)) σ'.k0) (D:=E.dt) hlen).rvs r1;rw[CZ (σ:=σ) (σ':=St.mk σ'.ts (wrO σ'.hs (frzW σ.hs L)) σ'.k0) (xs:=o.op.operands.toList) (fun t ht=>ag.ts t ht) hxs]at hopds;have:=hopds.map_pk (b:=E.raw f) r1.frzOK r1.frzAgg;have e3:(dw P E.dt σ Ts.toList xs.toList).map (pkA P (E.raw f) (wrO σ'.hs (frzW σ.hs L)))=(dw P E.dt σ Ts.toList xs.toList).map (pkA P (E.raw f) (wrO σ.hs (frzW σ.hs L))):=
           WX fun l hl=>qR hagr l (hL l hl)
         rw[e3]at this;exact this
   cases hfz:E.fzc f with
   |    true=>
        rw[hfz]at h;simp only[cond_true]at h;rw[←tO]at h;refine abW hcall ho (fun v hv=>⟨(hcap v hv).1,(hcap v hv).2.2⟩) rfl (ak _) (fun l hl=>(by rw[tO];exact JU (sM (oo _ _ hl)))) (fun σ' rd ag _ K w0 a w rr _=>?_) h;obtain⟨β,rb⟩:=rr;have hagL:∀l∈AV.rwsL (dw P E.dt σ Ts.toList xs.toList)++dN σ.hs (iZ (dw P E.dt σ Ts.toList xs.toList)),lk σ'.hs l=lk σ.hs l:=fun l hl=>ag.hs l (bB _ (bB _ hl));have hagB:∀l∈iZ (dw P E.dt σ Ts.toList xs.toList),lk σ'.hs l=lk σ.hs l:=fun l hl=>ag.hs l (bB _ (List.mem_append_right _ hl));have hfw:=lT hagL;obtain⟨β1,r1⟩:=Imp.frzW (P:=P) (n:=n) (σ:=σ') (AV.rwsL (dw P E.dt σ Ts.toList xs.toList)++dN σ.hs (iZ (dw P E.dt σ Ts.toList xs.toList))) K w0 a w ⟨β,rb⟩;rw[hfw]at r1;have hwB:∀l,l∈AV.rwsL (dw P E.dt σ Ts.toList xs.toList)++dN σ.hs (iZ (dw P E.dt σ Ts.toList xs.toList))++iZ (dw P E.dt σ Ts.toList xs.toList)->lk (wrO σ'.hs (frzW σ.hs (AV.rwsL (dw P E.dt σ Ts.toList xs.toList)++dN σ.hs (iZ (dw P E.dt σ Ts.toList xs.toList))))) l=lk (wrO σ.hs (frzW σ.hs (AV.rwsL (dw P E.dt σ Ts.toList xs.toList)++dN σ.hs (iZ (dw P E.dt σ Ts.toList xs.toList))))) l:=fun l hl=>
          qR (ls:=AV.rwsL (dw P E.dt σ Ts.toList xs.toList)++dN σ.hs (iZ (dw P E.dt σ Ts.toList xs.toList))++iZ (dw P E.dt σ Ts.toList xs.toList)) (fun k hk=>ag.hs k (bB _ hk)) l hl
        have hfb:=OB (P:=P) (pty:=E.pty) (bs:=iZ (dw P E.dt σ Ts.toList xs.toList)) (fun l hl=>hwB l (List.mem_append_right _ hl)) (fun l hl T c hk q hq=>hwB q (bB _ (List.mem_append_right _ (C9 hl (zZ hk) hq))));have r2:=RelB.fzbW (pty:=E.pty) (bs:=iZ (dw P E.dt σ Ts.toList xs.toList)) r1;simp only at r2;rw[hfb,←tO]at r2;refine⟨β1,r2,?_,?_⟩
        · have:=Ow (P:=P) (T:=0) (D:=E.dt) (hs:=wrO σ'.hs (frzW σ.hs (AV.rwsL (dw P E.dt σ Ts.toList xs.toList)++dN σ.hs (iZ (dw P E.dt σ Ts.toList xs.toList)))++fzbW P E.pty (wrO σ.hs (frzW σ.hs (AV.rwsL (dw P E.dt σ Ts.toList xs.toList)++dN σ.hs (iZ (dw P E.dt σ Ts.toList xs.toList))))) (iZ (dw P E.dt σ Ts.toList xs.toList)))) (k0:=σ'.k0) ag hg;rw[e1]at this;exact this _ _ _ _ _ _ r2
        · have hopds:=(Ic (P:=P) (σ:=St.mk σ'.ts (wrO σ'.hs (frzW σ.hs (AV.rwsL (dw P E.dt σ Ts.toList xs.toList)++dN σ.hs (iZ (dw P E.dt σ Ts.toList xs.toList)))++fzbW P E.pty (wrO σ.hs (frzW σ.hs (AV.rwsL (dw P E.dt σ Ts.toList xs.toList)++dN σ.hs (iZ (dw P E.dt σ Ts.toList xs.toList))))) (iZ (dw P E.dt σ Ts.toList xs.toList)))) σ'.k0) (D:=E.dt) hlen).rvs r2;rw[CZ (σ:=σ) (σ':=St.mk σ'.ts (wrO σ'.hs (frzW σ.hs (AV.rwsL (dw P E.dt σ Ts.toList xs.toList)++dN σ.hs (iZ (dw P E.dt σ Ts.toList xs.toList)))++fzbW P E.pty (wrO σ.hs (frzW σ.hs (AV.rwsL (dw P E.dt σ Ts.toList xs.toList)++dN σ.hs (iZ (dw P E.dt σ Ts.toList xs.toList))))) (iZ (dw P E.dt σ Ts.toList xs.toList)))) σ'.k0) (xs:=o.op.operands.toList) (fun t ht=>ag.ts t ht) hxs]at hopds;have h5:=hopds.map_pkZ (b:=E.raw f) r2.frzOK r2.frzAgg;have hw2:∀l,l∈AV.rwsL (dw P E.dt σ Ts.toList xs.toList)++dN σ.hs (iZ (dw P E.dt σ Ts.toList xs.toList))++iZ (dw P E.dt σ Ts.toList xs.toList)->lk (wrO σ'.hs (frzW σ.hs (AV.rwsL (dw P E.dt σ Ts.toList xs.toList)++dN σ.hs (iZ (dw P E.dt σ Ts.toList xs.toList)))++fzbW P E.pty (wrO σ.hs (frzW σ.hs (AV.rwsL (dw P E.dt σ Ts.toList xs.toList)++dN σ.hs (iZ (dw P E.dt σ Ts.toList xs.toList))))) (iZ (dw P E.dt σ Ts.toList xs.toList)))) l=lk (wrO σ.hs (frzW σ.hs (AV.rwsL (dw P E.dt σ Ts.toList xs.toList)++dN σ.hs (iZ (dw P E.dt σ Ts.toList xs.toList)))++fzbW P E.pty (wrO σ.hs (frzW σ.hs (AV.rwsL (dw P E.dt σ Ts.toList xs.toList)++dN σ.hs (iZ (dw P E.dt σ Ts.toList xs.toList))))) (iZ (dw P E.dt σ Ts.toList xs.toList)))) l:=fun l hl=>
            qR (ls:=AV.rwsL (dw P E.dt σ Ts.toList xs.toList)++dN σ.hs (iZ (dw P E.dt σ Ts.toList xs.toList))++iZ (dw P E.dt σ Ts.toList xs.toList)) (fun k hk=>ag.hs k (bB _ hk)) l hl
          rw[Zu (P:=P) (b:=E.raw f) (fun l hl=>hw2 l (bB _ (bB _ hl))) (fun l hl=>hw2 l (List.mem_append_right _ hl))]at h5;exact h5
   |false=>
   rw[hfz]at h;simp only[cond_false]at h;cases hl:(aiO P E f&&isNil (AV.nmsL ((dw P E.dt σ Ts.toList xs.toList).map (pkA P (E.raw f) (wrO σ.hs (frzW σ.hs (AV.rwsL (dw P E.dt σ Ts.toList xs.toList)))))++caps)))with
   |    true=>
        rw[hl]at h;simp only[cond_true]at h;refine ajh hcall ho (fun v hv=>⟨(hcap v hv).1,(hcap v hv).2.2⟩) (fun σ' ag K w0 a w rr=>?_) h;obtain⟨β1,h1,h2,h3⟩:=main _ (fun l hl=>hl) σ' [] (by rw[List.append_nil];exact ag) K w0 a w rr;exact⟨_,β1,h1,h2.mono (fun b hb=>⟨hb.1,rfl⟩) (Ext.refl _),h3.mono (fun b hb=>⟨hb.1,rfl⟩) (Ext.refl _)⟩
   |    false=>
        rw[hl]at h;simp only[cond_false]at h;have hh_:=aus h;clear h;rcases hh_ with⟨_,h⟩| ⟨_,h⟩
        · refine ajh hcall ho (fun v hv=>?_) (fun σ' ag K w0 a w rr=>?_) h
          · obtain⟨u,hu,rfl⟩:=List.mem_map.1 hv;exact LK ⟨(hcap u hu).1,(hcap u hu).2.2⟩
          · obtain⟨β1,h1,h2,h3⟩:=main _ (fun l hl=>bB _ hl) σ' _ ag K w0 a w rr;have hagr:∀l∈(AV.rwsL (dw P E.dt σ Ts.toList xs.toList)++dN σ.hs (AV.nmsL (dw P E.dt σ Ts.toList xs.toList++caps)))++AV.nmsL (dw P E.dt σ Ts.toList xs.toList++caps),lk (wrO σ'.hs (frzW σ.hs (AV.rwsL (dw P E.dt σ Ts.toList xs.toList)++dN σ.hs (AV.nmsL (dw P E.dt σ Ts.toList xs.toList++caps))))) l=lk (wrO σ.hs (frzW σ.hs (AV.rwsL (dw P E.dt σ Ts.toList xs.toList)++dN σ.hs (AV.nmsL (dw P E.dt σ Ts.toList xs.toList++caps))))) l:=fun l hl=>qR ag.hs l hl;have hbox:∀l∈AV.nmsL (dw P E.dt σ Ts.toList xs.toList++caps),∀T c,lk (wrO σ.hs (frzW σ.hs (AV.rwsL (dw P E.dt σ Ts.toList xs.toList)++dN σ.hs (AV.nmsL (dw P E.dt σ Ts.toList xs.toList++caps))))) l= .box T c->∀q∈c.rws,lk (wrO σ'.hs (frzW σ.hs (AV.rwsL (dw P E.dt σ Ts.toList xs.toList)++dN σ.hs (AV.nmsL (dw P E.dt σ Ts.toList xs.toList++caps))))) q=lk (wrO σ.hs (frzW σ.hs (AV.rwsL (dw P E.dt σ Ts.toList xs.toList)++dN σ.hs (AV.nmsL (dw P E.dt σ Ts.toList xs.toList++caps))))) q:=
             fun l hl T c hk q hq=>hagr q (bB _ (List.mem_append_right _ (C9 hl (zZ hk) hq)))
            have hn:∀(us vs:List AV)(l:Nat),l∈AV.nmsL us∨l∈AV.nmsL vs->l∈AV.nmsL (us++vs):=fun us vs l h=>by rw[Zq];exact List.mem_append.2 h
            have ea:=Fh (P:=P) (b:=E.raw f) (vs:=dw P E.dt σ Ts.toList xs.toList) (fun l hl=>hagr l (bB _ (bB _ hl))) (fun l hl=>hagr l (List.mem_append_right _ (hn _ _ l (.inl hl)))) (fun l hl=>hbox l (hn _ _ l (.inl hl)));have ec:=zN (P:=P) (vs:=caps) (fun l hl=>hagr l (List.mem_append_right _ (hn _ _ l (.inr hl)))) (fun l hl=>hbox l (hn _ _ l (.inr hl)));refine⟨_,β1,h1,?_,?_⟩
            ·rw[←ec];exact Zt h1 (h2.mono (fun b hb=>⟨hb.1,rfl⟩) (Ext.refl _))
            ·rw[←ea];have h4:=(h3.mono (ok':=fun b=>b<w.heap.size) (w':=w) (fun b hb=>⟨hb.1,rfl⟩) (Ext.refl _)).map_lend h1;rw[List.map_map]at h4;have e5:((dw P E.dt σ Ts.toList xs.toList).map fun v=>CQ P (wrO σ'.hs (frzW σ.hs (AV.rwsL (dw P E.dt σ Ts.toList xs.toList)++dN σ.hs (AV.nmsL (dw P E.dt σ Ts.toList xs.toList++caps))))) (pkA P (E.raw f) (wrO σ'.hs (frzW σ.hs (AV.rwsL (dw P E.dt σ Ts.toList xs.toList)++dN σ.hs (AV.nmsL (dw P E.dt σ Ts.toList xs.toList++caps))))) v))=(dw P E.dt σ Ts.toList xs.toList).map (CQ P (wrO σ'.hs (frzW σ.hs (AV.rwsL (dw P E.dt σ Ts.toList xs.toList)++dN σ.hs (AV.nmsL (dw P E.dt σ Ts.toList xs.toList++caps)))))∘pkA P (E.raw f) (wrO σ.hs (frzW σ.hs (AV.rwsL (dw P E.dt σ Ts.toList xs.toList)++dN σ.hs (AV.nmsL (dw P E.dt σ Ts.toList xs.toList++caps)))))):=by refine List.map_congr_left fun v hv=>?_;have:pkA P (E.raw f) (wrO σ'.hs (frzW σ.hs (AV.rwsL (dw P E.dt σ Ts.toList xs.toList)++dN σ.hs (AV.nmsL (dw P E.dt σ Ts.toList xs.toList++caps))))) v=pkA P (E.raw f) (wrO σ.hs (frzW σ.hs (AV.rwsL (dw P E.dt σ Ts.toList xs.toList)++dN σ.hs (AV.nmsL (dw P E.dt σ Ts.toList xs.toList++caps))))) v:=OA fun l hl=>hagr l (bB _ (bB _ (Oz hv hl)));show CQ P _ (pkA P _ _ v)=CQ P _ (pkA P _ _ v);rw[this]
             rw[e5];exact h4
        ·exact abW hcall ho (fun v hv=>⟨(hcap v hv).1,(hcap v hv).2.2⟩) rfl (ak _) (fun l hl=>sM (oo _ _ hl)) (fun σ' rd ag _ K w0 a w rr _=>main _ (fun l hl=>hl) σ' rd ag K w0 a w rr) h
 ·cases h
theorem LP(h:abI v=true):v≠ .dead∧∀us,v≠ .tup us:=by
 constructor;·intro e;subst e;cases h
 ·intro us e;subst e;cases h
theorem anO(ho:o.op= .makeInterface T x)(h:WA P E n o σ T x k=some r):OpS P n o σ k r:=by unfold WA at h;have hh_:=aO h;clear h;obtain⟨hc,h⟩:=hh_;obtain⟨h1,h2⟩:=LP (aQ hc);exact cB h fun σ' ag d hd hn=>aju ho hd hn (bg hc) (tQ ag (by rw[ho];simp[Op.operands])) h1 h2
theorem aut(hcall:CallOK P call){g:Operand}{name:String}{xs:Array Operand}{Ts:Array TypeId}(ho:o.op= .call ⟨.invoke g name,xs,Ts⟩)(h:aiP P E call n o σ g name xs.toList Ts.toList k=some r):OpS P n o σ k r:=by
 have hg:g∈o.op.operands.toList:=by rw[ho];simp[Op.operands,Call.operands]
 have hxs:∀z∈xs.toList,z∈o.op.operands.toList:=by intro z hz;rw[ho];simp[Op.operands,Call.operands];right;simpa using hz
 unfold aiP at h;split at h
 ·rename_i Tv v e1;split at h
  ·rename_i f hm;have hh_:=aO h;clear h;obtain⟨hc,h⟩:=hh_;have hlen:=beq_eq (bg hc);obtain⟨hv1,hv2⟩:=LP (bg (aQ hc));refine aeF hcall rfl (ak _) (fun l hl=>sM (oo _ _ hl)) (fun σ' rd ag _ K w0 a w rr _=>?_) h;obtain⟨β,rb⟩:=rr;have hagr:∀l∈AV.rwsL (v::dw P E.dt σ Ts.toList xs.toList),lk σ'.hs l=lk σ.hs l:=fun l hl=>ag.hs l (bB _ hl);have hfw:=lT hagr;obtain⟨β1,r1⟩:=Imp.frzW (P:=P) (n:=n) (σ:=σ') (AV.rwsL (v::dw P E.dt σ Ts.toList xs.toList)) K w0 a w ⟨β,rb⟩;rw[hfw]at r1;have hrecv:=Ow (P:=P) (T:=0) (D:=E.dt) (hs:=wrO σ'.hs (frzW σ.hs (AV.rwsL (v::dw P E.dt σ Ts.toList xs.toList)))) (k0:=σ'.k0) ag hg;rw[e1]at hrecv;obtain⟨z,ez,hz⟩:=anT (hrecv _ _ _ _ _ _ r1) hv2;have hopds:=(Ic (P:=P) (σ:=St.mk σ'.ts (wrO σ'.hs (frzW σ.hs (AV.rwsL (v::dw P E.dt σ Ts.toList xs.toList)))) σ'.k0) (D:=E.dt) hlen).rvs r1;rw[CZ (σ:=σ) (σ':=St.mk σ'.ts (wrO σ'.hs (frzW σ.hs (AV.rwsL (v::dw P E.dt σ Ts.toList xs.toList)))) σ'.k0) (xs:=o.op.operands.toList) (fun t ht=>ag.ts t ht) hxs]at hopds;have hall:=(RVsX.cons hz hopds).map_pk (b:=E.raw f) r1.frzOK r1.frzAgg;have e3:(v::dw P E.dt σ Ts.toList xs.toList).map (pkA P (E.raw f) (wrO σ'.hs (frzW σ.hs (AV.rwsL (v::dw P E.dt σ Ts.toList xs.toList)))))=(v::dw P E.dt σ Ts.toList xs.toList).map (pkA P (E.raw f) (wrO σ.hs (frzW σ.hs (AV.rwsL (v::dw P E.dt σ Ts.toList xs.toList))))):=
        WX fun l hl=>qR hagr l hl
   rw[e3]at hall;exact⟨β1,_,r1,fun hb=>ab2 (xs:=xs.toList) (by rw[ho]) hb hm a w ez,hall⟩
  ·cases h
 ·cases h
theorem pK(hcall:CallOK P call)(h:evO P E call n o σ k=some r):OpS P n o σ k r:=by
 unfold evO at h;split at h;·rename_i ho;exact aqV ho h
 ·rename_i ho;exact ai7 ho h
 ·rename_i ho;exact aqW ho h
 ·rename_i ho;exact anD ho h
 ·rename_i ho;exact auh ho h
 ·rename_i ho;exact ajd ho h
 ·rename_i ho;exact agV ho h
 ·rename_i ho;exact aqX ho h
 ·rename_i ho;exact anG ho h
 ·rename_i ho;exact abQ ho h
 ·rename_i ho;exact aul ho h
 ·rename_i ho;exact aum ho h
 ·rename_i ho;exact aun ho h
 ·rename_i ho;exact anH ho h
 ·rename_i ho;split at h;·rename_i hTe;exact anM ho hTe h
  ·exact agQ ho h
 ·rename_i ho;exact aqZ ho h
 ·rename_i ho;exact anI ho h
 ·rename_i ho;exact Zh ho h
 ·rename_i ho;exact anJ ho h
 ·rename_i ho;exact aur ho h
 ·rename_i ho;exact Zi ho h
 ·rename_i ho;exact ajc ho h
 ·rename_i ho;exact agT ho h
 ·rename_i ho;exact Zk ho h
 ·rename_i ho;exact anK ho h
 ·rename_i ho;exact agR ho h
 ·rename_i ho;exact abR ho h
 ·rename_i ho;exact s_call hcall ho h
 ·rename_i b xs Ts ho;unfold Uk at h;split at h;·rename_i hx hT;exact auo ho hx hT h
  ·rename_i hx hT;rcases anL h with⟨_,h1⟩| ⟨_,h1⟩;·exact agW ho hx hT h1
   ·exact agU ho hx hT h1
  ·rename_i hx hT;exact aup ho hx hT h
  ·rename_i hx hT;exact auq ho hx hT h
  ·cases h
 ·rename_i ho;exact anO ho h
 ·rename_i ho;exact aut hcall ho h
 ·cases h
end
structure StEq (σ σ':St):Prop where
 ts:∀t,tk σ'.ts t=tk σ.ts t
 hs:∀l,lk σ'.hs l=lk σ.hs l
 k0:σ'.k0=σ.k0
structure AgrG (ops:List Oper) (o:Oper) (σ σ':St) (rd:List Nat):Prop where
 ts:∀t∈Oper.reads ops o,tk σ'.ts t=tk σ.ts t
 hs:∀l∈rd,lk σ'.hs l=lk σ.hs l
 k0:σ'.k0=σ.k0
def StepAgr(P:Program)(n:Nat)(ops:List Oper)(o:Oper)(σ:St)(Y:Dl):Prop:=∀σ',AgrG ops o σ σ' Y.rd->StepOK P n ops.toArray o σ' (σ'.app o.dst Y)
inductive Tr (P:Program) (n:Nat) (ops:List Oper):List Oper->St->List (Oper×Dl)->St->Prop where
 |nil {σ:St}:Tr P n ops [] σ [] σ
 |cons {o:Oper} {r:List Oper} {σ τ:St} {Y:Dl} {ds:List (Oper×Dl)} (h:StepAgr P n ops o σ Y) (t:Tr P n ops r (σ.app o.dst Y) ds τ):Tr P n ops (o::r) σ ((o,Y)::ds) τ
 |eq {r:List Oper} {σ σ1 τ:St} {ds:List (Oper×Dl)} (h:StEq σ σ1) (t:Tr P n ops r σ1 ds τ):Tr P n ops r σ ds τ
theorem dG{A:Type}{b:Bool}{x y:Option A}{r:A}(h:(bif b then x else y)=some r):(b=true∧x=some r)∨(b=false∧y=some r):=by
 cases b with
 |true=>exact .inl ⟨rfl,h⟩
 |false=>exact .inr ⟨rfl,h⟩
section
variable{P:Program}{n:Nat}{o:Oper}{σ τ:St}{R:Type}{E:Env}{call:FuncId->List AV->List Ob->(Res->Option R)->Option R}{r:R}{ops:List Oper}
theorem StEq.put{T:TypeId}{b:Bool}{d:Nat}(h:tk σ.ts d= .dat T (.bool b)):StEq σ (σ.put d (.dat T (.bool b))):=
 ⟨fun t=>by
  show tk (zT σ.ts d _) t=_;rw[wU];split;·rename_i e;rw[e,h]
  ·rfl,fun _=>rfl,rfl⟩
theorem StEq.imp(h:StEq σ τ):Imp P n σ τ:=Rel.congr (fun t=> .inr (h.ts t)) h.hs h.k0
theorem ag0{v:AV}{T:TypeId}{b:Bool}(h:ai2 P v=some (some (T,b))):v= .dat T (.bool b)∧P.underlying T=some .bool:=by
 unfold ai2 at h;split at h;·cases h
 ·split at h;·rename_i hu;cases h;exact⟨rfl,hu⟩
  ·cases h
 ·cases h
theorem ag1{v:AV}(h:ai2 P v=some none):v= .tup []:=by
 unfold ai2 at h;split at h;·rfl
 ·split at h<;>cases h
 ·cases h
theorem abX{j d:Nat}(h:gslot ops j=some d):∃oj,ops.toArray[j]? =some oj∧oj.dst=some d:=by
 unfold gslot at h;split at h;·rename_i oj hj;exact⟨oj,by simpa using hj,h⟩
 ·cases h
theorem ag2{t:Nat}(h:t∈tmpsOf o.op.operands.toList):t∈Oper.reads ops o:=by unfold Oper.reads;exact List.mem_append_right _ h
theorem Zv{j d:Nat}{want:Bool}(hg:o.guard=some (j,want))(h:gslot ops j=some d):d∈Oper.reads ops o:=by unfold Oper.reads;refine bB _ ?_;rw[hg];simp[h]
theorem AgrG.toAgr{σ':St}{rd:List Nat}(h:AgrG ops o σ σ' rd):Agr o σ σ' rd:=⟨fun t ht=>h.ts t (ag2 ht),h.hs,h.k0⟩
theorem skip_some{k:Dl->Option R}(h:Zc n o k=some r):∃Y,k Y=some r∧Y.rd=[]∧Y.wr=[]∧((∃d,o.dst=some d∧d<n∧Y.v=some (.tup []))∨(o.dst=none∧Y.v=none)):=by
 unfold Zc at h;split at h
 ·rename_i d hd;obtain⟨h1,h2⟩:=aO h;exact⟨_,h2,rfl,rfl,.inl ⟨d,hd,aN h1,rfl⟩⟩
 ·rename_i hd;exact⟨_,h,rfl,rfl,.inr ⟨hd,rfl⟩⟩
theorem OC{Y:Dl}{d:Nat}{v:AV}(σ':St)(hw:Y.wr=[])(hd:o.dst=some d)(hv:Y.v=some v):σ'.app o.dst Y=σ'.put d v:=by unfold St.app;rw[hw,hd,hv];rfl
theorem OD{Y:Dl}(σ':St)(hw:Y.wr=[])(hv:Y.v=none):σ'.app o.dst Y=σ':=by unfold St.app;rw[hw,hv];cases o.dst<;>rfl
theorem Da(hcall:CallOK P call):∀{l:List Oper}{σ:St}{tr:List (Oper×Dl)}{k:St->List (Oper×Dl)->Option R},yA P E call n ops l σ tr k=some r->∃ds τ,Tr P n ops l σ ds τ∧k τ (ds.reverse++tr)=some r
 | [],σ,tr,k,h=>⟨[],σ,.nil,by simpa [yA]using h⟩
 |o::l,   σ,tr,k,h=>by
  have fin:∀{σ1:St}{Y:Dl},StEq σ σ1->StepAgr P n ops o σ1 Y->yA P E call n ops l (σ1.app o.dst Y) ((o,Y)::tr) k=some r->∃ds τ,Tr P n ops (o::l) σ ds τ∧k τ (ds.reverse++tr)=some r:=by intro σ1 Y h1 h2 h3;obtain⟨ds,τ,ht,hk⟩:=Da hcall h3;exact⟨(o,Y)::ds,τ,.eq h1 (.cons h2 ht),by simpa using hk⟩
  have refl:StEq σ σ:=⟨fun _=>rfl,fun _=>rfl,rfl⟩;unfold yA at h;split at h
  ·rename_i hg;obtain⟨Y,hk,hs⟩:=pK hcall h;exact fin refl (fun σ' ag=> .plain hg (hs σ' ag.toAgr)) hk
  ·rename_i j want hg;split at h
   ·    rename_i d hd;obtain⟨oj,hj,hdj⟩:=abX hd;have hread:=Zv hg hd;split at h
        ·rename_i hv;have hv':=ag1 hv;obtain⟨Y,hk,hr,hw,hc⟩:=skip_some h;refine fin refl (fun σ' ag=>?_) hk;have ht:tk σ'.ts d= .tup []:=by rw[ag.ts d hread];exact hv'
         rcases hc with⟨d',e1,e2,e3⟩| ⟨e1,e3⟩
         ·rw[OC σ' hw e1 e3];exact .skipU hg hj hdj ht e1 e2
         ·rw[OD σ' hw e3];exact .skipU' hg hj hdj ht e1
        ·rename_i T b hv;obtain⟨hv',hu⟩:=ag0 hv;rcases dG h with⟨hb,h1⟩| ⟨hb,h1⟩
         ·subst hb;have heq:StEq σ (σ.put d (.dat T (.bool true))):=StEq.put hv';rcases dG h1 with⟨hw1,h2⟩| ⟨hw1,h2⟩
          ·subst hw1;obtain⟨Y,hk,hs⟩:=pK hcall h2;exact fin heq (fun σ' ag=> .run hg hj hdj hu (by rw[ag.ts d hread];show tk (zT _ _ _) d=_;rw[wU];simp) rfl (hs σ' ag.toAgr)) hk
          ·subst hw1;obtain⟨Y,hk,hr,hw,hc⟩:=skip_some h2;refine fin heq (fun σ' ag=>?_) hk;have ht:tk σ'.ts d= .dat T (.bool true):=by rw[ag.ts d hread];show tk (zT _ _ _) d=_;rw[wU];simp
           rcases hc with⟨d',e1,e2,e3⟩| ⟨e1,e3⟩
           ·rw[OC σ' hw e1 e3];exact .skip hg hj hdj hu ht rfl e1 e2
           ·rw[OD σ' hw e3];exact .skip' hg hj hdj hu ht rfl e1
         ·subst hb;have heq:StEq σ (σ.put d (.dat T (.bool false))):=StEq.put hv';rcases dG h1 with⟨hw1,h2⟩| ⟨hw1,h2⟩
          ·subst hw1;obtain⟨Y,hk,hr,hw,hc⟩:=skip_some h2;refine fin heq (fun σ' ag=>?_) hk;have ht:tk σ'.ts d= .dat T (.bool false):=by rw[ag.ts d hread];show tk (zT _ _ _) d=_;rw[wU];simp
           rcases hc with⟨d',e1,e2,e3⟩| ⟨e1,e3⟩
           ·rw[OC σ' hw e1 e3];exact .skip hg hj hdj hu ht rfl e1 e2
           ·rw[OD σ' hw e3];exact .skip' hg hj hdj hu ht rfl e1
          ·subst hw1;obtain⟨Y,hk,hs⟩:=pK hcall h2;exact fin heq (fun σ' ag=> .run hg hj hdj hu (by rw[ag.ts d hread];show tk (zT _ _ _) d=_;rw[wU];simp) rfl (hs σ' ag.toAgr)) hk
        ·cases h
   ·cases h
theorem Tr.lw{l:List Oper}{ds:List (Oper×Dl)}(h:Tr P n ops l σ ds τ):LW P n ops.toArray l σ (fun s=>s=τ):=by
 induction h with
 |nil=>exact LW.nil rfl
 |cons h _ ih=>exact LW.cons (h _ ⟨fun _ _=>rfl,fun _ _=>rfl,rfl⟩) ih
 |eq h _ ih=>exact fun ok0 w0 a w r Q hQ=>ih ok0 w0 a w (h.imp ok0 w0 a w r) Q hQ
def ug{A B:Type}(u:B->A->A)(L:Nat->Bool):Nat->List B->A->A
 |_,[],c=>c
 |i,x::r,c=>ug u L (i+1) r (bif L i then u x c else c)
theorem yD{A B:Type}{u:B->A->A}{L L':Nat->Bool}:∀{r:List B}{i:Nat}{c:A},(∀j x,r[j]? =some x->L (i+j)=L' (i+j)∨∀c,u x c=c)->ug u L i r c=ug u L' i r c
 | [],_,_,_=>rfl
 |x::r,i,c,h=>by
  simp only[ug];have h0:=h 0 x rfl;have hr:∀c,ug u L (i+1) r c=ug u L' (i+1) r c:=fun c=>yD fun j y hy=>by
   have:=h (j+1) y (by simpa using hy)
   rwa [show i+1+j=i+(j+1) by omega]
  rcases h0 with e|e;·rw[Nat.add_zero]at e;rw[e];exact hr _
  ·rw[e];cases L i<;>cases L' i<;>exact hr _
theorem OE{A B:Type}{u:B->A->A}{L:Nat->Bool}:∀{r:List B}{i:Nat}{c:A},(∀j x,r[j]? =some x->L (i+j)=true->∀c,u x c=c)->ug u L i r c=c
 | [],_,_,_=>rfl
 |x::r,i,c,h=>by
  simp only[ug];have h0:=h 0 x rfl;rw[Nat.add_zero]at h0;have:(bif L i then u x c else c)=c:=by
   cases hL:L i with
   |true=>exact h0 hL c
   |false=>rfl
  rw[this];exact OE fun j y hy hL=>h (j+1) y (by simpa using hy) (by rwa [show i+(j+1)=i+1+j by omega])
theorem Us{L:Nat->Bool}{i j:Nat}(h:j≠i):upL L i j=L j:=by
 unfold upL;cases hb:Nat.beq j i with
 |true=>exact absurd (beq_eq hb) h
 |false=>rfl
theorem ajj{L:Nat->Bool}{i:Nat}:upL L i i=true:=by simp[upL]
theorem OG{A B:Type}{u:B->A->A}{L:Nat->Bool}:∀{r:List B}{k j:Nat}{x:B}{c:A},r[j]? =some x->L (k+j)=false->((∀c,u x c=c)∨∀j' y,j<j'->r[j']? =some y->L (k+j')=true->∀c,u y c=c)->ug u (upL L (k+j)) k r c=u x (ug u L k r c)
 | [],_,_,_,_,h,_,_=>by simp at h
 |y::r,k,0,x,c,h,hL,hh=>by
  simp only[bf,aG]at h;subst h;simp only[Nat.add_zero]at hL ⊢
  simp only[ug,ajj,cond_true,hL,cond_false];have e1:ug u (upL L k) (k+1) r (u y c)=ug u L (k+1) r (u y c):=yD fun j z hz=> .inl (Us (by omega));rw[e1];rcases hh with hh|hh;·rw[hh,hh]
  ·rw[OE,OE]
   ·    intro j z hz hLz;exact hh (j+1) z (by omega) (by simpa using hz) (by rwa [show k+(j+1)=k+1+j by omega])
   ·    intro j z hz hLz;exact hh (j+1) z (by omega) (by simpa using hz) (by rwa [show k+(j+1)=k+1+j by omega])
 |y::r,k,j+1,x,c,h,hL,hh=>by simp only[aZ]at h;simp only[ug];rw[Us (by omega),show k+(j+1)=k+1+j by omega];exact OG h (by rwa [show k+(j+1)=k+1+j by omega]at hL) (hh.imp id fun hh j' z hj hz hLz=>hh (j'+1) z (by omega) (by simpa using hz) (by rwa [show k+(j'+1)=k+1+j' by omega]))
def uT(t:Nat)(p:Oper×Dl)(c:AV):AV:=match p.1.dst,p.2.v with
 |some d,some v=>if t=d then v else c
 |_,_=>c
def uWl(l:Nat):List (Nat×Ob)->Ob->Ob
 | [],c=>c
 |(k,ob)::r,c=>uWl l r (if l=k then ob else c)
def uH(l:Nat)(p:Oper×Dl)(c:Ob):Ob:=uWl l p.2.wr c
def SL(L:Nat->Bool):Nat->List (Oper×Dl)->St->St
 |_,[],σ=>σ
 |i,p::r,σ=>SL L (i+1) r (bif L i then σ.app p.1.dst p.2 else σ)
theorem JV(t:Nat)(p:Oper×Dl)(σ:St):tk (σ.app p.1.dst p.2).ts t=uT t p (tk σ.ts t):=by
 unfold St.app uT agJ;simp only;split
 ·rename_i d v h1 h2;simp only[h1,h2];rw[wU]
 ·rename_i h1;split;·rename_i d v h2 h3;exact absurd h3 (h1 d v h2)
  ·rfl
theorem apD(l:Nat):∀(ws:List (Nat×Ob))(hs:List Ob),lk (wrO hs ws) l=uWl l ws (lk hs l)
 | [],_=>rfl
 |(k,ob)::r,hs=>by simp only[wrO,uWl];rw[apD l r,kD]
theorem JW(l:Nat)(p:Oper×Dl)(σ:St):lk (σ.app p.1.dst p.2).hs l=uH l p (lk σ.hs l):=apD l _ _
theorem Zw(t:Nat)(L:Nat->Bool):∀(r:List (Oper×Dl))(i:Nat)(σ:St),tk (SL L i r σ).ts t=ug (uT t) L i r (tk σ.ts t)
 | [],_,_=>rfl
 |p::r,i,σ=>by
  simp only[SL,ug];rw[Zw t L r];cases L i with
  |true=>simp only[cond_true];rw[JV]
  |false=>rfl
theorem Zx(l:Nat)(L:Nat->Bool):∀(r:List (Oper×Dl))(i:Nat)(σ:St),lk (SL L i r σ).hs l=ug (uH l) L i r (lk σ.hs l)
 | [],_,_=>rfl
 |p::r,i,σ=>by
  simp only[SL,ug];rw[Zx l L r];cases L i with
  |true=>simp only[cond_true];rw[JW]
  |false=>rfl
theorem Zy(L:Nat->Bool):∀(r:List (Oper×Dl))(i:Nat)(σ:St),(SL L i r σ).k0=σ.k0
 | [],_,_=>rfl
 |p::r,i,σ=>by simp only[SL];rw[Zy L r];cases L i<;>rfl
theorem ajk{t:Nat}{p:Oper×Dl}(h:t∉p.1.dst.toList)(c:AV):uT t p c=c:=by
 unfold uT;split
 ·rename_i d v h1 h2;rw[if_neg];intro e;subst e
  rw[h1]at h;simp at h
 ·rfl
theorem WY{l:Nat}:∀{ws:List (Nat×Ob)},l∉ws.map (·.1)->∀c,uWl l ws c=c
 | [],_,_=>rfl
 |(k,ob)::r,h,c=>by simp only[List.map_cons,List.mem_cons,not_or]at h;simp only[uWl];rw[if_neg h.1];exact WY h.2 c
theorem z8{a b:List Nat}(h:agM a b=true){x:Nat}(hx:x∈a):x∉b:=by unfold agM at h;have:=List.all_eq_true.1 h x hx;exact Db (by simpa using this)
def aq3(ops:List Oper)(all:List (Oper×Dl)):Prop:=∀i j p q,i<j->all[i]? =some p->all[j]? =some q->(∀L:Nat->Bool,Closed ops.toArray L->DepsL L q.1.after.toList->L i=true)∨indep ops p q=true
def ajl(ops:List Oper)(ancs:List Nat):Prop:=∀(j m:Nat),ancs[j]? =some m->∃oj:Oper,ops[j]? =some oj∧∀i:Nat,m.testBit i=true->∀L:Nat->Bool,Closed ops.toArray L->DepsL L oj.after.toList->L i=true
theorem yE{ancs:List Nat}(ha:ajl ops ancs):∀{es:List Edge}{i:Nat},(Ia ancs es).testBit i=true->∀L:Nat->Bool,Closed ops.toArray L->DepsL L es->L i=true
 | [],i,h,L,_,_=>by simp[Ia]at h
 |e::r,i,h,L,hc,hd=>by
  unfold Ia at h;cases hb:Region.binds .any e with
  |false=>
   rw[hb]at h;exact yE ha (by simpa using h) L hc hd.2
  |true=>
   rw[hb]at h;have hLe:=hd.1 hb;have h':Nat.testBit ((2^e.on|||ancs.getD e.on 0)|||Ia ancs r) i=true:=h;rw[Nat.testBit_or,Nat.testBit_or,Bool.or_eq_true,Bool.or_eq_true]at h';rcases h' with (h1|h1)|h1
   ·    rw[Nat.testBit_two_pow]at h1;have:e.on=i:=by simpa using h1
        subst this;exact hLe
   ·    cases hg:ancs[e.on]? with
        |none=>simp[List.getD,hg]at h1
        |some m=>
         obtain⟨oj,h2,h3⟩:=ha e.on m hg;have h4:m.testBit i=true:=by simpa [List.getD,hg]using h1
         exact h3 i h4 L hc (hc e.on oj (by simpa using h2) hLe)
   ·exact yE ha h1 L hc hd.2
theorem Ut{q:Oper×Dl}{m:Nat}:∀{pre:List (Oper×Dl)}{k:Nat},Zb ops q m k pre=true->∀i p,pre[i]? =some p->m.testBit (k+i)=true∨indep ops p q=true
 | [],_,_,i,p,h=>by simp at h
 |x::r,k,h,0,p,hp=>by simp only[bf,aG]at hp;subst hp;simp only[Zb]at h;have:=bg h;rw[Bool.or_eq_true]at this;exact this
 |x::r,k,h,i+1,p,hp=>by
  simp only[aZ]at hp;simp only[Zb]at h;have:=Ut (aQ h) i p hp
  rwa [show k+1+i=k+(i+1) by omega]at this
theorem Ig:∀{rest pre:List (Oper×Dl)}{ancs:List Nat},JN ops pre ancs rest=true->ajl ops ancs->ancs.length=pre.length->(pre++rest).map (·.1)=ops->∀i j p q,i<j->pre.length<=j->(pre++rest)[i]? =some p->(pre++rest)[j]? =some q->(∀L:Nat->Bool,Closed ops.toArray L->DepsL L q.1.after.toList->L i=true)∨indep ops p q=true
 | [],pre,ancs,_,_,_,_,i,j,p,q,_,hj,_,hq=>by rw[List.append_nil]at hq;rw[List.getElem?_eq_none hj]at hq;cases hq
 | x::rest,pre,ancs,h,ha,hl,hm,i,j,p,q,hij,hj,hp,hq=>by
   simp only[JN]at h;by_cases hje:j=pre.length
   ·subst hje;rw[List.getElem?_append_right (ak _),Nat.sub_self]at hq;simp only[bf,aG]at hq;subst hq;rw[List.getElem?_append_left hij]at hp;rcases Ut (bg h) i p hp with h1|h1
    ·   rw[Nat.zero_add]at h1;exact .inl fun L hc hd=>yE ha h1 L hc hd
    ·exact .inr h1
   ·have hx:ops[pre.length]? =some x.1:=by rw[←hm,List.getElem?_map,List.getElem?_append_right (ak _),Nat.sub_self];rfl
    have ha':ajl ops (ancs++[Ia ancs x.1.after.toList]):=by
        intro k m hk;by_cases hkl:k<ancs.length
        ·rw[List.getElem?_append_left hkl]at hk;exact ha k m hk
        ·rw[List.getElem?_append_right (by omega)]at hk;have hk0:k=pre.length:=by have:=(aA.1 hk).1;simp at this;omega
         subst hk0;rw[show pre.length-ancs.length=0 by omega]at hk;simp only[bf,aG]at hk;subst hk;exact⟨x.1,hx,fun i hi L hc hd=>yE ha hi L hc hd⟩
    have e:pre++x::rest=(pre++[x])++rest:=by simp
    rw[e]at hp hq hm;exact Ig (aQ h) ha' (by simp[hl]) hm i j p q hij (by simp;omega) hp hq
theorem Tr.len{l:List Oper}{ds:List (Oper×Dl)}(h:Tr P n ops l σ ds τ):ds.map (·.1)=l:=by
 induction h with
 |nil=>rfl
 |cons _ _ ih=>simp[ih]
 |eq _ _ ih=>exact ih
theorem Tr.fin{l:List Oper}{ds:List (Oper×Dl)}(h:Tr P n ops l σ ds τ)(L:Nat->Bool):∀k,(∀j,j<ds.length->L (k+j)=true)->∀σ0,StEq σ0 σ->StEq (SL L k ds σ0) τ:=by
 induction h with
 |nil=>intro k _ σ0 h0;exact h0
 | @cons o r σ τ Y ds _ _ ih=>
   intro k hL σ0 h0;simp only[SL];have:=hL 0 (by simp);rw[Nat.add_zero]at this;rw[this,cond_true];refine ih (k+1) (fun j hj=>by have:=hL (j+1) (by simp;omega);rwa [show k+1+j=k+(j+1) by omega]) _ ?_;exact⟨fun t=>by rw[JV t (o,Y),JV t (o,Y),h0.ts],fun l=>by rw[JW l (o,Y),JW l (o,Y),h0.hs],h0.k0⟩
 | eq h _ ih=>
   intro k hL σ0 h0;exact ih k hL σ0 ⟨fun t=>(h.ts t).trans (h0.ts t),fun l=>(h.hs l).trans (h0.hs l),h.k0.trans h0.k0⟩
theorem Tr.step{l:List Oper}{ds:List (Oper×Dl)}(h:Tr P n ops l σ ds τ):∀(k j:Nat)(p:Oper×Dl)(σ0:St),StEq σ0 σ->ds[j]? =some p->∃σ1,StepAgr P n ops p.1 σ1 p.2∧StEq (SL (fun i=>decide (i<k+j)) k ds σ0) σ1:=by
 induction h with
 |nil=>intro k j p σ0 _ hp;simp at hp
 | @cons o r σ τ Y ds hs _ ih=>
   intro k j p σ0 h0 hp;cases j with
   |zero=>
    simp only[bf,aG]at hp;subst hp;refine⟨σ,hs,?_⟩;have hno:∀(r:List (Oper×Dl))(i:Nat)(s:St),k<=i->SL (fun i=>decide (i<k+0)) i r s=s:=by
        intro r;induction r with
        |nil=>intro i s _;rfl
        |cons p r ih=>intro i s hi;simp only[SL];rw[show decide (i<k+0)=false by simp;omega];exact ih (i+1) s (by omega)
    rw[hno _ k σ0 (ak _)];exact h0
   |succ j=>
    simp only[aZ]at hp;simp only[SL];rw[show decide (k<k+(j+1))=true by simp,cond_true,show k+(j+1)=k+1+j by omega];exact ih (k+1) j p _ ⟨fun t=>by rw[JV t (o,Y),JV t (o,Y),h0.ts],fun l=>by rw[JW l (o,Y),JW l (o,Y),h0.hs],h0.k0⟩ hp
 | eq h _ ih=>
   intro k j p σ0 h0 hp;exact ih k j p σ0 ⟨fun t=>(h.ts t).trans (h0.ts t),fun l=>(h.hs l).trans (h0.hs l),h.k0.trans h0.k0⟩ hp
theorem Uu{ds:List (Oper×Dl)}(hm:ds.map (·.1)=ops)(S:(Nat->Bool)->St):∀(l:List Oper)(k:Nat),ops.drop k=l->
  (∀i p,k<=i->ds[i]? =some p->∀L:Nat->Bool,L i=false->DepsL L p.1.after.toList->Closed ops.toArray L->∃σ',StepOK P n ops.toArray p.1 (S L) σ'∧Imp P n σ' (S (upL L i)))->DrawL P n ops.toArray S k l
 | [],_,_,_=> .nil
 |o::l,k,hd,h=>by
  have hk:k<ops.length:=by
   rcases Nat.lt_or_ge k ops.length with h1|h1;·exact h1
   ·rw[List.drop_eq_nil_of_le h1]at hd;cases hd
  rw[aD hk]at hd;obtain⟨e1,e2⟩:=List.cons.inj hd;have hkd:k<ds.length:=by rw[←List.length_map (f:=(·.1)),hm];exact hk
  have hp:ds[k]? =some ds[k]:=aF hkd;have ho:ds[k].1=o:=by
   rw[←e1];have:(ds.map (·.1))[k]? =ops[k]? :=by rw[hm]
   rw[List.getElem?_map,hp,aF hk]at this;simpa using this
  refine .cons (fun L h1 h2 h3=>?_) (Uu hm S l (k+1) e2 fun i p hi=>h i p (by omega));have:=h k ds[k] (ak _) hp L h1 (by rw[ho];exact h2) h3;rw[ho]at this;exact this
theorem OH(hmix:P.follows .mixedOrders=true){id:Nat}{ds:List (Oper×Dl)}{Ψ:Exit->St->Prop}(h:Tr P n ops ops σ ds τ)(hb:vS 0 ops=true)(hg:JN ops [] [] ds=true)(hp:∀τ',StEq τ τ'->Ψ .normal τ'):CW P n (.region id ops.toArray true) σ Ψ:=by
 have hm:=h.len;have hpairs:aq3 ops ds:=fun i j p q hij h1 h2=>Ig (pre:=[]) hg (fun j m hj=>by simp at hj) rfl (by simpa using hm) i j p q hij (aC _) (by simpa using h1) (by simpa using h2);have hlen:ds.length=ops.length:=by rw[←hm];simp
 have refl:StEq σ σ:=⟨fun _=>rfl,fun _=>rfl,rfl⟩;refine CW.draw (fun L=>SL L 0 ds σ) hmix hb ?_ ?_ ?_
 ·have:∀(r:List (Oper×Dl))(i:Nat)(s:St),SL (fun _=>false) i r s=s:=by
   intro r;induction r with
   |nil=>intro i s;rfl
   |cons p r ih=>intro i s;simp only[SL,cond_false];exact ih (i+1) s
  rw[this];exact Imp.refl
 ·refine Uu hm _ ops 0 (by simp) fun i p _ hpi L hLi hdep hcl=>?_;obtain⟨σ1,hstep,heq⟩:=h.step 0 i p σ refl hpi;rw[Nat.zero_add]at heq;have hmem:∀j q,ds[j]? =some q->L j=true->DepsL L q.1.after.toList:=fun j q hq hLj=>by
   have:ops[j]? =some q.1:=by rw[←hm,List.getElem?_map,hq];rfl
   exact hcl j q.1 (by simpa using this) hLj
  have hdiff:∀j q,ds[j]? =some q->L j≠decide (j<i)->(j<i∧indep ops q p=true)∨(i<j∧indep ops p q=true):=by
   intro j q hq hne;rcases Nat.lt_trichotomy j i with hlt|heq2|hgt
   ·    left;refine⟨hlt,?_⟩;rcases hpairs j i q p hlt hq hpi with h1|h1
        ·exfalso;rw[h1 L hcl hdep]at hne;simp[hlt]at hne
        ·exact h1
   ·    subst heq2;rw[hLi]at hne;simp at hne
   ·    right;refine⟨hgt,?_⟩;have hLj:L j=true:=by
         cases hL:L j with
         |true=>rfl
         |false=>rw[hL]at hne;simp at hne;omega
        rcases hpairs i j p q hgt hpi hq with h1|h1
        ·exfalso;rw[h1 L hcl (hmem j q hq hLj)]at hLi;cases hLi
        ·exact h1
  have hagr:AgrG ops p.1 σ1 (SL L 0 ds σ) p.2.rd:=by
   refine⟨fun t ht=>?_,fun l hl=>?_,?_⟩
   ·    rw[heq.ts t,Zw,Zw];refine yD fun j q hq=>?_;rw[Nat.zero_add];by_cases hne:L j=decide (j<i);·exact .inl hne
        ·right;refine fun c=>ajk (fun htq=>?_) c;rcases hdiff j q hq hne with⟨_,h1⟩| ⟨_,h1⟩;·exact z8 (bg h1) htq (List.mem_append_right _ ht)
         ·exact z8 (bg (aQ h1)) htq ht
   ·    rw[heq.hs l,Zx,Zx];refine yD fun j q hq=>?_;rw[Nat.zero_add];by_cases hne:L j=decide (j<i);·exact .inl hne
        ·right;refine fun c=>WY (fun htq=>?_) c;rcases hdiff j q hq hne with⟨_,h1⟩| ⟨_,h1⟩;·exact z8 (bg (aQ (aQ h1))) htq (bB _ hl)
         ·exact z8 (aQ (aQ (aQ h1))) htq hl
   ·rw[heq.k0,Zy,Zy]
  refine⟨_,hstep _ hagr,?_⟩;have hlater:∀j q,i<j->ds[j]? =some q->L j=true->indep ops p q=true:=by
   intro j q hij hq hLj;rcases hpairs i j p q hij hpi hq with h1|h1
   ·    exfalso;rw[h1 L hcl (hmem j q hq hLj)]at hLi;cases hLi
   ·exact h1
  refine StEq.imp ⟨fun t=>?_,fun l=>?_,?_⟩
  ·rw[   JV t p,Zw,Zw];have:=OG (u:=uT t) (L:=L) (k:=0) (c:=tk σ.ts t) hpi (by rw[Nat.zero_add];exact hLi) (by
        by_cases ht:t∈p.1.dst.toList
        ·right;intro j q hij hq hLj c;rw[Nat.zero_add]at hLj;refine ajk (fun htq=>?_) c;exact z8 (bg (hlater j q hij hq hLj)) ht (bB _ htq)
        ·exact .inl fun c=>ajk ht c)
   rwa [Nat.zero_add]at this
  ·rw[   JW l p,Zx,Zx];have:=OG (u:=uH l) (L:=L) (k:=0) (c:=lk σ.hs l) hpi (by rw[Nat.zero_add];exact hLi) (by
        by_cases ht:l∈p.2.wr.map (·.1)
        ·right;intro j q hij hq hLj c;rw[Nat.zero_add]at hLj;refine WY (fun htq=>?_) c;exact z8 (bg (aQ (aQ (hlater j q hij hq hLj)))) ht (List.mem_append_right _ htq)
        ·exact .inl fun c=>WY ht c)
   rwa [Nat.zero_add]at this
  ·rw[Zy,aqU,Zy]
 ·intro L hL;have:=h.fin L 0 (fun j hj=>by rw[Nat.zero_add];exact hL j (by omega)) σ refl;exact hp _ ⟨fun t=>(this.ts t).symm,fun l=>(this.hs l).symm,this.k0.symm⟩
end
section
variable{P:Program}{n:Nat}{c c1 c2:Code}{σ τ:St}{Ψ Ψ':Exit->St->Prop}{o:Oper}
inductive DrawI (P:Program) (n:Nat) (ops:Array Oper) (I:(Nat->Bool)->St->Prop):Nat->List Oper->Prop where
 |nil {i:Nat}:DrawI P n ops I i []
 |cons {i:Nat} {o:Oper} {r:List Oper} (h:∀(L:Nat->Bool)(σ:St),I L σ->L i=false->DepsL L o.after.toList->Closed ops L->∃σ',StepOK P n ops o σ σ'∧I (upL L i) σ') (hr:DrawI P n ops I (i+1) r):DrawI P n ops I i (o::r)
theorem DrawI.get{ops:Array Oper}{I:(Nat->Bool)->St->Prop}{k:Nat}{l:List Oper}(h:DrawI P n ops I k l):∀(j:Nat)(o:Oper),l[j]? =some o->∀(L:Nat->Bool)(σ:St),I L σ->L (k+j)=false->DepsL L o.after.toList->Closed ops L->∃σ',StepOK P n ops o σ σ'∧I (upL L (k+j)) σ':=by
 induction h with
 |nil=>intro j o h;simp at h
 | @cons i o r h _ ih=>
   intro j o' hj;cases j with
   |zero=>simp only[bf,aG]at hj;subst hj;exact h
   |succ j=>
    simp only[aZ]at hj;have:=ih j o' hj;rw[show i+1+j=i+(j+1) by omega]at this;exact this
theorem ag3{l:List Oper}{I:(Nat->Bool)->St->Prop}(hback:vS 0 l=true)(hd:DrawI P n l.toArray I 0 l){ok0:OkX}{w0:World}{Q:Exit->Act->World->Prop}
  (hfin:∀(L:Nat->Bool)(σ:St),I L σ->(∀i,i<l.length->L i=true)->∀a w,Rel P ok0 w0 n σ a w->Q .normal a w):
  ∀(fuel:Nat)(listed:Array Bool)(σ:St)(a:Act)(w:World),I (fun j=>listed.getD j false) σ->listed.size=l.length->listed.toList.count false<=fuel->Closed l.toArray (fun j=>listed.getD j false)->Rel P ok0 w0 n σ a w->wpAny P .any l.toArray Q fuel listed a w:=by
 have hall :∀listed:Array Bool,listed.size=l.length->Region.ready .any l.toArray listed=[]->∀i,i<l.length->listed.getD i false=true:=by
  intro listed hsz hr;intro i;induction i using Nat.strongRecOn with
  |_    i ih=>
   intro hi;cases hc:listed.getD i false with
   |true=>rfl
   |    false=>
        exfalso;have hne:i∈Region.ready .any l.toArray listed:=by
          refine mem_ready.2 ⟨by simpa using hi,?_,l[i],by simp[hi],fun e he hb=>?_⟩
          ·have hlt:i<listed.size:=by omega
           simp only[Array.getD,hlt,dif_pos]at hc ⊢
           exact hc
          ·have:=FD hback i l[i] (by simp[hi]) e he hb;exact ih e.on (by omega) (by omega)
        rw[hr]at hne;simp at hne
 intro fuel;induction fuel with
 |zero=>
  intro listed σ a w hI hsz hcnt hcl r;have hnil:Region.ready .any l.toArray listed=[]:=by
   rw[List.eq_nil_iff_forall_not_mem];intro i hi;obtain⟨h1,h2,_⟩:=mem_ready.1 hi;have hlt:i<listed.size:=by rw[hsz];simpa using h1
   have h3:listed[i]=false:=by simpa [Array.getD,hlt]using h2
   have h4:List.count false listed.toList=0:=by omega
   rw[List.count_eq_zero]at h4;exact h4 (by rw[←h3];simp)
  exact⟨hnil,hfin _ σ hI (hall listed hsz hnil) a w r⟩
 |succ fuel ih=>
  intro listed σ a w hI hsz hcnt hcl r;refine⟨fun hnil=>hfin _ σ hI (hall listed hsz hnil) a w r,fun i hi=>?_⟩;obtain⟨h1,h2,o,ho,h3⟩:=mem_ready.1 hi;have hil:i<l.length:=by simpa using h1
  have hlt:i<listed.size:=by omega
  have hLi:listed.getD i false=false:=by
   have h2':listed[i]=false:=by simpa [Array.getD,hlt]using h2
   simp[Array.getD,hlt,h2']
  have ho':l[i]? =some o:=by simpa using ho
  obtain⟨σ',hstep,himp⟩:=hd.get i o ho' (fun j=>listed.getD j false) σ hI (by rw[Nat.zero_add];exact hLi) (DepsL.of h3) hcl;rw[Nat.zero_add]at himp;have hL:(fun j=>(listed.setIfInBounds i true).getD j false)=upL (fun j=>listed.getD j false) i:=by
   funext j;rw[NJ _ _ _ _ _ hlt];simp only[upL];by_cases hj:j=i;·subst hj;simp
   ·    have:Nat.beq j i=false:=by
          cases hb:Nat.beq j i with
          |true=>exact absurd (aU hb) hj
          |false=>rfl
        rw[if_neg hj,this];rfl
  have hcl':Closed l.toArray (fun j=>(listed.setIfInBounds i true).getD j false):=by
   rw[hL];intro j oj hoj hLj;simp only[upL]at hLj;refine DepsL.of fun e he hb=>?_;have hold:listed.getD e.on false=true:=by
        cases hb2:Nat.beq j i with
        | true=>
          have:=aU hb2;subst this;have:oj=o:=by rw[ho]at hoj;cases hoj;rfl
          subst this;exact h3 e he hb
        | false=>
          rw[hb2]at hLj;exact(hcl j oj hoj hLj).mem e he hb
   simp only[upL];cases Nat.beq e.on i with
   |true=>rfl
   |false=>exact hold
  have hcnt':(listed.setIfInBounds i true).toList.count false<=fuel:=by
   have h5:listed.toList[i]? =some false:=by
        have h2':listed[i]=false:=by simpa [Array.getD,hlt]using h2
        simp[hlt,h2']
   have h6:(listed.setIfInBounds i true).toList=listed.toList.set i true:=by simp
   rw[h6];have h7:=List.count_set (a:=true) (b:=false) (l:=listed.toList) (i:=i) (by simpa using hlt);have h8:listed.toList[i]'(by simpa using hlt)=false:=by have:=aA.1 h5;exact this.2
   have hpos:0<listed.toList.count false:=List.count_pos_iff.2 (aW h5);rw[h7,h8];show (List.count false listed.toList-1)+0<=fuel;omega
  have hK:=fun a' w'(r':Rel P ok0 w0 n σ' a' w')=>ih (listed.setIfInBounds i true) σ' a' w' (by rw[hL];exact himp) (by simpa using hsz) hcnt' hcl' r';have:=hstep ok0 w0 a w r _ Q hK;unfold wpOp;rw[ho];simp only;split;·rename_i hw;rw[if_pos hw]at this;exact .inl this
  ·rename_i hw;rw[if_neg hw]at this;exact this
theorem CW.drawI{id:Nat}{l:List Oper}(I:(Nat->Bool)->St->Prop)(hm:P.follows .mixedOrders=true)(hback:vS 0 l=true)(h0:I (fun _=>false) σ)(hd:DrawI P n l.toArray I 0 l)
  (hfin:∀(L:Nat->Bool)(τ:St),I L τ->(∀i,i<l.length->L i=true)->Ψ .normal τ):CW P n (.region id l.toArray true) σ Ψ:=fun ok0 w0 a w r Q hQ=>by
 refine wp_region_any hm ?_;have hrep:∀j,(Array.replicate l.toArray.size false).getD j false=false:=by
  intro j;simp only[Array.getD];split;·simp
  ·rfl
 have hf:(fun j=>(Array.replicate l.toArray.size false).getD j false)=fun _=>false:=funext hrep;refine ag3 hback hd (fun L τ hI hL a' w' r'=>hQ _ _ _ _ (hfin L τ hI hL) r') _ _ σ a _ ?_ (by simp) ?_ ?_ r.drew;·rw[hf];exact h0
 ·refine Nat.le_trans (List.count_le_length) (by simp)
 ·rw[hf];intro j oj _ hc;cases hc
theorem yF{o:Oper}{j:Nat}{L:Nat->Bool}(h:bnd o j=true)(hd:DepsL L o.after.toList):L j=true:=by unfold bnd at h;obtain⟨e,he,h1⟩:=List.any_eq_true.1 h;obtain⟨h2,h3⟩:=aK _ _▸h1;have:=hd.mem e he h2;rw[aU h3]at this;exact this
def chI(σ σ0 σ1 σ2 σ12 σ21 σA σB:St)(L:Nat->Bool)(τ:St):Prop:=
 (L 0=false->τ=σ)∧(L 0=true->L 1=false->L 2=false->τ=σ0)∧(L 1=true->L 2=false->τ=σ1)∧(L 1=false->L 2=true->τ=σ2)∧(L 1=true->L 2=true->L 3=false->τ=σ12∨τ=σ21)∧(L 3=true->τ=σA∨τ=σB)
theorem WZ(hm:P.follows .mixedOrders=true){id:Nat}{o0 o1 o2 o3:Oper}{σ0 σ1 σ2 σ12 σ21 σA σB:St}(hc:anB o0 o1 o2 o3=true)
  (s0:StepOK P n #[o0,o1,o2,o3] o0 σ σ0)(s1:StepOK P n #[o0,o1,o2,o3] o1 σ0 σ1)(s12:StepOK P n #[o0,o1,o2,o3] o2 σ1 σ12)(s3:StepOK P n #[o0,o1,o2,o3] o3 σ12 σA)
  (s2:StepOK P n #[o0,o1,o2,o3] o2 σ0 σ2)(s21:StepOK P n #[o0,o1,o2,o3] o1 σ2 σ21)(s3':StepOK P n #[o0,o1,o2,o3] o3 σ21 σB)(hA:Ψ .normal σA)(hB:Ψ .normal σB):CW P n (.region id #[o0,o1,o2,o3] true) σ Ψ:=by
 unfold anB at hc;simp only[aK]at hc;obtain⟨⟨⟨⟨hb,c1⟩,c2⟩,c31⟩,c32⟩:=hc;have key:∀L:Nat->Bool,Closed #[o0,o1,o2,o3] L->(L 1=true->L 0=true)∧(L 2=true->L 0=true)∧(L 3=true->L 1=true∧L 2=true):=fun L h=>
  ⟨fun h1=>yF c1 (h 1 o1 rfl h1),fun h2=>yF c2 (h 2 o2 rfl h2),fun h3=>⟨yF c31 (h 3 o3 rfl h3),yF c32 (h 3 o3 rfl h3)⟩⟩
 refine CW.drawI (l:=[o0,o1,o2,o3]) (chI σ σ0 σ1 σ2 σ12 σ21 σA σB) hm hb ⟨fun _=>rfl,fun h=>(by cases h),fun h=>(by cases h),fun _ h=>(by cases h),fun h=>(by cases h),fun h=>(by cases h)⟩ ?_ ?_
 ·refine .cons (fun L τ hI h0 hd hcl=>?_) (.cons (fun L τ hI h1 hd hcl=>?_) (.cons (fun L τ hI h2 hd hcl=>?_) (.cons (fun L τ hI h3 hd hcl=>?_) .nil)))
  ·obtain⟨k1,k2,k3⟩:=key L hcl;obtain rfl:=hI.1 h0;have n1:L 1=false:=by cases h:L 1 with|false=>rfl|true=>rw[k1 h]at h0;cases h0
   have n2:L 2=false:=by cases h:L 2 with|false=>rfl|true=>rw[k2 h]at h0;cases h0
   have n3:L 3=false:=by cases h:L 3 with|false=>rfl|true=>rw[(k3 h).1]at n1;cases n1
   refine⟨σ0,s0,fun h=>(by cases h),fun _ _ _=>rfl,fun h=>?_,fun _ h=>?_,fun h=>?_,fun h=>?_⟩;·have h:L 1=true:=h;rw[n1]at h;cases h
   ·have h:L 2=true:=h;rw[n2]at h;cases h
   ·have h:L 1=true:=h;rw[n1]at h;cases h
   ·have h:L 3=true:=h;rw[n3]at h;cases h
  ·obtain⟨k1,k2,k3⟩:=key L hcl;have h0:L 0=true:=yF c1 hd;have n3:L 3=false:=by cases h:L 3 with|false=>rfl|true=>rw[(k3 h).1]at h1;cases h1
   cases h2:L 2 with
   |    false=>
        obtain rfl:=hI.2.1 h0 h1 h2;refine⟨σ1,s1,fun h=>?_,fun _ h=>(by cases h),fun _ _=>rfl,fun h=>(by cases h),fun _ h=>?_,fun h=>?_⟩;·have h:L 0=false:=h;rw[h0]at h;cases h
        ·have h:L 2=true:=h;rw[h2]at h;cases h
        ·have h:L 3=true:=h;rw[n3]at h;cases h
   |    true=>
        obtain rfl:=hI.2.2.2.1 h1 h2;refine⟨σ21,s21,fun h=>?_,fun _ h=>(by cases h),fun _ h=>?_,fun h=>(by cases h),fun _ _ _=> .inr rfl,fun h=>?_⟩;·have h:L 0=false:=h;rw[h0]at h;cases h
        ·have h:L 2=false:=h;rw[h2]at h;cases h
        ·have h:L 3=true:=h;rw[n3]at h;cases h
  ·obtain⟨k1,k2,k3⟩:=key L hcl;have h0:L 0=true:=yF c2 hd;have n3:L 3=false:=by cases h:L 3 with|false=>rfl|true=>rw[(k3 h).2]at h2;cases h2
   cases h1:L 1 with
   |    false=>
        obtain rfl:=hI.2.1 h0 h1 h2;refine⟨σ2,s2,fun h=>?_,fun _ _ h=>(by cases h),fun h=>?_,fun _ _=>rfl,fun h=>?_,fun h=>?_⟩;·have h:L 0=false:=h;rw[h0]at h;cases h
        ·have h:L 1=true:=h;rw[h1]at h;cases h
        ·have h:L 1=true:=h;rw[h1]at h;cases h
        ·have h:L 3=true:=h;rw[n3]at h;cases h
   |    true=>
        obtain rfl:=hI.2.2.1 h1 h2;refine⟨σ12,s12,fun h=>?_,fun _ _ h=>(by cases h),fun _ h=>(by cases h),fun h=>?_,fun _ _ _=> .inl rfl,fun h=>?_⟩;·have h:L 0=false:=h;rw[h0]at h;cases h
        ·have h:L 1=false:=h;rw[h1]at h;cases h
        ·have h:L 3=true:=h;rw[n3]at h;cases h
  ·have h1:L 1=true:=yF c31 hd;have h2:L 2=true:=yF c32 hd;obtain⟨k1,k2,k3⟩:=key L hcl;have h0:=k1 h1;have fin:∀τ',(τ'=σA∨τ'=σB)->chI σ σ0 σ1 σ2 σ12 σ21 σA σB (upL L 3) τ':=fun τ' ht=>by
        refine⟨fun h=>?_,fun _ h=>?_,fun _ h=>?_,fun h=>?_,fun _ _ h=>(by cases h),fun _=>ht⟩;·have h:L 0=false:=h;rw[h0]at h;cases h
        ·have h:L 1=false:=h;rw[h1]at h;cases h
        ·have h:L 2=false:=h;rw[h2]at h;cases h
        ·have h:L 1=false:=h;rw[h1]at h;cases h
   rcases hI.2.2.2.2.1 h1 h2 h3 with rfl|rfl;·exact⟨σA,s3,fin _ (.inl rfl)⟩
   ·exact⟨σB,s3',fin _ (.inr rfl)⟩
 ·intro L τ hI hL;rcases hI.2.2.2.2.2 (hL 3 (by simp))with rfl|rfl;·exact hA
  ·exact hB
end
section
variable{P:Program}{n:Nat}{σ τ:St}{R:Type}{E:Env}{call:FuncId->List AV->List Ob->(Res->Option R)->Option R}{r:R}{K:OkX}{w0 w:World}{a:Act}{β:Nat->Option Value}
theorem ag4{hs:List Ob}{l k b:Nat}(h:owns (frz1 hs l) β k b):owns hs β k b:=by
 unfold frz1 at h;split at h
 ·rename_i T es hl;obtain⟨h1,z,h2,h3⟩:=h;by_cases hkl:k=l;·subst hkl;rw[dU]at h1;cases h1
  ·rw[bE _ _ _ _ hkl]at h1;exact⟨h1,z,h2,h3⟩
 ·exact h
theorem Uv:∀{ls:List Nat}{hs:List Ob}{k b:Nat},owns (frzN hs ls) β k b->owns hs β k b
 | [],_,_,_,h=>h
 |l::r,hs,k,b,h=>ag4 (Uv (ls:=r) h)
theorem RelB.frzN:∀{ls:List Nat}{σ:St},RelB P K w0 n σ a w β->RelB P K w0 n ⟨σ.ts,frzN σ.hs ls,σ.k0⟩ a w β
 | [],_,r=>r
 |l::ls,σ,r=>by
  have:RelB P K w0 n ⟨σ.ts,frz1 σ.hs l,σ.k0⟩ a w β:=by
   unfold frz1;split;·rename_i T es hl;exact r.frz hl
   ·exact r
  exact RelB.frzN (ls:=ls) this
theorem abY{f:AV->AV}(hf:f .dead= .dead):∀(ts:List AV)(k:Nat),tk (ts.map f) k=f (tk ts k)
 | [],k=>by simp[tk,hf]
 |v::r,0=>rfl
 |v::r,k+1=>by simp[tk,abY hf r k]
theorem ajm{hs:List Ob}:pkC P hs .dead= .dead:=rfl
theorem RV.pkC{ok:Nat->Prop}{w:World}{β:Nat->Option Value}{hs:List Ob}{v:AV}{z:Value}(hf:Fa P ok w β hs)(hfa:∀l T es,lk hs l= .frz T es->eu P T=false)(h:RV P ok w β v z):RV P ok w β (pkC P hs v) z:=by
 unfold Am.pkC;split;·rename_i T d hp;exact(h.pk hf hfa hp).can
 ·exact h
theorem En{q:TypeId->Bool}{hs:List Ob}:∀{os:List Ob}{k l:Nat},lk (uM P q hs k os) l=lk os l∨∃T c d,lk os l= .box T c∧pk P hs c=some (T,d)∧lk (uM P q hs k os) l= .box T (.dat T (canD P T d))
 | [],k,l=>by cases k<;>exact .inl rfl
 |o::os,k+1,0=> .inl (by cases o<;>rfl)
 |o::os,k+1,l+1=>by have:=En (q:=q) (hs:=hs) (os:=os) (k:=k) (l:=l);cases o<;>simpa [uM,lk]using this
 |o::os,0,l+1=>by have:=En (q:=q) (hs:=hs) (os:=os) (k:=0) (l:=l);cases o<;>simpa [uM,lk]using this
 |o::os,0,0=>by
  cases o with
  |box   T c=>
   simp only[uM,lk];cases hq:q T with
   |true=>exact .inl rfl
   |false=>
   rw[cond_false];split
   ·    rename_i T' d hp;cases hb:Nat.beq T' T with
        |true=>
         have e:=beq_eq hb;subst e;exact .inr ⟨T',c,d,rfl,hp,rfl⟩
        |false=>exact .inl rfl
   ·exact .inl rfl
  |row T es=>exact .inl rfl
  |rowA T vs=>exact .inl rfl
  |frz T es=>exact .inl rfl
  |map T es=>exact .inl rfl
  |rowD=>exact .inl rfl
  |tok=>exact .inl rfl
  |gone=>exact .inl rfl
  |free=>exact .inl rfl
theorem RelB.packAll{q:TypeId->Bool}(r:RelB P K w0 n σ a w β)(k:Nat):RelB P K w0 n ⟨σ.ts.map (pkC P σ.hs),uM P q σ.hs k σ.hs,σ.k0⟩ a w β:=by
 have hown:∀l b,owns (uM P q σ.hs k σ.hs) β l b->owns σ.hs β l b:=by
  rintro l b ⟨h1,z,h2,h3⟩;rcases En (P:=P) (q:=q) (hs:=σ.hs) (os:=σ.hs) (k:=k) (l:=l)with e| ⟨T,c,d,e1,_,e3⟩;·rw[e]at h1;exact⟨h1,z,h2,h3⟩
  ·exact⟨by rw[e1];rfl,z,h2,h3⟩
 have hk:∀b,okOf K w0 w σ.hs β b->okOf K w0 w (uM P q σ.hs k σ.hs) β b∧w.heap[b]? =w.heap[b]? :=fun b hb=>⟨⟨hb.1,hb.2.1,fun l hl=>hb.2.2 l (hown l b hl)⟩,rfl⟩;refine⟨r.size,r.defers,r.below,fun t=>?_,fun l=>?_,fun l l' b h1 h2=>r.sep l l' b (hown _ _ h1) (hown _ _ h2),fun l b h1=>r.own l b (hown _ _ h1),r.ext,r.kk,r.tab.mono hk⟩
 ·show RV P _ w β (tk (σ.ts.map (pkC P σ.hs)) t) _;rw[abY ajm];exact((r.ts t).pkC r.frzOK r.frzAgg).mono hk (Ext.refl _)
 ·show ObOK P _ w β (lk (uM P q σ.hs k σ.hs) l) _;rcases En (P:=P) (q:=q) (hs:=σ.hs) (os:=σ.hs) (k:=k) (l:=l)with e| ⟨T,c,d,e1,e2,e3⟩;·rw[e];exact(r.hs l).mono hk (fun _ _ _ _ _=>rfl) (Ext.refl _)
  ·rw[e3];have hob:=r.hs l;rw[e1]at hob;obtain⟨b,cs,q1,q2,q3,q4⟩:=hob;have hrd:=kF r.frzOK q4 e2;exact⟨b,cs,q1,q2,q3,.dat (by rw[Hq hrd];exact hrd.mono hk)⟩
theorem Zz:∀{m k i:Nat},i<m->(upto k m)[i]? =some (k+i)
 |0,k,i,h=>by omega
 |m+1,k,0,h=>rfl
 |m+1,k,i+1,h=>by simp only[upto,aZ];rw[Zz (by omega)];congr 1;omega
theorem ZA:∀{m k:Nat},(upto k m).length=m
 |0,_=>rfl
 |m+1,k=>by simp[upto,ZA]
theorem JX{hs:List Ob}{k0:Nat}{vs:List AV}{i:Nat}(h:i<k0):(LD hs k0 vs)[i]? =some i:=by unfold LD;rw[List.getElem?_append_left (by rw[ZA];exact h),Zz h,Nat.zero_add]
theorem Imp.relab:Imp P n σ (relab σ):=by
 rintro K w0 a w ⟨β,r⟩;unfold Am.relab;simp only;cases hb:nodupB (LD σ.hs σ.k0 σ.ts)with
 |false=>exact⟨β,r⟩
 |true=>exact⟨_,r.relabel _ (qU hb) (fun i hi=>JX hi) _ fun k=> .inr (aeI _ _ _)⟩
theorem Imp.nilAll:∀(ls:List Nat)(σ:St),Imp P n σ (nilAll P σ ls)
 | [],_=>Imp.refl
 |s::ls,σ=>by
  unfold Am.nilAll;refine Imp.trans ?_ (Imp.nilAll ls _);split;·exact Imp.nilBox _
  ·exact Imp.nilSlot _
theorem ajn{f:Ob->Ob}(hf:f .free= .free):∀(hs:List Ob)(k:Nat),lk (hs.map f) k=f (lk hs k)
 | [],k=>by simp[lk,hf]
 |v::r,0=>rfl
 |v::r,k+1=>by simp[lk,ajn hf r k]
theorem anP(l nm:Nat)(o:Ob):(mvO l nm o).isOwn=o.isOwn:=by cases o<;>rfl
theorem RA.mv{ok:Nat->Prop}{w:World}{β:Nat->Option Value}{l nm:Nat}{z:Value}{c:AV}{cs:List Value}(h1:β l=some z)(h2:β nm=some z)(h:RA P ok w β c cs):RA P ok w β (mvV l nm c) cs:=by
 unfold mvV;split
 ·rename_i k;cases hb:Nat.beq k l with
  |false=>exact h
  |true=>
   have e:=beq_eq hb;subst e;cases h with
   |    row h3 h4=>
        rw[h1]at h3;cases h3;exact .row h2 h4
 ·exact h
theorem RV.mv{ok:Nat->Prop}{w:World}{β:Nat->Option Value}{l nm:Nat}{z:Value}{c:AV}{x:Value}(h1:β l=some z)(h2:β nm=some z)(h:RV P ok w β c x):RV P ok w β (mvV l nm c) x:=by
 have e:∀k,c= .row k->RV P ok w β (mvV l nm (.row k)) x:=fun k hk=>by
  subst hk;have h':=RA.mv h1 h2 (h.2 rfl);cases hb:Nat.beq k l with
  |false=>simp only[mvV,hb,cond_false];exact h
  |true=>
   simp only[mvV,hb,cond_true]at h' ⊢
   exact⟨fun hi=>by simp[AV.isAgg]at hi,fun _=>h'⟩
 cases c with
 |row k=>exact e k rfl
 |_=>exact h
theorem RelB.mvAll(r:RelB P K w0 n σ a w β){l nm:Nat}{z:Value}(h1:β l=some z)(h2:β nm=some z):RelB P K w0 n ⟨σ.ts.map (mvV l nm),σ.hs.map (mvO l nm),σ.k0⟩ a w β:=by
 have hlk:∀k,lk (σ.hs.map (mvO l nm)) k=mvO l nm (lk σ.hs k):=fun k=>ajn rfl _ _;have hown:∀k b,owns (σ.hs.map (mvO l nm)) β k b↔owns σ.hs β k b:=fun k b=>by simp only[owns,hlk,anP]
 have hk:∀b,okOf K w0 w σ.hs β b->okOf K w0 w (σ.hs.map (mvO l nm)) β b∧w.heap[b]? =w.heap[b]? :=fun b hb=>⟨⟨hb.1,hb.2.1,fun k hk=>hb.2.2 k ((hown k b).1 hk)⟩,rfl⟩;refine⟨r.size,r.defers,r.below,fun k=>?_,fun k=>?_,fun k k' b q1 q2=>r.sep k k' b ((hown _ _).1 q1) ((hown _ _).1 q2),fun k b q1=>r.own k b ((hown _ _).1 q1),r.ext,r.kk,r.tab.mono hk⟩
 ·show RV P _ w β (tk (σ.ts.map (mvV l nm)) k) _;rw[abY rfl];exact RV.mv h1 h2 ((r.ts k).mono hk (Ext.refl _))
 ·show ObOK P _ w β (lk (σ.hs.map (mvO l nm)) k) _;rw[hlk];have h3:=(r.hs k).mono hk (fun _ _ _ _ _=>rfl) (Ext.refl _);cases ho:lk σ.hs k with
  |box T c=>
   rw[ho]at h3;obtain⟨b,cs,q1,q2,q3,q4⟩:=h3;exact⟨b,cs,q1,q2,q3,RA.mv h1 h2 q4⟩
  |row T es=>rw[ho]at h3;exact h3
  |rowA T vs=>rw[ho]at h3;exact h3
  |frz T es=>rw[ho]at h3;exact h3
  |map T es=>rw[ho]at h3;exact h3
  |rowD=>rw[ho]at h3;exact h3
  |tok=>rw[ho]at h3;exact h3
  |gone=>trivial
  |free=>rw[ho]at h3;exact h3
theorem Imp.mvAt(l:Nat):Imp P n σ (mvAt σ l):=by
 rintro K w0 a w ⟨β,r⟩;unfold Am.mvAt;cases hb:(Nat.blt l σ.k0&&Nat.ble σ.k0 σ.hs.length)with
 |false=>exact⟨β,r⟩
 |true=>
  simp only[cond_true];split
  ·rename_i T es hl;have hk0:σ.k0<=σ.hs.length:=aN (aQ hb);have hob:=r.hs l;rw[hl]at hob;have hob0:=hob;obtain⟨E,z,xs,hz,_⟩:=hob0;rw[hz]at hob;have r2:=r.take l σ.hs.length (.row T es) z w (by rw[hl];simp) (oo _ _ (ak _)) hk0 rfl rfl rfl (ak _) (fun _ _ _=>rfl) (fun b hb'=> .inr ⟨by rw[hl];rfl,z,hz,hb'⟩) (fun hext hk=>hob.mono hk (fun _ _ _ _ _=>rfl) hext);have hne:l≠σ.hs.length:=by have h5:l<σ.k0:=aN (bg hb);omega
   exact⟨_,r2.mvAll (l:=l) (nm:=σ.hs.length) (z:=z) (by rw[eH _ _ _ _ hne];exact hz) (dI _ _ _)⟩
  ·exact⟨β,r⟩
theorem Imp.mvSlot(t:Nat):Imp P n σ (mvSlot σ t):=by
 unfold Am.mvSlot;split;·exact Imp.mvAt _
 ·split;·exact Imp.mvAt _
  ·exact Imp.refl
 ·exact Imp.refl
theorem Imp.mvL:∀(ts:List Nat)(σ:St),Imp P n σ (mvL σ ts)
 | [],_=>Imp.refl
 |t::ts,σ=>(Imp.mvSlot t).trans (Imp.mvL ts _)
theorem Imp.unfAt(l:Nat):Imp P n σ (unfAt σ l):=by
 unfold Am.unfAt;split
 ·rename_i T5 T2 c k es i m hl;split
  ·rename_i T3 ls T4 ds hk hm;cases hb:(Nat.beq T3 T2&&(Nat.beq T4 T2&&Nat.ble σ.k0 σ.hs.length))with
   |false=>exact Imp.refl
   |    true=>
        have e1:=beq_eq (bg hb);have e2:=beq_eq (bg (aQ hb));subst e1 e2;rintro K w0 a w ⟨β,r⟩;exact r.unfocus hl hk hm (oo _ _ (ak _)) (aN (aQ (aQ hb)))
  ·exact Imp.refl
 ·exact Imp.refl
theorem Imp.unfL:∀(ls:List Nat)(σ:St),Imp P n σ (unfL σ ls)
 | [],_=>Imp.refl
 |l::ls,σ=>(Imp.unfAt l).trans (Imp.unfL ls _)
theorem Imp.frzDAt(l:Nat):Imp P n σ (frzDAt σ l):=by
 unfold Am.frzDAt;split
 ·rename_i T5 T2 c k es hl;split
  ·rename_i T3 ls hk;cases hb:Nat.beq T3 T2 with
   |false=>exact Imp.refl
   |    true=>
        have e1:=beq_eq hb;subst e1;exact Imp.freezeD hl hk
  ·exact Imp.refl
 ·exact Imp.refl
theorem Imp.toDAt(c:Option Nat)(l:Nat):Imp P n σ (toDAt P c σ l):=by
 unfold Am.toDAt;split
 ·rename_i T5 hl;split
  ·rename_i Te h1;split
   ·    rename_i T2 fo hf;split
        ·rename_i E2 h2;cases hb:Nat.ble σ.k0 σ.hs.length with
         |false=>exact Imp.refl
         |true=>
          rintro K w0 a w ⟨β,r⟩;exact r.toD hl (dJ h1) (Ij hf) (dJ h2) (oo _ _ (ak _)) (aN hb)
        ·exact Imp.refl
   ·exact Imp.refl
  ·exact Imp.refl
 ·exact Imp.refl
theorem Imp.deepC(cc l:Nat):Imp P n σ (deepC P σ cc l):=by
 unfold Am.deepC;cases Nat.beq cc 99;·exact Imp.toDAt _ _
 ·exact Imp.frzDAt _
theorem Imp.deep1(s cc:Nat):Imp P n σ (deep1 P σ s cc):=by
 unfold Am.deep1;split;·exact Imp.deepC _ _
 ·split;·exact Imp.deepC _ _
  ·exact Imp.refl
 ·exact Imp.refl
theorem Imp.deepL:∀(ts:List Nat)(σ:St),Imp P n σ (deepL P σ ts)
 | [],_=>Imp.refl
 |t::ts,σ=>by
  refine Imp.trans ?_ (Imp.deepL ts _);cases Nat.ble 2000000 t;·exact Imp.refl
  ·exact Imp.deep1 _ _
theorem Imp.norm(f:FuncId)(key:Nat):Imp P n σ (om P E f key σ):=by
 unfold om;split;·exact Imp.refl
 ·rename_i kp fz rw _;simp only;refine Imp.trans (Rel.congr (τ:=⟨yG kp (JZ kp) σ.ts 0,σ.hs,σ.k0⟩) (fun k=>aeJ kp (JZ kp) σ.ts 0 k) (fun _=>rfl) rfl) ?_;refine Imp.trans (Imp.frzN (Ib ⟨yG kp (JZ kp) σ.ts 0,σ.hs,σ.k0⟩ fz) ⟨yG kp (JZ kp) σ.ts 0,σ.hs,σ.k0⟩) ?_;refine Imp.trans (Imp.gonN (CX ⟨yG kp (JZ kp) σ.ts 0,σ.hs,σ.k0⟩ fz) ⟨yG kp (JZ kp) σ.ts 0,Am.frzN σ.hs (Ib ⟨yG kp (JZ kp) σ.ts 0,σ.hs,σ.k0⟩ fz),σ.k0⟩) ?_;refine Imp.trans (Imp.unfL (upto 0 (St.mk (yG kp (JZ kp) σ.ts 0) (Am.gonN (Am.frzN σ.hs (Ib ⟨yG kp (JZ kp) σ.ts 0,σ.hs,σ.k0⟩ fz)) (CX ⟨yG kp (JZ kp) σ.ts 0,σ.hs,σ.k0⟩ fz)) σ.k0).hs.length) _) ?_;refine Imp.trans (Imp.nilAll rw _) ?_;refine Imp.trans (Imp.mvL rw _) ?_;refine Imp.trans (Imp.deepL rw _) ?_;refine Imp.trans ?_ Imp.relab;rintro K w0 a w ⟨β,r⟩;exact⟨β,r.packAll _⟩
def Post(P:Program)(n:Nat)(k:Exit->St->Option R)(r:R):Exit->St->Prop:=fun e τ=>∃τ0,Imp P n τ τ0∧k e τ0=some r
def JOK(J:Nat->Nat->Nat->St->Option R->Option R):Prop:=∀a b c s x r,J a b c s x=some r->x=some r
theorem jn_ok:JOK (R:=R) jn:=fun _ _ _ _ _ _ h=>h
theorem FW{J:Nat->Nat->Nat->St->Option R->Option R}(hJ:JOK J){c:Code}{key:Nat}{head:St->St}{body:St->(Exit->St->Option R)->Option R}(hh:∀σ,Imp P n σ (head σ))(hb:∀σ k,body σ k=some r->CW P n c σ (Post P n k r)):∀{m:Nat}{σ:St}{k:Exit->St->Option R},LH J key head body m σ k=some r->CR P n c m σ (Post P n k r)
 |0,_,_,h=>by simp[LH]at h
 |m+1,σ,k,h=>by
  unfold LH at h;refine CR.step ((hb _ _ h).mono ?_);rintro e τ ⟨τ0,hi,hk⟩;cases e with
  |normal=>exact(FW hJ hh hb (hJ _ _ _ _ _ _ hk)).imp (hi.trans (hh _))
  |exit id=>exact⟨τ0,hi,hk⟩
  |goto l=>exact⟨τ0,hi,hk⟩
  |ret=>exact⟨τ0,hi,hk⟩
  |panic ch=>exact⟨τ0,hi,hk⟩
  |outgrown=>exact⟨τ0,hi,hk⟩
theorem ag5{J:Nat->Nat->Nat->St->Option R->Option R}(hJ:JOK J)(hcall:CallOK P call)(hmix:P.follows .mixedOrders=true)(m:Nat)(f:FuncId):∀(c:Code)(σ:St)(k:Exit->St->Option R),ev0 P E call J m f n c σ k=some r->CW P n c σ (Post P n k r):=by
 intro c;induction c with
 |skip=>intro σ k h;exact CW.skip ⟨σ,Imp.refl,by simpa [ev0]using h⟩
 |region id ops draw=>
  intro σ k h;have ea:ops=ops.toList.toArray:=by simp
  cases draw with
  |false=>
   simp only[ev0]at h;obtain⟨ds,τ,ht,hk⟩:=Da hcall h;rw[ea];exact CW.region ht.lw fun s e=>by rw[e];exact⟨τ,Imp.refl,hk⟩
  |true=>
   simp only[ev0]at h;obtain⟨ds,τ,ht,hk⟩:=Da hcall h;obtain⟨hc,hk⟩:=aO hk;rw[ea];refine OH hmix ht (bg hc) (by simpa using aQ hc) fun τ' he=>⟨τ,?_,hk⟩;exact StEq.imp ⟨fun t=>(he.ts t).symm,fun l=>(he.hs l).symm,he.k0.symm⟩
 |seq c1 c2 ih1 ih2=>
  intro σ k h;simp only[ev0]at h;refine CW.seq ((ih1 σ _ h).mono ?_);rintro e τ ⟨τ0,hi,hk⟩;cases e with
  |normal=>
   have hk':nextK P E J f (nextId c2) τ0 (fun s=>ev0 P E call J m f n c2 s k)=some r:=hk;unfold nextK at hk';split at hk';·exact(ih2 _ _ hk').imp hi
   ·exact(ih2 _ _ (hJ _ _ _ _ _ _ hk')).imp (hi.trans (Imp.norm _ _))
  |exit id=>exact⟨τ0,hi,hk⟩
  |goto l=>exact⟨τ0,hi,hk⟩
  |ret=>exact⟨τ0,hi,hk⟩
  |panic ch=>exact⟨τ0,hi,hk⟩
  |outgrown=>exact⟨τ0,hi,hk⟩
 |cond x c1 c2 ih1 ih2=>
  intro σ k h;simp only[ev0]at h;split at h
  ·rename_i t ht;obtain⟨T,d,e1,hu,rfl⟩:=wL ht;have hev:=vV (P:=P) (σ:=σ) (x:=x) (T:=0) (D:=E.dt);rw[e1]at hev;rcases dG h with⟨hb,h1⟩| ⟨hb,h1⟩;·exact CW.condT hu (hev.cbool hu) hb (ih1 σ k h1)
   ·exact CW.condF hu (hev.cbool hu) hb (ih2 σ k h1)
  ·cases h
 |block id c ih=>
  intro σ k h;simp only[ev0]at h;refine CW.block ((ih σ _ h).mono ?_);rintro e τ ⟨τ0,hi,hk⟩;cases e with
  |exit id'=>
   simp only[am5];replace hk:(bif Nat.beq id' id then k .normal τ0 else k (.exit id') τ0)=some r:=hk;cases hb:Nat.beq id' id with
   |true=>rw[hb]at hk;exact⟨τ0,hi,hk⟩
   |false=>rw[hb]at hk;exact⟨τ0,hi,hk⟩
  |normal=>exact⟨τ0,hi,hk⟩
  |goto l=>exact⟨τ0,hi,hk⟩
  |ret=>exact⟨τ0,hi,hk⟩
  |panic ch=>exact⟨τ0,hi,hk⟩
  |outgrown=>exact⟨τ0,hi,hk⟩
 |loop c ih=>
  intro σ k h;simp only[ev0]at h;exact CW.loop ((FW hJ (fun σ=>Imp.norm f (firstId c)) (fun σ k h=>ih σ k h) (hJ _ _ _ _ _ _ h)).imp (Imp.norm f (firstId c)))
 |rangeFunc=>intro σ k h;simp[ev0]at h
 |exit id=>intro σ k h;exact CW.exit ⟨σ,Imp.refl,by simpa [ev0]using h⟩
 |scope c ih=>
  intro σ k h;simp only[ev0]at h;have h1:=ih σ _ h;have h2:CW P n c σ (fun e τ=>(∀l,e≠ .goto l)∧Post P n k r e τ):=h1.mono (by
   rintro e τ ⟨τ0,hi,hk⟩;cases e with
   |goto l=>cases hk
   |normal=>exact⟨(fun l e=>by cases e),τ0,hi,hk⟩
   |exit id=>exact⟨(fun l e=>by cases e),τ0,hi,hk⟩
   |ret=>exact⟨(fun l e=>by cases e),τ0,hi,hk⟩
   |panic ch=>exact⟨(fun l e=>by cases e),τ0,hi,hk⟩
   |outgrown=>exact⟨(fun l e=>by cases e),τ0,hi,hk⟩)
  exact(CW.scope h2 fun l τ hc=>hc.1 l rfl).mono fun e τ hc=>hc.2
 |label l=>intro σ k h;exact CW.label ⟨σ,Imp.refl,by simpa [ev0]using h⟩
 |goto l=>intro σ k h;simp[ev0]at h
 |ret=>intro σ k h;exact CW.ret ⟨σ,Imp.refl,by simpa [ev0]using h⟩
 |refuse w=>intro σ k h;simp[ev0]at h
theorem anQ{c1 c2:Code}{q:Oper×Oper×Oper×Oper}(h:anC c1 c2=some q):(∃id,c1= .region id #[q.1,q.2.1,q.2.2.1,q.2.2.2] true)∧anB q.1 q.2.1 q.2.2.1 q.2.2.2=true∧q.1.guard=none∧q.2.1.guard=none∧q.2.2.1.guard=none∧q.2.2.2.guard=none:=by
 have hg:∀o:Oper,noG o=true->o.guard=none:=fun o h=>by
  unfold noG at h;split at h;·assumption
  ·cases h
 unfold anC at h;split at h
 ·rename_i id ops _ _ _;split at h
  ·rename_i o0 o1 o2 o3;obtain⟨hb,h⟩:=aO h;cases h;simp only[aK]at hb;obtain⟨_,_,_,h4,h5,h6,h7,h8⟩:=hb;exact⟨⟨id,rfl⟩,h4,hg _ h5,hg _ h6,hg _ h7,hg _ h8⟩
  ·cases h
 ·cases h
theorem anR{a b:St}(h:ai4 a b=true):a=b:=by
 have hob:∀{x y:List Ob},aeA x y=true->x=y:=by
  intro x;induction x with
  |nil=>intro y h;cases y with|nil=>rfl|cons=>cases h
  |cons o r ih=>
   intro y h;cases y with
   |nil=>cases h
   |    cons p s=>
        rw[aeA,aK,Bool.or_eq_true]at h;rw[ih h.2];rcases h.1 with h1|h1;·rw[aey h1]
        ·cases o<;>cases p<;>first|rfl|(unfold aug at h1;cases h1)
 unfold ai4 at h;simp only[aK]at h;obtain⟨h1,h2,h3⟩:=h;obtain⟨ts,hs,k0⟩:=a;obtain⟨ts',hs',k0'⟩:=b;have e1:ts=ts':=zX h1;have e2:hs=hs':=hob h2;have e3:k0=k0':=aU h3;rw[e1,e2,e3]
theorem Uw(hmix:P.follows .mixedOrders=true){m:Nat}{f:FuncId}{c:Code}{e:Exit}{s:St}(h:inn P E m f n c σ=some (e,s)):CW P n c σ fun e' τ=>e'=e∧Imp P n τ s:=by
 have hJ:JOK (R:=Exit×St) fun _ _ _ _ x=>x:=fun _ _ _ _ _ _ h=>h;have hcall:CallOK (R:=Exit×St) P fun _ _ _ _=>none:=by intro f args objs K r h;cases h
 refine(ag5 hJ hcall hmix m f c σ _ h).mono ?_;rintro e' τ ⟨τ0,hi,hk⟩;cases hk;exact⟨rfl,hi⟩
theorem ajo(hcall:CallOK P call)(hmix:P.follows .mixedOrders=true){m:Nat}{f:FuncId}{c1 c2:Code}{q:Oper×Oper×Oper×Oper}{k:Exit->St->Option R}(hq:anC c1 c2=some q)
  (h:(aqT P E call n q.1 q.2.1 q.2.2.1 q.2.2.2 σ fun σA σB=>match inn P E m f n c2 σA,inn P E m f n c2 σB with
   |    some (.normal,s1),some (.normal,s2)=>(match mrg P E f q.1.dst s1 s2 with
        |some s=>k .normal s
        |none=>none)
   |_,_=>none)=some r):CW P n (.seq c1 c2) σ (Post P n k r):=by
 obtain⟨⟨id,rfl⟩,hc,g0,g1,g2,g3⟩:=anQ hq;obtain⟨o0,o1,o2,o3⟩:=q;simp only at h hc g0 g1 g2 g3 ⊢
 unfold aqT at h;have refl:∀(o:Oper)(s:St)(rd:List Nat),Agr o s s rd:=fun o s rd=>⟨fun _ _=>rfl,fun _ _=>rfl,rfl⟩;obtain⟨d0,h,t0⟩:=pK hcall h;obtain⟨d1,h,t1⟩:=pK hcall h;obtain⟨d2,h,t2⟩:=pK hcall h;obtain⟨d3,h,t3⟩:=pK hcall h;obtain⟨e2,h,u2⟩:=pK hcall h;obtain⟨e1,h,u1⟩:=pK hcall h;obtain⟨e3,h,u3⟩:=pK hcall h;dsimp only at h;split at h
 ·rename_i s1 s2 hA hB;split at h
  ·rename_i s hs;unfold mrg at hs;obtain⟨hb,hs⟩:=aO hs;have he:=anR hb;cases hs;have pA:=Uw hmix hA;have pB:=Uw hmix hB;refine CW.seq (WZ hmix (Ψ:=fun e τ=>_) hc (.plain g0 (t0 _ (refl _ _ _))) (.plain g1 (t1 _ (refl _ _ _))) (.plain g2 (t2 _ (refl _ _ _))) (.plain g3 (t3 _ (refl _ _ _))) (.plain g2 (u2 _ (refl _ _ _))) (.plain g1 (u1 _ (refl _ _ _))) (.plain g3 (u3 _ (refl _ _ _))) ?_ ?_)
   ·    refine pA.mono ?_;rintro e' τ ⟨rfl,hi⟩;exact⟨_,hi.trans (Imp.norm _ _),h⟩
   ·    refine pB.mono ?_;rintro e' τ ⟨rfl,hi⟩;refine⟨_,hi.trans (Imp.norm (E:={E with keep:=fun _ _=>some (rmD o0.dst (agN 0 s1.ts s2.ts),[],[])}) f 1),?_⟩;rw[←he];exact h
  ·cases h
 ·cases h
theorem ajp{J:Nat->Nat->Nat->St->Option R->Option R}(hJ:JOK J)(hcall:CallOK P call)(hmix:P.follows .mixedOrders=true)(m:Nat)(f:FuncId):∀(c:Code)(σ:St)(k:Exit->St->Option R),ev P E call J m f n c σ k=some r->CW P n c σ (Post P n k r):=by
 intro c;induction c with
 |skip=>intro σ k h;exact CW.skip ⟨σ,Imp.refl,by simpa [ev]using h⟩
 |region id ops draw=>
  intro σ k h;have ea:ops=ops.toList.toArray:=by simp
  cases draw with
  |false=>
   simp only[ev]at h;obtain⟨ds,τ,ht,hk⟩:=Da hcall h;rw[ea];exact CW.region ht.lw fun s e=>by rw[e];exact⟨τ,Imp.refl,hk⟩
  |true=>
   simp only[ev]at h;obtain⟨ds,τ,ht,hk⟩:=Da hcall h;obtain⟨hc,hk⟩:=aO hk;rw[ea];refine OH hmix ht (bg hc) (by simpa using aQ hc) fun τ' he=>⟨τ,?_,hk⟩;exact StEq.imp ⟨fun t=>(he.ts t).symm,fun l=>(he.hs l).symm,he.k0.symm⟩
 |seq c1 c2 ih1 ih2=>
  intro σ k h;simp only[ev]at h;split at h
  rotate_left
  ·rename_i q hq;exact ajo hcall hmix hq h
  refine CW.seq ((ih1 σ _ h).mono ?_);rintro e τ ⟨τ0,hi,hk⟩;cases e with
  |normal=>
   have hk':nextK P E J f (nextId c2) τ0 (fun s=>ev P E call J m f n c2 s k)=some r:=hk;unfold nextK at hk';split at hk';·exact(ih2 _ _ hk').imp hi
   ·exact(ih2 _ _ (hJ _ _ _ _ _ _ hk')).imp (hi.trans (Imp.norm _ _))
  |exit id=>exact⟨τ0,hi,hk⟩
  |goto l=>exact⟨τ0,hi,hk⟩
  |ret=>exact⟨τ0,hi,hk⟩
  |panic ch=>exact⟨τ0,hi,hk⟩
  |outgrown=>exact⟨τ0,hi,hk⟩
 |cond x c1 c2 ih1 ih2=>
  intro σ k h;simp only[ev]at h;split at h
  ·rename_i t ht;obtain⟨T,d,e1,hu,rfl⟩:=wL ht;have hev:=vV (P:=P) (σ:=σ) (x:=x) (T:=0) (D:=E.dt);rw[e1]at hev;rcases dG h with⟨hb,h1⟩| ⟨hb,h1⟩;·exact CW.condT hu (hev.cbool hu) hb (ih1 σ k h1)
   ·exact CW.condF hu (hev.cbool hu) hb (ih2 σ k h1)
  ·cases h
 |block id c ih=>
  intro σ k h;simp only[ev]at h;refine CW.block ((ih σ _ h).mono ?_);rintro e τ ⟨τ0,hi,hk⟩;cases e with
  |exit id'=>
   simp only[am5];replace hk:(bif Nat.beq id' id then k .normal τ0 else k (.exit id') τ0)=some r:=hk;cases hb:Nat.beq id' id with
   |true=>rw[hb]at hk;exact⟨τ0,hi,hk⟩
   |false=>rw[hb]at hk;exact⟨τ0,hi,hk⟩
  |normal=>exact⟨τ0,hi,hk⟩
  |goto l=>exact⟨τ0,hi,hk⟩
  |ret=>exact⟨τ0,hi,hk⟩
  |panic ch=>exact⟨τ0,hi,hk⟩
  |outgrown=>exact⟨τ0,hi,hk⟩
 |loop c ih=>
  intro σ k h;simp only[ev]at h;exact CW.loop ((FW hJ (fun σ=>Imp.norm f (firstId c)) (fun σ k h=>ih σ k h) (hJ _ _ _ _ _ _ h)).imp (Imp.norm f (firstId c)))
 |rangeFunc=>intro σ k h;simp[ev]at h
 |exit id=>intro σ k h;exact CW.exit ⟨σ,Imp.refl,by simpa [ev]using h⟩
 |scope c ih=>
  intro σ k h;simp only[ev]at h;have h1:=ih σ _ h;have h2:CW P n c σ (fun e τ=>(∀l,e≠ .goto l)∧Post P n k r e τ):=h1.mono (by
   rintro e τ ⟨τ0,hi,hk⟩;cases e with
   |goto l=>cases hk
   |normal=>exact⟨(fun l e=>by cases e),τ0,hi,hk⟩
   |exit id=>exact⟨(fun l e=>by cases e),τ0,hi,hk⟩
   |ret=>exact⟨(fun l e=>by cases e),τ0,hi,hk⟩
   |panic ch=>exact⟨(fun l e=>by cases e),τ0,hi,hk⟩
   |outgrown=>exact⟨(fun l e=>by cases e),τ0,hi,hk⟩)
  exact(CW.scope h2 fun l τ hc=>hc.1 l rfl).mono fun e τ hc=>hc.2
 |label l=>intro σ k h;exact CW.label ⟨σ,Imp.refl,by simpa [ev]using h⟩
 |goto l=>intro σ k h;simp[ev]at h
 |ret=>intro σ k h;exact CW.ret ⟨σ,Imp.refl,by simpa [ev]using h⟩
 |refuse w=>intro σ k h;simp[ev]at h
def Bn(tmps:Array Value):ResultVar->Sem Value
 | .tmp t=>pure (tmps.getD t undef)
 | .cell a t=>do loadVar t (←asAddr (tmps.getD a undef))
theorem OJ(r:RelB P K w0 n σ a w β):∀{rs:List ResultVar}{vs:List AV},abO P σ rs=some vs->
   ∃zs:List Value,(rs.mapM (Bn a.tmps)).run P w= .ok zs w∧RVsX P (okOf K w0 w σ.hs β) w β vs zs∧∀v∈vs,v≠ .dead∧∀us,v≠ .tup us
 | [],vs,h=>by
   have h':some []=some vs:=by simpa [abO]using h
   cases h';exact⟨[],rfl,.nil,by simp⟩
 | .tmp t::rs,vs,h=>by
   unfold abO at h;split at h;·cases h
   ·cases h
   ·rename_i h3 h4;split at h
    ·   rename_i us hus;cases h;obtain⟨zs,q1,q2,q3⟩:=OJ r hus;refine⟨a.tmps.getD t undef::zs,by simp[List.mapM_cons,Bn,q1],.cons (r.ts t) q2,fun v hv=>?_⟩;rcases List.mem_cons.1 hv with e|hv;·subst e;exact⟨h3,fun us e=>h4 us e⟩
        ·exact q3 v hv
    ·cases h
 | .cell p T::rs,vs,h=>by
   unfold abO at h;split at h
   ·rename_i l hp;split at h
    ·   rename_i T' c hl;obtain⟨hc,h2⟩:=aO h;clear h;have e:=beq_eq (bg hc);subst e;obtain⟨s1,s2,⟨D,hD⟩,s4,s5⟩:=lS (bg (aQ hc));have hag:c.isAgg P=eu P T':=by simpa using aQ (aQ hc)
        split at h2
        ·rename_i us hus;cases h2;obtain⟨zs,q1,q2,q3⟩:=OJ r hus;have hr:=r.ts p;rw[hp]at hr;have hr':=hr.2 rfl;generalize hz:a.tmps.getD p undef=z at hr';cases hr' with
         | @ptr _ b _ _ hb=>
           have hob:=r.hs l;rw[hl,hb]at hob;obtain⟨b',cs,e,hblk,hsz,hra⟩:=hob;cases e;obtain⟨zv,hrun,hrv⟩:=Ea (P:=P) (T:=T') (v:=c) (ok:=okOf K w0 w σ.hs β) (w:=w) (β:=β) (ad:=⟨b,0,none⟩) (cs:=cs.toList) hD (by simpa using hsz)
            (fun j u hj=>by rw[qY,Nat.zero_add,cell_of_row w b j cs T' (0,0) hblk];simpa using hj) (fun hf=>s4 (by rw[hag];exact hf)) hag hra s2
           refine⟨zv::zs,?_,.cons hrv q2,fun v hv=>?_⟩
           ·simp only[Instr.loadAt,Instr.sureAddr,Sem.run_bind,Sem.run_pure,Result.andThen_ok]at hrun;simp[List.mapM_cons,Bn,hz,asAddr,hrun,q1]
           ·rcases List.mem_cons.1 hv with e|hv;·subst e;exact⟨s1,s2⟩
            ·exact q3 v hv
        ·cases h2
    ·cases h
   ·cases h
theorem abZ{fn:Func}{zs:List Value}(hm:(fn.results.toList.mapM (Bn a.tmps)).run P w= .ok zs w):(results fn a.tmps).run P w= .ok (if h:zs.toArray.size=1 then zs.toArray[0]else .tuple zs.toArray) w:=by
 have hm:(fn.results.mapM (Bn a.tmps)).run P w= .ok zs.toArray w:=by
  have:fn.results.mapM (Bn a.tmps)=(fn.results.toList.mapM (Bn a.tmps))>>=fun l=>pure l.toArray:=by rw[Array.mapM_eq_mapM_toList];rfl
  rw[this,Sem.run_bind,hm];rfl
 have:results fn a.tmps=(fn.results.mapM (Bn a.tmps))>>=fun vs=>pure (if h:vs.size=1 then vs[0]else .tuple vs):=by
  unfold results;have hf:(fun x=>match x with| .tmp t=>pure (a.tmps.getD t undef)| .cell a_1 t=>do loadVar t (←asAddr (a.tmps.getD a_1 undef)):ResultVar->Sem Value)=Bn a.tmps:=by funext x;cases x<;>rfl
  rw[←hf];rfl
 rw[this,Sem.run_bind,hm];rfl
theorem RVsX.pack{ok:Nat->Prop}{vs:List AV}{zs:List Value}(h:RVsX P ok w β vs zs)(hv:∀v∈vs,v≠ .dead∧∀us,v≠ .tup us):RV P ok w β (yB vs) (if h:zs.toArray.size=1 then zs.toArray[0]else .tuple zs.toArray):=by
 match vs,zs,h,hv with
 | [v],[z],.cons h .nil,_=>simpa [yB]using h
 | [],[],.nil,_=>exact⟨#[],by simp,rfl,fun i av hv=>by simp at hv⟩
 |v1::v2::vr,z1::z2::zr,h,hv=>
  refine⟨(z1::z2::zr).toArray,by simp,by simpa using h.len,fun i av hav=>?_⟩;obtain⟨z,q1,q2⟩:=h.get i av hav;obtain⟨q3,q4⟩:=hv av (aW hav);have e:(z1::z2::zr).toArray.getD i undef=z:=by simp only[Array.getD_eq_getD_getElem?,List.getElem?_toArray,q1,Option.getD_some]
  rw[e];exact RV.to1 q3 q4 q2
theorem RVsX.mapC{ok:Nat->Prop}{hs:List Ob}{vs:List AV}{zs:List Value}(hf:Fa P ok w β hs)(hfa:∀l T es,lk hs l= .frz T es->eu P T=false)(h:RVsX P ok w β vs zs):RVsX P ok w β (vs.map (pkC P hs)) zs:=by
 induction h with
 |nil=>exact .nil
 |cons h _ ih=>exact .cons (h.pkC hf hfa) ih
theorem OL{src:List Nat}{ρ:Nat->Option Nat}{hs:List Ob}:∀b,okOf K w0 w hs β b->okOf K w0 w (vI ρ hs src) (vJ src β) b∧w.heap[b]? =w.heap[b]? :=by rintro b ⟨h1,h2,h3⟩;refine⟨⟨h1,h2,fun k hk=>?_⟩,rfl⟩;obtain⟨l,_,h5⟩:=Ab hk;exact h3 l h5
theorem LQ{ρ:Nat->Option Nat}:∀vs:List AV,(yB vs).ren ρ=yB (AV.renL ρ vs)
 | []=>rfl
 | [v]=>rfl
 |_::_::_=>rfl
theorem ag6{f:FuncId}{fn:Func}{q:Res}(r:RelB P K w0 n σ a w β)(h:fin P E f fn σ=some q):∃z β',(results fn a.tmps).run P w= .ok z w∧RelB P K w0 n ⟨[],q.2,σ.k0⟩ a w β'∧RV P (okOf K w0 w q.2 β') w β' q.1 z:=by
 unfold fin at h;split at h
 ·rename_i vs hvs;obtain⟨zs,q1,q2,q3⟩:=OJ r hvs;have hres:=abZ (fn:=fn) q1;cases hraw:E.raw f with
  |true=>
   rw[hraw]at h;simp only[cond_true]at h;obtain⟨src,hsrc⟩:∃src,LD (BS σ.hs σ.hs.length (AV.n2rL P vs σ.hs.length).2) σ.k0 (AV.n2rL P vs σ.hs.length).1=src:=⟨_,rfl⟩;rw[hsrc]at h;obtain⟨hc,h3⟩:=aO h;clear h;obtain⟨hc2,h4⟩:=aO h3;clear h3;cases h4;have hk0:σ.k0<=σ.hs.length:=aN (aQ hc);obtain⟨β1,r1,ex1,nb1,ok1⟩:=Oy (P:=P) (n:=n) _ σ K w0 w a β σ.hs.length r (WW P vs σ.hs.length) (fun i h3 h4=>oo _ _ h3) hk0;have r2:=r1.relabel src (qU (bg hc)) (fun i hi=>by rw[←hsrc];exact JX hi) [] (fun k=> .inl rfl);have hv1:=(q2.mono (fun b hb=>⟨ok1 b hb,rfl⟩) ex1).n2r _ nb1;have hv2:=(hv1.mono (OL (src:=src) (ρ:=ix src)) (Ext.refl _)).ren (Bp src β1);refine⟨_,_,hres,r2,?_⟩;show RV P _ w _ ((yB _).ren _) _;rw[LQ];exact hv2.pack (noDead_get hc2)
  |false=>
   rw[hraw]at h;simp only[cond_false]at h;obtain⟨src,hsrc⟩:∃src,LD (frzN σ.hs (AV.rwsL vs)) σ.k0 (vs.map (pkC P (frzN σ.hs (AV.rwsL vs))))=src:=⟨_,rfl⟩;rw[hsrc]at h;obtain⟨hc,h3⟩:=aO h;clear h;obtain⟨hc2,h4⟩:=aO h3;clear h3;cases h4;have r1:=r.frzN (ls:=AV.rwsL vs);have r2:=r1.relabel src (qU hc) (fun i hi=>by rw[←hsrc];exact JX hi) [] (fun k=> .inl rfl);have hv1:=(q2.mono (fun b hb=>⟨⟨hb.1,hb.2.1,fun l hl=>hb.2.2 l (Uv hl)⟩,rfl⟩) (Ext.refl _)).mapC r1.frzOK r1.frzAgg;have hv2:=(hv1.mono (OL (src:=src) (ρ:=ix src)) (Ext.refl _)).ren (Bp src β);refine⟨_,_,hres,r2,?_⟩;show RV P _ w _ ((yB _).ren _) _;rw[LQ];exact hv2.pack (noDead_get hc2)
 ·cases h
where noDead_get:∀{vs:List AV},Oq vs=true->∀v∈vs,v≠ .dead∧∀us,v≠ .tup us
 | [],_,v,hv=>by simp at hv
 |u   ::r,h,v,hv=>by
  unfold Oq at h;rcases List.mem_cons.1 hv with e|hv
  ·   subst e;have:=bg h;split at this;·cases this
      ·cases this
      ·rename_i h3 h4;exact⟨h3,fun us e=>h4 us e⟩
  ·exact noDead_get (aQ h) v hv
structure EnvOK (P:Program) (E:Env):Prop where
 fns:∀f fn,E.fns f=some fn->P.funcs[f]? =some fn∧(fn.name== "runtime.NumGoroutine")=false
 orc:∀f oc args objs(q:Res),E.orc f=some oc->oc args objs=some q->FX P f args objs q.1 q.2∧HasBody P f
 mix:P.follows .mixedOrders=true
theorem ajq:∀(vs:List AV)(k:Nat),vs.length<=k->tk vs k= .dead
 | [],_,_=>rfl
 |_::r,0,h=>by simp at h
 |_::r,k+1,h=>by simp only[tk];exact ajq r k (by simpa using h)
theorem Imp.mvAll:∀(rs:List ResultVar)(σ:St),Imp P n σ (mvAll σ rs)
 | [],_=>Imp.refl
 | .tmp t::rs,σ=>(Imp.mvSlot t).trans (Imp.mvAll rs _)
 | .cell _ _::rs,σ=>Imp.mvAll rs σ
theorem ZB:∀(ls:List Nat)(hs:List Ob)(l:Nat),(∀T es,lk hs l≠ .row T es)->lk (Am.frzN hs ls) l=lk hs l
 | [],_,_,_=>rfl
 |k::ls,hs,l,h=>by
  have h1:lk (frz1 hs k) l=lk hs l:=by
   unfold frz1;split
   ·    rename_i T es hk;refine bE _ _ _ _ fun e=>?_;subst e;exact h _ _ hk
   ·rfl
  show lk (Am.frzN (frz1 hs k) ls) l=lk hs l;rw[ZB ls (frz1 hs k) l (by rw[h1];exact h),h1]
theorem OM{Te:TypeId}{hs:List Ob}{ok:Nat->Prop}{w:World}{β:Nat->Option Value}(hf:Fa P ok w β hs):∀{vs:List AV}{ds:List Dt},zW P hs Te vs=some ds->vs.length=ds.length∧∀(i:Nat)(d:Dt),ds[i]? =some d->∃v,vs[i]? =some v∧∀cs,RA P ok w β v cs->RD P ok w Te d cs
 | [],ds,h=>by
   have h':some []=some ds:=by simpa [zW]using h
   cases h';exact⟨rfl,fun i d hd=>by simp at hd⟩
 | v::vs,ds,h=>by
   unfold zW at h;split at h
   ·rename_i T d hp;obtain⟨hc,h2⟩:=aO h;split at h2
    ·   rename_i ds' hds;cases h2;obtain⟨q1,q2⟩:=OM hf hds;refine⟨by simp[q1],fun i d' hd=>?_⟩;cases i with
        |zero=>
         simp only[bf,aG]at hd;subst hd;exact⟨v,rfl,fun cs hr=>(kF hf hr hp).compat (bg hc)⟩
        |succ i=>
         simp only[aZ]at hd;obtain⟨v',h1,h2⟩:=q2 i d' hd;exact⟨v',by simpa using h1,h2⟩
    ·cases h2
   ·cases h
theorem Imp.flat1(l:Nat):Imp P n σ (flat1 P σ l):=by
 unfold Am.flat1;split
 ·rename_i T vs hl;split
  ·rename_i Te hTe;split
   ·    rename_i ds hds;refine Imp.trans (Imp.frzN (AV.rwsL vs) σ) ?_;rintro K w0 a w ⟨β,r⟩;have hl2:lk (Am.frzN σ.hs (AV.rwsL vs)) l= .rowA T vs:=by rw[ZB _ _ _ (by intro T' es;rw[hl];simp)];exact hl
        have hob:=r.hs l;have hl3:lk (St.mk σ.ts (Am.frzN σ.hs (AV.rwsL vs)) σ.k0).hs l= .rowA T vs:=hl2;rw[hl3]at hob;obtain⟨E',z,xs,hz,hu,hown,hone,hr⟩:=hob;obtain rfl:Te=E':=by have:=dJ hTe;rw[this]at hu;cases hu;rfl
        obtain⟨q1,q2⟩:=OM r.frzOK hds;refine⟨_,r.upd l (.row T ds) (β l) w (.inl rfl) rfl rfl rfl (ak _) (fun _ _ _=>rfl) (fun z2 b2 _ hz2 hb2=> .inr ⟨by rw[hl3];rfl,z2,hz2,hb2⟩) fun hx hk=>?_⟩;refine⟨Te,z,xs,hz,hu,by rw[←q1];exact hown,hone,fun i d hd=>?_⟩;obtain⟨v,h1,h2⟩:=q2 i d hd;exact(h2 _ (hr i v h1)).mono hk
   ·exact Imp.refl
  ·exact Imp.refl
 ·exact Imp.refl
theorem Imp.flatL:∀(ls:List Nat)(σ:St),Imp P n σ (flatL P σ ls)
 | [],_=>Imp.refl
 |l::ls,σ=>(Imp.flat1 l).trans (Imp.flatL ls _)
theorem Imp.exitSt(f:FuncId)(fn:Func):Imp P n σ (exitSt P E f fn σ):=by
 unfold Am.exitSt;cases E.raw f with
 |true=>exact(Imp.norm f 1000000).trans (Imp.mvAll _ _)
 |false=>exact(Imp.norm f 1000000).trans (Imp.flatL _ _)
structure Sim (P:Program) (b q:Res):Prop where
 val:∀(ok:Nat->Prop)(w:World)(β:Nat->Option Value)(z:Value),RV P ok w β b.1 z->RV P ok w β q.1 z
 own:∀l,(lk q.2 l).isOwn=(lk b.2 l).isOwn
 obs:∀l(ok:Nat->Prop)(w:World)(β:Nat->Option Value)(v:Option Value),ObOK P ok w β (lk b.2 l) v->ObOK P ok w β (lk q.2 l) v
theorem Sim.refl(q:Res):Sim P q q:=⟨fun _ _ _ _ h=>h,fun _=>rfl,fun _ _ _ _ _ h=>h⟩
theorem FX_of{f:FuncId}{fn:Func}{c:Code}{args:List AV}{objs:List Ob}{m:Nat}{q:Res}{J:Nat->Nat->Nat->St->Option R->Option R}(hJ:JOK J)(hcall:CallOK P call)(hmix:P.follows .mixedOrders=true)(hf:P.funcs[f]? =some fn)(hc:fn.body=some c)(hlen':args.length<=fn.ntmps){dec:Res->Option R}
  (hd:∀(b:Res),dec b=some r->Sim P b q)
  (h:ev P E call J m f fn.ntmps c ⟨args,objs,objs.length⟩ (fun e σ=>(WO P E f fn e σ).bind dec)=some r):FX P f args objs q.1 q.2:=by
 have hcw:=ajp hJ hcall hmix m f c _ _ h;intro ok w β xs hok hobs hsep hxs htab;refine calls_of_wp hf hc ?_;have hxl:=hxs.len;have hkk:∀b,ok b->okOf ⟨ok,XO objs β,β,objs.length⟩ w w objs β b∧w.heap[b]? =w.heap[b]? :=fun b hb'=>⟨⟨(hok b hb').1,fun _=> .inl hb',fun l ho=>(hok b hb').2 ⟨l,ho⟩⟩,rfl⟩;have hrel:Rel P ⟨ok,XO objs β,β,objs.length⟩ w fn.ntmps ⟨args,objs,objs.length⟩ {tmps:=xs.toArray++Array.replicate (fn.ntmps-xs.toArray.size) undef,defers:=[]} w:=by
  refine⟨β,⟨by simp;omega,rfl,BelowX.refl _ _,fun k=>?_,fun l=>(hobs l).mono hkk (fun _ _ _ _ _=>rfl) (Ext.refl _),hsep,fun l b ho=> .inr ⟨l,ho⟩,fun l _=>rfl,rfl,htab.mono hkk⟩⟩;rcases Nat.lt_or_ge k xs.length with hlt|hge
  ·have e:(xs.toArray++Array.replicate (fn.ntmps-xs.toArray.size) undef).getD k undef=xs.getD k undef:=by rw[Array.getD_eq_getD_getElem?,Array.getElem?_append_left (by simpa using hlt)];simp[List.getD]
   rw[e];exact(hxs.tk k).mono hkk (Ext.refl _)
  ·have e:tk args k= .dead:=ajq _ _ (by omega);show RV P _ w β (tk args k) _;rw[e];trivial
 refine hcw _ w _ w hrel _ ?_;rintro e τ a' w' ⟨τ0,himp,hfin⟩ rr;obtain⟨β',r'⟩:=(himp.trans (Imp.exitSt (E:=E) f fn)) _ _ _ _ rr;obtain⟨b,hfin,hdec⟩:=au.1 hfin;have hsim:=hd b hdec;have key:(e= .ret∨e= .normal)∧fin P E f fn (exitSt P E f fn τ0)=some b:=by
  unfold WO at hfin;split at hfin;·exact⟨.inl rfl,hfin⟩
  ·exact⟨.inr rfl,hfin⟩
  ·cases hfin
 obtain⟨hek,hfin⟩:=key;obtain⟨z,β2,hrun,r2,hz⟩:=ag6 r' hfin;have hown:∀l b2,owns q.2 β2 l b2↔owns b.2 β2 l b2:=fun l b2=>by simp only[owns,hsim.own]
 have hoks:∀b2,okOf ⟨ok,XO objs β,β,objs.length⟩ w w' b.2 β2 b2->okOf ⟨ok,XO objs β,β,objs.length⟩ w w' q.2 β2 b2∧w'.heap[b2]? =w'.heap[b2]? :=fun b2 hb=>⟨⟨hb.1,hb.2.1,fun l hl=>hb.2.2 l ((hown l b2).1 hl)⟩,rfl⟩;have hF:FinX P ok w w' β β2 objs q.2:=⟨r2.below,fun l=>hsim.obs l _ _ _ _ ((r2.hs l).mono hoks (fun _ _ _ _ _=>rfl) (Ext.refl _)),fun l l' b2 h1 h2=>r2.sep l l' b2 ((hown _ _).1 h1) ((hown _ _).1 h2),fun l b2 h1=>r2.own l b2 ((hown _ _).1 h1),fun l hl=>r2.ext l hl⟩;have hz2:=hsim.val _ _ _ _ (hz.mono hoks (Ext.refl _));rcases hek with rfl|rfl;·exact⟨r'.defers,z,hrun,z,β2,rfl,hF,hz2⟩
 ·exact⟨r'.defers,z,hrun,z,β2,rfl,hF,hz2⟩
theorem JY(he:EnvOK P E):∀(m:Nat)(f:FuncId)(args:List AV)(objs:List Ob)(q:Res),run P E m f args objs=some q->FX P f args objs q.1 q.2∧HasBody P f
 |0,_,_,_,_,h=>by simp[run]at h
 |m+    1,f,args,objs,q,h=>by
  unfold run at h;split at h
  ·rename_i oc hoc;exact he.orc f oc args objs q hoc h
  ·split  at h
   ·    rename_i fn hfn;obtain⟨hf,hname⟩:=he.fns f fn hfn;split at h
        ·rename_i c hc;obtain⟨hlen,h⟩:=aO h;refine⟨?_,⟨fn,hf,by rw[hc];rfl,hname⟩⟩;refine FX_of (r:=q) (dec:=some) jn_ok (fun f args objs K r hr=>by obtain⟨q',h1,h2⟩:=au.1 hr;exact⟨q',h2,JY he m f args objs q' h1⟩) he.mix hf hc (aN hlen) (fun b hb=>by cases hb;exact Sim.refl _) (E:=E) (m:=m+1) ?_
         have e:(fun e σ=>(WO P E f fn e σ).bind some)=WO P E f fn:=by funext e σ;cases WO P E f fn e σ<;>rfl
         rw[e];exact h
        ·cases h
   ·cases h
end
def xk:Code->List Nat->Code
 | .seq a _,0::p=>xk a p
 | .seq _ b,_::p=>xk b p
 | .cond _ a _,0::p=>xk a p
 | .cond _ _ b,_::p=>xk b p
 | .block _ c,_::p=>xk c p
 | .loop c,_::p=>xk c p
 | .scope c,_::p=>xk c p
 |c,_=>c
section
variable{R:Type}(P:Program)(E:Env)(call:FuncId->List AV->List Ob->(Res->Option R)->Option R)(J:Nat->Nat->Nat->St->Option R->Option R)(m:Nat)(f:FuncId)(n:Nat)
def Bo:Code->List Nat->List Nat->(Exit->St->Option R)->Exit->St->Option R
 | .seq a b,0::p,ms,k=>Bo a p ms (ai3 (fun σ'=>nextK P E J f (nextId b) σ' fun s=>ev P E call J m f n b s k) k)
 | .seq _ b,_::p,ms,k=>Bo b p ms k
 | .cond _ a _,0::p,ms,k=>Bo a p ms k
 | .cond _ _ b,_::p,ms,k=>Bo b p ms k
 | .block id c,_::p,ms,k=>Bo c p ms (abM id k)
 | .loop c,_::p,M::ms,k=>Bo c p ms (ai3 (fun σ'=>J 1 (firstId c) M (om P E f (firstId c) σ') (LH J (firstId c) (om P E f (firstId c)) (ev P E call J m f n c) M (om P E f (firstId c) σ') k)) k)
 | .scope c,_::p,ms,k=>Bo c p ms (abN k)
 |_,_,_,k=>k
def finD(fn:Func)(dec:Res->Option R)(e:Exit)(σ:St):Option R:=(WO P E f fn e σ).bind dec
def bodyOf(fn:Func):Code:=fn.body.getD .skip
def evAt(fn:Func)(dec:Res->Option R)(p ms:List Nat)(σ:St):Option R:=ev P E call J m f n (xk (bodyOf fn) p) σ (Bo P E call J m f n (bodyOf fn) p ms (finD P E f fn dec))
def ajr:Code->Code
 | .loop c=>c
 |c=>c
def loopAt(fn:Func)(dec:Res->Option R)(p ms:List Nat)(M:Nat)(σ:St):Option R:=
 LH J (firstId (ajr (xk (bodyOf fn) p))) (om P E f (firstId (ajr (xk (bodyOf fn) p)))) (ev P E call J m f n (ajr (xk (bodyOf fn) p))) M σ (Bo P E call J m f n (bodyOf fn) p ms (finD P E f fn dec))
end
def auu(ts:List AV):List (Nat×AV)->List AV
 | []=>ts
 |(k,v)::r=>auu (zT ts k v) r
def tsOf(l:List (Nat×AV)):List AV:=auu [] l
def jj{A:Type}(J:Nat->Nat->Nat->St->A->A)(a b c:Nat)(s:St)(e:St->A):A:=J a b c s (e s)
theorem aM{A:Type}(a b c:Nat)(s:St)(e:St->A):jj jn a b c s e=e s:=by rw[jj];rfl
section
variable{R:Type}{P:Program}{E:Env}{call:FuncId->List AV->List Ob->(Res->Option R)->Option R}{m n M:Nat}{f:FuncId}{fn:Func}{dec:Res->Option R}{p ms:List Nat}{σ:St}{g:(Nat->Nat->Nat->St->Option R->Option R)->Option R}{r:Option R}
end
end Go.Am
namespace Go.Am
open Go.RowKit Dt
section
variable{P:Program}{T:TypeId}{A:Type}{u v:AV}{us vs:List AV}
structure Cv (P:Program) (T:TypeId) (f:Dt->A) (g:A->Dt):Prop where
 rd:∀(ok:Nat->Prop)(w:World)(cs:List Value)(d:Dt),RD P ok w T d cs->RD P ok w T (g (f d)) cs
theorem Cv.int{k:IntKind}(hu:P.underlying T=some (.int k)):Cv P T toInt int:=⟨fun _ _ _ _ h=>by have:=(h.int_inv hu).1;rw[←this];exact h⟩
theorem Cv.bool(hu:P.underlying T=some .bool):Cv P T Dt.toBool bool:=⟨fun _ _ _ _ h=>by have:=(h.bool_inv hu).1;rw[←this];exact h⟩
theorem Cv.str(hu:P.underlying T=some .string):Cv P T toStr str:=⟨fun _ _ _ _ h=>by have:=(h.str_inv hu).1;rw[←this];exact h⟩
theorem Cv.lst{E:TypeId}(hu:P.underlying T=some (.slice E)):Cv P T toLst lst:=⟨fun _ _ _ _ h=>by have:=(h.lst_inv hu).1;rw[←this];exact h⟩
theorem Cv.dt:Cv P T (fun d:Dt=>d) (fun d=>d):=⟨fun _ _ _ _ h=>h⟩
structure Cn (P:Program) (u v:AV):Prop where
 ra:∀(ok:Nat->Prop)(w:World)(β:Nat->Option Value)(cs:List Value),RA P ok w β u cs->RA P ok w β v cs
 ag:v.isAgg P=u.isAgg P
theorem Cn.same:Cn P u u:=⟨fun _ _ _ _ h=>h,rfl⟩
theorem Cn.dat{f:Dt->A}{g:A->Dt}{d:Dt}(h:Cv P T f g):Cn P (.dat T d) (.dat T (g (f d))):=
 ⟨fun ok w β cs hr=>by cases hr with|dat hr=>exact .dat (h.rd ok w cs d hr),rfl⟩
structure CnL (P:Program) (us vs:List AV):Prop where
 len:vs.length=us.length
 get:∀(i:Nat)(v:AV),vs[i]? =some v->∃u,us[i]? =some u∧Cn P u v
theorem CnL.nil:CnL P [] []:=⟨rfl,fun i v h=>by simp at h⟩
theorem CnL.cons(h:Cn P u v)(r:CnL P us vs):CnL P (u::us) (v::vs):=⟨by simp[r.len],fun i x hx=>by
 cases i with
 |zero=>simp only[bf,aG]at hx;subst hx;exact⟨u,rfl,h⟩
 |succ i=>simpa using r.get i x (by simpa using hx)⟩
theorem Cn.agg(h:CnL P us vs):Cn P (.agg T us) (.agg T vs):=⟨fun ok w β cs hr=>by
 cases hr with
 |agg hu hl hc h1 hh=>
  refine .agg hu (by rw[h.len];exact hl) hc h1 fun i f v hf hv=>?_;obtain⟨u,h2,h3⟩:=h.get i v hv;exact h3.ra _ _ _ _ (hh i f u hf h2),rfl⟩
theorem Cn.fn{f:FuncId}(h:CnL P us vs):Cn P (.fn f us) (.fn f vs):=⟨fun ok w β cs hr=>by
 cases hr with
 |fn hl hh=>
  refine .fn (by rw[h.len];exact hl) fun i v hv=>?_;obtain⟨u,h2,h3⟩:=h.get i v hv;exact h3.ra _ _ _ _ (hh i u h2),rfl⟩
theorem Cn.ifc(h:Cn P u v):Cn P (.ifc T u) (.ifc T v):=⟨fun ok w β cs hr=>by
 cases hr with
 |ifc1 hi hh=>exact .ifc1 (by rw[h.ag];exact hi) (h.ra _ _ _ _ hh)
 |ifcA hi hh=>exact .ifcA (by rw[h.ag];exact hi) (h.ra _ _ _ _ hh),rfl⟩
theorem Cn.rv1(h:Cn P u v){ok:Nat->Prop}{w:World}{β:Nat->Option Value}{z:Value}(hr:RV1 P ok w β u z):RV1 P ok w β v z:=
 ⟨fun hi=>by obtain⟨cs,e,q⟩:=hr.1 (by rw[←h.ag];exact hi);exact⟨cs,e,h.ra _ _ _ _ q⟩,fun hi=>h.ra _ _ _ _ (hr.2 (by rw[←h.ag];exact hi))⟩
structure CnR (P:Program) (u v:AV):Prop where
 rv:∀(ok:Nat->Prop)(w:World)(β:Nat->Option Value)(z:Value),RV P ok w β u z->RV P ok w β v z
def AV.plainB:AV->Bool
 | .tup _=>false
 | .dead=>false
 |_=>true
theorem CnR.of(h:Cn P u v)(hu:u.plainB=true)(hv:v.plainB=true):CnR P u v:=⟨fun ok w β z hz=>by have h1:RV1 P ok w β u z:=RV.to1 (by rintro rfl;cases hu) (by rintro us rfl;cases hu) hz;exact(h.rv1 h1).toRV (by rintro us rfl;cases hv)⟩
theorem CnR.same:CnR P u u:=⟨fun _ _ _ _ h=>h⟩
theorem CnR.tup(h:CnL P us vs):CnR P (.tup us) (.tup vs):=⟨fun ok w β z hz=>by obtain⟨arr,e,hs,hr⟩:=hz;refine⟨arr,e,by rw[h.len];exact hs,fun i v hv=>?_⟩;obtain⟨u,h2,h3⟩:=h.get i v hv;exact h3.rv1 (hr i u h2)⟩
inductive CnA (P:Program):List AV->List AV->Prop where
 |nil:CnA P [] []
 |cons {u v:AV} {us vs:List AV} (h:CnR P u v) (r:CnA P us vs):CnA P (u::us) (v::vs)
theorem CnA.rvs(h:CnA P us vs){ok:Nat->Prop}{w:World}{β:Nat->Option Value}:∀{zs:List Value},RVsX P ok w β us zs->RVsX P ok w β vs zs:=by
 induction h with
 |nil=>intro zs h;exact h
 |cons hc _ ih=>
  intro zs hz;cases hz with
  |cons h1 h2=>exact .cons (hc.rv _ _ _ _ h1) (ih h2)
structure CnO (P:Program) (o o':Ob):Prop where
 own:o'.isOwn=o.isOwn
 obs:∀(ok:Nat->Prop)(w:World)(β:Nat->Option Value)(v:Option Value),ObOK P ok w β o v->ObOK P ok w β o' v
theorem CnO.same{o:Ob}:CnO P o o:=⟨rfl,fun _ _ _ _ h=>h⟩
theorem CnO.box(h:Cn P u v):CnO P (.box T u) (.box T v):=⟨rfl,fun ok w β x ⟨b,cs,h1,h2,h3,h4⟩=>⟨b,cs,h1,h2,h3,h.ra _ _ _ _ h4⟩⟩
inductive CnOL (P:Program):List Ob->List Ob->Prop where
 |nil:CnOL P [] []
 |cons {o o':Ob} {os os':List Ob} (h:CnO P o o') (r:CnOL P os os'):CnOL P (o::os) (o'::os')
theorem CnOL.len{os os':List Ob}(h:CnOL P os os'):os'.length=os.length:=by
 induction h with
 |nil=>rfl
 |cons _ _ ih=>simp[ih]
theorem CnOL.get{os os':List Ob}(h:CnOL P os os'):∀l,CnO P (lk os l) (lk os' l):=by
 induction h with
 |nil=>intro l;exact .same
 |cons h _ ih=>
  intro l;cases l with
  |zero=>exact h
  |succ l=>exact ih l
theorem Sim.of{a b:AV}{os os':List Ob}(h:CnR P a b)(ho:CnOL P os os'):Sim P (a,os) (b,os'):=
 ⟨h.rv,fun l=>(ho.get l).own,fun l=>(ho.get l).obs⟩
theorem FX.conv{f:FuncId}{args args':List AV}{objs objs' hs':List Ob}{res:AV}(h:FX P f args' objs' res hs')(ha:CnA P args args')(ho:CnOL P objs objs'):FX P f args objs res hs':=by
 intro ok w β zs h1 h2 h3 h4 h5;have hown:∀l b,owns objs' β l b↔owns objs β l b:=fun l b=>by simp only[owns,(ho.get l).own]
 have hX:XO objs' β=XO objs β:=by funext b;apply propext;exact⟨fun⟨l,hl⟩=>⟨l,(hown l b).1 hl⟩,fun⟨l,hl⟩=>⟨l,(hown l b).2 hl⟩⟩
 have hc:=h ok w β zs (fun b hb=>by rw[hX];exact h1 b hb) (fun l=>(ho.get l).obs _ _ _ _ (h2 l)) (fun l l' b q1 q2=>h3 l l' b ((hown _ _).1 q1) ((hown _ _).1 q2)) (ha.rvs h4) h5;refine hc.mono ?_;rintro e w' ⟨v,β',rfl,hf,hr⟩;obtain⟨f1,f2,f3,f4,f5⟩:=hf;rw[hX,ho.len]at f2 hr;rw[hX]at f1;exact⟨v,β',rfl,⟨f1,f2,f3,fun l b q=>by have:=f4 l b q;rwa [hX]at this,fun l hl=>f5 l (by rw[ho.len];exact hl)⟩,hr⟩
def natsB:List Nat->List Nat->Bool
 | [],[]=>true
 |a::r,b::s=>Nat.beq a b&&natsB r s
 |_,_=>false
theorem vH:∀{a b:List Nat},natsB a b=true->a=b
 | [],[],_=>rfl
 |a::r,b::s,h=>by have h1:=beq_eq (bg h);have h2:=vH (aQ h);rw[h1,h2]
 | [],_::_,h=>by cases h
 |_::_,[],h=>by cases h
end
end Go.Am
namespace Go.Am
inductive SK where
 |l|i|b|s|a
inductive SA where
 |d (T:TypeId) (k:SK)
 |f (F:FuncId)
inductive SR where
 |d (T:TypeId) (k:SK)
 |t (l:List (TypeId×SK))
abbrev SK.T:SK->Type
 | .l=>List Dt
 | .i=>Int
 | .b=>Bool
 | .s=>ByteArray
 | .a=>Dt
def SK.w:(k:SK)->k.T->Dt
 | .l,x=> .lst x
 | .i,x=> .int x
 | .b,x=> .bool x
 | .s,x=> .str x
 | .a,x=>x
def SK.g:(k:SK)->Dt->k.T
 | .l,x=>x.toLst
 | .i,x=>x.toInt
 | .b,x=>x.toBool
 | .s,x=>x.toStr
 | .a,x=>x
def SK.ok(P:Program)(T:TypeId):SK->Prop
 | .l=>∃E,P.underlying T=some (.slice E)
 | .i=>∃k,P.underlying T=some (.int k)
 | .b=>P.underlying T=some .bool
 | .s=>P.underlying T=some .string
 | .a=>True
theorem SK.cn{P:Program}{T:TypeId}:∀{k:SK},k.ok P T->∀x:Dt,Cn P (.dat T x) (.dat T (k.w (k.g x)))
 | .l,⟨_,h⟩,_=> .dat (.lst h)
 | .i,⟨_,h⟩,_=> .dat (.int h)
 | .b,h,_=> .dat (.bool h)
 | .s,h,_=> .dat (.str h)
 | .a,_,_=> .same
def TT:List (TypeId×SK)->Type
 | []=>Unit
 | [p]=>p.2.T
 |p::q::r=>p.2.T×TT (q::r)
def TT.w:(l:List (TypeId×SK))->TT l->List AV
 | [],_=>[]
 | [p],x=>[.dat p.1 (p.2.w x)]
 |p::q::r,x=> .dat p.1 (p.2.w x.1)::TT.w (q::r) x.2
def ag7(T:TypeId)(k:SK):AV->Option k.T
 | .dat S x=>bif Nat.beq S T then some (k.g x)else none
 |_=>none
theorem Nq{P:Program}{T:TypeId}{k:SK}{v:AV}{y:k.T}(ho:k.ok P T)(h:ag7 T k v=some y):Cn P v (.dat T (k.w y))∧v.plainB=true:=by
 unfold ag7 at h;split at h
 ·obtain⟨h1,h2⟩:=aO h;cases h2;cases beq_eq h1;exact⟨SK.cn ho _,rfl⟩
 ·cases h
def TT.g:(l:List (TypeId×SK))->List AV->Option (TT l)
 |  [],as=>match as with
    | []=>some ()
    |_::_=>none
 |  [p],as=>match as with
    | [v]=>ag7 p.1 p.2 v
    |_=>none
 |  p::q::r,as=>match as with
    |v::as=>(ag7 p.1 p.2 v).bind fun x=>(TT.g (q::r) as).bind fun y=>some (x,y)
    | []=>none
def SR.T:SR->Type
 | .d _ k=>k.T
 | .t l=>TT l
def SR.w:(s:SR)->s.T->AV
 | .d T k,x=> .dat T (k.w x)
 | .t l,x=> .tup (TT.w l x)
def SR.g:(s:SR)->Res->Option s.T
 |  .d T k,q=>match q with
    |(v,[])=>ag7 T k v
    |_=>none
 |  .t l,q=>match q with
    |(.tup as,[])=>TT.g l as
    |_=>none
def aq4(P:Program):List (TypeId×SK)->Prop
 | []=>True
 |p::r=>p.2.ok P p.1∧aq4 P r
def SR.ok(P:Program):SR->Prop
 | .d T k=>k.ok P T
 | .t l=>aq4 P l
theorem TT.cn{P:Program}:∀{l:List (TypeId×SK)}{as:List AV}{y:TT l},aq4 P l->TT.g l as=some y->CnL P as (TT.w l y)
 | [],as,y,_,h=>by
   cases as with
   |nil=>exact .nil
   |cons _ _=>cases h
 | [p],as,y,ho,h=>by
   match as,h with
   | [v],h=>exact .cons (Nq ho.1 h).1 .nil
   | [],h=>cases h
   |_::_::_,h=>cases h
 | p::q::r,as,y,ho,h=>by
   match as,h with
   |v::as,h=>
    obtain⟨x,h1,h2⟩:=au.1 h;obtain⟨z,h3,h4⟩:=au.1 h2;cases h4;exact .cons (Nq ho.1 h1).1 (TT.cn ho.2 h3)
   | [],h=>cases h
theorem SR.sim{P:Program}:∀{s:SR}{q:Res}{r:s.T},s.ok P->s.g q=some r->Sim P q (s.w r,[])
 | .d T k,q,r,ho,h=>by
   match q,h with
   |(v,[]),h=>
    obtain⟨h1,h2⟩:=Nq ho h;exact Sim.of (.of h1 h2 rfl) .nil
   |(_,_::_),h=>cases h
 | .t l,q,r,ho,h=>by
   match q,h with
   |(.tup as,[]),h=>exact Sim.of (.tup (TT.cn ho h)) .nil
   |(.tup _,_::_),h=>cases h
   |(.dat ..,_),h=>cases h
def CF:List SA->Type->Type
 | [],R=>R
 | .d _ k::t,R=>k.T->CF t R
 | .f _::t,R=>CF t R
def ap{R:Type}:(sh:List SA)->CF sh (Option R)->List AV->Option R
 |  [],F,as=>match as with
    | []=>F
    |_::_=>none
 |  .d T k::t,F,as=>match as with
    |v::as=>(ag7 T k v).bind fun x=>ap t (F x) as
    | []=>none
 |  .f c::t,F,as=>match as with
    | .fn d []::as=>bif Nat.beq d c then ap t F as else none
    |_=>none
def oksA(P:Program):List SA->Prop
 | []=>True
 | .d T k::r=>k.ok P T∧oksA P r
 | .f _::r=>oksA P r
def FG(P:Program)(f:FuncId)(s:SR):(sh:List SA)->CF sh (Option s.T)->(List AV->List AV)->Prop
 | [],F,k=>∀r,F=some r->FX P f (k []) [] (s.w r) []
 | .d T j::t,F,k=>∀x:j.T,FG P f s t (F x) fun as=>k (.dat T (j.w x)::as)
 | .f c::t,F,k=>FG P f s t F fun as=>k (.fn c []::as)
theorem ajs{P:Program}{f:FuncId}{s:SR}{r:s.T}:∀{sh:List SA}{F:CF sh (Option s.T)}{k:List AV->List AV}{as:List AV},oksA P sh->FG P f s sh F k->ap sh F as=some r->∃vs,CnA P as vs∧FX P f (k vs) [] (s.w r) []
 | [],F,k,as,_,hf,h=>by
   cases as with
   |nil=>exact⟨[],.nil,hf r h⟩
   |cons _ _=>cases h
 | .d T j::t,F,k,as,ho,hf,h=>by
   cases as with
   |nil=>cases h
   | cons v as=>
     obtain⟨x,h1,h2⟩:=au.1 h;obtain⟨vs,h3,h4⟩:=ajs ho.2 (hf x) h2;obtain⟨h5,h6⟩:=Nq ho.1 h1;exact⟨_,.cons (.of h5 h6 rfl) h3,h4⟩
 | .f c::t,F,k,as,ho,hf,h=>by
   match as,h with
   | .fn d []::as,h=>
     obtain⟨h1,h2⟩:=aO h;cases beq_eq h1;obtain⟨vs,h3,h4⟩:=ajs (sh:=t) ho hf h2;exact⟨_,.cons .same h3,h4⟩
   | [],h=>cases h
structure Ent where
 sh:List SA
 s:SR
 F:CF sh (Option s.T)
def Ent.run{R:Type}(e:Ent)(args:List AV)(objs:List Ob)(K:Res->Option R):Option R:=match objs with
 | []=>(ap e.sh e.F args).bind fun r=>K (e.s.w r,[])
 |_::_=>none
structure EOK (P:Program) (f:FuncId) (e:Ent):Prop where
 ok:oksA P e.sh
 fx:FG P f e.s e.sh e.F fun l=>l
 hb:HasBody P f
theorem EOK.run{P:Program}{f:FuncId}{e:Ent}{R:Type}{args:List AV}{objs:List Ob}{K:Res->Option R}{r:R}(he:EOK P f e)(h:e.run args objs K=some r):∃q:Res,K q=some r∧FX P f args objs q.1 q.2∧HasBody P f:=by
 unfold Ent.run at h;cases objs with
 |nil=>
  obtain⟨x,h1,h2⟩:=au.1 h;obtain⟨vs,h3,h4⟩:=ajs he.ok he.fx h1;exact⟨_,h2,h4.conv h3 .nil,he.hb⟩
 |cons _ _=>cases h
theorem EOK.st{P:Program}{f n:FuncId}{a e:Ent}{b:Option Ent}(h1:EOK P n a)(h2:b=some e->EOK P f e)(h:(bif Nat.beq f n then some a else b)=some e):EOK P f e:=by
 cases hb:Nat.beq f n with
 |true=>rw[hb]at h;cases h;cases beq_eq hb;exact h1
 |false=>rw[hb]at h;exact h2 h
def FZ{R:Type}:(sh:List SA)->CF sh (Option R)->Prop
 | [],F=>F=none
 | .d _ j::t,F=>∀x:j.T,FZ t (F x)
 | .f _::t,F=>FZ t F
theorem FZ.fg{P:Program}{f:FuncId}{s:SR}:∀{sh:List SA}{F:CF sh (Option s.T)}{k:List AV->List AV},FZ sh F->FG P f s sh F k
 | [],F,k,h=>by intro r h1;have h:F=none:=h;rw[h]at h1;cases h1
 | .d _ j::t,F,k,h=>fun x=>FZ.fg (h x)
 | .f _::t,F,k,h=>FZ.fg (sh:=t) h
