/- The abstract machine, part 10: the machine itself.
The abstract machine,part 11:regions,code,functions.
The abstract machine,part 12:what the helpers compute is so.
The abstract machine,part 13:each operation of the machine is so in the model.
The abstract machine,part 14:each operation of the machine is so in the model,continued.
The abstract machine,part 15:slice literals,append,calls. -/
import Derived.Test.YtmecfjhdnbgfeaaGreatDoorA2
set_option linter.all false
namespace Go.Am
open Go.RowKit
abbrev Res:=AV×List Ob
structure Env where
 dt:List TypeId
 fns:FuncId->Option Func
 keep:FuncId->Nat->Option (List Nat×List Nat×List Nat)
 raw:FuncId->Bool
 own:FuncId->Bool
 lnd:FuncId->Bool
 nd:FuncId->List Nat:=fun _=>[]
 pkb:FuncId->Bool:=fun _=>false
 nest:Oper->Bool:=fun _=>false
 rdo:FuncId->Bool:=fun _=>false
 sld:Oper->Bool:=fun _=>false
 npk:TypeId->Bool:=fun _=>false
 fzc:FuncId->Bool:=fun _=>false
 pty:TypeId->Option TypeId:=fun _=>none
 sam:FuncId->Bool:=fun _=>false
 cut:Oper->Bool:=fun _=>false
 foc:FuncId->Nat->Option (Nat×Nat×Nat):=fun _ _=>none
 mow:TypeId->Bool:=fun _=>false
 bn:FuncId->Bool:=fun _=>false
 orc:FuncId->Option (List AV->List Ob->Option (AV×List Ob))
def avF(av:TypeId->List Value->Option AV)(P:Program)(cs:List Value):List Field->Option (List AV)
 | []=>some []
 |  f::fs=>match avF av P cs fs with
    |some vs=>some ((match av f.type ((cs.drop f.offset).take (P.cellsOf f.type))with
     |some v=>v
     |none=> .dead)::vs)
    |none=>none
def offs(n:Nat):List Dt:=List.replicate n (.bool false)
def isF:Value->Bool
 | .bool b=>!b
 |_=>false
def avC(P:Program):Nat->TypeId->List Value->Option AV
 |0,_,_=>none
 |  k+1,T,cs=>match P.underlying T with
    |some (.int q)=>match cs with
     | [.int q' m]=>bif (decide (q=q')&&(decide (q.min<=m)&&decide (m<=q.max)))then some (.dat T (.int m))else none
     |_=>none
    |some .bool=>match cs with
     | [.bool b]=>some (.dat T (.bool b))
     |_=>none
    |some .string=>match cs with
     | [.string s]=>bif Nat.ble s.size maxLen then some (.dat T (.str s))else none
     |_=>none
    |some (.slice _)=>match cs with
     | [.slice none 0 0]=>some (.nils T)
     |_=>none
    |some (.struct fs)=>bif (Nat.beq cs.length (P.cellsOf T)&&cs.all (·.oneCell'))then(match avF (avC P k) P cs fs.toList with
     |some vs=>some (.agg T vs)
     |none=>none)else none
    |some (.interface _)=>match cs with
     | [.nilIface]=>some (.nif true)
     |_=>none
    |some (.array len Te)=>match P.underlying Te with
     |some .bool=>bif (Nat.beq cs.length len&&(Nat.beq (P.cellsOf T) len&&(Nat.beq (P.cellsOf Te) 1&&cs.all isF)))then some (.dat T (.lst (offs len)))else none
     |_=>none
    |some (.pointer _)=>match cs with
     | [.pointer none]=>some (.dat T (.lst []))
     |_=>none
    |_=>none
def qy:Value->Bool
 | .agg _=>true
 |_=>false
def cst(P:Program)(v:Value):List TypeId->AV
 | []=> .dead
 |  T::r=>match avC P 8 T v.cells.toList with
    |some a=>bif qy v==bS P T then a else .dead
    |none=>cst P v r
def zeroV(P:Program)(T:TypeId):Option AV:=match P.info? T with
 |  some i=>match i.zero with
    |some z=>bif Nat.beq z.cells.size (P.cellsOf T)then avC P 8 T z.cells.toList else none
    |none=>none
 |none=>none
def opd(P:Program)(D:List TypeId)(σ:St)(T:TypeId):Operand->AV
 | .tmp t=>tk σ.ts t
 | .const v=>cst P v (T::D)
 | .func f=> .fn f []
 | .global _=> .dead
def bG(P:Program)(D:List TypeId)(σ:St):List TypeId->List Operand->List AV
 |T::Ts,x::xs=>opd P D σ T x::bG P D σ Ts xs
 |_,_=>[]
def L9(P:Program):AV->Option Bool
 |  .dat T d=>match P.underlying T with
    |some .bool=>some d.toBool
    |_=>none
 |_=>none
def ival(P:Program):AV->Option (TypeId×IntKind×Int)
 |  .dat T d=>match P.underlying T with
    |some (.int k)=>some (T,k,d.toInt)
    |_=>none
 |_=>none
def vI(P:Program):AV->Option (TypeId×ByteArray)
 |  .dat T d=>match P.underlying T with
    |some .string=>some (T,d.toStr)
    |_=>none
 |_=>none
def lval(P:Program)(hs:List Ob)(v:AV):Option (TypeId×TypeId×List Dt):=match pk P hs v with
 |  some (T,d)=>match P.underlying T with
    |some (.slice E)=>some (T,E,d.toLst)
    |_=>none
 |none=>none
def isB(P:Program)(T:TypeId):Bool:=match P.underlying T with
 |some .bool=>true
 |_=>false
def bT(P:Program):List TypeId->Option TypeId
 | []=>none
 |T::r=>bif isB P T then some T else bT P r
def isI(P:Program)(T:TypeId)(k:IntKind):Bool:=match P.underlying T with
 |some (.int k')=>decide (k'=k)
 |_=>false
def isS(P:Program)(T:TypeId):Bool:=match P.underlying T with
 |some .string=>true
 |_=>false
def slE(P:Program)(T:TypeId):Option TypeId:=match P.underlying T with
 |some (.slice E)=>some E
 |_=>none
def stF(P:Program)(T:TypeId):Option (Array Field):=match P.underlying T with
 |some (.struct fs)=>some fs
 |_=>none
def szA(P:Program)(T:TypeId):AV->Bool
 |  .dat T' _=>match P.underlying T' with
    |some (.struct _)=>Nat.beq (P.cellsOf T') (P.cellsOf T)
    |some (.array _ _)=>Nat.beq (P.cellsOf T') (P.cellsOf T)
    |some _=>Nat.beq (P.cellsOf T) 1
    |none=>false
 |  .agg T' _=>match P.underlying T' with
    |some (.struct _)=>Nat.beq (P.cellsOf T') (P.cellsOf T)
    |_=>false
 | .dead=>false
 | .tup _=>false
 |_=>Nat.beq (P.cellsOf T) 1
def szB(P:Program)(T:TypeId)(v:AV):Bool:=(P.underlying T).isSome&&szA P T v
def getAt(P:Program):TypeId->AV->List Nat->Option (TypeId×Nat×AV)
 |S,c,[]=>some (S,0,c)
 |  S,.agg S' vs,i::p=>match stF P S with
    |some fs=>match fs[i]? with
     |some f=>match vs[i]? with
      |some v=>bif (Nat.beq S' S&&Nat.ble (f.offset+P.cellsOf f.type) (P.cellsOf S))then(match getAt P f.type v p with
       |some (T,q,r)=>some (T,f.offset+q,r)
       |none=>none)else none
      |none=>none
     |none=>none
    |none=>none
 |  S,.dat S' d,i::p=>match stF P S with
    |some fs=>match fs[i]? with
     |some f=>bif (Nat.beq S' S&&Nat.ble (f.offset+P.cellsOf f.type) (P.cellsOf S))then(match getAt P f.type (.dat f.type (d.fld i)) p with
       |some (T,q,r)=>some (T,f.offset+q,r)
       |none=>none)else none
     |none=>none
    |none=>none
 |_,_,_::_=>none
def setAt(P:Program)(T':TypeId)(v:AV):TypeId->AV->List Nat->Option (Nat×AV)
 |S,_,[]=>bif Nat.beq S T' then some (0,v)else none
 |  S,c,i::p=>match stF P S with
    |some fs=>match fs[i]? with
     |some f=>match (match c with
        | .agg S' vs=>bif Nat.beq S' S then some vs else none
        | .dat S' d=>bif Nat.beq S' S then some (expl P fs d)else none
        |_=>none:Option (List AV))with
      | some vs=>match vs[i]? with
        |some old=>bif layB P S fs then(match setAt P T' v f.type old p with
         |some (q,new)=>some (f.offset+q,.agg S (vs.set i new))
         |none=>none)else none
        |none=>none
      |none=>none
     |none=>none
    |none=>none
def AV.canon(P:Program):AV->AV
 | .dat T d=> .dat T (canD P T d)
 |v=>v
structure Dl where
 v:Option AV
 rd:List Nat
 wr:List (Nat×Ob)
def wrO(hs:List Ob):List (Nat×Ob)->List Ob
 | []=>hs
 |(l,o)::r=>wrO (aV hs l o) r
def XL(ts:List AV):Option Nat->Option AV->List AV
 |some d,some v=>jW ts d v
 |_,_=>ts
def St.app(σ:St)(dst:Option Nat)(U:Dl):St:=⟨XL σ.ts dst U.v,wrO σ.hs U.wr,σ.k0⟩
mutual
def AV.nms:AV->List Nat
 | .agg _ vs=>AV.nmsL vs
 | .row l=>[l]
 | .ptr l _ _=>[l]
 | .eptr l _ _ _ _=>[l]
 | .sub l _ _=>[l]
 | .fn _ vs=>AV.nmsL vs
 | .tup vs=>AV.nmsL vs
 | .ifc _ v=>AV.nms v
 |_=>[]
def AV.nmsL:List AV->List Nat
 | []=>[]
 |v::r=>AV.nms v++AV.nmsL r
end
mutual
def AV.rws:AV->List Nat
 | .agg _ vs=>AV.rwsL vs
 | .row l=>[l]
 | .tup vs=>AV.rwsL vs
 | .ifc _ v=>AV.rws v
 |_=>[]
def AV.rwsL:List AV->List Nat
 | []=>[]
 |v::r=>AV.rws v++AV.rwsL r
end
def Ob.nms:Ob->List Nat
 | .box _ c=>c.nms
 | .rowA _ vs=>AV.nmsL vs
 | .rowD _ _ _ k _ none=>[k]
 | .rowD _ _ _ k _ (some (_,l))=>[k,l]
 |_=>[]
def reach(hs:List Ob):Nat->List Nat->List Nat->List Nat
 |0,_,acc=>acc
 |_+1,[],acc=>acc
 |k+1,l::todo,acc=>bif dZ l acc then reach hs k todo acc else reach hs k ((lk hs l).nms++todo) (acc++[l])
def wY(hs:List Ob)(T2 k:Nat):List Nat->Option (List Dt)
 | []=>none
 |  k'::_=>match lk hs k' with
    | .tok T4 ls=>bif Nat.beq k' k&&Nat.beq T4 T2 then some ls else none
    |_=>none
def XM(hs:List Ob)(c:Option Nat)(T2 k:Nat)(r:List Nat):Option (List Dt):=bif Ia c then none else wY hs T2 k r
def frzW(hs:List Ob):List Nat->List (Nat×Ob)
 | []=>[]
 |  l ::r=>match lk hs l with
    | .row T es=>(l,.frz T es)::frzW (aV hs l (.frz T es)) r
    | .rowD T T2 c k es none=>match XM hs c T2 k r with
      |some ls=>(l,.row T (frzD c es ls))::(k,.gone)::(l,.frz T (frzD c es ls))::frzW (aV (aV (aV hs l (.row T (frzD c es ls))) k .gone) l (.frz T (frzD c es ls))) r
      |none=>frzW hs r
    |_=>frzW hs r
def XP(P:Program)(pty:TypeId->Option TypeId)(hs:List Ob)(l:Nat):Option Ob:=match lk hs l with
 |  .box T c=>match pty T with
    |some PT=>match ppE P PT with
     |some T2=>match pk P hs c with
      |some (T',d)=>bif (Nat.beq T' T&&Nat.beq T2 T)then some (.frz PT [d])else none
      |none=>none
     |none=>none
    |none=>none
 |_=>none
def fzbW(P:Program)(pty:TypeId->Option TypeId)(hs:List Ob):List Nat->List (Nat×Ob)
 | []=>[]
 |  l::r=>match XP P pty hs l with
    |some o=>(l,o)::fzbW P pty (aV hs l o) r
    |none=>fzbW P pty hs r
def dA:List AV->List Nat
 | []=>[]
 |  v::r=>(match v with
    | .ptr l [] 0=>[l]
    |_=>[])++dA r
def pkZ(hs:List Ob)(v:AV):AV:=match v with
 |  .ptr l [] 0=>(match lk hs l with
    | .frz T es=> .dat T (.lst es)
    |_=>v)
 |v=>v
def QF(k:Nat):List TypeId->List (Nat×Ob)
 | []=>[]
 |T::r=>(k,.row T [])::QF (k+1) r
def jr(Z:Nat->Option Nat)(nm:Nat):List Nat->List Ob->List (Nat×Ob)
 |_,[]=>[]
 | [],o::os=>(nm,o.ren Z)::jr Z (nm+1) [] os
 |l::src,o::os=>(l,o.ren Z)::jr Z nm src os
def IG:AV->Bool
 | .nils _=>true
 |_=>false
def pkA(P:Program)(b:Bool)(hs:List Ob)(v:AV):AV:=bif (b&&IG v)then v else match pk P hs v with
 |some (T,d)=> .dat T d
 |none=>v
def dn1(P:Program)(v:AV):AV:=match v with
 |  .nils T=>match P.underlying T with
    |some (.slice _)=> .dat T (.lst [])
    |_=>v
 |_=>v
def dnL(P:Program)(ps:List Nat):Nat->List AV->List AV
 |_,[]=>[]
 |k,v::r=>(bif dZ k ps then dn1 P v else v)::dnL P ps (k+1) r
def pkc(P:Program)(hs:List Ob)(f:Field)(v:AV):Option Dt:=match pk P hs v with
 |some (T,d)=>bif compat P T f.type then some d else none
 |none=>none
def XQ(P:Program)(hs:List Ob)(f:Field)(v:AV):Option Dt:=match v with
 |  .row l=>match P.underlying f.type with
    |some (.map _ _)=>some (.lst [])
    |_=>pkc P hs f (.row l)
 |v=>pkc P hs f v
def DX(P:Program)(hs:List Ob):List Field->List AV->Option (List Dt)
 | [],[]=>some []
 |  f::fs,v::vs=>match XQ P hs f v with
    |some d=>match DX P hs fs vs with
     |some ds=>some (d::ds)
     |none=>none
    |none=>none
 |_,_=>none
def pkO(P:Program)(hs:List Ob):AV->Option (TypeId×Dt)
 |  .agg T vs=>match P.underlying T with
    |some (.struct fs)=>match DX P hs fs.toList vs with
     |some ds=>some (T,.agg ds)
     |none=>none
    |_=>none
 |v=>pk P hs v
def gD(P:Program)(hs:List Ob)(v:AV):AV:=match v with
 |  .ptr l [] 0=>match lk hs l with
    | .box T c=>match pkO P hs c with
      |some (T',d)=>bif Nat.beq T' T then .rptr T d else v
      |none=>v
    |_=>v
 |_=>v
def l6(P:Program)(hs:List Ob)(v:AV):AV:=match v with
 | .fn f caps=> .fn f (caps.map (gD P hs))
 |_=>gD P hs v
def sJ(hs:List Ob):List Nat->List Nat
 | []=>[]
 |  l::r=>(match lk hs l with
    | .rowD _ _ _ k _ _=>[l,k]
    |_=>[l])++sJ hs r
def bK(hs:List Ob):List Nat->List Nat
 | []=>[]
 |  l::r=>(match lk hs l with
    | .box _ c=>sJ hs c.rws
    |_=>[])++bK hs r
def upto:Nat->Nat->List Nat
 |_,0=>[]
 |k,m+1=>k::upto (k+1) m
def allNames(hs:List Ob):List Nat->Bool
 | []=>true
 |  l::r=>(match lk hs l with
    | .free=>false
    |_=>true)&&allNames hs r
def Ma(P:Program):List AV->Bool
 | []=>true
 |  v::r=>(match v with
    | .tup _=>false
    | .dead=>false
    |v=>!v.isAgg P)&&Ma P r
section
variable{R:Type}(P:Program)(E:Env)(call:FuncId->List AV->List Ob->(Res->Option R)->Option R)
def out(n:Nat)(o:Oper)(v:AV)(rd:List Nat)(wr:List (Nat×Ob))(k:Dl->Option R):Option R:=match o.dst with
 |some d=>bif Nat.blt d n then k ⟨some v,rd,wr⟩else none
 |none=>none
def xE(o:Oper)(rd:List Nat)(wr:List (Nat×Ob))(k:Dl->Option R):Option R:=match o.dst with
 |some _=>none
 |none=>k ⟨none,rd,wr⟩
def new(σ:St)(k:Nat->Option R):Option R:=bif Nat.ble σ.k0 σ.hs.length then k σ.hs.length else none
def af4(n:Nat)(o:Oper)(op:BinOp)(T:TypeId)(q:IntKind)(a b:Int)(k:Dl->Option R):Option R:=
 let cmp (r:Bool):Option R:=match bT P (o.type::E.dt)with
    |some TB=>out n o (.dat TB (.bool r)) [] [] k
    |none=>none
 match op with
 | .add=>out n o (.dat T (.int (q.wrap (a+b)))) [] [] k
 | .sub=>out n o (.dat T (.int (q.wrap (a-b)))) [] [] k
 | .mul=>out n o (.dat T (.int (q.wrap (a*b)))) [] [] k
 | .quo=>bif decide (b=0)then none else out n o (.dat T (.int (q.wrap (a.tdiv b)))) [] [] k
 | .rem=>bif decide (b=0)then none else out n o (.dat T (.int (a.tmod b))) [] [] k
 | .and=>out n o (.dat T (.int (andI q a b))) [] [] k
 | .or=>out n o (.dat T (.int (orI q a b))) [] [] k
 | .xor=>out n o (.dat T (.int (xorI q a b))) [] [] k
 | .andNot=>out n o (.dat T (.int (bicI q a b))) [] [] k
 | .lss=>cmp (decide (a<b))
 | .leq=>cmp (decide (a<=b))
 | .gtr=>cmp (decide (b<a))
 | .geq=>cmp (decide (b<=a))
 | .eql=>cmp (a==b)
 | .neq=>cmp (a !=b)
 |_=>none
def af5(n:Nat)(o:Oper)(op:BinOp)(T:TypeId)(a b:ByteArray)(k:Dl->Option R):Option R:=
 let cmp (r:Bool):Option R:=match bT P (o.type::E.dt)with
    |some TB=>out n o (.dat TB (.bool r)) [] [] k
    |none=>none
 match op with
 | .add=>bif Nat.ble (a.size+b.size) 1152921504606846976 then out n o (.dat T (.str (a++b))) [] [] k else none
 | .lss=>cmp (Op.bytesLess a.toList b.toList)
 | .eql=>cmp (a.toList==b.toList)
 | .neq=>cmp (!(a.toList==b.toList))
 |_=>none
def QG(n:Nat)(o:Oper)(op:BinOp)(a b:Bool)(k:Dl->Option R):Option R:=
 let cmp (r:Bool):Option R:=match bT P (o.type::E.dt)with
    |some TB=>out n o (.dat TB (.bool r)) [] [] k
    |none=>none
 match op with
 | .eql=>cmp (a==b)
 | .neq=>cmp (!(a==b))
 |_=>none
def DY(σ:St)(fs:Array Field):List (Nat×Operand)->List AV->Option (List AV)
 | [],vs=>some vs
 |  (i,x)::r,vs=>match fs[i]? with
    |some f=>bif szB P f.type (opd P E.dt σ f.type x)then DY σ fs r (vs.set i (opd P E.dt σ f.type x))else none
    |none=>none
def dense:Nat->List (Nat×Operand)->Bool
 |_,[]=>true
 |j,(i,_)::r=>Nat.beq i j&&dense (j+1) r
def j5(hs:List Ob)(Te:TypeId):List AV->Option (List Dt)
 | []=>some []
 |  v::r=>match pk P hs v with
    |some (T,d)=>bif (compat P T Te&&szB P Te (.dat Te d))then(match j5 hs Te r with
     |some ds=>some (d::ds)
     |none=>none)else none
    |none=>none
def gX(σ:St)(m:Int):Option Operand->Option Int
 |none=>some m
 |  some x=>match ival P (opd P E.dt σ 0 x)with
    |some (_,_,i)=>some i
    |none=>none
def XR(n:Nat)(o:Oper):Bool:=match o.dst with
 |some d=>Nat.blt d n
 |none=>true
def om:Ob->Ob
 |  .box T c=>match pk P [] c with
    |some (T',d)=>bif Nat.beq T' T then .box T (.dat T (canD P T d))else .box T c
    |none=> .box T c
 |o=>o
def ap3(b:Bool)(os:List Ob):List Ob:=bif b then os.map (om P)else os
mutual
def Mc:Dt->Dt->Bool
 | .int a,.int b=>decide (a=b)
 | .bool a,.bool b=>decide (a=b)
 | .str a,.str b=>a==b
 | .agg a,.agg b=>kW a b
 | .lst a,.lst b=>kW a b
 |_,_=>false
def kW:List Dt->List Dt->Bool
 | [],[]=>true
 |a::r,b::s=>Mc a b&&kW r s
 |_,_=>false
end
mutual
theorem Uo:∀{a b:Dt},Mc a b=true->a=b
 | .int a,b,h=>by cases b<;>simp only[Mc]at h<;>first|cases h|(rw[of_decide_eq_true h])
 | .bool a,b,h=>by cases b<;>simp only[Mc]at h<;>first|cases h|(rw[of_decide_eq_true h])
 | .str a,b,h=>by cases b<;>simp only[Mc]at h<;>first|cases h|(rw[(fT _ _).1 h])
 | .agg a,b,h=>by cases b<;>simp only[Mc]at h<;>first|cases h|(rw[l8 h])
 | .lst a,b,h=>by cases b<;>simp only[Mc]at h<;>first|cases h|(rw[l8 h])
theorem l8:∀{a b:List Dt},kW a b=true->a=b
 | [],b,h=>by cases b<;>simp only[kW]at h<;>first|rfl|cases h
 |x::r,b,h=>by
  cases b with
  |nil=>simp only[kW]at h;cases h
  |cons y s=>
   simp only[kW,aJ]at h;rw[Uo h.1,l8 h.2]
end
mutual
def lu:AV->AV->Bool
 | .dat T a,.dat S b=>Nat.beq T S&&Mc a b
 | .agg T a,.agg S b=>Nat.beq T S&&oo a b
 | .row a,.row b=>Nat.beq a b
 | .ptr a p i,.ptr b q j=>Nat.beq a b&&(decide (p=q)&&Nat.beq i j)
 | .fn f a,.fn g b=>Nat.beq f g&&oo a b
 | .nils T,.nils S=>Nat.beq T S
 | .dead,.dead=>true
 |_,_=>false
def oo:List AV->List AV->Bool
 | [],[]=>true
 |a::r,b::s=>lu a b&&oo r s
 |_,_=>false
end
mutual
theorem Uq:∀{a b:AV},lu a b=true->a=b
 | .dat T a,b,h=>by cases b<;>simp only[lu,aJ]at h<;>first|cases h;done|(rw[aQ h.1,Uo h.2])
 | .agg T a,b,h=>by cases b<;>simp only[lu,aJ]at h<;>first|cases h;done|(rw[aQ h.1,j6 h.2])
 | .row a,b,h=>by cases b<;>simp only[lu]at h<;>first|cases h;done|(rw[aQ h])
 | .ptr a p i,b,h=>by cases b<;>simp only[lu,aJ]at h<;>first|cases h;done|(rw[aQ h.1,of_decide_eq_true h.2.1,aQ h.2.2])
 | .fn f a,b,h=>by cases b<;>simp only[lu,aJ]at h<;>first|cases h;done|(rw[aQ h.1,j6 h.2])
 | .nils T,b,h=>by cases b<;>simp only[lu]at h<;>first|cases h;done|(rw[aQ h])
 | .dead,b,h=>by cases b<;>simp only[lu]at h<;>first|rfl|cases h
 | .eptr _ _ _ _ _,b,h=>by simp only[lu]at h;cases h
 | .sub _ _ _,b,h=>by simp only[lu]at h;cases h
 | .rptr _ _,b,h=>by simp only[lu]at h;cases h
 | .tup _,b,h=>by simp only[lu]at h;cases h
 | .nif _,b,h=>by simp only[lu]at h;cases h
 | .ifc _ _,b,h=>by simp only[lu]at h;cases h
 | .mth _ _,b,h=>by simp only[lu]at h;cases h
theorem j6:∀{a b:List AV},oo a b=true->a=b
 | [],b,h=>by cases b<;>simp only[oo]at h<;>first|rfl|cases h
 |x::r,b,h=>by
  cases b with
  |nil=>simp only[oo]at h;cases h
  |cons y s=>
   simp only[oo,aJ]at h;rw[Uq h.1,j6 h.2]
end
def af6:Ob->Ob->Bool
 | .box T a,.box S b=>Nat.beq T S&&lu a b
 | .row T a,.row S b=>Nat.beq T S&&kW a b
 | .rowA T a,.rowA S b=>Nat.beq T S&&oo a b
 | .frz T a,.frz S b=>Nat.beq T S&&kW a b
 | .map T a,.map S b=>Nat.beq T S&&kW a b
 | .tok T a,.tok S b=>Nat.beq T S&&kW a b
 | .rowD T S c k a h,.rowD T' S' c' k' b h'=>decide (T=T'∧S=S'∧c=c'∧k=k'∧h=h')&&kW a b
 | .gone,.gone=>true
 |_,_=>false
theorem Ur{a b:Ob}(h:af6 a b=true):a=b:=by cases a<;>cases b<;>simp only[af6,aJ]at h<;>first|rfl|cases h;done|(rw[aQ h.1,Uq h.2])|(rw[aQ h.1,l8 h.2])|(rw[aQ h.1,j6 h.2])|(obtain⟨h1,h2⟩:=h;obtain⟨rfl,rfl,rfl,rfl,rfl⟩:=of_decide_eq_true h1;rw[l8 h2])
def af7(hs:List Ob)(src:List Nat):List (Nat×Ob)->List (Nat×Ob)
 | []=>[]
 |(l,o)::r=>bif (dZ l src&&af6 o (lk hs l))then af7 hs src r else(l,o)::af7 hs src r
def keepW(b:Bool)(hs:List Ob)(src:List Nat)(ws:List (Nat×Ob)):List (Nat×Ob):=bif (b&&nodupB (ws.map (·.1)))then af7 hs src ws else ws
def gN(n:Nat)(o:Oper)(σ:St)(f:FuncId)(as:List AV)(hs1:List Ob)(rd0:List Nat)(wr0:List (Nat×Ob))(nm:Nat)(src:List Nat)(k:Dl->Option R):Option R:=
 bif (nodupB src&&(allNames hs1 src&&Nat.ble σ.k0 σ.hs.length))then
    call f (AV.renL (ix src) as) (ap3 P (E.pkb f) (gT (ix src) hs1 src)) fun q=>
     bif (Nat.ble src.length q.2.length&&XR n o)then
      k ⟨o.dst.map fun _=>q.1.ren (bkN src nm),rd0++(src++upto σ.hs.length ((nm-σ.hs.length)+(q.2.length-src.length))),wr0++keepW (E.rdo f) hs1 src (jr (bkN src nm) nm src q.2)⟩
     else none
 else none
def scT(T:TypeId):Bool:=match P.underlying T with
 |some (.int _)=>true
 |some .bool=>true
 |some .string=>true
 |_=>false
def scV:AV->Bool
 | .dat T _=>scT P T
 |_=>false
def scR:AV->Bool
 | .tup vs=>vs.all (scV P)
 |v=>scV P v
def af8(f:FuncId):Bool:=match E.fns f with
 |some fn=>fn.resultTypes.toList.all (scT P)
 |none=>false
def isNil{A:Type}:List A->Bool
 | []=>true
 |_=>false
def QH(n:Nat)(o:Oper)(σ:St)(g:Operand)(xs:List Operand)(Ts:List TypeId)(k:Dl->Option R):Option R:=
 match opd P E.dt σ 0 g with
 |  .fn f caps=>bif (Nat.beq xs.length Ts.length&&Ma P caps)then
    (bif E.own f then
     let r1:=AV.n2rL P (dnL P (E.nd f) 0 (bG P E.dt σ Ts xs)) σ.hs.length
     let hs1:=kN σ.hs σ.hs.length r1.2
     gN P E call n o σ f (r1.1++caps) hs1 [] (QF σ.hs.length r1.2) (σ.hs.length+r1.2.length) (reach hs1 1000 (AV.nmsL (r1.1++caps)) []) k
    else bif E.fzc f then
     let bs:=dA (bG P E.dt σ Ts xs)
     let L:=AV.rwsL (bG P E.dt σ Ts xs)++bK σ.hs bs
     let hs1:=wrO σ.hs (frzW σ.hs L)
     let hs2:=wrO hs1 (fzbW P E.pty hs1 bs)
     gN P E call n o σ f ((bG P E.dt σ Ts xs).map (fun v=>pkZ hs2 (pkA P (E.raw f) hs2 v))++caps) hs2 (L++bs) (frzW σ.hs L++fzbW P E.pty hs1 bs) σ.hs.length (reach hs2 1000 (AV.nmsL ((bG P E.dt σ Ts xs).map (fun v=>pkZ hs2 (pkA P (E.raw f) hs2 v))++caps)) []) k
    else
     let rws:=AV.rwsL (bG P E.dt σ Ts xs)
     let fw:=frzW σ.hs rws
     let hs1:=wrO σ.hs fw
     let as1:=(bG P E.dt σ Ts xs).map (pkA P (E.raw f) hs1)
     bif (af8 P E f&&isNil (AV.nmsL (as1++caps)))then
        call f (AV.renL (ix []) (as1++caps)) [] fun q=>bif (scR P q.1&&(isNil q.2&&XR n o))then k ⟨o.dst.map fun _=>q.1,rws,[]⟩else none
     else
        let bx:=AV.nmsL (bG P E.dt σ Ts xs++caps)
        let L:=rws++bK σ.hs bx
        let hs2:=wrO σ.hs (frzW σ.hs L)
        let as2:=(bG P E.dt σ Ts xs).map fun v=>l6 P hs2 (pkA P (E.raw f) hs2 v)
        let cs2:=caps.map (gD P hs2)
        bif (E.lnd f&&(af8 P E f&&isNil (AV.nmsL (as2++cs2))))then
          call f (AV.renL (ix []) (as2++cs2)) [] fun q=>bif (scR P q.1&&(isNil q.2&&XR n o))then k ⟨o.dst.map fun _=>q.1,L++bx,[]⟩else none
        else
          gN P E call n o σ f (as1++caps) hs1 rws fw σ.hs.length (reach hs1 1000 (AV.nmsL (as1++caps)) []) k)
    else none
 |_=>none
def QI:AV->Bool
 | .dead=>false
 | .tup _=>false
 |_=>true
def II(n:Nat)(o:Oper)(σ:St)(T:TypeId)(x:Operand)(k:Dl->Option R):Option R:=
 bif (CP P T&&QI (opd P E.dt σ T x))then out n o (.ifc T (opd P E.dt σ T x)) [] [] k else none
def af9(n:Nat)(o:Oper)(σ:St)(g:Operand)(name:String)(xs:List Operand)(Ts:List TypeId)(k:Dl->Option R):Option R:=
 match opd P E.dt σ 0 g with
 |  .ifc T v=>match xk P T name with
    |some f=>bif (Nat.beq xs.length Ts.length&&QI v)then(bif E.own f then
      let r1:=AV.n2rL P (v::bG P E.dt σ Ts xs) σ.hs.length
      let hs1:=kN σ.hs σ.hs.length r1.2
      gN P E call n o σ f r1.1 hs1 [] (QF σ.hs.length r1.2) (σ.hs.length+r1.2.length) (reach hs1 1000 (AV.nmsL r1.1) []) k
     else
      let rws:=AV.rwsL (v::bG P E.dt σ Ts xs)
      let fw:=frzW σ.hs rws
      let hs1:=wrO σ.hs fw
      let as1:=(v::bG P E.dt σ Ts xs).map (pkA P (E.raw f) hs1)
      gN P E call n o σ f as1 hs1 rws fw σ.hs.length (reach hs1 1000 (AV.nmsL as1) []) k)
     else none
    |none=>none
 |_=>none
def dB(T Te:TypeId):Bool:=(match slE P T with
 |some Te'=>Nat.beq Te' Te
 |none=>false)&&!Nat.beq (P.cellsOf Te) 0
def sK(T:TypeId):Option Dt:=match zeroV P T with
 |  some v=>match pk P [] v with
    |some (T',d)=>bif Nat.beq T' T then some d else none
    |none=>none
 |none=>none
def sM(   n:Nat)(o:Oper)(σ:St)(T T':TypeId)(vx vy:AV)(k:Dl->Option R):Option R:=
 match slE P T,sK P ((slE P T).getD 0)with
 |  some Te,some _=>bif (Nat.beq T T'&&!Nat.beq (P.cellsOf Te) 0)then
    match (match vy with
     | .row l=>match lk σ.hs l with
       | .row T5 ds=>bif dB P T5 Te then some ([l],ds)else none
       | .frz T5 ds=>bif dB P T5 Te then some ([l],ds)else none
       |_=>none
     | v=>match lval P [] v with
       |some (_,Te',ds)=>bif Nat.beq Te' Te then some ([],ds)else none
       |none=>none:Option (List Nat×List Dt))with
    |some (rd,ds)=>match vx with
     | .row l=>match lk σ.hs l with
       | .row T5 es=>bif dB P T5 Te then new σ fun nm=>abS (P.bytesOf Te) es ds fun rs=>out n o (.row nm) (l::nm::rd) [(l,.gone),(nm,.row T5 rs)] k else none
       | .rowD T5 T2 c kk es none=>match lk σ.hs kk with
         | .tok T4 ls=>bif dB P T5 Te&&(Nat.beq T4 T2&&ds.all fun e=>!lkd c e)then new σ fun nm=>abS (P.bytesOf Te) es ds fun rs=>
          out n o (.row (nm+1)) (l::kk::nm::(nm+1)::rd) [(l,.rowD T5 T2 c nm es none),(kk,.gone),(nm,.tok T2 (ls++List.replicate ds.length (.lst []))),(l,.gone),(nm+1,.rowD T5 T2 c nm rs none)] k else none
         |_=>none
       |_=>none
     | .nils T5=>bif dB P T5 Te then new σ fun nm=>abS (P.bytesOf Te) [] ds fun rs=>out n o (.row (nm+1)) (nm::(nm+1)::rd) [(nm,.gone),(nm+1,.row T5 rs)] k else none
     |_=>none
    |none=>none
    else none
 |_,_=>none
def atQ(P:Program)(Te:TypeId):Ob->Option (List AV)
 | .row T es=>bif dB P T Te then some (es.map (.dat Te))else none
 | .rowA T vs=>bif dB P T Te then some vs else none
 |_=>none
def Ga(n:Nat)(o:Oper)(σ:St)(T T':TypeId)(l l2:Nat)(k:Dl->Option R):Option R:=
 match slE P T,sK P ((slE P T).getD 0)with
 |  some Te,some _=>bif (Nat.beq T T'&&(!Nat.beq (P.cellsOf Te) 0&&Nat.ble (P.bytesOf Te) 1024))then
    match atQ P Te (lk σ.hs l),atQ P Te (lk σ.hs l2)with
    |some es,some ds=>bif Nat.ble (es.length+ds.length) 137438953472 then
     new σ fun nm=>out n o (.row nm) [l,nm,l2] [(l,.gone),(nm,.rowA T (es++ds))] k else none
    |_,_=>none
    else none
 |_,_=>none
def am0:Ob->Bool
 | .rowA _ _=>true
 |_=>false
def aga:Ob->Option (TypeId×TypeId×Nat×List Dt)
 | .rowD T5 T2 none kk es none=>some (T5,T2,kk,es)
 |_=>none
def atS:Ob->Option (TypeId×Nat)
 | .rowA T [.row m]=>some (T,m)
 |_=>none
def vJ(n:Nat)(o:Oper)(σ:St)(T T':TypeId)(l l2:Nat)(T5 T2 kk:Nat)(es:List Dt)(Tr m:Nat)(k:Dl->Option R):Option R:=
 match slE P T,sK P ((slE P T).getD 0)with
 |  some Te,some _=>match lk σ.hs kk,slE P T2 with
    | .tok T4 ls,some _=>bif Nat.beq T T'&&(Nat.beq T4 T2&&(Nat.beq T2 Te&&(dB P T5 Te&&(dB P Tr Te&&(Nat.beq (P.cellsOf Te) 1&&(Nat.ble (P.bytesOf Te) 1024&&Nat.ble (es.length+1) 137438953472))))))then
       new σ fun nm=>out n o (.row (nm+1)) [l,kk,nm,nm+1,l2] [(l,.rowD T5 T2 none nm es none),(kk,.gone),(nm,.tok T2 (ls++List.replicate 1 (.lst []))),(l,.gone),(nm+1,.rowD T5 T2 none nm (es++[.bool true]) (some (es.length,m)))] k
      else none
    |_,_=>none
 |_,_=>none
def vK(n:Nat)(o:Oper)(σ:St)(T T':TypeId)(vx vy:AV)(k:Dl->Option R):Option R:=match vx,vy with
 |  .row l,.row l2=>match aga (lk σ.hs l),atS (lk σ.hs l2)with
    |some (T5,T2,kk,es),some (Tr,m)=>vJ P n o σ T T' l l2 T5 T2 kk es Tr m k
    |_,_=>bif (am0 (lk σ.hs l2)||am0 (lk σ.hs l))then Ga P n o σ T T' l l2 k else sM P n o σ T T' (.row l) (.row l2) k
 |vx,vy=>sM P n o σ T T' vx vy k
def u8B(T:TypeId):Bool:=isI P T .u8&&(match P.info? T with
 |  some i=>Nat.beq i.size 1&&(Nat.beq i.bytes 1&&(match i.zero with
    |some (.int .u8 m)=>decide (m=0)
    |_=>false))
 |none=>false)
def vL(n:Nat)(o:Oper)(σ:St)(T T':TypeId)(vx vy:AV)(k:Dl->Option R):Option R:=
 match slE P T with
 |  some Te=>bif (u8B P Te&&isS P T')then
    match vI P vy with
    |some (_,s)=>match vx with
     | .row l=>match lk σ.hs l with
       | .row T5 es=>bif dB P T5 Te then new σ fun nm=>(app es (bytesD s)).bind fun rs=>out n o (.row nm) [l,nm] [(l,.gone),(nm,.row T5 rs)] k else none
       |_=>none
     |_=>none
    |none=>none
    else none
 |none=>none
def IJ(n:Nat)(o:Oper)(σ:St)(Te S2:TypeId)(vy:AV)(k:Dl->Option R):Option R:=
 bif (isI P Te .u8&&(Nat.beq (P.cellsOf Te) 1&&isS P S2))then
    match (match vy with
     | .row l=>match lk σ.hs l with
       | .row T5 ds=>bif dB P T5 Te then some ([l],ds)else none
       | .frz T5 ds=>bif dB P T5 Te then some ([l],ds)else none
       |_=>none
     | v=>match lval P [] v with
       |some (_,Te',ds)=>bif Nat.beq Te' Te then some ([],ds)else none
       |none=>none:Option (List Nat×List Dt))with
    |some (rd,ds)=>(axk ds).bind fun s=>out n o (.dat S2 (.str s)) rd [] k
    |none=>none
 else none
def QJ(n:Nat)(o:Oper)(σ:St)(c x y:Operand)(k:Dl->Option R):Option R:=match L9 P (opd P E.dt σ 0 c)with
 |some b=>bif b then out n o (opd P E.dt σ o.type x) [] [] k else out n o (opd P E.dt σ o.type y) [] [] k
 |none=>none
def IK(n:Nat)(o:Oper)(σ:St)(T:TypeId)(k:Dl->Option R):Option R:=match zeroV P T with
 |some v=>new σ fun nm=>out n o (.ptr nm [] 0) [nm] [(nm,.box T v)] k
 |none=>none
def agb(n:Nat)(o:Oper)(σ:St)(T:TypeId)(x:Operand)(k:Dl->Option R):Option R:=
 bif szB P T (opd P E.dt σ T x)then new σ fun nm=>out n o (.ptr nm [] 0) [nm] [(nm,.box T (opd P E.dt σ T x))] k else none
def IL(n:Nat)(o:Oper)(σ:St)(T:TypeId)(parts:List (Nat×Operand))(k:Dl->Option R):Option R:=match stF P T with
 |  some fs=>match zeroV P T with
    |some (.agg T' vs)=>bif (Nat.beq T' T&&(layB P T fs&&Kv P fs))then(match DY P E σ fs parts vs with
     |some us=>out n o (.agg T us) [] [] k
     |none=>none)else none
    |_=>none
 |none=>none
def Me(n:Nat)(o:Oper)(σ:St)(T:TypeId)(parts:List (Nat×Operand))(k:Dl->Option R):Option R:=
 match P.underlying T with
    |some (.array len Te)=>match P.info? T with
     | some zi=>match zi.zero with
       |some za=>match j5 P [] Te ((parts.map (·.2)).map (opd P E.dt σ Te))with
        |some ds=>bif (dense 0 parts&&(Nat.beq len parts.length&&(!Nat.beq len 0&&(!Nat.beq (P.cellsOf Te) 0&&(Nat.beq za.cells.size (len*P.cellsOf Te)&&Nat.beq (P.cellsOf T) (len*P.cellsOf Te))))))then out n o (.dat T (.lst ds)) [] [] k else none
        |none=>none
       |none=>none
     |none=>none
    |_=>none
def Cj(n:Nat)(o:Oper)(σ:St)(T:TypeId)(parts:List (Nat×Operand))(k:Dl->Option R):Option R:=match stF P T with
 |some _=>IL P E n o σ T parts k
 |none=>Me P E n o σ T parts k
def kK(n:Nat)(o:Oper)(σ:St)(T:TypeId)(len:Nat)(parts:List (Nat×Operand))(k:Dl->Option R):Option R:=match slE P T with
 |  some Te=>match sK P Te with
    |some _=>match j5 P (wrO σ.hs (frzW σ.hs (AV.rwsL (parts.map fun p=>opd P E.dt σ Te p.2)))) Te (parts.map fun p=>opd P E.dt σ Te p.2)with
     |some ds=>bif (dense 0 parts&&(Nat.beq len parts.length&&(!Nat.beq len 0&&(!Nat.beq (P.cellsOf Te) 0&&Nat.ble (len*P.cellsOf Te) 16777216))))then
       new σ fun nm=>out n o (.row nm) (nm::AV.rwsL (parts.map fun p=>opd P E.dt σ Te p.2)) (frzW σ.hs (AV.rwsL (parts.map fun p=>opd P E.dt σ Te p.2))++[(nm,.row T ds)]) k
      else none
     |none=>none
    |none=>none
 |none=>none
def Gb(n:Nat)(o:Oper)(σ:St)(T:TypeId)(len:Nat)(parts:List (Nat×Operand))(k:Dl->Option R):Option R:=match slE P T with
 |  some Te=>match sK P Te with
    |some _=>bif ((parts.map (·.2)).all (fun x=>szB P Te (opd P E.dt σ Te x))&&(dense 0 parts&&(Nat.beq len parts.length&&(!Nat.beq len 0&&(!Nat.beq (P.cellsOf Te) 0&&Nat.ble (len*P.cellsOf Te) 16777216)))))then
      new σ fun nm=>out n o (.row nm) [nm] [(nm,.rowA T ((parts.map (·.2)).map (opd P E.dt σ Te)))] k
     else none
    |none=>none
 |none=>none
def vM(n:Nat)(o:Oper)(σ:St)(T:TypeId)(len:Nat)(parts:List (Nat×Operand))(k:Dl->Option R):Option R:=
 bif E.nest o then Gb P E n o σ T len parts k else kK P E n o σ T len parts k
def Ck(n:Nat)(o:Oper)(σ:St)(T l i sz off:Nat)(T5 T2:TypeId)(c:Option Nat)(kk:Nat)(es:List Dt)(h:Option (Nat×Nat))(k:Dl->Option R):Option R:=match h,slE P T5,slE P T,lk σ.hs kk with
 |  none,some Te,some _,.tok T4 ls=>match sV P Te c with
    |some (T3,fo)=>bif (Nat.beq T3 T&&(Nat.beq T2 T&&(Nat.beq T4 T&&(Nat.beq fo off&&Nat.beq sz (P.cellsOf Te)))))then
      new σ fun nm=>(es[i]?).bind fun e=>bif lkd c e then(ls[i]?).bind fun e2=>
         out n o (.row nm) [l,kk,nm,nm+1] [(l,.rowD T5 T c (nm+1) es (some (i,nm))),(kk,.gone),(nm,.row T e2.toLst),(nm+1,.tok T (ls.set i (.lst [])))] k else none
     else none
    |none=>none
 |_,_,_,_=>none
def IQ(n:Nat)(o:Oper)(T l i sz off:Nat)(T5 T2:TypeId)(c:Option Nat)(es:List Dt)(i' m:Nat)(k:Dl->Option R):Option R:=match slE P T5,slE P T with
 |  some Te,some _=>match sV P Te c with
    |some (T3,fo)=>bif (Nat.beq T3 T&&(Nat.beq T2 T&&(Nat.beq fo off&&Nat.beq sz (P.cellsOf Te))))then
      bif Nat.beq i' i then(es[i]?).bind fun e=>bif lkd c e then out n o (.row m) [l] [] k else none else none
     else none
    |none=>none
 |_,_=>none
def IU(n:Nat)(o:Oper)(σ:St)(T l i sz off:Nat)(T5 T2:TypeId)(c:Option Nat)(kk:Nat)(es:List Dt)(h:Option (Nat×Nat))(k:Dl->Option R):Option R:=match h with
 |some (i',m)=>IQ P n o T l i sz off T5 T2 c es i' m k
 |none=>Ck P n o σ T l i sz off T5 T2 c kk es none k
def agc(c:Option Nat)(v:AV):Option Nat:=match c,v with
 |none,.row m=>some m
 |  some f,.agg _ vs=>match vs[f]? with
    |some (.row m)=>some m
    |_=>none
 |_,_=>none
def nJ(m:Nat):List Nat->List Nat
 | []=>[]
 |l::r=>bif Nat.beq l m then nJ m r else l::nJ m r
def Cm(hs:List Ob)(Te T2:TypeId)(c:Option Nat)(v:AV):Option Dt:=match c,v with
 |none,_=>some (.bool true)
 |  some f,.agg T' vs=>match pk P hs (.agg Te (vs.set f (.nils T2)))with
    |some (T3,e')=>bif (Nat.beq T' Te&&Nat.beq T3 Te)then some (hol (some f) e' (.bool true))else none
    |none=>none
 |_,_=>none
def Co(o:Oper)(σ:St)(T l i sz:Nat)(path:List Nat)(off:Nat)(T5 T2:TypeId)(c:Option Nat)(kk:Nat)(es:List Dt)(h:Option (Nat×Nat))(v:AV)(k:Dl->Option R):Option R:=match h,path,slE P T5,agc c v with
 |  none,[],some Te,some m=>match sV P Te c,slE P T2,Cm P (wrO σ.hs (frzW σ.hs (nJ m v.rws))) Te T2 c v with
    |some (T3,_),some _,some d'=>bif (Nat.beq T3 T2&&(Nat.beq Te T&&(Nat.beq off 0&&(Nat.beq sz (P.cellsOf T)&&!dZ l (nJ m v.rws)))))then
      (es[i]?).bind fun _=>xE o (l::v.rws) (frzW σ.hs (nJ m v.rws)++[(l,.rowD T5 T2 c kk (es.set i d') (some (i,m)))]) k
     else none
    |_,_,_=>none
 |_,_,_,_=>none
def arB(S:TypeId)(c:AV):Option (TypeId×Dt):=match P.underlying S with
 |  some (.array len Te)=>match c with
    | .dat S' d=>bif (Nat.beq S' S&&(Nat.beq (P.cellsOf S) (len*P.cellsOf Te)&&!Nat.beq (P.cellsOf Te) 0))then some (Te,d)else none
    |_=>none
 |_=>none
def vN(n:Nat)(o:Oper)(T l i sz:Nat)(path:List Nat)(off S:Nat)(c:AV)(k:Dl->Option R):Option R:=match path,arB P S c with
 | [],some (Te,d)=>bif (Nat.beq Te T&&(Nat.beq off 0&&(Nat.beq sz (P.cellsOf Te)&&szB P T (.dat T d))))then(d.toLst[i]?).bind fun e=>out n o (.dat T (canD P T e)) [l] [] k else none
 |_,_=>none
def qz(o:Oper)(T l i sz:Nat)(path:List Nat)(off S:Nat)(c v:AV)(k:Dl->Option R):Option R:=match path,arB P S c,v with
 | [],some (Te,d),.dat T' x=>bif (Nat.beq Te T&&(Nat.beq T' T&&(Nat.beq off 0&&Nat.beq sz (P.cellsOf Te))))then(d.toLst[i]?).bind fun _=>xE o [l] [(l,.box S (.dat S (.lst (d.toLst.set i x))))] k else none
 |_,_,_=>none
def QK(n:Nat)(o:Oper)(σ:St)(T:TypeId)(x:Operand)(k:Dl->Option R):Option R:=match opd P E.dt σ 0 x with
 | .rptr T' d=>bif (Nat.beq T' T&&szB P T (.dat T d))then out n o (.dat T (canD P T d)) [] [] k else none
 |  .ptr l path off=>match lk σ.hs l with
    | .box S c=>match getAt P S c path with
      |some (T',q,v)=>bif (Nat.beq T' T&&(Nat.beq q off&&(szB P T v&&(v.isAgg P==bS P T))))then out n o (v.canon P) [l] [] k else none
      |none=>none
    |_=>none
 |  .eptr l i sz path off=>match lk σ.hs l with
    | .row T5 es=>match slE P T5 with
      |some Te=>(es[i]?).bind fun e=>match getAt P Te (.dat Te e) path with
       |some (T',q,v)=>bif (Nat.beq T' T&&(Nat.beq q off&&(Nat.beq sz (P.cellsOf Te)&&(szB P T v&&(v.isAgg P==bS P T)))))then out n o (v.canon P) [l] [] k else none
       |none=>none
      |none=>none
    | .rowA T5 vs=>match slE P T5 with
      |some Te=>(vs[i]?).bind fun e=>match getAt P Te e path with
       |some (T',q,v)=>bif (Nat.beq T' T&&(Nat.beq q off&&(Nat.beq sz (P.cellsOf Te)&&(szB P T v&&(v.isAgg P==bS P T)))))then out n o (v.canon P) [l] [] k else none
       |none=>none
      |none=>none
    | .rowD T5 T2 c kk es h=>IU P n o σ T l i sz off T5 T2 c kk es h k
    | .box S c=>vN P n o T l i sz path off S c k
    |_=>none
 |_=>none
def IV(o:Oper)(σ:St)(T:TypeId)(x y:Operand)(k:Dl->Option R):Option R:=
 bif (szB P T (opd P E.dt σ T y)&&!Nat.beq (P.cellsOf T) 0)then(match opd P E.dt σ 0 x with
 |  .ptr l path off=>match lk σ.hs l with
    | .box S c=>match setAt P T (opd P E.dt σ T y) S c path with
      |some (q,c')=>bif Nat.beq q off then xE o [l] [(l,.box S c')] k else none
      |none=>none
    |_=>none
 |  .eptr l i sz path off=>match lk σ.hs l with
    | .row T5 es=>match slE P T5 with
      |some Te=>(es[i]?).bind fun e=>match setAt P T (opd P E.dt σ T y) Te (.dat Te e) path with
       |  some (q,c')=>match pk P (wrO σ.hs (frzW σ.hs (opd P E.dt σ T y).rws)) c' with
          |some (Te',e')=>bif (Nat.beq q off&&(Nat.beq sz (P.cellsOf Te)&&(compat P Te' Te&&!dZ l (opd P E.dt σ T y).rws)))then xE o (l::(opd P E.dt σ T y).rws) (frzW σ.hs (opd P E.dt σ T y).rws++[(l,.row T5 (es.set i e'))]) k else none
          |none=>none
       |none=>none
      |none=>none
    | .rowA T5 vs=>match slE P T5 with
      |some Te=>(vs[i]?).bind fun e=>match setAt P T (opd P E.dt σ T y) Te e path with
       |some (q,c')=>bif (Nat.beq q off&&Nat.beq sz (P.cellsOf Te))then xE o [l] [(l,.rowA T5 (vs.set i c'))] k else none
       |none=>none
      |none=>none
    | .rowD T5 T2 c kk es h=>Co P o σ T l i sz path off T5 T2 c kk es h (opd P E.dt σ T y) k
    | .box S c=>qz P o T l i sz path off S c (opd P E.dt σ T y) k
    |_=>none
 |_=>none)else none
def vO(n:Nat)(o:Oper)(σ:St)(name:String)(first:List Operand)(nc:Nat)(k:Dl->Option R):Option R:=match first with
 |  [x]=>match opd P E.dt σ 0 x with
    | .ifc T _=>bif Nat.beq nc 0 then out n o (.mth T name) [] [] k else none
    |_=>none
 |_=>none
def ru(n:Nat)(o:Oper)(σ:St)(x:Operand)(k:Dl->Option R):Option R:=match opd P E.dt σ 0 x with
 | .rptr T d=>out n o (.rptr T d) [] [] k
 | .ptr l p q=>out n o (.ptr l p q) [] [] k
 | .eptr l i z p q=>out n o (.eptr l i z p q) [] [] k
 | .fn f c=>out n o (.fn f c) [] [] k
 |  .mth T name=>match xk P T name with
    |some _=>out n o (.mth T name) [] [] k
    |none=>none
 |  .dat T d=>match ppE P T with
    |some T2=>(idx d.toLst 0).bind fun e=>out n o (.rptr T2 e) [] [] k
    |none=>none
 |_=>none
def agd(n:Nat)(o:Oper)(op:BinOp)(T:TypeId)(vx:AV)(y:Operand)(k:Dl->Option R):Option R:=match y with
 |  .const .nilIface=>match P.underlying T with
    |some (.interface _)=>match vx with
     | .nif b=>match bT P (o.type::E.dt)with
       |some TB=>match op with
        | .eql=>out n o (.dat TB (.bool b)) [] [] k
        | .neq=>out n o (.dat TB (.bool (!b))) [] [] k
        |_=>none
       |none=>none
     |_=>none
    |_=>none
 |_=>none
def atT(n:Nat)(o:Oper)(σ:St)(op:BinOp)(T:TypeId)(x y:Operand)(k:Dl->Option R):Option R:=match y with
 |  .const (.pointer none)=>match ppE P T with
    |some _=>match opd P E.dt σ T x with
     | .dat T1 p=>bif Nat.beq T1 T then(match bT P (o.type::E.dt)with
       |some TB=>match op with
        | .eql=>out n o (.dat TB (.bool p.toLst.isEmpty)) [] [] k
        | .neq=>out n o (.dat TB (.bool (!p.toLst.isEmpty))) [] [] k
        |_=>none
       |none=>none)else none
     |_=>none
    |none=>none
 |_=>none
def atU(n:Nat)(o:Oper)(σ:St)(op:BinOp)(T:TypeId)(x y:Operand)(T':TypeId)(k:Dl->Option R):Option R:=match opd P E.dt σ T' y with
 |  .dat T2 q=>match opd P E.dt σ T x with
    | .dat T1 p=>bif (agK P T&&(Nat.beq T1 T&&Nat.beq T2 T))then(match bT P (o.type::E.dt)with
      |some TB=>match op with
       | .eql=>out n o (.dat TB (.bool (ptE p q))) [] [] k
       | .neq=>out n o (.dat TB (.bool (!(ptE p q)))) [] [] k
       |_=>none
      |none=>none)else atT P E n o σ op T x y k
    |_=>none
 |_=>agd P E n o op T (opd P E.dt σ T x) y k
def agf(n:Nat)(o:Oper)(σ:St)(op:BinOp)(T:TypeId)(x y:Operand)(T':TypeId)(k:Dl->Option R):Option R:=match ival P (opd P E.dt σ T x)with
 |  some (Tx,q,a)=>match ival P (opd P E.dt σ T' y)with
    |some (_,q',b)=>match op with
     | .shl=>bif decide (0<=b)then out n o (.dat Tx (.int (shlI q a b))) [] [] k else none
     | .shr=>bif decide (0<=b)then out n o (.dat Tx (.int (shrI q a b))) [] [] k else none
     |_=>bif decide (q=q')then af4 P E n o op Tx q a b k else none
    |none=>none
 |  none=>match vI P (opd P E.dt σ T x)with
    |some (Tx,a)=>match vI P (opd P E.dt σ T' y)with
     |some (_,b)=>af5 P E n o op Tx a b k
     |none=>none
    |none=>match L9 P (opd P E.dt σ T x)with
     |some a=>match L9 P (opd P E.dt σ T' y)with
      |some b=>bif isB P T then QG P E n o op a b k else none
      |none=>none
     |none=>atU P E n o σ op T x y T' k
def agh(n:Nat)(o:Oper)(σ:St)(x:Operand)(k:Dl->Option R):Option R:=match L9 P (opd P E.dt σ o.type x)with
 |  some b=>match bT P (o.type::E.dt)with
    |some TB=>out n o (.dat TB (.bool (!b))) [] [] k
    |none=>none
 |none=>none
def agi(n:Nat)(o:Oper)(σ:St)(T:TypeId)(x:Operand)(k:Dl->Option R):Option R:=match ival P (opd P E.dt σ T x)with
 |some (Tx,q,a)=>out n o (.dat Tx (.int (q.wrap (0-a)))) [] [] k
 |none=>none
def IW(n:Nat)(o:Oper)(σ:St)(T:TypeId)(x:Operand)(k:Dl->Option R):Option R:=match ival P (opd P E.dt σ T x)with
 |some (Tx,q,a)=>out n o (.dat Tx (.int (complI q a))) [] [] k
 |none=>none
def vP(n:Nat)(o:Oper)(σ:St)(S1 S2:TypeId)(x:Operand)(k:Dl->Option R):Option R:=match ival P (opd P E.dt σ S1 x)with
 |  some (_,q,a)=>match P.underlying S2 with
    |some (.int q2)=>bif isI P S1 q then out n o (.dat S2 (.int (q2.wrap a))) [] [] k else none
    |_=>none
 |  none=>match vI P (opd P E.dt σ S1 x)with
    |some (_,s)=>bif (isS P S1&&isS P S2)then out n o (.dat S2 (.str s)) [] [] k else none
    |none=>none
def QL(    n:Nat)(o:Oper)(σ:St)(T:TypeId)(x y:Operand)(k:Dl->Option R):Option R:=match slE P T with
 |  some Te=>match sK P Te with
    |some z=>match gX P E σ 0 (some x)with
     |some a=>match gX P E σ 0 (some y)with
      |some b=>bif (!Nat.beq (P.cellsOf Te) 0)then
           new σ fun nm=>mkK (P.bytesOf Te) a b z fun es=>out n o (.row nm) [nm] [(nm,.row T es)] k
       else none
      |none=>none
     |none=>none
    |none=>none
 |none=>none
def Cq(n:Nat)(o:Oper)(σ:St)(T:TypeId)(x:Operand)(lo hi:Option Operand)(k:Dl->Option R):Option R:=match opd P E.dt σ T x with
 |  .row l=>match lk σ.hs l with
    | .row _ es=>match gX P E σ 0 lo with
      |some a=>match gX P E σ es.length hi with
       |some b=>match slE P T with
        |some Te=>bif !Nat.beq (P.cellsOf Te) 0 then(cutL es a b).bind fun _=>out n o .dead [l] [] k else none
        |none=>none
       |none=>none
      |none=>none
    |_=>none
 |_=>none
def Cr(n:Nat)(o:Oper)(σ:St)(T:TypeId)(x:Operand)(lo hi:Option Operand)(k:Dl->Option R):Option R:=match lo,opd P E.dt σ T x with
 |  none,.row l=>match lk σ.hs l with
    | .row T5 es=>match gX P E σ es.length hi with
      |some b=>match slE P T with
       |some Te=>bif dB P T5 Te then new σ fun nm=>(cutL es 0 b).bind fun rs=>out n o (.row nm) [l,nm] [(l,.gone),(nm,.row T5 rs)] k else none
       |none=>none
      |none=>none
    |_=>none
 |_,_=>none
def QM(n:Nat)(o:Oper)(σ:St)(T:TypeId)(x:Operand)(lo:Operand)(hi:Option Operand)(k:Dl->Option R):Option R:=match hi,opd P E.dt σ T x with
 |  none,.row l=>match lk σ.hs l with
    | .row _ es=>match gX P E σ 0 (some lo)with
      |some a=>match slE P T with
       |some Te=>bif !Nat.beq (P.cellsOf Te) 0 then(cutL es a es.length).bind fun _=>out n o (.sub l a.toNat (P.cellsOf Te)) [l] [] k else none
       |none=>none
      |none=>none
    |_=>none
 |_,_=>none
def Gc(n:Nat)(o:Oper)(σ:St)(T:TypeId)(x:Operand)(lo hi:Option Operand)(k:Dl->Option R):Option R:=match lo with
 |none=>Cr P E n o σ T x none hi k
 |some y=>QM P E n o σ T x y hi k
def IX(n:Nat)(o:Oper)(σ:St)(T:TypeId)(x:Operand)(lo hi:Option Operand)(k:Dl->Option R):Option R:=bif E.sld o then Cq P E n o σ T x lo hi k else bif E.cut o then Gc P E n o σ T x lo hi k else match vI P (opd P E.dt σ T x)with
 |  some (Tx,s)=>match gX P E σ 0 lo with
    |some a=>match gX P E σ s.size hi with
     |some b=>bif isS P T then(cutS s a b).bind fun r=>out n o (.dat Tx (.str r)) [] [] k else none
     |none=>none
    |none=>none
 |  none=>match lval P (wrO σ.hs (frzW σ.hs (opd P E.dt σ T x).rws)) (opd P E.dt σ T x)with
    |some (Tx,Te,es)=>match gX P E σ 0 lo with
     |some a=>match gX P E σ es.length hi with
      |some b=>bif dB P T Te then(cutL es a b).bind fun r=>out n o (.dat Tx (.lst r)) (opd P E.dt σ T x).rws (frzW σ.hs (opd P E.dt σ T x).rws) k else none
      |none=>none
     |none=>none
    |none=>none
def mg(n:Nat)(o:Oper)(σ:St)(S:TypeId)(x:Operand)(i:Nat)(k:Dl->Option R):Option R:=match stF P S with
 |  some fs=>match fs[i]? with
    |some f=>bif !Nat.beq (P.cellsOf f.type) 0 then(match opd P E.dt σ 0 x with
     | .ptr l p q=>out n o (.ptr l (p++[i]) (q+f.offset)) [] [] k
     | .eptr l j z p q=>out n o (.eptr l j z (p++[i]) (q+f.offset)) [] [] k
     | .rptr S' d=>bif (Nat.beq S' S&&Nat.ble (f.offset+P.cellsOf f.type) (P.cellsOf S))then out n o (.rptr f.type (d.fld i)) [] [] k else none
     | .dat T2 d=>match ppE P T2 with
       |some S'=>(idx d.toLst 0).bind fun e=>bif (Nat.beq S' S&&Nat.ble (f.offset+P.cellsOf f.type) (P.cellsOf S))then out n o (.rptr f.type (e.fld i)) [] [] k else none
       |none=>none
     |_=>none)else none
    |none=>none
 |none=>none
def IY(n:Nat)(o:Oper)(σ:St)(S:TypeId)(x:Operand)(i:Nat)(k:Dl->Option R):Option R:=match stF P S with
 |  some fs=>match fs[i]? with
    |some f=>match pk P [] (opd P E.dt σ S x)with
     |some (S',d)=>bif (Nat.beq S' S&&(Nat.ble (f.offset+P.cellsOf f.type) (P.cellsOf S)&&szB P f.type (.dat f.type (d.fld i))))then out n o (.dat f.type (canD P f.type (d.fld i))) [] [] k else none
     |none=>none
    |none=>none
 |none=>none
def mh(n:Nat)(o:Oper)(σ:St)(T:TypeId)(x y:Operand)(k:Dl->Option R):Option R:=match gX P E σ 0 (some y)with
 |  some i=>match opd P E.dt σ T x with
    | .row l=>match lk σ.hs l with
      | .row T5 es=>match slE P T5 with
        |some Te=>bif dB P T Te then(inL es i).bind fun _=>out n o (.eptr l i.toNat (P.cellsOf Te) [] 0) [l] [] k else none
        |none=>none
      | .rowA T5 vs=>match slE P T5 with
        |some Te=>bif (dB P T Te&&(decide (0<=i)&&decide (i<(vs.length:Int))))then out n o (.eptr l i.toNat (P.cellsOf Te) [] 0) [l] [] k else none
        |none=>none
      | .rowD T5 _ _ _ es _=>match slE P T5 with
        |some Te=>bif dB P T Te then(inL es i).bind fun _=>out n o (.eptr l i.toNat (P.cellsOf Te) [] 0) [l] [] k else none
        |none=>none
      | .frz T5 es=>match slE P T5 with
        |some Te=>bif dB P T Te then(idx es i).bind fun e=>out n o (.rptr Te e) [l] [] k else none
        |none=>none
      |_=>none
    | .ptr l [] 0=>match lk σ.hs l with
      | .box S c=>match arB P S c with
        |some (Te,d)=>bif Nat.beq S T then(inL d.toLst i).bind fun _=>out n o (.eptr l i.toNat (P.cellsOf Te) [] 0) [l] [] k else none
        |none=>none
      |_=>none
    | v=>match lval P [] v with
      |some (_,Te,es)=>bif dB P T Te then(idx es i).bind fun e=>out n o (.rptr Te e) [] [] k else none
      |none=>none
 |none=>none
def IZ(n:Nat)(o:Oper)(σ:St)(T:TypeId)(x y:Operand)(k:Dl->Option R):Option R:=match vI P (opd P E.dt σ T x)with
 |  some (_,s)=>match gX P E σ 0 (some y)with
    |some i=>bif (isS P T&&isI P o.type .u8)then(idxS s i).bind fun c=>out n o (.dat o.type (.int c)) [] [] k else none
    |none=>none
 |  none=>match opd P E.dt σ T x with
    | .dat T' d=>match P.underlying T' with
      |some (.array len Te)=>match gX P E σ 0 (some y)with
       |some i=>bif (Nat.beq T' T&&(Nat.beq (P.cellsOf T') (len*P.cellsOf Te)&&szB P Te (.dat Te (.int 0))))then(idx d.toLst i).bind fun e=>out n o (.dat Te (canD P Te e)) [] [] k else none
       |none=>none
      |_=>none
    |_=>none
def sN(T:TypeId):Option (TypeId×TypeId):=match P.underlying T with
 |some (.map K V)=>bif (isS P K&&!bS P V)then some (K,V)else none
 |_=>none
def Us(T:TypeId):Option Dt:=match P.info? T with
 |  some i=>match i.zero with
    |some z=>bif qy z then none else sK P T
    |none=>none
 |none=>none
def am1(P:Program)(T:TypeId):Bool:=match P.info? T with
 |  some i=>(match i.zero with
    |some (.slice none 0 0)=>true
    |_=>false)
 |none=>false
def agj(hs:List Ob)(k0 l:Nat):Option (List Nat×List (Nat×Ob)):=match lk hs l with
 |  .rowD T5 T2 c k es (some (i,m))=>match lk hs k,lk hs m with
    | .tok T3 ls,.row T4 ds=>bif (Ia c&&(Nat.beq T3 T2&&(Nat.beq T4 T2&&Nat.ble k0 hs.length)))then some ([l,k,m,hs.length],[(l,.rowD T5 T2 c hs.length es none),(k,.gone),(m,.gone),(hs.length,.tok T2 (ls.set i (.lst ds)))])else none
    |_,_=>none
 |_=>none
def Ut(hs:List Ob)(k0:Nat):List Nat->Option (List Nat×List (Nat×Ob))
 | []=>none
 |  l::r=>match agj hs k0 l with
    |some q=>some q
    |none=>Ut hs k0 r
def am2(σ:St)(L:List Nat)(f:St->(Dl->Option R)->Option R)(k:Dl->Option R):Option R:=match Ut σ.hs σ.k0 L with
 |some (rd,ws)=>f ⟨σ.ts,wrO σ.hs ws,σ.k0⟩ fun U=>k ⟨U.v,rd++U.rd,ws++U.wr⟩
 |none=>f σ k
def vQ(n:Nat)(o:Oper)(σ:St)(V l:Nat)(T5 T2 kk:Nat)(c:Option Nat)(es:List Dt)(h:Option (Nat×Nat))(s:ByteArray)(k:Dl->Option R):Option R:=
 bif mhas es s then(match h,lk σ.hs kk with
    |none,.tok T4 ls=>bif (Nat.beq T4 T2&&Nat.beq V T2)then new σ fun nm=>(mix es s).bind fun i=>(ls[i]?).bind fun e2=>
     out n o (.row nm) [l,kk,nm,nm+1] [(l,.rowD T5 T2 c (nm+1) es (some (i,nm))),(kk,.gone),(nm,.row T2 e2.toLst),(nm+1,.tok T2 (ls.set i (.lst [])))] k else none
    |_,_=>none)else bif am1 P V then out n o (.nils V) [l] [] k else none
def Ct(n     :    Nat)(o:Oper)(σ:St)(T:TypeId)(x y:Operand)(two:Bool)(k:Dl->Option R):Option R:=match sN P T with
 |  some (KT,V)=>match Us P V with
    |some z=>match opd P E.dt σ T x with
     | .row l=>   match lk σ.hs l with
       |  .map T5 es=>match sN P T5 with
          |some ( K5,V5)=>match vI P (opd P E.dt σ KT y)with
           |some (_,s)=>bif (Nat.beq K5 KT&&Nat.beq V5 V)then
             (bif two then(match bT P E.dt with
                  |some TB=>out n o (.tup [.dat V (mgetD es s z),.dat TB (.bool (mhas es s))]) [l] [] k
                  |none=>none)
             else(bif scT P V then out n o (.dat V (canD P V (mgetD es s z))) [l] [] k else bif mhas es s then out n o (.dat V (canD P V (mgetD es s z))) [l] [] k else bif am1 P V then out n o (.nils V) [l] [] k else none))else none
           |none=>none
          |none=>none
       |  .rowD T5 T2 c kk es h=>match sN P T5 with
          |some (_,V5)=>match vI P (opd P E.dt σ KT y)with
           |some (_,s)=>bif (Nat.beq V5 V&&!two)then vQ P n o σ V l T5 T2 kk c es h s k else none
           |none=>none
          |none=>none
       |_=>none
     |_=>none
    |none=>none
 |none=>none
def vR(n:Nat)(o:Oper)(σ:St)(T:TypeId)(k:Dl->Option R):Option R:=match sN P T with
 |some (_,V)=>bif E.mow T then(match slE P V with
  |some _=>new σ fun nm=>out n o (.row nm) [nm,nm+1] [(nm,.map T []),(nm,.rowD T V mpC (nm+1) [] none),(nm+1,.tok V [])] k
  |none=>none)else new σ fun nm=>out n o (.row nm) [nm] [(nm,.map T [])] k
 |none=>none
def QN(o:Oper)(σ:St)(l T5 T2 kk:Nat)(c:Option Nat)(es:List Dt)(h:Option (Nat×Nat))(s:ByteArray)(m:Nat)(k:Dl->Option R):Option R:=
 bif mhas es s then(mix es s).bind fun i=>(match h with
    |none=>xE o [l,m] [(l,.rowD T5 T2 c kk es (some (i,m)))] k
    |some (j,_)=>bif Nat.beq j i then xE o [l,m] [(l,.rowD T5 T2 c kk es (some (i,m)))] k else none)
 else(match h,lk σ.hs kk with
    |none,.tok T4 ls=>bif Nat.beq T4 T2 then new σ fun nm=>xE o [l,kk,nm,m] [(l,.rowD T5 T2 c nm es none),(kk,.gone),(nm,.tok T2 (ls++List.replicate 1 (.lst []))),(l,.rowD T5 T2 c nm (mput es s (.bool true)) (some (es.length,m)))] k else none
    |_,_=>none)
def mo(o:Oper)(σ:St)(T:TypeId)(x y u:Operand)(k:Dl->Option R):Option R:=match sN P T with
 |  some (KT,V)=>match opd P E.dt σ T x with
    | .row l=>match lk σ.hs l with
      | .map T5 es=>match sN P T5 with
        | some (_,V5)=>match vI P (opd P E.dt σ KT y)with
          |some (_,s)=>match pk P (wrO σ.hs (frzW σ.hs (opd P E.dt σ V u).rws)) (opd P E.dt σ V u)with
           |some (TV,d)=>bif (compat P TV V5&&(!bS P TV&&!dZ l (opd P E.dt σ V u).rws))then xE o (l::(opd P E.dt σ V u).rws) (frzW σ.hs (opd P E.dt σ V u).rws++[(l,.map T5 (mput es s d))]) k else none
           |none=>none
          |none=>none
        |none=>none
      | .rowD T5 T2 c kk es h=>match sN P T5 with
        | some (_,V5)=>match vI P (opd P E.dt σ KT y),opd P E.dt σ V u with
          |some (_,s),.row m=>match lk σ.hs m with
           | .row Tm _=>bif (Nat.beq V5 T2&&Nat.beq Tm T2)then QN o σ l T5 T2 kk c es h s m k else none
           |_=>none
          |_,_=>none
        |none=>none
      |_=>none
    |_=>none
 |none=>none
def Cu:List (Nat×List Value)->Nat->Option (List Value)
 | [],_=>none
 |t::r,g=>bif Nat.beq t.1 g then some t.2 else Cu r g
def agk(Te:TypeId)(sz:Nat):Nat->List Value->Option (List Dt)
 |0,_=>some []
 |  m+1,cs=>match avC P 8 Te (cs.take sz)with
    |some v=>match pk P [] v with
     |some (T',d)=>bif Nat.beq T' Te then(match agk Te sz m (cs.drop sz)with
      |some ds=>some (d::ds)
      |none=>none)else none
     |none=>none
    |none=>none
def agl(n:Nat)(o:Oper)(σ:St)(T:TypeId)(g:Nat)(y:Operand)(k:Dl->Option R):Option R:=match P.underlying T with
 |  some (.array len Te)=>match Cu tabs g with
    |some cs=>match agk P Te (P.cellsOf Te) len cs with
     |some ds=>match gX P E σ 0 (some y)with
      |some i=>bif (!Nat.beq (P.cellsOf Te) 0&&Nat.beq cs.length (len*P.cellsOf Te))then(idx ds i).bind fun e=>out n o (.rptr Te e) [] [] k else none
      |none=>none
     |none=>none
    |none=>none
 |_=>none
def vS(n:Nat)(o:Oper)(σ:St)(x:Operand)(i:Nat)(k:Dl->Option R):Option R:=match opd P E.dt σ 0 x with
 |  .tup vs=>match vs[i]? with
    |some (.tup _)=>none
    |some v=>out n o v [] [] k
    |none=>none
 |_=>none
def rz(n:Nat)(o:Oper)(σ:St)(f:FuncId)(first:Nat)(caps:List Operand)(k:Dl->Option R):Option R:=
 bif (Nat.beq first 0&&Ma P (caps.map (opd P E.dt σ 0)))then out n o (.fn f (caps.map (opd P E.dt σ 0))) [] [] k else none
def agm(n:Nat)(o:Oper)(σ:St)(T:TypeId)(x:Operand)(k:Dl->Option R):Option R:=
 bif isI P o.type .i64 then(match vI P (opd P E.dt σ T x)with
 |some (_,s)=>bif isS P T then out n o (.dat o.type (.int s.size)) [] [] k else none
 |  none=>match slE P T with
    |some _=>match opd P E.dt σ T x with
     | .row l=>match lk σ.hs l with
       | .row _ es=>out n o (.dat o.type (.int es.length)) [l] [] k
       | .rowA _ vs=>out n o (.dat o.type (.int vs.length)) [l] [] k
       | .rowD T5 _ _ _ es _=>match slE P T5 with
         |some _=>out n o (.dat o.type (.int es.length)) [l] [] k
         |none=>none
       | .frz T5 es=>bif (slE P T5).isSome then out n o (.dat o.type (.int es.length)) [l] [] k else none
       |_=>none
     | v=>match lval P [] v with
       |some (_,_,es)=>out n o (.dat o.type (.int es.length)) [] [] k
       |none=>none
    |none=>none)else none
def agn(n:Nat)(o:Oper)(σ:St)(T T':TypeId)(x y:Operand)(k:Dl->Option R):Option R:=match ival P (opd P E.dt σ T x)with
 |  some (Tx,q,a)=>match ival P (opd P E.dt σ T' y)with
    |some (_,q',b)=>bif decide (q=q')then out n o (.dat Tx (.int (bif decide (b<a)then b else a))) [] [] k else none
    |none=>none
 |none=>none
def agp(n:Nat)(o:Oper)(σ:St)(T T':TypeId)(x y:Operand)(k:Dl->Option R):Option R:=match ival P (opd P E.dt σ T x)with
 |  some (Tx,q,a)=>match ival P (opd P E.dt σ T' y)with
    |some (_,q',b)=>bif decide (q=q')then out n o (.dat Tx (.int (bif decide (a<b)then b else a))) [] [] k else none
    |none=>none
 |none=>none
def I4(o:Oper)(σ:St)(T:TypeId)(x:Operand)(k:Dl->Option R):Option R:=match opd P E.dt σ T x with
 |  .sub l i sz=>match lk σ.hs l with
    | .row T5 es=>match slE P T with
      |some Te=>match Us P Te with
       |some z=>bif (dB P T5 Te&&(Nat.beq sz 1&&Nat.beq (P.cellsOf Te) 1))then bif Nat.ble i es.length then xE o [l] [(l,.row T5 (es.take i++List.replicate (es.length-i) z))] k else none else none
       |none=>none
      |none=>none
    |_=>none
 |_=>none
def Gd(n:Nat)(o:Oper)(σ:St)(b:Builtin)(xs:List Operand)(Ts:List TypeId)(k:Dl->Option R):Option R:=match b,xs,Ts with
 | .len,[x],[T]=>agm P E n o σ T x k
 | .clear,[x],[T]=>I4 P E o σ T x k
 | .append,[x,y],[T,T']=>bif isS P T' then vL P n o σ T T' (opd P E.dt σ T x) (opd P E.dt σ T' y) k else vK P n o σ T T' (opd P E.dt σ T x) (opd P E.dt σ T' y) k
 | .min,[x,y],[T,T']=>agn P E n o σ T T' x y k
 | .max,[x,y],[T,T']=>agp P E n o σ T T' x y k
 |_,_,_=>none
def aw3(σ:St)(g:Operand)(xs:List Operand)(Ts:List TypeId):Bool:=match opd P E.dt σ 0 g with
 | .fn f _=>E.bn f&&!isNil (AV.rwsL (bG P E.dt σ Ts xs))
 |_=>false
def evO(n:Nat)(o:Oper)(σ:St)(k:Dl->Option R):Option R:=
 match o.op with
 | .move x=>out n o (opd P E.dt σ o.type x) [] [] k
 | .assign x=>out n o (opd P E.dt σ o.type x) [] [] k
 | .pick c x y=>QJ P E n o σ c x y k
 | .alloc T=>IK P n o σ T k
 | .box T x=>agb P E n o σ T x k
 | .build T parts=>Cj P E n o σ T parts.toList k
 | .buildSlice T len parts=>vM P E n o σ T len parts.toList k
 | .load T x=>QK P E n o σ T x k
 | .store T x y=>IV P E o σ T x y k
 | .nilCheck x=>ru P E n o σ x k
 | .binOp op T x y T'=>agf P E n o σ op T x y T' k
 | .unOp .not _ x=>agh P E n o σ x k
 | .unOp .neg T x=>agi P E n o σ T x k
 | .unOp .xor T x=>IW P E n o σ T x k
 |  .convert S1 S2 x=>match slE P S1 with
    |some Te=>IJ P n o σ Te S2 (opd P E.dt σ S1 x) k
    |none=>vP P E n o σ S1 S2 x k
 | .makeSlice T x y=>QL P E n o σ T x y k
 | .slice T x lo hi none=>IX P E n o σ T x lo hi k
 | .fieldAddr S x i=>mg P E n o σ S x i k
 | .field S x i=>IY P E n o σ S x i k
 | .indexAddr T (.global g) y=>agl P E n o σ T g y k
 | .indexAddr T x y=>mh P E n o σ T x y k
 | .lookup T x y two=>am2 σ (AV.rws (opd P E.dt σ T x)) (fun σ k=>Ct P E n o σ T x y two k) k
 | .makeMap T none=>vR P E n o σ T k
 | .mapUpdate T x y u=>mo P E o σ T x y u k
 | .index T x y=>IZ P E n o σ T x y k
 | .extract x i=>vS P E n o σ x i k
 | .makeFunc (.func f) first caps=>rz P E n o σ f first.size caps.toList k
 | .makeFunc (.method name) first caps=>vO P E n o σ name first.toList caps.size k
 | .call ⟨.value g,xs,Ts⟩=>am2 σ (reach σ.hs 1000 (AV.nmsL (bG P E.dt σ Ts.toList xs.toList)) []) (fun σ k=>bif aw3 P E σ g xs.toList Ts.toList then none else QH P E call n o σ g xs.toList Ts.toList k) k
 | .call ⟨.builtin b,xs,Ts⟩=>Gd P E n o σ b xs.toList Ts.toList k
 | .makeInterface T x=>II P E n o σ T x k
 | .call ⟨.invoke g name,xs,Ts⟩=>af9 P E call n o σ g name xs.toList Ts.toList k
 |_=>none
end
def tmpsOf:List Operand->List Nat
 | []=>[]
 | .tmp t::r=>t::tmpsOf r
 |_::r=>tmpsOf r
def gslot(ops:List Oper)(j:Nat):Option Nat:=match ops[j]? with
 |some o=>o.dst
 |none=>none
def Oper.reads(ops:List Oper)(o:Oper):List Nat:=(match o.guard with
 |some (j,_)=>(gslot ops j).toList
 |none=>[])++tmpsOf o.op.operands.toList
def XT(a b:List Nat):Bool:=a.all fun x=>!dZ x b
def indep(ops:List Oper)(p q:Oper×Dl):Bool:=
 XT p.1.dst.toList (q.1.dst.toList++Oper.reads ops q.1)&&(XT q.1.dst.toList (Oper.reads ops p.1)&&
 (XT (p.2.wr.map (·.1)) (q.2.rd++q.2.wr.map (·.1))&&XT (q.2.wr.map (·.1)) p.2.rd))
def sO(ancs:List Nat):List Edge->Nat
 | []=>0
 |e::r=>bif Region.binds .any e then Nat.lor (Nat.lor (2^e.on) (ancs.getD e.on 0)) (sO ancs r)else sO ancs r
def Mf(ops:List Oper)(q:Oper×Dl)(m:Nat):Nat->List (Oper×Dl)->Bool
 |_,[]=>true
 |i,p::r=>(Nat.testBit m i||indep ops p q)&&Mf ops q m (i+1) r
def vT(ops:List Oper):List (Oper×Dl)->List Nat->List (Oper×Dl)->Bool
 |_,_,[]=>true
 |pre,ancs,q::r=>Mf ops q (sO ancs q.1.after.toList) 0 pre&&vT ops (pre++[q]) (ancs++[sO ancs q.1.after.toList]) r
def jn{A:Type}(_ _ _:Nat)(_:St)(x:A):A:=x
def agq(P:Program):AV->Option (Option (TypeId×Bool))
 | .tup []=>some none
 |  .dat T (.bool b)=>match P.underlying T with
    |some .bool=>some (some (T,b))
    |_=>none
 |_=>none
noncomputable def same{R:Type}(a b:Option R):Option R:=open Classical in if a=b then a else none
theorem XU{R:Type}{a b:Option R}{r:R}(h:same a b=some r):a=some r∧b=some r:=by
 unfold same at h;split at h
 ·rename_i e;exact⟨h,by rw[←e];exact h⟩
 ·cases h
theorem same_eq{R:Type}{a b:Option R}(h:a=b):same a b=a:=by unfold same;rw[if_pos h]
def rowAt(σ:St)(f s:Nat):Option Nat:=match tk σ.ts s with
 | .row l=>some l
 |  .ptr b _ _=>match lk σ.hs b with
    | .box _ (.row l)=>some l
    | .box _ (.agg _ vs)=>match vs[f]? with
      |some (.row l)=>some l
      |_=>none
    |_=>none
 |_=>none
def ayl(σ:St)(s:Nat):Option Nat:=match tk σ.ts s with
 | .dat _ d=>some d.toInt.toNat
 |_=>none
def am3{  R: Type}(fc:Option (Nat×Nat×Nat))(σ:St)(k:St->Option R):Option R:=match fc with
 |none=>k σ
 |  some (f,s,t)=>match rowAt σ f s,ayl σ t with
    |some l, some i=>match lk σ.hs l with
     | .rowD T5 T2 c kk es none=>match lk σ.hs kk with
       |  .tok T4 ls=>bif Nat.beq T4 T2 then
           new σ fun nm=>(es[i]?).bind fun e=>bif lkd c e then(ls[i]?).bind fun e2=>
             k ⟨σ.ts,aV (aV (aV (aV σ.hs l (.rowD T5 T2 c (nm+1) es (some (i,nm)))) kk .gone) nm (.row T2 e2.toLst)) (nm+1) (.tok T2 (ls.set i (.lst []))),σ.k0⟩else none
          else none
       |_=>none
     |_=>none
    |_,_=>none
section
variable{R:Type}(P:Program)(E:Env)(call:FuncId->List AV->List Ob->(Res->Option R)->Option R)
def Mg(n:Nat)(o:Oper)(k:Dl->Option R):Option R:=match o.dst with
 |some d=>bif Nat.blt d n then k ⟨some (.tup []),[],[]⟩else none
 |none=>k ⟨none,[],[]⟩
def jv(n:Nat)(ops:List Oper):List Oper->St->List (Oper×Dl)->(St->List (Oper×Dl)->Option R)->Option R
 | [],σ,tr,k=>k σ tr
 |  o::r,  σ,tr,k=>match o.guard with
    |none=>evO P E call n o σ fun U=>jv n ops r (σ.app o.dst U) ((o,U)::tr) k
    |some (j,want)=>match gslot ops j with
     |some d=>match agq P (tk σ.ts d)with
      |some none=>Mg n o fun U=>jv n ops r (σ.app o.dst U) ((o,U)::tr) k
      |some (some (T,b))=>bif b then
           (bif want then evO P E call n o (σ.put d (.dat T (.bool true))) fun U=>jv n ops r ((σ.put d (.dat T (.bool true))).app o.dst U) ((o,U)::tr) k
            else Mg n o fun U=>jv n ops r ((σ.put d (.dat T (.bool true))).app o.dst U) ((o,U)::tr) k)
       else
           (bif want then Mg n o fun U=>jv n ops r ((σ.put d (.dat T (.bool false))).app o.dst U) ((o,U)::tr) k
            else evO P E call n o (σ.put d (.dat T (.bool false))) fun U=>jv n ops r ((σ.put d (.dat T (.bool false))).app o.dst U) ((o,U)::tr) k)
      |none=>none
     |none=>none
def pkC(hs:List Ob)(v:AV):AV:=match pk P hs v with
 |some (T,d)=> .dat T (canD P T d)
 |none=>v
def gH(q:TypeId->Bool)(hs:List Ob):Nat->List Ob->List Ob
 |_,[]=>[]
 |  0,.box T c::r=>(bif q T then .box T c else match pk P hs c with
    |some (T',d)=>bif Nat.beq T' T then .box T (.dat T (canD P T d))else .box T c
    |none=> .box T c)::gH q hs 0 r
 |0,o::r=>o::gH q hs 0 r
 |k+1,o::r=>o::gH q hs k r
def sP(σ:St):List Nat->List Nat
 | []=>[]
 |  s ::r=>(match tk σ.ts s with
    | .ptr l _ _=>(match lk σ.hs l with
      | .box _ c=>c.rws
      |_=>[])
    |v=>v.rws)++sP σ r
def nilAll(σ:St):List Nat->St
 | []=>σ
 |  s::r=>nilAll (match tk σ.ts s with
    | .ptr l _ _=>nilBox P σ l
    |_=>nilSlot P σ s) r
def Uu:Nat->List Ob->List Nat
 |0,_=>[]
 |_,[]=>[]
 |k+1,o::r=>o.nms++Uu k r
def geB(k:Nat):List Nat->List Nat
 | []=>[]
 |l::r=>bif Nat.ble k l then l::geB k r else geB k r
def wZ(hs:List Ob)(k0:Nat)(vs:List AV):List Nat:=upto 0 k0++geB k0 (reach hs 1000 (AV.nmsL vs++Uu k0 hs) [])
def relab(σ:St):St:=
 let src:=wZ σ.hs σ.k0 σ.ts
 bif nodupB src then⟨AV.renL (ix src) σ.ts,gT (ix src) σ.hs src,σ.k0⟩else σ
def mvV(l nm:Nat)(v:AV):AV:=match v with
 | .row k=>bif Nat.beq k l then .row nm else .row k
 |v=>v
def mvO(l nm:Nat):Ob->Ob
 | .box T c=> .box T (mvV l nm c)
 |o=>o
def mvAt(σ:St)(l:Nat):St:=bif (Nat.blt l σ.k0&&Nat.ble σ.k0 σ.hs.length)then(match lk σ.hs l with
 | .row T es=>⟨σ.ts.map (mvV l σ.hs.length),(aV (aV σ.hs l .gone) σ.hs.length (.row T es)).map (mvO l σ.hs.length),σ.k0⟩
 |_=>σ)else σ
def mvSlot(σ:St)(t:Nat):St:=match tk σ.ts t with
 | .row l=>mvAt σ l
 |  .ptr b _ _=>match lk σ.hs b with
    | .box _ (.row l)=>mvAt σ l
    |_=>σ
 |_=>σ
def mvZ(l nm:Nat):Nat->Option Nat:=fun k=>bif Nat.beq k l then some nm else some k
def aw4:Ob->Bool
 | .row _ _=>true
 | .rowD _ _ _ _ _ none=>true
 | .tok _ _=>true
 |_=>false
def mvAtR(σ:St)(l:Nat):St:=bif (Nat.blt l σ.k0&&(Nat.ble σ.k0 σ.hs.length&&aw4 (lk σ.hs l)))then
 ⟨AV.renL (mvZ l σ.hs.length) σ.ts,(aV (aV σ.hs l .gone) σ.hs.length (lk σ.hs l)).map (Ob.ren (mvZ l σ.hs.length)),σ.k0⟩else σ
def mvRL(σ:St):List Nat->St
 | []=>σ
 |l::r=>mvRL (mvAtR σ l) r
def mvBoxR(σ:St)(s:Nat):St:=match tk σ.ts s with
 |  .ptr b _ _=>match lk σ.hs b with
    | .box _ (.agg _ vs)=>mvRL σ (sJ σ.hs (AV.rwsL vs))
    |_=>σ
 |_=>σ
def mvL(σ:St):List Nat->St
 | []=>σ
 |t::r=>mvL (bif (Nat.ble 4000000 t&&Nat.blt t 100000000)then mvBoxR σ (t-4000000)else mvSlot σ t) r
def mq(σ:St):List Nat->List Nat
 | []=>[]
 |s::r=>bif Nat.ble 1000000 s&&!dZ (s-1000000) (AV.rwsL σ.ts)then(s-1000000)::mq σ r else mq σ r
def unfAt(σ:St)(l:Nat):St:=match lk σ.hs l with
 |  .rowD T5 T2 c k es (some (i,m))=>match lk σ.hs k,lk σ.hs m with
    | .tok T3 ls,.row T4 ds=>bif (Nat.beq T3 T2&&(Nat.beq T4 T2&&Nat.ble σ.k0 σ.hs.length))then⟨σ.ts,aV (aV (aV (aV σ.hs l (.rowD T5 T2 c σ.hs.length es none)) k .gone) m .gone) σ.hs.length (.tok T2 (ls.set i (.lst ds))),σ.k0⟩else σ
    |_,_=>σ
 |_=>σ
def unfL(σ:St):List Nat->St
 | []=>σ
 |l::r=>unfL (unfAt σ l) r
def frzDAt(σ:St)(l:Nat):St:=match lk σ.hs l with
 |  .rowD T5 T2 c k es none=>match lk σ.hs k with
    | .tok T3 ls=>bif (Nat.beq T3 T2&&!Ia c)then⟨σ.ts,aV (aV σ.hs l (.row T5 (frzD c es ls))) k .gone,σ.k0⟩else σ
    |_=>σ
 |_=>σ
def toDAt(c:Option Nat)(σ:St)(l:Nat):St:=match lk σ.hs l with
 |  .row T5 []=>match slE P T5 with
    |some Te=>match sV P Te c with
     |some (T2,_)=>match slE P T2 with
      |some _=>bif Nat.ble σ.k0 σ.hs.length then⟨σ.ts,aV (aV σ.hs l (.rowD T5 T2 c σ.hs.length [] none)) σ.hs.length (.tok T2 []),σ.k0⟩else σ
      |none=>σ
     |none=>σ
    |none=>σ
 |_=>σ
def cOf:Nat->Option Nat
 |0=>none
 |f+1=>some f
def deepC(σ:St)(cc l:Nat):St:=bif Nat.beq cc 99 then frzDAt σ l else toDAt P (cOf cc) σ l
def deep1(σ:St)(s cc:Nat):St:=match tk σ.ts s with
 | .row l=>deepC P σ cc l
 |  .ptr b _ _=>match lk σ.hs b with
    | .box _ (.row l)=>deepC P σ cc l
    |_=>σ
 |_=>σ
def deep2(σ:St)(f s cc:Nat):St:=match tk σ.ts s with
 |  .ptr b _ _=>match lk σ.hs b with
    | .box _ (.agg _ vs)=>match vs[f]? with
      |some (.row l)=>deepC P σ cc l
      |_=>σ
    |_=>σ
 |_=>σ
def deepL(σ:St):List Nat->St
 | []=>σ
 |t::r=>deepL (bif Nat.ble 100000000 t then deep2 P σ ((t-100000000)/1000000) ((t-100000000)%1000000/100) (t%100)else bif Nat.ble 2000000 t then deep1 P σ ((t-2000000)/100) ((t-2000000)%100)else σ) r
def eB(f:FuncId)(key:Nat)(σ:St):St:=match E.keep f key with
 |none=>σ
 |  some (kp,fz,rw)=>
    let σ1:St:=⟨jA kp (vW kp) σ.ts 0,σ.hs,σ.k0⟩
    let σ2:St:=⟨σ1.ts,gonN (frzN σ1.hs (sP σ1 fz)) (mq σ1 fz),σ1.k0⟩
    let σ3:=deepL P (mvL (nilAll P (unfL σ2 (upto 0 σ2.hs.length)) rw) rw) rw
    let σ4:St:=⟨σ3.ts.map (pkC P σ3.hs),gH P E.npk σ3.hs 0 σ3.hs,σ3.k0⟩
    relab σ4
def Gf:Code->Bool
 | .seq a _=>Gf a
 | .block _ c=>Gf c
 | .loop _=>true
 | .scope c=>Gf c
 | .cond _ a _=>Gf a
 |_=>false
def firstId:Code->Nat
 | .region id _ _=>id
 | .seq a _=>firstId a
 | .block _ c=>firstId c
 | .loop c=>firstId c
 | .scope c=>firstId c
 | .cond _ a b=>bif Gf a then 0 else bif Nat.beq (firstId a) 0 then(bif Gf b then 0 else firstId b)else firstId a
 |_=>0
def nextK(J:Nat->Nat->Nat->St->Option R->Option R)(f:FuncId)(key:Nat)(σ:St)(g:St->Option R):Option R:=match (bif Nat.beq key 0 then none else E.keep f key)with
 |none=>g σ
 |some _=>J 0 key 0 (eB P E f key σ) (g (eB P E f key σ))
def agr(nx:St->Option R)(k:Exit->St->Option R):Exit->St->Option R
 | .normal,σ=>nx σ
 |e,σ=>k e σ
def QO(id:Nat)(k:Exit->St->Option R):Exit->St->Option R
 | .exit id',σ=>bif Nat.beq id' id then k .normal σ else k (.exit id') σ
 |e,σ=>k e σ
def QS(k:Exit->St->Option R):Exit->St->Option R
 | .goto _,_=>none
 |e,σ=>k e σ
def w9(J:Nat->Nat->Nat->St->Option R->Option R)(key:Nat)(head:St->St)(body:St->(Exit->St->Option R)->Option R):Nat->St->(Exit->St->Option R)->Option R
 |0,_,_=>none
 |m+1,σ,k=>body σ (agr (fun σ'=>J 1 key m (head σ') (w9 J key head body m (head σ') k)) k)
def ev0(J:Nat->Nat->Nat->St->Option R->Option R)(m:Nat)(f:FuncId)(n:Nat):Code->St->(Exit->St->Option R)->Option R
 | .skip,σ,k=>k .normal σ
 | .region _ ops false,σ,k=>jv P E call n ops.toList ops.toList σ [] fun σ' _=>k .normal σ'
 | .region id ops true,σ,k=>am3 (E.foc f id) σ fun σ=>jv P E call n ops.toList ops.toList σ [] fun σ' tr=>bif (gW 0 ops.toList&&vT ops.toList [] [] tr.reverse)then k .normal σ' else none
 | .seq a b,σ,k=>ev0 J m f n a σ (agr (fun σ'=>nextK P E J f (firstId b) σ' fun s=>ev0 J m f n b s k) k)
 |  .cond x a b,σ,k=>match L9 P (opd P E.dt σ 0 x)with
    |some t=>bif t then ev0 J m f n a σ k else ev0 J m f n b σ k
    |none=>none
 | .block id c,σ,k=>ev0 J m f n c σ (QO id k)
 | .loop c,σ,k=>J 1 (firstId c) m (eB P E f (firstId c) σ) (w9 J (firstId c) (eB P E f (firstId c)) (ev0 J m f n c) m (eB P E f (firstId c) σ) k)
 | .exit id,σ,k=>k (.exit id) σ
 | .label _,σ,k=>k .normal σ
 | .scope c,σ,k=>ev0 J m f n c σ (QS k)
 | .ret,σ,k=>k .ret σ
 |_,_,_=>none
def bnd(o:Oper)(j:Nat):Bool:=o.after.toList.any fun e=>Region.binds .any e&&Nat.beq e.on j
def am4(o0 o1 o2 o3:Oper):Bool:=gW 0 [o0,o1,o2,o3]&&bnd o1 0&&bnd o2 0&&bnd o3 1&&bnd o3 2
def aw5:Op->Bool
 | .store _ _ _=>true
 |_=>false
def aym:Op->Bool
 | .alloc _=>true
 |_=>false
def noG(o:Oper):Bool:=match o.guard with
 |none=>true
 |some _=>false
def ags:Code->Code->Option (Oper×Oper×Oper×Oper)
 |  .region _ ops true,.cond _ _ _=>match ops with
    | ⟨[o0,o1,o2,o3]⟩=>bif (aym o0.op&&(aw5 o1.op&&(aw5 o2.op&&(am4 o0 o1 o2 o3&&(noG o0&&(noG o1&&(noG o2&&noG o3)))))))then some (o0,o1,o2,o3)else none
    |_=>none
 |_,_=>none
def XV(n:Nat)(o0 o1 o2 o3:Oper)(σ:St)(k:St->St->Option R):Option R:=
 evO P E call n o0 σ fun d0=>evO P E call n o1 (σ.app o0.dst d0) fun d1=>evO P E call n o2 ((σ.app o0.dst d0).app o1.dst d1) fun d2=>evO P E call n o3 (((σ.app o0.dst d0).app o1.dst d1).app o2.dst d2) fun d3=>
 evO P E call n o2 (σ.app o0.dst d0) fun e2=>evO P E call n o1 ((σ.app o0.dst d0).app o2.dst e2) fun e1=>evO P E call n o3 (((σ.app o0.dst d0).app o2.dst e2).app o1.dst e1) fun e3=>
 k ((((σ.app o0.dst d0).app o1.dst d1).app o2.dst d2).app o3.dst d3) ((((σ.app o0.dst d0).app o2.dst e2).app o1.dst e1).app o3.dst e3)
def XW:Nat->List AV->List AV->List Nat
 |i,a::r,b::s=>bif lu a b then i::XW (i+1) r s else XW (i+1) r s
 |_,_,_=>[]
def aw6:Ob->Ob->Bool
 | .free,.free=>true
 |_,_=>false
def Uv:List Ob->List Ob->Bool
 | [],[]=>true
 |a::r,b::s=>(af6 a b||aw6 a b)&&Uv r s
 |_,_=>false
def agt(a b:St):Bool:=oo a.ts b.ts&&(Uv a.hs b.hs&&Nat.beq a.k0 b.k0)
def rmD(d:Option Nat)(l:List Nat):List Nat:=match d with
 |some d=>l.filter fun i=>!Nat.beq i d
 |none=>l
def mrg(f:FuncId)(d:Option Nat)(a b:St):Option St:=
 bif agt (eB P {E with keep:=fun _ _=>some (rmD d (XW 0 a.ts b.ts),[],[])} f 1 a) (eB P {E with keep:=fun _ _=>some (rmD d (XW 0 a.ts b.ts),[],[])} f 1 b)then some (eB P {E with keep:=fun _ _=>some (rmD d (XW 0 a.ts b.ts),[],[])} f 1 a)else none
def inn(m:Nat)(f:FuncId)(n:Nat)(c:Code)(σ:St):Option (Exit×St):=ev0 P E (fun _ _ _ _=>none) (fun _ _ _ _ x=>x) m f n c σ fun e s=>some (e,s)
noncomputable def ev(J:Nat->Nat->Nat->St->Option R->Option R)(m:Nat)(f:FuncId)(n:Nat):Code->St->(Exit->St->Option R)->Option R
 | .skip,σ,k=>k .normal σ
 | .region _ ops false,σ,k=>jv P E call n ops.toList ops.toList σ [] fun σ' _=>k .normal σ'
 | .region id ops true,σ,k=>am3 (E.foc f id) σ fun σ=>jv P E call n ops.toList ops.toList σ [] fun σ' tr=>bif (gW 0 ops.toList&&vT ops.toList [] [] tr.reverse)then k .normal σ' else none
 | .seq a b,σ,k=>match ags a b with
   |none=>ev J m f n a σ (agr (fun σ'=>nextK P E J f (firstId b) σ' fun s=>ev J m f n b s k) k)
   |some q=>bif E.sam f then(XV P E call n q.1 q.2.1 q.2.2.1 q.2.2.2 σ fun σA σB=>same (ev J m f n b σA k) (ev J m f n b σB k))else
    XV P E call n q.1 q.2.1 q.2.2.1 q.2.2.2 σ fun σA σB=>match inn P E m f n b σA,inn P E m f n b σB with
    |some (.normal,s1),some (.normal,s2)=>(match mrg P E f q.1.dst s1 s2 with
     |some s=>k .normal s
     |none=>none)
    |_,_=>none
 | .cond x a b,σ,k=>match L9 P (opd P E.dt σ 0 x)with
   |some t=>bif t then ev J m f n a σ k else ev J m f n b σ k
   |none=>none
 | .block id c,σ,k=>ev J m f n c σ (QO id k)
 | .loop c,σ,k=>J 1 (firstId c) m (eB P E f (firstId c) σ) (w9 J (firstId c) (eB P E f (firstId c)) (ev J m f n c) m (eB P E f (firstId c) σ) k)
 | .exit id,σ,k=>k (.exit id) σ
 | .label _,σ,k=>k .normal σ
 | .scope c,σ,k=>ev J m f n c σ (QS k)
 | .ret,σ,k=>k .ret σ
 |_,_,_=>none
def QT(σ:St):List ResultVar->Option (List AV)
 | []=>some []
 |  .tmp t::r=>match tk σ.ts t with
    | .dead=>none
    | .tup _=>none
    | v=>match QT σ r with
      |some vs=>some (v::vs)
      |none=>none
 |  .cell p T::r=>match tk σ.ts p with
    | .ptr l [] 0=>match lk σ.hs l with
      | .box T' c=>bif (Nat.beq T' T&&(szB P T c&&(c.isAgg P==bS P T)))then(match QT σ r with
        |some vs=>some (c::vs)
        |none=>none)else none
      |_=>none
    |_=>none
def Cw:List AV->Bool
 | []=>true
 |  v::r=>(match v with
    | .dead=>false
    | .tup _=>false
    |_=>true)&&Cw r
def jw:List AV->AV
 | [v]=>v
 |vs=> .tup vs
def fin(f:FuncId)(fn:Func)(σ:St):Option Res:=match QT P σ fn.results.toList with
 |  some vs=>bif E.raw f then
     let r1:=AV.n2rL P vs σ.hs.length
     let hs1:=kN σ.hs σ.hs.length r1.2
     let src:=wZ hs1 σ.k0 r1.1
     bif (nodupB src&&Nat.ble σ.k0 σ.hs.length)then(bif Cw (AV.renL (ix src) r1.1)then some ((jw r1.1).ren (ix src),gT (ix src) hs1 src)else none)else none
    else
     let hs1:=frzN σ.hs (AV.rwsL vs)
     let us:=vs.map (pkC P hs1)
     let src:=wZ hs1 σ.k0 us
     bif nodupB src then(bif Cw (AV.renL (ix src) us)then some ((jw us).ren (ix src),gT (ix src) hs1 src)else none)else none
 |none=>none
end
def mvAll(σ:St):List ResultVar->St
 | []=>σ
 | .tmp t::r=>mvAll (mvSlot σ t) r
 |_::r=>mvAll σ r
def flat1(P:Program)(σ:St)(l:Nat):St:=match lk σ.hs l with
 |  .rowA T vs=>match slE P T with
    |some Te=>match j5 P (frzN σ.hs (AV.rwsL vs)) Te vs with
     |some ds=>⟨σ.ts,aV (frzN σ.hs (AV.rwsL vs)) l (.row T ds),σ.k0⟩
     |none=>σ
    |none=>σ
 |_=>σ
def flatL(P:Program)(σ:St):List Nat->St
 | []=>σ
 |l::r=>flatL P (flat1 P σ l) r
def QU(σ:St):List ResultVar->List Nat
 | []=>[]
 | .tmp t::r=>(tk σ.ts t).rws++QU σ r
 |_::r=>QU σ r
def exitSt(P:Program)(E:Env)(f:FuncId)(fn:Func)(σ:St):St:=bif E.raw f then mvAll (eB P E f 1000000 σ) fn.results.toList else(let σ1:=eB P E f 1000000 σ;flatL P σ1 (QU σ1 fn.results.toList))
def Mh(P:Program)(E:Env)(f:FuncId)(fn:Func):Exit->St->Option Res
 | .ret,σ=>fin P E f fn (exitSt P E f fn σ)
 | .normal,σ=>fin P E f fn (exitSt P E f fn σ)
 |_,_=>none
noncomputable def run(P:Program)(E:Env):Nat->FuncId->List AV->List Ob->Option Res
 |0,_,_,_=>none
 |m+1,f,args,objs=>match E.orc f with
  |some oc=>oc args objs
  |none=>match E.fns f with
  |some fn=>match fn.body with
   |some c=>bif Nat.ble args.length fn.ntmps then ev P E (fun f a o K=>(run P E m f a o).bind K) jn (m+1) f fn.ntmps c ⟨args,objs,objs.length⟩ (Mh P E f fn)else none
   |none=>none
  |none=>none
theorem aF{A:Type}{b:Bool}{x:Option A}{r:A}(h:(bif b then x else none)=some r):b=true∧x=some r:=by
 cases b with
 |true=>exact⟨rfl,h⟩
 |false=>cases h
theorem aG{a b:Bool}(h:(a&&b)=true):a=true:=by cases a<;>simp_all
theorem aC{a b:Bool}(h:(a&&b)=true):b=true:=by cases a<;>simp_all
theorem beq_eq{a b:Nat}(h:Nat.beq a b=true):a=b:=aQ h
theorem kL{a b:Nat}(h:(!Nat.beq a b)=true):a≠b:=fun e=>by subst e;simp at h
section
variable{P:Program}{n:Nat}{o:Oper}{σ τ:St}{x y:Operand}{v:AV}{T:TypeId}{R:Type}{E:Env}
theorem Uw{av:TypeId->List Value->Option AV}{cs:List Value}:∀{fs:List Field}{vs:List AV},avF av P cs fs=some vs->vs.length=fs.length∧∀(i:Nat)(f:Field)(v:AV),fs[i]? =some f->vs[i]? =some v->v= .dead∨av f.type ((cs.drop f.offset).take (P.cellsOf f.type))=some v
 | [],vs,h=>by simp only[avF,aA]at h;subst h;exact⟨rfl,fun i f v hf=>by simp at hf⟩
 |f::fs,vs,h=>by
  unfold avF at h;split at h
  ·rename_i us hus;cases h;obtain⟨h1,h2⟩:=Uw hus;refine⟨by simp[h1],fun i g u hg hu=>?_⟩;cases i with
   |    zero=>
        simp only[aO,aA]at hg hu;subst hg;split at hu;·rename_i v hv;subst hu;exact .inr hv
        ·subst hu;exact .inl rfl
   |succ i=>simp only[aR]at hg hu;exact h2 i g u hg hu
  ·cases h
theorem ni:∀{k:Nat}{T:TypeId}{cs:List Value}{v:AV},avC P k T cs=some v->(∀(ok:Nat->Prop)(w:World)(β:Nat->Option Value),RA P ok w β v cs)∧v.isAgg P=bS P T∧v≠ .dead∧(∀us,v≠ .tup us)∧(bS P T=false->cs.length=1)
 |0,_,_,_,h=>by simp[avC]at h
 |k+    1,T,cs,v,h=>by
  unfold avC at h;split at h
  ·rename_i q hu;split at h
   ·    rename_i q' m;obtain⟨h1,h2⟩:=aF h;cases h2;have e:q=q':=by simpa using aG h1
        subst e;have h3:q.min<=m:=by simpa using aG (aC h1)
        have h4:m<=q.max:=by simpa using aC (aC h1)
        exact⟨fun _ _ _=> .dat (.int hu h3 h4),rfl,by simp,by simp,fun _=>rfl⟩
   ·cases h
  ·rename_i hu;split at h;·cases h;exact⟨fun _ _ _=> .dat (.bool hu),rfl,by simp,by simp,fun _=>rfl⟩
   ·cases h
  ·rename_i hu;split at h
   ·    obtain⟨h1,h2⟩:=aF h;cases h2;exact⟨fun _ _ _=> .dat (.str hu (aI h1)),rfl,by simp,by simp,fun _=>rfl⟩
   ·cases h
  ·rename_i e hu;split at h;·cases h;exact⟨fun _ _ _=> .nils,by simp[AV.isAgg,bS,hu],by simp,by simp,fun _=>rfl⟩
   ·cases h
  ·rename_i fs hu;obtain⟨h1,h2⟩:=aF h;split at h2
   ·    rename_i vs hvs;cases h2;obtain⟨q1,q2⟩:=Uw hvs;refine⟨fun ok w β=> .agg hu (by rw[q1];simp) (beq_eq (aG h1)) (fun c hc=>List.all_eq_true.1 (aC h1) c hc) fun i f u hf hu2=>by
         rcases q2 i f u (by simpa using hf) hu2 with rfl|h3;·exact .dead fun c hc=>List.all_eq_true.1 (aC h1) c (List.mem_of_mem_drop (List.mem_of_mem_take hc))
         ·exact(ni h3).1 ok w β,rfl,by simp,by simp,fun hf=>by simp[bS,hu]at hf⟩
   ·cases h2
  ·rename_i ms hu;split at h;·cases h;exact⟨fun _ _ _=> .nif,by simp[AV.isAgg,bS,hu],by simp,by simp,fun _=>rfl⟩
   ·cases h
  ·rename_i len Te hu;split at h
   ·    rename_i hb;obtain⟨h1,h2⟩:=aF h;cases h2;have e1:=beq_eq (aG h1);have e2:=beq_eq (aG (aC h1));have e3:=beq_eq (aG (aC (aC h1)));have e4:∀c∈cs,c= .bool false:=fun c hc=>by have:=List.all_eq_true.1 (aC (aC (aC h1))) c hc;cases c<;>simp[isF]at this;rw[this]
        refine⟨fun ok w β=> .dat (.arr hu (by simp[offs]) (by rw[e1,e2]) (fun c hc=>by rw[e4 c hc];rfl) fun i d hd=>?_),rfl,by simp,by simp,fun hf=>by simp[bS,hu]at hf⟩;obtain⟨hi,rfl⟩:=by simpa [offs,List.getElem?_replicate]using hd
        rw[e3,Nat.mul_one];have hlt:i<cs.length:=by omega
        rw[ay hlt];simp only[List.take_succ_cons,List.take_zero];rw[e4 _ (aD hlt)];exact .bool hb
   ·cases h
  ·rename_i pe hu;split at h;·cases h;exact⟨fun _ _ _=> .dat (.nilp hu),rfl,by simp,by simp,fun _=>rfl⟩
   ·cases h
  ·cases h
theorem RV.const{ok:Nat->Prop}{w:World}{β:Nat->Option Value}{z:Value}{k:Nat}(h:avC P k T z.cells.toList=some v)(hz:qy z=bS P T):RV P ok w β v z:=by
 obtain⟨h1,h2,h3,h4,_⟩:=ni h;refine RV.of1 h3 h4 ⟨fun hi=>?_,fun hi=>?_⟩
 ·rw[h2,←hz]at hi;cases z<;>simp[qy]at hi;exact⟨_,by simp[Value.cells],h1 _ _ _⟩
 ·rw[h2,←hz]at hi;have:=h1 ok w β;cases z<;>simp[qy]at hi<;>simpa [Value.cells]using this
theorem agu{ok:Nat->Prop}{w:World}{β:Nat->Option Value}{z:Value}:∀{Ts:List TypeId},RV P ok w β (cst P z Ts) z
 | []=>trivial
 |T::r=>by
  unfold cst;split
  ·rename_i a ha;cases hb:qy z==bS P T with
   |true=>exact RV.const ha (by simpa using hb)
   |false=>exact trivial
  ·exact agu
theorem gY{D:List TypeId}:Ev P σ x (opd P D σ T x):=by
 cases x with
 |tmp t=>exact Ev.tmp rfl
 |const v=>exact fun _ _ _ _ _ _ _=>agu
 |func f=>exact Ev.fn
 |global g=>exact fun _ _ _ _ _ _ _=>trivial
def Agrs(σ σ':St)(xs:List Operand):Prop:=∀t∈tmpsOf xs,tk σ'.ts t=tk σ.ts t
theorem Mi{t:Nat}:∀{xs:List Operand},.tmp t∈xs->t∈tmpsOf xs
 | [],h=>by simp at h
 |y::r,h=>by
  rcases List.mem_cons.1 h with e|h1;·subst e;simp[tmpsOf]
  ·have:=Mi h1;cases y<;>simp[tmpsOf,this]
theorem iy{σ':St}{D:List TypeId}{xs:List Operand}(h:Agrs σ σ' xs)(hx:x∈xs):opd P D σ' T x=opd P D σ T x:=by
 cases x with
 |tmp t=>exact h t (Mi hx)
 |const v=>rfl
 |func f=>rfl
 |global g=>rfl
theorem kg{σ':St}{D:List TypeId}{xs:List Operand}(h:Agrs σ σ' xs):∀{Ts:List TypeId}{ys:List Operand},(∀y∈ys,y∈xs)->bG P D σ' Ts ys=bG P D σ Ts ys
 | [],_,_=>by simp[bG]
 |_::_,[],_=>by simp[bG]
 |T::Ts,y::ys,hy=>by simp only[bG];rw[iy h (hy y (by simp)),kg h fun z hz=>hy z (by simp[hz])]
theorem nk{D:List TypeId}:∀{Ts:List TypeId}{xs:List Operand},xs.length=Ts.length->EvXs P σ xs (bG P D σ Ts xs)
 | [],[],_=> .nil
 |T::Ts,x::xs,h=> .cons gY (nk (by simpa using h))
 | [],_::_,h=>by simp at h
 |_::_,[],h=>by simp at h
theorem iB{b:Bool}(h:L9 P v=some b):∃T d,v= .dat T d∧P.underlying T=some .bool∧b=d.toBool:=by
 unfold L9 at h;split at h
 ·split at h;·rename_i hu;cases h;exact⟨_,_,rfl,hu,rfl⟩
  ·cases h
 ·cases h
theorem dX{Tx:TypeId}{q:IntKind}{i:Int}(h:ival P v=some (Tx,q,i)):∃d,v= .dat Tx d∧P.underlying Tx=some (.int q)∧i=d.toInt:=by
 unfold ival at h;split at h
 ·split at h;·rename_i hu;cases h;exact⟨_,rfl,hu,rfl⟩
  ·cases h
 ·cases h
theorem dY{Tx:TypeId}{s:ByteArray}(h:vI P v=some (Tx,s)):∃d,v= .dat Tx d∧P.underlying Tx=some .string∧s=d.toStr:=by
 unfold vI at h;split at h
 ·split at h;·rename_i hu;cases h;exact⟨_,rfl,hu,rfl⟩
  ·cases h
 ·cases h
theorem ny{hs:List Ob}{Tx Te:TypeId}{es:List Dt}(h:lval P hs v=some (Tx,Te,es)):∃d,pk P hs v=some (Tx,d)∧P.underlying Tx=some (.slice Te)∧es=d.toLst:=by
 unfold lval at h;split at h
 ·rename_i T' d hp;split at h;·rename_i hu;cases h;exact⟨_,hp,hu,rfl⟩
  ·cases h
 ·cases h
theorem bE{Te:TypeId}(h:slE P T=some Te):P.underlying T=some (.slice Te):=by
 unfold slE at h;split at h;·rename_i hu;cases h;exact hu
 ·cases h
theorem fJ{fs:Array Field}(h:stF P T=some fs):P.underlying T=some (.struct fs):=by
 unfold stF at h;split at h;·rename_i hu;cases h;exact hu
 ·cases h
theorem Mj(h:isB P T=true):P.underlying T=some .bool:=by
 unfold isB at h;split at h;·assumption
 ·cases h
theorem fK{k:IntKind}(h:isI P T k=true):P.underlying T=some (.int k):=by
 unfold isI at h;split at h
 ·rename_i k' hu;have e:k'=k:=by simpa using h
  subst e;exact hu
 ·cases h
theorem gP(h:isS P T=true):P.underlying T=some .string:=by
 unfold isS at h;split at h;·assumption
 ·cases h
theorem dH:∀{Ts:List TypeId}{TB:TypeId},bT P Ts=some TB->P.underlying TB=some .bool
 | [],_,h=>by simp[bT]at h
 |T::r,TB,h=>by
  unfold bT at h;cases hb:isB P T with
  |true=>rw[hb]at h;cases h;exact Mj hb
  |false=>rw[hb]at h;exact dH h
theorem bR{Te:TypeId}(h:dB P T Te=true):P.underlying T=some (.slice Te)∧P.cellsOf Te≠0:=by
 unfold dB at h;refine⟨?_,kL (aC h)⟩;have h1:=aG h;split at h1
 ·rename_i Te' he;have:=beq_eq h1;subst this;exact bE he
 ·cases h1
theorem dK(h:szB P T v=true):v≠ .dead∧(∀us,v≠ .tup us)∧(∃D,P.underlying T=some D)∧(v.isAgg P=false->P.cellsOf T=1)∧
  ∀(ok:Nat->Prop)(w:World)(β:Nat->Option Value)(cs:List Value),RA P ok w β v cs->(v.isAgg P=false->cs.length=1)->cs.length=P.cellsOf T:=by
 have h0:=aG h;have h1:=aC h;have hu:∃D,P.underlying T=some D:=Option.isSome_iff_exists.1 h0;unfold szA at h1;split at h1
 ·rename_i T' d;split at h1
  ·rename_i fs hfs;have e:=beq_eq h1;refine⟨by simp,by simp,hu,fun hi=>by simp[AV.isAgg,bS,hfs]at hi,fun ok w β cs hr _=>?_⟩;cases hr with
   |dat hr=>rw[←e];exact(hr.agg_inv hfs).2.1
  ·rename_i m1 m2 hfs;have e:=beq_eq h1;refine⟨by simp,by simp,hu,fun hi=>by simp[AV.isAgg,bS,hfs]at hi,fun ok w β cs hr _=>?_⟩;cases hr with
   |dat hr=>rw[←e];exact(hr.arr_inv hfs).2.2.1
  ·exact⟨by simp,by simp,hu,fun _=>beq_eq h1,fun ok w β cs hr hl=>by rw[beq_eq h1];rename_i D hn1 hn2 hD;refine hl ?_;simp only[AV.isAgg,bS,hD];cases D<;>simp_all⟩
  ·cases h1
 ·rename_i T' vs;split at h1
  ·rename_i fs hfs;have e:=beq_eq h1;refine⟨by simp,by simp,hu,fun hi=>by simp[AV.isAgg,bS,hfs]at hi,fun ok w β cs hr _=>?_⟩;cases hr with
   |agg _ _ hc _ _=>rw[←e];exact hc
  ·cases h1
 ·cases h1
 ·cases h1
 ·rename_i h3 h4 h5 h6;have hag:v.isAgg P=false:=by cases v<;>first|rfl|(exact absurd rfl (h3 _ _))|(exact absurd rfl (h4 _ _))
  exact⟨fun e=>h5 e,fun us e=>h6 us e,hu,fun _=>beq_eq h1,fun ok w β cs hr hl=>by rw[beq_eq h1];exact hl hag⟩
theorem gQ:∀{path:List Nat}{S:TypeId}{c:AV}{T:TypeId}{q:Nat}{v:AV},getAt P S c path=some (T,q,v)->GetAt P S c path q T v
 | [],S,c,T,q,v,h=>by
   have h':some (S,0,c)=some (T,q,v):=by simpa [getAt]using h
   cases h';exact .nil
 | i::p,  S,c,T,q,v,h=>by
   unfold getAt at h;split at h;·rename_i he;cases he
   ·rename_i S0 S' vs i' p' he;cases he;split at h
    ·   rename_i fs hfs;split at h
        ·rename_i f hf;split at h
         ·rename_i u hu;obtain⟨h1,h2⟩:=aF h;split at h2
          ·rename_i T' q' r hg;cases h2;have e:=beq_eq (aG h1);subst e;exact .agg (fJ hfs) hf hu (aI (aC h1)) (gQ hg)
          ·cases h2
         ·cases h
        ·cases h
    ·cases h
   ·rename_i S0 S' d i' p' he;cases he;split at h
    ·   rename_i fs hfs;split at h
        ·rename_i f hf;obtain⟨h1,h2⟩:=aF h;split at h2
         ·rename_i T' q' r hg;cases h2;have e:=beq_eq (aG h1);subst e;exact .dat (fJ hfs) hf (aI (aC h1)) (gQ hg)
         ·cases h2
        ·cases h
    ·cases h
   ·cases h
theorem jy{T':TypeId}:∀{path:List Nat}{S:TypeId}{c:AV}{q:Nat}{c':AV},setAt P T' v S c path=some (q,c')->SetAt P v T' S c path q c'
 | [],S,c,q,c',h=>by
   have h':(bif Nat.beq S T' then some (0,v)else none)=some (q,c'):=by simpa [setAt]using h
   obtain⟨h1,h2⟩:=aF h';cases h2;have:=beq_eq h1;subst this;exact .nil
 | i::p,  S,c,q,c',h=>by
   unfold setAt at h;split at h
   ·rename_i fs hfs;split at h
    ·   rename_i f hf;split at h
        ·rename_i vs hvs;split at h
         ·rename_i old hold;obtain⟨h1,h2⟩:=aF h;split at h2
          ·rename_i q' new hg;cases h2;have key:=SetAt.agg (v:=v) (T':=T') (fJ hfs) h1 hf hold (jy hg);split at hvs
           ·obtain⟨e1,e2⟩:=aF hvs;cases e2;have:=beq_eq e1;subst this;exact key
           ·obtain⟨e1,e2⟩:=aF hvs;cases e2;have:=beq_eq e1;subst this;exact .dat (fJ hfs) key
           ·cases hvs
          ·cases h2
         ·cases h
        ·cases h
    ·cases h
   ·cases h
theorem mD(h:zeroV P T=some v):ZeroA P T v:=by
 unfold zeroV at h;split at h
 ·rename_i i hi;split at h
  ·rename_i z hz;obtain⟨h1,h2⟩:=aF h;exact⟨i,z,hi,hz,beq_eq h1,(ni h2).1⟩
  ·cases h
 ·cases h
theorem dO{d:Dt}(h:sK P T=some d):Zero P T d:=by
 unfold sK at h;split at h
 ·rename_i v hv;split at h
  ·rename_i T' d' hp;obtain⟨h1,h2⟩:=aF h;cases h2;have:=beq_eq h1;subst this;obtain⟨i,z,q1,q2,q3,q4⟩:=(mD hv).ex;exact⟨i,z,q1,q2,q3,fun ok w=>dJ (β:=fun _=>none) (hs:=[]) (fun l T es hl=>by simp[lk]at hl) (q4 ok w _) hp⟩
  ·cases h
 ·cases h
theorem Cx{fs:Array Field}:∀{parts:List (Nat×Operand)}{vs us:List AV},DY P E σ fs parts vs=some us->BldL P σ fs parts vs us
 | [],vs,us,h=>by
   have h':some vs=some us:=by simpa [DY]using h
   cases h';exact .nil
 | (i,x)::r,vs,us,h=>by
   unfold DY at h;split at h
   ·rename_i f hf;obtain⟨h1,h2⟩:=aF h;obtain⟨q1,q2,q3,q4,q5⟩:=dK h1;exact .cons hf gY q1 q2 q5 (Cx h2)
   ·cases h
theorem Mk{σ':St}{fs:Array Field}{xs:List Operand}(h:Agrs σ σ' xs):∀{parts:List (Nat×Operand)}{vs:List AV},(∀p∈parts,p.2∈xs)->DY P E σ' fs parts vs=DY P E σ fs parts vs
 | [],vs,_=>by simp[DY]
 |(i,x)::r,vs,hp=>by
  have hx:=hp (i,x) (by simp);unfold DY;split
  ·rename_i f hf;rw[iy h hx,Mk h fun p hq=>hp p (by simp[hq])]
  ·rfl
theorem gK{lo:Option Operand}{i:Int}(h:gX P E σ 0 lo=some i):Kz P σ lo i:=by
 cases lo with
 |none=>simp only[gX,aA]at h;exact h.symm
 |some x=>
  simp only[gX]at h;split at h
  ·rename_i Tx q i' hi;cases h;obtain⟨d,e1,e2,rfl⟩:=dX hi;refine⟨Tx,q,e2,?_⟩;have:=gY (P:=P) (σ:=σ) (x:=x) (T:=0) (D:=E.dt);rw[e1]at this;exact this.cint e2
  ·cases h
theorem xR{hi:Option Operand}{m:Nat}{i:Int}(h:gX P E σ m hi=some i):WG P σ m hi i:=by
 cases hi with
 |none=>simp only[gX,aA]at h;exact h.symm
 |some x=>
  simp only[gX]at h;split at h
  ·rename_i Tx q i' hi;cases h;obtain⟨d,e1,e2,rfl⟩:=dX hi;refine⟨Tx,q,e2,?_⟩;have:=gY (P:=P) (σ:=σ) (x:=x) (T:=0) (D:=E.dt);rw[e1]at this;exact this.cint e2
  ·cases h
theorem dP{σ':St}{xs:List Operand}{m:Int}{b:Option Operand}(h:Agrs σ σ' xs)(hb:∀x,b=some x->x∈xs):gX P E σ' m b=gX P E σ m b:=by
 cases b with
 |none=>rfl
 |some x=>simp only[gX];rw[iy h (hb x rfl)]
theorem jM{hs hs':List Ob}(v:AV):(∀l∈v.rws,lk hs' l=lk hs l)->pk P hs' v=pk P hs v:=by
 refine AV.rec (motive_1:=fun v=>(∀l∈v.rws,lk hs' l=lk hs l)->pk P hs' v=pk P hs v) (motive_2:=fun vs=>(∀l∈AV.rwsL vs,lk hs' l=lk hs l)->∀fs,pkL P hs' fs vs=pkL P hs fs vs) ?_ ?_ ?_ ?_ ?_ ?_ ?_ ?_ ?_ ?_ ?_ ?_ ?_ ?_ ?_ ?_ v;·intro T d _;rfl
 ·intro T vs ih h;simp only[pk];split
  ·rename_i fs _;rw[ih (by simpa [AV.rws]using h) fs.toList]
  ·rfl
 ·intro l h;simp only[pk];rw[h l (by simp[AV.rws])]
 ·intro l p o _;rfl
 ·intro l i z p o _;rfl
 ·intro l i z _;rfl
 ·intro T d _;rfl
 ·intro f c _ _;rfl
 ·intro vs _ _;rfl
 ·intro T _;rfl
 ·intro b _;rfl
 ·intro T v _ _;rfl
 ·intro T m _;rfl
 ·intro _;rfl
 ·intro _ fs;cases fs<;>rfl
 ·intro v vs h1 h2 h fs;cases fs with
  |nil=>rfl
  |cons f fs=>
   simp only[pkL];rw[h1 fun l hl=>h l (by simp[AV.rwsL,hl]),h2 (fun l hl=>h l (by simp[AV.rwsL,hl])) fs]
theorem Ml{l:Nat}{v:AV}:∀{vs:List AV},v∈vs->l∈v.rws->l∈AV.rwsL vs
 | [],h,_=>by simp at h
 |u::r,h,hl=>by
  rcases List.mem_cons.1 h with e|h;·subst e;simp[AV.rwsL,hl]
  ·simp[AV.rwsL,Ml h hl]
theorem Cy{hs:List Ob}{T:TypeId}{d:Dt}(v:AV)(h:pk P [] v=some (T,d)):pk P hs v=some (T,d):=by
 have key:∀v:AV,∀T d,pk P [] v=some (T,d)->pk P hs v=some (T,d):=by
  intro v;refine AV.rec (motive_1:=fun v=>∀T d,pk P [] v=some (T,d)->pk P hs v=some (T,d)) (motive_2:=fun vs=>∀fs ds,pkL P [] fs vs=some ds->pkL P hs fs vs=some ds) ?_ ?_ ?_ ?_ ?_ ?_ ?_ ?_ ?_ ?_ ?_ ?_ ?_ ?_ ?_ ?_ v;·intro T d T' d' h;exact h
  ·intro T vs ih T' d' h;simp only[pk]at h ⊢
   split at h
   ·    rename_i fs hfs;split at h
        ·rename_i ds hds;rw[ih _ _ hds];exact h
        ·cases h
   ·cases h
  ·intro l T d h;simp[pk,lk]at h
  ·intro l p o T d h;simp[pk]at h
  ·intro l i z p o T d h;simp[pk]at h
  ·intro l i z T d h;simp[pk]at h
  ·intro T d T' d' h;simp[pk]at h
  ·intro f c _ T' d' h;simp[pk]at h
  ·intro vs _ T' d' h;simp[pk]at h
  ·intro T T' d' h;exact h
  ·intro b T' d' h;simp[pk]at h
  ·intro T v _ T' d' h;simp[pk]at h
  ·intro T m T' d' h;simp[pk]at h
  ·intro T' d' h;simp[pk]at h
  ·intro fs ds h;cases fs with
   |nil=>exact h
   |cons f fs=>simp[pkL]at h
  ·intro  v vs h1 h2 fs ds h;cases fs with
   |nil=>simp[pkL]at h
   |    cons f fs=>
        unfold pkL at h ⊢
        split at h
        ·rename_i T d hv;rw[h1 _ _ hv];simp only;cases hc:compat P T f.type with
         |false=>rw[hc]at h;cases h
         |true=>
          rw[hc]at h;simp only[cond_true]at h ⊢
          split at h
          · rename_i us hus;rw[h2 _ _ hus];exact h
          ·cases h
        ·cases h
 exact key v T d h
theorem QV{hs:List Ob}{T2 k:Nat}{r:List Nat}{ls:List Dt}(h:wY hs T2 k r=some ls):k∈r∧lk hs k= .tok T2 ls:=by
 unfold wY at h;split at h;·cases h
 ·rename_i k' r';split at h
  ·rename_i T4 ls' hl;have hh_:=aF h;clear h;obtain⟨hc,h⟩:=hh_;have e1:=beq_eq (aG hc);have e2:=beq_eq (aC hc);subst e1 e2;cases h;exact⟨by simp,hl⟩
  ·cases h
theorem vU{hs:List Ob}{c:Option Nat}{T2 k:Nat}{r:List Nat}{ls:List Dt}(h:XM hs c T2 k r=some ls):Ia c=false∧k∈r∧lk hs k= .tok T2 ls:=by
 unfold XM at h;cases hc:Ia c with
 |true=>rw[hc]at h;cases h
 |false=>rw[hc]at h;exact⟨rfl,QV h⟩
theorem agv{c:Option Nat}{T2 k:Nat}{r:List Nat}{hs hs':List Ob}(h:wY hs' T2 k r=wY hs T2 k r):XM hs' c T2 k r=XM hs c T2 k r:=by unfold XM;rw[h]
theorem XY{T2 k:Nat}{r:List Nat}{hs hs':List Ob}(h:∀l∈r,lk hs' l=lk hs l):wY hs' T2 k r=wY hs T2 k r:=by
 cases r with
 |nil=>rfl
 |cons a r=>simp only[wY,h a (by simp)]
theorem xS{ls:List Nat}{hs hs':List Ob}{j:Nat}{ob:Ob}(h:∀l∈ls,lk hs' l=lk hs l):∀l∈ls,lk (aV hs' j ob) l=lk (aV hs j ob) l:=fun l hl=>by
 rw[dM,dM];split;·rfl
 ·exact h l hl
theorem dQ:∀{ls:List Nat}{hs hs':List Ob},(∀l∈ls,lk hs' l=lk hs l)->frzW hs' ls=frzW hs ls
 | [],hs,hs',_=>rfl
 |l::r,hs,hs',h=>by
  have hr:∀k∈r,lk hs' k=lk hs k:=fun k hk=>h k (by simp[hk]);unfold frzW;rw[h l (by simp)];split
  ·rename_i T es hl;congr 1;exact dQ (xS hr)
  ·rename_i T T2 c k es hl;rw[agv (XY hr)];split
   ·    rename_i ls hls;congr 1;congr 1;congr 1;exact dQ (xS (xS (xS hr)))
   ·exact dQ hr
  ·exact dQ hr
theorem fu{ls:List Nat}:∀{ws:List (Nat×Ob)}{hs hs':List Ob},(∀l∈ls,lk hs' l=lk hs l)->∀l∈ls,lk (wrO hs' ws) l=lk (wrO hs ws) l
 | [],hs,hs',h,l,hl=>h l hl
 |(k,ob)::r,hs,hs',h,l,hl=>by
  refine fu (ls:=ls) (ws:=r) (hs:=aV hs k ob) (hs':=aV hs' k ob) (fun l hl=>?_) l hl;rw[dM,dM];split;·rfl
  ·exact h l hl
theorem fO:∀(a b:List (Nat×Ob))(hs:List Ob),wrO hs (a++b)=wrO (wrO hs a) b
 | [],b,hs=>rfl
 |(l,ob)::r,b,hs=>fO r b _
theorem Imp.freezeD{l k:Nat}{T T2:TypeId}{c:Option Nat}{es ls:List Dt}(hc:Ia c=false)(hl:lk σ.hs l= .rowD T T2 c k es none)(hk:lk σ.hs k= .tok T2 ls):Imp P n σ ⟨σ.ts,aV (aV σ.hs l (.row T (frzD c es ls))) k .gone,σ.k0⟩:=by rintro ok0 w0 a w ⟨β,r⟩;exact⟨β,r.freezeD hc hl hk⟩
theorem Imp.frzW:∀(ls:List Nat){σ:St},Imp P n σ ⟨σ.ts,wrO σ.hs (frzW σ.hs ls),σ.k0⟩
 | [],σ=>Imp.refl
 |l::r,σ=>by
  unfold Am.frzW;split
  ·rename_i T es hl;have h1:Imp P n σ ⟨σ.ts,aV σ.hs l (.frz T es),σ.k0⟩:=by have h1:=Imp.frz1 (P:=P) (n:=n) (σ:=σ) l;unfold Am.frz1 at h1;rw[hl]at h1;exact h1
   exact h1.trans (Imp.frzW r (σ:=⟨σ.ts,aV σ.hs l (.frz T es),σ.k0⟩))
  ·rename_i T T2 c k es hl;split
   ·    rename_i ls hls;obtain⟨hcm,_,hk⟩:=vU hls;have hlk:l≠k:=fun e=>by rw[e,hk]at hl;cases hl
        have h1:=Imp.freezeD (P:=P) (n:=n) hcm hl hk;have h2:Imp P n ⟨σ.ts,aV (aV σ.hs l (.row T (frzD c es ls))) k .gone,σ.k0⟩ ⟨σ.ts,aV (aV (aV σ.hs l (.row T (frzD c es ls))) k .gone) l (.frz T (frzD c es ls)),σ.k0⟩:=by
         have h1:=Imp.frz1 (P:=P) (n:=n) (σ:=⟨σ.ts,aV (aV σ.hs l (.row T (frzD c es ls))) k .gone,σ.k0⟩) l;unfold Am.frz1 at h1;have e:lk (aV (aV σ.hs l (.row T (frzD c es ls))) k .gone) l= .row T (frzD c es ls):=by rw[aS _ _ _ _ hlk,bH]
         simp only[e]at h1;exact h1
        exact(h1.trans h2).trans (Imp.frzW r (σ:=⟨σ.ts,aV (aV (aV σ.hs l (.row T (frzD c es ls))) k .gone) l (.frz T (frzD c es ls)),σ.k0⟩))
   ·exact Imp.frzW r
  ·exact Imp.frzW r
theorem agw{hs:List Ob}{l k:Nat}{ob:Ob}(h:lk hs l= .free)(hk:lk hs k≠ .free):lk (aV hs k ob) l= .free:=by rw[aS _ _ _ _ fun e=>hk (by rw[←e];exact h)];exact h
theorem fV:∀{ls:List Nat}{hs:List Ob}{l:Nat},lk hs l= .free->lk (wrO hs (Am.frzW hs ls)) l= .free
 | [],hs,l,h=>h
 |k::r,hs,l,h=>by
  unfold Am.frzW;split
  ·rename_i T es hl;exact fV (agw h (by rw[hl];nofun))
  ·rename_i T T2 c kk es hl;split
   ·    rename_i ls hls;obtain⟨hcm,_,hk⟩:=vU hls;refine fV ?_;have e1:l≠k:=fun e=>by rw[e,hl]at h;cases h
        have e2:l≠kk:=fun e=>by rw[e,hk]at h;cases h
        rw[aS _ _ _ _ e1,aS _ _ _ _ e2,aS _ _ _ _ e1];exact h
   ·exact fV h
  ·exact fV h
theorem fP:∀{ls:List Nat}{hs:List Ob}{l:Nat},l∉ls->lk (wrO hs (Am.frzW hs ls)) l=lk hs l
 | [],hs,l,h=>rfl
 |k::r,hs,l,h=>by
  simp only[List.mem_cons,not_or]at h;unfold Am.frzW;split
  ·rename_i T es hl;simp only[wrO];rw[fP h.2,aS _ _ _ _ h.1]
  ·rename_i T T2 c kk es hl;split
   ·    rename_i ls hls;obtain⟨hcm,hm,hk⟩:=vU hls;have e2:l≠kk:=fun e=>h.2 (by rw[e];exact hm);simp only[wrO];rw[fP h.2,aS _ _ _ _ h.1,aS _ _ _ _ e2,aS _ _ _ _ h.1]
   ·exact fP h.2
  ·exact fP h.2
theorem atV(σ:St)(d:Option Nat)(U:Dl):(σ.app d U).k0=σ.k0:=rfl
end
structure Agr (o:Oper) (σ σ':St) (rd:List Nat):Prop where
 ts:Agrs σ σ' o.op.operands.toList
 hs:∀l∈rd,lk σ'.hs l=lk σ.hs l
 k0:σ'.k0=σ.k0
def OpS{R:Type}(P:Program)(n:Nat)(o:Oper)(σ:St)(k:Dl->Option R)(r:R):Prop:=
 ∃U,k U=some r∧∀σ',Agr o σ σ' U.rd->bD P n o σ' (σ'.app o.dst U)
section
variable{P:Program}{n:Nat}{o:Oper}{σ τ:St}{x y:Operand}{v:AV}{T:TypeId}{R:Type}{E:Env}{k:Dl->Option R}{r:R}
theorem dD{rd:List Nat}{wr:List (Nat×Ob)}(h:out n o v rd wr k=some r):∃d,o.dst=some d∧d<n∧k ⟨some v,rd,wr⟩=some r:=by
 unfold out at h;split at h
 ·rename_i d hd;obtain⟨h1,h2⟩:=aF h;exact⟨d,hd,aI h1,h2⟩
 ·cases h
theorem eO{rd:List Nat}{wr:List (Nat×Ob)}(h:xE o rd wr k=some r):o.dst=none∧k ⟨none,rd,wr⟩=some r:=by
 unfold xE at h;split at h;·cases h
 ·rename_i hd;exact⟨hd,h⟩
theorem dw{f:Nat->Option R}(h:new σ f=some r):σ.k0<=σ.hs.length∧f σ.hs.length=some r:=by unfold new at h;obtain⟨h1,h2⟩:=aF h;exact⟨aI h1,h2⟩
theorem bC{rd:List Nat}(h:out n o v rd [] k=some r)(hv:∀σ',Agr o σ σ' rd->∀d,o.dst=some d->d<n->bD P n o σ' (σ'.put d v)):OpS P n o σ k r:=by obtain⟨d,hd,hn,hk⟩:=dD h;refine⟨_,hk,fun σ' ha=>?_⟩;have:=hv σ' ha d hd hn;rw[hd];exact this
theorem Ux{rd:List Nat}{l:Nat}{ob:Ob}(h:out n o v rd [(l,ob)] k=some r)(hv:∀σ',Agr o σ σ' rd->∀d,o.dst=some d->d<n->bD P n o σ' ((σ'.lay l ob).put d v)):OpS P n o σ k r:=by obtain⟨d,hd,hn,hk⟩:=dD h;refine⟨_,hk,fun σ' ha=>?_⟩;have:=hv σ' ha d hd hn;rw[hd];exact this
theorem fZ{σ':St}{rd:List Nat}(ha:Agr o σ σ' rd)(hx:x∈o.op.operands.toList):Ev P σ' x (opd P E.dt σ T x):=by rw[←iy ha.ts hx];exact gY
theorem bB{σ':St}{rd:List Nat}{u:AV}(ha:Agr o σ σ' rd)(hx:x∈o.op.operands.toList)(hv:opd P E.dt σ T x=u):Ev P σ' x u:=by rw[←hv];exact fZ ha hx
theorem atW(ho:o.op= .move x)(h:out n o (opd P E.dt σ o.type x) [] [] k=some r):OpS P n o σ k r:=
 bC h fun σ' ha d hd hn=>amw ho hd hn (fZ ha (by rw[ho];simp[Op.operands]))
theorem agx(ho:o.op= .assign x)(h:out n o (opd P E.dt σ o.type x) [] [] k=some r):OpS P n o σ k r:=
 bC h fun σ' ha d hd hn=>Wy ho hd hn (fZ ha (by rw[ho];simp[Op.operands]))
theorem atX{c:Operand}(ho:o.op= .pick c x y)(h:QJ P E n o σ c x y k=some r):OpS P n o σ k r:=by
 unfold QJ at h;split at h
 ·rename_i b hb;obtain⟨TB,d0,e1,e2,rfl⟩:=iB hb;cases hd0:d0.toBool with
  |true=>
   rw[hd0]at h;exact bC h fun σ' ha d hd hn=>by have hc:=(bB (x:=c) ha (by rw[ho];simp[Op.operands]) e1).cbool e2;rw[hd0]at hc;exact Ib ho hd hn e2 hc (fZ ha (by rw[ho];simp[Op.operands]))
  |false=>
   rw[hd0]at h;exact bC h fun σ' ha d hd hn=>by have hc:=(bB (x:=c) ha (by rw[ho];simp[Op.operands]) e1).cbool e2;rw[hd0]at hc;exact DF ho hd hn e2 hc (fZ ha (by rw[ho];simp[Op.operands]))
 ·cases h
theorem cZ(σ:St):lk σ.hs σ.hs.length= .free:=dF _ _ (aL _)
theorem am5(ho:o.op= .alloc T)(h:IK P n o σ T k=some r):OpS P n o σ k r:=by
 unfold IK at h;split at h
 ·rename_i v hv;have hh_:=dw h;clear h;obtain⟨hk0,h⟩:=hh_;exact Ux h fun σ' ha d hd hn=>abQ ho hd hn (by rw[ha.hs _ (by simp)];exact cZ σ) (by rw[ha.k0];exact hk0) (mD hv)
 ·cases h
theorem aw7(ho:o.op= .box T x)(h:agb P E n o σ T x k=some r):OpS P n o σ k r:=by unfold agb at h;have hh_:=aF h;clear h;obtain⟨hb,h⟩:=hh_;have hh_:=dw h;clear h;obtain⟨hk0,h⟩:=hh_;obtain⟨q1,q2,q3,q4,q5⟩:=dK hb;exact Ux h fun σ' ha d hd hn=>asR ho hd hn (by rw[ha.hs _ (by simp)];exact cZ σ) (by rw[ha.k0];exact hk0) (fZ ha (by rw[ho];simp[Op.operands])) q1 q2 q5
theorem am6{parts:Array (Nat×Operand)}(ho:o.op= .build T parts)(h:IL P E n o σ T parts.toList k=some r):OpS P n o σ k r:=by
 unfold IL at h;split at h
 ·rename_i fs hfs;split at h
  ·rename_i T' vs hz;have hh_:=aF h;clear h;obtain⟨hc,h⟩:=hh_;have e:=beq_eq (aG hc);subst e;split at h
   ·    rename_i us hus;refine bC h fun σ' ha d hd hn=>abV ho hd hn (fJ hfs) (aG (aC hc)) (aC (aC hc)) (mD hz) ?_;have:DY P E σ' fs parts.toList vs=some us:=by rw[Mk ha.ts fun p hp=>by rw[ho];simp only[Op.operands];exact List.mem_map.2 ⟨p,hp,rfl⟩];exact hus
        exact Cx this
   ·cases h
  ·cases h
 ·cases h
theorem ayn{σ τ:St}(h:∀(ok0:OkX)(w0:World)(a:Act)(w:World)(β:Nat->Option Value),RelB P ok0 w0 n σ a w β->bD P n o σ τ):bD P n o σ τ:=by rintro ok0 w0 a w ⟨β,r⟩;exact h ok0 w0 a w β r ok0 w0 a w ⟨β,r⟩
theorem agy{l i sz off kk:Nat}{path:List Nat}{T5 T2:TypeId}{c:Option Nat}{es:List Dt}{hh:Option (Nat×Nat)}(ho:o.op= .load T x)(e1:opd P E.dt σ 0 x= .eptr l i sz path off)(hl:lk σ.hs l= .rowD T5 T2 c kk es hh)
  (h:Ck P n o σ T l i sz off T5 T2 c kk es hh k=some r):OpS P n o σ k r:=by
 have hx:x∈o.op.operands.toList:=by rw[ho];simp[Op.operands]
 unfold Ck at h;split at h
 ·rename_i Te E2 T4 ls h1 h2 h3;split at h
  ·rename_i T3 fo hf;have hh_:=aF h;clear h;obtain⟨hc,h⟩:=hh_;have f1:=beq_eq (aG hc);have f2:=beq_eq (aG (aC hc));have f3:=beq_eq (aG (aC (aC hc)));have f4:=beq_eq (aG (aC (aC (aC hc))));have f5:=beq_eq (aC (aC (aC (aC hc))));subst f1 f2 f4 f5;subst f3;have hh_:=dw h;clear h;obtain⟨hk0,h⟩:=hh_;have hh_:=aj.1 h;clear h;obtain⟨e,he,h⟩:=hh_;have hh_:=aF h;clear h;obtain⟨hlk,h⟩:=hh_;have hh_:=aj.1 h;clear h;obtain⟨e2,he2,h⟩:=hh_;obtain⟨d,hd,hn,hk⟩:=dD h;refine⟨_,hk,fun σ' ag=>?_⟩;rw[hd];have hk':lk σ'.hs kk= .tok T4 ls:=by rw[ag.hs kk (by simp)];exact h3
   refine ayn fun _ _ _ _ _ r=>?_;exact Jf ho hd hn (bE h2) (bE h1) (bB ag hx e1) hf (by rw[ag.hs l (by simp)];exact hl) hk' he hlk (r.tok_lst hk' he2)
        (by rw[ag.hs _ (by simp)];exact cZ σ) (by rw[ag.hs _ (by simp)];exact dF _ _ (by omega)) (by omega) (by rw[ag.k0];exact hk0) (by rw[ag.k0];omega)
  ·cases h
 ·cases h
theorem am7{l i sz off kk i' m:Nat}{path:List Nat}{T5 T2:TypeId}{c:Option Nat}{es:List Dt}(ho:o.op= .load T x)(e1:opd P E.dt σ 0 x= .eptr l i sz path off)(hl:lk σ.hs l= .rowD T5 T2 c kk es (some (i',m)))
  (h:IQ P n o T l i sz off T5 T2 c es i' m k=some r):OpS P n o σ k r:=by
 have hx:x∈o.op.operands.toList:=by rw[ho];simp[Op.operands]
 unfold IQ at h;split at h
 ·rename_i Te E2 h1 h2;split at h
  ·rename_i T3 fo hf;have hh_:=aF h;clear h;obtain⟨hc,h⟩:=hh_;have f1:=beq_eq (aG hc);have f2:=beq_eq (aG (aC hc));have f4:=beq_eq (aG (aC (aC hc)));have f5:=beq_eq (aC (aC (aC hc)));subst f1 f2 f4 f5;have hh_:=aF h;clear h;obtain⟨hi,h⟩:=hh_;have f6:=beq_eq hi;subst f6;have hh_:=aj.1 h;clear h;obtain⟨e,he,h⟩:=hh_;have hh_:=aF h;clear h;obtain⟨hlk,h⟩:=hh_;obtain⟨d,hd,hn,hk⟩:=dD h;refine⟨_,hk,fun σ' ag=>?_⟩;rw[hd];exact ML ho hd hn (bE h2) (bE h1) (bB ag hx e1) hf (by rw[ag.hs l (by simp)];exact hl) he hlk
  ·cases h
 ·cases h
theorem am8{l i sz off kk:Nat}{path:List Nat}{T5 T2:TypeId}{c:Option Nat}{es:List Dt}{hh:Option (Nat×Nat)}(ho:o.op= .load T x)(e1:opd P E.dt σ 0 x= .eptr l i sz path off)(hl:lk σ.hs l= .rowD T5 T2 c kk es hh)
  (h:IU P n o σ T l i sz off T5 T2 c kk es hh k=some r):OpS P n o σ k r:=by
 unfold IU at h;split at h;·exact am7 ho e1 hl h
 ·exact agy ho e1 hl h
theorem agz{hs:List Ob}{Te T2 fo E2:TypeId}{c:Option Nat}{d':Dt}{m:Nat}(hu2:P.underlying T2=some (.slice E2))(hf:sV P Te c=some (T2,fo))(hm:agc c v=some m)(h:Cm P hs Te T2 c v=some d'):CY P hs Te c fo v d' m:=by
 have hh:=mH hf;unfold agc at hm;split at hm
 ·cases hm;cases h;obtain⟨h1,h2⟩:=auc (show (bif Nat.beq (P.cellsOf Te) 1 then some (Te,0)else none)=some (T2,fo)from hf);cases h2;exact Gp hu2 (beq_eq h1)
 ·split at hm
  ·rename_i m' hv;cases hm;simp only[Cm]at h;split at h
   ·    rename_i T3 e' hp;have hh_:=aF h;clear h;obtain⟨hc,h⟩:=hh_;have f1:=beq_eq (aG hc);have f2:=beq_eq (aC hc);subst f1 f2;cases h;exact Yl hh hu2 hv hp
   ·cases h
  ·cases hm
 ·cases hm
theorem Cz{m:Nat}:∀{ls:List Nat},∀l∈nJ m ls,l∈ls
 |a::r,l,h=>by
  unfold nJ at h;cases hb:Nat.beq a m with
  |true=>rw[hb]at h;exact aY _ (Cz l h)
  |false=>
   rw[hb]at h;rcases List.mem_cons.1 h with h|h;·rw[h];exact aZ
   ·exact aY _ (Cz l h)
theorem Gg{T2:TypeId}:∀{vs:List AV}{f:Nat},∀l∈AV.rwsL (vs.set f (.nils T2)),l∈AV.rwsL vs
 | [],_,_,h=>h
 |v::r,0,l,h=>by simp only[List.set_cons_zero,AV.rwsL,AV.rws,List.nil_append]at h;simp[AV.rwsL,h]
 |v::r,f+1,l,h=>by simp only[List.set_cons_succ,AV.rwsL,List.mem_append]at h;simp only[AV.rwsL,List.mem_append];exact h.imp id (Gg l)
theorem XZ{hs hs':List Ob}{Te T2:TypeId}{c:Option Nat}(h:∀l∈v.rws,lk hs' l=lk hs l):Cm P hs' Te T2 c v=Cm P hs Te T2 c v:=by
 cases c with
 |none=>rfl
 |some f=>
  cases v with
  |agg T' vs=>
   simp only[Cm];rw[jM (hs:=hs) (hs':=hs') (.agg Te (vs.set f (.nils T2))) fun l hl=>h l (Gg l hl)]
  |_=>rfl
theorem agA{l i sz off kk:Nat}{path:List Nat}{T5 T2:TypeId}{c:Option Nat}{es:List Dt}{hh:Option (Nat×Nat)}(ho:o.op= .store T x y)(hz:szB P T (opd P E.dt σ T y)=true)(h0:P.cellsOf T≠0)(e1:opd P E.dt σ 0 x= .eptr l i sz path off)(hl:lk σ.hs l= .rowD T5 T2 c kk es hh)
  (h:Co P o σ T l i sz path off T5 T2 c kk es hh (opd P E.dt σ T y) k=some r):OpS P n o σ k r:=by
 have hx:x∈o.op.operands.toList:=by rw[ho];simp[Op.operands]
 have hy:y∈o.op.operands.toList:=by rw[ho];simp[Op.operands]
 obtain⟨q1,q2,q3,q4,q5⟩:=dK hz;unfold Co at h;split at h
 ·rename_i Te m h1 hm;split at h
  ·rename_i T3 fo E2 d' hf h2 h3;have hh_:=aF h;clear h;obtain⟨hc,h⟩:=hh_;have f1:=beq_eq (aG hc);have f2:=beq_eq (aG (aC hc));have f3:=beq_eq (aG (aC (aC hc)));have f4:=beq_eq (aG (aC (aC (aC hc))));have hnm:l∉nJ m (opd P E.dt σ T y).rws:=mE (by simpa using aC (aC (aC (aC hc))));subst f1 f2 f3 f4;have hh_:=aj.1 h;clear h;obtain⟨e,he,h⟩:=hh_;obtain⟨hd,hk⟩:=eO h;refine⟨_,hk,fun σ' ag=>?_⟩;rw[hd];have hagr:∀l∈(opd P E.dt σ Te y).rws,lk σ'.hs l=lk σ.hs l:=fun l hl=>ag.hs l (by simp[hl]);have hfw:frzW σ'.hs (nJ m (opd P E.dt σ Te y).rws)=frzW σ.hs (nJ m (opd P E.dt σ Te y).rws):=dQ fun l hl=>hagr l (Cz l hl);have hev:∀{z:Operand}{u:AV}{T0:TypeId},z∈o.op.operands.toList->opd P E.dt σ T0 z=u->Ev P (St.mk σ'.ts (wrO σ'.hs (frzW σ'.hs (nJ m (opd P E.dt σ Te y).rws))) σ'.k0) z u:=by
        rintro z u T0 hz rfl;have e3:opd P E.dt (St.mk σ'.ts (wrO σ'.hs (frzW σ'.hs (nJ m (opd P E.dt σ Te y).rws))) σ'.k0) T0 z=opd P E.dt σ T0 z:=by rw[←iy ag.ts hz];cases z<;>rfl
        rw[←e3];exact gY
   have key:=Yk (σ:=St.mk σ'.ts (wrO σ'.hs (frzW σ'.hs (nJ m (opd P E.dt σ Te y).rws))) σ'.k0) (n:=n) (i:=i) ho hd h0 (hev hx e1) (hev hy rfl) q1 q2 q5
        (by show lk (wrO σ'.hs _) l=_;rw[fP hnm,ag.hs l (by simp)];exact hl) (bE h1) (ak.1 he).1 (mH hf) (fun _ _ e=>by cases e)
        (agz (bE h2) hf hm (by show Cm P (wrO σ'.hs _) Te _ c _=some d';rw[←h3,hfw];exact XZ fun l hl=>fu hagr l hl))
   have:=key.pre (Imp.frzW (σ:=σ') (nJ m (opd P E.dt σ Te y).rws));have hfin:St.mk (XL σ'.ts none none) (wrO σ'.hs (frzW σ.hs (nJ m (opd P E.dt σ Te y).rws)++[(l,.rowD T5 T3 c kk (es.set i d') (some (i,m)))])) σ'.k0=(St.mk σ'.ts (wrO σ'.hs (frzW σ'.hs (nJ m (opd P E.dt σ Te y).rws))) σ'.k0).lay l (.rowD T5 T3 c kk (es.set i d') (some (i,m))):=by rw[fO,hfw];rfl
   rw[←hfin]at this;exact this
  ·cases h
 ·cases h
theorem CB{S Te:TypeId}{c:AV}{d:Dt}(h:arB P S c=some (Te,d)):∃len,P.underlying S=some (.array len Te)∧c= .dat S d∧P.cellsOf S=len*P.cellsOf Te∧P.cellsOf Te≠0:=by
 unfold arB at h;split at h
 ·rename_i len Te' hu;split at h
  ·obtain⟨h1,h2⟩:=aF h;cases h2;have e:=beq_eq (aG h1);subst e;exact⟨len,hu,rfl,beq_eq (aG (aC h1)),kL (aC (aC h1))⟩
  ·cases h
 ·cases h
theorem X0{l i sz off S:Nat}{path:List Nat}{c:AV}(ho:o.op= .load T x)(e1:opd P E.dt σ 0 x= .eptr l i sz path off)(hl:lk σ.hs l= .box S c)(h:vN P n o T l i sz path off S c k=some r):OpS P n o σ k r:=by
 have hx:x∈o.op.operands.toList:=by rw[ho];simp[Op.operands]
 unfold vN at h;split at h
 ·rename_i Te d hb;obtain⟨len,hu,rfl,hm,h0⟩:=CB hb;have hh_:=aF h;clear h;obtain⟨hc,h⟩:=hh_;have e:=beq_eq (aG hc);subst e;have e2:=beq_eq (aG (aC hc));subst e2;have e3:=beq_eq (aG (aC (aC hc)));subst e3;obtain⟨q1,q2,⟨D,hD⟩,q4,q5⟩:=dK (aC (aC (aC hc)));have hh_:=aj.1 h;clear h;obtain⟨e0,he0,h⟩:=hh_;refine bC h fun σ' ha d' hd hn=>?_;have hl':lk σ'.hs l= .box S (.dat S d):=by rw[ha.hs l (by simp)];exact hl
  have:=(bB ha hx e1).arr (p':=[i]) hl';rw[Nat.add_zero]at this;exact(wL ho hd hn hD (fun hf=>q4 hf) this hl' (.arr hu hm he0) rfl (by simp)).can
 ·cases h
theorem QW{l i sz off S:Nat}{path:List Nat}{c:AV}(ho:o.op= .store T x y)(hz:szB P T (opd P E.dt σ T y)=true)(h0:P.cellsOf T≠0)(e1:opd P E.dt σ 0 x= .eptr l i sz path off)(hl:lk σ.hs l= .box S c)
  (h:qz P o T l i sz path off S c (opd P E.dt σ T y) k=some r):OpS P n o σ k r:=by
 have hx:x∈o.op.operands.toList:=by rw[ho];simp[Op.operands]
 have hy:y∈o.op.operands.toList:=by rw[ho];simp[Op.operands]
 obtain⟨q1,q2,q3,q4,q5⟩:=dK hz;unfold qz at h;split at h
 ·rename_i Te d T' x' hb e4;obtain⟨len,hu,rfl,hm,_⟩:=CB hb;have hh_:=aF h;clear h;obtain⟨hc,h⟩:=hh_;have e:=beq_eq (aG hc);subst e;have e5:=beq_eq (aG (aC hc));subst e5;have e2:=beq_eq (aG (aC (aC hc)));subst e2;have e3:=beq_eq (aC (aC (aC hc)));subst e3;have hh_:=aj.1 h;clear h;obtain⟨e0,he0,h⟩:=hh_;obtain⟨hd,hk⟩:=eO h;refine⟨_,hk,fun σ' ha=>?_⟩;have hl':lk σ'.hs l= .box S (.dat S d):=by rw[ha.hs l (by simp)];exact hl
  have hp:=(bB ha hx e1).arr (p':=[i]) hl';rw[Nat.add_zero]at hp;have:=rW (n:=n) ho hd h0 hp (fZ ha hy) q1 q2 q5 hl' (.arr hu hm (ak.1 he0).1 e4);rw[hd];exact this
 ·cases h
theorem atY(ho:o.op= .load T x)(h:QK P E n o σ T x k=some r):OpS P n o σ k r:=by
 have hx:x∈o.op.operands.toList:=by rw[ho];simp[Op.operands]
 unfold QK at h;split at h
 ·rename_i T' d0 e1;have hh_:=aF h;clear h;obtain⟨hc,h⟩:=hh_;have e:=beq_eq (aG hc);subst e;obtain⟨q1,q2,⟨D,hD⟩,q4,q5⟩:=dK (aC hc);exact bC h fun σ' ha d hd hn=>(Ie ho hd hn hD (fun hf=>q4 hf) (bB ha hx e1)).can
 ·rename_i l path off e1;split at h
  ·rename_i S c hl;split at h
   ·    rename_i T' q v hg;have hh_:=aF h;clear h;obtain⟨hc,h⟩:=hh_;have e:=beq_eq (aG hc);subst e;have e2:=beq_eq (aG (aC hc));subst e2;obtain⟨q1,q2,⟨D,hD⟩,q4,q5⟩:=dK (aG (aC (aC hc)));have hag:v.isAgg P=bS P T':=by simpa using aC (aC (aC hc))
        refine bC h fun σ' ha d hd hn=>?_;have key:=wL ho hd hn hD (fun hf=>q4 (by rw[hag];exact hf)) (bB ha hx e1) (by rw[ha.hs l (by simp)];exact hl) (gQ hg) hag q2;cases v<;>first|exact key|exact key.can
   ·cases h
  ·cases h
 ·rename_i l i sz path off e1;split at h
  ·rename_i T5 es hl;split at h
   ·    rename_i Te hTe;have hh_:=aj.1 h;clear h;obtain⟨e0,he0,h⟩:=hh_;split at h
        ·rename_i T' q v hg;have hh_:=aF h;clear h;obtain⟨hc,h⟩:=hh_;have e:=beq_eq (aG hc);subst e;have e2:=beq_eq (aG (aC hc));subst e2;have e3:=beq_eq (aG (aC (aC hc)));subst e3;obtain⟨q1,q2,⟨D,hD⟩,q4,q5⟩:=dK (aG (aC (aC (aC hc))));have hag:v.isAgg P=bS P T':=by simpa using aC (aC (aC (aC hc)))
         refine bC h fun σ' ha d hd hn=>?_;have key:=Ii ho hd hn hD (fun hf=>q4 (by rw[hag];exact hf)) (bB ha hx e1) (by rw[ha.hs l (by simp)];exact hl) (bE hTe) he0 (gQ hg) hag q2;cases v<;>first|exact key|exact key.can
        ·cases h
   ·cases h
  ·rename_i T5 vs hl;split at h
   ·    rename_i Te hTe;have hh_:=aj.1 h;clear h;obtain⟨e0,he0,h⟩:=hh_;split at h
        ·rename_i T' q v hg;have hh_:=aF h;clear h;obtain⟨hc,h⟩:=hh_;have e:=beq_eq (aG hc);subst e;have e2:=beq_eq (aG (aC hc));subst e2;have e3:=beq_eq (aG (aC (aC hc)));subst e3;obtain⟨q1,q2,⟨D,hD⟩,q4,q5⟩:=dK (aG (aC (aC (aC hc))));have hag:v.isAgg P=bS P T':=by simpa using aC (aC (aC (aC hc)))
         refine bC h fun σ' ha d hd hn=>?_;have key:=D8 ho hd hn hD (fun hf=>q4 (by rw[hag];exact hf)) (bB ha hx e1) (by rw[ha.hs l (by simp)];exact hl) (bE hTe) he0 (gQ hg) hag q2;cases v<;>first|exact key|exact key.can
        ·cases h
   ·cases h
  ·rename_i hl;exact am8 ho e1 hl h
  ·rename_i S c hl;exact X0 ho e1 hl h
  ·cases h
 ·cases h
theorem am9(ho:o.op= .store T x y)(h:IV P E o σ T x y k=some r):OpS P n o σ k r:=by
 have hx:x∈o.op.operands.toList:=by rw[ho];simp[Op.operands]
 have hy:y∈o.op.operands.toList:=by rw[ho];simp[Op.operands]
 unfold IV at h;have hh_:=aF h;clear h;obtain⟨hc0,h⟩:=hh_;obtain⟨q1,q2,q3,q4,q5⟩:=dK (aG hc0);have h0:=kL (aC hc0);split at h
 ·rename_i l path off e1;split at h
  ·rename_i S c hl;split at h
   ·    rename_i q c' hs;have hh_:=aF h;clear h;obtain⟨hc,h⟩:=hh_;have e:=beq_eq hc;subst e;obtain⟨hd,hk⟩:=eO h;refine⟨_,hk,fun σ' ha=>?_⟩;have:=rW (n:=n) ho hd h0 (bB ha hx e1) (fZ ha hy) q1 q2 q5 (by rw[ha.hs l (by simp)];exact hl) (jy hs);rw[hd];exact this
   ·cases h
  ·cases h
 ·rename_i l i sz path off e1;split at h
  ·rename_i T5 es hl;split at h
   ·    rename_i Te hTe;have hh_:=aj.1 h;clear h;obtain⟨e0,he0,h⟩:=hh_;split at h
        ·rename_i q c' hs;split at h
         ·rename_i Te' e' hpk;have hh_:=aF h;clear h;obtain⟨hc,h⟩:=hh_;have e:=beq_eq (aG hc);subst e;have e2:=beq_eq (aG (aC hc));subst e2;have hcmp:=aG (aC (aC hc));have hnm:l∉(opd P E.dt σ T y).rws:=mE (by simpa using aC (aC (aC hc)));obtain⟨hd,hk⟩:=eO h;refine⟨_,hk,fun σ' ha=>?_⟩;have hagr:∀l∈(opd P E.dt σ T y).rws,lk σ'.hs l=lk σ.hs l:=fun l hl=>ha.hs l (by simp[hl]);rw[hd];have key:bD P n o ⟨σ'.ts,wrO σ'.hs (frzW σ'.hs (opd P E.dt σ T y).rws),σ'.k0⟩ ((St.mk σ'.ts (wrO σ'.hs (frzW σ'.hs (opd P E.dt σ T y).rws)) σ'.k0).lay l (.row T5 (es.set i e'))):=by
           have hev:∀{z:Operand}{u:AV},Ev P σ' z u->z∈o.op.operands.toList->(∃T0,u=opd P E.dt σ T0 z)->Ev P (St.mk σ'.ts (wrO σ'.hs (frzW σ'.hs (opd P E.dt σ T y).rws)) σ'.k0) z u:=by
            rintro z u _ hz ⟨T0,rfl⟩;have e3:opd P E.dt (St.mk σ'.ts (wrO σ'.hs (frzW σ'.hs (opd P E.dt σ T y).rws)) σ'.k0) T0 z=opd P E.dt σ T0 z:=by rw[←iy ha.ts hz];cases z<;>rfl
            rw[←e3];exact gY
           refine DJ (n:=n) ho hd h0 (hev (bB ha hx e1) hx ⟨_,e1.symm⟩) (hev (fZ ha hy) hy ⟨_,rfl⟩) q1 q2 q5 ?_ (bE hTe) he0 (jy hs) ?_
           ·show lk (wrO σ'.hs _) l=_;rw[fP hnm,ha.hs l (by simp)];exact hl
           ·intro ok0 w0 a w β rb cs hra;refine RD.compat (dJ rb.frzOK hra ?_) hcmp;show pk P (wrO σ'.hs (frzW σ'.hs (opd P E.dt σ T y).rws)) c'=_;rw[←hpk];refine jM c' fun l2 hl2=>?_;have hsub:∀l2∈c'.rws,l2∈(opd P E.dt σ T y).rws:=setAt_rws hs (by intro l3 h3;simp[AV.rws]at h3);rw[dQ hagr];exact fu hagr l2 (hsub l2 hl2)
          have hfin:St.mk (XL σ'.ts none none) (wrO σ'.hs (frzW σ.hs (opd P E.dt σ T y).rws++[(l,.row T5 (es.set i e'))])) σ'.k0=(St.mk σ'.ts (wrO σ'.hs (frzW σ'.hs (opd P E.dt σ T y).rws)) σ'.k0).lay l (.row T5 (es.set i e')):=by rw[fO,dQ hagr];rfl
          have:=key.pre (Imp.frzW (σ:=σ') (opd P E.dt σ T y).rws);rw[←hfin]at this;exact this
         ·cases h
        ·cases h
   ·cases h
  ·rename_i T5 vs hl;split at h
   ·    rename_i Te hTe;have hh_:=aj.1 h;clear h;obtain⟨e0,he0,h⟩:=hh_;split at h
        ·rename_i q c' hs;have hh_:=aF h;clear h;obtain⟨hc,h⟩:=hh_;have e:=beq_eq (aG hc);subst e;have e2:=beq_eq (aC hc);subst e2;obtain⟨hd,hk⟩:=eO h;refine⟨_,hk,fun σ' ha=>?_⟩;have:=CV (n:=n) ho hd h0 (bB ha hx e1) (fZ ha hy) q1 q2 q5 (by rw[ha.hs l (by simp)];exact hl) (bE hTe) he0 (jy hs);rw[hd];exact this
        ·cases h
   ·cases h
  ·rename_i hl;exact agA ho (aG hc0) h0 e1 hl h
  ·rename_i S c hl;exact QW ho (aG hc0) h0 e1 hl h
  ·cases h
 ·cases h
where setAt_rws {T':TypeId} {v:AV}:∀{path:List Nat}{S:TypeId}{c:AV}{q:Nat}{c':AV},setAt P T' v S c path=some (q,c')->(∀l∈c.rws,l∈v.rws)->∀l∈c'.rws,l∈v.rws
 | [],S,c,q,c',h,_=>by
   have h':(bif Nat.beq S T' then some (0,v)else none)=some (q,c'):=by simpa [setAt]using h
   obtain⟨_,h2⟩:=aF h';cases h2;exact fun l hl=>hl
 | i  ::p,S,c,    q,c',h,hc=>by
   unfold setAt at h;split at h
   ·  rename_i fs hfs;split at h
      ·rename_i f hf;split at h
       ·rename_i vs hvs;split at h
        · rename_i old hold;obtain⟨h1,h2⟩:=aF h;split at h2
          ·rename_i q' new hg;cases h2;have hvsr:∀l∈AV.rwsL vs,l∈v.rws:=by
                split at hvs
                · obtain⟨e1,e2⟩:=aF hvs;cases e2;exact hc
                · obtain⟨e1,e2⟩:=aF hvs;cases e2;intro l hl;exfalso;have:∀(fs:List Field)(j:Nat)(d:Dt),AV.rwsL (nM P fs j d)=[]:=by
                   intro fs;induction fs with
                   |nil=>intro j d;rfl
                   |cons f r ih=>intro j d;simp[nM,AV.rwsL,AV.rws,ih]
                  rw[show expl P fs _=nM P fs.toList 0 _ from rfl,this]at hl;simp at hl
                ·cases hvs
           have hnew:=setAt_rws hg fun l hl=>hvsr l (Ml (aM hold) hl);intro l hl;have hset:∀(us:List AV)(j:Nat),(∀l∈AV.rwsL us,l∈v.rws)->∀l∈AV.rwsL (us.set j new),l∈v.rws:=by
                intro us;induction us with
                |nil=>intro j hu l hl;simp[AV.rwsL]at hl
                | cons u r ih=>
                  intro j hu l hl;cases j with
                  |zero=>
                   simp only[List.set_cons_zero,AV.rwsL,List.mem_append]at hl;rcases hl with hl|hl;·exact hnew l hl
                   ·exact hu l (by simp[AV.rwsL,hl])
                  |succ j=>
                   simp only[List.set_cons_succ,AV.rwsL,List.mem_append]at hl;rcases hl with hl|hl;·exact hu l (by simp[AV.rwsL,hl])
                   ·exact ih j (fun l hl=>hu l (by simp[AV.rwsL,hl])) l hl
           exact hset vs i hvsr l hl
          ·cases h2
        ·cases h
       ·cases h
      ·cases h
   ·cases h
end
section
variable{P:Program}{n:Nat}{o:Oper}{σ τ:St}{x y:Operand}{v:AV}{T:TypeId}{R:Type}{E:Env}{k:Dl->Option R}{r:R}
theorem fC{d:Nat}(ho:o.op= .nilCheck x)(hd:o.dst=some d)(hn:d<n)(hx:Ev P σ x v)
  (hv:∀(ok:Nat->Prop)(w:World)(β:Nat->Option Value)(z:Value),RV P ok w β v z->(∃ad,z= .pointer (some ad))∨∃f a b,z= .func (.func f) a b):bD P n o σ (σ.put d v):=
 bf hd hn fun ok0 w0 a w β r=>by
  have h:=hx _ _ _ _ _ _ r;rcases hv _ _ _ _ h with⟨ad,e⟩| ⟨f,a1,b1,e⟩;·exact⟨_,by simp[execOp,ho,e],e▸h⟩
  ·exact⟨_,by simp[execOp,ho,e],e▸h⟩
theorem xG{d f:Nat}{T:TypeId}{name:String}(ho:o.op= .nilCheck x)(hd:o.dst=some d)(hn:d<n)(hx:Ev P σ x (.mth T name))(hm:xk P T name=some f):bD P n o σ (σ.put d (.mth T name)):=
 bf hd hn fun ok0 w0 a w β r=>by
  have h:=hx _ _ _ _ _ _ r;have h2:=h.2 rfl;generalize hz:a.eval x=z at h h2;cases h2 with
  | @mth _ _ z cv=>
    refine⟨_,?_,h⟩;have hk:∀j:Nat,(nilAhead (j+Made.depth) T z name).run P w= .ok (some false) w:=fun j=>Jd hm (j+99) z w;have hp:(program).run P w= .ok P w:=rfl;unfold execOp;simp only[ho,hz,List.getElem?_toArray,aO,Sem.run_bind,hp,Result.andThen_ok,hk];rfl
theorem QX(ho:o.op= .nilCheck x)(h:ru P E n o σ x k=some r):OpS P n o σ k r:=by
 have hx:x∈o.op.operands.toList:=by rw[ho];simp[Op.operands]
 unfold ru at h;split at h
 ·rename_i T d0 e1;exact bC h fun σ' ha d hd hn=>fC ho hd hn (bB ha hx e1) fun ok w β z hz=>by
   have:=hz.2 rfl;cases this with
   |rptr=>exact .inl ⟨_,rfl⟩
 ·rename_i l p q e1;exact bC h fun σ' ha d hd hn=>fC ho hd hn (bB ha hx e1) fun ok w β z hz=>by
   have:=hz.2 rfl;cases this with
   |ptr=>exact .inl ⟨_,rfl⟩
 ·rename_i l i z p q e1;exact bC h fun σ' ha d hd hn=>fC ho hd hn (bB ha hx e1) fun ok w β z hz=>by
   have:=hz.2 rfl;cases this with
   |eptr=>exact .inl ⟨_,rfl⟩
   |eptrB=>exact .inl ⟨_,rfl⟩
 ·rename_i f c e1;exact bC h fun σ' ha d hd hn=>fC ho hd hn (bB ha hx e1) fun ok w β z hz=>by
   have:=hz.2 rfl;cases this with
   |fn=>exact .inr ⟨_,_,_,rfl⟩
 ·rename_i T name e1;split at h
  ·rename_i f hm;exact bC h fun σ' ha d hd hn=>xG ho hd hn (bB ha hx e1) hm
  ·cases h
 ·rename_i T d0 e1;split at h
  ·rename_i T2 hT2;have hh_:=aj.1 h;clear h;obtain⟨e0,he0,h⟩:=hh_;exact bC h fun σ' ha d hd hn=>fC ho hd hn ((bB ha hx e1).pd (mG hT2) he0) fun ok w β z hz=>by
        have:=hz.2 rfl;cases this with
        |rptr=>exact .inl ⟨_,rfl⟩
  ·cases h
 ·cases h
theorem aw8{op:BinOp}{T T' Tx Ty:TypeId}{q:IntKind}{a b:Int}(ho:o.op= .binOp op T x y T')(hux:P.underlying Tx=some (.int q))(huy:P.underlying Ty=some (.int q))
  (hx:∀σ',Agr o σ σ' []->Ev P σ' x (.dat Tx (.int a)))(hy:∀σ',Agr o σ σ' []->Ev P σ' y (.dat Ty (.int b)))(h:af4 P E n o op Tx q a b k=some r):OpS P n o σ k r:=by
 unfold af4 at h;simp only at h;cases op with
 |add=>exact bC h fun σ' ha d hd hn=>asw ho hd hn hux huy (hx σ' ha) (hy σ' ha)
 |sub=>exact bC h fun σ' ha d hd hn=>asx ho hd hn hux huy (hx σ' ha) (hy σ' ha)
 |mul=>exact bC h fun σ' ha d hd hn=>asy ho hd hn hux huy (hx σ' ha) (hy σ' ha)
 |quo=>
  simp only at h;by_cases hb:b=0;·simp[hb]at h
  ·simp only[hb,decide_false,cond_false]at h;exact bC h fun σ' ha d hd hn=>asz ho hd hn hux huy (hx σ' ha) (hy σ' ha) hb
 |rem=>
  simp only at h;by_cases hb:b=0;·simp[hb]at h
  ·simp only[hb,decide_false,cond_false]at h;exact bC h fun σ' ha d hd hn=>asA ho hd hn hux huy (hx σ' ha) (hy σ' ha) hb
 |and=>exact bC h fun σ' ha d hd hn=>asB ho hd hn hux huy (hx σ' ha) (hy σ' ha)
 |or=>exact bC h fun σ' ha d hd hn=>auO ho hd hn hux huy (hx σ' ha) (hy σ' ha)
 |xor=>exact bC h fun σ' ha d hd hn=>asC ho hd hn hux huy (hx σ' ha) (hy σ' ha)
 |andNot=>exact bC h fun σ' ha d hd hn=>asD ho hd hn hux huy (hx σ' ha) (hy σ' ha)
 |lss=>
  simp only at h;split at h;·rename_i TB hTB;exact bC h fun σ' ha d hd hn=>asE ho hd hn (dH hTB) hux huy (hx σ' ha) (hy σ' ha)
  ·cases h
 |leq=>
  simp only at h;split at h;·rename_i TB hTB;exact bC h fun σ' ha d hd hn=>asF ho hd hn (dH hTB) hux huy (hx σ' ha) (hy σ' ha)
  ·cases h
 |gtr=>
  simp only at h;split at h;·rename_i TB hTB;exact bC h fun σ' ha d hd hn=>asG ho hd hn (dH hTB) hux huy (hx σ' ha) (hy σ' ha)
  ·cases h
 |geq=>
  simp only at h;split at h;·rename_i TB hTB;exact bC h fun σ' ha d hd hn=>asH ho hd hn (dH hTB) hux huy (hx σ' ha) (hy σ' ha)
  ·cases h
 |eql=>
  simp only at h;split at h;·rename_i TB hTB;exact bC h fun σ' ha d hd hn=>asI ho hd hn (dH hTB) hux huy (hx σ' ha) (hy σ' ha)
  ·cases h
 |neq=>
  simp only at h;split at h;·rename_i TB hTB;exact bC h fun σ' ha d hd hn=>asJ ho hd hn (dH hTB) hux huy (hx σ' ha) (hy σ' ha)
  ·cases h
 |_=>cases h
theorem aw9{op:BinOp}{T T' Tx Ty:TypeId}{a b:ByteArray}(ho:o.op= .binOp op T x y T')(hux:P.underlying Tx=some .string)(huy:P.underlying Ty=some .string)
  (hx:∀σ',Agr o σ σ' []->Ev P σ' x (.dat Tx (.str a)))(hy:∀σ',Agr o σ σ' []->Ev P σ' y (.dat Ty (.str b)))(h:af5 P E n o op Tx a b k=some r):OpS P n o σ k r:=by
 unfold af5 at h;simp only at h;cases op with
 |add=>
  simp only at h;have hh_:=aF h;clear h;obtain⟨hs,h⟩:=hh_;exact bC h fun σ' ha d hd hn=>asN ho hd hn hux huy (hx σ' ha) (hy σ' ha) (by have:=aI hs;unfold maxLen;omega)
 |lss=>
  simp only at h;split at h;·rename_i TB hTB;exact bC h fun σ' ha d hd hn=>asM ho hd hn (dH hTB) hux huy (hx σ' ha) (hy σ' ha)
  ·cases h
 |eql=>
  simp only at h;split at h;·rename_i TB hTB;exact bC h fun σ' ha d hd hn=>asK ho hd hn (dH hTB) hux huy (hx σ' ha) (hy σ' ha)
  ·cases h
 |neq=>
  simp only at h;split at h;·rename_i TB hTB;exact bC h fun σ' ha d hd hn=>asL ho hd hn (dH hTB) hux huy (hx σ' ha) (hy σ' ha)
  ·cases h
 |_=>cases h
theorem atZ{op:BinOp}{T T' Tx Ty:TypeId}{a b:Bool}(ho:o.op= .binOp op T x y T')(hu:P.underlying T=some .bool)(hux:P.underlying Tx=some .bool)(huy:P.underlying Ty=some .bool)
  (hx:∀σ',Agr o σ σ' []->Ev P σ' x (.dat Tx (.bool a)))(hy:∀σ',Agr o σ σ' []->Ev P σ' y (.dat Ty (.bool b)))(h:QG P E n o op a b k=some r):OpS P n o σ k r:=by
 unfold QG at h;simp only at h;cases op with
 |eql=>
  simp only at h;split at h;·rename_i TB hTB;exact bC h fun σ' ha d hd hn=>asO ho hd hn (dH hTB) hu hux huy (hx σ' ha) (hy σ' ha)
  ·cases h
 |neq=>
  simp only at h;split at h;·rename_i TB hTB;exact bC h fun σ' ha d hd hn=>asP ho hd hn (dH hTB) hu hux huy (hx σ' ha) (hy σ' ha)
  ·cases h
 |_=>cases h
theorem axa{op:BinOp}{T T':TypeId}(ho:o.op= .binOp op T x y T')(h:agd P E n o op T (opd P E.dt σ T x) y k=some r):OpS P n o σ k r:=by
 have hx:x∈o.op.operands.toList:=by rw[ho];simp[Op.operands]
 unfold agd at h;split at h
 ·split  at h
  ·rename_i ms hu;split at h
   ·    rename_i e1;split at h
        ·rename_i TB hTB;split at h;·exact bC h fun σ' ha d hd hn=>Yg ho hd hn (dH hTB) hu (bB ha hx e1)
         ·exact bC h fun σ' ha d hd hn=>Yh ho hd hn (dH hTB) hu (bB ha hx e1)
         ·cases h
        ·cases h
   ·cases h
  ·cases h
 ·cases h
theorem ayo{op:BinOp}{T T':TypeId}(ho:o.op= .binOp op T x y T')(h:atT P E n o σ op T x y k=some r):OpS P n o σ k r:=by
 have hx:x∈o.op.operands.toList:=by rw[ho];simp[Op.operands]
 unfold atT at h;split at h
 ·split  at h
  ·rename_i T2 hT2;split at h
   ·    rename_i T1 p e1;have hh_:=aF h;clear h;obtain⟨hc,h⟩:=hh_;rw[beq_eq hc]at e1;split at h
        ·rename_i TB hTB;split at h;·exact bC h fun σ' ha d hd hn=>UG ho hd hn (dH hTB) (mG hT2) (bB ha hx e1) (.inl ⟨rfl,rfl⟩)
         ·exact bC h fun σ' ha d hd hn=>UG ho hd hn (dH hTB) (mG hT2) (bB ha hx e1) (.inr ⟨rfl,rfl⟩)
         ·cases h
        ·cases h
   ·cases h
  ·cases h
 ·cases h
theorem ayp{op:BinOp}{T T':TypeId}(ho:o.op= .binOp op T x y T')(h:atU P E n o σ op T x y T' k=some r):OpS P n o σ k r:=by
 have hx:x∈o.op.operands.toList:=by rw[ho];simp[Op.operands]
 have hy:y∈o.op.operands.toList:=by rw[ho];simp[Op.operands]
 unfold atU at h;split at h
 ·rename_i T2 q e2;split at h
  ·rename_i T1 p e1;cases hc:(agK P T&&(Nat.beq T1 T&&Nat.beq T2 T))with
   |    false=>
        rw[hc]at h;exact ayo ho h
   |true=>
   rw[hc]at h;simp only[cond_true]at h;have u1:=beq_eq (aG (aC hc));have u2:=beq_eq (aC (aC hc));rw[u1]at e1;rw[u2]at e2;split at h
   ·    rename_i TB hTB;split at h;·exact bC h fun σ' ha d hd hn=>ap4 ho hd hn (dH hTB) (aG hc) (bB ha hx e1) (bB ha hy e2) (.inl ⟨rfl,rfl⟩)
        ·exact bC h fun σ' ha d hd hn=>ap4 ho hd hn (dH hTB) (aG hc) (bB ha hx e1) (bB ha hy e2) (.inr ⟨rfl,rfl⟩)
        ·cases h
   ·cases h
  ·cases h
 ·exact axa ho h
theorem axb{op:BinOp}{T T':TypeId}(ho:o.op= .binOp op T x y T')(h:agf P E n o σ op T x y T' k=some r):OpS P n o σ k r:=by
 have hx:x∈o.op.operands.toList:=by rw[ho];simp[Op.operands]
 have hy:y∈o.op.operands.toList:=by rw[ho];simp[Op.operands]
 unfold agf at h;split at h
 ·rename_i Tx q a ha;obtain⟨d1,e1,u1,rfl⟩:=dX ha;split at h
  ·rename_i Ty q' b hb;obtain⟨d2,e2,u2,rfl⟩:=dX hb;split at h
   ·    obtain⟨hq,h⟩:=aF h;exact bC h fun σ' ag d hd hn=>aoP ho hd hn u1 u2 ((bB ag hx e1).cint u1) ((bB ag hy e2).cint u2) (of_decide_eq_true hq) (.inl ⟨rfl,rfl⟩)
   ·    obtain⟨hq,h⟩:=aF h;exact bC h fun σ' ag d hd hn=>aoP ho hd hn u1 u2 ((bB ag hx e1).cint u1) ((bB ag hy e2).cint u2) (of_decide_eq_true hq) (.inr ⟨rfl,rfl⟩)
   ·    have hh_:=aF h;clear h;obtain⟨hq,h⟩:=hh_;have hq':q=q':=by simpa using hq
        subst hq';exact aw8 ho u1 u2 (fun σ' ag=>(bB ag hx e1).cint u1) (fun σ' ag=>(bB ag hy e2).cint u2) h
  ·cases h
 ·split  at h
  ·rename_i Tx a ha;obtain⟨d1,e1,u1,rfl⟩:=dY ha;split at h
   ·    rename_i Ty b hb;obtain⟨d2,e2,u2,rfl⟩:=dY hb;exact aw9 ho u1 u2 (fun σ' ag=>(bB ag hx e1).cstr u1) (fun σ' ag=>(bB ag hy e2).cstr u2) h
   ·cases h
  ·split at h
   ·    rename_i a ha;obtain⟨Tx,d1,e1,u1,rfl⟩:=iB ha;split at h
        ·rename_i b hb;obtain⟨Ty,d2,e2,u2,rfl⟩:=iB hb;have hh_:=aF h;clear h;obtain⟨hq,h⟩:=hh_;exact atZ ho (Mj hq) u1 u2 (fun σ' ag=>(bB ag hx e1).cbool u1) (fun σ' ag=>(bB ag hy e2).cbool u2) h
        ·cases h
   ·exact ayp ho h
theorem axc{T0:TypeId}(ho:o.op= .unOp .not T0 x)(h:agh P E n o σ x k=some r):OpS P n o σ k r:=by
 have hx:x∈o.op.operands.toList:=by rw[ho];simp[Op.operands]
 unfold agh at h;split at h
 ·rename_i b hb;obtain⟨Tx,d1,e1,u1,rfl⟩:=iB hb;split at h
  ·rename_i TB hTB;refine bC h fun σ' ha d hd hn=>?_;have key:=asv ho hd hn u1 ((bB ha hx e1).cbool u1);exact key.weak fun ok w β z hz=>by have:=(RV.bool u1 hz).2;rw[this];exact RV.mk_bool (dH hTB)
  ·cases h
 ·cases h
theorem axd(ho:o.op= .unOp .neg T x)(h:agi P E n o σ T x k=some r):OpS P n o σ k r:=by
 have hx:x∈o.op.operands.toList:=by rw[ho];simp[Op.operands]
 unfold agi at h;split at h
 ·rename_i Tx q a ha;obtain⟨d1,e1,u1,rfl⟩:=dX ha;exact bC h fun σ' ha d hd hn=>asQ ho hd hn u1 ((bB ha hx e1).cint u1)
 ·cases h
theorem ana(ho:o.op= .unOp .xor T x)(h:IW P E n o σ T x k=some r):OpS P n o σ k r:=by
 have hx:x∈o.op.operands.toList:=by rw[ho];simp[Op.operands]
 unfold IW at h;split at h
 ·rename_i Tx q a ha;obtain⟨d1,e1,u1,rfl⟩:=dX ha;exact bC h fun σ' ha d hd hn=>abP ho hd hn u1 ((bB ha hx e1).cint u1)
 ·cases h
theorem X3{S1 S2:TypeId}(ho:o.op= .convert S1 S2 x)(h:vP P E n o σ S1 S2 x k=some r):OpS P n o σ k r:=by
 have hx:x∈o.op.operands.toList:=by rw[ho];simp[Op.operands]
 unfold vP at h;split at h
 ·rename_i Tx q a ha;obtain⟨d1,e1,u1,rfl⟩:=dX ha;split at h
  ·rename_i q2 hu2;have hh_:=aF h;clear h;obtain⟨hq,h⟩:=hh_;exact bC h fun σ' ha d hd hn=>Km ho hd hn (fK hq) hu2 u1 ((bB ha hx e1).cint u1)
  ·cases h
 ·split at h
  ·rename_i Tx a ha;obtain⟨d1,e1,u1,rfl⟩:=dY ha;have hh_:=aF h;clear h;obtain⟨hq,h⟩:=hh_;exact bC h fun σ' ha d hd hn=>Kn ho hd hn (gP (aG hq)) (gP (aC hq)) u1 ((bB ha hx e1).cstr u1)
  ·cases h
theorem at0(ho:o.op= .makeSlice T x y)(h:QL P E n o σ T x y k=some r):OpS P n o σ k r:=by
 unfold QL at h;split at h
 ·rename_i Te hTe;split at h
  ·rename_i z hz;split at h
   ·    rename_i a ha;split at h
        ·rename_i b hb;have hh_:=aF h;clear h;obtain⟨hc,h⟩:=hh_;have hh_:=dw h;clear h;obtain⟨hk0,h⟩:=hh_;obtain⟨es,p1,p2,p3,p4,p5,h⟩:=abU h;subst p4;refine Ux h fun σ' ag d hd hn=>?_;have e1:Kz P σ' (some x) a:=gK (E:=E) (by rw[dP ag.ts (by intro z hz;cases hz;rw[ho];simp[Op.operands])];exact ha);have e2:Kz P σ' (some y) b:=gK (E:=E) (by rw[dP ag.ts (by intro z hz;cases hz;rw[ho];simp[Op.operands])];exact hb);obtain⟨TI,k1,u1,v1⟩:=e1;obtain⟨TJ,k2,u2,v2⟩:=e2;exact amz ho hd hn (bE hTe) (by rw[ag.hs _ (by simp)];exact cZ σ) (by rw[ag.k0];exact hk0) (dO hz) (kL hc) p5 u1 u2 v1 v2 p1 p2 p3
        ·cases h
   ·cases h
  ·cases h
 ·cases h
theorem CG{σ':St}{hs:List Ob}{k0:Nat}{rd:List Nat}(ha:Agr o σ σ' rd){D:List TypeId}(hx:x∈o.op.operands.toList):Ev P (St.mk σ'.ts hs k0) x (opd P D σ T x):=by
 have e3:opd P D (St.mk σ'.ts hs k0) T x=opd P D σ T x:=by rw[←iy ha.ts hx];cases x<;>rfl
 rw[←e3];exact gY
theorem Agr.frz{σ':St}{ls:List Nat}{rd:List Nat}(ha:Agr o σ σ' rd)(h:∀l∈ls,l∈rd):frzW σ'.hs ls=frzW σ.hs ls:=dQ fun l hl=>ha.hs l (h l hl)
theorem DZ{d l:Nat}{T3 Te:TypeId}{lo hi:Option Operand}{i j:Int}{es:List Dt}(ho:o.op= .slice T x lo hi none)(hd:o.dst=some d)(hn:d<n)(hu:P.underlying T=some (.slice Te))(h0c:P.cellsOf Te≠0)
  (hx:Ev P σ x (.row l))(hl:lk σ.hs l= .row T3 es)(hlo:Kz P σ lo i)(hhi:WG P σ es.length hi j)(h0:0<=i)(hij:i<=j)(hj:j<=es.length):bD P n o σ (σ.put d .dead):=
 bf hd hn fun ok0 w0 a w β r=>by
  have e1:=bZ (hx _ _ _ _ _ _ r);have hob:=r.hs l;rw[hl,e1]at hob;obtain⟨E',xs,_,hown,_⟩:=iF hob;have hz:∃ao cap,a.eval x= .slice ao es.length cap∧es.length<=cap:=by
   rcases hown.2 with⟨h1,h2⟩| ⟨g,cap,cur,h1,_,_,h3,h4,_⟩;·exact⟨none,0,by rw[h1,h2],by rw[h2];exact aN _⟩
   ·exact⟨_,cap,h1,by omega⟩
  obtain⟨ao,cap,ex,hlc⟩:=hz;have hb:=iH (cap:=cap) r true hlo hhi h0 hij hj hlc;cases hinf:P.info? Te with
  |none=>simp[Program.cellsOf,hinf]at h0c
  |some inf=>
   have hs:inf.size=P.cellsOf Te:=by simp[Program.cellsOf,hinf]
   exact⟨.slice (if cap=i.toNat then ao else ao.map (·.add (i.toNat*P.cellsOf Te))) (j.toNat-i.toNat) (cap-i.toNat),by simp[execOp,ho,ex,Instr.sliceAt,Instr.slice,run_underlying hu,hb,sizeOf,typeInfo,hinf,hs],trivial⟩
theorem agB{lo hi:Option Operand}(ho:o.op= .slice T x lo hi none)(h:Cq P E n o σ T x lo hi k=some r):OpS P n o σ k r:=by
 have hx:x∈o.op.operands.toList:=by rw[ho];simp[Op.operands]
 have hlo:∀z,lo=some z->z∈o.op.operands.toList:=by intro z hz;rw[ho,hz];simp[Op.operands]
 have hhi:∀z,hi=some z->z∈o.op.operands.toList:=by intro z hz;rw[ho,hz];simp[Op.operands]
 unfold Cq at h;split at h
 ·rename_i l e1;split at h
  ·rename_i T3 es hl;split at h
   ·    rename_i a ha;split at h
        ·rename_i b hb;split at h
         ·rename_i Te hTe;have hh_:=aF h;clear h;obtain⟨hc,h⟩:=hh_;have hh_:=aj.1 h;clear h;obtain⟨rs,hrs,h⟩:=hh_;obtain⟨p1,p2,p3,p4⟩:=mY hrs;obtain⟨d,hd,hn,hk⟩:=dD h;refine⟨_,hk,fun σ' ag=>?_⟩;have key:=DZ (σ:=σ') ho hd hn (bE hTe) (kL hc) (bB ag hx e1) (by rw[ag.hs l (by simp)];exact hl) (gK (E:=E) (by rw[dP ag.ts hlo];exact ha)) (xR (E:=E) (by rw[dP ag.ts hhi];exact hb)) p1 p2 p3;rw[hd];exact key
         ·cases h
        ·cases h
   ·cases h
  ·cases h
 ·cases h
theorem at1{d l l':Nat}{T3 Te:TypeId}{hi:Option Operand}{j:Int}{es:List Dt}(ho:o.op= .slice T x none hi none)(hd:o.dst=some d)(hn:d<n)(hu:P.underlying T=some (.slice Te))(hu3:P.underlying T3=some (.slice Te))(h0c:P.cellsOf Te≠0)
  (hx:Ev P σ x (.row l))(hl:lk σ.hs l= .row T3 es)(hf:lk σ.hs l'= .free)(hk0:σ.k0<=l')(hhi:WG P σ es.length hi j)(h0:0<=j)(hj:j<=es.length):bD P n o σ (((σ.lay l .gone).lay l' (.row T3 (es.take j.toNat))).put d (.row l')):=by
 rintro ok0 w0 a w ⟨β,r⟩ K Q hK;have e1:=bZ (hx _ _ _ _ _ _ r);have hob:=r.hs l;rw[hl,e1]at hob;obtain⟨E',xs,hu',hown,hone,hrd⟩:=iF hob;obtain rfl:Te=E':=by rw[hu3]at hu';cases hu';rfl
 have hz:∃ao cap,a.eval x= .slice ao es.length cap∧es.length<=cap∧w.ownsRow 0 Te (P.cellsOf Te) (.slice ao j.toNat cap) j.toNat (xs.take (j.toNat*P.cellsOf Te)):=by
  have hlen:=hown.1;have hmul:j.toNat*P.cellsOf Te<=es.length*P.cellsOf Te:=aH _ (by omega);rcases hown.2 with⟨h1,h2⟩| ⟨g,cap,cur,h1,g2,hh,h3,h4,g5,g6⟩;·exact⟨none,0,by rw[h1,h2],by rw[h2];exact aN _,by rw[List.length_take];omega,.inl ⟨by rw[show j.toNat=0 by omega],by omega⟩⟩
  ·refine⟨_,cap,h1,h3,by rw[List.length_take];omega,.inr ⟨g,cap,cur,rfl,g2,hh,by omega,h4,g5,?_⟩⟩;rw[←g6,List.take_take,Nat.min_eq_left hmul]
 obtain⟨ao,cap,ex,hlc,hown'⟩:=hz;have hb:=iH (cap:=cap) r true (lo:=none) (i:=0) rfl hhi (by omega) h0 hj hlc;obtain⟨inf,hinf⟩:∃inf,P.info? Te=some inf:=by
  cases hinf:P.info? Te with
  |none=>simp[Program.cellsOf,hinf]at h0c
  |some inf=>exact⟨inf,rfl⟩
 have hs:inf.size=P.cellsOf Te:=by simp[Program.cellsOf,hinf]
 have hrun:(execOp a.eval o).run P w= .ok (.value (.slice ao j.toNat cap)) w:=by
  have hadd:(ao.map fun q=>q.add 0)=ao:=by cases ao<;>simp[Addr.add]
  simp only[Option.map_none,Int.toNat_zero]at hb;simp[execOp,ho,ex,Instr.sliceAt,Instr.slice,run_underlying hu,hb,sizeOf,typeInfo,hinf,hs,hadd]
 unfold Oper.wp;rw[hrun];refine hK _ _ ?_;rw[hd];have hlown:∀b,Blk (a.eval x) b->owns σ.hs β l b:=fun b hb=>⟨by rw[hl];rfl,_,e1,hb⟩;have hnew:=r.take l l' (.row T3 (es.take j.toNat)) (.slice ao j.toNat cap) w (by rw[hl];simp) hf hk0 rfl rfl rfl (aL _)
  (fun b hb hne=>rfl)
  (fun b hb=> .inr (hlown b (by
   rw[ex];rcases hb with hb| ⟨_,e,_⟩;·exact .inl (by cases ao<;>exact hb)
   ·cases e)))
  (fun hex hk=>by
   refine⟨Te,_,_,rfl,hu3,(by rw[List.length_take,Nat.min_eq_left (by omega)];exact hown'),fun u hu2=>hone u (List.mem_of_mem_take hu2),fun i' d' hd'=>?_⟩;rw[List.getElem?_take]at hd';split at hd'
   ·    rename_i hlt;have hmul:(i'+1)*P.cellsOf Te<=j.toNat*P.cellsOf Te:=aH _ hlt;rw[Nat.add_mul,Nat.one_mul]at hmul;have e:((xs.take (j.toNat*P.cellsOf Te)).drop (i'*P.cellsOf Te)).take (P.cellsOf Te)=(xs.drop (i'*P.cellsOf Te)).take (P.cellsOf Te):=by
         apply List.ext_getElem?;intro k;rw[cO,cO];split;·rw[List.getElem?_take,if_pos (by omega)]
         ·rfl
        rw[e];exact(hrd i' d' hd').mono hk
   ·cases hd')
 exact Rel.put hnew hn (lH (bJ _ _ _) rfl)
theorem agC{lo hi:Option Operand}(ho:o.op= .slice T x lo hi none)(h:Cr P E n o σ T x lo hi k=some r):OpS P n o σ k r:=by
 have hx:x∈o.op.operands.toList:=by rw[ho];simp[Op.operands]
 have hhi:∀z,hi=some z->z∈o.op.operands.toList:=by intro z hz;rw[ho,hz];simp[Op.operands]
 unfold Cr at h;split at h
 ·rename_i l e1;split at h
  ·rename_i T5 es hl;split at h
   ·    rename_i b hb;split at h
        ·rename_i Te hTe;have hh_:=aF h;clear h;obtain⟨hc,h⟩:=hh_;have hh_:=dw h;clear h;obtain⟨hk0,h⟩:=hh_;have hh_:=aj.1 h;clear h;obtain⟨rs,hrs,h⟩:=hh_;obtain⟨p1,p2,p3,p4⟩:=mY hrs;obtain⟨u2,h0c⟩:=bR hc;subst p4;obtain⟨d,hd,hn,hk⟩:=dD h;refine⟨_,hk,fun σ' ag=>?_⟩;have key:=at1 (σ:=σ') (l':=σ.hs.length) ho hd hn (bE hTe) u2 h0c (bB ag hx e1) (by rw[ag.hs l (by simp)];exact hl) (by rw[ag.hs _ (by simp)];exact cZ σ) (by rw[ag.k0];exact hk0) (xR (E:=E) (by rw[dP ag.ts hhi];exact hb)) p2 p3;rw[hd];simp only[Int.toNat_zero,aK,Nat.sub_zero];exact key
        ·cases h
   ·cases h
  ·cases h
 ·cases h
theorem anb{lo:Operand}{hi:Option Operand}(ho:o.op= .slice T x (some lo) hi none)(h:QM P E n o σ T x lo hi k=some r):OpS P n o σ k r:=by
 have hx:x∈o.op.operands.toList:=by rw[ho];simp[Op.operands]
 have hlo:∀z,some lo=some z->z∈o.op.operands.toList:=by intro z hz;cases hz;rw[ho];simp[Op.operands]
 unfold QM at h;split at h
 ·rename_i l e1;split at h
  ·rename_i T5 es hl;split at h
   ·    rename_i a ha;split at h
        ·rename_i Te hTe;have hh_:=aF h;clear h;obtain⟨hc,h⟩:=hh_;have hh_:=aj.1 h;clear h;obtain⟨rs,hrs,h⟩:=hh_;obtain⟨p1,p2,p3,p4⟩:=mY hrs;exact bC h fun σ' ag d hd hn=>anr ho hd hn (bE hTe) (kL hc) (bB ag hx e1) (by rw[ag.hs l (by simp)];exact hl) (gK (E:=E) (by rw[dP ag.ts hlo];exact ha)) p1 p2
        ·cases h
   ·cases h
  ·cases h
 ·cases h
theorem anc{lo hi:Option Operand}(ho:o.op= .slice T x lo hi none)(h:IX P E n o σ T x lo hi k=some r):OpS P n o σ k r:=by
 have hx:x∈o.op.operands.toList:=by rw[ho];simp[Op.operands]
 have hlo:∀z,lo=some z->z∈o.op.operands.toList:=by intro z hz;rw[ho,hz];simp[Op.operands]
 have hhi:∀z,hi=some z->z∈o.op.operands.toList:=by intro z hz;rw[ho,hz];simp[Op.operands]
 unfold IX at h;cases hsl:E.sld o with
 |true=>
  rw[hsl,cond_true]at h;exact agB ho h
 |false=>
 rw[hsl,cond_false]at h;cases hct:E.cut o with
 |true=>
  rw[hct,cond_true]at h;unfold Gc at h;split at h;·exact agC ho h
  ·exact anb ho h
 |false=>
 rw[hct,cond_false]at h;split at h
 ·rename_i Tx s hs;obtain⟨d1,e1,u1,rfl⟩:=dY hs;split at h
  ·rename_i a ha;split at h
   ·    rename_i b hb;have hh_:=aF h;clear h;obtain⟨hc,h⟩:=hh_;have hh_:=aj.1 h;clear h;obtain⟨rs,hrs,h⟩:=hh_;obtain⟨p1,p2,p3,p4⟩:=WE hrs;subst p4;exact bC h fun σ' ag d hd hn=>Il ho hd hn (gP hc) u1 ((bB ag hx e1).cstr u1) (gK (E:=E) (by rw[dP ag.ts hlo];exact ha)) (xR (E:=E) (by rw[dP ag.ts hhi];exact hb)) p1 p2 p3
   ·cases h
  ·cases h
 ·split  at h
  ·rename_i Tx Te es hl;obtain⟨d1,hp,u1,rfl⟩:=ny hl;split at h
   ·    rename_i a ha;split at h
        ·rename_i b hb;have hh_:=aF h;clear h;obtain⟨hc,h⟩:=hh_;have hh_:=aj.1 h;clear h;obtain⟨rs,hrs,h⟩:=hh_;obtain⟨p1,p2,p3,p4⟩:=mY hrs;subst p4;obtain⟨d,hd,hn,hk⟩:=dD h;refine⟨_,hk,fun σ' ag=>?_⟩;have hfw:=ag.frz (ls:=(opd P E.dt σ T x).rws) fun l hl=>hl;obtain⟨u2,h0c⟩:=bR hc;have hpk:pk P (wrO σ'.hs (frzW σ'.hs (opd P E.dt σ T x).rws)) (opd P E.dt σ T x)=some (Tx,d1):=by rw[←hp,hfw];exact jM _ fun l hl=>fu (fun l hl=>ag.hs l hl) l hl
         have hev:Ev P (St.mk σ'.ts (wrO σ'.hs (frzW σ'.hs (opd P E.dt σ T x).rws)) σ'.k0) x (.dat Tx d1):=Ev.pk (CG ag hx) hpk;have hlo':gX P E (St.mk σ'.ts (wrO σ'.hs (frzW σ'.hs (opd P E.dt σ T x).rws)) σ'.k0) 0 lo=some a:=by rw[←ha];exact dP (fun t ht=>ag.ts t ht) hlo
         have hhi':gX P E (St.mk σ'.ts (wrO σ'.hs (frzW σ'.hs (opd P E.dt σ T x).rws)) σ'.k0) (d1.toLst.length:Nat) hi=some b:=by rw[←hb];exact dP (fun t ht=>ag.ts t ht) hhi
         have key:=(Im ho hd hn u2 u1 h0c (hev.clst u1) (gK hlo') (xR hhi') p1 p2 p3).pre (Imp.frzW (σ:=σ') (opd P E.dt σ T x).rws);rw[hd];rw[hfw]at key;exact key
        ·cases h
   ·cases h
  ·cases h
theorem Mq{S:TypeId}{i:Nat}(ho:o.op= .fieldAddr S x i)(h:mg P E n o σ S x i k=some r):OpS P n o σ k r:=by
 have hx:x∈o.op.operands.toList:=by rw[ho];simp[Op.operands]
 unfold mg at h;split at h
 ·rename_i fs hfs;split at h
  ·rename_i f hf;have hh_:=aF h;clear h;obtain⟨hc,h⟩:=hh_;split at h
   ·    rename_i l p q e1;exact bC h fun σ' ha d hd hn=>uP ho hd hn (fJ hfs) hf (kL hc) (bB ha hx e1)
   ·    rename_i l j z p q e1;exact bC h fun σ' ha d hd hn=>rU ho hd hn (fJ hfs) hf (kL hc) (bB ha hx e1)
   ·    rename_i S' d0 e1;have hh_:=aF h;clear h;obtain⟨hc2,h⟩:=hh_;have e:=beq_eq (aG hc2);subst e;exact bC h fun σ' ha d hd hn=>iZ ho hd hn (fJ hfs) hf (kL hc) (aI (aC hc2)) (bB ha hx e1)
   ·    rename_i T2 d0 e1;split at h
        ·rename_i S' hS';have hh_:=aj.1 h;clear h;obtain⟨e0,he0,h⟩:=hh_;have hh_:=aF h;clear h;obtain⟨hc2,h⟩:=hh_;have e:=beq_eq (aG hc2);subst e;exact bC h fun σ' ha d hd hn=>iZ ho hd hn (fJ hfs) hf (kL hc) (aI (aC hc2)) ((bB ha hx e1).pd (mG hS') he0)
        ·cases h
   ·cases h
  ·cases h
 ·cases h
theorem ane{S:TypeId}{i:Nat}(ho:o.op= .field S x i)(h:IY P E n o σ S x i k=some r):OpS P n o σ k r:=by
 have hx:x∈o.op.operands.toList:=by rw[ho];simp[Op.operands]
 unfold IY at h;split at h
 ·rename_i fs hfs;split at h
  ·rename_i f hf;split at h
   ·    rename_i S' d0 hp;have hh_:=aF h;clear h;obtain⟨hc,h⟩:=hh_;have e:=beq_eq (aG hc);subst e;obtain⟨q1,q2,⟨D,hD⟩,q4,q5⟩:=dK (aC (aC hc));exact bC h fun σ' ha d hd hn=>(abW ho hd hn (fJ hfs) hf hD (fun hf2=>q4 hf2) (aI (aG (aC hc))) (Ev.pk (fZ ha hx) (Cy _ hp))).can
   ·cases h
  ·cases h
 ·cases h
theorem Mr(ho:o.op= .indexAddr T x y)(h:mh P E n o σ T x y k=some r):OpS P n o σ k r:=by
 have hx:x∈o.op.operands.toList:=by rw[ho];simp[Op.operands]
 have hy:∀z,some y=some z->z∈o.op.operands.toList:=by intro z hz;cases hz;rw[ho];simp[Op.operands]
 unfold mh at h;split at h
 ·rename_i i hi;have hidx:∀σ' rd,Agr o σ σ' rd->∃TI k,P.underlying TI=some (.int k)∧Ev P σ' y (.dat TI (.int i)):=fun σ' rd ag=>gK (lo:=some y) (E:=E) (by rw[dP ag.ts hy];exact hi);split at h
  ·rename_i l e1;split at h
   ·    rename_i T5 es hl;split at h
        ·rename_i Te hTe;have hh_:=aF h;clear h;obtain⟨hc,h⟩:=hh_;have hh_:=aj.1 h;clear h;obtain⟨u,hu,h⟩:=hh_;obtain⟨p1,p2⟩:=Bt hu;obtain⟨u2,h0c⟩:=bR hc;refine bC h fun σ' ag d hd hn=>?_;obtain⟨TI,k1,v1,v2⟩:=hidx σ' _ ag;exact Ig ho hd hn u2 h0c v1 (bB ag hx e1) v2 (by rw[ag.hs l (by simp)];exact hl) (bE hTe) p1 p2
        ·cases h
   ·    rename_i T5 vs hl;split at h
        ·rename_i Te hTe;have hh_:=aF h;clear h;obtain⟨hc,h⟩:=hh_;obtain⟨u2,h0c⟩:=bR (aG hc);refine bC h fun σ' ag d hd hn=>?_;obtain⟨TI,k1,v1,v2⟩:=hidx σ' _ ag;exact D7 ho hd hn u2 h0c v1 (bB ag hx e1) v2 (by rw[ag.hs l (by simp)];exact hl) (by simpa using aG (aC hc)) (by simpa using aC (aC hc))
        ·cases h
   ·    rename_i T5 T2 c kk es hh hl;split at h
        ·rename_i Te hTe;have hh_:=aF h;clear h;obtain⟨hc,h⟩:=hh_;have hh_:=aj.1 h;clear h;obtain⟨u,hu,h⟩:=hh_;obtain⟨p1,p2⟩:=Bt hu;obtain⟨u2,h0c⟩:=bR hc;refine bC h fun σ' ag d hd hn=>?_;obtain⟨TI,k1,v1,v2⟩:=hidx σ' _ ag;exact D9 ho hd hn u2 h0c v1 (bB ag hx e1) v2 (by rw[ag.hs l (by simp)];exact hl) (bE hTe) p1 p2
        ·cases h
   ·    rename_i T5 es hl;split at h
        ·rename_i Te hTe;have hh_:=aF h;clear h;obtain⟨hc,h⟩:=hh_;have hh_:=aj.1 h;clear h;obtain⟨e0,he0,h⟩:=hh_;obtain⟨p1,p2⟩:=rZ he0;obtain⟨u2,h0c⟩:=bR hc;refine bC h fun σ' ag d hd hn=>?_;obtain⟨TI,k1,v1,v2⟩:=hidx σ' _ ag;exact rX ho hd hn u2 (bE hTe) h0c v1 ((bB ag hx e1).frz (by rw[ag.hs l (by simp)];exact hl)) v2 p1 p2
        ·cases h
   ·cases h
  ·rename_i l e1;split at h
   ·    rename_i S c hl;split at h
        ·rename_i Te d0 hb;obtain⟨len,hu,rfl,hm,h0⟩:=CB hb;have hh_:=aF h;clear h;obtain⟨hc,h⟩:=hh_;have e:=beq_eq hc;subst e;have hh_:=aj.1 h;clear h;obtain⟨u,hu2,h⟩:=hh_;obtain⟨p1,p2⟩:=Bt hu2;refine bC h fun σ' ag d hd hn=>?_;obtain⟨TI,k1,v1,v2⟩:=hidx σ' _ ag;exact Ih ho hd hn hu h0 v1 (bB ag hx e1) v2 (by rw[ag.hs l (by simp)];exact hl) p1 p2
        ·cases h
   ·cases h
  ·rename_i v0 hne;split at h
   ·    rename_i Tx Te es hl;obtain⟨d1,hp,u1,rfl⟩:=ny hl;have hh_:=aF h;clear h;obtain⟨hc,h⟩:=hh_;have hh_:=aj.1 h;clear h;obtain⟨e0,he0,h⟩:=hh_;obtain⟨p1,p2⟩:=rZ he0;obtain⟨u2,h0c⟩:=bR hc;refine bC h fun σ' ag d hd hn=>?_;obtain⟨TI,k1,v1,v2⟩:=hidx σ' _ ag;exact rX ho hd hn u2 u1 h0c v1 ((Ev.pk (fZ ag hx) (Cy _ hp)).clst u1) v2 p1 p2
   ·cases h
 ·cases h
theorem anf(ho:o.op= .index T x y)(h:IZ P E n o σ T x y k=some r):OpS P n o σ k r:=by
 have hx:x∈o.op.operands.toList:=by rw[ho];simp[Op.operands]
 have hy:∀z,some y=some z->z∈o.op.operands.toList:=by intro z hz;cases hz;rw[ho];simp[Op.operands]
 unfold IZ at h;split at h
 ·rename_i Tx s hs;obtain⟨d1,e1,u1,rfl⟩:=dY hs;split at h
  ·rename_i i hi;have hh_:=aF h;clear h;obtain⟨hc,h⟩:=hh_;have hh_:=aj.1 h;clear h;obtain⟨c,hc2,h⟩:=hh_;obtain⟨p1,u,p2,rfl⟩:=WC hc2;refine bC h fun σ' ag d hd hn=>?_;obtain⟨TI,k1,v1,v2⟩:=gK (lo:=some y) (E:=E) (σ:=σ') (i:=i) (by rw[dP ag.ts hy];exact hi);exact Ic ho hd hn v1 (fK (aC hc)) (gP (aG hc)) u1 ((bB ag hx e1).cstr u1) v2 p1 p2
  ·cases h
 ·split  at h
  ·rename_i T' e he;split at h
   ·    rename_i len Te hu;split at h
        ·rename_i i hi;have hh_:=aF h;clear h;obtain⟨hc,h⟩:=hh_;have hh_:=aj.1 h;clear h;obtain⟨q,hq,h⟩:=hh_;obtain⟨p1,p2⟩:=rZ hq;have eT:=beq_eq (aG hc);subst eT;obtain⟨_,_,⟨D,hD⟩,h1,_⟩:=dK (aC (aC hc));refine bC h fun σ' ag d hd hn=>?_;obtain⟨TI,k1,v1,v2⟩:=gK (lo:=some y) (E:=E) (σ:=σ') (i:=i) (by rw[dP ag.ts hy];exact hi);exact(Ky ho hd hn hu hD h1 (beq_eq (aG (aC hc))) v1 (bB ag hx he) v2 p1 p2).can
        ·cases h
   ·cases h
  ·cases h
theorem X4{i:Nat}(ho:o.op= .extract x i)(h:vS P E n o σ x i k=some r):OpS P n o σ k r:=by
 have hx:x∈o.op.operands.toList:=by rw[ho];simp[Op.operands]
 unfold vS at h;split at h
 ·rename_i vs e1;split at h;·cases h
  ·rename_i v0 hne hv;exact bC h fun σ' ha d hd hn=>Qj ho hd hn (bB ha hx e1) hv fun us e=>hne us e
  ·cases h
 ·cases h
theorem rA:∀{vs:List AV},Ma P vs=true->∀v∈vs,v.isAgg P=false∧v≠ .dead∧∀us,v≠ .tup us
 | [],_,v,hv=>by simp at hv
 |u::r,h,v,hv=>by
  unfold Ma at h;rcases List.mem_cons.1 hv with e|hv
  ·subst e;have h1:=aG h;split at h1;·cases h1
   ·cases h1
   ·    rename_i h3 h4;exact⟨by simpa using h1,fun e=>h4 e,fun us e=>h3 us e⟩
  ·exact rA (aC h) v hv
theorem agD{D:List TypeId}:∀{xs:List Operand},EvXs P σ xs (xs.map (opd P D σ T))
 | []=> .nil
 |x::xs=> .cons gY agD
theorem Mt{d:Nat}{f:FuncId}{first:Array Operand}{xs:List Operand}{caps:List AV}(ho:o.op= .makeFunc (.func f) first xs.toArray)(hf:first.size=0)(hd:o.dst=some d)(hn:d<n)(ha:EvXs P σ xs caps)(hc:∀v∈caps,v.isAgg P=false∧v≠ .dead∧∀us,v≠ .tup us):bD P n o σ (σ.put d (.fn f caps)):=
 bf hd hn fun ok0 w0 a w β r=>by
  have hfe:first= #[]:=Array.eq_empty_of_size_eq_zero hf
  subst hfe;have h:=ha.rvs r;refine⟨.func (.func f) #[] (xs.map a.eval).toArray,by simp[execOp,ho,Instr.makeFunc,List.map_toArray],⟨fun hi=>by simp[AV.isAgg]at hi,fun _=> .fn (by simpa using h.len) fun i av hv=>?_⟩⟩;obtain⟨z,h1,h2⟩:=h.get i av hv;have hm:=hc av (aM hv);have e:(xs.map a.eval).toArray.getD i undef=z:=by simp only[Array.getD_eq_getD_getElem?,List.getElem?_toArray,h1,Option.getD_some]
  rw[e];exact(RV.to1 hm.2.1 hm.2.2 h2).2 hm.1
theorem QY{f:FuncId}{first caps:Array Operand}(ho:o.op= .makeFunc (.func f) first caps)(h:rz P E n o σ f first.size caps.toList k=some r):OpS P n o σ k r:=by
 unfold rz at h;have hh_:=aF h;clear h;obtain⟨hc,h⟩:=hh_;refine bC h fun σ' ag d hd hn=>Mt (xs:=caps.toList) (by rw[ho]) (beq_eq (aG hc)) hd hn ?_ (rA (aC hc));have e:caps.toList.map (opd P E.dt σ' 0)=caps.toList.map (opd P E.dt σ 0):=by refine List.map_congr_left fun z hz=>iy ag.ts ?_;rw[ho];simp[Op.operands,hz]
 rw[←e];exact agD
theorem QZ{d:Nat}{name:String}{T:TypeId}{v:AV}{x:Operand}(ho:o.op= .makeFunc (.method name) #[x] #[])(hd:o.dst=some d)(hn:d<n)(hx:Ev P σ x (.ifc T v)):bD P n o σ (σ.put d (.mth T name)):=
 bf hd hn fun ok0 w0 a w β r=>by
  have h:=(hx _ _ _ _ _ _ r).2 rfl;generalize hz:a.eval x=z at h;obtain⟨z',rfl⟩:∃z',z= .iface T z':=by
   cases h with
   |ifc1 _ _=>exact⟨_,rfl⟩
   |ifcA _ _=>exact⟨_,rfl⟩
  exact⟨.func (.method name) #[.iface T z'] #[],by simp[execOp,ho,Instr.makeFunc,hz],⟨fun hi=>by simp[AV.isAgg]at hi,fun _=> .mth⟩⟩
theorem X5{name:String}{first caps:Array Operand}(ho:o.op= .makeFunc (.method name) first caps)(h:vO P E n o σ name first.toList caps.size k=some r):OpS P n o σ k r:=by
 unfold vO at h;split at h
 ·rename_i x hf;split at h
  ·rename_i T v e1;obtain⟨hc,h⟩:=aF h;have ec:caps= #[]:=Array.eq_empty_of_size_eq_zero (beq_eq hc);have ef:first= #[x]:=by apply Array.ext';simpa using hf
   subst ec ef;have hx:x∈o.op.operands.toList:=by rw[ho];simp[Op.operands]
   exact bC h fun σ' ag d hd hn=>QZ ho hd hn (bB ag hx e1)
  ·cases h
 ·cases h
theorem axe{xs:Array Operand}{Ts:Array TypeId}(ho:o.op= .call ⟨.builtin .len,xs,Ts⟩)(hxs:xs.toList=[x])(hTs:Ts.toList=[T])(h:agm P E n o σ T x k=some r):OpS P n o σ k r:=by
 have hxs':xs= #[x]:=by apply Array.ext';simpa using hxs
 have hTs':Ts= #[T]:=by apply Array.ext';simpa using hTs
 subst hxs' hTs';have hx:x∈o.op.operands.toList:=by rw[ho];simp[Op.operands,Call.operands]
 unfold agm at h;have hh_:=aF h;clear h;obtain⟨hI,h⟩:=hh_;split at h
 ·rename_i Tx s hs;obtain⟨d1,e1,u1,rfl⟩:=dY hs;have hh_:=aF h;clear h;obtain⟨hc,h⟩:=hh_;exact bC h fun σ' ag d hd hn=>Qh ho hd hn (fK hI) (gP hc) u1 ((bB ag hx e1).cstr u1)
 ·split  at h
  ·rename_i Te hTe;split at h
   ·    rename_i l e1;split at h
        ·rename_i T5 es hl;exact bC h fun σ' ag d hd hn=>Qi ho hd hn (fK hI) (bE hTe) (bB ag hx e1) (by rw[ag.hs l (by simp)];exact hl)
        ·rename_i T5 vs hl;exact bC h fun σ' ag d hd hn=>MJ (E:=0) ho hd hn (fK hI) (bE hTe) (bB ag hx e1) (by rw[ag.hs l (by simp)];exact hl)
        ·rename_i T5 T2 c kk es hh hl;split at h
         ·rename_i Te5 hTe5;exact bC h fun σ' ag d hd hn=>MP (E:=Te5) ho hd hn (fK hI) (bE hTe) (bB ag hx e1) (by rw[ag.hs l (by simp)];exact hl) (bE hTe5)
         ·cases h
        ·rename_i T5 es hl;have hh_:=aF h;clear h;obtain⟨hsl,h⟩:=hh_;obtain⟨E5,hE5⟩:=Option.isSome_iff_exists.1 hsl;refine bC h fun σ' ag d hd hn=>?_;have hl':lk σ'.hs l= .frz T5 es:=by rw[ag.hs l (by simp)];exact hl
         exact Bq ho hd hn (fK hI) (bE hTe) (bE hE5) ((bB ag hx e1).frz hl')
        ·cases h
   ·    split at h
        ·rename_i Tx Te2 es hl;obtain⟨d1,hp,u1,rfl⟩:=ny hl;exact bC h fun σ' ag d hd hn=>Bq ho hd hn (fK hI) (bE hTe) u1 ((Ev.pk (fZ ag hx) (Cy _ hp)).clst u1)
        ·cases h
  ·cases h
theorem at5{d:Nat}{k:IntKind}{T3 T4 T1 T2:TypeId}{p q:Int}(ho:o.op= .call ⟨.builtin .max,#[x,y],#[T1,T2]⟩)(hd:o.dst=some d)(hn:d<n)
  (hu:P.underlying T3=some (.int k))(hu':P.underlying T4=some (.int k))(hx:Ev P σ x (.dat T3 (.int p)))(hy:Ev P σ y (.dat T4 (.int q))):bD P n o σ (σ.put d (.dat T3 (.int (bif decide (p<q)then q else p)))):=
 bf hd hn fun ok0 w0 a w β r=>by
  obtain⟨_,e1,b1,b2⟩:=RV.int hu (hx _ _ _ _ _ _ r);obtain⟨_,e2,b3,b4⟩:=RV.int hu' (hy _ _ _ _ _ _ r);simp only[Dt.toInt]at e1 e2 b1 b2 b3 b4;refine⟨.int k (bif decide (p<q)then q else p),?_,RV.mk_int hu ?_ ?_⟩;·by_cases h:p<q<;>simp[execOp,ho,e1,e2,resolve,invoke,builtin,Builtin.max_,Builtin.max2,h]
  ·by_cases h:p<q<;>simp[h,b1,b3]
  ·by_cases h:p<q<;>simp[h,b2,b4]
theorem at6{d:Nat}{k:IntKind}{T3 T4 T1 T2:TypeId}{p q:Int}(ho:o.op= .call ⟨.builtin .min,#[x,y],#[T1,T2]⟩)(hd:o.dst=some d)(hn:d<n)
  (hu:P.underlying T3=some (.int k))(hu':P.underlying T4=some (.int k))(hx:Ev P σ x (.dat T3 (.int p)))(hy:Ev P σ y (.dat T4 (.int q))):bD P n o σ (σ.put d (.dat T3 (.int (bif decide (q<p)then q else p)))):=
 bf hd hn fun ok0 w0 a w β r=>by
  obtain⟨_,e1,b1,b2⟩:=RV.int hu (hx _ _ _ _ _ _ r);obtain⟨_,e2,b3,b4⟩:=RV.int hu' (hy _ _ _ _ _ _ r);simp only[Dt.toInt]at e1 e2 b1 b2 b3 b4;refine⟨.int k (bif decide (q<p)then q else p),?_,RV.mk_int hu ?_ ?_⟩;·by_cases h:q<p<;>simp[execOp,ho,e1,e2,resolve,invoke,builtin,Builtin.min_,Builtin.min2,h]
  ·by_cases h:q<p<;>simp[h,b1,b3]
  ·by_cases h:q<p<;>simp[h,b2,b4]
theorem two{A:Type}{xs:Array A}{a b:A}(h:xs.toList=[a,b]):xs= #[a,b]:=by apply Array.ext';simpa using h
theorem axf{xs:Array Operand}{Ts:Array TypeId}{T':TypeId}(ho:o.op= .call ⟨.builtin .min,xs,Ts⟩)(hxs:xs.toList=[x,y])(hTs:Ts.toList=[T,T'])(h:agn P E n o σ T T' x y k=some r):OpS P n o σ k r:=by
 have hxs':=two hxs;have hTs':=two hTs;subst hxs' hTs';have hx:x∈o.op.operands.toList:=by rw[ho];simp[Op.operands,Call.operands]
 have hy:y∈o.op.operands.toList:=by rw[ho];simp[Op.operands,Call.operands]
 unfold agn at h;split at h
 ·rename_i Tx q a ha;obtain⟨d1,e1,u1,rfl⟩:=dX ha;split at h
  ·rename_i Ty q' b hb;obtain⟨d2,e2,u2,rfl⟩:=dX hb;have hh_:=aF h;clear h;obtain⟨hq,h⟩:=hh_;have hq':q=q':=by simpa using hq
   subst hq';exact bC h fun σ' ag d hd hn=>at6 ho hd hn u1 u2 ((bB ag hx e1).cint u1) ((bB ag hy e2).cint u2)
  ·cases h
 ·cases h
theorem axg{xs:Array Operand}{Ts:Array TypeId}{T':TypeId}(ho:o.op= .call ⟨.builtin .max,xs,Ts⟩)(hxs:xs.toList=[x,y])(hTs:Ts.toList=[T,T'])(h:agp P E n o σ T T' x y k=some r):OpS P n o σ k r:=by
 have hxs':=two hxs;have hTs':=two hTs;subst hxs' hTs';have hx:x∈o.op.operands.toList:=by rw[ho];simp[Op.operands,Call.operands]
 have hy:y∈o.op.operands.toList:=by rw[ho];simp[Op.operands,Call.operands]
 unfold agp at h;split at h
 ·rename_i Tx q a ha;obtain⟨d1,e1,u1,rfl⟩:=dX ha;split at h
  ·rename_i Ty q' b hb;obtain⟨d2,e2,u2,rfl⟩:=dX hb;have hh_:=aF h;clear h;obtain⟨hq,h⟩:=hh_;have hq':q=q':=by simpa using hq
   subst hq';exact bC h fun σ' ag d hd hn=>at5 ho hd hn u1 u2 ((bB ag hx e1).cint u1) ((bB ag hy e2).cint u2)
  ·cases h
 ·cases h
theorem fQ{KT V:TypeId}(h:sN P T=some (KT,V)):P.underlying T=some (.map KT V)∧P.underlying KT=some .string∧bS P V=false:=by
 unfold sN at h;split at h
 ·rename_i K V' hu;obtain⟨h1,h2⟩:=aF h;cases h2;exact⟨hu,gP (aG h1),by simpa using aC h1⟩
 ·cases h
theorem CJ{z:Dt}(h:Us P T=some z):∃(i:TypeInfo)(zv:Value),P.info? T=some i∧i.zero=some zv∧∀(ok:Nat->Prop)(w:World),RD P ok w T z [zv]:=by
 unfold Us at h;split at h
 ·rename_i i hi;split at h
  ·rename_i zv hz;cases hb:qy zv with
   |true=>rw[hb]at h;cases h
   |    false=>
        rw[hb]at h;obtain⟨i',z',q1,q2,q3,q4⟩:=(dO h).ex;rw[hi]at q1;cases q1
        rw[hz]at q2;cases q2
        refine⟨_,zv,hi,hz,fun ok w=>?_⟩;have e:zv.cells.toList=[zv]:=by cases zv<;>first|rfl|cases hb
        rw[←e];exact q4 ok w
  ·cases h
 ·cases h
theorem Mw{A:Type}{b:Bool}{u v:Option A}{q:A}(h:(bif b then u else v)=some q):(b=true∧u=some q)∨(b=false∧v=some q):=by cases b<;>simp_all
theorem Gh(h:am1 P T=true):∃(i:TypeInfo),P.info? T=some i∧i.zero=some (.slice none 0 0):=by
 unfold am1 at h;split at h
 ·rename_i i hi;split at h;·rename_i hz;exact⟨i,hi,hz⟩
  ·cases h
 ·cases h
theorem X6{l:Nat}{rd:List Nat}{ws:List (Nat×Ob)}(h:agj σ.hs σ.k0 l=some (rd,ws)){σ':St}(hk0:σ'.k0=σ.k0)(ha:∀l∈rd,lk σ'.hs l=lk σ.hs l):Imp P n σ' ⟨σ'.ts,wrO σ'.hs ws,σ'.k0⟩:=by
 unfold agj at h;split at h
 ·rename_i T5 T2 c k es i m hl;split at h
  ·rename_i T3 ls T4 ds hk hm;obtain⟨hc,h⟩:=aF h;simp only[aA,Prod.mk.injEq]at h;obtain⟨rfl,rfl⟩:=h;have e1:=beq_eq (aG (aC hc));have e2:=beq_eq (aG (aC (aC hc)));subst e1 e2;rintro K w0 a w ⟨β,r⟩;exact r.unfocus (by rw[ha l (by simp)];exact hl) (by rw[ha k (by simp)];exact hk) (by rw[ha m (by simp)];exact hm) (by rw[ha _ (by simp)];exact cZ σ) (by rw[hk0];exact aI (aC (aC (aC hc))))
  ·cases h
 ·cases h
theorem Gi{rd:List Nat}{ws:List (Nat×Ob)}:∀{L:List Nat},Ut σ.hs σ.k0 L=some (rd,ws)->∀{σ':St},σ'.k0=σ.k0->(∀l∈rd,lk σ'.hs l=lk σ.hs l)->Imp P n σ' ⟨σ'.ts,wrO σ'.hs ws,σ'.k0⟩
 | [],h,_,_,_=>by cases h
 |l::r,h,σ',hk0,ha=>by
  unfold Ut at h;split at h
  ·rename_i q hq;cases h;exact X6 hq hk0 ha
  ·exact Gi h hk0 ha
theorem Uy{L:List Nat}{f:St->(Dl->Option R)->Option R}(hf:∀(σ1:St)(k1:Dl->Option R),f σ1 k1=some r->OpS P n o σ1 k1 r)(h:am2 σ L f k=some r):OpS P n o σ k r:=by
 unfold am2 at h;split at h
 ·rename_i rd ws hw;obtain⟨U,hU,hok⟩:=hf _ _ h;refine⟨_,hU,fun σ' ag=>?_⟩;have key:=hok ⟨σ'.ts,wrO σ'.hs ws,σ'.k0⟩ ⟨ag.ts,fun l hl=>fu (ls:=U.rd) (fun l hl=>ag.hs l (List.mem_append_right _ hl)) l hl,ag.k0⟩;have:=key.pre (Gi hw ag.k0 fun l hl=>ag.hs l (aU _ hl));rw[show σ'.app o.dst ⟨U.v,rd++U.rd,ws++U.wr⟩=St.app ⟨σ'.ts,wrO σ'.hs ws,σ'.k0⟩ o.dst U by unfold St.app;rw[fO]];exact this
 ·exact hf _ _ h
theorem agE{rd:List Nat}{wr:List (Nat×Ob)}(h:out n o v rd wr k=some r)(hv:∀σ',Agr o σ σ' rd->∀d,o.dst=some d->d<n->bD P n o σ' (St.put ⟨σ'.ts,wrO σ'.hs wr,σ'.k0⟩ d v)):OpS P n o σ k r:=by obtain⟨d,hd,hn,hk⟩:=dD h;refine⟨_,hk,fun σ' ha=>?_⟩;have:=hv σ' ha d hd hn;rw[hd];exact this
theorem X7{V l T5 T2 kk:Nat}{KT KT5 TS:TypeId}{c:Option Nat}{es:List Dt}{hh:Option (Nat×Nat)}{s:ByteArray}{z:Dt}(ho:o.op= .lookup T x y false)(hu:P.underlying T=some (.map KT V))(hk:P.underlying KT=some .string)
  (hz:∃(i:TypeInfo)(zv:Value),P.info? V=some i∧i.zero=some zv∧∀(ok:Nat->Prop)(w:World),RD P ok w V z [zv])(hs:P.underlying TS=some .string)(hx:∀σ' rd,Agr o σ σ' rd->Ev P σ' x (.row l))(hy:∀σ' rd,Agr o σ σ' rd->Ev P σ' y (.dat TS (.str s)))
  (hl:lk σ.hs l= .rowD T5 T2 c kk es hh)(h5:P.underlying T5=some (.map KT5 V))(h:vQ P n o σ V l T5 T2 kk c es hh s k=some r):OpS P n o σ k r:=by
 unfold vQ at h;have hq:=Mw h;clear h;rcases hq with⟨hm,h⟩| ⟨hm,h⟩
 ·split at h
  ·rename_i T4 ls hkk;have hq:=aF h;clear h;obtain⟨hc,h⟩:=hq;have c1:=beq_eq (aG hc);subst c1;obtain⟨hk0,h⟩:=dw h;obtain⟨i,hi,h⟩:=aj.1 h;obtain⟨e2,he2,h⟩:=aj.1 h;refine agE h fun σ' ag d hd hn=>?_;rintro ok0 w0 a w ⟨β,r0⟩;have hkk':lk σ'.hs kk= .tok T4 ls:=by rw[ag.hs kk (by simp)];exact hkk
   exact Rs ho hd hn hu hk hz hs (hx _ _ ag) (hy _ _ ag) (by rw[ag.hs l (by simp)];exact hl) h5 hkk' hi (r0.tok_lst hkk' he2) (by rw[ag.hs _ (by simp)];exact cZ σ) (by rw[ag.hs _ (by simp)];exact dF _ _ (by omega)) (by omega) (by rw[ag.k0];exact hk0) (by rw[ag.k0];omega) ok0 w0 a w ⟨β,r0⟩
  ·cases h
 ·obtain⟨hnz,h⟩:=aF h;exact bC h fun σ' ag d hd hn=>MQ ho hd hn hu hk (Gh hnz) hs (hx _ _ ag) (hy _ _ ag) (by rw[ag.hs l (by simp)];exact hl) h5 hm
theorem at7{l m T5 T2 kk:Nat}{u:Operand}{KT VT KT5 V5 TS:TypeId}{c:Option Nat}{es:List Dt}{hh:Option (Nat×Nat)}{s:ByteArray}(ho:o.op= .mapUpdate T x y u)(hu:P.underlying T=some (.map KT VT))(hk:P.underlying KT=some .string)(h5:P.underlying T5=some (.map KT5 V5))
  (hs:P.underlying TS=some .string)(hx:∀σ' rd,Agr o σ σ' rd->Ev P σ' x (.row l))(hy:∀σ' rd,Agr o σ σ' rd->Ev P σ' y (.dat TS (.str s)))(hv:∀σ' rd,Agr o σ σ' rd->Ev P σ' u (.row m))(hl:lk σ.hs l= .rowD T5 T2 c kk es hh)(h:QN o σ l T5 T2 kk c es hh s m k=some r):OpS P n o σ k r:=by
 unfold QN at h;have hq:=Mw h;clear h;rcases hq with⟨hm,h⟩| ⟨hm,h⟩
 ·have hq:=aj.1 h;clear h;obtain⟨i,hi,h⟩:=hq;split at h
  ·obtain⟨hd,h⟩:=eO h;refine⟨_,h,fun σ' ag=>?_⟩;rw[hd];exact CZ ho hd hu hk h5 hs (hx _ _ ag) (hy _ _ ag) (hv _ _ ag) (by rw[ag.hs l (by simp)];exact hl) hi (fun _ _ e=>by cases e)
  ·rename_i j m0;obtain⟨hb,h⟩:=aF h;obtain⟨hd,h⟩:=eO h;refine⟨_,h,fun σ' ag=>?_⟩;rw[hd];exact CZ ho hd hu hk h5 hs (hx _ _ ag) (hy _ _ ag) (hv _ _ ag) (by rw[ag.hs l (by simp)];exact hl) hi (fun _ _ e=>by cases e;exact beq_eq hb)
 ·split at h
  ·rename_i T4 ls hkk;have hq:=aF h;clear h;obtain⟨hc,h⟩:=hq;have c1:=beq_eq hc;subst c1;obtain⟨hk0,h⟩:=dw h;obtain⟨hd,h⟩:=eO h;refine⟨_,h,fun σ' ag=>?_⟩;rw[hd];exact MR ho hd hu hk h5 hs (hx _ _ ag) (hy _ _ ag) (hv _ _ ag) (by rw[ag.hs l (by simp)];exact hl) (by rw[ag.hs kk (by simp)];exact hkk) (by rw[ag.hs _ (by simp)];exact cZ σ) (by rw[ag.k0];exact hk0) hm
  ·cases h
theorem agF{    two:Bool}(ho:o.op= .lookup T x y two)(h:Ct P E n o σ T x y two k=some r):OpS P n o σ k r:=by
 have hx:x∈o.op.operands.toList:=by rw[ho];simp[Op.operands]
 have hy:y∈o.op.operands.toList:=by rw[ho];simp[Op.operands]
 unfold Ct at h;split at h
 ·rename_i KT V hkv;obtain⟨u1,u2,u3⟩:=fQ hkv;split at h
  ·rename_i z hz;have hz':=CJ hz;split at h
   ·    rename_i l e1;split at h
        ·rename_i T5 es hl;split at h
         ·rename_i K5 V5 hkv5;obtain⟨p1,p2,p3⟩:=fQ hkv5;split at h
          ·rename_i TS s hs;obtain⟨d2,e2,us,rfl⟩:=dY hs;have hh_:=aF h;clear h;obtain⟨hc,h⟩:=hh_;have c1:=beq_eq (aG hc);have c2:=beq_eq (aC hc);subst c1;subst c2
           cases two with
           |  true=>
              simp only[cond_true]at h;split at h
              · rename_i TB hTB;exact bC h fun σ' ag d hd hn=>Rl ho hd hn u1 u2 u3 (dH hTB) hz' us (bB ag hx e1) ((bB ag hy e2).cstr us) (by rw[ag.hs l (by simp)];exact hl) p1
              ·cases h
           |  false=>
              simp only[cond_false]at h;rcases Mw h with⟨_,h⟩| ⟨_,h⟩;·exact bC h fun σ' ag d hd hn=>(Gn ho hd hn u1 u2 u3 hz' us (bB ag hx e1) ((bB ag hy e2).cstr us) (by rw[ag.hs l (by simp)];exact hl) p1).can
              · rcases Mw h with⟨_,h⟩| ⟨hm,h⟩;·exact bC h fun σ' ag d hd hn=>(Gn ho hd hn u1 u2 u3 hz' us (bB ag hx e1) ((bB ag hy e2).cstr us) (by rw[ag.hs l (by simp)];exact hl) p1).can
                ·obtain⟨hnz,h⟩:=aF h;exact bC h fun σ' ag d hd hn=>Rk ho hd hn u1 u2 (Gh hnz) us (bB ag hx e1) ((bB ag hy e2).cstr us) (by rw[ag.hs l (by simp)];exact hl) p1 hm
          ·cases h
         ·cases h
        ·rename_i T5 T2 c kk es hh hl;split at h
         ·rename_i K5 V5 hkv5;obtain⟨p1,p2,p3⟩:=fQ hkv5;split at h
          ·rename_i TS s hs;obtain⟨d2,e2,us,rfl⟩:=dY hs;have hq:=aF h;clear h;obtain⟨hc,h⟩:=hq;have c1:=beq_eq (aG hc);subst c1;obtain rfl:two=false:=by simpa using aC hc
           exact X7 ho u1 u2 hz' us (fun σ' rd ag=>bB ag hx e1) (fun σ' rd ag=>(bB ag hy e2).cstr us) hl p1 h
          ·cases h
         ·cases h
        ·cases h
   ·cases h
  ·cases h
 ·cases h
theorem X8(ho:o.op= .makeMap T none)(h:vR P E n o σ T k=some r):OpS P n o σ k r:=by
 unfold vR at h;split at h
 ·rename_i KT V hkv;obtain⟨u1,u2,u3⟩:=fQ hkv;rcases Mw h with⟨_,h⟩| ⟨_,h⟩
  ·split at h
   ·    rename_i E2 hE2;obtain⟨hk0,h⟩:=dw h;refine agE h fun σ' ag d hd hn=>?_;have hf:lk σ'.hs σ.hs.length= .free:=by rw[ag.hs _ (by simp)];exact cZ σ
        have hf2:lk σ'.hs (σ.hs.length+1)= .free:=by rw[ag.hs _ (by simp)];exact dF _ _ (by omega)
        have h1:=CS ho hd hn u1 u2 hf (by rw[ag.k0];exact hk0);refine h1.post ?_;rintro K w0 a w ⟨β,r0⟩;exact r0.toM (l:=σ.hs.length) (q:=σ.hs.length+1) (by show lk (aV σ'.hs _ _) _=_;rw[bH]) u1 (bE hE2) (by show lk (aV σ'.hs _ _) _=_;rw[aS _ _ _ _ (by omega)];exact hf2) (by show σ'.k0<=_;rw[ag.k0];omega)
   ·cases h
  ·obtain⟨hk0,h⟩:=dw h;exact Ux h fun σ' ag d hd hn=>CS ho hd hn u1 u2 (by rw[ag.hs _ (by simp)];exact cZ σ) (by rw[ag.k0];exact hk0)
 ·cases h
theorem Mx{u:Operand}(ho:o.op= .mapUpdate T x y u)(h:mo P E o σ T x y u k=some r):OpS P n o σ k r:=by
 have hx:x∈o.op.operands.toList:=by rw[ho];simp[Op.operands]
 have hy:y∈o.op.operands.toList:=by rw[ho];simp[Op.operands]
 have hu:u∈o.op.operands.toList:=by rw[ho];simp[Op.operands]
 unfold mo at h;split at h
 ·rename_i KT V hkv;obtain⟨u1,u2,u3⟩:=fQ hkv;split at h
  ·rename_i l e1;split at h
   ·    rename_i T5 es hl;split at h
        ·rename_i K5 V5 hkv5;obtain⟨p1,p2,p3⟩:=fQ hkv5;split at h
         ·rename_i TS s hs;obtain⟨d2,e2,us,rfl⟩:=dY hs;split at h
          ·rename_i TV dv hpk;have hh_:=aF h;clear h;obtain⟨hc,h⟩:=hh_;have hnm:l∉(opd P E.dt σ V u).rws:=mE (by simpa using aC (aC hc));obtain⟨hd,hk⟩:=eO h;refine⟨_,hk,fun σ' ag=>?_⟩;have hagr:∀l2∈(opd P E.dt σ V u).rws,lk σ'.hs l2=lk σ.hs l2:=fun l2 hl2=>ag.hs l2 (by simp[hl2]);rw[hd];have hev:∀{z:Operand}{w:AV}{T0:TypeId},z∈o.op.operands.toList->opd P E.dt σ T0 z=w->Ev P (St.mk σ'.ts (wrO σ'.hs (frzW σ'.hs (opd P E.dt σ V u).rws)) σ'.k0) z w:=by
              rintro z w T0 hz rfl;have e3:opd P E.dt (St.mk σ'.ts (wrO σ'.hs (frzW σ'.hs (opd P E.dt σ V u).rws)) σ'.k0) T0 z=opd P E.dt σ T0 z:=by rw[←iy ag.ts hz];cases z<;>rfl
              rw[←e3];exact gY
           have hpk2:pk P (wrO σ'.hs (frzW σ'.hs (opd P E.dt σ V u).rws)) (opd P E.dt σ V u)=some (TV,dv):=by rw[←hpk,dQ hagr];exact jM _ fun l2 hl2=>fu hagr l2 hl2
           have key:bD P n o ⟨σ'.ts,wrO σ'.hs (frzW σ'.hs (opd P E.dt σ V u).rws),σ'.k0⟩ ((St.mk σ'.ts (wrO σ'.hs (frzW σ'.hs (opd P E.dt σ V u).rws)) σ'.k0).lay l (.map T5 (mput es d2.toStr dv))):=by refine Je (n:=n) ho hd u1 u2 p1 (by simpa using aG (aC hc)) (aG hc) us (hev hx e1) ((hev hy e2).cstr us) (Ev.pk (hev hu rfl) hpk2) ?_;show lk (wrO σ'.hs _) l=_;rw[fP hnm,ag.hs l (by simp)];exact hl
           have hfin:St.mk (XL σ'.ts none none) (wrO σ'.hs (frzW σ.hs (opd P E.dt σ V u).rws++[(l,.map T5 (mput es d2.toStr dv))])) σ'.k0=(St.mk σ'.ts (wrO σ'.hs (frzW σ'.hs (opd P E.dt σ V u).rws)) σ'.k0).lay l (.map T5 (mput es d2.toStr dv)):=by rw[fO,dQ hagr];rfl
           have:=key.pre (Imp.frzW (σ:=σ') (opd P E.dt σ V u).rws);rw[←hfin]at this;exact this
          ·cases h
         ·cases h
        ·cases h
   ·    rename_i T5 T2 c kk es hh hl;split at h
        ·rename_i K5 V5 hkv5;obtain⟨p1,p2,p3⟩:=fQ hkv5;split at h
         ·rename_i TS s m hs e3;obtain⟨d2,e2,us,rfl⟩:=dY hs;split at h
          ·rename_i Tm ds hm;obtain⟨hc,h⟩:=aF h;exact at7 ho u1 u2 p1 us (fun σ' rd ag=>bB ag hx e1) (fun σ' rd ag=>(bB ag hy e2).cstr us) (fun σ' rd ag=>bB ag hu e3) hl h
          ·cases h
         ·cases h
        ·cases h
   ·cases h
  ·cases h
 ·cases h
theorem ang{xs:Array Operand}{Ts:Array TypeId}(ho:o.op= .call ⟨.builtin .clear,xs,Ts⟩)(hxs:xs.toList=[x])(hTs:Ts.toList=[T])(h:I4 P E o σ T x k=some r):OpS P n o σ k r:=by
 have hxs':xs= #[x]:=by apply Array.ext';simpa using hxs
 have hTs':Ts= #[T]:=by apply Array.ext';simpa using hTs
 subst hxs' hTs';have hx:x∈o.op.operands.toList:=by rw[ho];simp[Op.operands,Call.operands]
 unfold I4 at h;split at h
 ·rename_i l i sz e1;split at h
  ·rename_i T5 es hl;split at h
   ·    rename_i Te hTe;split at h
        ·rename_i z hz;have hh_:=aF h;clear h;obtain⟨hc,h⟩:=hh_;have hh_:=aF h;clear h;obtain⟨hi,h⟩:=hh_;obtain⟨u2,_⟩:=bR (aG hc);have c1:=beq_eq (aG (aC hc));have c2:=beq_eq (aC (aC hc));subst c1;obtain⟨hd,hk⟩:=eO h;refine⟨_,hk,fun σ' ag=>?_⟩;rw[hd];exact agL ho hd (bE hTe) u2 c2 (CJ hz) (bB ag hx e1) (by rw[ag.hs l (by simp)];exact hl) (aI hi)
        ·cases h
   ·cases h
  ·cases h
 ·cases h
theorem vV:∀{ts:List (Nat×List Value)}{g:Nat}{cs:List Value},Cu ts g=some cs->(g,cs)∈ts
 | [],_,_,h=>by cases h
 |t::r,g,cs,h=>by
  unfold Cu at h;cases hb:Nat.beq t.1 g with
  |true=>
   rw[hb]at h;cases h;have e:=beq_eq hb;subst e;exact aZ
  |false=>
   rw[hb]at h;exact aY _ (vV h)
theorem MB{Te:TypeId}{sz:Nat}:∀{m:Nat}{cs:List Value}{ds:List Dt},agk P Te sz m cs=some ds->∀(i:Nat)(d:Dt),ds[i]? =some d->∀(ok:Nat->Prop)(w:World),RD P ok w Te d ((cs.drop (i*sz)).take sz)∧i<m
 |0,cs,ds,h,i,d,hd,ok,w=>by unfold agk at h;cases h;simp at hd
 |m+    1,cs,ds,h,i,d,hd,ok,w=>by
  unfold agk at h;split at h
  ·rename_i v hv;split at h
   ·    rename_i T' d' hp;obtain⟨h1,h2⟩:=aF h;have e:=beq_eq h1;subst e;split at h2
        ·rename_i ds' hds;cases h2;cases i with
         |zero=>
          simp only[aO,aA]at hd;subst hd;refine⟨?_,by omega⟩;simp only[Nat.zero_mul,aK];exact dJ (β:=fun _=>none) (hs:=[]) (fun l T es hl=>by simp[lk]at hl) ((ni hv).1 ok w _) hp
         |succ i=>
          simp only[aR]at hd;obtain⟨q1,q2⟩:=MB hds i d hd ok w;rw[List.drop_drop,show sz+i*sz=(i+1)*sz by rw[Nat.succ_mul];omega]at q1;exact⟨q1,by omega⟩
        ·cases h2
   ·cases h
  ·cases h
theorem axh{g:Nat}(ho:o.op= .indexAddr T (.global g) y)(h:agl P E n o σ T g y k=some r):OpS P n o σ k r:=by
 have hy:y∈o.op.operands.toList:=by rw[ho];simp[Op.operands]
 unfold agl at h;split at h
 ·rename_i len Te hu;split at h
  ·rename_i cs hcs;split at h
   ·    rename_i ds hds;split at h
        ·rename_i i hi;have hh_:=aF h;clear h;obtain⟨hc,h⟩:=hh_;have hh_:=aj.1 h;clear h;obtain⟨e,he,h⟩:=hh_;obtain⟨p1,p2⟩:=rZ he;have h0:=kL (aG hc);have hlen:=beq_eq (aC hc);refine bC h fun σ' ag d hd hn=>?_;obtain⟨TI,k1,v1,v2⟩:=gK (lo:=some y) (E:=E) (σ:=σ') (i:=i) (by rw[dP ag.ts (by intro z hz;cases hz;exact hy)];exact hi);refine bf hd hn fun ok0 w0 a w β r=>?_;obtain⟨_,e2,_⟩:=RV.int v1 (v2 _ _ _ _ _ _ r);simp only[Dt.toInt]at e2;obtain⟨hok,TT,fr,hblk⟩:=r.tab.1 _ (vV hcs);have hmul:∀m,m<len->m*P.cellsOf Te+P.cellsOf Te<=len*P.cellsOf Te:=fun m hm=>by have:=aH (P.cellsOf Te) (show m+1<=len from hm);rw[Nat.succ_mul]at this;exact this
         have hq:=MB hds i.toNat e p2;have hlt:=(hq (fun _=>True) w).2;have hm:=hmul _ hlt;refine⟨.pointer (some ((⟨g,0,none⟩:Addr).add (i.toNat*P.cellsOf Te))),?_,xK (cs:=(cs.drop (i.toNat*P.cellsOf Te)).take (P.cellsOf Te)) (by rw[block_add];exact hok) (by rw[List.length_take,List.length_drop];omega) (fun j v hv=>?_) (hq _ w).1⟩
         ·have hii:i<len:=by omega
          cases hin:P.info? Te with
          |none=>simp[Program.cellsOf,hin]at h0
          |some inf=>
           unfold execOp;simp only[ho,e2,Sem.run_bind];have ea:a.eval (.global g)= .pointer (some ⟨g,0,none⟩):=rfl;rw[ea];simp[Instr.indexAt,asIntOf,run_underlying hu,Instr.sureAddr,p1,hii,sizeOf,typeInfo,hin,Program.cellsOf]
         ·rw[add_add,eP,Nat.zero_add];rw[List.getElem?_take]at hv;split at hv
          ·rename_i hj;rw[List.getElem?_drop]at hv;have hb:w.heap[g]? =some (.cells cs.toArray TT fr):=hblk;simp only[World.cell?,hb];simpa using hv
          ·cases hv
        ·cases h
   ·cases h
  ·cases h
 ·cases h
end
section
variable{P:Program}{n:Nat}{o:Oper}{σ τ:St}{x y:Operand}{v:AV}{T:TypeId}{R:Type}{E:Env}{k:Dl->Option R}{r:R}
theorem Ra{T T':TypeId}(h:compat P T T'=true):bS P T=bS P T':=by
 unfold compat at h;rw[Bool.or_eq_true]at h;rcases h with h|h;·rw[beq_eq h]
 ·unfold bS;split at h;·rename_i h1 h2;rw[h1,h2]
  ·rename_i h1 h2;rw[h1,h2]
  ·rename_i h1 h2;rw[h1,h2]
  ·rename_i h1 h2;rw[h1,h2]
  ·cases h
theorem RV.compat{ok:Nat->Prop}{w:World}{β:Nat->Option Value}{z:Value}{d:Dt}{T':TypeId}(h:RV P ok w β (.dat T d) z)(hc:Am.compat P T T'=true):RV P ok w β (.dat T' d) z:=by
 have he:=Ra hc;cases ha:bS P T with
 |true=>
  obtain⟨cs,e,q⟩:=(RV.dat_agg ha).1 h;exact(RV.dat_agg (by rw[←he];exact ha)).2 ⟨cs,e,q.compat hc⟩
 |false=>exact(RV.dat_one (by rw[←he];exact ha)).2 (((RV.dat_one ha).1 h).compat hc)
theorem I5{D:List TypeId}{Te:TypeId}{τ:St}:∀{xs:List Operand}{ds:List Dt},(∀z∈xs,Ev P τ z (opd P D σ Te z))->j5 P τ.hs Te (xs.map (opd P D σ Te))=some ds->EvL P τ Te xs ds
 | [],ds,_,h=>by
   have h':some []=some ds:=by simpa [j5]using h
   cases h';exact .nil
 | z::xs,ds,hev,h=>by
   simp only[List.map_cons]at h;unfold j5 at h;split at h
   ·rename_i T' d hp;obtain⟨hc,h2⟩:=aF h;split at h2
    ·   rename_i ds' hds;cases h2;refine .cons ?_ (I5 (fun u hu=>hev u (by simp[hu])) hds);have:=Ev.pk (hev z (by simp)) hp;exact fun ok0 w0 n a w β r=>(this _ _ _ _ _ _ r).compat (aG hc)
    ·cases h2
   ·cases h
theorem Uz{hs:List Ob}{Te:TypeId}{vs:List AV}{ds:List Dt}(h:j5 P hs Te vs=some ds)(hne:vs≠[]):∀d',szB P Te (.dat Te d')=true:=by
 cases vs with
 |nil=>exact absurd rfl hne
 |cons v r=>
  unfold j5 at h;split at h
  ·rename_i T' d hp;obtain⟨hc,h2⟩:=aF h;intro d';exact aC hc
  ·cases h
theorem MC{hs hs':List Ob}{Te:TypeId}:∀{vs:List AV},(∀l∈AV.rwsL vs,lk hs' l=lk hs l)->j5 P hs' Te vs=j5 P hs Te vs
 | [],_=>rfl
 |v::r,h=>by unfold j5;rw[jM (hs:=hs) (hs':=hs') v fun l hl=>h l (by simp[AV.rwsL,hl]),MC (vs:=r) fun l hl=>h l (by simp[AV.rwsL,hl])]
theorem nA:∀{j:Nat}{parts:List (Nat×Operand)},dense j parts=true->parts=((parts.map (·.2)).zipIdx j).map fun p=>(p.2,p.1)
 |_,[],_=>rfl
 |j,(i,x)::r,h=>by simp only[dense]at h;have e:=beq_eq (aG h);subst e;have ih:=nA (aC h);simp only[List.map_cons,List.zipIdx_cons];rw[←ih]
theorem ME{hs:List Ob}{Te:TypeId}:∀{vs:List AV}{ds:List Dt},j5 P [] Te vs=some ds->j5 P hs Te vs=some ds
 | [],_,h=>h
 |v::r,ds,h=>by
  unfold j5 at h ⊢
  split at h
  ·rename_i T d hp;rw[Cy v hp];obtain⟨hc,h2⟩:=aF h;split at h2
   ·    rename_i ds' hds;cases h2;simp only[hc,cond_true,ME hds]
   ·cases h2
  ·cases h
theorem Rb{parts:Array (Nat×Operand)}{len:Nat}{Te:TypeId}{zi:TypeInfo}{za:Value}{ds:List Dt}(ho:o.op= .build T parts)(hu:P.underlying T=some (.array len Te))(hzi:P.info? T=some zi)(hza:zi.zero=some za)
  (hds:j5 P [] Te ((parts.toList.map (·.2)).map (opd P E.dt σ Te))=some ds)(hc:(dense 0 parts.toList&&(Nat.beq len parts.toList.length&&(!Nat.beq len 0&&(!Nat.beq (P.cellsOf Te) 0&&(Nat.beq za.cells.size (len*P.cellsOf Te)&&Nat.beq (P.cellsOf T) (len*P.cellsOf Te))))))=true)
  (h:out n o (.dat T (.lst ds)) [] [] k=some r):OpS P n o σ k r:=by
 have hmem:∀z∈parts.toList.map (·.2),z∈o.op.operands.toList:=by intro z hz;rw[ho];simpa [Op.operands]using hz
 have hlen:len=(parts.toList.map (·.2)).length:=by rw[List.length_map];exact beq_eq (aG (aC hc))
 have hpos:parts.toList.map (·.2)≠[]:=by intro e;rw[e]at hlen;exact kL (aG (aC (aC hc))) hlen
 have hsz:=Uz hds (by simpa using hpos);refine bC h fun σ' ag d hd hn=>Kr ho hd hn hu hzi hza (beq_eq (aG (aC (aC (aC (aC hc)))))) (beq_eq (aC (aC (aC (aC (aC hc)))))) (kL (aG (aC (aC (aC hc))))) (nA (aG hc)) hlen
  (I5 (fun z hz=>fZ ag (hmem z hz)) (ME hds)) (fun d'=>(dK (hsz d')).2.2.2.2)
theorem agG{parts:Array (Nat×Operand)}(ho:o.op= .build T parts)(h:Cj P E n o σ T parts.toList k=some r):OpS P n o σ k r:=by
 unfold Cj at h;split at h;·exact am6 ho h
 ·unfold Me at h;split at h
  ·rename_i len Te hu;split at h
   ·    rename_i zi hzi;split at h
        ·rename_i za hza;split at h
         ·rename_i ds hds;have hh_:=aF h;clear h;obtain⟨hc,h⟩:=hh_;exact Rb ho hu hzi hza hds hc h
         ·cases h
        ·cases h
   ·cases h
  ·cases h
theorem I6{len:Nat}{parts:Array (Nat×Operand)}(ho:o.op= .buildSlice T len parts)(h:kK P E n o σ T len parts.toList k=some r):OpS P n o σ k r:=by
 unfold kK at h;split at h
 ·rename_i Te hTe;split at h
  ·rename_i z hz;split at h
   ·    rename_i ds hds;have hh_:=aF h;clear h;obtain⟨hc,h⟩:=hh_;have hh_:=dw h;clear h;obtain⟨hk0,h⟩:=hh_;obtain⟨d,hd,hn,hk⟩:=dD h;refine⟨_,hk,fun σ' ag=>?_⟩;have hmap:(parts.toList.map fun p=>opd P E.dt σ Te p.2)=(parts.toList.map (·.2)).map (opd P E.dt σ Te):=by rw[List.map_map];rfl
        rw[hmap]at hds hk ⊢
        rw[hmap]at ag;have hagr:∀l∈AV.rwsL ((parts.toList.map (·.2)).map (opd P E.dt σ Te)),lk σ'.hs l=lk σ.hs l:=fun l hl=>ag.hs l (aY _ hl);have hfw:=dQ hagr;have hmem:∀z∈parts.toList.map (·.2),z∈o.op.operands.toList:=by intro z hz;rw[ho];simpa [Op.operands]using hz
        have hds':j5 P (wrO σ'.hs (frzW σ'.hs (AV.rwsL ((parts.toList.map (·.2)).map (opd P E.dt σ Te))))) Te ((parts.toList.map (·.2)).map (opd P E.dt σ Te))=some ds:=by rw[←hds,hfw];exact MC fun l hl=>fu hagr l hl
        have hlen:len=(parts.toList.map (·.2)).length:=by rw[List.length_map];exact beq_eq (aG (aC hc))
        have hpos:parts.toList.map (·.2)≠[]:=by intro e;rw[e]at hlen;exact kL (aG (aC (aC hc))) hlen
        have hsz:=Uz hds (by simpa using hpos);have key:=(DL (σ:=St.mk σ'.ts (wrO σ'.hs (frzW σ'.hs (AV.rwsL ((parts.toList.map (·.2)).map (opd P E.dt σ Te))))) σ'.k0) (l:=σ.hs.length) (ds:=ds) ho hd hn (bE hTe) (by
          refine fV ?_;rw[ag.hs _ (by simp)];exact cZ σ) (by show σ'.k0<=_;rw[ag.k0];exact hk0) (dO hz) (kL (aG (aC (aC (aC hc))))) (nA (aG hc)) hlen hpos
          (aI (aC (aC (aC (aC hc))))) (I5 (fun z hz=>CG ag (hmem z hz)) hds') (fun d'=>(dK (hsz d')).2.2.2.2)).pre (Imp.frzW (σ:=σ') (AV.rwsL ((parts.toList.map (·.2)).map (opd P E.dt σ Te))))
        rw[hd];have hfin:St.mk (XL σ'.ts (some d) (some (.row σ.hs.length))) (wrO σ'.hs (frzW σ.hs (AV.rwsL ((parts.toList.map (·.2)).map (opd P E.dt σ Te)))++[(σ.hs.length,.row T ds)])) σ'.k0=
          ((St.mk σ'.ts (wrO σ'.hs (frzW σ'.hs (AV.rwsL ((parts.toList.map (·.2)).map (opd P E.dt σ Te))))) σ'.k0).lay σ.hs.length (.row T ds)).put d (.row σ.hs.length):=by
         rw[fO,hfw];rfl
        show bD P n o σ' (St.mk _ _ _);rw[hfin];exact key
   ·cases h
  ·cases h
 ·cases h
theorem I7{Te:TypeId}{vy:AV}{rd:List Nat}{ds:List Dt}(h:(match vy with
   |    .row l=>match lk σ.hs l with
        | .row T5 ds=>bif dB P T5 Te then some ([l],ds)else none
        | .frz T5 ds=>bif dB P T5 Te then some ([l],ds)else none
        |_=>none
   |    v=>match lval P [] v with
        |some (_,Te',ds)=>bif Nat.beq Te' Te then some ([],ds)else none
        |none=>none:Option (List Nat×List Dt))=some (rd,ds))(τ:St)(hev:Ev P τ y vy)(hag:∀l∈rd,lk τ.hs l=lk σ.hs l):rY P τ y Te ds:=by
 split at h
 ·rename_i l;split at h
  ·rename_i T5 ds' hl;obtain⟨hc,h2⟩:=aF h;cases h2;exact .row hev (by rw[hag l (by simp)];exact hl) (bR hc).1
  ·rename_i T5 ds' hl;obtain⟨hc,h2⟩:=aF h;cases h2;exact .lst (bR hc).1 (hev.frz (by rw[hag l (by simp)];exact hl))
  ·cases h
 ·split at h
  ·rename_i Tx Te' ds' hl;obtain⟨hc,h2⟩:=aF h;cases h2;obtain⟨d1,hp,u1,rfl⟩:=ny hl;have e:=beq_eq hc;subst e;exact .lst u1 ((Ev.pk hev (Cy _ hp)).clst u1)
  ·cases h
theorem append_nil{d l l':Nat}{Te T5 T0:TypeId}{ds:List Dt}{z:Dt}(ho:o.op= .call {callee:= .builtin .append,args:= #[x,y],argTypes:= #[T,T]})(hd:o.dst=some d)(hn:d<n)(hu:P.underlying T=some (.slice Te))(hu5:P.underlying T5=some (.slice Te))
  (hz:Zero P Te z)(h0:P.cellsOf Te≠0)(hbd:ds.length*P.bytesOf Te<=140737488355328)(hx:Ev P σ x (.nils T0))(hfl:lk σ.hs l= .free)(hkl:σ.k0<=l)(hf:lk σ.hs l'= .free)(hll:l'≠l)(hk0:σ.k0<=l')(hy:rY P σ y Te ds)(hlim:ds.length<=137438953472):
  bD P n o σ (((σ.lay l .gone).lay l' (.row T5 ds)).put d (.row l')):=by
 rintro ok0 w0 a w ⟨β,r⟩ K Q hK;have ex:a.eval x= .slice none 0 0:=by
  have h1:=(hx _ _ _ _ _ _ r).2 rfl;generalize a.eval x=q at h1;cases h1 with
  |nils=>rfl
 have r1:=r.nilrow hu5 hfl hkl;have hy1:=hy _ _ _ _ _ _ r;obtain⟨A,c,ys,ey,hyl,hyone,hyc,hynone,hyrd⟩:=hy1;have hob0:=r1.hs l;have hl1:lk (σ.lay l (.row T5 [])).hs l= .row T5 []:=bH _ _ _;rw[hl1,bJ]at hob0;have key:=wM (σ:=σ.lay l (.row T5 [])) (l:=l) (l':=l') (E:=Te) (T5:=T5) (es:=[]) (ds:=ds) ho hd hn hu hu5 hz h0 (by simpa using hbd) r1 (by rw[ex];exact bJ _ _ _) hl1
  (by show lk (aV σ.hs l _) l'=_;rw[aS _ _ _ _ hll];exact hf) hk0 ey hyl hyone hyc hynone (fun i d' hd'=>(hyrd i d' hd').mono (fun b hb=>⟨⟨hb.1,hb.2.1,fun j hj=>?_⟩,rfl⟩)) (by simpa using hlim) K Q (fun a' w' r'=>hK a' w' ?_)
 ·exact key
 ·obtain⟨q1,z',q2,q3⟩:=hj;by_cases hjl:j=l
  ·subst hjl;rw[bJ]at q2;cases q2;simp[Blk,blk]at q3
  ·rw[bO _ _ _ _ hjl]at q2;have q1':(lk (aV σ.hs l (.row T5 [])) j).isOwn=true:=q1;rw[aS _ _ _ _ hjl]at q1';exact hb.2.2 j ⟨q1',z',q2,q3⟩
 ·have hcongr:Imp P n ((((σ.lay l (.row T5 [])).lay l .gone).lay l' (.row T5 ([]++ds))).put d (.row l')) (((σ.lay l .gone).lay l' (.row T5 ds)).put d (.row l')):=by
   refine Rel.congr (fun j=> .inr rfl) (fun j=>?_) rfl;show lk (aV (aV σ.hs l .gone) l' _) j=lk (aV (aV (aV σ.hs l (.row T5 [])) l .gone) l' _) j;rw[dM,dM,dM,dM,dM];simp only[List.nil_append];split;·rfl
   ·split<;>rfl
  exact hcongr _ _ _ _ r'
theorem MF{xs:Array Operand}{Ts:Array TypeId}{T':TypeId}(ho:o.op= .call ⟨.builtin .append,xs,Ts⟩)(hxs:xs.toList=[x,y])(hTs:Ts.toList=[T,T'])(h:sM P n o σ T T' (opd P E.dt σ T x) (opd P E.dt σ T' y) k=some r):OpS P n o σ k r:=by
 have hxs':=two hxs;have hTs':=two hTs;subst hxs' hTs';have hx:x∈o.op.operands.toList:=by rw[ho];simp[Op.operands,Call.operands]
 have hy:y∈o.op.operands.toList:=by rw[ho];simp[Op.operands,Call.operands]
 unfold sM at h;split at h
 ·rename_i Te z hTe hz;rw[hTe]at hz;have hh_:=aF h;clear h;obtain⟨hc,h⟩:=hh_;have e:=beq_eq (aG hc);subst e;have h0:=kL (aC hc);split at h
  ·rename_i rd ds hsrc;split at h
   ·    rename_i l e1;split at h
        ·rename_i T5 es hl;have hh_:=aF h;clear h;obtain⟨hc5,h⟩:=hh_;have hh_:=dw h;clear h;obtain⟨hk0,h⟩:=hh_;have hh_:=uR h;clear h;obtain⟨rs,hrs,h⟩:=hh_;obtain⟨p1,p2,p3⟩:=uS hrs;subst p2;obtain⟨d,hd,hn,hk⟩:=dD h;refine⟨_,hk,fun σ' ag=>?_⟩;have key:=WA (σ:=σ') (l:=l) (l':=σ.hs.length) ho hd hn (bE hTe) (bR hc5).1 (dO hz) h0 p3 (bB ag hx e1) (by rw[ag.hs l (by simp)];exact hl) (by rw[ag.hs _ (by simp)];exact cZ σ) (by rw[ag.k0];exact hk0)
          (I7 hsrc σ' (fZ ag hy) fun l2 hl2=>ag.hs l2 (by simp[hl2])) p1
         rw[hd];exact key
        ·rename_i T5 T2 c kk es hl;split at h
         ·rename_i T4 ls hlk;have hh_:=aF h;clear h;obtain⟨hc,h⟩:=hh_;have hc5:=aG hc;have f1:=beq_eq (aG (aC hc));subst f1;have hpl:∀e∈ds,lkd c e=false:=fun e he=>by simpa using List.all_eq_true.1 (aC (aC hc)) e he
          have hh_:=dw h;clear h;obtain⟨hk0,h⟩:=hh_;have hh_:=uR h;clear h;obtain⟨rs,hrs,h⟩:=hh_;obtain⟨p1,p2,p3⟩:=uS hrs;subst p2;obtain⟨d,hd,hn,hk⟩:=dD h;refine⟨_,hk,fun σ' ag=>?_⟩;have key:=Rp (σ:=σ') (l:=l) (l':=σ.hs.length+1) (q:=σ.hs.length) ho hd hn (bE hTe) (bR hc5).1 (dO hz) h0 p3 (bB ag hx e1) (by rw[ag.hs l (by simp)];exact hl) (by rw[ag.hs kk (by simp)];exact hlk)
           (by rw[ag.hs _ (by simp)];exact dF _ _ (by omega)) (by rw[ag.k0];omega) (by rw[ag.hs _ (by simp)];exact cZ σ) (by rw[ag.k0];exact hk0) (by omega)
           (I7 hsrc σ' (fZ ag hy) fun l2 hl2=>ag.hs l2 (by simp[hl2])) hpl p1
          rw[hd];exact key
         ·cases h
        ·cases h
   ·    rename_i T5 e1;have hh_:=aF h;clear h;obtain⟨hc5,h⟩:=hh_;have hh_:=dw h;clear h;obtain⟨hk0,h⟩:=hh_;have hh_:=uR h;clear h;obtain⟨rs,hrs,h⟩:=hh_;obtain⟨p1,p2,p3⟩:=uS hrs;simp only[List.nil_append]at p2;subst p2;obtain⟨d,hd,hn,hk⟩:=dD h;refine⟨_,hk,fun σ' ag=>?_⟩;have key:=append_nil (σ:=σ') (l:=σ.hs.length) (l':=σ.hs.length+1) ho hd hn (bE hTe) (bR hc5).1 (dO hz) h0 (by simpa using p3) (bB ag hx e1) (by rw[ag.hs _ (by simp)];exact cZ σ) (by rw[ag.k0];exact hk0)
         (by rw[ag.hs _ (by simp)];exact dF _ _ (by omega)) (by omega) (by rw[ag.k0];omega) (I7 hsrc σ' (fZ ag hy) fun l2 hl2=>ag.hs l2 (by simp[hl2])) (by simpa using p1)
        rw[hd];exact key
   ·cases h
  ·cases h
 ·cases h
theorem Gj{Te:TypeId}{ob:Ob}{vs:List AV}(h:atQ P Te ob=some vs):sU P Te ob vs:=by
 cases ob with
 |row T es=>
  obtain⟨h1,h2⟩:=aF (show (bif dB P T Te then some (es.map (.dat Te))else none)=some vs from h);cases h2;exact .inl ⟨T,es,rfl,(bR h1).1,rfl⟩
 |rowA T us=>
  obtain⟨h1,h2⟩:=aF (show (bif dB P T Te then some us else none)=some vs from h);cases h2;exact .inr ⟨T,rfl,(bR h1).1⟩
 |_=>cases h
theorem Rf{ob:Ob}{T5 T2 kk:Nat}{es:List Dt}(h:aga ob=some (T5,T2,kk,es)):ob= .rowD T5 T2 none kk es none:=by
 unfold aga at h;split at h;·cases h;rfl
 ·cases h
theorem X9{ob:Ob}{T m:Nat}(h:atS ob=some (T,m)):ob= .rowA T [.row m]:=by
 unfold atS at h;split at h;·cases h;rfl
 ·cases h
theorem Ya{l l2 T5 T2 kk Tr m:Nat}{es:List Dt}{xs:Array Operand}{Ts:Array TypeId}{T':TypeId}(ho:o.op= .call ⟨.builtin .append,xs,Ts⟩)(hxs:xs.toList=[x,y])(hTs:Ts.toList=[T,T'])(e1:opd P E.dt σ T x= .row l)(e2:opd P E.dt σ T' y= .row l2)
  (hl:lk σ.hs l= .rowD T5 T2 none kk es none)(hl2:lk σ.hs l2= .rowA Tr [.row m])(h:vJ P n o σ T T' l l2 T5 T2 kk es Tr m k=some r):OpS P n o σ k r:=by
 have hxs':=two hxs;have hTs':=two hTs;subst hxs' hTs';have hx:x∈o.op.operands.toList:=by rw[ho];simp[Op.operands,Call.operands]
 have hy:y∈o.op.operands.toList:=by rw[ho];simp[Op.operands,Call.operands]
 unfold vJ at h;split at h
 ·rename_i Te z hTe hz;rw[hTe]at hz;split at h
  ·rename_i T4 ls E2 hlk hE2;have hh_:=aF h;clear h;obtain⟨hc,h⟩:=hh_;have c1:=beq_eq (aG hc);have hc:=aC hc;have c2:=beq_eq (aG hc);have hc:=aC hc;have c3:=beq_eq (aG hc);have hc:=aC hc;have c5:=bR (aG hc);have hc:=aC hc;have cr:=bR (aG hc);have hc:=aC hc;have c0:=beq_eq (aG hc);have hc:=aC hc;have cb:=aI (aG hc);have cl:=aI (aC hc);subst c1 c2 c3;have hh_:=dw h;clear h;obtain⟨hk0,h⟩:=hh_;obtain⟨d,hd,hn,hk⟩:=dD h;refine⟨_,hk,fun σ' ag=>?_⟩;have hu2:=bE hE2;have hh:iE P T4 none T4 0:=⟨c0,by rw[c0];exact Nat.one_pos,.inl ⟨rfl,rfl,rfl⟩⟩;have key:=Rq (σ:=σ') (l:=l) (l2:=l2) (l':=σ.hs.length+1) (q:=σ.hs.length) ho hd hn (bE hTe) c5.1 hh hu2 (dO hz) (by rw[c0];exact Nat.one_ne_zero) (by have:=Nat.mul_le_mul cl cb;omega) (bB ag hx e1) (by rw[ag.hs l (by simp)];exact hl) (by rw[ag.hs kk (by simp)];exact hlk)
        (by rw[ag.hs _ (by simp)];exact dF _ _ (by omega)) (by rw[ag.k0];omega) (by rw[ag.hs _ (by simp)];exact cZ σ) (by rw[ag.k0];exact hk0) (by omega)
        (bB ag hy e2) (by rw[ag.hs l2 (by simp)];exact hl2) cr.1 (Gp (m:=m) hu2 c0) cl
   rw[hd];exact key
  ·cases h
 ·cases h
theorem Yb{xs:Array Operand}{Ts:Array TypeId}{T':TypeId}(ho:o.op= .call ⟨.builtin .append,xs,Ts⟩)(hxs:xs.toList=[x,y])(hTs:Ts.toList=[T,T'])(h:vK P n o σ T T' (opd P E.dt σ T x) (opd P E.dt σ T' y) k=some r):OpS P n o σ k r:=by
 unfold vK at h;split at h
 ·rename_i l l2 e1 e2;split at h
  ·rename_i T5 T2 kk es Tr m q1 q2;exact Ya ho hxs hTs e1 e2 (Rf q1) (X9 q2) h
  cases hb:(am0 (lk σ.hs l2)||am0 (lk σ.hs l))with
  |false=>
   rw[hb,cond_false]at h;exact MF ho hxs hTs (by rw[e1,e2];exact h)
  |true=>
   rw[hb,cond_true]at h;have hxs':=two hxs;have hTs':=two hTs;subst hxs' hTs';have hx:x∈o.op.operands.toList:=by rw[ho];simp[Op.operands,Call.operands]
   have hy:y∈o.op.operands.toList:=by rw[ho];simp[Op.operands,Call.operands]
   unfold Ga at h;split at h
   ·    rename_i Te z hTe hz;rw[hTe]at hz;have hh_:=aF h;clear h;obtain⟨hc,h⟩:=hh_;have e:=beq_eq (aG hc);subst e;split at h
        ·rename_i es ds h1 h2;have hh_:=aF h;clear h;obtain⟨hl,h⟩:=hh_;have hh_:=dw h;clear h;obtain⟨hk0,h⟩:=hh_;obtain⟨d,hd,hn,hk⟩:=dD h;refine⟨_,hk,fun σ' ag=>?_⟩;have key:=Ro (σ:=σ') (l:=l) (l2:=l2) (l':=σ.hs.length) ho hd hn (bE hTe) (dO hz) (kL (aG (aC hc))) (aI (aC (aC hc))) (bB ag hx e1) (ag.hs l (by simp)) (Gj h1) (by rw[ag.hs _ (by simp)];exact cZ σ) (by rw[ag.k0];exact hk0) (bB ag hy e2) (ag.hs l2 (by simp)) (Gj h2) (aI hl);rw[hd];exact key
        ·cases h
   ·cases h
 ·exact MF ho hxs hTs h
theorem UA{D:List TypeId}{Te:TypeId}{τ:St}:∀{xs:List Operand},(∀z∈xs,Ev P τ z (opd P D σ Te z))->(xs.all fun z=>szB P Te (opd P D σ Te z))=true->EvLA P τ Te xs (xs.map (opd P D σ Te))
 | [],_,_=> .nil
 |z::xs,hev,h=>by simp only[List.all_cons,aJ]at h;obtain⟨q1,q2,_,_,q5⟩:=dK h.1;exact .cons (hev z (by simp)) q1 q2 q5 (UA (fun u hu=>hev u (by simp[hu])) h.2)
theorem Yc{len:Nat}{parts:Array (Nat×Operand)}(ho:o.op= .buildSlice T len parts)(h:vM P E n o σ T len parts.toList k=some r):OpS P n o σ k r:=by
 unfold vM at h;cases hb:E.nest o with
 |false=>rw[hb,cond_false]at h;exact I6 ho h
 |true=>
  rw[hb,cond_true]at h;unfold Gb at h;split at h
  ·rename_i Te hTe;split at h
   ·    rename_i z hz;have hh_:=aF h;clear h;obtain⟨hc0,h⟩:=hh_;have hc:=aC hc0;have hh_:=dw h;clear h;obtain⟨hk0,h⟩:=hh_;obtain⟨d,hd,hn,hk⟩:=dD h;refine⟨_,hk,fun σ' ag=>?_⟩;have hmem:∀z∈parts.toList.map (·.2),z∈o.op.operands.toList:=by intro z hz;rw[ho];simpa [Op.operands]using hz
        have hlen:len=(parts.toList.map (·.2)).length:=by rw[List.length_map];exact beq_eq (aG (aC hc))
        have hpos:parts.toList.map (·.2)≠[]:=by intro e;rw[e]at hlen;exact kL (aG (aC (aC hc))) hlen
        have key:=Rn (σ:=σ') (l:=σ.hs.length) ho hd hn (bE hTe) (by rw[ag.hs _ (by simp)];exact cZ σ) (by rw[ag.k0];exact hk0) (dO hz) (kL (aG (aC (aC (aC hc))))) (nA (aG hc)) hlen hpos
         (aI (aC (aC (aC (aC hc))))) (UA (D:=E.dt) (σ:=σ) (fun z hz=>fZ ag (hmem z hz)) (aG hc0))
        rw[hd];exact key
   ·cases h
  ·cases h
theorem anh{A:Type}{b:Bool}{u v:Option A}{q:A}(h:(bif b then u else v)=some q):(b=true∧u=some q)∨(b=false∧v=some q):=by
 cases b;·exact .inr ⟨rfl,h⟩
 ·exact .inl ⟨rfl,h⟩
theorem Yd{xs:Array Operand}{Ts:Array TypeId}{T':TypeId}(ho:o.op= .call ⟨.builtin .append,xs,Ts⟩)(hxs:xs.toList=[x,y])(hTs:Ts.toList=[T,T'])(h:vL P n o σ T T' (opd P E.dt σ T x) (opd P E.dt σ T' y) k=some r):OpS P n o σ k r:=by
 have hxs':=two hxs;have hTs':=two hTs;subst hxs' hTs';have hx:x∈o.op.operands.toList:=by rw[ho];simp[Op.operands,Call.operands]
 have hy:y∈o.op.operands.toList:=by rw[ho];simp[Op.operands,Call.operands]
 unfold vL at h;split at h
 ·rename_i Te hTe;obtain⟨hc,h⟩:=aF h;have hu8:=aG hc;have hS:=gP (aC hc);unfold u8B at hu8;have he:=fK (aG hu8);have hinf:=aC hu8;split at hinf
  ·rename_i i hi;have h1:=beq_eq (aG hinf);have h2:=beq_eq (aG (aC hinf));have h3:=aC (aC hinf);split at h3
   ·    rename_i m hm;have hm0:m=0:=of_decide_eq_true h3;subst hm0;split at h
        ·rename_i T2 s e2;obtain⟨d1,e3,u2,rfl⟩:=dY e2;split at h
         ·rename_i l e1;split at h
          ·rename_i T5 es hl;obtain⟨hc5,h⟩:=aF h;obtain⟨hk0,h⟩:=dw h;obtain⟨rs,hrs,h⟩:=aj.1 h;obtain⟨p1,p2⟩:=Ku hrs;subst p2;obtain⟨d,hd,hn,hk⟩:=dD h;refine⟨_,hk,fun σ' ag=>?_⟩;have key:=D5 (σ:=σ') (l:=l) (l':=σ.hs.length) ho hd hn (bE hTe) (bR hc5).1 hS u2 he hi hm h1 h2 (bB ag hx e1) (by rw[ag.hs l (by simp)];exact hl) (by rw[ag.hs _ (by simp)];exact cZ σ) (by rw[ag.k0];exact hk0) ((bB ag hy e3).cstr u2) p1;rw[hd];exact key
          ·cases h
         ·cases h
        ·cases h
   ·cases h3
  ·cases hinf
 ·cases h
theorem ani{S1 S2 Te:TypeId}(ho:o.op= .convert S1 S2 x)(hTe:slE P S1=some Te)(h:IJ P n o σ Te S2 (opd P E.dt σ S1 x) k=some r):OpS P n o σ k r:=by
 have hx:x∈o.op.operands.toList:=by rw[ho];simp[Op.operands]
 unfold IJ at h;obtain⟨hc,h⟩:=aF h;have he:=fK (aG hc);have hc1:=beq_eq (aG (aC hc));have hS:=gP (aC (aC hc));split at h
 ·rename_i rd ds hsrc;obtain⟨s,hs,h⟩:=aj.1 h;unfold axk at hs;obtain⟨hb,hs⟩:=aF hs;have hlen:=aI hb;cases hs;obtain⟨d,hd,hn,hk⟩:=dD h;refine⟨_,hk,fun σ' ag=>?_⟩;have key:=D6 (σ:=σ') ho hd hn (bE hTe) hS he hc1 (I7 hsrc σ' (fZ ag hx) fun l2 hl2=>ag.hs l2 (by simp[hl2])) hlen;rw[hd];exact key
 ·cases h
