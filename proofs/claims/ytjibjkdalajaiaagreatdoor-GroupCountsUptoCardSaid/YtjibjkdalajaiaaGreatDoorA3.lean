/- The abstract machine, part 10: the machine itself.
The abstract machine,part 11:regions,code,functions.
The abstract machine,part 12:what the helpers compute is so.
The abstract machine,part 13:each operation of the machine is so in the model.
The abstract machine,part 14:each operation of the machine is so in the model,continued.
The abstract machine,part 15:slice literals,append,calls.
The abstract machine,part 16:calls.
The abstract machine,part 17:regions. -/
import Derived.Test.YtjibjkdalajaiaaGreatDoorA2
set_option linter.all false
namespace Go.Am
open Go.RowKit
abbrev Res:=AV×List Ob
structure Env where
 dt:List TypeId
 fns:FuncId->Option Func
 keep:FuncId->Nat->Option (List Nat×List Nat×List Nat)
 raw:FuncId->Bool
 own:FuncId->Bool
 lnd:FuncId->Bool
 nd:FuncId->List Nat:=fun _=>[]
 pkb:FuncId->Bool:=fun _=>false
 nest:Oper->Bool:=fun _=>false
 rdo:FuncId->Bool:=fun _=>false
 sld:Oper->Bool:=fun _=>false
 npk:TypeId->Bool:=fun _=>false
 fzc:FuncId->Bool:=fun _=>false
 pty:TypeId->Option TypeId:=fun _=>none
 sam:FuncId->Bool:=fun _=>false
 foc:FuncId->Nat->Option (Nat×Nat×Nat):=fun _ _=>none
 orc:FuncId->Option (List AV->List Ob->Option (AV×List Ob))
def avF(av:TypeId->List Value->Option AV)(P:Program)(cs:List Value):List Field->Option (List AV)
 | []=>some []
 |  f::fs=>match avF av P cs fs with
    |some vs=>some ((match av f.type ((cs.drop f.offset).take (P.cellsOf f.type))with
     |some v=>v
     |none=> .dead)::vs)
    |none=>none
def avC(P:Program):Nat->TypeId->List Value->Option AV
 |0,_,_=>none
 |  k+1,T,cs=>match P.underlying T with
    |some (.int q)=>match cs with
     | [.int q' m]=>bif (decide (q=q')&&(decide (q.min<=m)&&decide (m<=q.max)))then some (.dat T (.int m))else none
     |_=>none
    |some .bool=>match cs with
     | [.bool b]=>some (.dat T (.bool b))
     |_=>none
    |some .string=>match cs with
     | [.string s]=>bif Nat.ble s.size maxLen then some (.dat T (.str s))else none
     |_=>none
    |some (.slice _)=>match cs with
     | [.slice none 0 0]=>some (.nils T)
     |_=>none
    |some (.struct fs)=>bif (Nat.beq cs.length (P.cellsOf T)&&cs.all (·.oneCell'))then(match avF (avC P k) P cs fs.toList with
     |some vs=>some (.agg T vs)
     |none=>none)else none
    |some (.interface _)=>match cs with
     | [.nilIface]=>some (.nif true)
     |_=>none
    |some (.pointer _)=>match cs with
     | [.pointer none]=>some (.dat T (.lst []))
     |_=>none
    |_=>none
def EZ:Value->Bool
 | .agg _=>true
 |_=>false
def cst(P:Program)(v:Value):List TypeId->AV
 | []=> .dead
 |  T::r=>match avC P 8 T v.cells.toList with
    |some a=>bif EZ v==dQ P T then a else .dead
    |none=>cst P v r
def zeroV(P:Program)(T:TypeId):Option AV:=match P.info? T with
 |  some i=>match i.zero with
    |some z=>bif Nat.beq z.cells.size (P.cellsOf T)then avC P 8 T z.cells.toList else none
    |none=>none
 |none=>none
def opd(P:Program)(D:List TypeId)(σ:St)(T:TypeId):Operand->AV
 | .tmp t=>tk σ.ts t
 | .const v=>cst P v (T::D)
 | .func f=> .fn f []
 | .global _=> .dead
def cO(P:Program)(D:List TypeId)(σ:St):List TypeId->List Operand->List AV
 |T::Ts,x::xs=>opd P D σ T x::cO P D σ Ts xs
 |_,_=>[]
def Ye(P:Program):AV->Option Bool
 |  .dat T d=>match P.underlying T with
    |some .bool=>some d.toBool
    |_=>none
 |_=>none
def ival(P:Program):AV->Option (TypeId×IntKind×Int)
 |  .dat T d=>match P.underlying T with
    |some (.int k)=>some (T,k,d.toInt)
    |_=>none
 |_=>none
def Nz(P:Program):AV->Option (TypeId×ByteArray)
 |  .dat T d=>match P.underlying T with
    |some .string=>some (T,d.toStr)
    |_=>none
 |_=>none
def lval(P:Program)(hs:List Ob)(v:AV):Option (TypeId×TypeId×List Dt):=match pk P hs v with
 |  some (T,d)=>match P.underlying T with
    |some (.slice E)=>some (T,E,d.toLst)
    |_=>none
 |none=>none
def isB(P:Program)(T:TypeId):Bool:=match P.underlying T with
 |some .bool=>true
 |_=>false
def bT(P:Program):List TypeId->Option TypeId
 | []=>none
 |T::r=>bif isB P T then some T else bT P r
def isI(P:Program)(T:TypeId)(k:IntKind):Bool:=match P.underlying T with
 |some (.int k')=>decide (k'=k)
 |_=>false
def isS(P:Program)(T:TypeId):Bool:=match P.underlying T with
 |some .string=>true
 |_=>false
def slE(P:Program)(T:TypeId):Option TypeId:=match P.underlying T with
 |some (.slice E)=>some E
 |_=>none
def stF(P:Program)(T:TypeId):Option (Array Field):=match P.underlying T with
 |some (.struct fs)=>some fs
 |_=>none
def szA(P:Program)(T:TypeId):AV->Bool
 |  .dat T' _=>match P.underlying T' with
    |some (.struct _)=>Nat.beq (P.cellsOf T') (P.cellsOf T)
    |some (.array _ _)=>Nat.beq (P.cellsOf T') (P.cellsOf T)
    |some _=>Nat.beq (P.cellsOf T) 1
    |none=>false
 |  .agg T' _=>match P.underlying T' with
    |some (.struct _)=>Nat.beq (P.cellsOf T') (P.cellsOf T)
    |_=>false
 | .dead=>false
 | .tup _=>false
 |_=>Nat.beq (P.cellsOf T) 1
def szB(P:Program)(T:TypeId)(v:AV):Bool:=(P.underlying T).isSome&&szA P T v
def getAt(P:Program):TypeId->AV->List Nat->Option (TypeId×Nat×AV)
 |S,c,[]=>some (S,0,c)
 |  S,.agg S' vs,i::p=>match stF P S with
    |some fs=>match fs[i]? with
     |some f=>match vs[i]? with
      |some v=>bif (Nat.beq S' S&&Nat.ble (f.offset+P.cellsOf f.type) (P.cellsOf S))then(match getAt P f.type v p with
       |some (T,q,r)=>some (T,f.offset+q,r)
       |none=>none)else none
      |none=>none
     |none=>none
    |none=>none
 |  S,.dat S' d,i::p=>match stF P S with
    |some fs=>match fs[i]? with
     |some f=>bif (Nat.beq S' S&&Nat.ble (f.offset+P.cellsOf f.type) (P.cellsOf S))then(match getAt P f.type (.dat f.type (d.fld i)) p with
       |some (T,q,r)=>some (T,f.offset+q,r)
       |none=>none)else none
     |none=>none
    |none=>none
 |_,_,_::_=>none
def setAt(P:Program)(T':TypeId)(v:AV):TypeId->AV->List Nat->Option (Nat×AV)
 |S,_,[]=>bif Nat.beq S T' then some (0,v)else none
 |  S,c,i::p=>match stF P S with
    |some fs=>match fs[i]? with
     |some f=>match (match c with
        | .agg S' vs=>bif Nat.beq S' S then some vs else none
        | .dat S' d=>bif Nat.beq S' S then some (expl P fs d)else none
        |_=>none:Option (List AV))with
      | some vs=>match vs[i]? with
        |some old=>bif layB P S fs then(match setAt P T' v f.type old p with
         |some (q,new)=>some (f.offset+q,.agg S (vs.set i new))
         |none=>none)else none
        |none=>none
      |none=>none
     |none=>none
    |none=>none
def AV.canon(P:Program):AV->AV
 | .dat T d=> .dat T (canD P T d)
 |v=>v
structure Dl where
 v:Option AV
 rd:List Nat
 wr:List (Nat×Ob)
def wrO(hs:List Ob):List (Nat×Ob)->List Ob
 | []=>hs
 |(l,o)::r=>wrO (bA hs l o) r
def agd(ts:List AV):Option Nat->Option AV->List AV
 |some d,some v=>zD ts d v
 |_,_=>ts
def St.app(σ:St)(dst:Option Nat)(X:Dl):St:=⟨agd σ.ts dst X.v,wrO σ.hs X.wr,σ.k0⟩
mutual
def AV.nms:AV->List Nat
 | .agg _ vs=>AV.nmsL vs
 | .row l=>[l]
 | .ptr l _ _=>[l]
 | .eptr l _ _ _ _=>[l]
 | .fn _ vs=>AV.nmsL vs
 | .tup vs=>AV.nmsL vs
 | .ifc _ v=>AV.nms v
 |_=>[]
def AV.nmsL:List AV->List Nat
 | []=>[]
 |v::r=>AV.nms v++AV.nmsL r
end
mutual
def AV.rws:AV->List Nat
 | .agg _ vs=>AV.rwsL vs
 | .row l=>[l]
 | .tup vs=>AV.rwsL vs
 | .ifc _ v=>AV.rws v
 |_=>[]
def AV.rwsL:List AV->List Nat
 | []=>[]
 |v::r=>AV.rws v++AV.rwsL r
end
def Ob.nms:Ob->List Nat
 | .box _ c=>c.nms
 | .rowA _ vs=>AV.nmsL vs
 | .rowD _ _ _ k _ none=>[k]
 | .rowD _ _ _ k _ (some (_,l))=>[k,l]
 |_=>[]
def reach(hs:List Ob):Nat->List Nat->List Nat->List Nat
 |0,_,acc=>acc
 |_+1,[],acc=>acc
 |k+1,l::todo,acc=>bif ny l acc then reach hs k todo acc else reach hs k ((lk hs l).nms++todo) (acc++[l])
def Td(hs:List Ob)(T2 k:Nat):List Nat->Option (List Dt)
 | []=>none
 |  k'::_=>match lk hs k' with
    | .tok T4 ls=>bif Nat.beq k' k&&Nat.beq T4 T2 then some ls else none
    |_=>none
def frzW(hs:List Ob):List Nat->List (Nat×Ob)
 | []=>[]
 |  l ::r=>match lk hs l with
    | .row T es=>(l,.frz T es)::frzW (bA hs l (.frz T es)) r
    | .rowD T T2 c k es none=>match Td hs T2 k r with
      |some ls=>(l,.row T (frzD c es ls))::(k,.gone)::(l,.frz T (frzD c es ls))::frzW (bA (bA (bA hs l (.row T (frzD c es ls))) k .gone) l (.frz T (frzD c es ls))) r
      |none=>frzW hs r
    |_=>frzW hs r
def agf(P:Program)(pty:TypeId->Option TypeId)(hs:List Ob)(l:Nat):Option Ob:=match lk hs l with
 |  .box T c=>match pty T with
    |some PT=>match ppE P PT with
     |some T2=>match pk P hs c with
      |some (T',d)=>bif (Nat.beq T' T&&Nat.beq T2 T)then some (.frz PT [d])else none
      |none=>none
     |none=>none
    |none=>none
 |_=>none
def fzbW(P:Program)(pty:TypeId->Option TypeId)(hs:List Ob):List Nat->List (Nat×Ob)
 | []=>[]
 |  l::r=>match agf P pty hs l with
    |some o=>(l,o)::fzbW P pty (bA hs l o) r
    |none=>fzbW P pty hs r
def iM:List AV->List Nat
 | []=>[]
 |  v::r=>(match v with
    | .ptr l [] 0=>[l]
    |_=>[])++iM r
def pkZ(hs:List Ob)(v:AV):AV:=match v with
 |  .ptr l [] 0=>(match lk hs l with
    | .frz T es=> .dat T (.lst es)
    |_=>v)
 |v=>v
def ahT(k:Nat):List TypeId->List (Nat×Ob)
 | []=>[]
 |T::r=>(k,.row T [])::ahT (k+1) r
def xO(Y:Nat->Option Nat)(nm:Nat):List Nat->List Ob->List (Nat×Ob)
 |_,[]=>[]
 | [],o::os=>(nm,o.ren Y)::xO Y (nm+1) [] os
 |l::src,o::os=>(l,o.ren Y)::xO Y nm src os
def Vt:AV->Bool
 | .nils _=>true
 |_=>false
def pkA(P:Program)(b:Bool)(hs:List Ob)(v:AV):AV:=bif (b&&Vt v)then v else match pk P hs v with
 |some (T,d)=> .dat T d
 |none=>v
def dn1(P:Program)(v:AV):AV:=match v with
 |  .nils T=>match P.underlying T with
    |some (.slice _)=> .dat T (.lst [])
    |_=>v
 |_=>v
def dnL(P:Program)(ps:List Nat):Nat->List AV->List AV
 |_,[]=>[]
 |k,v::r=>(bif ny k ps then dn1 P v else v)::dnL P ps (k+1) r
def sM(P:Program)(hs:List Ob)(v:AV):AV:=match v with
 |  .ptr l [] 0=>match lk hs l with
    | .box T c=>match pk P hs c with
      |some (T',d)=>bif Nat.beq T' T then .rptr T d else v
      |none=>v
    |_=>v
 |_=>v
def Ce(P:Program)(hs:List Ob)(v:AV):AV:=match v with
 | .fn f caps=> .fn f (caps.map (sM P hs))
 |_=>sM P hs v
def Gu(hs:List Ob):List Nat->List Nat
 | []=>[]
 |  l::r=>(match lk hs l with
    | .rowD _ _ _ k _ _=>[l,k]
    |_=>[l])++Gu hs r
def dH(hs:List Ob):List Nat->List Nat
 | []=>[]
 |  l::r=>(match lk hs l with
    | .box _ c=>Gu hs c.rws
    |_=>[])++dH hs r
def upto:Nat->Nat->List Nat
 |_,0=>[]
 |k,m+1=>k::upto (k+1) m
def allNames(hs:List Ob):List Nat->Bool
 | []=>true
 |  l::r=>(match lk hs l with
    | .free=>false
    |_=>true)&&allNames hs r
def Yf(P:Program):List AV->Bool
 | []=>true
 |  v::r=>(match v with
    | .tup _=>false
    | .dead=>false
    |v=>!v.isAgg P)&&Yf P r
section
variable{R:Type}(P:Program)(E:Env)(call:FuncId->List AV->List Ob->(Res->Option R)->Option R)
def out(n:Nat)(o:Oper)(v:AV)(rd:List Nat)(wr:List (Nat×Ob))(k:Dl->Option R):Option R:=match o.dst with
 |some d=>bif Nat.blt d n then k ⟨some v,rd,wr⟩else none
 |none=>none
def abf(o:Oper)(rd:List Nat)(wr:List (Nat×Ob))(k:Dl->Option R):Option R:=match o.dst with
 |some _=>none
 |none=>k ⟨none,rd,wr⟩
def new(σ:St)(k:Nat->Option R):Option R:=bif Nat.ble σ.k0 σ.hs.length then k σ.hs.length else none
def ahU(n:Nat)(o:Oper)(op:BinOp)(T:TypeId)(q:IntKind)(a b:Int)(k:Dl->Option R):Option R:=
 let cmp (r:Bool):Option R:=match bT P (o.type::E.dt)with
    |some TB=>out n o (.dat TB (.bool r)) [] [] k
    |none=>none
 match op with
 | .add=>out n o (.dat T (.int (q.wrap (a+b)))) [] [] k
 | .sub=>out n o (.dat T (.int (q.wrap (a-b)))) [] [] k
 | .mul=>out n o (.dat T (.int (q.wrap (a*b)))) [] [] k
 | .quo=>bif decide (b=0)then none else out n o (.dat T (.int (q.wrap (a.tdiv b)))) [] [] k
 | .rem=>bif decide (b=0)then none else out n o (.dat T (.int (a.tmod b))) [] [] k
 | .and=>out n o (.dat T (.int (andI q a b))) [] [] k
 | .or=>out n o (.dat T (.int (orI q a b))) [] [] k
 | .xor=>out n o (.dat T (.int (xorI q a b))) [] [] k
 | .andNot=>out n o (.dat T (.int (bicI q a b))) [] [] k
 | .lss=>cmp (decide (a<b))
 | .leq=>cmp (decide (a<=b))
 | .gtr=>cmp (decide (b<a))
 | .geq=>cmp (decide (b<=a))
 | .eql=>cmp (a==b)
 | .neq=>cmp (a !=b)
 |_=>none
def ahV(n:Nat)(o:Oper)(op:BinOp)(T:TypeId)(a b:ByteArray)(k:Dl->Option R):Option R:=
 let cmp (r:Bool):Option R:=match bT P (o.type::E.dt)with
    |some TB=>out n o (.dat TB (.bool r)) [] [] k
    |none=>none
 match op with
 | .add=>bif Nat.ble (a.size+b.size) 1152921504606846976 then out n o (.dat T (.str (a++b))) [] [] k else none
 | .lss=>cmp (Op.bytesLess a.toList b.toList)
 | .eql=>cmp (a.toList==b.toList)
 | .neq=>cmp (!(a.toList==b.toList))
 |_=>none
def abg(n:Nat)(o:Oper)(op:BinOp)(a b:Bool)(k:Dl->Option R):Option R:=
 let cmp (r:Bool):Option R:=match bT P (o.type::E.dt)with
    |some TB=>out n o (.dat TB (.bool r)) [] [] k
    |none=>none
 match op with
 | .eql=>cmp (a==b)
 | .neq=>cmp (!(a==b))
 |_=>none
def Rb(σ:St)(fs:Array Field):List (Nat×Operand)->List AV->Option (List AV)
 | [],vs=>some vs
 |  (i,x)::r,vs=>match fs[i]? with
    |some f=>bif szB P f.type (opd P E.dt σ f.type x)then Rb σ fs r (vs.set i (opd P E.dt σ f.type x))else none
    |none=>none
def dense:Nat->List (Nat×Operand)->Bool
 |_,[]=>true
 |j,(i,_)::r=>Nat.beq i j&&dense (j+1) r
def zG(hs:List Ob)(Te:TypeId):List AV->Option (List Dt)
 | []=>some []
 |  v::r=>match pk P hs v with
    |some (T,d)=>bif (compat P T Te&&szB P Te (.dat Te d))then(match zG hs Te r with
     |some ds=>some (d::ds)
     |none=>none)else none
    |none=>none
def vZ(σ:St)(m:Int):Option Operand->Option Int
 |none=>some m
 |  some x=>match ival P (opd P E.dt σ 0 x)with
    |some (_,_,i)=>some i
    |none=>none
def agh(n:Nat)(o:Oper):Bool:=match o.dst with
 |some d=>Nat.blt d n
 |none=>true
def EC:Ob->Ob
 |  .box T c=>match pk P [] c with
    |some (T',d)=>bif Nat.beq T' T then .box T (.dat T (canD P T d))else .box T c
    |none=> .box T c
 |o=>o
def apu(b:Bool)(os:List Ob):List Ob:=bif b then os.map (EC P)else os
mutual
def Yg:Dt->Dt->Bool
 | .int a,.int b=>decide (a=b)
 | .bool a,.bool b=>decide (a=b)
 | .str a,.str b=>a==b
 | .agg a,.agg b=>Bo a b
 | .lst a,.lst b=>Bo a b
 |_,_=>false
def Bo:List Dt->List Dt->Bool
 | [],[]=>true
 |a::r,b::s=>Yg a b&&Bo r s
 |_,_=>false
end
mutual
theorem adS:∀{a b:Dt},Yg a b=true->a=b
 | .int a,b,h=>by cases b<;>simp only[Yg]at h<;>first|cases h|(rw[of_decide_eq_true h])
 | .bool a,b,h=>by cases b<;>simp only[Yg]at h<;>first|cases h|(rw[of_decide_eq_true h])
 | .str a,b,h=>by cases b<;>simp only[Yg]at h<;>first|cases h|(rw[(vU _ _).1 h])
 | .agg a,b,h=>by cases b<;>simp only[Yg]at h<;>first|cases h|(rw[Cg h])
 | .lst a,b,h=>by cases b<;>simp only[Yg]at h<;>first|cases h|(rw[Cg h])
theorem Cg:∀{a b:List Dt},Bo a b=true->a=b
 | [],b,h=>by cases b<;>simp only[Bo]at h<;>first|rfl|cases h
 |x::r,b,h=>by
  cases b with
  |nil=>simp only[Bo]at h;cases h
  |cons y s=>
   simp only[Bo,aN]at h;rw[adS h.1,Cg h.2]
end
mutual
def Ch:AV->AV->Bool
 | .dat T a,.dat S b=>Nat.beq T S&&Yg a b
 | .agg T a,.agg S b=>Nat.beq T S&&ED a b
 | .row a,.row b=>Nat.beq a b
 | .ptr a p i,.ptr b q j=>Nat.beq a b&&(decide (p=q)&&Nat.beq i j)
 | .fn f a,.fn g b=>Nat.beq f g&&ED a b
 | .nils T,.nils S=>Nat.beq T S
 | .dead,.dead=>true
 |_,_=>false
def ED:List AV->List AV->Bool
 | [],[]=>true
 |a::r,b::s=>Ch a b&&ED r s
 |_,_=>false
end
mutual
theorem adT:∀{a b:AV},Ch a b=true->a=b
 | .dat T a,b,h=>by cases b<;>simp only[Ch,aN]at h<;>first|cases h;done|(rw[aS h.1,adS h.2])
 | .agg T a,b,h=>by cases b<;>simp only[Ch,aN]at h<;>first|cases h;done|(rw[aS h.1,zH h.2])
 | .row a,b,h=>by cases b<;>simp only[Ch]at h<;>first|cases h;done|(rw[aS h])
 | .ptr a p i,b,h=>by cases b<;>simp only[Ch,aN]at h<;>first|cases h;done|(rw[aS h.1,of_decide_eq_true h.2.1,aS h.2.2])
 | .fn f a,b,h=>by cases b<;>simp only[Ch,aN]at h<;>first|cases h;done|(rw[aS h.1,zH h.2])
 | .nils T,b,h=>by cases b<;>simp only[Ch]at h<;>first|cases h;done|(rw[aS h])
 | .dead,b,h=>by cases b<;>simp only[Ch]at h<;>first|rfl|cases h
 | .eptr _ _ _ _ _,b,h=>by simp only[Ch]at h;cases h
 | .rptr _ _,b,h=>by simp only[Ch]at h;cases h
 | .tup _,b,h=>by simp only[Ch]at h;cases h
 | .nif _,b,h=>by simp only[Ch]at h;cases h
 | .ifc _ _,b,h=>by simp only[Ch]at h;cases h
 | .mth _ _,b,h=>by simp only[Ch]at h;cases h
theorem zH:∀{a b:List AV},ED a b=true->a=b
 | [],b,h=>by cases b<;>simp only[ED]at h<;>first|rfl|cases h
 |x::r,b,h=>by
  cases b with
  |nil=>simp only[ED]at h;cases h
  |cons y s=>
   simp only[ED,aN]at h;rw[adT h.1,zH h.2]
end
def ahW:Ob->Ob->Bool
 | .box T a,.box S b=>Nat.beq T S&&Ch a b
 | .row T a,.row S b=>Nat.beq T S&&Bo a b
 | .rowA T a,.rowA S b=>Nat.beq T S&&ED a b
 | .frz T a,.frz S b=>Nat.beq T S&&Bo a b
 | .map T a,.map S b=>Nat.beq T S&&Bo a b
 | .tok T a,.tok S b=>Nat.beq T S&&Bo a b
 | .rowD T S c k a h,.rowD T' S' c' k' b h'=>decide (T=T'∧S=S'∧c=c'∧k=k'∧h=h')&&Bo a b
 | .gone,.gone=>true
 |_,_=>false
theorem adU{a b:Ob}(h:ahW a b=true):a=b:=by cases a<;>cases b<;>simp only[ahW,aN]at h<;>first|rfl|cases h;done|(rw[aS h.1,adT h.2])|(rw[aS h.1,Cg h.2])|(rw[aS h.1,zH h.2])|(obtain⟨h1,h2⟩:=h;obtain⟨rfl,rfl,rfl,rfl,rfl⟩:=of_decide_eq_true h1;rw[Cg h2])
def ahX(hs:List Ob)(src:List Nat):List (Nat×Ob)->List (Nat×Ob)
 | []=>[]
 |(l,o)::r=>bif (ny l src&&ahW o (lk hs l))then ahX hs src r else(l,o)::ahX hs src r
def keepW(b:Bool)(hs:List Ob)(src:List Nat)(ws:List (Nat×Ob)):List (Nat×Ob):=bif (b&&nodupB (ws.map (·.1)))then ahX hs src ws else ws
def wh(n:Nat)(o:Oper)(σ:St)(f:FuncId)(as:List AV)(hs1:List Ob)(rd0:List Nat)(wr0:List (Nat×Ob))(nm:Nat)(src:List Nat)(k:Dl->Option R):Option R:=
 bif (nodupB src&&(allNames hs1 src&&Nat.ble σ.k0 σ.hs.length))then
    call f (AV.renL (ix src) as) (apu P (E.pkb f) (uK (ix src) hs1 src)) fun q=>
     bif (Nat.ble src.length q.2.length&&agh n o)then
      k ⟨o.dst.map fun _=>q.1.ren (bkN src nm),rd0++(src++upto σ.hs.length ((nm-σ.hs.length)+(q.2.length-src.length))),wr0++keepW (E.rdo f) hs1 src (xO (bkN src nm) nm src q.2)⟩
     else none
 else none
def scT(T:TypeId):Bool:=match P.underlying T with
 |some (.int _)=>true
 |some .bool=>true
 |some .string=>true
 |_=>false
def scV:AV->Bool
 | .dat T _=>scT P T
 |_=>false
def scR:AV->Bool
 | .tup vs=>vs.all (scV P)
 |v=>scV P v
def ahY(f:FuncId):Bool:=match E.fns f with
 |some fn=>fn.resultTypes.toList.all (scT P)
 |none=>false
def isNil{A:Type}:List A->Bool
 | []=>true
 |_=>false
def abh(n:Nat)(o:Oper)(σ:St)(g:Operand)(xs:List Operand)(Ts:List TypeId)(k:Dl->Option R):Option R:=
 match opd P E.dt σ 0 g with
 |  .fn f caps=>bif (Nat.beq xs.length Ts.length&&Yf P caps)then
    (bif E.own f then
     let r1:=AV.n2rL P (dnL P (E.nd f) 0 (cO P E.dt σ Ts xs)) σ.hs.length
     let hs1:=BI σ.hs σ.hs.length r1.2
     wh P E call n o σ f (r1.1++caps) hs1 [] (ahT σ.hs.length r1.2) (σ.hs.length+r1.2.length) (reach hs1 1000 (AV.nmsL (r1.1++caps)) []) k
    else bif E.fzc f then
     let bs:=iM (cO P E.dt σ Ts xs)
     let L:=AV.rwsL (cO P E.dt σ Ts xs)++dH σ.hs bs
     let hs1:=wrO σ.hs (frzW σ.hs L)
     let hs2:=wrO hs1 (fzbW P E.pty hs1 bs)
     wh P E call n o σ f ((cO P E.dt σ Ts xs).map (fun v=>pkZ hs2 (pkA P (E.raw f) hs2 v))++caps) hs2 (L++bs) (frzW σ.hs L++fzbW P E.pty hs1 bs) σ.hs.length (reach hs2 1000 (AV.nmsL ((cO P E.dt σ Ts xs).map (fun v=>pkZ hs2 (pkA P (E.raw f) hs2 v))++caps)) []) k
    else
     let rws:=AV.rwsL (cO P E.dt σ Ts xs)
     let fw:=frzW σ.hs rws
     let hs1:=wrO σ.hs fw
     let as1:=(cO P E.dt σ Ts xs).map (pkA P (E.raw f) hs1)
     bif (ahY P E f&&isNil (AV.nmsL (as1++caps)))then
        call f (AV.renL (ix []) (as1++caps)) [] fun q=>bif (scR P q.1&&(isNil q.2&&agh n o))then k ⟨o.dst.map fun _=>q.1,rws,[]⟩else none
     else
        let bx:=AV.nmsL (cO P E.dt σ Ts xs++caps)
        let L:=rws++dH σ.hs bx
        let hs2:=wrO σ.hs (frzW σ.hs L)
        let as2:=(cO P E.dt σ Ts xs).map fun v=>Ce P hs2 (pkA P (E.raw f) hs2 v)
        let cs2:=caps.map (sM P hs2)
        bif (E.lnd f&&(ahY P E f&&isNil (AV.nmsL (as2++cs2))))then
          call f (AV.renL (ix []) (as2++cs2)) [] fun q=>bif (scR P q.1&&(isNil q.2&&agh n o))then k ⟨o.dst.map fun _=>q.1,L++bx,[]⟩else none
        else
          wh P E call n o σ f (as1++caps) hs1 rws fw σ.hs.length (reach hs1 1000 (AV.nmsL (as1++caps)) []) k)
    else none
 |_=>none
def abj:AV->Bool
 | .dead=>false
 | .tup _=>false
 |_=>true
def Vu(n:Nat)(o:Oper)(σ:St)(T:TypeId)(x:Operand)(k:Dl->Option R):Option R:=
 bif (Nn P T&&abj (opd P E.dt σ T x))then out n o (.ifc T (opd P E.dt σ T x)) [] [] k else none
def ahZ(n:Nat)(o:Oper)(σ:St)(g:Operand)(name:String)(xs:List Operand)(Ts:List TypeId)(k:Dl->Option R):Option R:=
 match opd P E.dt σ 0 g with
 |  .ifc T v=>match La P T name with
    |some f=>bif (Nat.beq xs.length Ts.length&&(abj v&&!E.own f))then
      let rws:=AV.rwsL (v::cO P E.dt σ Ts xs)
      let fw:=frzW σ.hs rws
      let hs1:=wrO σ.hs fw
      let as1:=(v::cO P E.dt σ Ts xs).map (pkA P (E.raw f) hs1)
      wh P E call n o σ f as1 hs1 rws fw σ.hs.length (reach hs1 1000 (AV.nmsL as1) []) k
     else none
    |none=>none
 |_=>none
def jr(T Te:TypeId):Bool:=(match slE P T with
 |some Te'=>Nat.beq Te' Te
 |none=>false)&&!Nat.beq (P.cellsOf Te) 0
def Gv(T:TypeId):Option Dt:=match zeroV P T with
 |  some v=>match pk P [] v with
    |some (T',d)=>bif Nat.beq T' T then some d else none
    |none=>none
 |none=>none
def Gw(   n:Nat)(o:Oper)(σ:St)(T T':TypeId)(vx vy:AV)(k:Dl->Option R):Option R:=
 match slE P T,Gv P ((slE P T).getD 0)with
 |  some Te,some _=>bif (Nat.beq T T'&&!Nat.beq (P.cellsOf Te) 0)then
    match (match vy with
     | .row l=>match lk σ.hs l with
       | .row T5 ds=>bif jr P T5 Te then some ([l],ds)else none
       | .frz T5 ds=>bif jr P T5 Te then some ([l],ds)else none
       |_=>none
     | v=>match lval P [] v with
       |some (_,Te',ds)=>bif Nat.beq Te' Te then some ([],ds)else none
       |none=>none:Option (List Nat×List Dt))with
    |some (rd,ds)=>match vx with
     | .row l=>match lk σ.hs l with
       | .row T5 es=>bif jr P T5 Te then new σ fun nm=>ahM (P.bytesOf Te) es ds fun rs=>out n o (.row nm) (l::nm::rd) [(l,.gone),(nm,.row T5 rs)] k else none
       | .rowD T5 T2 c kk es none=>match lk σ.hs kk with
         | .tok T4 ls=>bif jr P T5 Te&&(Nat.beq T4 T2&&ds.all fun e=>!lkd c e)then new σ fun nm=>ahM (P.bytesOf Te) es ds fun rs=>
          out n o (.row (nm+1)) (l::kk::nm::(nm+1)::rd) [(l,.rowD T5 T2 c nm es none),(kk,.gone),(nm,.tok T2 (ls++List.replicate ds.length (.lst []))),(l,.gone),(nm+1,.rowD T5 T2 c nm rs none)] k else none
         |_=>none
       |_=>none
     | .nils T5=>bif jr P T5 Te then new σ fun nm=>ahM (P.bytesOf Te) [] ds fun rs=>out n o (.row (nm+1)) (nm::(nm+1)::rd) [(nm,.gone),(nm+1,.row T5 rs)] k else none
     |_=>none
    |none=>none
    else none
 |_,_=>none
def aqN(P:Program)(Te:TypeId):Ob->Option (List AV)
 | .row T es=>bif jr P T Te then some (es.map (.dat Te))else none
 | .rowA T vs=>bif jr P T Te then some vs else none
 |_=>none
def Tf(n:Nat)(o:Oper)(σ:St)(T T':TypeId)(l l2:Nat)(k:Dl->Option R):Option R:=
 match slE P T,Gv P ((slE P T).getD 0)with
 |  some Te,some _=>bif (Nat.beq T T'&&(!Nat.beq (P.cellsOf Te) 0&&Nat.ble (P.bytesOf Te) 1024))then
    match aqN P Te (lk σ.hs l),aqN P Te (lk σ.hs l2)with
    |some es,some ds=>bif Nat.ble (es.length+ds.length) 137438953472 then
     new σ fun nm=>out n o (.row nm) [l,nm,l2] [(l,.gone),(nm,.rowA T (es++ds))] k else none
    |_,_=>none
    else none
 |_,_=>none
def ane:Ob->Bool
 | .rowA _ _=>true
 |_=>false
def ah0:Ob->Option (TypeId×TypeId×Nat×List Dt)
 | .rowD T5 T2 none kk es none=>some (T5,T2,kk,es)
 |_=>none
def aqO:Ob->Option (TypeId×Nat)
 | .rowA T [.row m]=>some (T,m)
 |_=>none
def I4(n:Nat)(o:Oper)(σ:St)(T T':TypeId)(l l2:Nat)(T5 T2 kk:Nat)(es:List Dt)(Tr m:Nat)(k:Dl->Option R):Option R:=
 match slE P T,Gv P ((slE P T).getD 0)with
 |  some Te,some _=>match lk σ.hs kk,slE P T2 with
    | .tok T4 ls,some _=>bif Nat.beq T T'&&(Nat.beq T4 T2&&(Nat.beq T2 Te&&(jr P T5 Te&&(jr P Tr Te&&(Nat.beq (P.cellsOf Te) 1&&(Nat.ble (P.bytesOf Te) 1024&&Nat.ble (es.length+1) 137438953472))))))then
       new σ fun nm=>out n o (.row (nm+1)) [l,kk,nm,nm+1,l2] [(l,.rowD T5 T2 none nm es none),(kk,.gone),(nm,.tok T2 (ls++List.replicate 1 (.lst []))),(l,.gone),(nm+1,.rowD T5 T2 none nm (es++[.bool true]) (some (es.length,m)))] k
      else none
    |_,_=>none
 |_,_=>none
def I5(n:Nat)(o:Oper)(σ:St)(T T':TypeId)(vx vy:AV)(k:Dl->Option R):Option R:=match vx,vy with
 |  .row l,.row l2=>match ah0 (lk σ.hs l),aqO (lk σ.hs l2)with
    |some (T5,T2,kk,es),some (Tr,m)=>I4 P n o σ T T' l l2 T5 T2 kk es Tr m k
    |_,_=>bif (ane (lk σ.hs l2)||ane (lk σ.hs l))then Tf P n o σ T T' l l2 k else Gw P n o σ T T' (.row l) (.row l2) k
 |vx,vy=>Gw P n o σ T T' vx vy k
def u8B(T:TypeId):Bool:=isI P T .u8&&(match P.info? T with
 |  some i=>Nat.beq i.size 1&&(Nat.beq i.bytes 1&&(match i.zero with
    |some (.int .u8 m)=>decide (m=0)
    |_=>false))
 |none=>false)
def I6(n:Nat)(o:Oper)(σ:St)(T T':TypeId)(vx vy:AV)(k:Dl->Option R):Option R:=
 match slE P T with
 |  some Te=>bif (u8B P Te&&isS P T')then
    match Nz P vy with
    |some (_,s)=>match vx with
     | .row l=>match lk σ.hs l with
       | .row T5 es=>bif jr P T5 Te then new σ fun nm=>(app es (bytesD s)).bind fun rs=>out n o (.row nm) [l,nm] [(l,.gone),(nm,.row T5 rs)] k else none
       |_=>none
     |_=>none
    |none=>none
    else none
 |none=>none
def Vw(n:Nat)(o:Oper)(σ:St)(Te S2:TypeId)(vy:AV)(k:Dl->Option R):Option R:=
 bif (isI P Te .u8&&(Nat.beq (P.cellsOf Te) 1&&isS P S2))then
    match (match vy with
     | .row l=>match lk σ.hs l with
       | .row T5 ds=>bif jr P T5 Te then some ([l],ds)else none
       | .frz T5 ds=>bif jr P T5 Te then some ([l],ds)else none
       |_=>none
     | v=>match lval P [] v with
       |some (_,Te',ds)=>bif Nat.beq Te' Te then some ([],ds)else none
       |none=>none:Option (List Nat×List Dt))with
    |some (rd,ds)=>(atB ds).bind fun s=>out n o (.dat S2 (.str s)) rd [] k
    |none=>none
 else none
def abk(n:Nat)(o:Oper)(σ:St)(c x y:Operand)(k:Dl->Option R):Option R:=match Ye P (opd P E.dt σ 0 c)with
 |some b=>bif b then out n o (opd P E.dt σ o.type x) [] [] k else out n o (opd P E.dt σ o.type y) [] [] k
 |none=>none
def Vx(n:Nat)(o:Oper)(σ:St)(T:TypeId)(k:Dl->Option R):Option R:=match zeroV P T with
 |some v=>new σ fun nm=>out n o (.ptr nm [] 0) [nm] [(nm,.box T v)] k
 |none=>none
def ah1(n:Nat)(o:Oper)(σ:St)(T:TypeId)(x:Operand)(k:Dl->Option R):Option R:=
 bif szB P T (opd P E.dt σ T x)then new σ fun nm=>out n o (.ptr nm [] 0) [nm] [(nm,.box T (opd P E.dt σ T x))] k else none
def Vy(n:Nat)(o:Oper)(σ:St)(T:TypeId)(parts:List (Nat×Operand))(k:Dl->Option R):Option R:=match stF P T with
 |  some fs=>match zeroV P T with
    |some (.agg T' vs)=>bif (Nat.beq T' T&&(layB P T fs&&Ya P fs))then(match Rb P E σ fs parts vs with
     |some us=>out n o (.agg T us) [] [] k
     |none=>none)else none
    |_=>none
 |none=>none
def Yh(n:Nat)(o:Oper)(σ:St)(T:TypeId)(parts:List (Nat×Operand))(k:Dl->Option R):Option R:=
 match P.underlying T with
    |some (.array len Te)=>match P.info? T with
     | some zi=>match zi.zero with
       |some za=>match zG P [] Te ((parts.map (·.2)).map (opd P E.dt σ Te))with
        |some ds=>bif (dense 0 parts&&(Nat.beq len parts.length&&(!Nat.beq len 0&&(!Nat.beq (P.cellsOf Te) 0&&(Nat.beq za.cells.size (len*P.cellsOf Te)&&Nat.beq (P.cellsOf T) (len*P.cellsOf Te))))))then out n o (.dat T (.lst ds)) [] [] k else none
        |none=>none
       |none=>none
     |none=>none
    |_=>none
def NA(n:Nat)(o:Oper)(σ:St)(T:TypeId)(parts:List (Nat×Operand))(k:Dl->Option R):Option R:=match stF P T with
 |some _=>Vy P E n o σ T parts k
 |none=>Yh P E n o σ T parts k
def AP(n:Nat)(o:Oper)(σ:St)(T:TypeId)(len:Nat)(parts:List (Nat×Operand))(k:Dl->Option R):Option R:=match slE P T with
 |  some Te=>match Gv P Te with
    |some _=>match zG P (wrO σ.hs (frzW σ.hs (AV.rwsL (parts.map fun p=>opd P E.dt σ Te p.2)))) Te (parts.map fun p=>opd P E.dt σ Te p.2)with
     |some ds=>bif (dense 0 parts&&(Nat.beq len parts.length&&(!Nat.beq len 0&&(!Nat.beq (P.cellsOf Te) 0&&Nat.ble (len*P.cellsOf Te) 16777216))))then
       new σ fun nm=>out n o (.row nm) (nm::AV.rwsL (parts.map fun p=>opd P E.dt σ Te p.2)) (frzW σ.hs (AV.rwsL (parts.map fun p=>opd P E.dt σ Te p.2))++[(nm,.row T ds)]) k
      else none
     |none=>none
    |none=>none
 |none=>none
def Tg(n:Nat)(o:Oper)(σ:St)(T:TypeId)(len:Nat)(parts:List (Nat×Operand))(k:Dl->Option R):Option R:=match slE P T with
 |  some Te=>match Gv P Te with
    |some _=>bif ((parts.map (·.2)).all (fun x=>szB P Te (opd P E.dt σ Te x))&&(dense 0 parts&&(Nat.beq len parts.length&&(!Nat.beq len 0&&(!Nat.beq (P.cellsOf Te) 0&&Nat.ble (len*P.cellsOf Te) 16777216)))))then
      new σ fun nm=>out n o (.row nm) [nm] [(nm,.rowA T ((parts.map (·.2)).map (opd P E.dt σ Te)))] k
     else none
    |none=>none
 |none=>none
def I7(n:Nat)(o:Oper)(σ:St)(T:TypeId)(len:Nat)(parts:List (Nat×Operand))(k:Dl->Option R):Option R:=
 bif E.nest o then Tg P E n o σ T len parts k else AP P E n o σ T len parts k
def NC(n:Nat)(o:Oper)(σ:St)(T l i sz off:Nat)(T5 T2:TypeId)(c:Option Nat)(kk:Nat)(es:List Dt)(h:Option (Nat×Nat))(k:Dl->Option R):Option R:=match h,slE P T5,slE P T,lk σ.hs kk with
 |  none,some Te,some _,.tok T4 ls=>match Gj P Te c with
    |some (T3,fo)=>bif (Nat.beq T3 T&&(Nat.beq T2 T&&(Nat.beq T4 T&&(Nat.beq fo off&&Nat.beq sz (P.cellsOf Te)))))then
      new σ fun nm=>(es[i]?).bind fun e=>bif lkd c e then(ls[i]?).bind fun e2=>
         out n o (.row nm) [l,kk,nm,nm+1] [(l,.rowD T5 T c (nm+1) es (some (i,nm))),(kk,.gone),(nm,.row T e2.toLst),(nm+1,.tok T (ls.set i (.lst [])))] k else none
     else none
    |none=>none
 |_,_,_,_=>none
def Vz(n:Nat)(o:Oper)(T l i sz off:Nat)(T5 T2:TypeId)(c:Option Nat)(es:List Dt)(i' m:Nat)(k:Dl->Option R):Option R:=match slE P T5,slE P T with
 |  some Te,some _=>match Gj P Te c with
    |some (T3,fo)=>bif (Nat.beq T3 T&&(Nat.beq T2 T&&(Nat.beq fo off&&Nat.beq sz (P.cellsOf Te))))then
      bif Nat.beq i' i then(es[i]?).bind fun e=>bif lkd c e then out n o (.row m) [l] [] k else none else none
     else none
    |none=>none
 |_,_=>none
def VA(n:Nat)(o:Oper)(σ:St)(T l i sz off:Nat)(T5 T2:TypeId)(c:Option Nat)(kk:Nat)(es:List Dt)(h:Option (Nat×Nat))(k:Dl->Option R):Option R:=match h with
 |some (i',m)=>Vz P n o T l i sz off T5 T2 c es i' m k
 |none=>NC P n o σ T l i sz off T5 T2 c kk es none k
def ah2(c:Option Nat)(v:AV):Option Nat:=match c,v with
 |none,.row m=>some m
 |  some f,.agg _ vs=>match vs[f]? with
    |some (.row m)=>some m
    |_=>none
 |_,_=>none
def Ec(m:Nat):List Nat->List Nat
 | []=>[]
 |l::r=>bif Nat.beq l m then Ec m r else l::Ec m r
def ND(hs:List Ob)(Te T2:TypeId)(c:Option Nat)(v:AV):Option Dt:=match c,v with
 |none,_=>some (.bool true)
 |  some f,.agg T' vs=>match pk P hs (.agg Te (vs.set f (.nils T2)))with
    |some (T3,e')=>bif (Nat.beq T' Te&&Nat.beq T3 Te)then some (hol (some f) e' (.bool true))else none
    |none=>none
 |_,_=>none
def NG(o:Oper)(σ:St)(T l i sz:Nat)(path:List Nat)(off:Nat)(T5 T2:TypeId)(c:Option Nat)(kk:Nat)(es:List Dt)(h:Option (Nat×Nat))(v:AV)(k:Dl->Option R):Option R:=match h,path,slE P T5,ah2 c v with
 |  none,[],some Te,some m=>match Gj P Te c,slE P T2,ND P (wrO σ.hs (frzW σ.hs (Ec m v.rws))) Te T2 c v with
    |some (T3,_),some _,some d'=>bif (Nat.beq T3 T2&&(Nat.beq Te T&&(Nat.beq off 0&&(Nat.beq sz (P.cellsOf T)&&!ny l (Ec m v.rws)))))then
      (es[i]?).bind fun _=>abf o (l::v.rws) (frzW σ.hs (Ec m v.rws)++[(l,.rowD T5 T2 c kk (es.set i d') (some (i,m)))]) k
     else none
    |_,_,_=>none
 |_,_,_,_=>none
def abl(n:Nat)(o:Oper)(σ:St)(T:TypeId)(x:Operand)(k:Dl->Option R):Option R:=match opd P E.dt σ 0 x with
 | .rptr T' d=>bif (Nat.beq T' T&&szB P T (.dat T d))then out n o (.dat T (canD P T d)) [] [] k else none
 |  .ptr l path off=>match lk σ.hs l with
    | .box S c=>match getAt P S c path with
      |some (T',q,v)=>bif (Nat.beq T' T&&(Nat.beq q off&&(szB P T v&&(v.isAgg P==dQ P T))))then out n o (v.canon P) [l] [] k else none
      |none=>none
    |_=>none
 |  .eptr l i sz path off=>match lk σ.hs l with
    | .row T5 es=>match slE P T5 with
      |some Te=>(es[i]?).bind fun e=>match getAt P Te (.dat Te e) path with
       |some (T',q,v)=>bif (Nat.beq T' T&&(Nat.beq q off&&(Nat.beq sz (P.cellsOf Te)&&(szB P T v&&(v.isAgg P==dQ P T)))))then out n o (v.canon P) [l] [] k else none
       |none=>none
      |none=>none
    | .rowA T5 vs=>match slE P T5 with
      |some Te=>(vs[i]?).bind fun e=>match getAt P Te e path with
       |some (T',q,v)=>bif (Nat.beq T' T&&(Nat.beq q off&&(Nat.beq sz (P.cellsOf Te)&&(szB P T v&&(v.isAgg P==dQ P T)))))then out n o (v.canon P) [l] [] k else none
       |none=>none
      |none=>none
    | .rowD T5 T2 c kk es h=>VA P n o σ T l i sz off T5 T2 c kk es h k
    |_=>none
 |_=>none
def VB(o:Oper)(σ:St)(T:TypeId)(x y:Operand)(k:Dl->Option R):Option R:=
 bif (szB P T (opd P E.dt σ T y)&&!Nat.beq (P.cellsOf T) 0)then(match opd P E.dt σ 0 x with
 |  .ptr l path off=>match lk σ.hs l with
    | .box S c=>match setAt P T (opd P E.dt σ T y) S c path with
      |some (q,c')=>bif Nat.beq q off then abf o [l] [(l,.box S c')] k else none
      |none=>none
    |_=>none
 |  .eptr l i sz path off=>match lk σ.hs l with
    | .row T5 es=>match slE P T5 with
      |some Te=>(es[i]?).bind fun e=>match setAt P T (opd P E.dt σ T y) Te (.dat Te e) path with
       |  some (q,c')=>match pk P (wrO σ.hs (frzW σ.hs (opd P E.dt σ T y).rws)) c' with
          |some (Te',e')=>bif (Nat.beq q off&&(Nat.beq sz (P.cellsOf Te)&&(compat P Te' Te&&!ny l (opd P E.dt σ T y).rws)))then abf o (l::(opd P E.dt σ T y).rws) (frzW σ.hs (opd P E.dt σ T y).rws++[(l,.row T5 (es.set i e'))]) k else none
          |none=>none
       |none=>none
      |none=>none
    | .rowA T5 vs=>match slE P T5 with
      |some Te=>(vs[i]?).bind fun e=>match setAt P T (opd P E.dt σ T y) Te e path with
       |some (q,c')=>bif (Nat.beq q off&&Nat.beq sz (P.cellsOf Te))then abf o [l] [(l,.rowA T5 (vs.set i c'))] k else none
       |none=>none
      |none=>none
    | .rowD T5 T2 c kk es h=>NG P o σ T l i sz path off T5 T2 c kk es h (opd P E.dt σ T y) k
    |_=>none
 |_=>none)else none
def I8(n:Nat)(o:Oper)(σ:St)(name:String)(first:List Operand)(nc:Nat)(k:Dl->Option R):Option R:=match first with
 |  [x]=>match opd P E.dt σ 0 x with
    | .ifc T _=>bif Nat.beq nc 0 then out n o (.mth T name) [] [] k else none
    |_=>none
 |_=>none
def E8(n:Nat)(o:Oper)(σ:St)(x:Operand)(k:Dl->Option R):Option R:=match opd P E.dt σ 0 x with
 | .rptr T d=>out n o (.rptr T d) [] [] k
 | .ptr l p q=>out n o (.ptr l p q) [] [] k
 | .eptr l i z p q=>out n o (.eptr l i z p q) [] [] k
 | .fn f c=>out n o (.fn f c) [] [] k
 |  .mth T name=>match La P T name with
    |some _=>out n o (.mth T name) [] [] k
    |none=>none
 |  .dat T d=>match ppE P T with
    |some T2=>(idx d.toLst 0).bind fun e=>out n o (.rptr T2 e) [] [] k
    |none=>none
 |_=>none
def ah3(n:Nat)(o:Oper)(op:BinOp)(T:TypeId)(vx:AV)(y:Operand)(k:Dl->Option R):Option R:=match y with
 |  .const .nilIface=>match P.underlying T with
    |some (.interface _)=>match vx with
     | .nif b=>match bT P (o.type::E.dt)with
       |some TB=>match op with
        | .eql=>out n o (.dat TB (.bool b)) [] [] k
        | .neq=>out n o (.dat TB (.bool (!b))) [] [] k
        |_=>none
       |none=>none
     |_=>none
    |_=>none
 |_=>none
def aqP(n:Nat)(o:Oper)(σ:St)(op:BinOp)(T:TypeId)(x y:Operand)(k:Dl->Option R):Option R:=match y with
 |  .const (.pointer none)=>match ppE P T with
    |some _=>match opd P E.dt σ T x with
     | .dat T1 p=>bif Nat.beq T1 T then(match bT P (o.type::E.dt)with
       |some TB=>match op with
        | .eql=>out n o (.dat TB (.bool p.toLst.isEmpty)) [] [] k
        | .neq=>out n o (.dat TB (.bool (!p.toLst.isEmpty))) [] [] k
        |_=>none
       |none=>none)else none
     |_=>none
    |none=>none
 |_=>none
def aqQ(n:Nat)(o:Oper)(σ:St)(op:BinOp)(T:TypeId)(x y:Operand)(T':TypeId)(k:Dl->Option R):Option R:=match opd P E.dt σ T' y with
 |  .dat T2 q=>match opd P E.dt σ T x with
    | .dat T1 p=>bif (ahG P T&&(Nat.beq T1 T&&Nat.beq T2 T))then(match bT P (o.type::E.dt)with
      |some TB=>match op with
       | .eql=>out n o (.dat TB (.bool (ptE p q))) [] [] k
       | .neq=>out n o (.dat TB (.bool (!(ptE p q)))) [] [] k
       |_=>none
      |none=>none)else aqP P E n o σ op T x y k
    |_=>none
 |_=>ah3 P E n o op T (opd P E.dt σ T x) y k
def ah4(n:Nat)(o:Oper)(σ:St)(op:BinOp)(T:TypeId)(x y:Operand)(T':TypeId)(k:Dl->Option R):Option R:=match ival P (opd P E.dt σ T x)with
 |  some (Tx,q,a)=>match ival P (opd P E.dt σ T' y)with
    |some (_,q',b)=>match op with
     | .shl=>bif decide (0<=b)then out n o (.dat Tx (.int (shlI q a b))) [] [] k else none
     | .shr=>bif decide (0<=b)then out n o (.dat Tx (.int (shrI q a b))) [] [] k else none
     |_=>bif decide (q=q')then ahU P E n o op Tx q a b k else none
    |none=>none
 |  none=>match Nz P (opd P E.dt σ T x)with
    |some (Tx,a)=>match Nz P (opd P E.dt σ T' y)with
     |some (_,b)=>ahV P E n o op Tx a b k
     |none=>none
    |none=>match Ye P (opd P E.dt σ T x)with
     |some a=>match Ye P (opd P E.dt σ T' y)with
      |some b=>bif isB P T then abg P E n o op a b k else none
      |none=>none
     |none=>aqQ P E n o σ op T x y T' k
def ah5(n:Nat)(o:Oper)(σ:St)(x:Operand)(k:Dl->Option R):Option R:=match Ye P (opd P E.dt σ o.type x)with
 |  some b=>match bT P (o.type::E.dt)with
    |some TB=>out n o (.dat TB (.bool (!b))) [] [] k
    |none=>none
 |none=>none
def ah6(n:Nat)(o:Oper)(σ:St)(T:TypeId)(x:Operand)(k:Dl->Option R):Option R:=match ival P (opd P E.dt σ T x)with
 |some (Tx,q,a)=>out n o (.dat Tx (.int (q.wrap (0-a)))) [] [] k
 |none=>none
def VD(n:Nat)(o:Oper)(σ:St)(T:TypeId)(x:Operand)(k:Dl->Option R):Option R:=match ival P (opd P E.dt σ T x)with
 |some (Tx,q,a)=>out n o (.dat Tx (.int (complI q a))) [] [] k
 |none=>none
def I9(n:Nat)(o:Oper)(σ:St)(S1 S2:TypeId)(x:Operand)(k:Dl->Option R):Option R:=match ival P (opd P E.dt σ S1 x)with
 |  some (_,q,a)=>match P.underlying S2 with
    |some (.int q2)=>bif isI P S1 q then out n o (.dat S2 (.int (q2.wrap a))) [] [] k else none
    |_=>none
 |  none=>match Nz P (opd P E.dt σ S1 x)with
    |some (_,s)=>bif (isS P S1&&isS P S2)then out n o (.dat S2 (.str s)) [] [] k else none
    |none=>none
def abm(   n:Nat)(o:Oper)(σ:St)(T:TypeId)(x y:Operand)(k:Dl->Option R):Option R:=match slE P T with
 |  some Te=>match Gv P Te with
    |some z=>match vZ P E σ 0 (some x)with
     |some a=>match vZ P E σ 0 (some y)with
      |some b=>bif (!Nat.beq (P.cellsOf Te) 0)then
           new σ fun nm=>mkK (P.bytesOf Te) a b z fun es=>out n o (.row nm) [nm] [(nm,.row T es)] k
       else none
      |none=>none
     |none=>none
    |none=>none
 |none=>none
def NH(n:Nat)(o:Oper)(σ:St)(T:TypeId)(x:Operand)(lo hi:Option Operand)(k:Dl->Option R):Option R:=match opd P E.dt σ T x with
 |  .row l=>match lk σ.hs l with
    | .row _ es=>match vZ P E σ 0 lo with
      |some a=>match vZ P E σ es.length hi with
       |some b=>match slE P T with
        |some Te=>bif !Nat.beq (P.cellsOf Te) 0 then(cutL es a b).bind fun _=>out n o .dead [l] [] k else none
        |none=>none
       |none=>none
      |none=>none
    |_=>none
 |_=>none
def VF(n:Nat)(o:Oper)(σ:St)(T:TypeId)(x:Operand)(lo hi:Option Operand)(k:Dl->Option R):Option R:=bif E.sld o then NH P E n o σ T x lo hi k else match Nz P (opd P E.dt σ T x)with
 |  some (Tx,s)=>match vZ P E σ 0 lo with
    |some a=>match vZ P E σ s.size hi with
     |some b=>bif isS P T then(cutS s a b).bind fun r=>out n o (.dat Tx (.str r)) [] [] k else none
     |none=>none
    |none=>none
 |  none=>match lval P (wrO σ.hs (frzW σ.hs (opd P E.dt σ T x).rws)) (opd P E.dt σ T x)with
    |some (Tx,Te,es)=>match vZ P E σ 0 lo with
     |some a=>match vZ P E σ es.length hi with
      |some b=>bif jr P T Te then(cutL es a b).bind fun r=>out n o (.dat Tx (.lst r)) (opd P E.dt σ T x).rws (frzW σ.hs (opd P E.dt σ T x).rws) k else none
      |none=>none
     |none=>none
    |none=>none
def Ci(n:Nat)(o:Oper)(σ:St)(S:TypeId)(x:Operand)(i:Nat)(k:Dl->Option R):Option R:=match stF P S with
 |  some fs=>match fs[i]? with
    |some f=>bif !Nat.beq (P.cellsOf f.type) 0 then(match opd P E.dt σ 0 x with
     | .ptr l p q=>out n o (.ptr l (p++[i]) (q+f.offset)) [] [] k
     | .eptr l j z p q=>out n o (.eptr l j z (p++[i]) (q+f.offset)) [] [] k
     | .rptr S' d=>bif (Nat.beq S' S&&Nat.ble (f.offset+P.cellsOf f.type) (P.cellsOf S))then out n o (.rptr f.type (d.fld i)) [] [] k else none
     | .dat T2 d=>match ppE P T2 with
       |some S'=>(idx d.toLst 0).bind fun e=>bif (Nat.beq S' S&&Nat.ble (f.offset+P.cellsOf f.type) (P.cellsOf S))then out n o (.rptr f.type (e.fld i)) [] [] k else none
       |none=>none
     |_=>none)else none
    |none=>none
 |none=>none
def VG(n:Nat)(o:Oper)(σ:St)(S:TypeId)(x:Operand)(i:Nat)(k:Dl->Option R):Option R:=match stF P S with
 |  some fs=>match fs[i]? with
    |some f=>match pk P [] (opd P E.dt σ S x)with
     |some (S',d)=>bif (Nat.beq S' S&&(Nat.ble (f.offset+P.cellsOf f.type) (P.cellsOf S)&&szB P f.type (.dat f.type (d.fld i))))then out n o (.dat f.type (canD P f.type (d.fld i))) [] [] k else none
     |none=>none
    |none=>none
 |none=>none
def Cj(n:Nat)(o:Oper)(σ:St)(T:TypeId)(x y:Operand)(k:Dl->Option R):Option R:=match vZ P E σ 0 (some y)with
 |  some i=>match opd P E.dt σ T x with
    | .row l=>match lk σ.hs l with
      | .row T5 es=>match slE P T5 with
        |some Te=>bif jr P T Te then(inL es i).bind fun _=>out n o (.eptr l i.toNat (P.cellsOf Te) [] 0) [l] [] k else none
        |none=>none
      | .rowA T5 vs=>match slE P T5 with
        |some Te=>bif (jr P T Te&&(decide (0<=i)&&decide (i<(vs.length:Int))))then out n o (.eptr l i.toNat (P.cellsOf Te) [] 0) [l] [] k else none
        |none=>none
      | .rowD T5 _ _ _ es _=>match slE P T5 with
        |some Te=>bif jr P T Te then(inL es i).bind fun _=>out n o (.eptr l i.toNat (P.cellsOf Te) [] 0) [l] [] k else none
        |none=>none
      | .frz T5 es=>match slE P T5 with
        |some Te=>bif jr P T Te then(idx es i).bind fun e=>out n o (.rptr Te e) [l] [] k else none
        |none=>none
      |_=>none
    | v=>match lval P [] v with
      |some (_,Te,es)=>bif jr P T Te then(idx es i).bind fun e=>out n o (.rptr Te e) [] [] k else none
      |none=>none
 |none=>none
def VH(n:Nat)(o:Oper)(σ:St)(T:TypeId)(x y:Operand)(k:Dl->Option R):Option R:=match Nz P (opd P E.dt σ T x)with
 |  some (_,s)=>match vZ P E σ 0 (some y)with
    |some i=>bif (isS P T&&isI P o.type .u8)then(idxS s i).bind fun c=>out n o (.dat o.type (.int c)) [] [] k else none
    |none=>none
 |  none=>match opd P E.dt σ T x with
    | .dat T' d=>match P.underlying T' with
      |some (.array len Te)=>match vZ P E σ 0 (some y)with
       |some i=>bif (Nat.beq T' T&&(Nat.beq (P.cellsOf T') (len*P.cellsOf Te)&&szB P Te (.dat Te (.int 0))))then(idx d.toLst i).bind fun e=>out n o (.dat Te (canD P Te e)) [] [] k else none
       |none=>none
      |_=>none
    |_=>none
def NI(T:TypeId):Option (TypeId×TypeId):=match P.underlying T with
 |some (.map K V)=>bif (isS P K&&!dQ P V)then some (K,V)else none
 |_=>none
def ah7(T:TypeId):Option Dt:=match P.info? T with
 |  some i=>match i.zero with
    |some z=>bif EZ z then none else Gv P T
    |none=>none
 |none=>none
def aqR(P:Program)(T:TypeId):Bool:=match P.info? T with
 |  some i=>(match i.zero with
    |some (.slice none 0 0)=>true
    |_=>false)
 |none=>false
def NJ(n     :    Nat)(o:Oper)(σ:St)(T:TypeId)(x y:Operand)(two:Bool)(k:Dl->Option R):Option R:=match NI P T with
 |  some (KT,V)=>match ah7 P V with
    |some z=>match opd P E.dt σ T x with
     | .row l=>   match lk σ.hs l with
       |  .map T5 es=>match NI P T5 with
          |some ( K5,V5)=>match Nz P (opd P E.dt σ KT y)with
           |some (_,s)=>bif (Nat.beq K5 KT&&Nat.beq V5 V)then
             (bif two then(match bT P E.dt with
                  |some TB=>out n o (.tup [.dat V (mgetD es s z),.dat TB (.bool (mhas es s))]) [l] [] k
                  |none=>none)
             else(bif scT P V then out n o (.dat V (canD P V (mgetD es s z))) [l] [] k else bif mhas es s then out n o (.dat V (canD P V (mgetD es s z))) [l] [] k else bif aqR P V then out n o (.nils V) [l] [] k else none))else none
           |none=>none
          |none=>none
       |_=>none
     |_=>none
    |none=>none
 |none=>none
def Ja(n:Nat)(o:Oper)(σ:St)(T:TypeId)(k:Dl->Option R):Option R:=match NI P T with
 |some _=>new σ fun nm=>out n o (.row nm) [nm] [(nm,.map T [])] k
 |none=>none
def Ck(o:Oper)(σ:St)(T:TypeId)(x y u:Operand)(k:Dl->Option R):Option R:=match NI P T with
 |  some (KT,V)=>match opd P E.dt σ T x with
    | .row l=>match lk σ.hs l with
      | .map T5 es=>match NI P T5 with
        | some (_,V5)=>match Nz P (opd P E.dt σ KT y)with
          |some (_,s)=>match pk P (wrO σ.hs (frzW σ.hs (opd P E.dt σ V u).rws)) (opd P E.dt σ V u)with
           |some (TV,d)=>bif (compat P TV V5&&(!dQ P TV&&!ny l (opd P E.dt σ V u).rws))then abf o (l::(opd P E.dt σ V u).rws) (frzW σ.hs (opd P E.dt σ V u).rws++[(l,.map T5 (mput es s d))]) k else none
           |none=>none
          |none=>none
        |none=>none
      |_=>none
    |_=>none
 |none=>none
def NK:List (Nat×List Value)->Nat->Option (List Value)
 | [],_=>none
 |t::r,g=>bif Nat.beq t.1 g then some t.2 else NK r g
def ah8(Te:TypeId)(sz:Nat):Nat->List Value->Option (List Dt)
 |0,_=>some []
 |  m+1,cs=>match avC P 8 Te (cs.take sz)with
    |some v=>match pk P [] v with
     |some (T',d)=>bif Nat.beq T' Te then(match ah8 Te sz m (cs.drop sz)with
      |some ds=>some (d::ds)
      |none=>none)else none
     |none=>none
    |none=>none
def ah9(n:Nat)(o:Oper)(σ:St)(T:TypeId)(g:Nat)(y:Operand)(k:Dl->Option R):Option R:=match P.underlying T with
 |  some (.array len Te)=>match NK tabs g with
    |some cs=>match ah8 P Te (P.cellsOf Te) len cs with
     |some ds=>match vZ P E σ 0 (some y)with
      |some i=>bif (!Nat.beq (P.cellsOf Te) 0&&Nat.beq cs.length (len*P.cellsOf Te))then(idx ds i).bind fun e=>out n o (.rptr Te e) [] [] k else none
      |none=>none
     |none=>none
    |none=>none
 |_=>none
def Jb(n:Nat)(o:Oper)(σ:St)(x:Operand)(i:Nat)(k:Dl->Option R):Option R:=match opd P E.dt σ 0 x with
 |  .tup vs=>match vs[i]? with
    |some (.tup _)=>none
    |some v=>out n o v [] [] k
    |none=>none
 |_=>none
def E9(n:Nat)(o:Oper)(σ:St)(f:FuncId)(first:Nat)(caps:List Operand)(k:Dl->Option R):Option R:=
 bif (Nat.beq first 0&&Yf P (caps.map (opd P E.dt σ 0)))then out n o (.fn f (caps.map (opd P E.dt σ 0))) [] [] k else none
def aia(n:Nat)(o:Oper)(σ:St)(T:TypeId)(x:Operand)(k:Dl->Option R):Option R:=
 bif isI P o.type .i64 then(match Nz P (opd P E.dt σ T x)with
 |some (_,s)=>bif isS P T then out n o (.dat o.type (.int s.size)) [] [] k else none
 |  none=>match slE P T with
    |some _=>match opd P E.dt σ T x with
     | .row l=>match lk σ.hs l with
       | .row _ es=>out n o (.dat o.type (.int es.length)) [l] [] k
       | .rowA _ vs=>out n o (.dat o.type (.int vs.length)) [l] [] k
       | .rowD _ _ _ _ es _=>out n o (.dat o.type (.int es.length)) [l] [] k
       | .frz T5 es=>bif (slE P T5).isSome then out n o (.dat o.type (.int es.length)) [l] [] k else none
       |_=>none
     | v=>match lval P [] v with
       |some (_,_,es)=>out n o (.dat o.type (.int es.length)) [] [] k
       |none=>none
    |none=>none)else none
def aib(n:Nat)(o:Oper)(σ:St)(T T':TypeId)(x y:Operand)(k:Dl->Option R):Option R:=match ival P (opd P E.dt σ T x)with
 |  some (Tx,q,a)=>match ival P (opd P E.dt σ T' y)with
    |some (_,q',b)=>bif decide (q=q')then out n o (.dat Tx (.int (bif decide (b<a)then b else a))) [] [] k else none
    |none=>none
 |none=>none
def aic(n:Nat)(o:Oper)(σ:St)(T T':TypeId)(x y:Operand)(k:Dl->Option R):Option R:=match ival P (opd P E.dt σ T x)with
 |  some (Tx,q,a)=>match ival P (opd P E.dt σ T' y)with
    |some (_,q',b)=>bif decide (q=q')then out n o (.dat Tx (.int (bif decide (a<b)then b else a))) [] [] k else none
    |none=>none
 |none=>none
def Ti(n:Nat)(o:Oper)(σ:St)(b:Builtin)(xs:List Operand)(Ts:List TypeId)(k:Dl->Option R):Option R:=match b,xs,Ts with
 | .len,[x],[T]=>aia P E n o σ T x k
 | .append,[x,y],[T,T']=>bif isS P T' then I6 P n o σ T T' (opd P E.dt σ T x) (opd P E.dt σ T' y) k else I5 P n o σ T T' (opd P E.dt σ T x) (opd P E.dt σ T' y) k
 | .min,[x,y],[T,T']=>aib P E n o σ T T' x y k
 | .max,[x,y],[T,T']=>aic P E n o σ T T' x y k
 |_,_,_=>none
def evO(n:Nat)(o:Oper)(σ:St)(k:Dl->Option R):Option R:=
 match o.op with
 | .move x=>out n o (opd P E.dt σ o.type x) [] [] k
 | .assign x=>out n o (opd P E.dt σ o.type x) [] [] k
 | .pick c x y=>abk P E n o σ c x y k
 | .alloc T=>Vx P n o σ T k
 | .box T x=>ah1 P E n o σ T x k
 | .build T parts=>NA P E n o σ T parts.toList k
 | .buildSlice T len parts=>I7 P E n o σ T len parts.toList k
 | .load T x=>abl P E n o σ T x k
 | .store T x y=>VB P E o σ T x y k
 | .nilCheck x=>E8 P E n o σ x k
 | .binOp op T x y T'=>ah4 P E n o σ op T x y T' k
 | .unOp .not _ x=>ah5 P E n o σ x k
 | .unOp .neg T x=>ah6 P E n o σ T x k
 | .unOp .xor T x=>VD P E n o σ T x k
 |  .convert S1 S2 x=>match slE P S1 with
    |some Te=>Vw P n o σ Te S2 (opd P E.dt σ S1 x) k
    |none=>I9 P E n o σ S1 S2 x k
 | .makeSlice T x y=>abm P E n o σ T x y k
 | .slice T x lo hi none=>VF P E n o σ T x lo hi k
 | .fieldAddr S x i=>Ci P E n o σ S x i k
 | .field S x i=>VG P E n o σ S x i k
 | .indexAddr T (.global g) y=>ah9 P E n o σ T g y k
 | .indexAddr T x y=>Cj P E n o σ T x y k
 | .lookup T x y two=>NJ P E n o σ T x y two k
 | .makeMap T none=>Ja P n o σ T k
 | .mapUpdate T x y u=>Ck P E o σ T x y u k
 | .index T x y=>VH P E n o σ T x y k
 | .extract x i=>Jb P E n o σ x i k
 | .makeFunc (.func f) first caps=>E9 P E n o σ f first.size caps.toList k
 | .makeFunc (.method name) first caps=>I8 P E n o σ name first.toList caps.size k
 | .call ⟨.value g,xs,Ts⟩=>abh P E call n o σ g xs.toList Ts.toList k
 | .call ⟨.builtin b,xs,Ts⟩=>Ti P E n o σ b xs.toList Ts.toList k
 | .makeInterface T x=>Vu P E n o σ T x k
 | .call ⟨.invoke g name,xs,Ts⟩=>ahZ P E call n o σ g name xs.toList Ts.toList k
 |_=>none
end
def tmpsOf:List Operand->List Nat
 | []=>[]
 | .tmp t::r=>t::tmpsOf r
 |_::r=>tmpsOf r
def gslot(ops:List Oper)(j:Nat):Option Nat:=match ops[j]? with
 |some o=>o.dst
 |none=>none
def Oper.reads(ops:List Oper)(o:Oper):List Nat:=(match o.guard with
 |some (j,_)=>(gslot ops j).toList
 |none=>[])++tmpsOf o.op.operands.toList
def agi(a b:List Nat):Bool:=a.all fun x=>!ny x b
def indep(ops:List Oper)(p q:Oper×Dl):Bool:=
 agi p.1.dst.toList (q.1.dst.toList++Oper.reads ops q.1)&&(agi q.1.dst.toList (Oper.reads ops p.1)&&
 (agi (p.2.wr.map (·.1)) (q.2.rd++q.2.wr.map (·.1))&&agi (q.2.wr.map (·.1)) p.2.rd))
def Gx(ancs:List Nat):List Edge->Nat
 | []=>0
 |e::r=>bif Region.binds .any e then Nat.lor (Nat.lor (2^e.on) (ancs.getD e.on 0)) (Gx ancs r)else Gx ancs r
def Yi(ops:List Oper)(q:Oper×Dl)(m:Nat):Nat->List (Oper×Dl)->Bool
 |_,[]=>true
 |i,p::r=>(Nat.testBit m i||indep ops p q)&&Yi ops q m (i+1) r
def Jc(ops:List Oper):List (Oper×Dl)->List Nat->List (Oper×Dl)->Bool
 |_,_,[]=>true
 |pre,ancs,q::r=>Yi ops q (Gx ancs q.1.after.toList) 0 pre&&Jc ops (pre++[q]) (ancs++[Gx ancs q.1.after.toList]) r
def jn{A:Type}(_ _ _:Nat)(_:St)(x:A):A:=x
def aie(P:Program):AV->Option (Option (TypeId×Bool))
 | .tup []=>some none
 |  .dat T (.bool b)=>match P.underlying T with
    |some .bool=>some (some (T,b))
    |_=>none
 |_=>none
noncomputable def same{R:Type}(a b:Option R):Option R:=open Classical in if a=b then a else none
theorem agj{R:Type}{a b:Option R}{r:R}(h:same a b=some r):a=some r∧b=some r:=by
 unfold same at h;split at h
 ·rename_i e;exact⟨h,by rw[←e];exact h⟩
 ·cases h
theorem same_eq{R:Type}{a b:Option R}(h:a=b):same a b=a:=by unfold same;rw[if_pos h]
def rowAt(σ:St)(f s:Nat):Option Nat:=match tk σ.ts s with
 | .row l=>some l
 |  .ptr b _ _=>match lk σ.hs b with
    | .box _ (.row l)=>some l
    | .box _ (.agg _ vs)=>match vs[f]? with
      |some (.row l)=>some l
      |_=>none
    |_=>none
 |_=>none
def awN(σ:St)(s:Nat):Option Nat:=match tk σ.ts s with
 | .dat _ d=>some d.toInt.toNat
 |_=>none
def anf{  R: Type}(fc:Option (Nat×Nat×Nat))(σ:St)(k:St->Option R):Option R:=match fc with
 |none=>k σ
 |  some (f,s,t)=>match rowAt σ f s,awN σ t with
    |some l, some i=>match lk σ.hs l with
     | .rowD T5 T2 c kk es none=>match lk σ.hs kk with
       |  .tok T4 ls=>bif Nat.beq T4 T2 then
           new σ fun nm=>(es[i]?).bind fun e=>bif lkd c e then(ls[i]?).bind fun e2=>
             k ⟨σ.ts,bA (bA (bA (bA σ.hs l (.rowD T5 T2 c (nm+1) es (some (i,nm)))) kk .gone) nm (.row T2 e2.toLst)) (nm+1) (.tok T2 (ls.set i (.lst []))),σ.k0⟩else none
          else none
       |_=>none
     |_=>none
    |_,_=>none
section
variable{R:Type}(P:Program)(E:Env)(call:FuncId->List AV->List Ob->(Res->Option R)->Option R)
def Yj(n:Nat)(o:Oper)(k:Dl->Option R):Option R:=match o.dst with
 |some d=>bif Nat.blt d n then k ⟨some (.tup []),[],[]⟩else none
 |none=>k ⟨none,[],[]⟩
def xP(n:Nat)(ops:List Oper):List Oper->St->List (Oper×Dl)->(St->List (Oper×Dl)->Option R)->Option R
 | [],σ,tr,k=>k σ tr
 |  o::r,  σ,tr,k=>match o.guard with
    |none=>evO P E call n o σ fun X=>xP n ops r (σ.app o.dst X) ((o,X)::tr) k
    |some (j,want)=>match gslot ops j with
     |some d=>match aie P (tk σ.ts d)with
      |some none=>Yj n o fun X=>xP n ops r (σ.app o.dst X) ((o,X)::tr) k
      |some (some (T,b))=>bif b then
           (bif want then evO P E call n o (σ.put d (.dat T (.bool true))) fun X=>xP n ops r ((σ.put d (.dat T (.bool true))).app o.dst X) ((o,X)::tr) k
            else Yj n o fun X=>xP n ops r ((σ.put d (.dat T (.bool true))).app o.dst X) ((o,X)::tr) k)
       else
           (bif want then Yj n o fun X=>xP n ops r ((σ.put d (.dat T (.bool false))).app o.dst X) ((o,X)::tr) k
            else evO P E call n o (σ.put d (.dat T (.bool false))) fun X=>xP n ops r ((σ.put d (.dat T (.bool false))).app o.dst X) ((o,X)::tr) k)
      |none=>none
     |none=>none
def pkC(hs:List Ob)(v:AV):AV:=match pk P hs v with
 |some (T,d)=> .dat T (canD P T d)
 |none=>v
def sZ(q:TypeId->Bool)(hs:List Ob):Nat->List Ob->List Ob
 |_,[]=>[]
 |  0,.box T c::r=>(bif q T then .box T c else match pk P hs c with
    |some (T',d)=>bif Nat.beq T' T then .box T (.dat T (canD P T d))else .box T c
    |none=> .box T c)::sZ q hs 0 r
 |0,o::r=>o::sZ q hs 0 r
 |k+1,o::r=>o::sZ q hs k r
def Gy(σ:St):List Nat->List Nat
 | []=>[]
 |  s ::r=>(match tk σ.ts s with
    | .ptr l _ _=>(match lk σ.hs l with
      | .box _ c=>c.rws
      |_=>[])
    |v=>v.rws)++Gy σ r
def nilAll(σ:St):List Nat->St
 | []=>σ
 |  s::r=>nilAll (match tk σ.ts s with
    | .ptr l _ _=>nilBox P σ l
    |_=>nilSlot P σ s) r
def adV:Nat->List Ob->List Nat
 |0,_=>[]
 |_,[]=>[]
 |k+1,o::r=>o.nms++adV k r
def geB(k:Nat):List Nat->List Nat
 | []=>[]
 |l::r=>bif Nat.ble k l then l::geB k r else geB k r
def Ld(hs:List Ob)(k0:Nat)(vs:List AV):List Nat:=upto 0 k0++geB k0 (reach hs 1000 (AV.nmsL vs++adV k0 hs) [])
def relab(σ:St):St:=
 let src:=Ld σ.hs σ.k0 σ.ts
 bif nodupB src then⟨AV.renL (ix src) σ.ts,uK (ix src) σ.hs src,σ.k0⟩else σ
def mvV(l nm:Nat)(v:AV):AV:=match v with
 | .row k=>bif Nat.beq k l then .row nm else .row k
 |v=>v
def mvO(l nm:Nat):Ob->Ob
 | .box T c=> .box T (mvV l nm c)
 |o=>o
def mvAt(σ:St)(l:Nat):St:=bif (Nat.blt l σ.k0&&Nat.ble σ.k0 σ.hs.length)then(match lk σ.hs l with
 | .row T es=>⟨σ.ts.map (mvV l σ.hs.length),(bA (bA σ.hs l .gone) σ.hs.length (.row T es)).map (mvO l σ.hs.length),σ.k0⟩
 |_=>σ)else σ
def mvSlot(σ:St)(t:Nat):St:=match tk σ.ts t with
 | .row l=>mvAt σ l
 |  .ptr b _ _=>match lk σ.hs b with
    | .box _ (.row l)=>mvAt σ l
    |_=>σ
 |_=>σ
def mvY(l nm:Nat):Nat->Option Nat:=fun k=>bif Nat.beq k l then some nm else some k
def atE:Ob->Bool
 | .row _ _=>true
 | .rowD _ _ _ _ _ none=>true
 | .tok _ _=>true
 |_=>false
def mvAtR(σ:St)(l:Nat):St:=bif (Nat.blt l σ.k0&&(Nat.ble σ.k0 σ.hs.length&&atE (lk σ.hs l)))then
 ⟨AV.renL (mvY l σ.hs.length) σ.ts,(bA (bA σ.hs l .gone) σ.hs.length (lk σ.hs l)).map (Ob.ren (mvY l σ.hs.length)),σ.k0⟩else σ
def mvRL(σ:St):List Nat->St
 | []=>σ
 |l::r=>mvRL (mvAtR σ l) r
def mvBoxR(σ:St)(s:Nat):St:=match tk σ.ts s with
 |  .ptr b _ _=>match lk σ.hs b with
    | .box _ (.agg _ vs)=>mvRL σ (Gu σ.hs (AV.rwsL vs))
    |_=>σ
 |_=>σ
def mvL(σ:St):List Nat->St
 | []=>σ
 |t::r=>mvL (bif (Nat.ble 4000000 t&&Nat.blt t 100000000)then mvBoxR σ (t-4000000)else mvSlot σ t) r
def Cm(σ:St):List Nat->List Nat
 | []=>[]
 |s::r=>bif Nat.ble 1000000 s&&!ny (s-1000000) (AV.rwsL σ.ts)then(s-1000000)::Cm σ r else Cm σ r
def unfAt(σ:St)(l:Nat):St:=match lk σ.hs l with
 |  .rowD T5 T2 c k es (some (i,m))=>match lk σ.hs k,lk σ.hs m with
    | .tok T3 ls,.row T4 ds=>bif (Nat.beq T3 T2&&(Nat.beq T4 T2&&Nat.ble σ.k0 σ.hs.length))then⟨σ.ts,bA (bA (bA (bA σ.hs l (.rowD T5 T2 c σ.hs.length es none)) k .gone) m .gone) σ.hs.length (.tok T2 (ls.set i (.lst ds))),σ.k0⟩else σ
    |_,_=>σ
 |_=>σ
def unfL(σ:St):List Nat->St
 | []=>σ
 |l::r=>unfL (unfAt σ l) r
def frzDAt(σ:St)(l:Nat):St:=match lk σ.hs l with
 |  .rowD T5 T2 c k es none=>match lk σ.hs k with
    | .tok T3 ls=>bif Nat.beq T3 T2 then⟨σ.ts,bA (bA σ.hs l (.row T5 (frzD c es ls))) k .gone,σ.k0⟩else σ
    |_=>σ
 |_=>σ
def toDAt(c:Option Nat)(σ:St)(l:Nat):St:=match lk σ.hs l with
 |  .row T5 []=>match slE P T5 with
    |some Te=>match Gj P Te c with
     |some (T2,_)=>match slE P T2 with
      |some _=>bif Nat.ble σ.k0 σ.hs.length then⟨σ.ts,bA (bA σ.hs l (.rowD T5 T2 c σ.hs.length [] none)) σ.hs.length (.tok T2 []),σ.k0⟩else σ
      |none=>σ
     |none=>σ
    |none=>σ
 |_=>σ
def cOf:Nat->Option Nat
 |0=>none
 |f+1=>some f
def deepC(σ:St)(cc l:Nat):St:=bif Nat.beq cc 99 then frzDAt σ l else toDAt P (cOf cc) σ l
def deep1(σ:St)(s cc:Nat):St:=match tk σ.ts s with
 | .row l=>deepC P σ cc l
 |  .ptr b _ _=>match lk σ.hs b with
    | .box _ (.row l)=>deepC P σ cc l
    |_=>σ
 |_=>σ
def deep2(σ:St)(f s cc:Nat):St:=match tk σ.ts s with
 |  .ptr b _ _=>match lk σ.hs b with
    | .box _ (.agg _ vs)=>match vs[f]? with
      |some (.row l)=>deepC P σ cc l
      |_=>σ
    |_=>σ
 |_=>σ
def deepL(σ:St):List Nat->St
 | []=>σ
 |t::r=>deepL (bif Nat.ble 100000000 t then deep2 P σ ((t-100000000)/1000000) ((t-100000000)%1000000/100) (t%100)else bif Nat.ble 2000000 t then deep1 P σ ((t-2000000)/100) ((t-2000000)%100)else σ) r
def nA(f:FuncId)(key:Nat)(σ:St):St:=match E.keep f key with
 |none=>σ
 |  some (kp,fz,rw)=>
    let σ1:St:=⟨xJ kp (IQ kp) σ.ts 0,σ.hs,σ.k0⟩
    let σ2:St:=⟨σ1.ts,gonN (frzN σ1.hs (Gy σ1 fz)) (Cm σ1 fz),σ1.k0⟩
    let σ3:=deepL P (mvL (nilAll P (unfL σ2 (upto 0 σ2.hs.length)) rw) rw) rw
    let σ4:St:=⟨σ3.ts.map (pkC P σ3.hs),sZ P E.npk σ3.hs 0 σ3.hs,σ3.k0⟩
    relab σ4
def Le:Code->Bool
 | .seq a _=>Le a
 | .block _ c=>Le c
 | .loop _=>true
 | .scope c=>Le c
 | .cond _ a _=>Le a
 |_=>false
def firstId:Code->Nat
 | .region id _ _=>id
 | .seq a _=>firstId a
 | .block _ c=>firstId c
 | .loop c=>firstId c
 | .scope c=>firstId c
 | .cond _ a b=>bif Le a then 0 else bif Nat.beq (firstId a) 0 then(bif Le b then 0 else firstId b)else firstId a
 |_=>0
def nextId:Code->Nat
 | .region id _ _=>id
 | .seq a _=>nextId a
 | .block _ c=>nextId c
 | .scope c=>nextId c
 | .cond _ a b=>bif Le a then 0 else bif Nat.beq (firstId a) 0 then(bif Le b then 0 else firstId b)else firstId a
 |_=>0
def nextK(J:Nat->Nat->Nat->St->Option R->Option R)(f:FuncId)(key:Nat)(σ:St)(g:St->Option R):Option R:=match (bif Nat.beq key 0 then none else E.keep f key)with
 |none=>g σ
 |some _=>J 0 key 0 (nA P E f key σ) (g (nA P E f key σ))
def aif(nx:St->Option R)(k:Exit->St->Option R):Exit->St->Option R
 | .normal,σ=>nx σ
 |e,σ=>k e σ
def abn(id:Nat)(k:Exit->St->Option R):Exit->St->Option R
 | .exit id',σ=>bif Nat.beq id' id then k .normal σ else k (.exit id') σ
 |e,σ=>k e σ
def abo(k:Exit->St->Option R):Exit->St->Option R
 | .goto _,_=>none
 |e,σ=>k e σ
def Lf(J:Nat->Nat->Nat->St->Option R->Option R)(key:Nat)(head:St->St)(body:St->(Exit->St->Option R)->Option R):Nat->St->(Exit->St->Option R)->Option R
 |0,_,_=>none
 |m+1,σ,k=>body σ (aif (fun σ'=>J 1 key m (head σ') (Lf J key head body m (head σ') k)) k)
def ev0(J:Nat->Nat->Nat->St->Option R->Option R)(m:Nat)(f:FuncId)(n:Nat):Code->St->(Exit->St->Option R)->Option R
 | .skip,σ,k=>k .normal σ
 | .region _ ops false,σ,k=>xP P E call n ops.toList ops.toList σ [] fun σ' _=>k .normal σ'
 | .region id ops true,σ,k=>anf (E.foc f id) σ fun σ=>xP P E call n ops.toList ops.toList σ [] fun σ' tr=>bif (uX 0 ops.toList&&Jc ops.toList [] [] tr.reverse)then k .normal σ' else none
 | .seq a b,σ,k=>ev0 J m f n a σ (aif (fun σ'=>nextK P E J f (nextId b) σ' fun s=>ev0 J m f n b s k) k)
 |  .cond x a b,σ,k=>match Ye P (opd P E.dt σ 0 x)with
    |some t=>bif t then ev0 J m f n a σ k else ev0 J m f n b σ k
    |none=>none
 | .block id c,σ,k=>ev0 J m f n c σ (abn id k)
 | .loop c,σ,k=>J 1 (firstId c) m (nA P E f (firstId c) σ) (Lf J (firstId c) (nA P E f (firstId c)) (ev0 J m f n c) m (nA P E f (firstId c) σ) k)
 | .exit id,σ,k=>k (.exit id) σ
 | .label _,σ,k=>k .normal σ
 | .scope c,σ,k=>ev0 J m f n c σ (abo k)
 | .ret,σ,k=>k .ret σ
 |_,_,_=>none
def bnd(o:Oper)(j:Nat):Bool:=o.after.toList.any fun e=>Region.binds .any e&&Nat.beq e.on j
def ang(o0 o1 o2 o3:Oper):Bool:=uX 0 [o0,o1,o2,o3]&&bnd o1 0&&bnd o2 0&&bnd o3 1&&bnd o3 2
def atF:Op->Bool
 | .store _ _ _=>true
 |_=>false
def awO:Op->Bool
 | .alloc _=>true
 |_=>false
def noG(o:Oper):Bool:=match o.guard with
 |none=>true
 |some _=>false
def aii:Code->Code->Option (Oper×Oper×Oper×Oper)
 |  .region _ ops true,.cond _ _ _=>match ops with
    | ⟨[o0,o1,o2,o3]⟩=>bif (awO o0.op&&(atF o1.op&&(atF o2.op&&(ang o0 o1 o2 o3&&(noG o0&&(noG o1&&(noG o2&&noG o3)))))))then some (o0,o1,o2,o3)else none
    |_=>none
 |_,_=>none
def agk(n:Nat)(o0 o1 o2 o3:Oper)(σ:St)(k:St->St->Option R):Option R:=
 evO P E call n o0 σ fun d0=>evO P E call n o1 (σ.app o0.dst d0) fun d1=>evO P E call n o2 ((σ.app o0.dst d0).app o1.dst d1) fun d2=>evO P E call n o3 (((σ.app o0.dst d0).app o1.dst d1).app o2.dst d2) fun d3=>
 evO P E call n o2 (σ.app o0.dst d0) fun e2=>evO P E call n o1 ((σ.app o0.dst d0).app o2.dst e2) fun e1=>evO P E call n o3 (((σ.app o0.dst d0).app o2.dst e2).app o1.dst e1) fun e3=>
 k ((((σ.app o0.dst d0).app o1.dst d1).app o2.dst d2).app o3.dst d3) ((((σ.app o0.dst d0).app o2.dst e2).app o1.dst e1).app o3.dst e3)
def agl:Nat->List AV->List AV->List Nat
 |i,a::r,b::s=>bif Ch a b then i::agl (i+1) r s else agl (i+1) r s
 |_,_,_=>[]
def atG:Ob->Ob->Bool
 | .free,.free=>true
 |_,_=>false
def adW:List Ob->List Ob->Bool
 | [],[]=>true
 |a::r,b::s=>(ahW a b||atG a b)&&adW r s
 |_,_=>false
def aij(a b:St):Bool:=ED a.ts b.ts&&(adW a.hs b.hs&&Nat.beq a.k0 b.k0)
def rmD(d:Option Nat)(l:List Nat):List Nat:=match d with
 |some d=>l.filter fun i=>!Nat.beq i d
 |none=>l
def mrg(f:FuncId)(d:Option Nat)(a b:St):Option St:=
 bif aij (nA P {E with keep:=fun _ _=>some (rmD d (agl 0 a.ts b.ts),[],[])} f 1 a) (nA P {E with keep:=fun _ _=>some (rmD d (agl 0 a.ts b.ts),[],[])} f 1 b)then some (nA P {E with keep:=fun _ _=>some (rmD d (agl 0 a.ts b.ts),[],[])} f 1 a)else none
def inn(m:Nat)(f:FuncId)(n:Nat)(c:Code)(σ:St):Option (Exit×St):=ev0 P E (fun _ _ _ _=>none) (fun _ _ _ _ x=>x) m f n c σ fun e s=>some (e,s)
noncomputable def ev(J:Nat->Nat->Nat->St->Option R->Option R)(m:Nat)(f:FuncId)(n:Nat):Code->St->(Exit->St->Option R)->Option R
 | .skip,σ,k=>k .normal σ
 | .region _ ops false,σ,k=>xP P E call n ops.toList ops.toList σ [] fun σ' _=>k .normal σ'
 | .region id ops true,σ,k=>anf (E.foc f id) σ fun σ=>xP P E call n ops.toList ops.toList σ [] fun σ' tr=>bif (uX 0 ops.toList&&Jc ops.toList [] [] tr.reverse)then k .normal σ' else none
 | .seq a b,σ,k=>match aii a b with
   |none=>ev J m f n a σ (aif (fun σ'=>nextK P E J f (nextId b) σ' fun s=>ev J m f n b s k) k)
   |some q=>bif E.sam f then(agk P E call n q.1 q.2.1 q.2.2.1 q.2.2.2 σ fun σA σB=>same (ev J m f n b σA k) (ev J m f n b σB k))else
    agk P E call n q.1 q.2.1 q.2.2.1 q.2.2.2 σ fun σA σB=>match inn P E m f n b σA,inn P E m f n b σB with
    |some (.normal,s1),some (.normal,s2)=>(match mrg P E f q.1.dst s1 s2 with
     |some s=>k .normal s
     |none=>none)
    |_,_=>none
 | .cond x a b,σ,k=>match Ye P (opd P E.dt σ 0 x)with
   |some t=>bif t then ev J m f n a σ k else ev J m f n b σ k
   |none=>none
 | .block id c,σ,k=>ev J m f n c σ (abn id k)
 | .loop c,σ,k=>J 1 (firstId c) m (nA P E f (firstId c) σ) (Lf J (firstId c) (nA P E f (firstId c)) (ev J m f n c) m (nA P E f (firstId c) σ) k)
 | .exit id,σ,k=>k (.exit id) σ
 | .label _,σ,k=>k .normal σ
 | .scope c,σ,k=>ev J m f n c σ (abo k)
 | .ret,σ,k=>k .ret σ
 |_,_,_=>none
def abp(σ:St):List ResultVar->Option (List AV)
 | []=>some []
 |  .tmp t::r=>match tk σ.ts t with
    | .dead=>none
    | .tup _=>none
    | v=>match abp σ r with
      |some vs=>some (v::vs)
      |none=>none
 |  .cell p T::r=>match tk σ.ts p with
    | .ptr l [] 0=>match lk σ.hs l with
      | .box T' c=>bif (Nat.beq T' T&&(szB P T c&&(c.isAgg P==dQ P T)))then(match abp σ r with
        |some vs=>some (c::vs)
        |none=>none)else none
      |_=>none
    |_=>none
def NM:List AV->Bool
 | []=>true
 |  v::r=>(match v with
    | .dead=>false
    | .tup _=>false
    |_=>true)&&NM r
def xQ:List AV->AV
 | [v]=>v
 |vs=> .tup vs
def fin(f:FuncId)(fn:Func)(σ:St):Option Res:=match abp P σ fn.results.toList with
 |  some vs=>bif E.raw f then
     let r1:=AV.n2rL P vs σ.hs.length
     let hs1:=BI σ.hs σ.hs.length r1.2
     let src:=Ld hs1 σ.k0 r1.1
     bif (nodupB src&&Nat.ble σ.k0 σ.hs.length)then(bif NM (AV.renL (ix src) r1.1)then some ((xQ r1.1).ren (ix src),uK (ix src) hs1 src)else none)else none
    else
     let hs1:=frzN σ.hs (AV.rwsL vs)
     let us:=vs.map (pkC P hs1)
     let src:=Ld hs1 σ.k0 us
     bif nodupB src then(bif NM (AV.renL (ix src) us)then some ((xQ us).ren (ix src),uK (ix src) hs1 src)else none)else none
 |none=>none
end
def mvAll(σ:St):List ResultVar->St
 | []=>σ
 | .tmp t::r=>mvAll (mvSlot σ t) r
 |_::r=>mvAll σ r
def flat1(P:Program)(σ:St)(l:Nat):St:=match lk σ.hs l with
 |  .rowA T vs=>match slE P T with
    |some Te=>match zG P (frzN σ.hs (AV.rwsL vs)) Te vs with
     |some ds=>⟨σ.ts,bA (frzN σ.hs (AV.rwsL vs)) l (.row T ds),σ.k0⟩
     |none=>σ
    |none=>σ
 |_=>σ
def flatL(P:Program)(σ:St):List Nat->St
 | []=>σ
 |l::r=>flatL P (flat1 P σ l) r
def abq(σ:St):List ResultVar->List Nat
 | []=>[]
 | .tmp t::r=>(tk σ.ts t).rws++abq σ r
 |_::r=>abq σ r
def exitSt(P:Program)(E:Env)(f:FuncId)(fn:Func)(σ:St):St:=bif E.raw f then mvAll (nA P E f 1000000 σ) fn.results.toList else(let σ1:=nA P E f 1000000 σ;flatL P σ1 (abq σ1 fn.results.toList))
def Rf(P:Program)(E:Env)(f:FuncId)(fn:Func):Exit->St->Option Res
 | .ret,σ=>fin P E f fn (exitSt P E f fn σ)
 | .normal,σ=>fin P E f fn (exitSt P E f fn σ)
 |_,_=>none
noncomputable def run(P:Program)(E:Env):Nat->FuncId->List AV->List Ob->Option Res
 |0,_,_,_=>none
 |m+1,f,args,objs=>match E.orc f with
  |some oc=>oc args objs
  |none=>match E.fns f with
  |some fn=>match fn.body with
   |some c=>bif Nat.ble args.length fn.ntmps then ev P E (fun f a o K=>(run P E m f a o).bind K) jn (m+1) f fn.ntmps c ⟨args,objs,objs.length⟩ (Rf P E f fn)else none
   |none=>none
  |none=>none
theorem aJ{A:Type}{b:Bool}{x:Option A}{r:A}(h:(bif b then x else none)=some r):b=true∧x=some r:=by
 cases b with
 |true=>exact⟨rfl,h⟩
 |false=>cases h
theorem aG{a b:Bool}(h:(a&&b)=true):a=true:=by cases a<;>simp_all
theorem aB{a b:Bool}(h:(a&&b)=true):b=true:=by cases a<;>simp_all
theorem beq_eq{a b:Nat}(h:Nat.beq a b=true):a=b:=aS h
theorem Co{a b:Nat}(h:(!Nat.beq a b)=true):a≠b:=fun e=>by subst e;simp at h
section
variable{P:Program}{n:Nat}{o:Oper}{σ τ:St}{x y:Operand}{v:AV}{T:TypeId}{R:Type}{E:Env}
theorem adX{av:TypeId->List Value->Option AV}{cs:List Value}:∀{fs:List Field}{vs:List AV},avF av P cs fs=some vs->vs.length=fs.length∧∀(i:Nat)(f:Field)(v:AV),fs[i]? =some f->vs[i]? =some v->v= .dead∨av f.type ((cs.drop f.offset).take (P.cellsOf f.type))=some v
 | [],vs,h=>by simp only[avF,aD]at h;subst h;exact⟨rfl,fun i f v hf=>by simp at hf⟩
 |f::fs,vs,h=>by
  unfold avF at h;split at h
  ·rename_i us hus;cases h;obtain⟨h1,h2⟩:=adX hus;refine⟨by simp[h1],fun i g u hg hu=>?_⟩;cases i with
   |    zero=>
        simp only[aW,aD]at hg hu;subst hg;split at hu;·rename_i v hv;subst hu;exact .inr hv
        ·subst hu;exact .inl rfl
   |succ i=>simp only[aX]at hg hu;exact h2 i g u hg hu
  ·cases h
theorem DJ:∀{k:Nat}{T:TypeId}{cs:List Value}{v:AV},avC P k T cs=some v->(∀(ok:Nat->Prop)(w:World)(β:Nat->Option Value),RA P ok w β v cs)∧v.isAgg P=dQ P T∧v≠ .dead∧(∀us,v≠ .tup us)∧(dQ P T=false->cs.length=1)
 |0,_,_,_,h=>by simp[avC]at h
 |k+    1,T,cs,v,h=>by
  unfold avC at h;split at h
  ·rename_i q hu;split at h
   ·    rename_i q' m;obtain⟨h1,h2⟩:=aJ h;cases h2;have e:q=q':=by simpa using aG h1
        subst e;have h3:q.min<=m:=by simpa using aG (aB h1)
        have h4:m<=q.max:=by simpa using aB (aB h1)
        exact⟨fun _ _ _=> .dat (.int hu h3 h4),rfl,by simp,by simp,fun _=>rfl⟩
   ·cases h
  ·rename_i hu;split at h;·cases h;exact⟨fun _ _ _=> .dat (.bool hu),rfl,by simp,by simp,fun _=>rfl⟩
   ·cases h
  ·rename_i hu;split at h
   ·    obtain⟨h1,h2⟩:=aJ h;cases h2;exact⟨fun _ _ _=> .dat (.str hu (aL h1)),rfl,by simp,by simp,fun _=>rfl⟩
   ·cases h
  ·rename_i e hu;split at h;·cases h;exact⟨fun _ _ _=> .nils,by simp[AV.isAgg,dQ,hu],by simp,by simp,fun _=>rfl⟩
   ·cases h
  ·rename_i fs hu;obtain⟨h1,h2⟩:=aJ h;split at h2
   ·    rename_i vs hvs;cases h2;obtain⟨q1,q2⟩:=adX hvs;refine⟨fun ok w β=> .agg hu (by rw[q1];simp) (beq_eq (aG h1)) (fun c hc=>List.all_eq_true.1 (aB h1) c hc) fun i f u hf hu2=>by
         rcases q2 i f u (by simpa using hf) hu2 with rfl|h3;·exact .dead fun c hc=>List.all_eq_true.1 (aB h1) c (List.mem_of_mem_drop (List.mem_of_mem_take hc))
         ·exact(DJ h3).1 ok w β,rfl,by simp,by simp,fun hf=>by simp[dQ,hu]at hf⟩
   ·cases h2
  ·rename_i ms hu;split at h;·cases h;exact⟨fun _ _ _=> .nif,by simp[AV.isAgg,dQ,hu],by simp,by simp,fun _=>rfl⟩
   ·cases h
  ·rename_i pe hu;split at h;·cases h;exact⟨fun _ _ _=> .dat (.nilp hu),rfl,by simp,by simp,fun _=>rfl⟩
   ·cases h
  ·cases h
theorem RV.const{ok:Nat->Prop}{w:World}{β:Nat->Option Value}{z:Value}{k:Nat}(h:avC P k T z.cells.toList=some v)(hz:EZ z=dQ P T):RV P ok w β v z:=by
 obtain⟨h1,h2,h3,h4,_⟩:=DJ h;refine RV.of1 h3 h4 ⟨fun hi=>?_,fun hi=>?_⟩
 ·rw[h2,←hz]at hi;cases z<;>simp[EZ]at hi;exact⟨_,by simp[Value.cells],h1 _ _ _⟩
 ·rw[h2,←hz]at hi;have:=h1 ok w β;cases z<;>simp[EZ]at hi<;>simpa [Value.cells]using this
theorem aik{ok:Nat->Prop}{w:World}{β:Nat->Option Value}{z:Value}:∀{Ts:List TypeId},RV P ok w β (cst P z Ts) z
 | []=>trivial
 |T::r=>by
  unfold cst;split
  ·rename_i a ha;cases hb:EZ z==dQ P T with
   |true=>exact RV.const ha (by simpa using hb)
   |false=>exact trivial
  ·exact aik
theorem uY{D:List TypeId}:Ev P σ x (opd P D σ T x):=by
 cases x with
 |tmp t=>exact Ev.tmp rfl
 |const v=>exact fun _ _ _ _ _ _ _=>aik
 |func f=>exact Ev.fn
 |global g=>exact fun _ _ _ _ _ _ _=>trivial
def Agrs(σ σ':St)(xs:List Operand):Prop:=∀t∈tmpsOf xs,tk σ'.ts t=tk σ.ts t
theorem Yk{t:Nat}:∀{xs:List Operand},.tmp t∈xs->t∈tmpsOf xs
 | [],h=>by simp at h
 |y::r,h=>by
  rcases List.mem_cons.1 h with e|h1;·subst e;simp[tmpsOf]
  ·have:=Yk h1;cases y<;>simp[tmpsOf,this]
theorem vL{σ':St}{D:List TypeId}{xs:List Operand}(h:Agrs σ σ' xs)(hx:x∈xs):opd P D σ' T x=opd P D σ T x:=by
 cases x with
 |tmp t=>exact h t (Yk hx)
 |const v=>rfl
 |func f=>rfl
 |global g=>rfl
theorem Cq{σ':St}{D:List TypeId}{xs:List Operand}(h:Agrs σ σ' xs):∀{Ts:List TypeId}{ys:List Operand},(∀y∈ys,y∈xs)->cO P D σ' Ts ys=cO P D σ Ts ys
 | [],_,_=>by simp[cO]
 |_::_,[],_=>by simp[cO]
 |T::Ts,y::ys,hy=>by simp only[cO];rw[vL h (hy y (by simp)),Cq h fun z hz=>hy z (by simp[hz])]
theorem Gz{D:List TypeId}:∀{Ts:List TypeId}{xs:List Operand},xs.length=Ts.length->EvXs P σ xs (cO P D σ Ts xs)
 | [],[],_=> .nil
 |T::Ts,x::xs,h=> .cons uY (Gz (by simpa using h))
 | [],_::_,h=>by simp at h
 |_::_,[],h=>by simp at h
theorem vO{b:Bool}(h:Ye P v=some b):∃T d,v= .dat T d∧P.underlying T=some .bool∧b=d.toBool:=by
 unfold Ye at h;split at h
 ·split at h;·rename_i hu;cases h;exact⟨_,_,rfl,hu,rfl⟩
  ·cases h
 ·cases h
theorem lN{Tx:TypeId}{q:IntKind}{i:Int}(h:ival P v=some (Tx,q,i)):∃d,v= .dat Tx d∧P.underlying Tx=some (.int q)∧i=d.toInt:=by
 unfold ival at h;split at h
 ·split at h;·rename_i hu;cases h;exact⟨_,rfl,hu,rfl⟩
  ·cases h
 ·cases h
theorem pO{Tx:TypeId}{s:ByteArray}(h:Nz P v=some (Tx,s)):∃d,v= .dat Tx d∧P.underlying Tx=some .string∧s=d.toStr:=by
 unfold Nz at h;split at h
 ·split at h;·rename_i hu;cases h;exact⟨_,rfl,hu,rfl⟩
  ·cases h
 ·cases h
theorem DK{hs:List Ob}{Tx Te:TypeId}{es:List Dt}(h:lval P hs v=some (Tx,Te,es)):∃d,pk P hs v=some (Tx,d)∧P.underlying Tx=some (.slice Te)∧es=d.toLst:=by
 unfold lval at h;split at h
 ·rename_i T' d hp;split at h;·rename_i hu;cases h;exact⟨_,hp,hu,rfl⟩
  ·cases h
 ·cases h
theorem dx{Te:TypeId}(h:slE P T=some Te):P.underlying T=some (.slice Te):=by
 unfold slE at h;split at h;·rename_i hu;cases h;exact hu
 ·cases h
theorem qo{fs:Array Field}(h:stF P T=some fs):P.underlying T=some (.struct fs):=by
 unfold stF at h;split at h;·rename_i hu;cases h;exact hu
 ·cases h
theorem Yl(h:isB P T=true):P.underlying T=some .bool:=by
 unfold isB at h;split at h;·assumption
 ·cases h
theorem qp{k:IntKind}(h:isI P T k=true):P.underlying T=some (.int k):=by
 unfold isI at h;split at h
 ·rename_i k' hu;have e:k'=k:=by simpa using h
  subst e;exact hu
 ·cases h
theorem uP(h:isS P T=true):P.underlying T=some .string:=by
 unfold isS at h;split at h;·assumption
 ·cases h
theorem iT:∀{Ts:List TypeId}{TB:TypeId},bT P Ts=some TB->P.underlying TB=some .bool
 | [],_,h=>by simp[bT]at h
 |T::r,TB,h=>by
  unfold bT at h;cases hb:isB P T with
  |true=>rw[hb]at h;cases h;exact Yl hb
  |false=>rw[hb]at h;exact iT h
theorem eu{Te:TypeId}(h:jr P T Te=true):P.underlying T=some (.slice Te)∧P.cellsOf Te≠0:=by
 unfold jr at h;refine⟨?_,Co (aB h)⟩;have h1:=aG h;split at h1
 ·rename_i Te' he;have:=beq_eq h1;subst this;exact dx he
 ·cases h1
theorem kD(h:szB P T v=true):v≠ .dead∧(∀us,v≠ .tup us)∧(∃D,P.underlying T=some D)∧(v.isAgg P=false->P.cellsOf T=1)∧
  ∀(ok:Nat->Prop)(w:World)(β:Nat->Option Value)(cs:List Value),RA P ok w β v cs->(v.isAgg P=false->cs.length=1)->cs.length=P.cellsOf T:=by
 have h0:=aG h;have h1:=aB h;have hu:∃D,P.underlying T=some D:=Option.isSome_iff_exists.1 h0;unfold szA at h1;split at h1
 ·rename_i T' d;split at h1
  ·rename_i fs hfs;have e:=beq_eq h1;refine⟨by simp,by simp,hu,fun hi=>by simp[AV.isAgg,dQ,hfs]at hi,fun ok w β cs hr _=>?_⟩;cases hr with
   |dat hr=>rw[←e];exact(hr.agg_inv hfs).2.1
  ·rename_i m1 m2 hfs;have e:=beq_eq h1;refine⟨by simp,by simp,hu,fun hi=>by simp[AV.isAgg,dQ,hfs]at hi,fun ok w β cs hr _=>?_⟩;cases hr with
   |dat hr=>rw[←e];exact(hr.arr_inv hfs).2.2.1
  ·exact⟨by simp,by simp,hu,fun _=>beq_eq h1,fun ok w β cs hr hl=>by rw[beq_eq h1];rename_i D hn1 hn2 hD;refine hl ?_;simp only[AV.isAgg,dQ,hD];cases D<;>simp_all⟩
  ·cases h1
 ·rename_i T' vs;split at h1
  ·rename_i fs hfs;have e:=beq_eq h1;refine⟨by simp,by simp,hu,fun hi=>by simp[AV.isAgg,dQ,hfs]at hi,fun ok w β cs hr _=>?_⟩;cases hr with
   |agg _ _ hc _ _=>rw[←e];exact hc
  ·cases h1
 ·cases h1
 ·cases h1
 ·rename_i h3 h4 h5 h6;have hag:v.isAgg P=false:=by cases v<;>first|rfl|(exact absurd rfl (h3 _ _))|(exact absurd rfl (h4 _ _))
  exact⟨fun e=>h5 e,fun us e=>h6 us e,hu,fun _=>beq_eq h1,fun ok w β cs hr hl=>by rw[beq_eq h1];exact hl hag⟩
theorem uQ:∀{path:List Nat}{S:TypeId}{c:AV}{T:TypeId}{q:Nat}{v:AV},getAt P S c path=some (T,q,v)->GetAt P S c path q T v
 | [],S,c,T,q,v,h=>by
   have h':some (S,0,c)=some (T,q,v):=by simpa [getAt]using h
   cases h';exact .nil
 | i::p,  S,c,T,q,v,h=>by
   unfold getAt at h;split at h;·rename_i he;cases he
   ·rename_i S0 S' vs i' p' he;cases he;split at h
    ·   rename_i fs hfs;split at h
        ·rename_i f hf;split at h
         ·rename_i u hu;obtain⟨h1,h2⟩:=aJ h;split at h2
          ·rename_i T' q' r hg;cases h2;have e:=beq_eq (aG h1);subst e;exact .agg (qo hfs) hf hu (aL (aB h1)) (uQ hg)
          ·cases h2
         ·cases h
        ·cases h
    ·cases h
   ·rename_i S0 S' d i' p' he;cases he;split at h
    ·   rename_i fs hfs;split at h
        ·rename_i f hf;obtain⟨h1,h2⟩:=aJ h;split at h2
         ·rename_i T' q' r hg;cases h2;have e:=beq_eq (aG h1);subst e;exact .dat (qo hfs) hf (aL (aB h1)) (uQ hg)
         ·cases h2
        ·cases h
    ·cases h
   ·cases h
theorem xR{T':TypeId}:∀{path:List Nat}{S:TypeId}{c:AV}{q:Nat}{c':AV},setAt P T' v S c path=some (q,c')->SetAt P v T' S c path q c'
 | [],S,c,q,c',h=>by
   have h':(bif Nat.beq S T' then some (0,v)else none)=some (q,c'):=by simpa [setAt]using h
   obtain⟨h1,h2⟩:=aJ h';cases h2;have:=beq_eq h1;subst this;exact .nil
 | i::p,  S,c,q,c',h=>by
   unfold setAt at h;split at h
   ·rename_i fs hfs;split at h
    ·   rename_i f hf;split at h
        ·rename_i vs hvs;split at h
         ·rename_i old hold;obtain⟨h1,h2⟩:=aJ h;split at h2
          ·rename_i q' new hg;cases h2;have key:=SetAt.agg (v:=v) (T':=T') (qo hfs) h1 hf hold (xR hg);split at hvs
           ·obtain⟨e1,e2⟩:=aJ hvs;cases e2;have:=beq_eq e1;subst this;exact key
           ·obtain⟨e1,e2⟩:=aJ hvs;cases e2;have:=beq_eq e1;subst this;exact .dat (qo hfs) key
           ·cases hvs
          ·cases h2
         ·cases h
        ·cases h
    ·cases h
   ·cases h
theorem Cr(h:zeroV P T=some v):ZeroA P T v:=by
 unfold zeroV at h;split at h
 ·rename_i i hi;split at h
  ·rename_i z hz;obtain⟨h1,h2⟩:=aJ h;exact⟨i,z,hi,hz,beq_eq h1,(DJ h2).1⟩
  ·cases h
 ·cases h
theorem kE{d:Dt}(h:Gv P T=some d):Zero P T d:=by
 unfold Gv at h;split at h
 ·rename_i v hv;split at h
  ·rename_i T' d' hp;obtain⟨h1,h2⟩:=aJ h;cases h2;have:=beq_eq h1;subst this;obtain⟨i,z,q1,q2,q3,q4⟩:=(Cr hv).ex;exact⟨i,z,q1,q2,q3,fun ok w=>jN (β:=fun _=>none) (hs:=[]) (fun l T es hl=>by simp[lk]at hl) (q4 ok w _) hp⟩
  ·cases h
 ·cases h
theorem NN{fs:Array Field}:∀{parts:List (Nat×Operand)}{vs us:List AV},Rb P E σ fs parts vs=some us->BldL P σ fs parts vs us
 | [],vs,us,h=>by
   have h':some vs=some us:=by simpa [Rb]using h
   cases h';exact .nil
 | (i,x)::r,vs,us,h=>by
   unfold Rb at h;split at h
   ·rename_i f hf;obtain⟨h1,h2⟩:=aJ h;obtain⟨q1,q2,q3,q4,q5⟩:=kD h1;exact .cons hf uY q1 q2 q5 (NN h2)
   ·cases h
theorem Ym{σ':St}{fs:Array Field}{xs:List Operand}(h:Agrs σ σ' xs):∀{parts:List (Nat×Operand)}{vs:List AV},(∀p∈parts,p.2∈xs)->Rb P E σ' fs parts vs=Rb P E σ fs parts vs
 | [],vs,_=>by simp[Rb]
 |(i,x)::r,vs,hp=>by
  have hx:=hp (i,x) (by simp);unfold Rb;split
  ·rename_i f hf;rw[vL h hx,Ym h fun p hq=>hp p (by simp[hq])]
  ·rfl
theorem vM{lo:Option Operand}{i:Int}(h:vZ P E σ 0 lo=some i):abe P σ lo i:=by
 cases lo with
 |none=>simp only[vZ,aD]at h;exact h.symm
 |some x=>
  simp only[vZ]at h;split at h
  ·rename_i Tx q i' hi;cases h;obtain⟨d,e1,e2,rfl⟩:=lN hi;refine⟨Tx,q,e2,?_⟩;have:=uY (P:=P) (σ:=σ) (x:=x) (T:=0) (D:=E.dt);rw[e1]at this;exact this.cint e2
  ·cases h
theorem VI{hi:Option Operand}{m:Nat}{i:Int}(h:vZ P E σ m hi=some i):ahR P σ m hi i:=by
 cases hi with
 |none=>simp only[vZ,aD]at h;exact h.symm
 |some x=>
  simp only[vZ]at h;split at h
  ·rename_i Tx q i' hi;cases h;obtain⟨d,e1,e2,rfl⟩:=lN hi;refine⟨Tx,q,e2,?_⟩;have:=uY (P:=P) (σ:=σ) (x:=x) (T:=0) (D:=E.dt);rw[e1]at this;exact this.cint e2
  ·cases h
theorem nL{σ':St}{xs:List Operand}{m:Int}{b:Option Operand}(h:Agrs σ σ' xs)(hb:∀x,b=some x->x∈xs):vZ P E σ' m b=vZ P E σ m b:=by
 cases b with
 |none=>rfl
 |some x=>simp only[vZ];rw[vL h (hb x rfl)]
theorem AQ{hs hs':List Ob}(v:AV):(∀l∈v.rws,lk hs' l=lk hs l)->pk P hs' v=pk P hs v:=by
 refine AV.rec (motive_1:=fun v=>(∀l∈v.rws,lk hs' l=lk hs l)->pk P hs' v=pk P hs v) (motive_2:=fun vs=>(∀l∈AV.rwsL vs,lk hs' l=lk hs l)->∀fs,pkL P hs' fs vs=pkL P hs fs vs) ?_ ?_ ?_ ?_ ?_ ?_ ?_ ?_ ?_ ?_ ?_ ?_ ?_ ?_ ?_ v;·intro T d _;rfl
 ·intro T vs ih h;simp only[pk];split
  ·rename_i fs _;rw[ih (by simpa [AV.rws]using h) fs.toList]
  ·rfl
 ·intro l h;simp only[pk];rw[h l (by simp[AV.rws])]
 ·intro l p o _;rfl
 ·intro l i z p o _;rfl
 ·intro T d _;rfl
 ·intro f c _ _;rfl
 ·intro vs _ _;rfl
 ·intro T _;rfl
 ·intro b _;rfl
 ·intro T v _ _;rfl
 ·intro T m _;rfl
 ·intro _;rfl
 ·intro _ fs;cases fs<;>rfl
 ·intro v vs h1 h2 h fs;cases fs with
  |nil=>rfl
  |cons f fs=>
   simp only[pkL];rw[h1 fun l hl=>h l (by simp[AV.rwsL,hl]),h2 (fun l hl=>h l (by simp[AV.rwsL,hl])) fs]
theorem Yn{l:Nat}{v:AV}:∀{vs:List AV},v∈vs->l∈v.rws->l∈AV.rwsL vs
 | [],h,_=>by simp at h
 |u::r,h,hl=>by
  rcases List.mem_cons.1 h with e|h;·subst e;simp[AV.rwsL,hl]
  ·simp[AV.rwsL,Yn h hl]
theorem NP{hs:List Ob}{T:TypeId}{d:Dt}(v:AV)(h:pk P [] v=some (T,d)):pk P hs v=some (T,d):=by
 have key:∀v:AV,∀T d,pk P [] v=some (T,d)->pk P hs v=some (T,d):=by
  intro v;refine AV.rec (motive_1:=fun v=>∀T d,pk P [] v=some (T,d)->pk P hs v=some (T,d)) (motive_2:=fun vs=>∀fs ds,pkL P [] fs vs=some ds->pkL P hs fs vs=some ds) ?_ ?_ ?_ ?_ ?_ ?_ ?_ ?_ ?_ ?_ ?_ ?_ ?_ ?_ ?_ v;·intro T d T' d' h;exact h
  ·intro T vs ih T' d' h;simp only[pk]at h ⊢
   split at h
   ·    rename_i fs hfs;split at h
        ·rename_i ds hds;rw[ih _ _ hds];exact h
        ·cases h
   ·cases h
  ·intro l T d h;simp[pk,lk]at h
  ·intro l p o T d h;simp[pk]at h
  ·intro l i z p o T d h;simp[pk]at h
  ·intro T d T' d' h;simp[pk]at h
  ·intro f c _ T' d' h;simp[pk]at h
  ·intro vs _ T' d' h;simp[pk]at h
  ·intro T T' d' h;exact h
  ·intro b T' d' h;simp[pk]at h
  ·intro T v _ T' d' h;simp[pk]at h
  ·intro T m T' d' h;simp[pk]at h
  ·intro T' d' h;simp[pk]at h
  ·intro fs ds h;cases fs with
   |nil=>exact h
   |cons f fs=>simp[pkL]at h
  ·intro  v vs h1 h2 fs ds h;cases fs with
   |nil=>simp[pkL]at h
   |    cons f fs=>
        unfold pkL at h ⊢
        split at h
        ·rename_i T d hv;rw[h1 _ _ hv];simp only;cases hc:compat P T f.type with
         |false=>rw[hc]at h;cases h
         |true=>
          rw[hc]at h;simp only[cond_true]at h ⊢
          split at h
          · rename_i us hus;rw[h2 _ _ hus];exact h
          ·cases h
        ·cases h
 exact key v T d h
theorem Fa{hs:List Ob}{T2 k:Nat}{r:List Nat}{ls:List Dt}(h:Td hs T2 k r=some ls):k∈r∧lk hs k= .tok T2 ls:=by
 unfold Td at h;split at h;·cases h
 ·rename_i k' r';split at h
  ·rename_i T4 ls' hl;have hh_:=aJ h;clear h;obtain⟨hc,h⟩:=hh_;have e1:=beq_eq (aG hc);have e2:=beq_eq (aB hc);subst e1 e2;cases h;exact⟨by simp,hl⟩
  ·cases h
theorem agm{T2 k:Nat}{r:List Nat}{hs hs':List Ob}(h:∀l∈r,lk hs' l=lk hs l):Td hs' T2 k r=Td hs T2 k r:=by
 cases r with
 |nil=>rfl
 |cons a r=>simp only[Td,h a (by simp)]
theorem M4{ls:List Nat}{hs hs':List Ob}{j:Nat}{ob:Ob}(h:∀l∈ls,lk hs' l=lk hs l):∀l∈ls,lk (bA hs' j ob) l=lk (bA hs j ob) l:=fun l hl=>by
 rw[jM,jM];split;·rfl
 ·exact h l hl
theorem kF:∀{ls:List Nat}{hs hs':List Ob},(∀l∈ls,lk hs' l=lk hs l)->frzW hs' ls=frzW hs ls
 | [],hs,hs',_=>rfl
 |l::r,hs,hs',h=>by
  have hr:∀k∈r,lk hs' k=lk hs k:=fun k hk=>h k (by simp[hk]);unfold frzW;rw[h l (by simp)];split
  ·rename_i T es hl;congr 1;exact kF (M4 hr)
  ·rename_i T T2 c k es hl;rw[agm hr];split
   ·    rename_i ls hls;congr 1;congr 1;congr 1;exact kF (M4 (M4 (M4 hr)))
   ·exact kF hr
  ·exact kF hr
theorem pQ{ls:List Nat}:∀{ws:List (Nat×Ob)}{hs hs':List Ob},(∀l∈ls,lk hs' l=lk hs l)->∀l∈ls,lk (wrO hs' ws) l=lk (wrO hs ws) l
 | [],hs,hs',h,l,hl=>h l hl
 |(k,ob)::r,hs,hs',h,l,hl=>by
  refine pQ (ls:=ls) (ws:=r) (hs:=bA hs k ob) (hs':=bA hs' k ob) (fun l hl=>?_) l hl;rw[jM,jM];split;·rfl
  ·exact h l hl
theorem rP:∀(a b:List (Nat×Ob))(hs:List Ob),wrO hs (a++b)=wrO (wrO hs a) b
 | [],b,hs=>rfl
 |(l,ob)::r,b,hs=>rP r b _
theorem Imp.freezeD{l k:Nat}{T T2:TypeId}{c:Option Nat}{es ls:List Dt}(hl:lk σ.hs l= .rowD T T2 c k es none)(hk:lk σ.hs k= .tok T2 ls):Imp P n σ ⟨σ.ts,bA (bA σ.hs l (.row T (frzD c es ls))) k .gone,σ.k0⟩:=by rintro ok0 w0 a w ⟨β,r⟩;exact⟨β,r.freezeD hl hk⟩
theorem Imp.frzW:∀(ls:List Nat){σ:St},Imp P n σ ⟨σ.ts,wrO σ.hs (frzW σ.hs ls),σ.k0⟩
 | [],σ=>Imp.refl
 |l::r,σ=>by
  unfold Am.frzW;split
  ·rename_i T es hl;have h1:Imp P n σ ⟨σ.ts,bA σ.hs l (.frz T es),σ.k0⟩:=by have h1:=Imp.frz1 (P:=P) (n:=n) (σ:=σ) l;unfold Am.frz1 at h1;rw[hl]at h1;exact h1
   exact h1.trans (Imp.frzW r (σ:=⟨σ.ts,bA σ.hs l (.frz T es),σ.k0⟩))
  ·rename_i T T2 c k es hl;split
   ·    rename_i ls hls;obtain⟨_,hk⟩:=Fa hls;have hlk:l≠k:=fun e=>by rw[e,hk]at hl;cases hl
        have h1:=Imp.freezeD (P:=P) (n:=n) hl hk;have h2:Imp P n ⟨σ.ts,bA (bA σ.hs l (.row T (frzD c es ls))) k .gone,σ.k0⟩ ⟨σ.ts,bA (bA (bA σ.hs l (.row T (frzD c es ls))) k .gone) l (.frz T (frzD c es ls)),σ.k0⟩:=by
         have h1:=Imp.frz1 (P:=P) (n:=n) (σ:=⟨σ.ts,bA (bA σ.hs l (.row T (frzD c es ls))) k .gone,σ.k0⟩) l;unfold Am.frz1 at h1;have e:lk (bA (bA σ.hs l (.row T (frzD c es ls))) k .gone) l= .row T (frzD c es ls):=by rw[bn _ _ _ _ hlk,dK]
         simp only[e]at h1;exact h1
        exact(h1.trans h2).trans (Imp.frzW r (σ:=⟨σ.ts,bA (bA (bA σ.hs l (.row T (frzD c es ls))) k .gone) l (.frz T (frzD c es ls)),σ.k0⟩))
   ·exact Imp.frzW r
  ·exact Imp.frzW r
theorem ail{hs:List Ob}{l k:Nat}{ob:Ob}(h:lk hs l= .free)(hk:lk hs k≠ .free):lk (bA hs k ob) l= .free:=by rw[bn _ _ _ _ fun e=>hk (by rw[←e];exact h)];exact h
theorem qW:∀{ls:List Nat}{hs:List Ob}{l:Nat},lk hs l= .free->lk (wrO hs (Am.frzW hs ls)) l= .free
 | [],hs,l,h=>h
 |k::r,hs,l,h=>by
  unfold Am.frzW;split
  ·rename_i T es hl;exact qW (ail h (by rw[hl];nofun))
  ·rename_i T T2 c kk es hl;split
   ·    rename_i ls hls;obtain⟨_,hk⟩:=Fa hls;refine qW ?_;have e1:l≠k:=fun e=>by rw[e,hl]at h;cases h
        have e2:l≠kk:=fun e=>by rw[e,hk]at h;cases h
        rw[bn _ _ _ _ e1,bn _ _ _ _ e2,bn _ _ _ _ e1];exact h
   ·exact qW h
  ·exact qW h
theorem qL:∀{ls:List Nat}{hs:List Ob}{l:Nat},l∉ls->lk (wrO hs (Am.frzW hs ls)) l=lk hs l
 | [],hs,l,h=>rfl
 |k::r,hs,l,h=>by
  simp only[List.mem_cons,not_or]at h;unfold Am.frzW;split
  ·rename_i T es hl;simp only[wrO];rw[qL h.2,bn _ _ _ _ h.1]
  ·rename_i T T2 c kk es hl;split
   ·    rename_i ls hls;obtain⟨hm,hk⟩:=Fa hls;have e2:l≠kk:=fun e=>h.2 (by rw[e];exact hm);simp only[wrO];rw[qL h.2,bn _ _ _ _ h.1,bn _ _ _ _ e2,bn _ _ _ _ h.1]
   ·exact qL h.2
  ·exact qL h.2
theorem aqS(σ:St)(d:Option Nat)(X:Dl):(σ.app d X).k0=σ.k0:=rfl
end
structure Agr (o:Oper) (σ σ':St) (rd:List Nat):Prop where
 ts:Agrs σ σ' o.op.operands.toList
 hs:∀l∈rd,lk σ'.hs l=lk σ.hs l
 k0:σ'.k0=σ.k0
def OpS{R:Type}(P:Program)(n:Nat)(o:Oper)(σ:St)(k:Dl->Option R)(r:R):Prop:=
 ∃X,k X=some r∧∀σ',Agr o σ σ' X.rd->bY P n o σ' (σ'.app o.dst X)
section
variable{P:Program}{n:Nat}{o:Oper}{σ τ:St}{x y:Operand}{v:AV}{T:TypeId}{R:Type}{E:Env}{k:Dl->Option R}{r:R}
theorem jO{rd:List Nat}{wr:List (Nat×Ob)}(h:out n o v rd wr k=some r):∃d,o.dst=some d∧d<n∧k ⟨some v,rd,wr⟩=some r:=by
 unfold out at h;split at h
 ·rename_i d hd;obtain⟨h1,h2⟩:=aJ h;exact⟨d,hd,aL h1,h2⟩
 ·cases h
theorem zI{rd:List Nat}{wr:List (Nat×Ob)}(h:abf o rd wr k=some r):o.dst=none∧k ⟨none,rd,wr⟩=some r:=by
 unfold abf at h;split at h;·cases h
 ·rename_i hd;exact⟨hd,h⟩
theorem kG{f:Nat->Option R}(h:new σ f=some r):σ.k0<=σ.hs.length∧f σ.hs.length=some r:=by unfold new at h;obtain⟨h1,h2⟩:=aJ h;exact⟨aL h1,h2⟩
theorem bX{rd:List Nat}(h:out n o v rd [] k=some r)(hv:∀σ',Agr o σ σ' rd->∀d,o.dst=some d->d<n->bY P n o σ' (σ'.put d v)):OpS P n o σ k r:=by obtain⟨d,hd,hn,hk⟩:=jO h;refine⟨_,hk,fun σ' ha=>?_⟩;have:=hv σ' ha d hd hn;rw[hd];exact this
theorem adY{rd:List Nat}{l:Nat}{ob:Ob}(h:out n o v rd [(l,ob)] k=some r)(hv:∀σ',Agr o σ σ' rd->∀d,o.dst=some d->d<n->bY P n o σ' ((σ'.lay l ob).put d v)):OpS P n o σ k r:=by obtain⟨d,hd,hn,hk⟩:=jO h;refine⟨_,hk,fun σ' ha=>?_⟩;have:=hv σ' ha d hd hn;rw[hd];exact this
theorem rQ{σ':St}{rd:List Nat}(ha:Agr o σ σ' rd)(hx:x∈o.op.operands.toList):Ev P σ' x (opd P E.dt σ T x):=by rw[←vL ha.ts hx];exact uY
theorem bW{σ':St}{rd:List Nat}{u:AV}(ha:Agr o σ σ' rd)(hx:x∈o.op.operands.toList)(hv:opd P E.dt σ T x=u):Ev P σ' x u:=by rw[←hv];exact rQ ha hx
theorem aqT(ho:o.op= .move x)(h:out n o (opd P E.dt σ o.type x) [] [] k=some r):OpS P n o σ k r:=
 bX h fun σ' ha d hd hn=>am8 ho hd hn (rQ ha (by rw[ho];simp[Op.operands]))
theorem ain(ho:o.op= .assign x)(h:out n o (opd P E.dt σ o.type x) [] [] k=some r):OpS P n o σ k r:=
 bX h fun σ' ha d hd hn=>af7 ho hd hn (rQ ha (by rw[ho];simp[Op.operands]))
theorem aqU{c:Operand}(ho:o.op= .pick c x y)(h:abk P E n o σ c x y k=some r):OpS P n o σ k r:=by
 unfold abk at h;split at h
 ·rename_i b hb;obtain⟨TB,d0,e1,e2,rfl⟩:=vO hb;cases hd0:d0.toBool with
  |true=>
   rw[hd0]at h;exact bX h fun σ' ha d hd hn=>by have hc:=(bW (x:=c) ha (by rw[ho];simp[Op.operands]) e1).cbool e2;rw[hd0]at hc;exact Vj ho hd hn e2 hc (rQ ha (by rw[ho];simp[Op.operands]))
  |false=>
   rw[hd0]at h;exact bX h fun σ' ha d hd hn=>by have hc:=(bW (x:=c) ha (by rw[ho];simp[Op.operands]) e1).cbool e2;rw[hd0]at hc;exact QW ho hd hn e2 hc (rQ ha (by rw[ho];simp[Op.operands]))
 ·cases h
theorem kH(σ:St):lk σ.hs σ.hs.length= .free:=j6 _ _ (ay _)
theorem anh(ho:o.op= .alloc T)(h:Vx P n o σ T k=some r):OpS P n o σ k r:=by
 unfold Vx at h;split at h
 ·rename_i v hv;have hh_:=kG h;clear h;obtain⟨hk0,h⟩:=hh_;exact adY h fun σ' ha d hd hn=>ahK ho hd hn (by rw[ha.hs _ (by simp)];exact kH σ) (by rw[ha.k0];exact hk0) (Cr hv)
 ·cases h
theorem atH(ho:o.op= .box T x)(h:ah1 P E n o σ T x k=some r):OpS P n o σ k r:=by unfold ah1 at h;have hh_:=aJ h;clear h;obtain⟨hb,h⟩:=hh_;have hh_:=kG h;clear h;obtain⟨hk0,h⟩:=hh_;obtain⟨q1,q2,q3,q4,q5⟩:=kD hb;exact adY h fun σ' ha d hd hn=>aqM ho hd hn (by rw[ha.hs _ (by simp)];exact kH σ) (by rw[ha.k0];exact hk0) (rQ ha (by rw[ho];simp[Op.operands])) q1 q2 q5
theorem ani{parts:Array (Nat×Operand)}(ho:o.op= .build T parts)(h:Vy P E n o σ T parts.toList k=some r):OpS P n o σ k r:=by
 unfold Vy at h;split at h
 ·rename_i fs hfs;split at h
  ·rename_i T' vs hz;have hh_:=aJ h;clear h;obtain⟨hc,h⟩:=hh_;have e:=beq_eq (aG hc);subst e;split at h
   ·    rename_i us hus;refine bX h fun σ' ha d hd hn=>ahP ho hd hn (qo hfs) (aG (aB hc)) (aB (aB hc)) (Cr hz) ?_;have:Rb P E σ' fs parts.toList vs=some us:=by rw[Ym ha.ts fun p hp=>by rw[ho];simp only[Op.operands];exact List.mem_map.2 ⟨p,hp,rfl⟩];exact hus
        exact NN this
   ·cases h
  ·cases h
 ·cases h
theorem awP{σ τ:St}(h:∀(ok0:OkX)(w0:World)(a:Act)(w:World)(β:Nat->Option Value),RelB P ok0 w0 n σ a w β->bY P n o σ τ):bY P n o σ τ:=by rintro ok0 w0 a w ⟨β,r⟩;exact h ok0 w0 a w β r ok0 w0 a w ⟨β,r⟩
theorem aio{l i sz off kk:Nat}{path:List Nat}{T5 T2:TypeId}{c:Option Nat}{es:List Dt}{hh:Option (Nat×Nat)}(ho:o.op= .load T x)(e1:opd P E.dt σ 0 x= .eptr l i sz path off)(hl:lk σ.hs l= .rowD T5 T2 c kk es hh)
  (h:NC P n o σ T l i sz off T5 T2 c kk es hh k=some r):OpS P n o σ k r:=by
 have hx:x∈o.op.operands.toList:=by rw[ho];simp[Op.operands]
 unfold NC at h;split at h
 ·rename_i Te E2 T4 ls h1 h2 h3;split at h
  ·rename_i T3 fo hf;have hh_:=aJ h;clear h;obtain⟨hc,h⟩:=hh_;have f1:=beq_eq (aG hc);have f2:=beq_eq (aG (aB hc));have f3:=beq_eq (aG (aB (aB hc)));have f4:=beq_eq (aG (aB (aB (aB hc))));have f5:=beq_eq (aB (aB (aB (aB hc))));subst f1 f2 f4 f5;subst f3;have hh_:=kG h;clear h;obtain⟨hk0,h⟩:=hh_;have hh_:=ak.1 h;clear h;obtain⟨e,he,h⟩:=hh_;have hh_:=aJ h;clear h;obtain⟨hlk,h⟩:=hh_;have hh_:=ak.1 h;clear h;obtain⟨e2,he2,h⟩:=hh_;obtain⟨d,hd,hn,hk⟩:=jO h;refine⟨_,hk,fun σ' ag=>?_⟩;rw[hd];have hk':lk σ'.hs kk= .tok T4 ls:=by rw[ag.hs kk (by simp)];exact h3
   refine awP fun _ _ _ _ _ r=>?_;exact Vh ho hd hn (dx h2) (dx h1) (bW ag hx e1) hf (by rw[ag.hs l (by simp)];exact hl) hk' he hlk (r.tok_lst hk' he2)
        (by rw[ag.hs _ (by simp)];exact kH σ) (by rw[ag.hs _ (by simp)];exact j6 _ _ (by omega)) (by omega) (by rw[ag.k0];exact hk0) (by rw[ag.k0];omega)
  ·cases h
 ·cases h
theorem anj{l i sz off kk i' m:Nat}{path:List Nat}{T5 T2:TypeId}{c:Option Nat}{es:List Dt}(ho:o.op= .load T x)(e1:opd P E.dt σ 0 x= .eptr l i sz path off)(hl:lk σ.hs l= .rowD T5 T2 c kk es (some (i',m)))
  (h:Vz P n o T l i sz off T5 T2 c es i' m k=some r):OpS P n o σ k r:=by
 have hx:x∈o.op.operands.toList:=by rw[ho];simp[Op.operands]
 unfold Vz at h;split at h
 ·rename_i Te E2 h1 h2;split at h
  ·rename_i T3 fo hf;have hh_:=aJ h;clear h;obtain⟨hc,h⟩:=hh_;have f1:=beq_eq (aG hc);have f2:=beq_eq (aG (aB hc));have f4:=beq_eq (aG (aB (aB hc)));have f5:=beq_eq (aB (aB (aB hc)));subst f1 f2 f4 f5;have hh_:=aJ h;clear h;obtain⟨hi,h⟩:=hh_;have f6:=beq_eq hi;subst f6;have hh_:=ak.1 h;clear h;obtain⟨e,he,h⟩:=hh_;have hh_:=aJ h;clear h;obtain⟨hlk,h⟩:=hh_;obtain⟨d,hd,hn,hk⟩:=jO h;refine⟨_,hk,fun σ' ag=>?_⟩;rw[hd];exact XV ho hd hn (dx h2) (dx h1) (bW ag hx e1) hf (by rw[ag.hs l (by simp)];exact hl) he hlk
  ·cases h
 ·cases h
theorem ank{l i sz off kk:Nat}{path:List Nat}{T5 T2:TypeId}{c:Option Nat}{es:List Dt}{hh:Option (Nat×Nat)}(ho:o.op= .load T x)(e1:opd P E.dt σ 0 x= .eptr l i sz path off)(hl:lk σ.hs l= .rowD T5 T2 c kk es hh)
  (h:VA P n o σ T l i sz off T5 T2 c kk es hh k=some r):OpS P n o σ k r:=by
 unfold VA at h;split at h;·exact anj ho e1 hl h
 ·exact aio ho e1 hl h
theorem aip{hs:List Ob}{Te T2 fo E2:TypeId}{c:Option Nat}{d':Dt}{m:Nat}(hu2:P.underlying T2=some (.slice E2))(hf:Gj P Te c=some (T2,fo))(hm:ah2 c v=some m)(h:ND P hs Te T2 c v=some d'):Nr P hs Te c fo v d' m:=by
 have hh:=BS hf;unfold ah2 at hm;split at hm
 ·cases hm;cases h;obtain⟨h1,h2⟩:=aqo (show (bif Nat.beq (P.cellsOf Te) 1 then some (Te,0)else none)=some (T2,fo)from hf);cases h2;exact SH hu2 (beq_eq h1)
 ·split at hm
  ·rename_i m' hv;cases hm;simp only[ND]at h;split at h
   ·    rename_i T3 e' hp;have hh_:=aJ h;clear h;obtain⟨hc,h⟩:=hh_;have f1:=beq_eq (aG hc);have f2:=beq_eq (aB hc);subst f1 f2;cases h;exact af5 hh hu2 hv hp
   ·cases h
  ·cases hm
 ·cases hm
theorem NQ{m:Nat}:∀{ls:List Nat},∀l∈Ec m ls,l∈ls
 |a::r,l,h=>by
  unfold Ec at h;cases hb:Nat.beq a m with
  |true=>rw[hb]at h;exact aT _ (NQ l h)
  |false=>
   rw[hb]at h;rcases List.mem_cons.1 h with h|h;·rw[h];exact aO
   ·exact aT _ (NQ l h)
theorem Tj{T2:TypeId}:∀{vs:List AV}{f:Nat},∀l∈AV.rwsL (vs.set f (.nils T2)),l∈AV.rwsL vs
 | [],_,_,h=>h
 |v::r,0,l,h=>by simp only[List.set_cons_zero,AV.rwsL,AV.rws,List.nil_append]at h;simp[AV.rwsL,h]
 |v::r,f+1,l,h=>by simp only[List.set_cons_succ,AV.rwsL,List.mem_append]at h;simp only[AV.rwsL,List.mem_append];exact h.imp id (Tj l)
theorem agn{hs hs':List Ob}{Te T2:TypeId}{c:Option Nat}(h:∀l∈v.rws,lk hs' l=lk hs l):ND P hs' Te T2 c v=ND P hs Te T2 c v:=by
 cases c with
 |none=>rfl
 |some f=>
  cases v with
  |agg T' vs=>
   simp only[ND];rw[AQ (hs:=hs) (hs':=hs') (.agg Te (vs.set f (.nils T2))) fun l hl=>h l (Tj l hl)]
  |_=>rfl
theorem aiq{l i sz off kk:Nat}{path:List Nat}{T5 T2:TypeId}{c:Option Nat}{es:List Dt}{hh:Option (Nat×Nat)}(ho:o.op= .store T x y)(hz:szB P T (opd P E.dt σ T y)=true)(h0:P.cellsOf T≠0)(e1:opd P E.dt σ 0 x= .eptr l i sz path off)(hl:lk σ.hs l= .rowD T5 T2 c kk es hh)
  (h:NG P o σ T l i sz path off T5 T2 c kk es hh (opd P E.dt σ T y) k=some r):OpS P n o σ k r:=by
 have hx:x∈o.op.operands.toList:=by rw[ho];simp[Op.operands]
 have hy:y∈o.op.operands.toList:=by rw[ho];simp[Op.operands]
 obtain⟨q1,q2,q3,q4,q5⟩:=kD hz;unfold NG at h;split at h
 ·rename_i Te m h1 hm;split at h
  ·rename_i T3 fo E2 d' hf h2 h3;have hh_:=aJ h;clear h;obtain⟨hc,h⟩:=hh_;have f1:=beq_eq (aG hc);have f2:=beq_eq (aG (aB hc));have f3:=beq_eq (aG (aB (aB hc)));have f4:=beq_eq (aG (aB (aB (aB hc))));have hnm:l∉Ec m (opd P E.dt σ T y).rws:=BP (by simpa using aB (aB (aB (aB hc))));subst f1 f2 f3 f4;have hh_:=ak.1 h;clear h;obtain⟨e,he,h⟩:=hh_;obtain⟨hd,hk⟩:=zI h;refine⟨_,hk,fun σ' ag=>?_⟩;rw[hd];have hagr:∀l∈(opd P E.dt σ Te y).rws,lk σ'.hs l=lk σ.hs l:=fun l hl=>ag.hs l (by simp[hl]);have hfw:frzW σ'.hs (Ec m (opd P E.dt σ Te y).rws)=frzW σ.hs (Ec m (opd P E.dt σ Te y).rws):=kF fun l hl=>hagr l (NQ l hl);have hev:∀{z:Operand}{u:AV}{T0:TypeId},z∈o.op.operands.toList->opd P E.dt σ T0 z=u->Ev P (St.mk σ'.ts (wrO σ'.hs (frzW σ'.hs (Ec m (opd P E.dt σ Te y).rws))) σ'.k0) z u:=by
        rintro z u T0 hz rfl;have e3:opd P E.dt (St.mk σ'.ts (wrO σ'.hs (frzW σ'.hs (Ec m (opd P E.dt σ Te y).rws))) σ'.k0) T0 z=opd P E.dt σ T0 z:=by rw[←vL ag.ts hz];cases z<;>rfl
        rw[←e3];exact uY
   have key:=af4 (σ:=St.mk σ'.ts (wrO σ'.hs (frzW σ'.hs (Ec m (opd P E.dt σ Te y).rws))) σ'.k0) (n:=n) (i:=i) ho hd h0 (hev hx e1) (hev hy rfl) q1 q2 q5
        (by show lk (wrO σ'.hs _) l=_;rw[qL hnm,ag.hs l (by simp)];exact hl) (dx h1) (aA.1 he).1 (BS hf) (fun _ _ e=>by cases e)
        (aip (dx h2) hf hm (by show ND P (wrO σ'.hs _) Te _ c _=some d';rw[←h3,hfw];exact agn fun l hl=>pQ hagr l hl))
   have:=key.pre (Imp.frzW (σ:=σ') (Ec m (opd P E.dt σ Te y).rws));have hfin:St.mk (agd σ'.ts none none) (wrO σ'.hs (frzW σ.hs (Ec m (opd P E.dt σ Te y).rws)++[(l,.rowD T5 T3 c kk (es.set i d') (some (i,m)))])) σ'.k0=(St.mk σ'.ts (wrO σ'.hs (frzW σ'.hs (Ec m (opd P E.dt σ Te y).rws))) σ'.k0).lay l (.rowD T5 T3 c kk (es.set i d') (some (i,m))):=by rw[rP,hfw];rfl
   rw[←hfin]at this;exact this
  ·cases h
 ·cases h
theorem aqV(ho:o.op= .load T x)(h:abl P E n o σ T x k=some r):OpS P n o σ k r:=by
 have hx:x∈o.op.operands.toList:=by rw[ho];simp[Op.operands]
 unfold abl at h;split at h
 ·rename_i T' d0 e1;have hh_:=aJ h;clear h;obtain⟨hc,h⟩:=hh_;have e:=beq_eq (aG hc);subst e;obtain⟨q1,q2,⟨D,hD⟩,q4,q5⟩:=kD (aB hc);exact bX h fun σ' ha d hd hn=>(Vl ho hd hn hD (fun hf=>q4 hf) (bW ha hx e1)).can
 ·rename_i l path off e1;split at h
  ·rename_i S c hl;split at h
   ·    rename_i T' q v hg;have hh_:=aJ h;clear h;obtain⟨hc,h⟩:=hh_;have e:=beq_eq (aG hc);subst e;have e2:=beq_eq (aG (aB hc));subst e2;obtain⟨q1,q2,⟨D,hD⟩,q4,q5⟩:=kD (aG (aB (aB hc)));have hag:v.isAgg P=dQ P T':=by simpa using aB (aB (aB hc))
        refine bX h fun σ' ha d hd hn=>?_;have key:=X5 ho hd hn hD (fun hf=>q4 (by rw[hag];exact hf)) (bW ha hx e1) (by rw[ha.hs l (by simp)];exact hl) (uQ hg) hag q2;cases v<;>first|exact key|exact key.can
   ·cases h
  ·cases h
 ·rename_i l i sz path off e1;split at h
  ·rename_i T5 es hl;split at h
   ·    rename_i Te hTe;have hh_:=ak.1 h;clear h;obtain⟨e0,he0,h⟩:=hh_;split at h
        ·rename_i T' q v hg;have hh_:=aJ h;clear h;obtain⟨hc,h⟩:=hh_;have e:=beq_eq (aG hc);subst e;have e2:=beq_eq (aG (aB hc));subst e2;have e3:=beq_eq (aG (aB (aB hc)));subst e3;obtain⟨q1,q2,⟨D,hD⟩,q4,q5⟩:=kD (aG (aB (aB (aB hc))));have hag:v.isAgg P=dQ P T':=by simpa using aB (aB (aB (aB hc)))
         refine bX h fun σ' ha d hd hn=>?_;have key:=Vo ho hd hn hD (fun hf=>q4 (by rw[hag];exact hf)) (bW ha hx e1) (by rw[ha.hs l (by simp)];exact hl) (dx hTe) he0 (uQ hg) hag q2;cases v<;>first|exact key|exact key.can
        ·cases h
   ·cases h
  ·rename_i T5 vs hl;split at h
   ·    rename_i Te hTe;have hh_:=ak.1 h;clear h;obtain⟨e0,he0,h⟩:=hh_;split at h
        ·rename_i T' q v hg;have hh_:=aJ h;clear h;obtain⟨hc,h⟩:=hh_;have e:=beq_eq (aG hc);subst e;have e2:=beq_eq (aG (aB hc));subst e2;have e3:=beq_eq (aG (aB (aB hc)));subst e3;obtain⟨q1,q2,⟨D,hD⟩,q4,q5⟩:=kD (aG (aB (aB (aB hc))));have hag:v.isAgg P=dQ P T':=by simpa using aB (aB (aB (aB hc)))
         refine bX h fun σ' ha d hd hn=>?_;have key:=QU ho hd hn hD (fun hf=>q4 (by rw[hag];exact hf)) (bW ha hx e1) (by rw[ha.hs l (by simp)];exact hl) (dx hTe) he0 (uQ hg) hag q2;cases v<;>first|exact key|exact key.can
        ·cases h
   ·cases h
  ·rename_i hl;exact ank ho e1 hl h
  ·cases h
 ·cases h
theorem anl(ho:o.op= .store T x y)(h:VB P E o σ T x y k=some r):OpS P n o σ k r:=by
 have hx:x∈o.op.operands.toList:=by rw[ho];simp[Op.operands]
 have hy:y∈o.op.operands.toList:=by rw[ho];simp[Op.operands]
 unfold VB at h;have hh_:=aJ h;clear h;obtain⟨hc0,h⟩:=hh_;obtain⟨q1,q2,q3,q4,q5⟩:=kD (aG hc0);have h0:=Co (aB hc0);split at h
 ·rename_i l path off e1;split at h
  ·rename_i S c hl;split at h
   ·    rename_i q c' hs;have hh_:=aJ h;clear h;obtain⟨hc,h⟩:=hh_;have e:=beq_eq hc;subst e;obtain⟨hd,hk⟩:=zI h;refine⟨_,hk,fun σ' ha=>?_⟩;have:=Vm (n:=n) ho hd h0 (bW ha hx e1) (rQ ha hy) q1 q2 q5 (by rw[ha.hs l (by simp)];exact hl) (xR hs);rw[hd];exact this
   ·cases h
  ·cases h
 ·rename_i l i sz path off e1;split at h
  ·rename_i T5 es hl;split at h
   ·    rename_i Te hTe;have hh_:=ak.1 h;clear h;obtain⟨e0,he0,h⟩:=hh_;split at h
        ·rename_i q c' hs;split at h
         ·rename_i Te' e' hpk;have hh_:=aJ h;clear h;obtain⟨hc,h⟩:=hh_;have e:=beq_eq (aG hc);subst e;have e2:=beq_eq (aG (aB hc));subst e2;have hcmp:=aG (aB (aB hc));have hnm:l∉(opd P E.dt σ T y).rws:=BP (by simpa using aB (aB (aB hc)));obtain⟨hd,hk⟩:=zI h;refine⟨_,hk,fun σ' ha=>?_⟩;have hagr:∀l∈(opd P E.dt σ T y).rws,lk σ'.hs l=lk σ.hs l:=fun l hl=>ha.hs l (by simp[hl]);rw[hd];have key:bY P n o ⟨σ'.ts,wrO σ'.hs (frzW σ'.hs (opd P E.dt σ T y).rws),σ'.k0⟩ ((St.mk σ'.ts (wrO σ'.hs (frzW σ'.hs (opd P E.dt σ T y).rws)) σ'.k0).lay l (.row T5 (es.set i e'))):=by
           have hev:∀{z:Operand}{u:AV},Ev P σ' z u->z∈o.op.operands.toList->(∃T0,u=opd P E.dt σ T0 z)->Ev P (St.mk σ'.ts (wrO σ'.hs (frzW σ'.hs (opd P E.dt σ T y).rws)) σ'.k0) z u:=by
            rintro z u _ hz ⟨T0,rfl⟩;have e3:opd P E.dt (St.mk σ'.ts (wrO σ'.hs (frzW σ'.hs (opd P E.dt σ T y).rws)) σ'.k0) T0 z=opd P E.dt σ T0 z:=by rw[←vL ha.ts hz];cases z<;>rfl
            rw[←e3];exact uY
           refine QY (n:=n) ho hd h0 (hev (bW ha hx e1) hx ⟨_,e1.symm⟩) (hev (rQ ha hy) hy ⟨_,rfl⟩) q1 q2 q5 ?_ (dx hTe) he0 (xR hs) ?_
           ·show lk (wrO σ'.hs _) l=_;rw[qL hnm,ha.hs l (by simp)];exact hl
           ·intro ok0 w0 a w β rb cs hra;refine RD.compat (jN rb.frzOK hra ?_) hcmp;show pk P (wrO σ'.hs (frzW σ'.hs (opd P E.dt σ T y).rws)) c'=_;rw[←hpk];refine AQ c' fun l2 hl2=>?_;have hsub:∀l2∈c'.rws,l2∈(opd P E.dt σ T y).rws:=setAt_rws hs (by intro l3 h3;simp[AV.rws]at h3);rw[kF hagr];exact pQ hagr l2 (hsub l2 hl2)
          have hfin:St.mk (agd σ'.ts none none) (wrO σ'.hs (frzW σ.hs (opd P E.dt σ T y).rws++[(l,.row T5 (es.set i e'))])) σ'.k0=(St.mk σ'.ts (wrO σ'.hs (frzW σ'.hs (opd P E.dt σ T y).rws)) σ'.k0).lay l (.row T5 (es.set i e')):=by rw[rP,kF hagr];rfl
          have:=key.pre (Imp.frzW (σ:=σ') (opd P E.dt σ T y).rws);rw[←hfin]at this;exact this
         ·cases h
        ·cases h
   ·cases h
  ·rename_i T5 vs hl;split at h
   ·    rename_i Te hTe;have hh_:=ak.1 h;clear h;obtain⟨e0,he0,h⟩:=hh_;split at h
        ·rename_i q c' hs;have hh_:=aJ h;clear h;obtain⟨hc,h⟩:=hh_;have e:=beq_eq (aG hc);subst e;have e2:=beq_eq (aB hc);subst e2;obtain⟨hd,hk⟩:=zI h;refine⟨_,hk,fun σ' ha=>?_⟩;have:=Nq (n:=n) ho hd h0 (bW ha hx e1) (rQ ha hy) q1 q2 q5 (by rw[ha.hs l (by simp)];exact hl) (dx hTe) he0 (xR hs);rw[hd];exact this
        ·cases h
   ·cases h
  ·rename_i hl;exact aiq ho (aG hc0) h0 e1 hl h
  ·cases h
 ·cases h
where setAt_rws {T':TypeId} {v:AV}:∀{path:List Nat}{S:TypeId}{c:AV}{q:Nat}{c':AV},setAt P T' v S c path=some (q,c')->(∀l∈c.rws,l∈v.rws)->∀l∈c'.rws,l∈v.rws
 | [],S,c,q,c',h,_=>by
   have h':(bif Nat.beq S T' then some (0,v)else none)=some (q,c'):=by simpa [setAt]using h
   obtain⟨_,h2⟩:=aJ h';cases h2;exact fun l hl=>hl
 | i  ::p,S,c,    q,c',h,hc=>by
   unfold setAt at h;split at h
   ·  rename_i fs hfs;split at h
      ·rename_i f hf;split at h
       ·rename_i vs hvs;split at h
        · rename_i old hold;obtain⟨h1,h2⟩:=aJ h;split at h2
          ·rename_i q' new hg;cases h2;have hvsr:∀l∈AV.rwsL vs,l∈v.rws:=by
                split at hvs
                · obtain⟨e1,e2⟩:=aJ hvs;cases e2;exact hc
                · obtain⟨e1,e2⟩:=aJ hvs;cases e2;intro l hl;exfalso;have:∀(fs:List Field)(j:Nat)(d:Dt),AV.rwsL (EA P fs j d)=[]:=by
                   intro fs;induction fs with
                   |nil=>intro j d;rfl
                   |cons f r ih=>intro j d;simp[EA,AV.rwsL,AV.rws,ih]
                  rw[show expl P fs _=EA P fs.toList 0 _ from rfl,this]at hl;simp at hl
                ·cases hvs
           have hnew:=setAt_rws hg fun l hl=>hvsr l (Yn (aU hold) hl);intro l hl;have hset:∀(us:List AV)(j:Nat),(∀l∈AV.rwsL us,l∈v.rws)->∀l∈AV.rwsL (us.set j new),l∈v.rws:=by
                intro us;induction us with
                |nil=>intro j hu l hl;simp[AV.rwsL]at hl
                | cons u r ih=>
                  intro j hu l hl;cases j with
                  |zero=>
                   simp only[List.set_cons_zero,AV.rwsL,List.mem_append]at hl;rcases hl with hl|hl;·exact hnew l hl
                   ·exact hu l (by simp[AV.rwsL,hl])
                  |succ j=>
                   simp only[List.set_cons_succ,AV.rwsL,List.mem_append]at hl;rcases hl with hl|hl;·exact hu l (by simp[AV.rwsL,hl])
                   ·exact ih j (fun l hl=>hu l (by simp[AV.rwsL,hl])) l hl
           exact hset vs i hvsr l hl
          ·cases h2
        ·cases h
       ·cases h
      ·cases h
   ·cases h
end
section
variable{P:Program}{n:Nat}{o:Oper}{σ τ:St}{x y:Operand}{v:AV}{T:TypeId}{R:Type}{E:Env}{k:Dl->Option R}{r:R}
theorem oL{d:Nat}(ho:o.op= .nilCheck x)(hd:o.dst=some d)(hn:d<n)(hx:Ev P σ x v)
  (hv:∀(ok:Nat->Prop)(w:World)(β:Nat->Option Value)(z:Value),RV P ok w β v z->(∃ad,z= .pointer (some ad))∨∃f a b,z= .func (.func f) a b):bY P n o σ (σ.put d v):=
 bF hd hn fun ok0 w0 a w β r=>by
  have h:=hx _ _ _ _ _ _ r;rcases hv _ _ _ _ h with⟨ad,e⟩| ⟨f,a1,b1,e⟩;·exact⟨_,by simp[execOp,ho,e],e▸h⟩
  ·exact⟨_,by simp[execOp,ho,e],e▸h⟩
theorem LX{d f:Nat}{T:TypeId}{name:String}(ho:o.op= .nilCheck x)(hd:o.dst=some d)(hn:d<n)(hx:Ev P σ x (.mth T name))(hm:La P T name=some f):bY P n o σ (σ.put d (.mth T name)):=
 bF hd hn fun ok0 w0 a w β r=>by
  have h:=hx _ _ _ _ _ _ r;have h2:=h.2 rfl;generalize hz:a.eval x=z at h h2;cases h2 with
  | @mth _ _ z cv=>
    refine⟨_,?_,h⟩;have hk:∀j:Nat,(nilAhead (j+Made.depth) T z name).run P w= .ok (some false) w:=fun j=>Vf hm (j+99) z w;have hp:(program).run P w= .ok P w:=rfl;unfold execOp;simp only[ho,hz,List.getElem?_toArray,aW,Sem.run_bind,hp,Result.andThen_ok,hk];rfl
theorem abr(ho:o.op= .nilCheck x)(h:E8 P E n o σ x k=some r):OpS P n o σ k r:=by
 have hx:x∈o.op.operands.toList:=by rw[ho];simp[Op.operands]
 unfold E8 at h;split at h
 ·rename_i T d0 e1;exact bX h fun σ' ha d hd hn=>oL ho hd hn (bW ha hx e1) fun ok w β z hz=>by
   have:=hz.2 rfl;cases this with
   |rptr=>exact .inl ⟨_,rfl⟩
 ·rename_i l p q e1;exact bX h fun σ' ha d hd hn=>oL ho hd hn (bW ha hx e1) fun ok w β z hz=>by
   have:=hz.2 rfl;cases this with
   |ptr=>exact .inl ⟨_,rfl⟩
 ·rename_i l i z p q e1;exact bX h fun σ' ha d hd hn=>oL ho hd hn (bW ha hx e1) fun ok w β z hz=>by
   have:=hz.2 rfl;cases this with
   |eptr=>exact .inl ⟨_,rfl⟩
 ·rename_i f c e1;exact bX h fun σ' ha d hd hn=>oL ho hd hn (bW ha hx e1) fun ok w β z hz=>by
   have:=hz.2 rfl;cases this with
   |fn=>exact .inr ⟨_,_,_,rfl⟩
 ·rename_i T name e1;split at h
  ·rename_i f hm;exact bX h fun σ' ha d hd hn=>LX ho hd hn (bW ha hx e1) hm
  ·cases h
 ·rename_i T d0 e1;split at h
  ·rename_i T2 hT2;have hh_:=ak.1 h;clear h;obtain⟨e0,he0,h⟩:=hh_;exact bX h fun σ' ha d hd hn=>oL ho hd hn ((bW ha hx e1).pd (BR hT2) he0) fun ok w β z hz=>by
        have:=hz.2 rfl;cases this with
        |rptr=>exact .inl ⟨_,rfl⟩
  ·cases h
 ·cases h
theorem atI{op:BinOp}{T T' Tx Ty:TypeId}{q:IntKind}{a b:Int}(ho:o.op= .binOp op T x y T')(hux:P.underlying Tx=some (.int q))(huy:P.underlying Ty=some (.int q))
  (hx:∀σ',Agr o σ σ' []->Ev P σ' x (.dat Tx (.int a)))(hy:∀σ',Agr o σ σ' []->Ev P σ' y (.dat Ty (.int b)))(h:ahU P E n o op Tx q a b k=some r):OpS P n o σ k r:=by
 unfold ahU at h;simp only at h;cases op with
 |add=>exact bX h fun σ' ha d hd hn=>aqr ho hd hn hux huy (hx σ' ha) (hy σ' ha)
 |sub=>exact bX h fun σ' ha d hd hn=>aqs ho hd hn hux huy (hx σ' ha) (hy σ' ha)
 |mul=>exact bX h fun σ' ha d hd hn=>aqt ho hd hn hux huy (hx σ' ha) (hy σ' ha)
 |quo=>
  simp only at h;by_cases hb:b=0;·simp[hb]at h
  ·simp only[hb,decide_false,cond_false]at h;exact bX h fun σ' ha d hd hn=>aqu ho hd hn hux huy (hx σ' ha) (hy σ' ha) hb
 |rem=>
  simp only at h;by_cases hb:b=0;·simp[hb]at h
  ·simp only[hb,decide_false,cond_false]at h;exact bX h fun σ' ha d hd hn=>aqv ho hd hn hux huy (hx σ' ha) (hy σ' ha) hb
 |and=>exact bX h fun σ' ha d hd hn=>aqw ho hd hn hux huy (hx σ' ha) (hy σ' ha)
 |or=>exact bX h fun σ' ha d hd hn=>atC ho hd hn hux huy (hx σ' ha) (hy σ' ha)
 |xor=>exact bX h fun σ' ha d hd hn=>aqx ho hd hn hux huy (hx σ' ha) (hy σ' ha)
 |andNot=>exact bX h fun σ' ha d hd hn=>aqy ho hd hn hux huy (hx σ' ha) (hy σ' ha)
 |lss=>
  simp only at h;split at h;·rename_i TB hTB;exact bX h fun σ' ha d hd hn=>aqz ho hd hn (iT hTB) hux huy (hx σ' ha) (hy σ' ha)
  ·cases h
 |leq=>
  simp only at h;split at h;·rename_i TB hTB;exact bX h fun σ' ha d hd hn=>aqA ho hd hn (iT hTB) hux huy (hx σ' ha) (hy σ' ha)
  ·cases h
 |gtr=>
  simp only at h;split at h;·rename_i TB hTB;exact bX h fun σ' ha d hd hn=>aqB ho hd hn (iT hTB) hux huy (hx σ' ha) (hy σ' ha)
  ·cases h
 |geq=>
  simp only at h;split at h;·rename_i TB hTB;exact bX h fun σ' ha d hd hn=>aqC ho hd hn (iT hTB) hux huy (hx σ' ha) (hy σ' ha)
  ·cases h
 |eql=>
  simp only at h;split at h;·rename_i TB hTB;exact bX h fun σ' ha d hd hn=>aqD ho hd hn (iT hTB) hux huy (hx σ' ha) (hy σ' ha)
  ·cases h
 |neq=>
  simp only at h;split at h;·rename_i TB hTB;exact bX h fun σ' ha d hd hn=>aqE ho hd hn (iT hTB) hux huy (hx σ' ha) (hy σ' ha)
  ·cases h
 |_=>cases h
theorem atJ{op:BinOp}{T T' Tx Ty:TypeId}{a b:ByteArray}(ho:o.op= .binOp op T x y T')(hux:P.underlying Tx=some .string)(huy:P.underlying Ty=some .string)
  (hx:∀σ',Agr o σ σ' []->Ev P σ' x (.dat Tx (.str a)))(hy:∀σ',Agr o σ σ' []->Ev P σ' y (.dat Ty (.str b)))(h:ahV P E n o op Tx a b k=some r):OpS P n o σ k r:=by
 unfold ahV at h;simp only at h;cases op with
 |add=>
  simp only at h;have hh_:=aJ h;clear h;obtain⟨hs,h⟩:=hh_;exact bX h fun σ' ha d hd hn=>aqI ho hd hn hux huy (hx σ' ha) (hy σ' ha) (by have:=aL hs;unfold maxLen;omega)
 |lss=>
  simp only at h;split at h;·rename_i TB hTB;exact bX h fun σ' ha d hd hn=>aqH ho hd hn (iT hTB) hux huy (hx σ' ha) (hy σ' ha)
  ·cases h
 |eql=>
  simp only at h;split at h;·rename_i TB hTB;exact bX h fun σ' ha d hd hn=>aqF ho hd hn (iT hTB) hux huy (hx σ' ha) (hy σ' ha)
  ·cases h
 |neq=>
  simp only at h;split at h;·rename_i TB hTB;exact bX h fun σ' ha d hd hn=>aqG ho hd hn (iT hTB) hux huy (hx σ' ha) (hy σ' ha)
  ·cases h
 |_=>cases h
theorem aqW{op:BinOp}{T T' Tx Ty:TypeId}{a b:Bool}(ho:o.op= .binOp op T x y T')(hu:P.underlying T=some .bool)(hux:P.underlying Tx=some .bool)(huy:P.underlying Ty=some .bool)
  (hx:∀σ',Agr o σ σ' []->Ev P σ' x (.dat Tx (.bool a)))(hy:∀σ',Agr o σ σ' []->Ev P σ' y (.dat Ty (.bool b)))(h:abg P E n o op a b k=some r):OpS P n o σ k r:=by
 unfold abg at h;simp only at h;cases op with
 |eql=>
  simp only at h;split at h;·rename_i TB hTB;exact bX h fun σ' ha d hd hn=>aqJ ho hd hn (iT hTB) hu hux huy (hx σ' ha) (hy σ' ha)
  ·cases h
 |neq=>
  simp only at h;split at h;·rename_i TB hTB;exact bX h fun σ' ha d hd hn=>aqK ho hd hn (iT hTB) hu hux huy (hx σ' ha) (hy σ' ha)
  ·cases h
 |_=>cases h
theorem atK{op:BinOp}{T T':TypeId}(ho:o.op= .binOp op T x y T')(h:ah3 P E n o op T (opd P E.dt σ T x) y k=some r):OpS P n o σ k r:=by
 have hx:x∈o.op.operands.toList:=by rw[ho];simp[Op.operands]
 unfold ah3 at h;split at h
 ·split  at h
  ·rename_i ms hu;split at h
   ·    rename_i e1;split at h
        ·rename_i TB hTB;split at h;·exact bX h fun σ' ha d hd hn=>afZ ho hd hn (iT hTB) hu (bW ha hx e1)
         ·exact bX h fun σ' ha d hd hn=>af0 ho hd hn (iT hTB) hu (bW ha hx e1)
         ·cases h
        ·cases h
   ·cases h
  ·cases h
 ·cases h
theorem awQ{op:BinOp}{T T':TypeId}(ho:o.op= .binOp op T x y T')(h:aqP P E n o σ op T x y k=some r):OpS P n o σ k r:=by
 have hx:x∈o.op.operands.toList:=by rw[ho];simp[Op.operands]
 unfold aqP at h;split at h
 ·split  at h
  ·rename_i T2 hT2;split at h
   ·    rename_i T1 p e1;have hh_:=aJ h;clear h;obtain⟨hc,h⟩:=hh_;rw[beq_eq hc]at e1;split at h
        ·rename_i TB hTB;split at h;·exact bX h fun σ' ha d hd hn=>adP ho hd hn (iT hTB) (BR hT2) (bW ha hx e1) (.inl ⟨rfl,rfl⟩)
         ·exact bX h fun σ' ha d hd hn=>adP ho hd hn (iT hTB) (BR hT2) (bW ha hx e1) (.inr ⟨rfl,rfl⟩)
         ·cases h
        ·cases h
   ·cases h
  ·cases h
 ·cases h
theorem awR{op:BinOp}{T T':TypeId}(ho:o.op= .binOp op T x y T')(h:aqQ P E n o σ op T x y T' k=some r):OpS P n o σ k r:=by
 have hx:x∈o.op.operands.toList:=by rw[ho];simp[Op.operands]
 have hy:y∈o.op.operands.toList:=by rw[ho];simp[Op.operands]
 unfold aqQ at h;split at h
 ·rename_i T2 q e2;split at h
  ·rename_i T1 p e1;cases hc:(ahG P T&&(Nat.beq T1 T&&Nat.beq T2 T))with
   |    false=>
        rw[hc]at h;exact awQ ho h
   |true=>
   rw[hc]at h;simp only[cond_true]at h;have u1:=beq_eq (aG (aB hc));have u2:=beq_eq (aB (aB hc));rw[u1]at e1;rw[u2]at e2;split at h
   ·    rename_i TB hTB;split at h;·exact bX h fun σ' ha d hd hn=>apr ho hd hn (iT hTB) (aG hc) (bW ha hx e1) (bW ha hy e2) (.inl ⟨rfl,rfl⟩)
        ·exact bX h fun σ' ha d hd hn=>apr ho hd hn (iT hTB) (aG hc) (bW ha hx e1) (bW ha hy e2) (.inr ⟨rfl,rfl⟩)
        ·cases h
   ·cases h
  ·cases h
 ·exact atK ho h
theorem atL{op:BinOp}{T T':TypeId}(ho:o.op= .binOp op T x y T')(h:ah4 P E n o σ op T x y T' k=some r):OpS P n o σ k r:=by
 have hx:x∈o.op.operands.toList:=by rw[ho];simp[Op.operands]
 have hy:y∈o.op.operands.toList:=by rw[ho];simp[Op.operands]
 unfold ah4 at h;split at h
 ·rename_i Tx q a ha;obtain⟨d1,e1,u1,rfl⟩:=lN ha;split at h
  ·rename_i Ty q' b hb;obtain⟨d2,e2,u2,rfl⟩:=lN hb;split at h
   ·    obtain⟨hq,h⟩:=aJ h;exact bX h fun σ' ag d hd hn=>apt ho hd hn u1 u2 ((bW ag hx e1).cint u1) ((bW ag hy e2).cint u2) (of_decide_eq_true hq) (.inl ⟨rfl,rfl⟩)
   ·    obtain⟨hq,h⟩:=aJ h;exact bX h fun σ' ag d hd hn=>apt ho hd hn u1 u2 ((bW ag hx e1).cint u1) ((bW ag hy e2).cint u2) (of_decide_eq_true hq) (.inr ⟨rfl,rfl⟩)
   ·    have hh_:=aJ h;clear h;obtain⟨hq,h⟩:=hh_;have hq':q=q':=by simpa using hq
        subst hq';exact atI ho u1 u2 (fun σ' ag=>(bW ag hx e1).cint u1) (fun σ' ag=>(bW ag hy e2).cint u2) h
  ·cases h
 ·split  at h
  ·rename_i Tx a ha;obtain⟨d1,e1,u1,rfl⟩:=pO ha;split at h
   ·    rename_i Ty b hb;obtain⟨d2,e2,u2,rfl⟩:=pO hb;exact atJ ho u1 u2 (fun σ' ag=>(bW ag hx e1).cstr u1) (fun σ' ag=>(bW ag hy e2).cstr u2) h
   ·cases h
  ·split at h
   ·    rename_i a ha;obtain⟨Tx,d1,e1,u1,rfl⟩:=vO ha;split at h
        ·rename_i b hb;obtain⟨Ty,d2,e2,u2,rfl⟩:=vO hb;have hh_:=aJ h;clear h;obtain⟨hq,h⟩:=hh_;exact aqW ho (Yl hq) u1 u2 (fun σ' ag=>(bW ag hx e1).cbool u1) (fun σ' ag=>(bW ag hy e2).cbool u2) h
        ·cases h
   ·exact awR ho h
theorem atM{T0:TypeId}(ho:o.op= .unOp .not T0 x)(h:ah5 P E n o σ x k=some r):OpS P n o σ k r:=by
 have hx:x∈o.op.operands.toList:=by rw[ho];simp[Op.operands]
 unfold ah5 at h;split at h
 ·rename_i b hb;obtain⟨Tx,d1,e1,u1,rfl⟩:=vO hb;split at h
  ·rename_i TB hTB;refine bX h fun σ' ha d hd hn=>?_;have key:=aqp ho hd hn u1 ((bW ha hx e1).cbool u1);exact key.weak fun ok w β z hz=>by have:=(RV.bool u1 hz).2;rw[this];exact RV.mk_bool (iT hTB)
  ·cases h
 ·cases h
theorem atO(ho:o.op= .unOp .neg T x)(h:ah6 P E n o σ T x k=some r):OpS P n o σ k r:=by
 have hx:x∈o.op.operands.toList:=by rw[ho];simp[Op.operands]
 unfold ah6 at h;split at h
 ·rename_i Tx q a ha;obtain⟨d1,e1,u1,rfl⟩:=lN ha;exact bX h fun σ' ha d hd hn=>aqL ho hd hn u1 ((bW ha hx e1).cint u1)
 ·cases h
theorem anm(ho:o.op= .unOp .xor T x)(h:VD P E n o σ T x k=some r):OpS P n o σ k r:=by
 have hx:x∈o.op.operands.toList:=by rw[ho];simp[Op.operands]
 unfold VD at h;split at h
 ·rename_i Tx q a ha;obtain⟨d1,e1,u1,rfl⟩:=lN ha;exact bX h fun σ' ha d hd hn=>ahJ ho hd hn u1 ((bW ha hx e1).cint u1)
 ·cases h
theorem agp{S1 S2:TypeId}(ho:o.op= .convert S1 S2 x)(h:I9 P E n o σ S1 S2 x k=some r):OpS P n o σ k r:=by
 have hx:x∈o.op.operands.toList:=by rw[ho];simp[Op.operands]
 unfold I9 at h;split at h
 ·rename_i Tx q a ha;obtain⟨d1,e1,u1,rfl⟩:=lN ha;split at h
  ·rename_i q2 hu2;have hh_:=aJ h;clear h;obtain⟨hq,h⟩:=hh_;exact bX h fun σ' ha d hd hn=>X3 ho hd hn (qp hq) hu2 u1 ((bW ha hx e1).cint u1)
  ·cases h
 ·split at h
  ·rename_i Tx a ha;obtain⟨d1,e1,u1,rfl⟩:=pO ha;have hh_:=aJ h;clear h;obtain⟨hq,h⟩:=hh_;exact bX h fun σ' ha d hd hn=>X4 ho hd hn (uP (aG hq)) (uP (aB hq)) u1 ((bW ha hx e1).cstr u1)
  ·cases h
theorem aqX(ho:o.op= .makeSlice T x y)(h:abm P E n o σ T x y k=some r):OpS P n o σ k r:=by
 unfold abm at h;split at h
 ·rename_i Te hTe;split at h
  ·rename_i z hz;split at h
   ·    rename_i a ha;split at h
        ·rename_i b hb;have hh_:=aJ h;clear h;obtain⟨hc,h⟩:=hh_;have hh_:=kG h;clear h;obtain⟨hk0,h⟩:=hh_;obtain⟨es,p1,p2,p3,p4,p5,h⟩:=ahO h;subst p4;refine adY h fun σ' ag d hd hn=>?_;have e1:abe P σ' (some x) a:=vM (E:=E) (by rw[nL ag.ts (by intro z hz;cases hz;rw[ho];simp[Op.operands])];exact ha);have e2:abe P σ' (some y) b:=vM (E:=E) (by rw[nL ag.ts (by intro z hz;cases hz;rw[ho];simp[Op.operands])];exact hb);obtain⟨TI,k1,u1,v1⟩:=e1;obtain⟨TJ,k2,u2,v2⟩:=e2;exact anb ho hd hn (dx hTe) (by rw[ag.hs _ (by simp)];exact kH σ) (by rw[ag.k0];exact hk0) (kE hz) (Co hc) p5 u1 u2 v1 v2 p1 p2 p3
        ·cases h
   ·cases h
  ·cases h
 ·cases h
theorem NR{σ':St}{hs:List Ob}{k0:Nat}{rd:List Nat}(ha:Agr o σ σ' rd){D:List TypeId}(hx:x∈o.op.operands.toList):Ev P (St.mk σ'.ts hs k0) x (opd P D σ T x):=by
 have e3:opd P D (St.mk σ'.ts hs k0) T x=opd P D σ T x:=by rw[←vL ha.ts hx];cases x<;>rfl
 rw[←e3];exact uY
theorem Agr.frz{σ':St}{ls:List Nat}{rd:List Nat}(ha:Agr o σ σ' rd)(h:∀l∈ls,l∈rd):frzW σ'.hs ls=frzW σ.hs ls:=kF fun l hl=>ha.hs l (h l hl)
theorem Rh{d l:Nat}{T3 Te:TypeId}{lo hi:Option Operand}{i j:Int}{es:List Dt}(ho:o.op= .slice T x lo hi none)(hd:o.dst=some d)(hn:d<n)(hu:P.underlying T=some (.slice Te))(h0c:P.cellsOf Te≠0)
  (hx:Ev P σ x (.row l))(hl:lk σ.hs l= .row T3 es)(hlo:abe P σ lo i)(hhi:ahR P σ es.length hi j)(h0:0<=i)(hij:i<=j)(hj:j<=es.length):bY P n o σ (σ.put d .dead):=
 bF hd hn fun ok0 w0 a w β r=>by
  have e1:=iL (hx _ _ _ _ _ _ r);have hob:=r.hs l;rw[hl,e1]at hob;obtain⟨E',xs,_,hown,_⟩:=BU hob;have hz:∃ao cap,a.eval x= .slice ao es.length cap∧es.length<=cap:=by
   rcases hown.2 with⟨h1,h2⟩| ⟨g,cap,cur,h1,_,_,h3,h4,_⟩;·exact⟨none,0,by rw[h1,h2],by rw[h2];exact aC _⟩
   ·exact⟨_,cap,h1,by omega⟩
  obtain⟨ao,cap,ex,hlc⟩:=hz;have hb:=EX (cap:=cap) r true hlo hhi h0 hij hj hlc;cases hinf:P.info? Te with
  |none=>simp[Program.cellsOf,hinf]at h0c
  |some inf=>
   have hs:inf.size=P.cellsOf Te:=by simp[Program.cellsOf,hinf]
   exact⟨.slice (if cap=i.toNat then ao else ao.map (·.add (i.toNat*P.cellsOf Te))) (j.toNat-i.toNat) (cap-i.toNat),by simp[execOp,ho,ex,Instr.sliceAt,Instr.slice,run_underlying hu,hb,sizeOf,typeInfo,hinf,hs],trivial⟩
theorem air{lo hi:Option Operand}(ho:o.op= .slice T x lo hi none)(h:NH P E n o σ T x lo hi k=some r):OpS P n o σ k r:=by
 have hx:x∈o.op.operands.toList:=by rw[ho];simp[Op.operands]
 have hlo:∀z,lo=some z->z∈o.op.operands.toList:=by intro z hz;rw[ho,hz];simp[Op.operands]
 have hhi:∀z,hi=some z->z∈o.op.operands.toList:=by intro z hz;rw[ho,hz];simp[Op.operands]
 unfold NH at h;split at h
 ·rename_i l e1;split at h
  ·rename_i T3 es hl;split at h
   ·    rename_i a ha;split at h
        ·rename_i b hb;split at h
         ·rename_i Te hTe;have hh_:=aJ h;clear h;obtain⟨hc,h⟩:=hh_;have hh_:=ak.1 h;clear h;obtain⟨rs,hrs,h⟩:=hh_;obtain⟨p1,p2,p3,p4⟩:=Ta hrs;obtain⟨d,hd,hn,hk⟩:=jO h;refine⟨_,hk,fun σ' ag=>?_⟩;have key:=Rh (σ:=σ') ho hd hn (dx hTe) (Co hc) (bW ag hx e1) (by rw[ag.hs l (by simp)];exact hl) (vM (E:=E) (by rw[nL ag.ts hlo];exact ha)) (VI (E:=E) (by rw[nL ag.ts hhi];exact hb)) p1 p2 p3;rw[hd];exact key
         ·cases h
        ·cases h
   ·cases h
  ·cases h
 ·cases h
theorem ano{lo hi:Option Operand}(ho:o.op= .slice T x lo hi none)(h:VF P E n o σ T x lo hi k=some r):OpS P n o σ k r:=by
 have hx:x∈o.op.operands.toList:=by rw[ho];simp[Op.operands]
 have hlo:∀z,lo=some z->z∈o.op.operands.toList:=by intro z hz;rw[ho,hz];simp[Op.operands]
 have hhi:∀z,hi=some z->z∈o.op.operands.toList:=by intro z hz;rw[ho,hz];simp[Op.operands]
 unfold VF at h;cases hsl:E.sld o with
 |true=>
  rw[hsl,cond_true]at h;exact air ho h
 |false=>
 rw[hsl,cond_false]at h;split at h
 ·rename_i Tx s hs;obtain⟨d1,e1,u1,rfl⟩:=pO hs;split at h
  ·rename_i a ha;split at h
   ·    rename_i b hb;have hh_:=aJ h;clear h;obtain⟨hc,h⟩:=hh_;have hh_:=ak.1 h;clear h;obtain⟨rs,hrs,h⟩:=hh_;obtain⟨p1,p2,p3,p4⟩:=agc hrs;subst p4;exact bX h fun σ' ag d hd hn=>Vr ho hd hn (uP hc) u1 ((bW ag hx e1).cstr u1) (vM (E:=E) (by rw[nL ag.ts hlo];exact ha)) (VI (E:=E) (by rw[nL ag.ts hhi];exact hb)) p1 p2 p3
   ·cases h
  ·cases h
 ·split  at h
  ·rename_i Tx Te es hl;obtain⟨d1,hp,u1,rfl⟩:=DK hl;split at h
   ·    rename_i a ha;split at h
        ·rename_i b hb;have hh_:=aJ h;clear h;obtain⟨hc,h⟩:=hh_;have hh_:=ak.1 h;clear h;obtain⟨rs,hrs,h⟩:=hh_;obtain⟨p1,p2,p3,p4⟩:=Ta hrs;subst p4;obtain⟨d,hd,hn,hk⟩:=jO h;refine⟨_,hk,fun σ' ag=>?_⟩;have hfw:=ag.frz (ls:=(opd P E.dt σ T x).rws) fun l hl=>hl;obtain⟨u2,h0c⟩:=eu hc;have hpk:pk P (wrO σ'.hs (frzW σ'.hs (opd P E.dt σ T x).rws)) (opd P E.dt σ T x)=some (Tx,d1):=by rw[←hp,hfw];exact AQ _ fun l hl=>pQ (fun l hl=>ag.hs l hl) l hl
         have hev:Ev P (St.mk σ'.ts (wrO σ'.hs (frzW σ'.hs (opd P E.dt σ T x).rws)) σ'.k0) x (.dat Tx d1):=Ev.pk (NR ag hx) hpk;have hlo':vZ P E (St.mk σ'.ts (wrO σ'.hs (frzW σ'.hs (opd P E.dt σ T x).rws)) σ'.k0) 0 lo=some a:=by rw[←ha];exact nL (fun t ht=>ag.ts t ht) hlo
         have hhi':vZ P E (St.mk σ'.ts (wrO σ'.hs (frzW σ'.hs (opd P E.dt σ T x).rws)) σ'.k0) (d1.toLst.length:Nat) hi=some b:=by rw[←hb];exact nL (fun t ht=>ag.ts t ht) hhi
         have key:=(Vs ho hd hn u2 u1 h0c (hev.clst u1) (vM hlo') (VI hhi') p1 p2 p3).pre (Imp.frzW (σ:=σ') (opd P E.dt σ T x).rws);rw[hd];rw[hfw]at key;exact key
        ·cases h
   ·cases h
  ·cases h
theorem Yo{S:TypeId}{i:Nat}(ho:o.op= .fieldAddr S x i)(h:Ci P E n o σ S x i k=some r):OpS P n o σ k r:=by
 have hx:x∈o.op.operands.toList:=by rw[ho];simp[Op.operands]
 unfold Ci at h;split at h
 ·rename_i fs hfs;split at h
  ·rename_i f hf;have hh_:=aJ h;clear h;obtain⟨hc,h⟩:=hh_;split at h
   ·    rename_i l p q e1;exact bX h fun σ' ha d hd hn=>IW ho hd hn (qo hfs) hf (Co hc) (bW ha hx e1)
   ·    rename_i l j z p q e1;exact bX h fun σ' ha d hd hn=>Gn ho hd hn (qo hfs) hf (Co hc) (bW ha hx e1)
   ·    rename_i S' d0 e1;have hh_:=aJ h;clear h;obtain⟨hc2,h⟩:=hh_;have e:=beq_eq (aG hc2);subst e;exact bX h fun σ' ha d hd hn=>xL ho hd hn (qo hfs) hf (Co hc) (aL (aB hc2)) (bW ha hx e1)
   ·    rename_i T2 d0 e1;split at h
        ·rename_i S' hS';have hh_:=ak.1 h;clear h;obtain⟨e0,he0,h⟩:=hh_;have hh_:=aJ h;clear h;obtain⟨hc2,h⟩:=hh_;have e:=beq_eq (aG hc2);subst e;exact bX h fun σ' ha d hd hn=>xL ho hd hn (qo hfs) hf (Co hc) (aL (aB hc2)) ((bW ha hx e1).pd (BR hS') he0)
        ·cases h
   ·cases h
  ·cases h
 ·cases h
theorem anp{S:TypeId}{i:Nat}(ho:o.op= .field S x i)(h:VG P E n o σ S x i k=some r):OpS P n o σ k r:=by
 have hx:x∈o.op.operands.toList:=by rw[ho];simp[Op.operands]
 unfold VG at h;split at h
 ·rename_i fs hfs;split at h
  ·rename_i f hf;split at h
   ·    rename_i S' d0 hp;have hh_:=aJ h;clear h;obtain⟨hc,h⟩:=hh_;have e:=beq_eq (aG hc);subst e;obtain⟨q1,q2,⟨D,hD⟩,q4,q5⟩:=kD (aB (aB hc));exact bX h fun σ' ha d hd hn=>(ahQ ho hd hn (qo hfs) hf hD (fun hf2=>q4 hf2) (aL (aG (aB hc))) (Ev.pk (rQ ha hx) (NP _ hp))).can
   ·cases h
  ·cases h
 ·cases h
theorem Yp(ho:o.op= .indexAddr T x y)(h:Cj P E n o σ T x y k=some r):OpS P n o σ k r:=by
 have hx:x∈o.op.operands.toList:=by rw[ho];simp[Op.operands]
 have hy:∀z,some y=some z->z∈o.op.operands.toList:=by intro z hz;cases hz;rw[ho];simp[Op.operands]
 unfold Cj at h;split at h
 ·rename_i i hi;have hidx:∀σ' rd,Agr o σ σ' rd->∃TI k,P.underlying TI=some (.int k)∧Ev P σ' y (.dat TI (.int i)):=fun σ' rd ag=>vM (lo:=some y) (E:=E) (by rw[nL ag.ts hy];exact hi);split at h
  ·rename_i l e1;split at h
   ·    rename_i T5 es hl;split at h
        ·rename_i Te hTe;have hh_:=aJ h;clear h;obtain⟨hc,h⟩:=hh_;have hh_:=ak.1 h;clear h;obtain⟨u,hu,h⟩:=hh_;obtain⟨p1,p2⟩:=X9 hu;obtain⟨u2,h0c⟩:=eu hc;refine bX h fun σ' ag d hd hn=>?_;obtain⟨TI,k1,v1,v2⟩:=hidx σ' _ ag;exact Vn ho hd hn u2 h0c v1 (bW ag hx e1) v2 (by rw[ag.hs l (by simp)];exact hl) (dx hTe) p1 p2
        ·cases h
   ·    rename_i T5 vs hl;split at h
        ·rename_i Te hTe;have hh_:=aJ h;clear h;obtain⟨hc,h⟩:=hh_;obtain⟨u2,h0c⟩:=eu (aG hc);refine bX h fun σ' ag d hd hn=>?_;obtain⟨TI,k1,v1,v2⟩:=hidx σ' _ ag;exact QT ho hd hn u2 h0c v1 (bW ag hx e1) v2 (by rw[ag.hs l (by simp)];exact hl) (by simpa using aG (aB hc)) (by simpa using aB (aB hc))
        ·cases h
   ·    rename_i T5 T2 c kk es hh hl;split at h
        ·rename_i Te hTe;have hh_:=aJ h;clear h;obtain⟨hc,h⟩:=hh_;have hh_:=ak.1 h;clear h;obtain⟨u,hu,h⟩:=hh_;obtain⟨p1,p2⟩:=X9 hu;obtain⟨u2,h0c⟩:=eu hc;refine bX h fun σ' ag d hd hn=>?_;obtain⟨TI,k1,v1,v2⟩:=hidx σ' _ ag;exact QV ho hd hn u2 h0c v1 (bW ag hx e1) v2 (by rw[ag.hs l (by simp)];exact hl) p1 p2
        ·cases h
   ·    rename_i T5 es hl;split at h
        ·rename_i Te hTe;have hh_:=aJ h;clear h;obtain⟨hc,h⟩:=hh_;have hh_:=ak.1 h;clear h;obtain⟨e0,he0,h⟩:=hh_;obtain⟨p1,p2⟩:=Gs he0;obtain⟨u2,h0c⟩:=eu hc;refine bX h fun σ' ag d hd hn=>?_;obtain⟨TI,k1,v1,v2⟩:=hidx σ' _ ag;exact Gq ho hd hn u2 (dx hTe) h0c v1 ((bW ag hx e1).frz (by rw[ag.hs l (by simp)];exact hl)) v2 p1 p2
        ·cases h
   ·cases h
  ·rename_i v0 hne;split at h
   ·    rename_i Tx Te es hl;obtain⟨d1,hp,u1,rfl⟩:=DK hl;have hh_:=aJ h;clear h;obtain⟨hc,h⟩:=hh_;have hh_:=ak.1 h;clear h;obtain⟨e0,he0,h⟩:=hh_;obtain⟨p1,p2⟩:=Gs he0;obtain⟨u2,h0c⟩:=eu hc;refine bX h fun σ' ag d hd hn=>?_;obtain⟨TI,k1,v1,v2⟩:=hidx σ' _ ag;exact Gq ho hd hn u2 u1 h0c v1 ((Ev.pk (rQ ag hx) (NP _ hp)).clst u1) v2 p1 p2
   ·cases h
 ·cases h
theorem anq(ho:o.op= .index T x y)(h:VH P E n o σ T x y k=some r):OpS P n o σ k r:=by
 have hx:x∈o.op.operands.toList:=by rw[ho];simp[Op.operands]
 have hy:∀z,some y=some z->z∈o.op.operands.toList:=by intro z hz;cases hz;rw[ho];simp[Op.operands]
 unfold VH at h;split at h
 ·rename_i Tx s hs;obtain⟨d1,e1,u1,rfl⟩:=pO hs;split at h
  ·rename_i i hi;have hh_:=aJ h;clear h;obtain⟨hc,h⟩:=hh_;have hh_:=ak.1 h;clear h;obtain⟨c,hc2,h⟩:=hh_;obtain⟨p1,u,p2,rfl⟩:=agb hc2;refine bX h fun σ' ag d hd hn=>?_;obtain⟨TI,k1,v1,v2⟩:=vM (lo:=some y) (E:=E) (σ:=σ') (i:=i) (by rw[nL ag.ts hy];exact hi);exact Vk ho hd hn v1 (qp (aB hc)) (uP (aG hc)) u1 ((bW ag hx e1).cstr u1) v2 p1 p2
  ·cases h
 ·split  at h
  ·rename_i T' e he;split at h
   ·    rename_i len Te hu;split at h
        ·rename_i i hi;have hh_:=aJ h;clear h;obtain⟨hc,h⟩:=hh_;have hh_:=ak.1 h;clear h;obtain⟨q,hq,h⟩:=hh_;obtain⟨p1,p2⟩:=Gs hq;have eT:=beq_eq (aG hc);subst eT;obtain⟨_,_,⟨D,hD⟩,h1,_⟩:=kD (aB (aB hc));refine bX h fun σ' ag d hd hn=>?_;obtain⟨TI,k1,v1,v2⟩:=vM (lo:=some y) (E:=E) (σ:=σ') (i:=i) (by rw[nL ag.ts hy];exact hi);exact(Yc ho hd hn hu hD h1 (beq_eq (aG (aB hc))) v1 (bW ag hx he) v2 p1 p2).can
        ·cases h
   ·cases h
  ·cases h
theorem agq{i:Nat}(ho:o.op= .extract x i)(h:Jb P E n o σ x i k=some r):OpS P n o σ k r:=by
 have hx:x∈o.op.operands.toList:=by rw[ho];simp[Op.operands]
 unfold Jb at h;split at h
 ·rename_i vs e1;split at h;·cases h
  ·rename_i v0 hne hv;exact bX h fun σ' ha d hd hn=>aa8 ho hd hn (bW ha hx e1) hv fun us e=>hne us e
  ·cases h
 ·cases h
theorem Fb:∀{vs:List AV},Yf P vs=true->∀v∈vs,v.isAgg P=false∧v≠ .dead∧∀us,v≠ .tup us
 | [],_,v,hv=>by simp at hv
 |u::r,h,v,hv=>by
  unfold Yf at h;rcases List.mem_cons.1 hv with e|hv
  ·subst e;have h1:=aG h;split at h1;·cases h1
   ·cases h1
   ·    rename_i h3 h4;exact⟨by simpa using h1,fun e=>h4 e,fun us e=>h3 us e⟩
  ·exact Fb (aB h) v hv
theorem ais{D:List TypeId}:∀{xs:List Operand},EvXs P σ xs (xs.map (opd P D σ T))
 | []=> .nil
 |x::xs=> .cons uY ais
theorem Yq{d:Nat}{f:FuncId}{first:Array Operand}{xs:List Operand}{caps:List AV}(ho:o.op= .makeFunc (.func f) first xs.toArray)(hf:first.size=0)(hd:o.dst=some d)(hn:d<n)(ha:EvXs P σ xs caps)(hc:∀v∈caps,v.isAgg P=false∧v≠ .dead∧∀us,v≠ .tup us):bY P n o σ (σ.put d (.fn f caps)):=
 bF hd hn fun ok0 w0 a w β r=>by
  have hfe:first= #[]:=Array.eq_empty_of_size_eq_zero hf
  subst hfe;have h:=ha.rvs r;refine⟨.func (.func f) #[] (xs.map a.eval).toArray,by simp[execOp,ho,Instr.makeFunc,List.map_toArray],⟨fun hi=>by simp[AV.isAgg]at hi,fun _=> .fn (by simpa using h.len) fun i av hv=>?_⟩⟩;obtain⟨z,h1,h2⟩:=h.get i av hv;have hm:=hc av (aU hv);have e:(xs.map a.eval).toArray.getD i undef=z:=by simp only[Array.getD_eq_getD_getElem?,List.getElem?_toArray,h1,Option.getD_some]
  rw[e];exact(RV.to1 hm.2.1 hm.2.2 h2).2 hm.1
theorem abt{f:FuncId}{first caps:Array Operand}(ho:o.op= .makeFunc (.func f) first caps)(h:E9 P E n o σ f first.size caps.toList k=some r):OpS P n o σ k r:=by
 unfold E9 at h;have hh_:=aJ h;clear h;obtain⟨hc,h⟩:=hh_;refine bX h fun σ' ag d hd hn=>Yq (xs:=caps.toList) (by rw[ho]) (beq_eq (aG hc)) hd hn ?_ (Fb (aB hc));have e:caps.toList.map (opd P E.dt σ' 0)=caps.toList.map (opd P E.dt σ 0):=by refine List.map_congr_left fun z hz=>vL ag.ts ?_;rw[ho];simp[Op.operands,hz]
 rw[←e];exact ais
theorem abu{d:Nat}{name:String}{T:TypeId}{v:AV}{x:Operand}(ho:o.op= .makeFunc (.method name) #[x] #[])(hd:o.dst=some d)(hn:d<n)(hx:Ev P σ x (.ifc T v)):bY P n o σ (σ.put d (.mth T name)):=
 bF hd hn fun ok0 w0 a w β r=>by
  have h:=(hx _ _ _ _ _ _ r).2 rfl;generalize hz:a.eval x=z at h;obtain⟨z',rfl⟩:∃z',z= .iface T z':=by
   cases h with
   |ifc1 _ _=>exact⟨_,rfl⟩
   |ifcA _ _=>exact⟨_,rfl⟩
  exact⟨.func (.method name) #[.iface T z'] #[],by simp[execOp,ho,Instr.makeFunc,hz],⟨fun hi=>by simp[AV.isAgg]at hi,fun _=> .mth⟩⟩
theorem agr{name:String}{first caps:Array Operand}(ho:o.op= .makeFunc (.method name) first caps)(h:I8 P E n o σ name first.toList caps.size k=some r):OpS P n o σ k r:=by
 unfold I8 at h;split at h
 ·rename_i x hf;split at h
  ·rename_i T v e1;obtain⟨hc,h⟩:=aJ h;have ec:caps= #[]:=Array.eq_empty_of_size_eq_zero (beq_eq hc);have ef:first= #[x]:=by apply Array.ext';simpa using hf
   subst ec ef;have hx:x∈o.op.operands.toList:=by rw[ho];simp[Op.operands]
   exact bX h fun σ' ag d hd hn=>abu ho hd hn (bW ag hx e1)
  ·cases h
 ·cases h
theorem atP{xs:Array Operand}{Ts:Array TypeId}(ho:o.op= .call ⟨.builtin .len,xs,Ts⟩)(hxs:xs.toList=[x])(hTs:Ts.toList=[T])(h:aia P E n o σ T x k=some r):OpS P n o σ k r:=by
 have hxs':xs= #[x]:=by apply Array.ext';simpa using hxs
 have hTs':Ts= #[T]:=by apply Array.ext';simpa using hTs
 subst hxs' hTs';have hx:x∈o.op.operands.toList:=by rw[ho];simp[Op.operands,Call.operands]
 unfold aia at h;have hh_:=aJ h;clear h;obtain⟨hI,h⟩:=hh_;split at h
 ·rename_i Tx s hs;obtain⟨d1,e1,u1,rfl⟩:=pO hs;have hh_:=aJ h;clear h;obtain⟨hc,h⟩:=hh_;exact bX h fun σ' ag d hd hn=>aa6 ho hd hn (qp hI) (uP hc) u1 ((bW ag hx e1).cstr u1)
 ·split  at h
  ·rename_i Te hTe;split at h
   ·    rename_i l e1;split at h
        ·rename_i T5 es hl;exact bX h fun σ' ag d hd hn=>aa7 ho hd hn (qp hI) (dx hTe) (bW ag hx e1) (by rw[ag.hs l (by simp)];exact hl)
        ·rename_i T5 vs hl;exact bX h fun σ' ag d hd hn=>XT (E:=0) ho hd hn (qp hI) (dx hTe) (bW ag hx e1) (by rw[ag.hs l (by simp)];exact hl)
        ·rename_i T5 T2 c kk es hh hl;exact bX h fun σ' ag d hd hn=>XZ (E:=0) ho hd hn (qp hI) (dx hTe) (bW ag hx e1) (by rw[ag.hs l (by simp)];exact hl)
        ·rename_i T5 es hl;have hh_:=aJ h;clear h;obtain⟨hsl,h⟩:=hh_;obtain⟨E5,hE5⟩:=Option.isSome_iff_exists.1 hsl;refine bX h fun σ' ag d hd hn=>?_;have hl':lk σ'.hs l= .frz T5 es:=by rw[ag.hs l (by simp)];exact hl
         exact Nv ho hd hn (qp hI) (dx hTe) (dx hE5) ((bW ag hx e1).frz hl')
        ·cases h
   ·    split at h
        ·rename_i Tx Te2 es hl;obtain⟨d1,hp,u1,rfl⟩:=DK hl;exact bX h fun σ' ag d hd hn=>Nv ho hd hn (qp hI) (dx hTe) u1 ((Ev.pk (rQ ag hx) (NP _ hp)).clst u1)
        ·cases h
  ·cases h
theorem aqY{d:Nat}{k:IntKind}{T3 T4 T1 T2:TypeId}{p q:Int}(ho:o.op= .call ⟨.builtin .max,#[x,y],#[T1,T2]⟩)(hd:o.dst=some d)(hn:d<n)
  (hu:P.underlying T3=some (.int k))(hu':P.underlying T4=some (.int k))(hx:Ev P σ x (.dat T3 (.int p)))(hy:Ev P σ y (.dat T4 (.int q))):bY P n o σ (σ.put d (.dat T3 (.int (bif decide (p<q)then q else p)))):=
 bF hd hn fun ok0 w0 a w β r=>by
  obtain⟨_,e1,b1,b2⟩:=RV.int hu (hx _ _ _ _ _ _ r);obtain⟨_,e2,b3,b4⟩:=RV.int hu' (hy _ _ _ _ _ _ r);simp only[Dt.toInt]at e1 e2 b1 b2 b3 b4;refine⟨.int k (bif decide (p<q)then q else p),?_,RV.mk_int hu ?_ ?_⟩;·by_cases h:p<q<;>simp[execOp,ho,e1,e2,resolve,invoke,builtin,Builtin.max_,Builtin.max2,h]
  ·by_cases h:p<q<;>simp[h,b1,b3]
  ·by_cases h:p<q<;>simp[h,b2,b4]
theorem aqZ{d:Nat}{k:IntKind}{T3 T4 T1 T2:TypeId}{p q:Int}(ho:o.op= .call ⟨.builtin .min,#[x,y],#[T1,T2]⟩)(hd:o.dst=some d)(hn:d<n)
  (hu:P.underlying T3=some (.int k))(hu':P.underlying T4=some (.int k))(hx:Ev P σ x (.dat T3 (.int p)))(hy:Ev P σ y (.dat T4 (.int q))):bY P n o σ (σ.put d (.dat T3 (.int (bif decide (q<p)then q else p)))):=
 bF hd hn fun ok0 w0 a w β r=>by
  obtain⟨_,e1,b1,b2⟩:=RV.int hu (hx _ _ _ _ _ _ r);obtain⟨_,e2,b3,b4⟩:=RV.int hu' (hy _ _ _ _ _ _ r);simp only[Dt.toInt]at e1 e2 b1 b2 b3 b4;refine⟨.int k (bif decide (q<p)then q else p),?_,RV.mk_int hu ?_ ?_⟩;·by_cases h:q<p<;>simp[execOp,ho,e1,e2,resolve,invoke,builtin,Builtin.min_,Builtin.min2,h]
  ·by_cases h:q<p<;>simp[h,b1,b3]
  ·by_cases h:q<p<;>simp[h,b2,b4]
theorem two{A:Type}{xs:Array A}{a b:A}(h:xs.toList=[a,b]):xs= #[a,b]:=by apply Array.ext';simpa using h
theorem atQ{xs:Array Operand}{Ts:Array TypeId}{T':TypeId}(ho:o.op= .call ⟨.builtin .min,xs,Ts⟩)(hxs:xs.toList=[x,y])(hTs:Ts.toList=[T,T'])(h:aib P E n o σ T T' x y k=some r):OpS P n o σ k r:=by
 have hxs':=two hxs;have hTs':=two hTs;subst hxs' hTs';have hx:x∈o.op.operands.toList:=by rw[ho];simp[Op.operands,Call.operands]
 have hy:y∈o.op.operands.toList:=by rw[ho];simp[Op.operands,Call.operands]
 unfold aib at h;split at h
 ·rename_i Tx q a ha;obtain⟨d1,e1,u1,rfl⟩:=lN ha;split at h
  ·rename_i Ty q' b hb;obtain⟨d2,e2,u2,rfl⟩:=lN hb;have hh_:=aJ h;clear h;obtain⟨hq,h⟩:=hh_;have hq':q=q':=by simpa using hq
   subst hq';exact bX h fun σ' ag d hd hn=>aqZ ho hd hn u1 u2 ((bW ag hx e1).cint u1) ((bW ag hy e2).cint u2)
  ·cases h
 ·cases h
theorem atS{xs:Array Operand}{Ts:Array TypeId}{T':TypeId}(ho:o.op= .call ⟨.builtin .max,xs,Ts⟩)(hxs:xs.toList=[x,y])(hTs:Ts.toList=[T,T'])(h:aic P E n o σ T T' x y k=some r):OpS P n o σ k r:=by
 have hxs':=two hxs;have hTs':=two hTs;subst hxs' hTs';have hx:x∈o.op.operands.toList:=by rw[ho];simp[Op.operands,Call.operands]
 have hy:y∈o.op.operands.toList:=by rw[ho];simp[Op.operands,Call.operands]
 unfold aic at h;split at h
 ·rename_i Tx q a ha;obtain⟨d1,e1,u1,rfl⟩:=lN ha;split at h
  ·rename_i Ty q' b hb;obtain⟨d2,e2,u2,rfl⟩:=lN hb;have hh_:=aJ h;clear h;obtain⟨hq,h⟩:=hh_;have hq':q=q':=by simpa using hq
   subst hq';exact bX h fun σ' ag d hd hn=>aqY ho hd hn u1 u2 ((bW ag hx e1).cint u1) ((bW ag hy e2).cint u2)
  ·cases h
 ·cases h
theorem wm{KT V:TypeId}(h:NI P T=some (KT,V)):P.underlying T=some (.map KT V)∧P.underlying KT=some .string∧dQ P V=false:=by
 unfold NI at h;split at h
 ·rename_i K V' hu;obtain⟨h1,h2⟩:=aJ h;cases h2;exact⟨hu,uP (aG h1),by simpa using aB h1⟩
 ·cases h
theorem abv{z:Dt}(h:ah7 P T=some z):∃(i:TypeInfo)(zv:Value),P.info? T=some i∧i.zero=some zv∧∀(ok:Nat->Prop)(w:World),RD P ok w T z [zv]:=by
 unfold ah7 at h;split at h
 ·rename_i i hi;split at h
  ·rename_i zv hz;cases hb:EZ zv with
   |true=>rw[hb]at h;cases h
   |    false=>
        rw[hb]at h;obtain⟨i',z',q1,q2,q3,q4⟩:=(kE h).ex;rw[hi]at q1;cases q1
        rw[hz]at q2;cases q2
        refine⟨_,zv,hi,hz,fun ok w=>?_⟩;have e:zv.cells.toList=[zv]:=by cases zv<;>first|rfl|cases hb
        rw[←e];exact q4 ok w
  ·cases h
 ·cases h
theorem apv{A:Type}{b:Bool}{u v:Option A}{q:A}(h:(bif b then u else v)=some q):(b=true∧u=some q)∨(b=false∧v=some q):=by cases b<;>simp_all
theorem ags(h:aqR P T=true):∃(i:TypeInfo),P.info? T=some i∧i.zero=some (.slice none 0 0):=by
 unfold aqR at h;split at h
 ·rename_i i hi;split at h;·rename_i hz;exact⟨i,hi,hz⟩
  ·cases h
 ·cases h
theorem ait{    two:Bool}(ho:o.op= .lookup T x y two)(h:NJ P E n o σ T x y two k=some r):OpS P n o σ k r:=by
 have hx:x∈o.op.operands.toList:=by rw[ho];simp[Op.operands]
 have hy:y∈o.op.operands.toList:=by rw[ho];simp[Op.operands]
 unfold NJ at h;split at h
 ·rename_i KT V hkv;obtain⟨u1,u2,u3⟩:=wm hkv;split at h
  ·rename_i z hz;have hz':=abv hz;split at h
   ·    rename_i l e1;split at h
        ·rename_i T5 es hl;split at h
         ·rename_i K5 V5 hkv5;obtain⟨p1,p2,p3⟩:=wm hkv5;split at h
          ·rename_i TS s hs;obtain⟨d2,e2,us,rfl⟩:=pO hs;have hh_:=aJ h;clear h;obtain⟨hc,h⟩:=hh_;have c1:=beq_eq (aG hc);have c2:=beq_eq (aB hc);subst c1;subst c2
           cases two with
           |  true=>
              simp only[cond_true]at h;split at h
              · rename_i TB hTB;exact bX h fun σ' ag d hd hn=>aaZ ho hd hn u1 u2 u3 (iT hTB) hz' us (bW ag hx e1) ((bW ag hy e2).cstr us) (by rw[ag.hs l (by simp)];exact hl) p1
              ·cases h
           |  false=>
              simp only[cond_false]at h;rcases apv h with⟨_,h⟩| ⟨_,h⟩;·exact bX h fun σ' ag d hd hn=>(SG ho hd hn u1 u2 u3 hz' us (bW ag hx e1) ((bW ag hy e2).cstr us) (by rw[ag.hs l (by simp)];exact hl) p1).can
              · rcases apv h with⟨_,h⟩| ⟨hm,h⟩;·exact bX h fun σ' ag d hd hn=>(SG ho hd hn u1 u2 u3 hz' us (bW ag hx e1) ((bW ag hy e2).cstr us) (by rw[ag.hs l (by simp)];exact hl) p1).can
                ·obtain⟨hnz,h⟩:=aJ h;exact bX h fun σ' ag d hd hn=>aaY ho hd hn u1 u2 (ags hnz) us (bW ag hx e1) ((bW ag hy e2).cstr us) (by rw[ag.hs l (by simp)];exact hl) p1 hm
          ·cases h
         ·cases h
        ·cases h
   ·cases h
  ·cases h
 ·cases h
theorem agt(ho:o.op= .makeMap T none)(h:Ja P n o σ T k=some r):OpS P n o σ k r:=by
 unfold Ja at h;split at h
 ·rename_i kv hkv;obtain⟨KT,V⟩:=kv;obtain⟨u1,u2,u3⟩:=wm hkv;have hh_:=kG h;clear h;obtain⟨hk0,h⟩:=hh_;exact adY h fun σ' ag d hd hn=>aa0 ho hd hn u1 u2 (by rw[ag.hs _ (by simp)];exact kH σ) (by rw[ag.k0];exact hk0)
 ·cases h
theorem Yr{u:Operand}(ho:o.op= .mapUpdate T x y u)(h:Ck P E o σ T x y u k=some r):OpS P n o σ k r:=by
 have hx:x∈o.op.operands.toList:=by rw[ho];simp[Op.operands]
 have hy:y∈o.op.operands.toList:=by rw[ho];simp[Op.operands]
 have hu:u∈o.op.operands.toList:=by rw[ho];simp[Op.operands]
 unfold Ck at h;split at h
 ·rename_i KT V hkv;obtain⟨u1,u2,u3⟩:=wm hkv;split at h
  ·rename_i l e1;split at h
   ·    rename_i T5 es hl;split at h
        ·rename_i K5 V5 hkv5;obtain⟨p1,p2,p3⟩:=wm hkv5;split at h
         ·rename_i TS s hs;obtain⟨d2,e2,us,rfl⟩:=pO hs;split at h
          ·rename_i TV dv hpk;have hh_:=aJ h;clear h;obtain⟨hc,h⟩:=hh_;have hnm:l∉(opd P E.dt σ V u).rws:=BP (by simpa using aB (aB hc));obtain⟨hd,hk⟩:=zI h;refine⟨_,hk,fun σ' ag=>?_⟩;have hagr:∀l2∈(opd P E.dt σ V u).rws,lk σ'.hs l2=lk σ.hs l2:=fun l2 hl2=>ag.hs l2 (by simp[hl2]);rw[hd];have hev:∀{z:Operand}{w:AV}{T0:TypeId},z∈o.op.operands.toList->opd P E.dt σ T0 z=w->Ev P (St.mk σ'.ts (wrO σ'.hs (frzW σ'.hs (opd P E.dt σ V u).rws)) σ'.k0) z w:=by
              rintro z w T0 hz rfl;have e3:opd P E.dt (St.mk σ'.ts (wrO σ'.hs (frzW σ'.hs (opd P E.dt σ V u).rws)) σ'.k0) T0 z=opd P E.dt σ T0 z:=by rw[←vL ag.ts hz];cases z<;>rfl
              rw[←e3];exact uY
           have hpk2:pk P (wrO σ'.hs (frzW σ'.hs (opd P E.dt σ V u).rws)) (opd P E.dt σ V u)=some (TV,dv):=by rw[←hpk,kF hagr];exact AQ _ fun l2 hl2=>pQ hagr l2 hl2
           have key:bY P n o ⟨σ'.ts,wrO σ'.hs (frzW σ'.hs (opd P E.dt σ V u).rws),σ'.k0⟩ ((St.mk σ'.ts (wrO σ'.hs (frzW σ'.hs (opd P E.dt σ V u).rws)) σ'.k0).lay l (.map T5 (mput es d2.toStr dv))):=by refine Vg (n:=n) ho hd u1 u2 p1 (by simpa using aG (aB hc)) (aG hc) us (hev hx e1) ((hev hy e2).cstr us) (Ev.pk (hev hu rfl) hpk2) ?_;show lk (wrO σ'.hs _) l=_;rw[qL hnm,ag.hs l (by simp)];exact hl
           have hfin:St.mk (agd σ'.ts none none) (wrO σ'.hs (frzW σ.hs (opd P E.dt σ V u).rws++[(l,.map T5 (mput es d2.toStr dv))])) σ'.k0=(St.mk σ'.ts (wrO σ'.hs (frzW σ'.hs (opd P E.dt σ V u).rws)) σ'.k0).lay l (.map T5 (mput es d2.toStr dv)):=by rw[rP,kF hagr];rfl
           have:=key.pre (Imp.frzW (σ:=σ') (opd P E.dt σ V u).rws);rw[←hfin]at this;exact this
          ·cases h
         ·cases h
        ·cases h
   ·cases h
  ·cases h
 ·cases h
theorem Jd:∀{ts:List (Nat×List Value)}{g:Nat}{cs:List Value},NK ts g=some cs->(g,cs)∈ts
 | [],_,_,h=>by cases h
 |t::r,g,cs,h=>by
  unfold NK at h;cases hb:Nat.beq t.1 g with
  |true=>
   rw[hb]at h;cases h;have e:=beq_eq hb;subst e;exact aO
  |false=>
   rw[hb]at h;exact aT _ (Jd h)
theorem Yt{Te:TypeId}{sz:Nat}:∀{m:Nat}{cs:List Value}{ds:List Dt},ah8 P Te sz m cs=some ds->∀(i:Nat)(d:Dt),ds[i]? =some d->∀(ok:Nat->Prop)(w:World),RD P ok w Te d ((cs.drop (i*sz)).take sz)∧i<m
 |0,cs,ds,h,i,d,hd,ok,w=>by unfold ah8 at h;cases h;simp at hd
 |m+    1,cs,ds,h,i,d,hd,ok,w=>by
  unfold ah8 at h;split at h
  ·rename_i v hv;split at h
   ·    rename_i T' d' hp;obtain⟨h1,h2⟩:=aJ h;have e:=beq_eq h1;subst e;split at h2
        ·rename_i ds' hds;cases h2;cases i with
         |zero=>
          simp only[aW,aD]at hd;subst hd;refine⟨?_,by omega⟩;simp only[Nat.zero_mul,aF];exact jN (β:=fun _=>none) (hs:=[]) (fun l T es hl=>by simp[lk]at hl) ((DJ hv).1 ok w _) hp
         |succ i=>
          simp only[aX]at hd;obtain⟨q1,q2⟩:=Yt hds i d hd ok w;rw[List.drop_drop,show sz+i*sz=(i+1)*sz by rw[Nat.succ_mul];omega]at q1;exact⟨q1,by omega⟩
        ·cases h2
   ·cases h
  ·cases h
theorem atT{g:Nat}(ho:o.op= .indexAddr T (.global g) y)(h:ah9 P E n o σ T g y k=some r):OpS P n o σ k r:=by
 have hy:y∈o.op.operands.toList:=by rw[ho];simp[Op.operands]
 unfold ah9 at h;split at h
 ·rename_i len Te hu;split at h
  ·rename_i cs hcs;split at h
   ·    rename_i ds hds;split at h
        ·rename_i i hi;have hh_:=aJ h;clear h;obtain⟨hc,h⟩:=hh_;have hh_:=ak.1 h;clear h;obtain⟨e,he,h⟩:=hh_;obtain⟨p1,p2⟩:=Gs he;have h0:=Co (aG hc);have hlen:=beq_eq (aB hc);refine bX h fun σ' ag d hd hn=>?_;obtain⟨TI,k1,v1,v2⟩:=vM (lo:=some y) (E:=E) (σ:=σ') (i:=i) (by rw[nL ag.ts (by intro z hz;cases hz;exact hy)];exact hi);refine bF hd hn fun ok0 w0 a w β r=>?_;obtain⟨_,e2,_⟩:=RV.int v1 (v2 _ _ _ _ _ _ r);simp only[Dt.toInt]at e2;obtain⟨hok,TT,fr,hblk⟩:=r.tab.1 _ (Jd hcs);have hmul:∀m,m<len->m*P.cellsOf Te+P.cellsOf Te<=len*P.cellsOf Te:=fun m hm=>by have:=aQ (P.cellsOf Te) (show m+1<=len from hm);rw[Nat.succ_mul]at this;exact this
         have hq:=Yt hds i.toNat e p2;have hlt:=(hq (fun _=>True) w).2;have hm:=hmul _ hlt;refine⟨.pointer (some ((⟨g,0,none⟩:Addr).add (i.toNat*P.cellsOf Te))),?_,MZ (cs:=(cs.drop (i.toNat*P.cellsOf Te)).take (P.cellsOf Te)) (by rw[block_add];exact hok) (by rw[List.length_take,List.length_drop];omega) (fun j v hv=>?_) (hq _ w).1⟩
         ·have hii:i<len:=by omega
          cases hin:P.info? Te with
          |none=>simp[Program.cellsOf,hin]at h0
          |some inf=>
           unfold execOp;simp only[ho,e2,Sem.run_bind];have ea:a.eval (.global g)= .pointer (some ⟨g,0,none⟩):=rfl;rw[ea];simp[Instr.indexAt,asIntOf,run_underlying hu,Instr.sureAddr,p1,hii,sizeOf,typeInfo,hin,Program.cellsOf]
         ·rw[add_add,oJ,Nat.zero_add];rw[List.getElem?_take]at hv;split at hv
          ·rename_i hj;rw[List.getElem?_drop]at hv;have hb:w.heap[g]? =some (.cells cs.toArray TT fr):=hblk;simp only[World.cell?,hb];simpa using hv
          ·cases hv
        ·cases h
   ·cases h
  ·cases h
 ·cases h
end
section
variable{P:Program}{n:Nat}{o:Oper}{σ τ:St}{x y:Operand}{v:AV}{T:TypeId}{R:Type}{E:Env}{k:Dl->Option R}{r:R}
theorem abw{T T':TypeId}(h:compat P T T'=true):dQ P T=dQ P T':=by
 unfold compat at h;rw[Bool.or_eq_true]at h;rcases h with h|h;·rw[beq_eq h]
 ·unfold dQ;split at h;·rename_i h1 h2;rw[h1,h2]
  ·rename_i h1 h2;rw[h1,h2]
  ·rename_i h1 h2;rw[h1,h2]
  ·rename_i h1 h2;rw[h1,h2]
  ·cases h
theorem RV.compat{ok:Nat->Prop}{w:World}{β:Nat->Option Value}{z:Value}{d:Dt}{T':TypeId}(h:RV P ok w β (.dat T d) z)(hc:Am.compat P T T'=true):RV P ok w β (.dat T' d) z:=by
 have he:=abw hc;cases ha:dQ P T with
 |true=>
  obtain⟨cs,e,q⟩:=(RV.dat_agg ha).1 h;exact(RV.dat_agg (by rw[←he];exact ha)).2 ⟨cs,e,q.compat hc⟩
 |false=>exact(RV.dat_one (by rw[←he];exact ha)).2 (((RV.dat_one ha).1 h).compat hc)
theorem VJ{D:List TypeId}{Te:TypeId}{τ:St}:∀{xs:List Operand}{ds:List Dt},(∀z∈xs,Ev P τ z (opd P D σ Te z))->zG P τ.hs Te (xs.map (opd P D σ Te))=some ds->EvL P τ Te xs ds
 | [],ds,_,h=>by
   have h':some []=some ds:=by simpa [zG]using h
   cases h';exact .nil
 | z::xs,ds,hev,h=>by
   simp only[List.map_cons]at h;unfold zG at h;split at h
   ·rename_i T' d hp;obtain⟨hc,h2⟩:=aJ h;split at h2
    ·   rename_i ds' hds;cases h2;refine .cons ?_ (VJ (fun u hu=>hev u (by simp[hu])) hds);have:=Ev.pk (hev z (by simp)) hp;exact fun ok0 w0 n a w β r=>(this _ _ _ _ _ _ r).compat (aG hc)
    ·cases h2
   ·cases h
theorem adZ{hs:List Ob}{Te:TypeId}{vs:List AV}{ds:List Dt}(h:zG P hs Te vs=some ds)(hne:vs≠[]):∀d',szB P Te (.dat Te d')=true:=by
 cases vs with
 |nil=>exact absurd rfl hne
 |cons v r=>
  unfold zG at h;split at h
  ·rename_i T' d hp;obtain⟨hc,h2⟩:=aJ h;intro d';exact aB hc
  ·cases h
theorem Yu{hs hs':List Ob}{Te:TypeId}:∀{vs:List AV},(∀l∈AV.rwsL vs,lk hs' l=lk hs l)->zG P hs' Te vs=zG P hs Te vs
 | [],_=>rfl
 |v::r,h=>by unfold zG;rw[AQ (hs:=hs) (hs':=hs') v fun l hl=>h l (by simp[AV.rwsL,hl]),Yu (vs:=r) fun l hl=>h l (by simp[AV.rwsL,hl])]
theorem DL:∀{j:Nat}{parts:List (Nat×Operand)},dense j parts=true->parts=((parts.map (·.2)).zipIdx j).map fun p=>(p.2,p.1)
 |_,[],_=>rfl
 |j,(i,x)::r,h=>by simp only[dense]at h;have e:=beq_eq (aG h);subst e;have ih:=DL (aB h);simp only[List.map_cons,List.zipIdx_cons];rw[←ih]
theorem Yv{hs:List Ob}{Te:TypeId}:∀{vs:List AV}{ds:List Dt},zG P [] Te vs=some ds->zG P hs Te vs=some ds
 | [],_,h=>h
 |v::r,ds,h=>by
  unfold zG at h ⊢
  split at h
  ·rename_i T d hp;rw[NP v hp];obtain⟨hc,h2⟩:=aJ h;split at h2
   ·    rename_i ds' hds;cases h2;simp only[hc,cond_true,Yv hds]
   ·cases h2
  ·cases h
theorem abx{parts:Array (Nat×Operand)}{len:Nat}{Te:TypeId}{zi:TypeInfo}{za:Value}{ds:List Dt}(ho:o.op= .build T parts)(hu:P.underlying T=some (.array len Te))(hzi:P.info? T=some zi)(hza:zi.zero=some za)
  (hds:zG P [] Te ((parts.toList.map (·.2)).map (opd P E.dt σ Te))=some ds)(hc:(dense 0 parts.toList&&(Nat.beq len parts.toList.length&&(!Nat.beq len 0&&(!Nat.beq (P.cellsOf Te) 0&&(Nat.beq za.cells.size (len*P.cellsOf Te)&&Nat.beq (P.cellsOf T) (len*P.cellsOf Te))))))=true)
  (h:out n o (.dat T (.lst ds)) [] [] k=some r):OpS P n o σ k r:=by
 have hmem:∀z∈parts.toList.map (·.2),z∈o.op.operands.toList:=by intro z hz;rw[ho];simpa [Op.operands]using hz
 have hlen:len=(parts.toList.map (·.2)).length:=by rw[List.length_map];exact beq_eq (aG (aB hc))
 have hpos:parts.toList.map (·.2)≠[]:=by intro e;rw[e]at hlen;exact Co (aG (aB (aB hc))) hlen
 have hsz:=adZ hds (by simpa using hpos);refine bX h fun σ' ag d hd hn=>X7 ho hd hn hu hzi hza (beq_eq (aG (aB (aB (aB (aB hc)))))) (beq_eq (aB (aB (aB (aB (aB hc)))))) (Co (aG (aB (aB (aB hc))))) (DL (aG hc)) hlen
  (VJ (fun z hz=>rQ ag (hmem z hz)) (Yv hds)) (fun d'=>(kD (hsz d')).2.2.2.2)
theorem aiu{parts:Array (Nat×Operand)}(ho:o.op= .build T parts)(h:NA P E n o σ T parts.toList k=some r):OpS P n o σ k r:=by
 unfold NA at h;split at h;·exact ani ho h
 ·unfold Yh at h;split at h
  ·rename_i len Te hu;split at h
   ·    rename_i zi hzi;split at h
        ·rename_i za hza;split at h
         ·rename_i ds hds;have hh_:=aJ h;clear h;obtain⟨hc,h⟩:=hh_;exact abx ho hu hzi hza hds hc h
         ·cases h
        ·cases h
   ·cases h
  ·cases h
theorem VK{len:Nat}{parts:Array (Nat×Operand)}(ho:o.op= .buildSlice T len parts)(h:AP P E n o σ T len parts.toList k=some r):OpS P n o σ k r:=by
 unfold AP at h;split at h
 ·rename_i Te hTe;split at h
  ·rename_i z hz;split at h
   ·    rename_i ds hds;have hh_:=aJ h;clear h;obtain⟨hc,h⟩:=hh_;have hh_:=kG h;clear h;obtain⟨hk0,h⟩:=hh_;obtain⟨d,hd,hn,hk⟩:=jO h;refine⟨_,hk,fun σ' ag=>?_⟩;have hmap:(parts.toList.map fun p=>opd P E.dt σ Te p.2)=(parts.toList.map (·.2)).map (opd P E.dt σ Te):=by rw[List.map_map];rfl
        rw[hmap]at hds hk ⊢
        rw[hmap]at ag;have hagr:∀l∈AV.rwsL ((parts.toList.map (·.2)).map (opd P E.dt σ Te)),lk σ'.hs l=lk σ.hs l:=fun l hl=>ag.hs l (aT _ hl);have hfw:=kF hagr;have hmem:∀z∈parts.toList.map (·.2),z∈o.op.operands.toList:=by intro z hz;rw[ho];simpa [Op.operands]using hz
        have hds':zG P (wrO σ'.hs (frzW σ'.hs (AV.rwsL ((parts.toList.map (·.2)).map (opd P E.dt σ Te))))) Te ((parts.toList.map (·.2)).map (opd P E.dt σ Te))=some ds:=by rw[←hds,hfw];exact Yu fun l hl=>pQ hagr l hl
        have hlen:len=(parts.toList.map (·.2)).length:=by rw[List.length_map];exact beq_eq (aG (aB hc))
        have hpos:parts.toList.map (·.2)≠[]:=by intro e;rw[e]at hlen;exact Co (aG (aB (aB hc))) hlen
        have hsz:=adZ hds (by simpa using hpos);have key:=(Ra (σ:=St.mk σ'.ts (wrO σ'.hs (frzW σ'.hs (AV.rwsL ((parts.toList.map (·.2)).map (opd P E.dt σ Te))))) σ'.k0) (l:=σ.hs.length) (ds:=ds) ho hd hn (dx hTe) (by
          refine qW ?_;rw[ag.hs _ (by simp)];exact kH σ) (by show σ'.k0<=_;rw[ag.k0];exact hk0) (kE hz) (Co (aG (aB (aB (aB hc))))) (DL (aG hc)) hlen hpos
          (aL (aB (aB (aB (aB hc))))) (VJ (fun z hz=>NR ag (hmem z hz)) hds') (fun d'=>(kD (hsz d')).2.2.2.2)).pre (Imp.frzW (σ:=σ') (AV.rwsL ((parts.toList.map (·.2)).map (opd P E.dt σ Te))))
        rw[hd];have hfin:St.mk (agd σ'.ts (some d) (some (.row σ.hs.length))) (wrO σ'.hs (frzW σ.hs (AV.rwsL ((parts.toList.map (·.2)).map (opd P E.dt σ Te)))++[(σ.hs.length,.row T ds)])) σ'.k0=
          ((St.mk σ'.ts (wrO σ'.hs (frzW σ'.hs (AV.rwsL ((parts.toList.map (·.2)).map (opd P E.dt σ Te))))) σ'.k0).lay σ.hs.length (.row T ds)).put d (.row σ.hs.length):=by
         rw[rP,hfw];rfl
        show bY P n o σ' (St.mk _ _ _);rw[hfin];exact key
   ·cases h
  ·cases h
 ·cases h
theorem VL{Te:TypeId}{vy:AV}{rd:List Nat}{ds:List Dt}(h:(match vy with
   |    .row l=>match lk σ.hs l with
        | .row T5 ds=>bif jr P T5 Te then some ([l],ds)else none
        | .frz T5 ds=>bif jr P T5 Te then some ([l],ds)else none
        |_=>none
   |    v=>match lval P [] v with
        |some (_,Te',ds)=>bif Nat.beq Te' Te then some ([],ds)else none
        |none=>none:Option (List Nat×List Dt))=some (rd,ds))(τ:St)(hev:Ev P τ y vy)(hag:∀l∈rd,lk τ.hs l=lk σ.hs l):Gr P τ y Te ds:=by
 split at h
 ·rename_i l;split at h
  ·rename_i T5 ds' hl;obtain⟨hc,h2⟩:=aJ h;cases h2;exact .row hev (by rw[hag l (by simp)];exact hl) (eu hc).1
  ·rename_i T5 ds' hl;obtain⟨hc,h2⟩:=aJ h;cases h2;exact .lst (eu hc).1 (hev.frz (by rw[hag l (by simp)];exact hl))
  ·cases h
 ·split at h
  ·rename_i Tx Te' ds' hl;obtain⟨hc,h2⟩:=aJ h;cases h2;obtain⟨d1,hp,u1,rfl⟩:=DK hl;have e:=beq_eq hc;subst e;exact .lst u1 ((Ev.pk hev (NP _ hp)).clst u1)
  ·cases h
theorem append_nil{d l l':Nat}{Te T5 T0:TypeId}{ds:List Dt}{z:Dt}(ho:o.op= .call {callee:= .builtin .append,args:= #[x,y],argTypes:= #[T,T]})(hd:o.dst=some d)(hn:d<n)(hu:P.underlying T=some (.slice Te))(hu5:P.underlying T5=some (.slice Te))
  (hz:Zero P Te z)(h0:P.cellsOf Te≠0)(hbd:ds.length*P.bytesOf Te<=140737488355328)(hx:Ev P σ x (.nils T0))(hfl:lk σ.hs l= .free)(hkl:σ.k0<=l)(hf:lk σ.hs l'= .free)(hll:l'≠l)(hk0:σ.k0<=l')(hy:Gr P σ y Te ds)(hlim:ds.length<=137438953472):
  bY P n o σ (((σ.lay l .gone).lay l' (.row T5 ds)).put d (.row l')):=by
 rintro ok0 w0 a w ⟨β,r⟩ K Q hK;have ex:a.eval x= .slice none 0 0:=by
  have h1:=(hx _ _ _ _ _ _ r).2 rfl;generalize a.eval x=q at h1;cases h1 with
  |nils=>rfl
 have r1:=r.nilrow hu5 hfl hkl;have hy1:=hy _ _ _ _ _ _ r;obtain⟨A,c,ys,ey,hyl,hyone,hyc,hynone,hyrd⟩:=hy1;have hob0:=r1.hs l;have hl1:lk (σ.lay l (.row T5 [])).hs l= .row T5 []:=dK _ _ _;rw[hl1,dA]at hob0;have key:=Lc (σ:=σ.lay l (.row T5 [])) (l:=l) (l':=l') (E:=Te) (T5:=T5) (es:=[]) (ds:=ds) ho hd hn hu hu5 hz h0 (by simpa using hbd) r1 (by rw[ex];exact dA _ _ _) hl1
  (by show lk (bA σ.hs l _) l'=_;rw[bn _ _ _ _ hll];exact hf) hk0 ey hyl hyone hyc hynone (fun i d' hd'=>(hyrd i d' hd').mono (fun b hb=>⟨⟨hb.1,hb.2.1,fun j hj=>?_⟩,rfl⟩)) (by simpa using hlim) K Q (fun a' w' r'=>hK a' w' ?_)
 ·exact key
 ·obtain⟨q1,z',q2,q3⟩:=hj;by_cases hjl:j=l
  ·subst hjl;rw[dA]at q2;cases q2;simp[Blk,blk]at q3
  ·rw[dX _ _ _ _ hjl]at q2;have q1':(lk (bA σ.hs l (.row T5 [])) j).isOwn=true:=q1;rw[bn _ _ _ _ hjl]at q1';exact hb.2.2 j ⟨q1',z',q2,q3⟩
 ·have hcongr:Imp P n ((((σ.lay l (.row T5 [])).lay l .gone).lay l' (.row T5 ([]++ds))).put d (.row l')) (((σ.lay l .gone).lay l' (.row T5 ds)).put d (.row l')):=by
   refine Rel.congr (fun j=> .inr rfl) (fun j=>?_) rfl;show lk (bA (bA σ.hs l .gone) l' _) j=lk (bA (bA (bA σ.hs l (.row T5 [])) l .gone) l' _) j;rw[jM,jM,jM,jM,jM];simp only[List.nil_append];split;·rfl
   ·split<;>rfl
  exact hcongr _ _ _ _ r'
theorem Yw{xs:Array Operand}{Ts:Array TypeId}{T':TypeId}(ho:o.op= .call ⟨.builtin .append,xs,Ts⟩)(hxs:xs.toList=[x,y])(hTs:Ts.toList=[T,T'])(h:Gw P n o σ T T' (opd P E.dt σ T x) (opd P E.dt σ T' y) k=some r):OpS P n o σ k r:=by
 have hxs':=two hxs;have hTs':=two hTs;subst hxs' hTs';have hx:x∈o.op.operands.toList:=by rw[ho];simp[Op.operands,Call.operands]
 have hy:y∈o.op.operands.toList:=by rw[ho];simp[Op.operands,Call.operands]
 unfold Gw at h;split at h
 ·rename_i Te z hTe hz;rw[hTe]at hz;have hh_:=aJ h;clear h;obtain⟨hc,h⟩:=hh_;have e:=beq_eq (aG hc);subst e;have h0:=Co (aB hc);split at h
  ·rename_i rd ds hsrc;split at h
   ·    rename_i l e1;split at h
        ·rename_i T5 es hl;have hh_:=aJ h;clear h;obtain⟨hc5,h⟩:=hh_;have hh_:=kG h;clear h;obtain⟨hk0,h⟩:=hh_;have hh_:=IY h;clear h;obtain⟨rs,hrs,h⟩:=hh_;obtain⟨p1,p2,p3⟩:=IZ hrs;subst p2;obtain⟨d,hd,hn,hk⟩:=jO h;refine⟨_,hk,fun σ' ag=>?_⟩;have key:=af9 (σ:=σ') (l:=l) (l':=σ.hs.length) ho hd hn (dx hTe) (eu hc5).1 (kE hz) h0 p3 (bW ag hx e1) (by rw[ag.hs l (by simp)];exact hl) (by rw[ag.hs _ (by simp)];exact kH σ) (by rw[ag.k0];exact hk0)
          (VL hsrc σ' (rQ ag hy) fun l2 hl2=>ag.hs l2 (by simp[hl2])) p1
         rw[hd];exact key
        ·rename_i T5 T2 c kk es hl;split at h
         ·rename_i T4 ls hlk;have hh_:=aJ h;clear h;obtain⟨hc,h⟩:=hh_;have hc5:=aG hc;have f1:=beq_eq (aG (aB hc));subst f1;have hpl:∀e∈ds,lkd c e=false:=fun e he=>by simpa using List.all_eq_true.1 (aB (aB hc)) e he
          have hh_:=kG h;clear h;obtain⟨hk0,h⟩:=hh_;have hh_:=IY h;clear h;obtain⟨rs,hrs,h⟩:=hh_;obtain⟨p1,p2,p3⟩:=IZ hrs;subst p2;obtain⟨d,hd,hn,hk⟩:=jO h;refine⟨_,hk,fun σ' ag=>?_⟩;have key:=aa4 (σ:=σ') (l:=l) (l':=σ.hs.length+1) (q:=σ.hs.length) ho hd hn (dx hTe) (eu hc5).1 (kE hz) h0 p3 (bW ag hx e1) (by rw[ag.hs l (by simp)];exact hl) (by rw[ag.hs kk (by simp)];exact hlk)
           (by rw[ag.hs _ (by simp)];exact j6 _ _ (by omega)) (by rw[ag.k0];omega) (by rw[ag.hs _ (by simp)];exact kH σ) (by rw[ag.k0];exact hk0) (by omega)
           (VL hsrc σ' (rQ ag hy) fun l2 hl2=>ag.hs l2 (by simp[hl2])) hpl p1
          rw[hd];exact key
         ·cases h
        ·cases h
   ·    rename_i T5 e1;have hh_:=aJ h;clear h;obtain⟨hc5,h⟩:=hh_;have hh_:=kG h;clear h;obtain⟨hk0,h⟩:=hh_;have hh_:=IY h;clear h;obtain⟨rs,hrs,h⟩:=hh_;obtain⟨p1,p2,p3⟩:=IZ hrs;simp only[List.nil_append]at p2;subst p2;obtain⟨d,hd,hn,hk⟩:=jO h;refine⟨_,hk,fun σ' ag=>?_⟩;have key:=append_nil (σ:=σ') (l:=σ.hs.length) (l':=σ.hs.length+1) ho hd hn (dx hTe) (eu hc5).1 (kE hz) h0 (by simpa using p3) (bW ag hx e1) (by rw[ag.hs _ (by simp)];exact kH σ) (by rw[ag.k0];exact hk0)
         (by rw[ag.hs _ (by simp)];exact j6 _ _ (by omega)) (by omega) (by rw[ag.k0];omega) (VL hsrc σ' (rQ ag hy) fun l2 hl2=>ag.hs l2 (by simp[hl2])) (by simpa using p1)
        rw[hd];exact key
   ·cases h
  ·cases h
 ·cases h
theorem Tk{Te:TypeId}{ob:Ob}{vs:List AV}(h:aqN P Te ob=some vs):Gi P Te ob vs:=by
 cases ob with
 |row T es=>
  obtain⟨h1,h2⟩:=aJ (show (bif jr P T Te then some (es.map (.dat Te))else none)=some vs from h);cases h2;exact .inl ⟨T,es,rfl,(eu h1).1,rfl⟩
 |rowA T us=>
  obtain⟨h1,h2⟩:=aJ (show (bif jr P T Te then some us else none)=some vs from h);cases h2;exact .inr ⟨T,rfl,(eu h1).1⟩
 |_=>cases h
theorem aby{ob:Ob}{T5 T2 kk:Nat}{es:List Dt}(h:ah0 ob=some (T5,T2,kk,es)):ob= .rowD T5 T2 none kk es none:=by
 unfold ah0 at h;split at h;·cases h;rfl
 ·cases h
theorem agu{ob:Ob}{T m:Nat}(h:aqO ob=some (T,m)):ob= .rowA T [.row m]:=by
 unfold aqO at h;split at h;·cases h;rfl
 ·cases h
theorem agv{l l2 T5 T2 kk Tr m:Nat}{es:List Dt}{xs:Array Operand}{Ts:Array TypeId}{T':TypeId}(ho:o.op= .call ⟨.builtin .append,xs,Ts⟩)(hxs:xs.toList=[x,y])(hTs:Ts.toList=[T,T'])(e1:opd P E.dt σ T x= .row l)(e2:opd P E.dt σ T' y= .row l2)
  (hl:lk σ.hs l= .rowD T5 T2 none kk es none)(hl2:lk σ.hs l2= .rowA Tr [.row m])(h:I4 P n o σ T T' l l2 T5 T2 kk es Tr m k=some r):OpS P n o σ k r:=by
 have hxs':=two hxs;have hTs':=two hTs;subst hxs' hTs';have hx:x∈o.op.operands.toList:=by rw[ho];simp[Op.operands,Call.operands]
 have hy:y∈o.op.operands.toList:=by rw[ho];simp[Op.operands,Call.operands]
 unfold I4 at h;split at h
 ·rename_i Te z hTe hz;rw[hTe]at hz;split at h
  ·rename_i T4 ls E2 hlk hE2;have hh_:=aJ h;clear h;obtain⟨hc,h⟩:=hh_;have c1:=beq_eq (aG hc);have hc:=aB hc;have c2:=beq_eq (aG hc);have hc:=aB hc;have c3:=beq_eq (aG hc);have hc:=aB hc;have c5:=eu (aG hc);have hc:=aB hc;have cr:=eu (aG hc);have hc:=aB hc;have c0:=beq_eq (aG hc);have hc:=aB hc;have cb:=aL (aG hc);have cl:=aL (aB hc);subst c1 c2 c3;have hh_:=kG h;clear h;obtain⟨hk0,h⟩:=hh_;obtain⟨d,hd,hn,hk⟩:=jO h;refine⟨_,hk,fun σ' ag=>?_⟩;have hu2:=dx hE2;have hh:vX P T4 none T4 0:=⟨c0,by rw[c0];exact Nat.one_pos,.inl ⟨rfl,rfl,rfl⟩⟩;have key:=aa5 (σ:=σ') (l:=l) (l2:=l2) (l':=σ.hs.length+1) (q:=σ.hs.length) ho hd hn (dx hTe) c5.1 hh hu2 (kE hz) (by rw[c0];exact Nat.one_ne_zero) (by have:=Nat.mul_le_mul cl cb;omega) (bW ag hx e1) (by rw[ag.hs l (by simp)];exact hl) (by rw[ag.hs kk (by simp)];exact hlk)
        (by rw[ag.hs _ (by simp)];exact j6 _ _ (by omega)) (by rw[ag.k0];omega) (by rw[ag.hs _ (by simp)];exact kH σ) (by rw[ag.k0];exact hk0) (by omega)
        (bW ag hy e2) (by rw[ag.hs l2 (by simp)];exact hl2) cr.1 (SH (m:=m) hu2 c0) cl
   rw[hd];exact key
  ·cases h
 ·cases h
theorem agw{xs:Array Operand}{Ts:Array TypeId}{T':TypeId}(ho:o.op= .call ⟨.builtin .append,xs,Ts⟩)(hxs:xs.toList=[x,y])(hTs:Ts.toList=[T,T'])(h:I5 P n o σ T T' (opd P E.dt σ T x) (opd P E.dt σ T' y) k=some r):OpS P n o σ k r:=by
 unfold I5 at h;split at h
 ·rename_i l l2 e1 e2;split at h
  ·rename_i T5 T2 kk es Tr m q1 q2;exact agv ho hxs hTs e1 e2 (aby q1) (agu q2) h
  cases hb:(ane (lk σ.hs l2)||ane (lk σ.hs l))with
  |false=>
   rw[hb,cond_false]at h;exact Yw ho hxs hTs (by rw[e1,e2];exact h)
  |true=>
   rw[hb,cond_true]at h;have hxs':=two hxs;have hTs':=two hTs;subst hxs' hTs';have hx:x∈o.op.operands.toList:=by rw[ho];simp[Op.operands,Call.operands]
   have hy:y∈o.op.operands.toList:=by rw[ho];simp[Op.operands,Call.operands]
   unfold Tf at h;split at h
   ·    rename_i Te z hTe hz;rw[hTe]at hz;have hh_:=aJ h;clear h;obtain⟨hc,h⟩:=hh_;have e:=beq_eq (aG hc);subst e;split at h
        ·rename_i es ds h1 h2;have hh_:=aJ h;clear h;obtain⟨hl,h⟩:=hh_;have hh_:=kG h;clear h;obtain⟨hk0,h⟩:=hh_;obtain⟨d,hd,hn,hk⟩:=jO h;refine⟨_,hk,fun σ' ag=>?_⟩;have key:=aa3 (σ:=σ') (l:=l) (l2:=l2) (l':=σ.hs.length) ho hd hn (dx hTe) (kE hz) (Co (aG (aB hc))) (aL (aB (aB hc))) (bW ag hx e1) (ag.hs l (by simp)) (Tk h1) (by rw[ag.hs _ (by simp)];exact kH σ) (by rw[ag.k0];exact hk0) (bW ag hy e2) (ag.hs l2 (by simp)) (Tk h2) (aL hl);rw[hd];exact key
        ·cases h
   ·cases h
 ·exact Yw ho hxs hTs h
theorem ad1{D:List TypeId}{Te:TypeId}{τ:St}:∀{xs:List Operand},(∀z∈xs,Ev P τ z (opd P D σ Te z))->(xs.all fun z=>szB P Te (opd P D σ Te z))=true->EvLA P τ Te xs (xs.map (opd P D σ Te))
 | [],_,_=> .nil
 |z::xs,hev,h=>by simp only[List.all_cons,aN]at h;obtain⟨q1,q2,_,_,q5⟩:=kD h.1;exact .cons (hev z (by simp)) q1 q2 q5 (ad1 (fun u hu=>hev u (by simp[hu])) h.2)
theorem agx{len:Nat}{parts:Array (Nat×Operand)}(ho:o.op= .buildSlice T len parts)(h:I7 P E n o σ T len parts.toList k=some r):OpS P n o σ k r:=by
 unfold I7 at h;cases hb:E.nest o with
 |false=>rw[hb,cond_false]at h;exact VK ho h
 |true=>
  rw[hb,cond_true]at h;unfold Tg at h;split at h
  ·rename_i Te hTe;split at h
   ·    rename_i z hz;have hh_:=aJ h;clear h;obtain⟨hc0,h⟩:=hh_;have hc:=aB hc0;have hh_:=kG h;clear h;obtain⟨hk0,h⟩:=hh_;obtain⟨d,hd,hn,hk⟩:=jO h;refine⟨_,hk,fun σ' ag=>?_⟩;have hmem:∀z∈parts.toList.map (·.2),z∈o.op.operands.toList:=by intro z hz;rw[ho];simpa [Op.operands]using hz
        have hlen:len=(parts.toList.map (·.2)).length:=by rw[List.length_map];exact beq_eq (aG (aB hc))
        have hpos:parts.toList.map (·.2)≠[]:=by intro e;rw[e]at hlen;exact Co (aG (aB (aB hc))) hlen
        have key:=aa2 (σ:=σ') (l:=σ.hs.length) ho hd hn (dx hTe) (by rw[ag.hs _ (by simp)];exact kH σ) (by rw[ag.k0];exact hk0) (kE hz) (Co (aG (aB (aB (aB hc))))) (DL (aG hc)) hlen hpos
         (aL (aB (aB (aB (aB hc))))) (ad1 (D:=E.dt) (σ:=σ) (fun z hz=>rQ ag (hmem z hz)) (aG hc0))
        rw[hd];exact key
   ·cases h
  ·cases h
theorem anr{A:Type}{b:Bool}{u v:Option A}{q:A}(h:(bif b then u else v)=some q):(b=true∧u=some q)∨(b=false∧v=some q):=by
 cases b;·exact .inr ⟨rfl,h⟩
 ·exact .inl ⟨rfl,h⟩
theorem agy{xs:Array Operand}{Ts:Array TypeId}{T':TypeId}(ho:o.op= .call ⟨.builtin .append,xs,Ts⟩)(hxs:xs.toList=[x,y])(hTs:Ts.toList=[T,T'])(h:I6 P n o σ T T' (opd P E.dt σ T x) (opd P E.dt σ T' y) k=some r):OpS P n o σ k r:=by
 have hxs':=two hxs;have hTs':=two hTs;subst hxs' hTs';have hx:x∈o.op.operands.toList:=by rw[ho];simp[Op.operands,Call.operands]
 have hy:y∈o.op.operands.toList:=by rw[ho];simp[Op.operands,Call.operands]
 unfold I6 at h;split at h
 ·rename_i Te hTe;obtain⟨hc,h⟩:=aJ h;have hu8:=aG hc;have hS:=uP (aB hc);unfold u8B at hu8;have he:=qp (aG hu8);have hinf:=aB hu8;split at hinf
  ·rename_i i hi;have h1:=beq_eq (aG hinf);have h2:=beq_eq (aG (aB hinf));have h3:=aB (aB hinf);split at h3
   ·    rename_i m hm;have hm0:m=0:=of_decide_eq_true h3;subst hm0;split at h
        ·rename_i T2 s e2;obtain⟨d1,e3,u2,rfl⟩:=pO e2;split at h
         ·rename_i l e1;split at h
          ·rename_i T5 es hl;obtain⟨hc5,h⟩:=aJ h;obtain⟨hk0,h⟩:=kG h;obtain⟨rs,hrs,h⟩:=ak.1 h;obtain⟨p1,p2⟩:=X8 hrs;subst p2;obtain⟨d,hd,hn,hk⟩:=jO h;refine⟨_,hk,fun σ' ag=>?_⟩;have key:=QO (σ:=σ') (l:=l) (l':=σ.hs.length) ho hd hn (dx hTe) (eu hc5).1 hS u2 he hi hm h1 h2 (bW ag hx e1) (by rw[ag.hs l (by simp)];exact hl) (by rw[ag.hs _ (by simp)];exact kH σ) (by rw[ag.k0];exact hk0) ((bW ag hy e3).cstr u2) p1;rw[hd];exact key
          ·cases h
         ·cases h
        ·cases h
   ·cases h3
  ·cases hinf
 ·cases h
theorem ant{S1 S2 Te:TypeId}(ho:o.op= .convert S1 S2 x)(hTe:slE P S1=some Te)(h:Vw P n o σ Te S2 (opd P E.dt σ S1 x) k=some r):OpS P n o σ k r:=by
 have hx:x∈o.op.operands.toList:=by rw[ho];simp[Op.operands]
 unfold Vw at h;obtain⟨hc,h⟩:=aJ h;have he:=qp (aG hc);have hc1:=beq_eq (aG (aB hc));have hS:=uP (aB (aB hc));split at h
 ·rename_i rd ds hsrc;obtain⟨s,hs,h⟩:=ak.1 h;unfold atB at hs;obtain⟨hb,hs⟩:=aJ hs;have hlen:=aL hb;cases hs;obtain⟨d,hd,hn,hk⟩:=jO h;refine⟨_,hk,fun σ' ag=>?_⟩;have key:=QS (σ:=σ') ho hd hn (dx hTe) hS he hc1 (VL hsrc σ' (rQ ag hx) fun l2 hl2=>ag.hs l2 (by simp[hl2])) hlen;rw[hd];exact key
 ·cases h
end
def CallOK{R:Type}(P:Program)(call:FuncId->List AV->List Ob->(Res->Option R)->Option R):Prop:=∀f args objs K r,call f args objs K=some r->∃q:Res,K q=some r∧FX P f args objs q.1 q.2∧HasBody P f
theorem wo{Y:Nat->Option Nat}{c:Nat}:∀{os:List Ob}{src:List Nat}{nm:Nat}{hs:List Ob},c∉src->¬(nm<=c∧c<nm+(os.length-src.length))->lk (wrO hs (xO Y nm src os)) c=lk hs c
 | [],src,nm,hs,_,_=>by cases src<;>rfl
 |o::os,[],nm,hs,h1,h2=>by simp only[xO,wrO];rw[wo (by simp) (by simp only[List.length_cons,List.length_nil]at h2 ⊢;omega),bn];intro e;subst e;simp only[List.length_cons,List.length_nil]at h2;omega
 |o::os,l::src,nm,hs,h1,h2=>by simp only[List.mem_cons,not_or]at h1;simp only[xO,wrO];rw[wo h1.2 (by simp only[List.length_cons]at h2 ⊢;omega),bn _ _ _ _ h1.1]
theorem Tm{Y:Nat->Option Nat}:∀{os:List Ob}{src:List Nat}{nm:Nat}{hs:List Ob}{i l:Nat},src.Nodup->(∀l∈src,¬(nm<=l∧l<nm+(os.length-src.length)))->src.length<=os.length->src[i]? =some l->lk (wrO hs (xO Y nm src os)) l=(lk os i).ren Y
 | [],src,nm,hs,i,l,_,_,h3,h4=>by have:src=[]:=List.eq_nil_of_length_eq_zero (by simpa using h3);subst this;simp at h4
 |o::os,[],nm,hs,i,l,_,_,_,h4=>by simp at h4
 | o::os,m::src,nm,hs,i,l,h1,h2,h3,h4=>by
   obtain⟨hm,hnd⟩:=List.nodup_cons.1 h1;simp only[xO,wrO];cases i with
   |zero=>
    simp only[aW,aD]at h4;subst h4;rw[wo hm (by have:=h2 m (by simp);simp only[List.length_cons]at this ⊢;omega),dK];rfl
   |succ i=>
    simp only[aX]at h4;rw[Tm hnd (fun l hl=>by have:=h2 l (by simp[hl]);simp only[List.length_cons]at this ⊢;omega) (by simpa using h3) h4];rfl
theorem Je{Y:Nat->Option Nat}:∀{os:List Ob}{src:List Nat}{nm:Nat}{hs:List Ob}{j:Nat},(∀l∈src,¬(nm<=l∧l<nm+(os.length-src.length)))->src.length<=j->j<os.length->lk (wrO hs (xO Y nm src os)) (nm+(j-src.length))=(lk os j).ren Y
 | [],src,nm,hs,j,_,_,h3=>by simp at h3
 |o::os,[],nm,hs,j,h1,h2,h3=>by
  simp only[xO,wrO];cases j with
  |zero=>
   simp only[List.length_nil,Nat.sub_zero,Nat.add_zero];rw[wo (by simp) (by simp only[List.length_nil];omega),dK];rfl
  |succ j=>
   have:=Je (Y:=Y) (os:=os) (src:=[]) (nm:=nm+1) (hs:=bA hs nm (o.ren Y)) (j:=j) (by simp) (by simp) (by simpa using h3);simp only[List.length_nil,Nat.sub_zero]at this ⊢
   rw[show nm+(j+1)=nm+1+j by omega,this];rfl
 |o::os,m::src,nm,hs,j,h1,h2,h3=>by
  simp only[xO,wrO];cases j with
  |zero=>simp at h2
  |succ j=>
   have:=Je (Y:=Y) (os:=os) (src:=src) (nm:=nm) (hs:=bA hs m (o.ren Y)) (j:=j) (fun l hl=>by have:=h1 l (by simp[hl]);simp only[List.length_cons]at this ⊢;omega) (by simpa using h2) (by simpa using h3);simp only[List.length_cons]at this ⊢
   rw[show nm+(j+1-(src.length+1))=nm+(j-src.length) by omega,this];rfl
theorem aiv{src:List Nat}{nm:Nat}{hs os:List Ob}(h1:src.Nodup)(h2:∀l∈src,¬(nm<=l∧l<nm+(os.length-src.length)))(h3:src.length<=os.length):BackH src nm hs os (wrO hs (xO (bkN src nm) nm src os)):=
 ⟨fun i l h=>Tm h1 h2 h3 h,fun j h4 h5=>Je h2 h4 h5,fun c h4 h5=>wo h4 h5⟩
theorem GA{hs:List Ob}:∀{src:List Nat},allNames hs src=true->∀l∈src,lk hs l≠ .free
 | [],_,l,hl=>by simp at hl
 |m::r,h,l,hl=>by
  unfold allNames at h;rcases List.mem_cons.1 hl with e|hl
  ·subst e;intro e;have:=aG h;rw[e]at this;cases this
  ·exact GA (aB h) l hl
theorem NS{l:Nat}:∀{m k:Nat},k<=l->l<k+m->l∈upto k m
 |0,k,h1,h2=>by omega
 |m+1,k,h1,h2=>by
  simp only[upto,List.mem_cons];by_cases h:l=k;·exact .inl h
  ·exact .inr (NS (by omega) (by omega))
theorem abz:∀(Ts:List TypeId)(hs:List Ob)(k:Nat),wrO hs (ahT k Ts)=BI hs k Ts
 | [],_,_=>rfl
 |T::r,hs,k=>by simp only[ahT,wrO,BI];exact abz r _ _
theorem Tn:∀{Ts:List TypeId}{hs:List Ob}{k l:Nat},k+Ts.length<=l->lk hs l= .free->lk (BI hs k Ts) l= .free
 | [],_,_,_,_,h=>h
 |T::r,hs,k,l,h1,h2=>by simp only[List.length_cons]at h1;simp only[BI];refine Tn (by omega) ?_;rw[bn _ _ _ _ (by omega)];exact h2
theorem Yx(Y:Nat->Option Nat)(hs:List Ob):∀src:List Nat,(uK Y hs src).length=src.length
 | []=>rfl
 |_::r=>by simp[uK,Yx Y hs r]
section
variable{P:Program}{n:Nat}{o:Oper}{σ τ:St}{x y:Operand}{v:AV}{T:TypeId}{R:Type}{E:Env}{k:Dl->Option R}{r:R}{call:FuncId->List AV->List Ob->(Res->Option R)->Option R}
theorem agz(o:Ob):(EC P o).isOwn=o.isOwn:=by
 unfold EC;split
 ·split;·cases Nat.beq _ _<;>rfl
  ·rfl
 ·rfl
theorem agA{ok:Nat->Prop}{w:World}{β:Nat->Option Value}{v:Option Value}{o:Ob}(h:ObOK P ok w β o v):ObOK P ok w β (EC P o) v:=by
 unfold EC;split
 ·rename_i T c;split
  ·rename_i T' d hp;cases hb:Nat.beq T' T;·exact h
   ·    have e:=beq_eq hb;subst e;obtain⟨b,cs,h1,h2,h3,h4⟩:=h;have hrd:=jN (hs:=[]) (fun l T es hl=>by cases l<;>cases hl) h4 hp;exact⟨b,cs,h1,h2,h3,.dat (by rw[Gp hrd];exact hrd)⟩
  ·exact h
 ·exact h
theorem Lg(os:List Ob)(l:Nat):lk (os.map (EC P)) l=EC P (lk os l):=by
 induction os generalizing l with
 |nil=>rfl
 |cons o r ih=>cases l with
  |zero=>rfl
  |succ l=>exact ih l
theorem aiw{f:FuncId}{args:List AV}{b:Bool}{os hs':List Ob}{res:AV}(h:FX P f args (apu P b os) res hs'):FX P f args os res hs':=by
 cases b;·exact h
 replace h:FX P f args (os.map (EC P)) res hs':=h;intro ok w β zs h1 h2 h3 h4 h5;have hown:∀l b,owns (os.map (EC P)) β l b↔owns os β l b:=fun l b=>by simp only[owns,Lg,agz]
 have hX:XO (os.map (EC P)) β=XO os β:=by funext b;apply propext;exact⟨fun⟨l,hl⟩=>⟨l,(hown l b).1 hl⟩,fun⟨l,hl⟩=>⟨l,(hown l b).2 hl⟩⟩
 have hc:=h ok w β zs (fun b hb=>by rw[hX];exact h1 b hb) (fun l=>by rw[Lg];exact agA (h2 l)) (fun l l' b q1 q2=>h3 l l' b ((hown _ _).1 q1) ((hown _ _).1 q2)) h4 h5;refine hc.mono ?_;rintro e w' ⟨v,β',rfl,hf,hr⟩;obtain⟨f1,f2,f3,f4,f5⟩:=hf;rw[hX,List.length_map]at f2 hr;rw[hX]at f1;exact⟨v,β',rfl,⟨f1,f2,f3,fun l b q=>by have:=f4 l b q;rwa [hX]at this,fun l hl=>f5 l (by rw[List.length_map];exact hl)⟩,hr⟩
theorem VN{src:List Nat}{hs:List Ob}:∀(ws:List (Nat×Ob))(hs':List Ob),(ws.map (·.1)).Nodup->(∀l∈src,l∈ws.map (·.1)->lk hs' l=lk hs l)->∀l,lk (wrO hs' (ahX hs src ws)) l=lk (wrO hs' ws) l
 | [],_,_,_,_=>rfl
 |(k,o)::r,hs',hn,ha,l=>by
  simp only[List.map_cons,List.nodup_cons]at hn;unfold ahX;cases hb:ny k src&&ahW o (lk hs k)with
  |true=>
   simp only[cond_true];rw[VN r hs' hn.2 (fun l h1 h2=>ha l h1 (aT _ h2)) l];have e1:lk hs' k=o:=by rw[ha k (zA.1 (aG hb)) (by simp),adU (aB hb)]
   simp only[wrO];refine(pQ (ls:=[l]) (fun c hc=>?_) l (by simp)).symm;rw[jM];split;·next h=>rw[h,e1]
   ·rfl
  |false=>
   simp only[cond_false,wrO];refine VN r _ hn.2 (fun c h1 h2=>?_) l;rw[bn _ _ _ _ (fun e=>hn.1 (by rw[←e];exact h2))];exact ha c h1 (aT _ h2)
theorem aix{b:Bool}{src:List Nat}{hs hs':List Ob}{ws:List (Nat×Ob)}(ha:∀l∈src,lk hs' l=lk hs l)(l:Nat):lk (wrO hs' (keepW b hs src ws)) l=lk (wrO hs' ws) l:=by
 unfold keepW;cases hb:b&&nodupB (ws.map (·.1))with
 |true=>exact VN ws hs' (pK (aB hb)) (fun c hc _=>ha c hc) l
 |false=>rfl
theorem ad2(hcall:CallOK P call){f:FuncId}{as:List AV}{hs1:List Ob}{rd0:List Nat}{wr0:List (Nat×Ob)}{nm:Nat}{src:List Nat}
  (h1:hs1=wrO σ.hs wr0)(hnm:σ.hs.length<=nm)(hfree:∀l,nm<=l->lk hs1 l= .free)
  (hpre:∀σ' rd,Agr o σ σ' (rd0++rd)->(∀l,σ.hs.length<=l->l<nm->l∈rd)->∀(K:OkX)(w0:World)(a:Act)(w:World),Rel P K w0 n σ' a w->σ.k0<=σ.hs.length->∃(β1:Nat->Option Value)(zs:List Value),RelB P K w0 n ⟨σ'.ts,wrO σ'.hs wr0,σ'.k0⟩ a w β1∧(HasBody P f->(execOp a.eval o).run P w= .ok (.enter f zs.toArray) w)∧RVsX P (okOf K w0 w (wrO σ'.hs wr0) β1) w β1 as zs)
  (h:wh P E call n o σ f as hs1 rd0 wr0 nm src k=some r):OpS P n o σ k r:=by
 unfold wh at h;have hh_:=aJ h;clear h;obtain⟨hc,h⟩:=hh_;have hh_:=hcall _ _ _ _ _ h;clear h;obtain⟨q,h,hfx,hbody⟩:=hh_;replace hfx:=aiw hfx;have hh_:=aJ h;clear h;obtain⟨hc2,h⟩:=hh_;have hnd:=pK (aG hc);have hsf:=GA (aG (aB hc));have hk0:σ.k0<=σ.hs.length:=aL (aB (aB hc));have hlen:=aL (aG hc2);have hsrcnew:∀l∈src,¬(nm<=l∧l<nm+(q.2.length-src.length)):=fun l hl hc=>hsf l hl (hfree l hc.1);refine⟨_,h,fun σ' ag=>?_⟩;have hagr1:∀l∈src++upto σ.hs.length ((nm-σ.hs.length)+(q.2.length-src.length)),lk (wrO σ'.hs wr0) l=lk hs1 l:=by intro l hl;rw[h1];exact pQ (ls:=src++upto σ.hs.length ((nm-σ.hs.length)+(q.2.length-src.length))) (fun l hl=>ag.hs l (List.mem_append_right _ hl)) l hl
 have hobj:∀i l,src[i]? =some l->lk (uK (ix src) hs1 src) i=(lk (wrO σ'.hs wr0) l).ren (ix src):=by intro i l hi;rw[MU,hi];simp only[Vd];rw[hagr1 l (bf _ (aU hi))]
 have hfr:∀j,j<q.2.length-src.length->lk (wrO σ'.hs wr0) (nm+j)= .free:=by intro j hj;rw[hagr1 _ (List.mem_append_right _ (NS (by omega) (by omega)))];exact hfree _ (by omega)
 have hsf':∀l∈src,lk (wrO σ'.hs wr0) l≠ .free:=fun l hl=>by rw[hagr1 l (bf _ hl)];exact hsf l hl
 intro K w0 a w rr Kt Q hK;obtain⟨β1,zs,r1,hrun,ha⟩:=hpre σ' _ ag (fun l h3 h4=>List.mem_append_right _ (NS h3 (by omega))) K w0 a w rr hk0;have hback:=aiv (hs:=wrO σ'.hs wr0) hnd hsrcnew hlen;refine ahF (σ:=St.mk σ'.ts (wrO σ'.hs wr0) σ'.k0) (as:=as) (res:=q.1) (hrun hbody) hnd (Yx _ _ _) hobj hfx hfr (by show σ'.k0<=nm;rw[ag.k0];omega) hsf' hback r1 ha Kt Q fun z w' β'' h3 h4=>hK _ _ ?_;have hI:Imp P n (σ'.app o.dst ⟨o.dst.map fun _=>q.1.ren (bkN src nm),rd0++(src++upto σ.hs.length ((nm-σ.hs.length)+(q.2.length-src.length))),wr0++xO (bkN src nm) nm src q.2⟩) (σ'.app o.dst ⟨o.dst.map fun _=>q.1.ren (bkN src nm),rd0++(src++upto σ.hs.length ((nm-σ.hs.length)+(q.2.length-src.length))),wr0++keepW (E.rdo f) hs1 src (xO (bkN src nm) nm src q.2)⟩):=by refine Rel.congr (fun k=> .inr rfl) (fun l=>?_) rfl;unfold St.app;simp only;rw[rP,rP];exact aix (fun c hc=>hagr1 c (bf _ hc)) l
 refine hI _ _ _ _ ?_;unfold St.app;simp only;rw[rP];cases hd:o.dst with
 |none=>exact⟨β'',h3⟩
 |some d=>
  have hn:d<n:=by have:=aB hc2;unfold agh at this;rw[hd]at this;exact aL this
  exact Rel.put h3 hn h4
theorem abA(hcall:CallOK P call){g:Operand}{xs:Array Operand}{Ts:Array TypeId}{f:FuncId}{as caps:List AV}{hs1:List Ob}{rd0:List Nat}{wr0:List (Nat×Ob)}{nm:Nat}{src:List Nat}(ho:o.op= .call ⟨.value g,xs,Ts⟩)(hcap:∀v∈caps,v.isAgg P=false∧∀us,v≠ .tup us)
  (h1:hs1=wrO σ.hs wr0)(hnm:σ.hs.length<=nm)(hfree:∀l,nm<=l->lk hs1 l= .free)
  (hpre:∀σ' rd,Agr o σ σ' (rd0++rd)->(∀l,σ.hs.length<=l->l<nm->l∈rd)->∀(K:OkX)(w0:World)(a:Act)(w:World),Rel P K w0 n σ' a w->σ.k0<=σ.hs.length->∃β1,RelB P K w0 n ⟨σ'.ts,wrO σ'.hs wr0,σ'.k0⟩ a w β1∧RV P (okOf K w0 w (wrO σ'.hs wr0) β1) w β1 (.fn f caps) (a.eval g)∧RVsX P (okOf K w0 w (wrO σ'.hs wr0) β1) w β1 as (xs.toList.map a.eval))
  (h:wh P E call n o σ f (as++caps) hs1 rd0 wr0 nm src k=some r):OpS P n o σ k r:=by
 refine ad2 hcall h1 hnm hfree (fun σ' rd ag hin K w0 a w rr hk0=>?_) h;obtain⟨β1,r1,hg,ha⟩:=hpre σ' rd ag hin K w0 a w rr hk0;obtain⟨cv,ecv,hcv⟩:=XR hg hcap;exact⟨β1,_,r1,fun hb=>SF (xs:=xs.toList) (by rw[ho]) hb a w ecv,ha.app hcv⟩
theorem RVsX.map_pk{b:Bool}{ok:Nat->Prop}{w:World}{β:Nat->Option Value}{hs:List Ob}{vs:List AV}{zs:List Value}(hf:EB P ok w β hs)(hfa:∀l T es,lk hs l= .frz T es->dQ P T=false)(h:RVsX P ok w β vs zs):RVsX P ok w β (vs.map (pkA P b hs)) zs:=by
 induction h with
 |nil=>exact .nil
 |cons h _ ih=>
  refine .cons ?_ ih;unfold pkA;cases (b&&Vt _)with
  |true=>exact h
  |false=>
  simp only[cond_false];split;·rename_i T d hp;exact h.pk hf hfa hp
  ·exact h
theorem RVsX.n2r{ok:Nat->Prop}{w:World}{β:Nat->Option Value}{vs:List AV}{zs:List Value}(h:RVsX P ok w β vs zs):∀k,IU β k (AV.n2rL P vs k).2.length->RVsX P ok w β (AV.n2rL P vs k).1 zs:=by
 induction h with
 |nil=>intro k _;exact .nil
 |cons h _ ih=>
  intro k hb;simp only[AV.n2rL,aR]at hb ⊢
  exact .cons (h.n2r k hb.left) (ih _ hb.right)
theorem RV.dn{ok:Nat->Prop}{w:World}{β:Nat->Option Value}{v:AV}{z:Value}(h:RV P ok w β v z):RV P ok w β (dn1 P v) z:=by
 unfold dn1;split
 ·split
  ·rename_i hu;have h1:=h.2 rfl;cases h1 with
   |nils=>exact(RV.dat_one (dL hu rfl)).2 (RD.nil hu)
  ·exact h
 ·exact h
theorem RVsX.dn{ok:Nat->Prop}{w:World}{β:Nat->Option Value}{vs:List AV}{zs:List Value}(ps:List Nat)(h:RVsX P ok w β vs zs):∀k,RVsX P ok w β (dnL P ps k vs) zs:=by
 induction h with
 |nil=>intro k;exact .nil
 |cons h _ ih=>
  intro k;refine .cons ?_ (ih _);cases ny k ps;·exact h
  ·exact h.dn
theorem RVsX.mono{ok ok':Nat->Prop}{w w':World}{β β':Nat->Option Value}{vs:List AV}{zs:List Value}(h:RVsX P ok w β vs zs)(hk:∀b,ok b->ok' b∧w'.heap[b]? =w.heap[b]?)(hβ:Ext β β'):RVsX P ok' w' β' vs zs:=by
 induction h with
 |nil=>exact .nil
 |cons h _ ih=>exact .cons (h.mono hk hβ) ih
theorem VO(P:Program):∀(vs:List AV)(k:Nat),∀T∈(AV.n2rL P vs k).2,∃E,P.underlying T=some (.slice E)
 | [],k,T,h=>by simp[AV.n2rL]at h
 |v::vs,k,T,h=>by
  simp only[AV.n2rL,List.mem_append]at h;rcases h with h|h;·exact aaV P v k T h
  ·exact VO P vs _ T h
theorem VP{b:Bool}{hs hs':List Ob}:∀{vs:List AV},(∀l∈AV.rwsL vs,lk hs' l=lk hs l)->vs.map (pkA P b hs')=vs.map (pkA P b hs)
 | [],_=>rfl
 |v::r,h=>by simp only[List.map_cons];rw[VP (vs:=r) fun l hl=>h l (by simp[AV.rwsL,hl])];congr 1;unfold pkA;rw[AQ (hs:=hs) (hs':=hs') v fun l hl=>h l (by simp[AV.rwsL,hl])]
theorem NT:∀(Ts:List TypeId)(σ:St)(K:OkX)(w0 w:World)(a:Act)(β:Nat->Option Value)(k:Nat),RelB P K w0 n σ a w β->(∀T∈Ts,∃E,P.underlying T=some (.slice E))->(∀i,k<=i->i<k+Ts.length->lk σ.hs i= .free)->σ.k0<=k->
  ∃β',RelB P K w0 n ⟨σ.ts,BI σ.hs k Ts,σ.k0⟩ a w β'∧Ext β β'∧IU β' k Ts.length∧∀b,okOf K w0 w σ.hs β b->okOf K w0 w (BI σ.hs k Ts) β' b
 | [],σ,K,w0,w,a,β,k,r,_,_,_=>⟨β,r,Ext.refl _,fun i h1 h2=>by simp at h2;omega,fun b hb=>hb⟩
 |T::Ts,σ,K,w0,w,a,β,k,r,hT,hf,hk=>by
  obtain⟨E,hu⟩:=hT T (by simp);have hfk:=hf k (ay _) (by simp);have r1:=r.nilrow hu hfk hk;obtain⟨β',r2,e2,n2,o2⟩:=NT Ts (σ.lay k (.row T [])) K w0 w a _ (k+1) r1 (fun T' h=>hT T' (by simp[h])) (fun i hi hi2=>by show lk (bA σ.hs k _) i= .free;rw[bn _ _ _ _ (by omega)];exact hf i (by omega) (by simp;omega)) (by show σ.k0<=k+1;omega)
  have hb:β k=none:=by have:=r.hs k;rw[hfk]at this;exact this
  have e1:Ext β (upB β k (some (.slice none 0 0))):=fun i z hz=>by
   by_cases hik:i=k;·subst hik;rw[hb]at hz;cases hz
   ·rw[dX _ _ _ _ hik];exact hz
  refine⟨β',r2,e1.trans e2,fun i h1 h2=>?_,fun b hb2=>o2 b ⟨hb2.1,hb2.2.1,fun j hj=>?_⟩⟩
  ·by_cases hik:i=k;·subst hik;exact e2 _ _ (dA _ _ _)
   ·exact n2 i (by omega) (by simp at h2 ⊢;omega)
  ·obtain⟨q1,z',q2,q3⟩:=hj;by_cases hjk:j=k
   ·    subst hjk;rw[dA]at q2;cases q2;simp[Blk,blk]at q3
   ·    rw[dX _ _ _ _ hjk]at q2;have q1':(lk (bA σ.hs k (.row T [])) j).isOwn=true:=q1;rw[bn _ _ _ _ hjk]at q1';exact hb2.2.2 j ⟨q1',z',q2,q3⟩
theorem ad3{ok ok':Nat->Prop}{w w':World}{β β':Nat->Option Value}{v:AV}{z:Value}(hs:scV P v=true)(h:RV1 P ok w β v z):RV1 P ok' w' β' v z:=by
 cases v with
 |dat   T d=>
  simp only[scV,scT]at hs;have hag:dQ P T=false:=by unfold dQ;split at hs<;>simp_all
  have h1:=h.2 hag;refine⟨fun e=>(by rw[show AV.isAgg P (.dat T d)=false from hag]at e;cases e),fun _=>?_⟩;cases h1 with
  |dat h1=>
   refine .dat ?_;split at hs
   ·    rename_i hu;obtain⟨e1,e2,e3,e4⟩:=h1.int_inv hu;rw[e1,e2];exact .int hu e3 e4
   ·    rename_i hu;obtain⟨e1,e2⟩:=h1.bool_inv hu;rw[e1,e2];exact .bool hu
   ·    rename_i hu;obtain⟨e1,e2,e3⟩:=h1.str_inv hu;rw[e1,e2];exact .str hu e3
   ·cases hs
 |_=>cases hs
theorem anu{ok ok':Nat->Prop}{w w':World}{β β':Nat->Option Value}{v:AV}{z:Value}(hs:scR P v=true)(h:RV P ok w β v z):RV P ok' w' β' v z:=by
 cases v with
 |tup vs=>
  obtain⟨arr,e,hl,h⟩:=h;exact⟨arr,e,hl,fun i av hv=>ad3 (List.all_eq_true.1 hs av (aU hv)) (h i av hv)⟩
 |dat T d=>exact ad3 hs h
 |_=>cases hs
theorem aiy(hcall:CallOK P call){g:Operand}{xs:Array Operand}{Ts:Array TypeId}{f:FuncId}{as caps:List AV}{rd:List Nat}(ho:o.op= .call ⟨.value g,xs,Ts⟩)(hcap:∀v∈caps,v.isAgg P=false∧∀us,v≠ .tup us)
  (hpre:∀σ',Agr o σ σ' rd->∀(K:OkX)(w0:World)(a:Act)(w:World),Rel P K w0 n σ' a w->∃hs1 β1,RelB P K w0 n ⟨σ'.ts,hs1,σ'.k0⟩ a w β1∧RV P (fun b=>b<w.heap.size) w β1 (.fn f caps) (a.eval g)∧RVsX P (fun b=>b<w.heap.size) w β1 as (xs.toList.map a.eval))
  (h:(call f (AV.renL (ix []) (as++caps)) [] fun q=>bif (scR P q.1&&(isNil q.2&&agh n o))then k ⟨o.dst.map fun _=>q.1,rd,[]⟩else none)=some r):OpS P n o σ k r:=by
 have hh_:=hcall _ _ _ _ _ h;clear h;obtain⟨q,h,hfx,hbody⟩:=hh_;have hh_:=aJ h;clear h;obtain⟨hc2,h⟩:=hh_;have hsc:=aG hc2;have hnil:q.2=[]:=by
  have:=aG (aB hc2);cases hq:q.2 with
  |nil=>rfl
  |cons a b=>rw[hq]at this;cases this
 refine⟨_,h,fun σ' ag=>?_⟩;intro K w0 a w rr Kt Q hK;obtain⟨hs1,β1,r1,hg,ha⟩:=hpre σ' ag K w0 a w rr;obtain⟨β,rb⟩:=rr;obtain⟨cv,ecv,hcv⟩:=XR hg hcap;have hargs:=(ha.app hcv).ren (AJ [] β1);have no:∀(β:Nat->Option Value) l b,¬owns [] β l b:=fun β l b h=>by obtain⟨h1,_⟩:=h;cases l<;>cases h1
 have hc:=hfx (fun b=>b<w.heap.size) w (uL [] β1) _ (fun b hb=>⟨hb,fun⟨l,hx⟩=>no _ _ _ hx⟩) (fun i=>by cases i<;>rfl) (fun l l' b h1=>(no _ _ _ h1).elim) hargs (r1.tab.mono fun b hb=>⟨hb.1,rfl⟩);rw[hnil]at hc;have ho':o.op= .call {callee:= .value g,args:=xs.toList.toArray,argTypes:=Ts}:=by rw[ho]
 unfold Oper.wp;rw[SF ho' hbody a w ecv,Oper.upon_enter];refine hc.mono ?_;rintro e w' ⟨z,β',rfl,fin,hz⟩;have hbel:Below w.heap.size w w':=⟨fin.below.os,fin.below.tape,fin.below.output,fin.below.size,fun b hb=>fin.below.block b hb (fun⟨l,hx⟩=>no _ _ _ hx)⟩;obtain⟨rg,_⟩:=rb.grow hbel;refine hK _ _ ?_;unfold St.app;simp only;cases hd:o.dst with
 |none=>exact⟨β,rg⟩
 |some d=>
  have hn:d<n:=by have:=aB (aB hc2);unfold agh at this;rw[hd]at this;exact aL this
  exact Rel.put rg hn (anu hsc hz)
theorem atU{A:Type}{b:Bool}{x y z:A}(h:(bif b then x else y)=z):(b=true∧x=z)∨(b=false∧y=z):=by cases b<;>simp_all
theorem Yy:∀us vs:List AV,AV.nmsL (us++vs)=AV.nmsL us++AV.nmsL vs
 | [],vs=>by simp[AV.nmsL]
 |u::us,vs=>by simp[AV.nmsL,Yy us vs]
theorem NU{v:AV}{l:Nat}:∀{vs:List AV},v∈vs->l∈v.rws->l∈AV.rwsL vs
 |u::us,h,hl=>by
  simp only[AV.rwsL,List.mem_append];rcases List.mem_cons.1 h with e|h;·subst e;exact .inl hl
  ·exact .inr (NU h hl)
theorem Yz{hs:List Ob}{ts:List AV}{k0:Nat}{K:OkX}{w0 w:World}{a:Act}{β:Nat->Option Value}{cs:List Value}(rb:RelB P K w0 n ⟨ts,hs,k0⟩ a w β)(h:RA P (fun b=>b<w.heap.size) w β v cs):RA P (fun b=>b<w.heap.size) w β (sM P hs v) cs:=by
 unfold sM;split
 ·rename_i l;split
  ·rename_i T c hl;split
   ·    rename_i T' d hp;cases hb:Nat.beq T' T;·exact h
        ·have e:=beq_eq hb;subst e;simp only[cond_true];have ho:=rb.hs l;rw[show lk (St.mk ts hs k0).hs l=lk hs l from rfl,hl]at ho;obtain⟨b,cc,e1,e2,e3,e4⟩:=ho;cases h with
         | @ptr _ b' off path hβ=>
           rw[e1]at hβ;simp only[aD,Value.pointer.injEq,Addr.mk.injEq,and_true]at hβ;subst hβ;have hrd:=jN rb.frzOK e4 hp;have hlt:b<w.heap.size:=(Array.getElem?_eq_some_iff.1 e2).1;refine .rptr (ad:=⟨b,0,none⟩) (cs:=cc.toList) hlt (by rw[Array.length_toList];exact e3) (fun j u hu=>?_) (hrd.mono fun b hb=>⟨hb.1,rfl⟩);rw[oJ,Nat.zero_add];simp only[World.cell?,e2];rw[Array.getElem?_toList]at hu;simpa using hu
   ·exact h
  ·exact h
 ·exact h
theorem Lh{hs:List Ob}(hv:v.isAgg P=false∧∀us,v≠ .tup us):(sM P hs v).isAgg P=false∧∀us,sM P hs v≠ .tup us:=by
 unfold sM;split
 ·split
  ·split
   ·    cases Nat.beq _ _;·exact hv
        ·exact⟨rfl,fun us h=>by cases h⟩
   ·exact hv
  ·exact hv
 ·exact hv
theorem YA{hs:List Ob}{ts:List AV}{k0:Nat}{K:OkX}{w0 w:World}{a:Act}{β:Nat->Option Value}{z:Value}(rb:RelB P K w0 n ⟨ts,hs,k0⟩ a w β)(h:RV P (fun b=>b<w.heap.size) w β v z):RV P (fun b=>b<w.heap.size) w β (Ce P hs v) z:=by
 cases v with
 |fn f caps=>
  have h1:=h.2 rfl;refine⟨fun hi=>(by cases hi),fun _=>?_⟩;show RA P _ w β (.fn f (caps.map (sM P hs))) [z];cases h1 with
  | @fn _ _ cv hl hh=>
    refine .fn (by rw[List.length_map];exact hl) fun i av hav=>?_;rw[List.getElem?_map]at hav;obtain⟨u,hu,rfl⟩:=aY.1 hav;exact Yz rb (hh i u hu)
 |ptr l path off=>
  have h1:=h.2 rfl;have h2:=Yz rb h1;have hp:(AV.ptr l path off).isAgg P=false∧∀us,AV.ptr l path off≠ .tup us:=⟨rfl,fun us h=>by cases h⟩;have h3:=Lh (hs:=hs) hp;show RV P _ w β (sM P hs (.ptr l path off)) z;have h4:RV1 P (fun b=>b<w.heap.size) w β (sM P hs (.ptr l path off)) z:=⟨fun hi=>(by rw[h3.1]at hi;cases hi),fun _=>h2⟩;exact h4.toRV h3.2
 |_=>exact h
theorem zJ{T:TypeId}{c:AV}:∀{ls:List Nat}{hs:List Ob}{l:Nat},lk (wrO hs (Am.frzW hs ls)) l= .box T c->lk hs l= .box T c
 | [],hs,l,h=>h
 |k::r,hs,l,h=>by
  unfold Am.frzW at h;split at h
  ·rename_i T' es hl;have h2:=zJ (ls:=r) (hs:=bA hs k (.frz T' es)) h;rw[jM]at h2;split at h2;·cases h2
   ·exact h2
  ·rename_i T' T2 c' kk es hl;split at h
   ·    rename_i ls hls;have h2:=zJ (ls:=r) (hs:=bA (bA (bA hs k (.row T' (frzD c' es ls))) kk .gone) k (.frz T' (frzD c' es ls))) h;simp only[jM]at h2;split at h2;·cases h2
        ·split at h2;·cases h2
         ·first|exact h2|(split at h2;·cases h2;·exact h2)
   ·exact zJ h
  ·exact zJ h
theorem Li{hs:List Ob}{q:Nat}:∀{ls:List Nat},q∈ls->q∈Gu hs ls
 |k::r,h=>by
  simp only[Gu,List.mem_append];rcases List.mem_cons.1 h with rfl|h;·left;split<;>simp
  ·exact .inr (Li h)
theorem Ct{hs:List Ob}{T:TypeId}{c:AV}{l q:Nat}:∀{ls:List Nat},l∈ls->lk hs l= .box T c->q∈c.rws->q∈dH hs ls
 |k::r,h,hl,hq=>by
  simp only[dH,List.mem_append];rcases List.mem_cons.1 h with rfl|h;·left;rw[hl];exact Li hq
  ·exact .inr (Ct h hl hq)
theorem Tp{hs hs':List Ob}(h1:∀l∈v.nms,lk hs' l=lk hs l)(h2:∀l∈v.nms,∀T c,lk hs l= .box T c->∀q∈c.rws,lk hs' q=lk hs q):sM P hs' v=sM P hs v:=by
 cases v with
 |ptr   l path off=>
  have hl:l∈(AV.ptr l path off).nms:=by simp[AV.nms]
  cases path with
  |nil    =>
   cases off with
   |    zero=>
        simp only[sM,h1 l hl];cases hk:lk hs l with
        | box T c=>
          simp only;rw[AQ (P:=P) (hs:=hs) (hs':=hs') c (h2 l hl T c hk)]
        |_=>rfl
   |succ _=>rfl
  |cons _ _=>rfl
 |_=>rfl
theorem yO{hs hs':List Ob}:∀{vs:List AV},(∀l∈AV.nmsL vs,lk hs' l=lk hs l)->(∀l∈AV.nmsL vs,∀T c,lk hs l= .box T c->∀q∈c.rws,lk hs' q=lk hs q)->vs.map (sM P hs')=vs.map (sM P hs)
 | [],_,_=>rfl
 |v::r,h1,h2=>by simp only[List.map_cons];rw[Tp (fun l hl=>h1 l (by simp[AV.nmsL,hl])) (fun l hl=>h2 l (by simp[AV.nmsL,hl])),yO (vs:=r) (fun l hl=>h1 l (by simp[AV.nmsL,hl])) (fun l hl=>h2 l (by simp[AV.nmsL,hl]))]
theorem agB{hs hs':List Ob}(h1:∀l∈v.nms,lk hs' l=lk hs l)(h2:∀l∈v.nms,∀T c,lk hs l= .box T c->∀q∈c.rws,lk hs' q=lk hs q):Ce P hs' v=Ce P hs v:=by
 cases v with
 |fn f caps=>
  show AV.fn f (caps.map (sM P hs'))=AV.fn f (caps.map (sM P hs));rw[yO h1 h2]
 |ptr l path off=>exact Tp h1 h2
 |_=>rfl
theorem ad4{b:Bool}{hs:List Ob}:∀l∈(pkA P b hs v).nms,l∈v.nms:=by
 intro l hl;unfold pkA at hl;cases hb:(b&&Vt v)
 ·rw[hb,cond_false]at hl;split at hl;·simp[AV.nms]at hl
  ·exact hl
 ·rw[hb,cond_true]at hl;exact hl
theorem NV{b:Bool}{hs hs':List Ob}(h:∀l∈v.rws,lk hs' l=lk hs l):pkA P b hs' v=pkA P b hs v:=by unfold pkA;rw[AQ (hs:=hs) (hs':=hs') v h]
theorem EF{b:Bool}{hs hs':List Ob}:∀{vs:List AV},(∀l∈AV.rwsL vs,lk hs' l=lk hs l)->(∀l∈AV.nmsL vs,lk hs' l=lk hs l)->(∀l∈AV.nmsL vs,∀T c,lk hs l= .box T c->∀q∈c.rws,lk hs' q=lk hs q)->(vs.map fun v=>Ce P hs' (pkA P b hs' v))=vs.map fun v=>Ce P hs (pkA P b hs v)
 | [],_,_,_=>rfl
 |v::r,h0,h1,h2=>by
  simp only[List.map_cons];rw[NV (hs:=hs) fun l hl=>h0 l (by simp[AV.rwsL,hl]),agB (fun l hl=>h1 l (by simp[AV.nmsL,ad4 l hl])) (fun l hl=>h2 l (by simp[AV.nmsL,ad4 l hl])),
   EF (vs:=r) (fun l hl=>h0 l (by simp[AV.rwsL,hl])) (fun l hl=>h1 l (by simp[AV.nmsL,hl])) (fun l hl=>h2 l (by simp[AV.nmsL,hl]))]
theorem RVsX.map_lend{hs:List Ob}{ts:List AV}{k0:Nat}{K:OkX}{w0 w:World}{a:Act}{β:Nat->Option Value}{vs:List AV}{zs:List Value}(rb:RelB P K w0 n ⟨ts,hs,k0⟩ a w β)(h:RVsX P (fun b=>b<w.heap.size) w β vs zs):RVsX P (fun b=>b<w.heap.size) w β (vs.map (Ce P hs)) zs:=by
 induction h with
 |nil=>exact .nil
 |cons h _ ih=>exact .cons (YA rb h) ih
theorem Jf{pty:TypeId->Option TypeId}{hs:List Ob}{l:Nat}{ob:Ob}(h:agf P pty hs l=some ob):∃T c PT d,lk hs l= .box T c∧P.underlying PT=some (.pointer T)∧pk P hs c=some (T,d)∧ob= .frz PT [d]:=by
 unfold agf at h;split at h
 ·rename_i T c hl;split at h
  ·rename_i PT hPT;split at h
   ·    rename_i T2 hT2;split at h
        ·rename_i T' d hp;obtain⟨hc,h⟩:=aJ h;cases h;have e1:=beq_eq (aG hc);have e2:=beq_eq (aB hc);subst e1 e2;exact⟨_,c,PT,d,hl,BR hT2,hp,rfl⟩
        ·cases h
   ·cases h
  ·cases h
 ·cases h
theorem RelB.fzbW{K:OkX}{w0 w:World}{a:Act}{β:Nat->Option Value}{pty:TypeId->Option TypeId}:∀{bs:List Nat}{σ:St},RelB P K w0 n σ a w β->RelB P K w0 n ⟨σ.ts,wrO σ.hs (Am.fzbW P pty σ.hs bs),σ.k0⟩ a w β
 | [],σ,r=>r
 |l::bs,σ,r=>by
  unfold Am.fzbW;split
  ·rename_i ob h1;obtain⟨T,c,PT,d,h2,h3,h4,rfl⟩:=Jf h1;exact RelB.fzbW (bs:=bs) (σ:=⟨σ.ts,bA σ.hs l (.frz PT [d]),σ.k0⟩) (r.frzBox h2 h4 h3)
  ·exact RelB.fzbW (bs:=bs) r
theorem aiz{pty:TypeId->Option TypeId}{hs hs':List Ob}{l:Nat}(h1:lk hs' l=lk hs l)(h2:∀T c,lk hs l= .box T c->∀q∈c.rws,lk hs' q=lk hs q):agf P pty hs' l=agf P pty hs l:=by
 unfold agf;rw[h1];split
 ·rename_i T c hl;rw[AQ (P:=P) (hs:=hs) (hs':=hs') c (h2 T c hl)]
 ·rfl
theorem NW{pty:TypeId->Option TypeId}:∀{bs:List Nat}{hs hs':List Ob},(∀l∈bs,lk hs' l=lk hs l)->(∀l∈bs,∀T c,lk hs l= .box T c->∀q∈c.rws,lk hs' q=lk hs q)->fzbW P pty hs' bs=fzbW P pty hs bs
 | [],_,_,_,_=>rfl
 |l::bs,hs,hs',h1,h2=>by
  unfold fzbW;rw[aiz (h1 l (by simp)) (h2 l (by simp))];split
  ·rename_i ob hob;obtain⟨T0,c0,PT,d,_,_,_,rfl⟩:=Jf hob;rw[NW (bs:=bs) (hs:=bA hs l (.frz PT [d])) (hs':=bA hs' l (.frz PT [d])) (fun k hk=>?_) (fun k hk T c hkc q hq=>?_)]
   ·    rw[jM,jM];split;·rfl
        ·exact h1 k (by simp[hk])
   ·    rw[jM]at hkc;rw[jM,jM];split;·rfl
        ·split at hkc;·cases hkc
         ·exact h2 k (by simp[hk]) T c hkc q hq
  ·exact NW (fun k hk=>h1 k (by simp[hk])) (fun k hk=>h2 k (by simp[hk]))
theorem Jg{pty:TypeId->Option TypeId}:∀{bs:List Nat}{hs:List Ob}{l:Nat},lk hs l= .free->lk (wrO hs (fzbW P pty hs bs)) l= .free
 | [],hs,l,h=>h
 |k::r,hs,l,h=>by
  unfold fzbW;split
  ·rename_i ob hob;obtain⟨T0,c0,PT,d,h2,_,_,rfl⟩:=Jf hob;simp only[wrO];refine Jg ?_;rw[jM];split;·rename_i e;subst e;rw[h]at h2;cases h2
   ·exact h
  ·exact Jg h
theorem aq0{ok:Nat->Prop}{w:World}{β:Nat->Option Value}{hs:List Ob}{z:Value}(hf:EB P ok w β hs)(hfa:∀l T es,lk hs l= .frz T es->dQ P T=false)(h:RV P ok w β v z):RV P ok w β (pkZ hs v) z:=by
 unfold pkZ;split
 ·rename_i l;split
  ·rename_i T es hl;have h1:=h.2 rfl;obtain⟨z',e,hr⟩:=hf l T es hl;cases h1 with
   |    ptr hβ=>
        rw[hβ]at e;cases e;exact(RV.dat_one (hfa l T es hl)).2 hr
  ·exact h
 ·exact h
theorem RVsX.map_pkZ{b:Bool}{ok:Nat->Prop}{w:World}{β:Nat->Option Value}{hs:List Ob}{vs:List AV}{zs:List Value}(hf:EB P ok w β hs)(hfa:∀l T es,lk hs l= .frz T es->dQ P T=false)(h:RVsX P ok w β vs zs):RVsX P ok w β (vs.map fun v=>pkZ hs (pkA P b hs v)) zs:=by
 have h2:=h.map_pk (b:=b) hf hfa;generalize hus:vs.map (pkA P b hs)=us at h2;have e:(vs.map fun v=>pkZ hs (pkA P b hs v))=us.map (pkZ hs):=by rw[←hus,List.map_map];rfl
 rw[e];clear e hus h;induction h2 with
 |nil=>exact .nil
 |cons h _ ih=>exact .cons (aq0 hf hfa h) ih
theorem Tq{l:Nat}:∀{vs:List AV},.ptr l [] 0∈vs->l∈iM vs
 |u::us,h=>by
  simp only[iM,List.mem_append];rcases List.mem_cons.1 h with e|h;·subst e;left;simp
  ·exact .inr (Tq h)
theorem YB{b:Bool}{hs hs':List Ob}{vs:List AV}(h0:∀l∈AV.rwsL vs,lk hs' l=lk hs l)(h1:∀l∈iM vs,lk hs' l=lk hs l):(vs.map fun v=>pkZ hs' (pkA P b hs' v))=vs.map fun v=>pkZ hs (pkA P b hs v):=by
 refine List.map_congr_left fun v hv=>?_;rw[NV (hs:=hs) (hs':=hs') fun l hl=>h0 l (NU hv hl)];cases v with
 |ptr l p q=>
  have e:pkA P b hs (.ptr l p q)= .ptr l p q:=by unfold pkA;cases b<;>rfl
  rw[e];match p,q with
  | [],0=>simp only[pkZ];rw[h1 l (Tq hv)]
  | [],_+1=>rfl
  |_::_,_=>rfl
 |_=>
  unfold pkA;cases b<;>simp only[Vt,Bool.and_false,Bool.and_true,cond_false,cond_true]<;>first|rfl|(split<;>rfl)
theorem s_call(hcall:CallOK P call){g:Operand}{xs:Array Operand}{Ts:Array TypeId}(ho:o.op= .call ⟨.value g,xs,Ts⟩)(h:abh P E call n o σ g xs.toList Ts.toList k=some r):OpS P n o σ k r:=by
 have hg:g∈o.op.operands.toList:=by rw[ho];simp[Op.operands,Call.operands]
 have hxs:∀z∈xs.toList,z∈o.op.operands.toList:=by intro z hz;rw[ho];simp[Op.operands,Call.operands];right;simpa using hz
 unfold abh at h;split at h
 ·rename_i f caps e1;have hh_:=aJ h;clear h;obtain⟨hc,h⟩:=hh_;have hlen:=beq_eq (aG hc);have hcap:=Fb (aB hc);cases how:E.own f with
  |true=>
   rw[how]at h;simp only[cond_true]at h;refine abA hcall ho (fun v hv=>⟨(hcap v hv).1,(hcap v hv).2.2⟩) (abz _ _ _).symm (by omega) (fun l hl=>Tn hl (j6 _ _ (by omega))) ?_ h;intro σ' rd ag hin K w0 a w rr hk0;obtain⟨β,rb⟩:=rr;obtain⟨β1,r1,ex1,nb1,ok1⟩:=NT (P:=P) (n:=n) _ σ' K w0 w a β σ.hs.length rb (VO P (dnL P (E.nd f) 0 (cO P E.dt σ Ts.toList xs.toList)) σ.hs.length) (fun i h3 h4=>by rw[ag.hs i (hin i h3 h4)];exact j6 _ _ h3) (by rw[ag.k0];exact hk0)
   rw[←abz]at r1 ok1;have hk:∀b,okOf K w0 w σ'.hs β b->okOf K w0 w (wrO σ'.hs (ahT σ.hs.length (AV.n2rL P (dnL P (E.nd f) 0 (cO P E.dt σ Ts.toList xs.toList)) σ.hs.length).2)) β1 b∧w.heap[b]? =w.heap[b]? :=fun b hb=>⟨ok1 b hb,rfl⟩;have hopds:=(Gz (P:=P) (σ:=σ') (D:=E.dt) hlen).rvs rb;rw[Cq ag.ts hxs]at hopds;exact⟨β1,r1,(bW ag hg e1 _ _ _ _ _ _ rb).mono hk ex1,((hopds.mono hk ex1).dn _ 0).n2r _ nb1⟩
  |false    =>
   rw[how]at h;simp only[cond_false]at h
   have    main:∀(L:List Nat),(∀l∈AV.rwsL (cO P E.dt σ Ts.toList xs.toList),l∈L)->∀σ' rd,Agr o σ σ' (L++rd)->∀(K:OkX)(w0:World)(a:Act)(w:World),Rel P K w0 n σ' a w->∃β1,RelB P K w0 n ⟨σ'.ts,wrO σ'.hs (frzW σ.hs L),σ'.k0⟩ a w β1∧RV P (okOf K w0 w (wrO σ'.hs (frzW σ.hs L)) β1) w β1 (.fn f caps) (a.eval g)∧RVsX P (okOf K w0 w (wrO σ'.hs (frzW σ.hs L)) β1) w β1 ((cO P E.dt σ Ts.toList xs.toList).map (pkA P (E.raw f) (wrO σ.hs (frzW σ.hs L)))) (xs.toList.map a.eval):=by
    intro L hL σ' rd ag K w0 a w rr;obtain⟨β,rb⟩:=rr;have hagr:∀l∈L,lk σ'.hs l=lk σ.hs l:=fun l hl=>ag.hs l (bf _ hl);have hfw:=kF hagr;obtain⟨β1,r1⟩:=Imp.frzW (P:=P) (n:=n) (σ:=σ') L K w0 a w ⟨β,rb⟩;rw[hfw]at r1;refine⟨β1,r1,?_,?_⟩
    ·    have:=NR (P:=P) (T:=0) (D:=E.dt) (hs:=wrO σ'.hs (frzW σ.hs L)) (k0:=σ'.k0) ag hg;rw[e1]at this;exact this _ _ _ _ _ _ r1
    ·    have hopds:=(Gz (P:=P) (σ:=St.mk σ'.ts (wrO σ'.hs (frzW σ.hs L)) σ'.k0) (D:=E.dt) hlen).rvs r1;rw[Cq (σ:=σ) (σ':=St.mk σ'.ts (wrO σ'.hs (frzW σ.hs L)) σ'.k0) (xs:=o.op.operands.toList) (fun t ht=>ag.ts t ht) hxs]at hopds;have:=hopds.map_pk (b:=E.raw f) r1.frzOK r1.frzAgg;have e3:(cO P E.dt σ Ts.toList xs.toList).map (pkA P (E.raw f) (wrO σ'.hs (frzW σ.hs L)))=(cO P E.dt σ Ts.toList xs.toList).map (pkA P (E.raw f) (wrO σ.hs (frzW σ.hs L))):=
           VP fun l hl=>pQ hagr l (hL l hl)
         rw[e3]at this;exact this
   cases hfz:E.fzc f with
   |    true=>
        rw[hfz]at h;simp only[cond_true]at h;rw[←rP]at h;refine abA hcall ho (fun v hv=>⟨(hcap v hv).1,(hcap v hv).2.2⟩) rfl (ay _) (fun l hl=>(by rw[rP];exact Jg (qW (j6 _ _ hl)))) (fun σ' rd ag _ K w0 a w rr _=>?_) h;obtain⟨β,rb⟩:=rr;have hagL:∀l∈AV.rwsL (cO P E.dt σ Ts.toList xs.toList)++dH σ.hs (iM (cO P E.dt σ Ts.toList xs.toList)),lk σ'.hs l=lk σ.hs l:=fun l hl=>ag.hs l (bf _ (bf _ hl));have hagB:∀l∈iM (cO P E.dt σ Ts.toList xs.toList),lk σ'.hs l=lk σ.hs l:=fun l hl=>ag.hs l (bf _ (List.mem_append_right _ hl));have hfw:=kF hagL;obtain⟨β1,r1⟩:=Imp.frzW (P:=P) (n:=n) (σ:=σ') (AV.rwsL (cO P E.dt σ Ts.toList xs.toList)++dH σ.hs (iM (cO P E.dt σ Ts.toList xs.toList))) K w0 a w ⟨β,rb⟩;rw[hfw]at r1;have hwB:∀l,l∈AV.rwsL (cO P E.dt σ Ts.toList xs.toList)++dH σ.hs (iM (cO P E.dt σ Ts.toList xs.toList))++iM (cO P E.dt σ Ts.toList xs.toList)->lk (wrO σ'.hs (frzW σ.hs (AV.rwsL (cO P E.dt σ Ts.toList xs.toList)++dH σ.hs (iM (cO P E.dt σ Ts.toList xs.toList))))) l=lk (wrO σ.hs (frzW σ.hs (AV.rwsL (cO P E.dt σ Ts.toList xs.toList)++dH σ.hs (iM (cO P E.dt σ Ts.toList xs.toList))))) l:=fun l hl=>
          pQ (ls:=AV.rwsL (cO P E.dt σ Ts.toList xs.toList)++dH σ.hs (iM (cO P E.dt σ Ts.toList xs.toList))++iM (cO P E.dt σ Ts.toList xs.toList)) (fun k hk=>ag.hs k (bf _ hk)) l hl
        have hfb:=NW (P:=P) (pty:=E.pty) (bs:=iM (cO P E.dt σ Ts.toList xs.toList)) (fun l hl=>hwB l (List.mem_append_right _ hl)) (fun l hl T c hk q hq=>hwB q (bf _ (List.mem_append_right _ (Ct hl (zJ hk) hq))));have r2:=RelB.fzbW (pty:=E.pty) (bs:=iM (cO P E.dt σ Ts.toList xs.toList)) r1;simp only at r2;rw[hfb,←rP]at r2;refine⟨β1,r2,?_,?_⟩
        · have:=NR (P:=P) (T:=0) (D:=E.dt) (hs:=wrO σ'.hs (frzW σ.hs (AV.rwsL (cO P E.dt σ Ts.toList xs.toList)++dH σ.hs (iM (cO P E.dt σ Ts.toList xs.toList)))++fzbW P E.pty (wrO σ.hs (frzW σ.hs (AV.rwsL (cO P E.dt σ Ts.toList xs.toList)++dH σ.hs (iM (cO P E.dt σ Ts.toList xs.toList))))) (iM (cO P E.dt σ Ts.toList xs.toList)))) (k0:=σ'.k0) ag hg;rw[e1]at this;exact this _ _ _ _ _ _ r2
        · have hopds:=(Gz (P:=P) (σ:=St.mk σ'.ts (wrO σ'.hs (frzW σ.hs (AV.rwsL (cO P E.dt σ Ts.toList xs.toList)++dH σ.hs (iM (cO P E.dt σ Ts.toList xs.toList)))++fzbW P E.pty (wrO σ.hs (frzW σ.hs (AV.rwsL (cO P E.dt σ Ts.toList xs.toList)++dH σ.hs (iM (cO P E.dt σ Ts.toList xs.toList))))) (iM (cO P E.dt σ Ts.toList xs.toList)))) σ'.k0) (D:=E.dt) hlen).rvs r2;rw[Cq (σ:=σ) (σ':=St.mk σ'.ts (wrO σ'.hs (frzW σ.hs (AV.rwsL (cO P E.dt σ Ts.toList xs.toList)++dH σ.hs (iM (cO P E.dt σ Ts.toList xs.toList)))++fzbW P E.pty (wrO σ.hs (frzW σ.hs (AV.rwsL (cO P E.dt σ Ts.toList xs.toList)++dH σ.hs (iM (cO P E.dt σ Ts.toList xs.toList))))) (iM (cO P E.dt σ Ts.toList xs.toList)))) σ'.k0) (xs:=o.op.operands.toList) (fun t ht=>ag.ts t ht) hxs]at hopds;have h5:=hopds.map_pkZ (b:=E.raw f) r2.frzOK r2.frzAgg;have hw2:∀l,l∈AV.rwsL (cO P E.dt σ Ts.toList xs.toList)++dH σ.hs (iM (cO P E.dt σ Ts.toList xs.toList))++iM (cO P E.dt σ Ts.toList xs.toList)->lk (wrO σ'.hs (frzW σ.hs (AV.rwsL (cO P E.dt σ Ts.toList xs.toList)++dH σ.hs (iM (cO P E.dt σ Ts.toList xs.toList)))++fzbW P E.pty (wrO σ.hs (frzW σ.hs (AV.rwsL (cO P E.dt σ Ts.toList xs.toList)++dH σ.hs (iM (cO P E.dt σ Ts.toList xs.toList))))) (iM (cO P E.dt σ Ts.toList xs.toList)))) l=lk (wrO σ.hs (frzW σ.hs (AV.rwsL (cO P E.dt σ Ts.toList xs.toList)++dH σ.hs (iM (cO P E.dt σ Ts.toList xs.toList)))++fzbW P E.pty (wrO σ.hs (frzW σ.hs (AV.rwsL (cO P E.dt σ Ts.toList xs.toList)++dH σ.hs (iM (cO P E.dt σ Ts.toList xs.toList))))) (iM (cO P E.dt σ Ts.toList xs.toList)))) l:=fun l hl=>
            pQ (ls:=AV.rwsL (cO P E.dt σ Ts.toList xs.toList)++dH σ.hs (iM (cO P E.dt σ Ts.toList xs.toList))++iM (cO P E.dt σ Ts.toList xs.toList)) (fun k hk=>ag.hs k (bf _ hk)) l hl
          rw[YB (P:=P) (b:=E.raw f) (fun l hl=>hw2 l (bf _ (bf _ hl))) (fun l hl=>hw2 l (List.mem_append_right _ hl))]at h5;exact h5
   |false=>
   rw[hfz]at h;simp only[cond_false]at h;cases hl:(ahY P E f&&isNil (AV.nmsL ((cO P E.dt σ Ts.toList xs.toList).map (pkA P (E.raw f) (wrO σ.hs (frzW σ.hs (AV.rwsL (cO P E.dt σ Ts.toList xs.toList)))))++caps)))with
   |    true=>
        rw[hl]at h;simp only[cond_true]at h;refine aiy hcall ho (fun v hv=>⟨(hcap v hv).1,(hcap v hv).2.2⟩) (fun σ' ag K w0 a w rr=>?_) h;obtain⟨β1,h1,h2,h3⟩:=main _ (fun l hl=>hl) σ' [] (by rw[List.append_nil];exact ag) K w0 a w rr;exact⟨_,β1,h1,h2.mono (fun b hb=>⟨hb.1,rfl⟩) (Ext.refl _),h3.mono (fun b hb=>⟨hb.1,rfl⟩) (Ext.refl _)⟩
   |    false=>
        rw[hl]at h;simp only[cond_false]at h;have hh_:=atU h;clear h;rcases hh_ with⟨_,h⟩| ⟨_,h⟩
        · refine aiy hcall ho (fun v hv=>?_) (fun σ' ag K w0 a w rr=>?_) h
          · obtain⟨u,hu,rfl⟩:=List.mem_map.1 hv;exact Lh ⟨(hcap u hu).1,(hcap u hu).2.2⟩
          · obtain⟨β1,h1,h2,h3⟩:=main _ (fun l hl=>bf _ hl) σ' _ ag K w0 a w rr;have hagr:∀l∈(AV.rwsL (cO P E.dt σ Ts.toList xs.toList)++dH σ.hs (AV.nmsL (cO P E.dt σ Ts.toList xs.toList++caps)))++AV.nmsL (cO P E.dt σ Ts.toList xs.toList++caps),lk (wrO σ'.hs (frzW σ.hs (AV.rwsL (cO P E.dt σ Ts.toList xs.toList)++dH σ.hs (AV.nmsL (cO P E.dt σ Ts.toList xs.toList++caps))))) l=lk (wrO σ.hs (frzW σ.hs (AV.rwsL (cO P E.dt σ Ts.toList xs.toList)++dH σ.hs (AV.nmsL (cO P E.dt σ Ts.toList xs.toList++caps))))) l:=fun l hl=>pQ ag.hs l hl;have hbox:∀l∈AV.nmsL (cO P E.dt σ Ts.toList xs.toList++caps),∀T c,lk (wrO σ.hs (frzW σ.hs (AV.rwsL (cO P E.dt σ Ts.toList xs.toList)++dH σ.hs (AV.nmsL (cO P E.dt σ Ts.toList xs.toList++caps))))) l= .box T c->∀q∈c.rws,lk (wrO σ'.hs (frzW σ.hs (AV.rwsL (cO P E.dt σ Ts.toList xs.toList)++dH σ.hs (AV.nmsL (cO P E.dt σ Ts.toList xs.toList++caps))))) q=lk (wrO σ.hs (frzW σ.hs (AV.rwsL (cO P E.dt σ Ts.toList xs.toList)++dH σ.hs (AV.nmsL (cO P E.dt σ Ts.toList xs.toList++caps))))) q:=
             fun l hl T c hk q hq=>hagr q (bf _ (List.mem_append_right _ (Ct hl (zJ hk) hq)))
            have hn:∀(us vs:List AV)(l:Nat),l∈AV.nmsL us∨l∈AV.nmsL vs->l∈AV.nmsL (us++vs):=fun us vs l h=>by rw[Yy];exact List.mem_append.2 h
            have ea:=EF (P:=P) (b:=E.raw f) (vs:=cO P E.dt σ Ts.toList xs.toList) (fun l hl=>hagr l (bf _ (bf _ hl))) (fun l hl=>hagr l (List.mem_append_right _ (hn _ _ l (.inl hl)))) (fun l hl=>hbox l (hn _ _ l (.inl hl)));have ec:=yO (P:=P) (vs:=caps) (fun l hl=>hagr l (List.mem_append_right _ (hn _ _ l (.inr hl)))) (fun l hl=>hbox l (hn _ _ l (.inr hl)));refine⟨_,β1,h1,?_,?_⟩
            ·rw[←ec];exact YA h1 (h2.mono (fun b hb=>⟨hb.1,rfl⟩) (Ext.refl _))
            ·rw[←ea];have h4:=(h3.mono (ok':=fun b=>b<w.heap.size) (w':=w) (fun b hb=>⟨hb.1,rfl⟩) (Ext.refl _)).map_lend h1;rw[List.map_map]at h4;have e5:((cO P E.dt σ Ts.toList xs.toList).map fun v=>Ce P (wrO σ'.hs (frzW σ.hs (AV.rwsL (cO P E.dt σ Ts.toList xs.toList)++dH σ.hs (AV.nmsL (cO P E.dt σ Ts.toList xs.toList++caps))))) (pkA P (E.raw f) (wrO σ'.hs (frzW σ.hs (AV.rwsL (cO P E.dt σ Ts.toList xs.toList)++dH σ.hs (AV.nmsL (cO P E.dt σ Ts.toList xs.toList++caps))))) v))=(cO P E.dt σ Ts.toList xs.toList).map (Ce P (wrO σ'.hs (frzW σ.hs (AV.rwsL (cO P E.dt σ Ts.toList xs.toList)++dH σ.hs (AV.nmsL (cO P E.dt σ Ts.toList xs.toList++caps)))))∘pkA P (E.raw f) (wrO σ.hs (frzW σ.hs (AV.rwsL (cO P E.dt σ Ts.toList xs.toList)++dH σ.hs (AV.nmsL (cO P E.dt σ Ts.toList xs.toList++caps)))))):=by refine List.map_congr_left fun v hv=>?_;have:pkA P (E.raw f) (wrO σ'.hs (frzW σ.hs (AV.rwsL (cO P E.dt σ Ts.toList xs.toList)++dH σ.hs (AV.nmsL (cO P E.dt σ Ts.toList xs.toList++caps))))) v=pkA P (E.raw f) (wrO σ.hs (frzW σ.hs (AV.rwsL (cO P E.dt σ Ts.toList xs.toList)++dH σ.hs (AV.nmsL (cO P E.dt σ Ts.toList xs.toList++caps))))) v:=NV fun l hl=>hagr l (bf _ (bf _ (NU hv hl)));show Ce P _ (pkA P _ _ v)=Ce P _ (pkA P _ _ v);rw[this]
             rw[e5];exact h4
        ·exact abA hcall ho (fun v hv=>⟨(hcap v hv).1,(hcap v hv).2.2⟩) rfl (ay _) (fun l hl=>qW (j6 _ _ hl)) (fun σ' rd ag _ K w0 a w rr _=>main _ (fun l hl=>hl) σ' rd ag K w0 a w rr) h
 ·cases h
theorem Lj(h:abj v=true):v≠ .dead∧∀us,v≠ .tup us:=by
 constructor;·intro e;subst e;cases h
 ·intro us e;subst e;cases h
theorem anv(ho:o.op= .makeInterface T x)(h:Vu P E n o σ T x k=some r):OpS P n o σ k r:=by unfold Vu at h;have hh_:=aJ h;clear h;obtain⟨hc,h⟩:=hh_;obtain⟨h1,h2⟩:=Lj (aB hc);exact bX h fun σ' ag d hd hn=>ahE ho hd hn (aG hc) (rQ ag (by rw[ho];simp[Op.operands])) h1 h2
theorem atV(hcall:CallOK P call){g:Operand}{name:String}{xs:Array Operand}{Ts:Array TypeId}(ho:o.op= .call ⟨.invoke g name,xs,Ts⟩)(h:ahZ P E call n o σ g name xs.toList Ts.toList k=some r):OpS P n o σ k r:=by
 have hg:g∈o.op.operands.toList:=by rw[ho];simp[Op.operands,Call.operands]
 have hxs:∀z∈xs.toList,z∈o.op.operands.toList:=by intro z hz;rw[ho];simp[Op.operands,Call.operands];right;simpa using hz
 unfold ahZ at h;split at h
 ·rename_i Tv v e1;split at h
  ·rename_i f hm;have hh_:=aJ h;clear h;obtain⟨hc,h⟩:=hh_;have hlen:=beq_eq (aG hc);obtain⟨hv1,hv2⟩:=Lj (aG (aB hc));refine ad2 hcall rfl (ay _) (fun l hl=>qW (j6 _ _ hl)) (fun σ' rd ag _ K w0 a w rr _=>?_) h;obtain⟨β,rb⟩:=rr;have hagr:∀l∈AV.rwsL (v::cO P E.dt σ Ts.toList xs.toList),lk σ'.hs l=lk σ.hs l:=fun l hl=>ag.hs l (bf _ hl);have hfw:=kF hagr;obtain⟨β1,r1⟩:=Imp.frzW (P:=P) (n:=n) (σ:=σ') (AV.rwsL (v::cO P E.dt σ Ts.toList xs.toList)) K w0 a w ⟨β,rb⟩;rw[hfw]at r1;have hrecv:=NR (P:=P) (T:=0) (D:=E.dt) (hs:=wrO σ'.hs (frzW σ.hs (AV.rwsL (v::cO P E.dt σ Ts.toList xs.toList)))) (k0:=σ'.k0) ag hg;rw[e1]at hrecv;obtain⟨z,ez,hz⟩:=am1 (hrecv _ _ _ _ _ _ r1) hv2;have hopds:=(Gz (P:=P) (σ:=St.mk σ'.ts (wrO σ'.hs (frzW σ.hs (AV.rwsL (v::cO P E.dt σ Ts.toList xs.toList)))) σ'.k0) (D:=E.dt) hlen).rvs r1;rw[Cq (σ:=σ) (σ':=St.mk σ'.ts (wrO σ'.hs (frzW σ.hs (AV.rwsL (v::cO P E.dt σ Ts.toList xs.toList)))) σ'.k0) (xs:=o.op.operands.toList) (fun t ht=>ag.ts t ht) hxs]at hopds;have hall:=(RVsX.cons hz hopds).map_pk (b:=E.raw f) r1.frzOK r1.frzAgg;have e3:(v::cO P E.dt σ Ts.toList xs.toList).map (pkA P (E.raw f) (wrO σ'.hs (frzW σ.hs (AV.rwsL (v::cO P E.dt σ Ts.toList xs.toList)))))=(v::cO P E.dt σ Ts.toList xs.toList).map (pkA P (E.raw f) (wrO σ.hs (frzW σ.hs (AV.rwsL (v::cO P E.dt σ Ts.toList xs.toList))))):=
        VP fun l hl=>pQ hagr l hl
   rw[e3]at hall;exact⟨β1,_,r1,fun hb=>aaX (xs:=xs.toList) (by rw[ho]) hb hm a w ez,hall⟩
  ·cases h
 ·cases h
theorem fV(hcall:CallOK P call)(h:evO P E call n o σ k=some r):OpS P n o σ k r:=by
 unfold evO at h;split at h;·rename_i ho;exact aqT ho h
 ·rename_i ho;exact ain ho h
 ·rename_i ho;exact aqU ho h
 ·rename_i ho;exact anh ho h
 ·rename_i ho;exact atH ho h
 ·rename_i ho;exact aiu ho h
 ·rename_i ho;exact agx ho h
 ·rename_i ho;exact aqV ho h
 ·rename_i ho;exact anl ho h
 ·rename_i ho;exact abr ho h
 ·rename_i ho;exact atL ho h
 ·rename_i ho;exact atM ho h
 ·rename_i ho;exact atO ho h
 ·rename_i ho;exact anm ho h
 ·rename_i ho;split at h;·rename_i hTe;exact ant ho hTe h
  ·exact agp ho h
 ·rename_i ho;exact aqX ho h
 ·rename_i ho;exact ano ho h
 ·rename_i ho;exact Yo ho h
 ·rename_i ho;exact anp ho h
 ·rename_i ho;exact atT ho h
 ·rename_i ho;exact Yp ho h
 ·rename_i ho;exact ait ho h
 ·rename_i ho;exact agt ho h
 ·rename_i ho;exact Yr ho h
 ·rename_i ho;exact anq ho h
 ·rename_i ho;exact agq ho h
 ·rename_i ho;exact abt ho h
 ·rename_i ho;exact agr ho h
 ·rename_i ho;exact s_call hcall ho h
 ·rename_i b xs Ts ho;unfold Ti at h;split at h;·rename_i hx hT;exact atP ho hx hT h
  ·rename_i hx hT;rcases anr h with⟨_,h1⟩| ⟨_,h1⟩;·exact agy ho hx hT h1
   ·exact agw ho hx hT h1
  ·rename_i hx hT;exact atQ ho hx hT h
  ·rename_i hx hT;exact atS ho hx hT h
  ·cases h
 ·rename_i ho;exact anv ho h
 ·rename_i ho;exact atV hcall ho h
 ·cases h
end
structure StEq (σ σ':St):Prop where
 ts:∀t,tk σ'.ts t=tk σ.ts t
 hs:∀l,lk σ'.hs l=lk σ.hs l
 k0:σ'.k0=σ.k0
structure AgrG (ops:List Oper) (o:Oper) (σ σ':St) (rd:List Nat):Prop where
 ts:∀t∈Oper.reads ops o,tk σ'.ts t=tk σ.ts t
 hs:∀l∈rd,lk σ'.hs l=lk σ.hs l
 k0:σ'.k0=σ.k0
def StepAgr(P:Program)(n:Nat)(ops:List Oper)(o:Oper)(σ:St)(X:Dl):Prop:=∀σ',AgrG ops o σ σ' X.rd->StepOK P n ops.toArray o σ' (σ'.app o.dst X)
inductive Tr (P:Program) (n:Nat) (ops:List Oper):List Oper->St->List (Oper×Dl)->St->Prop where
 |nil {σ:St}:Tr P n ops [] σ [] σ
 |cons {o:Oper} {r:List Oper} {σ τ:St} {X:Dl} {ds:List (Oper×Dl)} (h:StepAgr P n ops o σ X) (t:Tr P n ops r (σ.app o.dst X) ds τ):Tr P n ops (o::r) σ ((o,X)::ds) τ
 |eq {r:List Oper} {σ σ1 τ:St} {ds:List (Oper×Dl)} (h:StEq σ σ1) (t:Tr P n ops r σ1 ds τ):Tr P n ops r σ ds τ
theorem bQ{A:Type}{b:Bool}{x y:Option A}{r:A}(h:(bif b then x else y)=some r):(b=true∧x=some r)∨(b=false∧y=some r):=by
 cases b with
 |true=>exact .inl ⟨rfl,h⟩
 |false=>exact .inr ⟨rfl,h⟩
section
variable{P:Program}{n:Nat}{o:Oper}{σ τ:St}{R:Type}{E:Env}{call:FuncId->List AV->List Ob->(Res->Option R)->Option R}{r:R}{ops:List Oper}
theorem StEq.put{T:TypeId}{b:Bool}{d:Nat}(h:tk σ.ts d= .dat T (.bool b)):StEq σ (σ.put d (.dat T (.bool b))):=
 ⟨fun t=>by
  show tk (zD σ.ts d _) t=_;rw[vW];split;·rename_i e;rw[e,h]
  ·rfl,fun _=>rfl,rfl⟩
theorem StEq.imp(h:StEq σ τ):Imp P n σ τ:=Rel.congr (fun t=> .inr (h.ts t)) h.hs h.k0
theorem agC{v:AV}{T:TypeId}{b:Bool}(h:aie P v=some (some (T,b))):v= .dat T (.bool b)∧P.underlying T=some .bool:=by
 unfold aie at h;split at h;·cases h
 ·split at h;·rename_i hu;cases h;exact⟨rfl,hu⟩
  ·cases h
 ·cases h
theorem agD{v:AV}(h:aie P v=some none):v= .tup []:=by
 unfold aie at h;split at h;·rfl
 ·split at h<;>cases h
 ·cases h
theorem abB{j d:Nat}(h:gslot ops j=some d):∃oj,ops.toArray[j]? =some oj∧oj.dst=some d:=by
 unfold gslot at h;split at h;·rename_i oj hj;exact⟨oj,by simpa using hj,h⟩
 ·cases h
theorem agE{t:Nat}(h:t∈tmpsOf o.op.operands.toList):t∈Oper.reads ops o:=by unfold Oper.reads;exact List.mem_append_right _ h
theorem YC{j d:Nat}{want:Bool}(hg:o.guard=some (j,want))(h:gslot ops j=some d):d∈Oper.reads ops o:=by unfold Oper.reads;refine bf _ ?_;rw[hg];simp[h]
theorem AgrG.toAgr{σ':St}{rd:List Nat}(h:AgrG ops o σ σ' rd):Agr o σ σ' rd:=⟨fun t ht=>h.ts t (agE ht),h.hs,h.k0⟩
theorem skip_some{k:Dl->Option R}(h:Yj n o k=some r):∃X,k X=some r∧X.rd=[]∧X.wr=[]∧((∃d,o.dst=some d∧d<n∧X.v=some (.tup []))∨(o.dst=none∧X.v=none)):=by
 unfold Yj at h;split at h
 ·rename_i d hd;obtain⟨h1,h2⟩:=aJ h;exact⟨_,h2,rfl,rfl,.inl ⟨d,hd,aL h1,rfl⟩⟩
 ·rename_i hd;exact⟨_,h,rfl,rfl,.inr ⟨hd,rfl⟩⟩
theorem NY{X:Dl}{d:Nat}{v:AV}(σ':St)(hw:X.wr=[])(hd:o.dst=some d)(hv:X.v=some v):σ'.app o.dst X=σ'.put d v:=by unfold St.app;rw[hw,hd,hv];rfl
theorem NZ{X:Dl}(σ':St)(hw:X.wr=[])(hv:X.v=none):σ'.app o.dst X=σ':=by unfold St.app;rw[hw,hv];cases o.dst<;>rfl
theorem Cu(hcall:CallOK P call):∀{l:List Oper}{σ:St}{tr:List (Oper×Dl)}{k:St->List (Oper×Dl)->Option R},xP P E call n ops l σ tr k=some r->∃ds τ,Tr P n ops l σ ds τ∧k τ (ds.reverse++tr)=some r
 | [],σ,tr,k,h=>⟨[],σ,.nil,by simpa [xP]using h⟩
 |o::l,   σ,tr,k,h=>by
  have fin:∀{σ1:St}{X:Dl},StEq σ σ1->StepAgr P n ops o σ1 X->xP P E call n ops l (σ1.app o.dst X) ((o,X)::tr) k=some r->∃ds τ,Tr P n ops (o::l) σ ds τ∧k τ (ds.reverse++tr)=some r:=by intro σ1 X h1 h2 h3;obtain⟨ds,τ,ht,hk⟩:=Cu hcall h3;exact⟨(o,X)::ds,τ,.eq h1 (.cons h2 ht),by simpa using hk⟩
  have refl:StEq σ σ:=⟨fun _=>rfl,fun _=>rfl,rfl⟩;unfold xP at h;split at h
  ·rename_i hg;obtain⟨X,hk,hs⟩:=fV hcall h;exact fin refl (fun σ' ag=> .plain hg (hs σ' ag.toAgr)) hk
  ·rename_i j want hg;split at h
   ·    rename_i d hd;obtain⟨oj,hj,hdj⟩:=abB hd;have hread:=YC hg hd;split at h
        ·rename_i hv;have hv':=agD hv;obtain⟨X,hk,hr,hw,hc⟩:=skip_some h;refine fin refl (fun σ' ag=>?_) hk;have ht:tk σ'.ts d= .tup []:=by rw[ag.ts d hread];exact hv'
         rcases hc with⟨d',e1,e2,e3⟩| ⟨e1,e3⟩
         ·rw[NY σ' hw e1 e3];exact .skipU hg hj hdj ht e1 e2
         ·rw[NZ σ' hw e3];exact .skipU' hg hj hdj ht e1
        ·rename_i T b hv;obtain⟨hv',hu⟩:=agC hv;rcases bQ h with⟨hb,h1⟩| ⟨hb,h1⟩
         ·subst hb;have heq:StEq σ (σ.put d (.dat T (.bool true))):=StEq.put hv';rcases bQ h1 with⟨hw1,h2⟩| ⟨hw1,h2⟩
          ·subst hw1;obtain⟨X,hk,hs⟩:=fV hcall h2;exact fin heq (fun σ' ag=> .run hg hj hdj hu (by rw[ag.ts d hread];show tk (zD _ _ _) d=_;rw[vW];simp) rfl (hs σ' ag.toAgr)) hk
          ·subst hw1;obtain⟨X,hk,hr,hw,hc⟩:=skip_some h2;refine fin heq (fun σ' ag=>?_) hk;have ht:tk σ'.ts d= .dat T (.bool true):=by rw[ag.ts d hread];show tk (zD _ _ _) d=_;rw[vW];simp
           rcases hc with⟨d',e1,e2,e3⟩| ⟨e1,e3⟩
           ·rw[NY σ' hw e1 e3];exact .skip hg hj hdj hu ht rfl e1 e2
           ·rw[NZ σ' hw e3];exact .skip' hg hj hdj hu ht rfl e1
         ·subst hb;have heq:StEq σ (σ.put d (.dat T (.bool false))):=StEq.put hv';rcases bQ h1 with⟨hw1,h2⟩| ⟨hw1,h2⟩
          ·subst hw1;obtain⟨X,hk,hr,hw,hc⟩:=skip_some h2;refine fin heq (fun σ' ag=>?_) hk;have ht:tk σ'.ts d= .dat T (.bool false):=by rw[ag.ts d hread];show tk (zD _ _ _) d=_;rw[vW];simp
           rcases hc with⟨d',e1,e2,e3⟩| ⟨e1,e3⟩
           ·rw[NY σ' hw e1 e3];exact .skip hg hj hdj hu ht rfl e1 e2
           ·rw[NZ σ' hw e3];exact .skip' hg hj hdj hu ht rfl e1
          ·subst hw1;obtain⟨X,hk,hs⟩:=fV hcall h2;exact fin heq (fun σ' ag=> .run hg hj hdj hu (by rw[ag.ts d hread];show tk (zD _ _ _) d=_;rw[vW];simp) rfl (hs σ' ag.toAgr)) hk
        ·cases h
   ·cases h
theorem Tr.lw{l:List Oper}{ds:List (Oper×Dl)}(h:Tr P n ops l σ ds τ):LW P n ops.toArray l σ (fun s=>s=τ):=by
 induction h with
 |nil=>exact LW.nil rfl
 |cons h _ ih=>exact LW.cons (h _ ⟨fun _ _=>rfl,fun _ _=>rfl,rfl⟩) ih
 |eq h _ ih=>exact fun ok0 w0 a w r Q hQ=>ih ok0 w0 a w (h.imp ok0 w0 a w r) Q hQ
def sN{A B:Type}(u:B->A->A)(L:Nat->Bool):Nat->List B->A->A
 |_,[],c=>c
 |i,x::r,c=>sN u L (i+1) r (bif L i then u x c else c)
theorem xS{A B:Type}{u:B->A->A}{L L':Nat->Bool}:∀{r:List B}{i:Nat}{c:A},(∀j x,r[j]? =some x->L (i+j)=L' (i+j)∨∀c,u x c=c)->sN u L i r c=sN u L' i r c
 | [],_,_,_=>rfl
 |x::r,i,c,h=>by
  simp only[sN];have h0:=h 0 x rfl;have hr:∀c,sN u L (i+1) r c=sN u L' (i+1) r c:=fun c=>xS fun j y hy=>by
   have:=h (j+1) y (by simpa using hy)
   rwa [show i+1+j=i+(j+1) by omega]
  rcases h0 with e|e;·rw[Nat.add_zero]at e;rw[e];exact hr _
  ·rw[e];cases L i<;>cases L' i<;>exact hr _
theorem N7{A B:Type}{u:B->A->A}{L:Nat->Bool}:∀{r:List B}{i:Nat}{c:A},(∀j x,r[j]? =some x->L (i+j)=true->∀c,u x c=c)->sN u L i r c=c
 | [],_,_,_=>rfl
 |x::r,i,c,h=>by
  simp only[sN];have h0:=h 0 x rfl;rw[Nat.add_zero]at h0;have:(bif L i then u x c else c)=c:=by
   cases hL:L i with
   |true=>exact h0 hL c
   |false=>rfl
  rw[this];exact N7 fun j y hy hL=>h (j+1) y (by simpa using hy) (by rwa [show i+(j+1)=i+1+j by omega])
theorem Tt{L:Nat->Bool}{i j:Nat}(h:j≠i):upL L i j=L j:=by
 unfold upL;cases hb:Nat.beq j i with
 |true=>exact absurd (beq_eq hb) h
 |false=>rfl
theorem aiA{L:Nat->Bool}{i:Nat}:upL L i i=true:=by simp[upL]
theorem N8{A B:Type}{u:B->A->A}{L:Nat->Bool}:∀{r:List B}{k j:Nat}{x:B}{c:A},r[j]? =some x->L (k+j)=false->((∀c,u x c=c)∨∀j' y,j<j'->r[j']? =some y->L (k+j')=true->∀c,u y c=c)->sN u (upL L (k+j)) k r c=u x (sN u L k r c)
 | [],_,_,_,_,h,_,_=>by simp at h
 |y::r,k,0,x,c,h,hL,hh=>by
  simp only[aW,aD]at h;subst h;simp only[Nat.add_zero]at hL ⊢
  simp only[sN,aiA,cond_true,hL,cond_false];have e1:sN u (upL L k) (k+1) r (u y c)=sN u L (k+1) r (u y c):=xS fun j z hz=> .inl (Tt (by omega));rw[e1];rcases hh with hh|hh;·rw[hh,hh]
  ·rw[N7,N7]
   ·    intro j z hz hLz;exact hh (j+1) z (by omega) (by simpa using hz) (by rwa [show k+(j+1)=k+1+j by omega])
   ·    intro j z hz hLz;exact hh (j+1) z (by omega) (by simpa using hz) (by rwa [show k+(j+1)=k+1+j by omega])
 |y::r,k,j+1,x,c,h,hL,hh=>by simp only[aX]at h;simp only[sN];rw[Tt (by omega),show k+(j+1)=k+1+j by omega];exact N8 h (by rwa [show k+(j+1)=k+1+j by omega]at hL) (hh.imp id fun hh j' z hj hz hLz=>hh (j'+1) z (by omega) (by simpa using hz) (by rwa [show k+(j'+1)=k+1+j' by omega]))
def uT(t:Nat)(p:Oper×Dl)(c:AV):AV:=match p.1.dst,p.2.v with
 |some d,some v=>if t=d then v else c
 |_,_=>c
def uWl(l:Nat):List (Nat×Ob)->Ob->Ob
 | [],c=>c
 |(k,ob)::r,c=>uWl l r (if l=k then ob else c)
def uH(l:Nat)(p:Oper×Dl)(c:Ob):Ob:=uWl l p.2.wr c
def SL(L:Nat->Bool):Nat->List (Oper×Dl)->St->St
 |_,[],σ=>σ
 |i,p::r,σ=>SL L (i+1) r (bif L i then σ.app p.1.dst p.2 else σ)
theorem Cw(t:Nat)(p:Oper×Dl)(σ:St):tk (σ.app p.1.dst p.2).ts t=uT t p (tk σ.ts t):=by
 unfold St.app uT agd;simp only;split
 ·rename_i d v h1 h2;simp only[h1,h2];rw[vW]
 ·rename_i h1;split;·rename_i d v h2 h3;exact absurd h3 (h1 d v h2)
  ·rfl
theorem apw(l:Nat):∀(ws:List (Nat×Ob))(hs:List Ob),lk (wrO hs ws) l=uWl l ws (lk hs l)
 | [],_=>rfl
 |(k,ob)::r,hs=>by simp only[wrO,uWl];rw[apw l r,jM]
theorem Jh(l:Nat)(p:Oper×Dl)(σ:St):lk (σ.app p.1.dst p.2).hs l=uH l p (lk σ.hs l):=apw l _ _
theorem YD(t:Nat)(L:Nat->Bool):∀(r:List (Oper×Dl))(i:Nat)(σ:St),tk (SL L i r σ).ts t=sN (uT t) L i r (tk σ.ts t)
 | [],_,_=>rfl
 |p::r,i,σ=>by
  simp only[SL,sN];rw[YD t L r];cases L i with
  |true=>simp only[cond_true];rw[Cw]
  |false=>rfl
theorem YE(l:Nat)(L:Nat->Bool):∀(r:List (Oper×Dl))(i:Nat)(σ:St),lk (SL L i r σ).hs l=sN (uH l) L i r (lk σ.hs l)
 | [],_,_=>rfl
 |p::r,i,σ=>by
  simp only[SL,sN];rw[YE l L r];cases L i with
  |true=>simp only[cond_true];rw[Jh]
  |false=>rfl
theorem YF(L:Nat->Bool):∀(r:List (Oper×Dl))(i:Nat)(σ:St),(SL L i r σ).k0=σ.k0
 | [],_,_=>rfl
 |p::r,i,σ=>by simp only[SL];rw[YF L r];cases L i<;>rfl
theorem aiB{t:Nat}{p:Oper×Dl}(h:t∉p.1.dst.toList)(c:AV):uT t p c=c:=by
 unfold uT;split
 ·rename_i d v h1 h2;rw[if_neg];intro e;subst e
  rw[h1]at h;simp at h
 ·rfl
theorem VQ{l:Nat}:∀{ws:List (Nat×Ob)},l∉ws.map (·.1)->∀c,uWl l ws c=c
 | [],_,_=>rfl
 |(k,ob)::r,h,c=>by simp only[List.map_cons,List.mem_cons,not_or]at h;simp only[uWl];rw[if_neg h.1];exact VQ h.2 c
theorem zK{a b:List Nat}(h:agi a b=true){x:Nat}(hx:x∈a):x∉b:=by unfold agi at h;have:=List.all_eq_true.1 h x hx;exact BP (by simpa using this)
def aq1(ops:List Oper)(all:List (Oper×Dl)):Prop:=∀i j p q,i<j->all[i]? =some p->all[j]? =some q->(∀L:Nat->Bool,Closed ops.toArray L->DepsL L q.1.after.toList->L i=true)∨indep ops p q=true
def aiC(ops:List Oper)(ancs:List Nat):Prop:=∀(j m:Nat),ancs[j]? =some m->∃oj:Oper,ops[j]? =some oj∧∀i:Nat,m.testBit i=true->∀L:Nat->Bool,Closed ops.toArray L->DepsL L oj.after.toList->L i=true
theorem xU{ancs:List Nat}(ha:aiC ops ancs):∀{es:List Edge}{i:Nat},(Gx ancs es).testBit i=true->∀L:Nat->Bool,Closed ops.toArray L->DepsL L es->L i=true
 | [],i,h,L,_,_=>by simp[Gx]at h
 |e::r,i,h,L,hc,hd=>by
  unfold Gx at h;cases hb:Region.binds .any e with
  |false=>
   rw[hb]at h;exact xU ha (by simpa using h) L hc hd.2
  |true=>
   rw[hb]at h;have hLe:=hd.1 hb;have h':Nat.testBit ((2^e.on|||ancs.getD e.on 0)|||Gx ancs r) i=true:=h;rw[Nat.testBit_or,Nat.testBit_or,Bool.or_eq_true,Bool.or_eq_true]at h';rcases h' with (h1|h1)|h1
   ·    rw[Nat.testBit_two_pow]at h1;have:e.on=i:=by simpa using h1
        subst this;exact hLe
   ·    cases hg:ancs[e.on]? with
        |none=>simp[List.getD,hg]at h1
        |some m=>
         obtain⟨oj,h2,h3⟩:=ha e.on m hg;have h4:m.testBit i=true:=by simpa [List.getD,hg]using h1
         exact h3 i h4 L hc (hc e.on oj (by simpa using h2) hLe)
   ·exact xU ha h1 L hc hd.2
theorem Tw{q:Oper×Dl}{m:Nat}:∀{pre:List (Oper×Dl)}{k:Nat},Yi ops q m k pre=true->∀i p,pre[i]? =some p->m.testBit (k+i)=true∨indep ops p q=true
 | [],_,_,i,p,h=>by simp at h
 |x::r,k,h,0,p,hp=>by simp only[aW,aD]at hp;subst hp;simp only[Yi]at h;have:=aG h;rw[Bool.or_eq_true]at this;exact this
 |x::r,k,h,i+1,p,hp=>by
  simp only[aX]at hp;simp only[Yi]at h;have:=Tw (aB h) i p hp
  rwa [show k+1+i=k+(i+1) by omega]at this
theorem GD:∀{rest pre:List (Oper×Dl)}{ancs:List Nat},Jc ops pre ancs rest=true->aiC ops ancs->ancs.length=pre.length->(pre++rest).map (·.1)=ops->∀i j p q,i<j->pre.length<=j->(pre++rest)[i]? =some p->(pre++rest)[j]? =some q->(∀L:Nat->Bool,Closed ops.toArray L->DepsL L q.1.after.toList->L i=true)∨indep ops p q=true
 | [],pre,ancs,_,_,_,_,i,j,p,q,_,hj,_,hq=>by rw[List.append_nil]at hq;rw[List.getElem?_eq_none hj]at hq;cases hq
 | x::rest,pre,ancs,h,ha,hl,hm,i,j,p,q,hij,hj,hp,hq=>by
   simp only[Jc]at h;by_cases hje:j=pre.length
   ·subst hje;rw[List.getElem?_append_right (ay _),Nat.sub_self]at hq;simp only[aW,aD]at hq;subst hq;rw[List.getElem?_append_left hij]at hp;rcases Tw (aG h) i p hp with h1|h1
    ·   rw[Nat.zero_add]at h1;exact .inl fun L hc hd=>xU ha h1 L hc hd
    ·exact .inr h1
   ·have hx:ops[pre.length]? =some x.1:=by rw[←hm,List.getElem?_map,List.getElem?_append_right (ay _),Nat.sub_self];rfl
    have ha':aiC ops (ancs++[Gx ancs x.1.after.toList]):=by
        intro k m hk;by_cases hkl:k<ancs.length
        ·rw[List.getElem?_append_left hkl]at hk;exact ha k m hk
        ·rw[List.getElem?_append_right (by omega)]at hk;have hk0:k=pre.length:=by have:=(aA.1 hk).1;simp at this;omega
         subst hk0;rw[show pre.length-ancs.length=0 by omega]at hk;simp only[aW,aD]at hk;subst hk;exact⟨x.1,hx,fun i hi L hc hd=>xU ha hi L hc hd⟩
    have e:pre++x::rest=(pre++[x])++rest:=by simp
    rw[e]at hp hq hm;exact GD (aB h) ha' (by simp[hl]) hm i j p q hij (by simp;omega) hp hq
theorem Tr.len{l:List Oper}{ds:List (Oper×Dl)}(h:Tr P n ops l σ ds τ):ds.map (·.1)=l:=by
 induction h with
 |nil=>rfl
 |cons _ _ ih=>simp[ih]
 |eq _ _ ih=>exact ih
theorem Tr.fin{l:List Oper}{ds:List (Oper×Dl)}(h:Tr P n ops l σ ds τ)(L:Nat->Bool):∀k,(∀j,j<ds.length->L (k+j)=true)->∀σ0,StEq σ0 σ->StEq (SL L k ds σ0) τ:=by
 induction h with
 |nil=>intro k _ σ0 h0;exact h0
 | @cons o r σ τ X ds _ _ ih=>
   intro k hL σ0 h0;simp only[SL];have:=hL 0 (by simp);rw[Nat.add_zero]at this;rw[this,cond_true];refine ih (k+1) (fun j hj=>by have:=hL (j+1) (by simp;omega);rwa [show k+1+j=k+(j+1) by omega]) _ ?_;exact⟨fun t=>by rw[Cw t (o,X),Cw t (o,X),h0.ts],fun l=>by rw[Jh l (o,X),Jh l (o,X),h0.hs],h0.k0⟩
 | eq h _ ih=>
   intro k hL σ0 h0;exact ih k hL σ0 ⟨fun t=>(h.ts t).trans (h0.ts t),fun l=>(h.hs l).trans (h0.hs l),h.k0.trans h0.k0⟩
theorem Tr.step{l:List Oper}{ds:List (Oper×Dl)}(h:Tr P n ops l σ ds τ):∀(k j:Nat)(p:Oper×Dl)(σ0:St),StEq σ0 σ->ds[j]? =some p->∃σ1,StepAgr P n ops p.1 σ1 p.2∧StEq (SL (fun i=>decide (i<k+j)) k ds σ0) σ1:=by
 induction h with
 |nil=>intro k j p σ0 _ hp;simp at hp
 | @cons o r σ τ X ds hs _ ih=>
   intro k j p σ0 h0 hp;cases j with
   |zero=>
    simp only[aW,aD]at hp;subst hp;refine⟨σ,hs,?_⟩;have hno:∀(r:List (Oper×Dl))(i:Nat)(s:St),k<=i->SL (fun i=>decide (i<k+0)) i r s=s:=by
        intro r;induction r with
        |nil=>intro i s _;rfl
        |cons p r ih=>intro i s hi;simp only[SL];rw[show decide (i<k+0)=false by simp;omega];exact ih (i+1) s (by omega)
    rw[hno _ k σ0 (ay _)];exact h0
   |succ j=>
    simp only[aX]at hp;simp only[SL];rw[show decide (k<k+(j+1))=true by simp,cond_true,show k+(j+1)=k+1+j by omega];exact ih (k+1) j p _ ⟨fun t=>by rw[Cw t (o,X),Cw t (o,X),h0.ts],fun l=>by rw[Jh l (o,X),Jh l (o,X),h0.hs],h0.k0⟩ hp
 | eq h _ ih=>
   intro k j p σ0 h0 hp;exact ih k j p σ0 ⟨fun t=>(h.ts t).trans (h0.ts t),fun l=>(h.hs l).trans (h0.hs l),h.k0.trans h0.k0⟩ hp
theorem Tz{ds:List (Oper×Dl)}(hm:ds.map (·.1)=ops)(S:(Nat->Bool)->St):∀(l:List Oper)(k:Nat),ops.drop k=l->
  (∀i p,k<=i->ds[i]? =some p->∀L:Nat->Bool,L i=false->DepsL L p.1.after.toList->Closed ops.toArray L->∃σ',StepOK P n ops.toArray p.1 (S L) σ'∧Imp P n σ' (S (upL L i)))->DrawL P n ops.toArray S k l
 | [],_,_,_=> .nil
 |o::l,k,hd,h=>by
  have hk:k<ops.length:=by
   rcases Nat.lt_or_ge k ops.length with h1|h1;·exact h1
   ·rw[List.drop_eq_nil_of_le h1]at hd;cases hd
  rw[aH hk]at hd;obtain⟨e1,e2⟩:=List.cons.inj hd;have hkd:k<ds.length:=by rw[←List.length_map (f:=(·.1)),hm];exact hk
  have hp:ds[k]? =some ds[k]:=au hkd;have ho:ds[k].1=o:=by
   rw[←e1];have:(ds.map (·.1))[k]? =ops[k]? :=by rw[hm]
   rw[List.getElem?_map,hp,au hk]at this;simpa using this
  refine .cons (fun L h1 h2 h3=>?_) (Tz hm S l (k+1) e2 fun i p hi=>h i p (by omega));have:=h k ds[k] (ay _) hp L h1 (by rw[ho];exact h2) h3;rw[ho]at this;exact this
theorem N9(hmix:P.follows .mixedOrders=true){id:Nat}{ds:List (Oper×Dl)}{Z:Exit->St->Prop}(h:Tr P n ops ops σ ds τ)(hb:uX 0 ops=true)(hg:Jc ops [] [] ds=true)(hp:∀τ',StEq τ τ'->Z .normal τ'):CW P n (.region id ops.toArray true) σ Z:=by
 have hm:=h.len;have hpairs:aq1 ops ds:=fun i j p q hij h1 h2=>GD (pre:=[]) hg (fun j m hj=>by simp at hj) rfl (by simpa using hm) i j p q hij (aC _) (by simpa using h1) (by simpa using h2);have hlen:ds.length=ops.length:=by rw[←hm];simp
 have refl:StEq σ σ:=⟨fun _=>rfl,fun _=>rfl,rfl⟩;refine CW.draw (fun L=>SL L 0 ds σ) hmix hb ?_ ?_ ?_
 ·have:∀(r:List (Oper×Dl))(i:Nat)(s:St),SL (fun _=>false) i r s=s:=by
   intro r;induction r with
   |nil=>intro i s;rfl
   |cons p r ih=>intro i s;simp only[SL,cond_false];exact ih (i+1) s
  rw[this];exact Imp.refl
 ·refine Tz hm _ ops 0 (by simp) fun i p _ hpi L hLi hdep hcl=>?_;obtain⟨σ1,hstep,heq⟩:=h.step 0 i p σ refl hpi;rw[Nat.zero_add]at heq;have hmem:∀j q,ds[j]? =some q->L j=true->DepsL L q.1.after.toList:=fun j q hq hLj=>by
   have:ops[j]? =some q.1:=by rw[←hm,List.getElem?_map,hq];rfl
   exact hcl j q.1 (by simpa using this) hLj
  have hdiff:∀j q,ds[j]? =some q->L j≠decide (j<i)->(j<i∧indep ops q p=true)∨(i<j∧indep ops p q=true):=by
   intro j q hq hne;rcases Nat.lt_trichotomy j i with hlt|heq2|hgt
   ·    left;refine⟨hlt,?_⟩;rcases hpairs j i q p hlt hq hpi with h1|h1
        ·exfalso;rw[h1 L hcl hdep]at hne;simp[hlt]at hne
        ·exact h1
   ·    subst heq2;rw[hLi]at hne;simp at hne
   ·    right;refine⟨hgt,?_⟩;have hLj:L j=true:=by
         cases hL:L j with
         |true=>rfl
         |false=>rw[hL]at hne;simp at hne;omega
        rcases hpairs i j p q hgt hpi hq with h1|h1
        ·exfalso;rw[h1 L hcl (hmem j q hq hLj)]at hLi;cases hLi
        ·exact h1
  have hagr:AgrG ops p.1 σ1 (SL L 0 ds σ) p.2.rd:=by
   refine⟨fun t ht=>?_,fun l hl=>?_,?_⟩
   ·    rw[heq.ts t,YD,YD];refine xS fun j q hq=>?_;rw[Nat.zero_add];by_cases hne:L j=decide (j<i);·exact .inl hne
        ·right;refine fun c=>aiB (fun htq=>?_) c;rcases hdiff j q hq hne with⟨_,h1⟩| ⟨_,h1⟩;·exact zK (aG h1) htq (List.mem_append_right _ ht)
         ·exact zK (aG (aB h1)) htq ht
   ·    rw[heq.hs l,YE,YE];refine xS fun j q hq=>?_;rw[Nat.zero_add];by_cases hne:L j=decide (j<i);·exact .inl hne
        ·right;refine fun c=>VQ (fun htq=>?_) c;rcases hdiff j q hq hne with⟨_,h1⟩| ⟨_,h1⟩;·exact zK (aG (aB (aB h1))) htq (bf _ hl)
         ·exact zK (aB (aB (aB h1))) htq hl
   ·rw[heq.k0,YF,YF]
  refine⟨_,hstep _ hagr,?_⟩;have hlater:∀j q,i<j->ds[j]? =some q->L j=true->indep ops p q=true:=by
   intro j q hij hq hLj;rcases hpairs i j p q hij hpi hq with h1|h1
   ·    exfalso;rw[h1 L hcl (hmem j q hq hLj)]at hLi;cases hLi
   ·exact h1
  refine StEq.imp ⟨fun t=>?_,fun l=>?_,?_⟩
  ·rw[   Cw t p,YD,YD];have:=N8 (u:=uT t) (L:=L) (k:=0) (c:=tk σ.ts t) hpi (by rw[Nat.zero_add];exact hLi) (by
        by_cases ht:t∈p.1.dst.toList
        ·right;intro j q hij hq hLj c;rw[Nat.zero_add]at hLj;refine aiB (fun htq=>?_) c;exact zK (aG (hlater j q hij hq hLj)) ht (bf _ htq)
        ·exact .inl fun c=>aiB ht c)
   rwa [Nat.zero_add]at this
  ·rw[   Jh l p,YE,YE];have:=N8 (u:=uH l) (L:=L) (k:=0) (c:=lk σ.hs l) hpi (by rw[Nat.zero_add];exact hLi) (by
        by_cases ht:l∈p.2.wr.map (·.1)
        ·right;intro j q hij hq hLj c;rw[Nat.zero_add]at hLj;refine VQ (fun htq=>?_) c;exact zK (aG (aB (aB (hlater j q hij hq hLj)))) ht (List.mem_append_right _ htq)
        ·exact .inl fun c=>VQ ht c)
   rwa [Nat.zero_add]at this
  ·rw[YF,aqS,YF]
 ·intro L hL;have:=h.fin L 0 (fun j hj=>by rw[Nat.zero_add];exact hL j (by omega)) σ refl;exact hp _ ⟨fun t=>(this.ts t).symm,fun l=>(this.hs l).symm,this.k0.symm⟩
