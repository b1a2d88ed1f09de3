/- Contracts of the library's functions: strings.Compare and unicode/utf8.ValidString.
A value's parts and a list's elements,in memory.
expr.shift:a string with some of its bytes moved;the walk.
A function that a batch leaves out:its branching contract never answers.
expr.ofTexts at the operator that joins strings:the walk. -/
import Derived.Test.YtjibjkdalajaiaaGreatDoorA4
import Derived.Test.YtjibjkdalajaiaaGreatDoorShelf
import Derived.Shelf.Small.Strs
import Derived.Shelf.Unicode.ValidAny
import Derived.Test.YtjibjkdalajaiaaGreatDoorProg
import Derived.KernelRfl
import Derived.WalkKit
import Derived.Deep.LoopGhost
import Derived.Deep.Cut
import Derived.Lib.ConvBytes
import Derived.Laws.BytesString
import Derived.Shelf.Strings.Builder1
import Derived.Lib.AppendStr
set_option linter.all false
namespace Go.Proofs.YtjibjkdalajaiaaGreatDoor
open Go.Am Go.RowKit Go.Shelf
theorem Nb{P:Program}{f:FuncId}{args:List AV}{res:AV}(h:∀(ok:Nat->Prop)(w:World)(β:Nat->Option Value)(vs:List Value),(∀b,ok b->b<w.heap.size)->RVsX P ok w β args vs->TabOK ok w->
  Calls P f vs.toArray w fun e w'=>∃v,e= .returned v∧Below w.heap.size w w'∧RV P (fun b=>b<w'.heap.size∧(b<w.heap.size->ok b)) w' β res v):FX P f args [] res []:=by
 intro ok w β vs hok hobs hsep hvs htab;have no:∀(β:Nat->Option Value) l b,¬owns [] β l b:=fun β l b h=>by obtain⟨h1,_⟩:=h;cases l<;>cases h1
 refine(h ok w β vs (fun b hb=>(hok b hb).1) hvs htab).mono ?_;rintro e w' ⟨v,rfl,hb,hr⟩;refine⟨v,β,rfl,⟨⟨hb.os,hb.tape,hb.output,hb.size,fun b h1 _=>hb.block b h1⟩,fun l=>?_,fun l l' b h1=>(no _ _ _ h1).elim,fun l b h1=>(no _ _ _ h1).elim,fun l _=>rfl⟩,hr.mono (fun b h1=>⟨⟨h1.1,fun h2=> .inl (h1.2 h2),fun l=>no _ _ _⟩,rfl⟩) (Ext.refl _)⟩;have:=hobs l;exact(show β l=none from this)
theorem avd{P:Program}{ok:Nat->Prop}{w:World}{β:Nat->Option Value}{a:AV}{vs:List Value}(h:RVsX P ok w β [a] vs):∃z,vs=[z]∧RV P ok w β a z:=by
 cases h with
 |cons h r=>cases r;exact⟨_,rfl,h⟩
theorem asl{P:Program}{ok:Nat->Prop}{w:World}{β:Nat->Option Value}{a b:AV}{vs:List Value}(h:RVsX P ok w β [a,b] vs):∃z u,vs=[z,u]∧RV P ok w β a z∧RV P ok w β b u:=by
 cases h with
 |cons h r=>obtain⟨u,rfl,hu⟩:=avd r;exact⟨_,_,rfl,h,hu⟩
def strings_Compare(a b:ByteArray):Option Int:=some (Lib.compareBytes a.data.toList b.data.toList)
theorem an9(a b:List UInt8): -1<=Lib.compareBytes a b∧Lib.compareBytes a b<=1:=by
 induction a generalizing b with
 |nil=>cases b<;>simp[Lib.compareBytes]
 |cons x a ih=>
  cases b with
  |nil=>simp[Lib.compareBytes]
  |cons y b=>
   simp only[Lib.compareBytes];split;·omega
   ·    split;·omega
        ·exact ih b
theorem ac8{a b:ByteArray}{r:Int}(h:strings_Compare a b=some r):FX Tryz.prog 79 [.dat 9 (.str a),.dat 9 (.str b)] [] (.dat 3 (.int r)) []:=by cases h;refine Nb fun ok w β vs hok hvs _=>?_;obtain⟨z0,z1,rfl,hz0,hz1⟩:=asl hvs;obtain⟨_,rfl,_⟩:=RV.str Tryz.underlying9 hz0;obtain⟨_,rfl,_⟩:=RV.str Tryz.underlying9 hz1;refine(Any.strings_Compare Tryz.lays106 a b w).mono ?_;rintro e w' ⟨rfl,rfl⟩;have hb:=an9 a.data.toList b.data.toList;refine⟨_,rfl,Below.refl _ _,RV.mk_int Tryz.underlying3 ?_ ?_⟩<;>simp[IntKind.min,IntKind.max,IntKind.signed,IntKind.bits]<;>omega
def utf8_ValidString(s:ByteArray):Option Bool:=some (Lib.validD s.data.toList)
theorem Pf{ok:Nat->Prop}{w:World}(h:TabOK ok w){g:Nat}{cs:List Value}(hm:NK tabs g=some cs){j:Nat}{v:Value}(hv:cs[j]? =some v):w.cell? ⟨g,j,none⟩=some v:=by obtain⟨_,T,fr,hb⟩:=h.1 _ (Jd hm);have hb:w.heap[g]? =some (.cells cs.toArray T fr):=hb;simp only[World.cell?,hb];simpa using hv
def alz:List Value:=(List.range 256).map fun c=>Value.int .u8 (Lib.firstT c)
def aoa:List Value:=(List.range 16).flatMap fun i=>[Value.int .u8 (Lib.accLo i),Value.int .u8 (Lib.accHi i)]
set_option maxRecDepth 100000 in
theorem aha:NK tabs 1=some alz:=by kernel_rfl
set_option maxRecDepth 100000 in
theorem Pg:NK tabs 2=some aoa:=by kernel_rfl
theorem ahb{ok:Nat->Prop}{w:World}(h:TabOK ok w):Lib.Utf8Tabs 1 2 w:=by
 refine⟨fun c hc=>Pf h aha ?_,fun i hi=>⟨Pf h Pg ?_,Pf h Pg ?_⟩⟩;·simp[alz,hc]
 ·match i,hi with
  |0,_=>rfl|1,_=>rfl|2,_=>rfl|3,_=>rfl|4,_=>rfl|5,_=>rfl|6,_=>rfl|7,_=>rfl|8,_=>rfl|9,_=>rfl|10,_=>rfl|11,_=>rfl|12,_=>rfl|13,_=>rfl|14,_=>rfl|15,_=>rfl|n+16,h=>omega
 ·match i,hi with
  |0,_=>rfl|1,_=>rfl|2,_=>rfl|3,_=>rfl|4,_=>rfl|5,_=>rfl|6,_=>rfl|7,_=>rfl|8,_=>rfl|9,_=>rfl|10,_=>rfl|11,_=>rfl|12,_=>rfl|13,_=>rfl|14,_=>rfl|15,_=>rfl|n+16,h=>omega
theorem Ph{s:ByteArray}{r:Bool}(h:utf8_ValidString s=some r):FX Tryz.prog 148 [.dat 9 (.str s)] [] (.dat 4 (.bool r)) []:=by cases h;refine Nb fun ok w β vs hok hvs htab=>?_;obtain⟨z0,rfl,hz0⟩:=avd hvs;obtain⟨_,rfl,hs⟩:=RV.str Tryz.underlying9 hz0;refine(Any.utf8_ValidString Tryz.lays196 s w (Nat.le_trans hs (by unfold maxLen;omega)) (ahb htab)).mono ?_;rintro e w' ⟨rfl,hb⟩;exact⟨_,rfl,hb,RV.mk_bool Tryz.underlying4⟩
end Go.Proofs.YtjibjkdalajaiaaGreatDoor
namespace Go.Am
open Go.RowKit
structure VTy (P:Program) (V F L D I S:TypeId) (fv ff:Array Field):Prop where
 v:P.underlying V=some (.struct fv)
 f:P.underlying F=some (.struct ff)
 l:P.underlying L=some (.slice V)
 d:P.underlying D=some (.slice F)
 i:P.underlying I=some (.int .i64)
 s:P.underlying S=some .string
 mv:fv.toList.map (fun x=>(x.type,x.offset))=[(I,0),(I,1),(S,2),(L,3),(D,4)]
 mf:ff.toList.map (fun x=>(x.type,x.offset))=[(S,0),(V,1)]
 cv:P.cellsOf V=5
 cf:P.cellsOf F=6
 cl:P.cellsOf L=1
 cd:P.cellsOf D=1
 ci:P.cellsOf I=1
 cs:P.cellsOf S=1
section
variable{P:Program}{w:World}{ok:Nat->Prop}{T E:TypeId}{es:List Dt}{z:Value}
theorem alA{w:World}{ad:Addr}{v:Value}(h:w.cell? ad=some v):ad=⟨ad.block,ad.off,none⟩:=by
 obtain⟨b,o,sp⟩:=ad;cases sp with
 |none=>rfl
 |some k=>
  simp only[World.cell?]at h;split at h<;>simp at h
theorem RD.elems(hu:P.underlying T=some (.slice E))(hc:0<P.cellsOf E)(h:RD P ok w T (.lst es) [z]):∃(a:Option Addr)(cap b o:Nat),z= .slice a es.length cap∧es.length<=cap∧cap<=maxLen∧(0<es.length->a=some ⟨b,o,none⟩∧ok b)∧
  ∀(i:Nat)(x:Dt),es[i]? =some x->∃cs:List Value,cs.length=P.cellsOf E∧(∀j v,cs[j]? =some v->w.cell? ⟨b,o+i*P.cellsOf E+j,none⟩=some v)∧RD P ok w E x cs:=by
 obtain⟨_,a,cap,ad,g,hz,hcap,hm,ha,hg,hd⟩:=h.lst_inv hu;simp only[Dt.toLst,List.cons.injEq,and_true]at hz hcap ha hg hd;rcases Nat.eq_zero_or_pos es.length with h0|h0
 ·refine⟨a,cap,0,0,hz,hcap,hm,fun h=>by omega,fun i x hx=>?_⟩;have:=(aA.1 hx).1;omega
 ·obtain⟨ha1,ha2⟩:=ha h0;obtain⟨q1,q2,q3⟩:=hg 0 h0;have hlt:0<(g 0).length:=by omega
  have q4:=q3 0 _ (au hlt);rw[Nat.zero_mul,Nat.zero_add]at q4;have e0:ad.add 0=ad:=by unfold Addr.add;simp
  rw[e0]at q4;have hsp:=alA q4;refine⟨a,cap,ad.block,ad.off,hz,hcap,hm,fun _=>⟨by rw[ha1,←hsp],ha2⟩,fun i x hx=>?_⟩;have hi:=(aA.1 hx).1;obtain⟨r1,r2,r3⟩:=hg i hi;refine⟨g i,r1,fun j v hv=>?_,hd i x hx⟩;have:=r3 j v hv;rw[hsp,oJ,←Nat.add_assoc]at this;exact this
end
section
variable{P:Program}{V F L D I S:TypeId}{fv ff:Array Field}(hT:VTy P V F L D I S fv ff){w:World}{ok:Nat->Prop}{d:Dt}{cs:List Value}
include hT
theorem VTy.fld_v(i:Nat)(T:TypeId)(o:Nat)(h:[(I,0),(I,1),(S,2),(L,3),(D,4)][i]? =some (T,o)):∃f,fv[i]? =some f∧f.type=T∧f.offset=o:=by rw[←hT.mv,List.getElem?_map,Array.getElem?_toList]at h;obtain⟨f,h1,h2⟩:=aY.1 h;exact⟨f,h1,congrArg Prod.fst h2,congrArg Prod.snd h2⟩
theorem VTy.size_v:fv.size=5:=by have:=congrArg List.length hT.mv;simpa using this
theorem RD.i_inv(h:RD P ok w I d cs):∃k,d= .int k∧cs=[.int .i64 k]∧IntKind.i64.min<=k∧k<=IntKind.i64.max:=by obtain⟨e1,e2,h1,h2⟩:=h.int_inv hT.i;exact⟨_,e1,e2,h1,h2⟩
theorem RD.v_inv(h:RD P ok w V d cs):∃(k n:Int)(s:ByteArray)(l fs:List Dt)(c3 c4:Value),d= .agg [.int k,.int n,.str s,.lst l,.lst fs]∧cs=[.int .i64 k,.int .i64 n,.string s,c3,c4]∧
   RD P ok w L (.lst l) [c3]∧RD P ok w D (.lst fs) [c4]∧(IntKind.i64.min<=k∧k<=IntKind.i64.max)∧(IntKind.i64.min<=n∧n<=IntKind.i64.max)∧s.size<=maxLen:=by
 obtain⟨⟨ds,rfl,hl⟩,hc,h1,h⟩:=h.agg_inv hT.v;rw[hT.size_v]at hl;rw[hT.cv]at hc;match ds,hl with
 | [d0,d1,d2,d3,d4],_=>
   match cs,hc with
   | [c0,c1,c2,c3,c4],_=>
     obtain⟨f0,a0,t0,o0⟩:=hT.fld_v 0 I 0 rfl;obtain⟨f1,a1,t1,o1⟩:=hT.fld_v 1 I 1 rfl;obtain⟨f2,a2,t2,o2⟩:=hT.fld_v 2 S 2 rfl;obtain⟨f3,a3,t3,o3⟩:=hT.fld_v 3 L 3 rfl;obtain⟨f4,a4,t4,o4⟩:=hT.fld_v 4 D 4 rfl;have g0:RD P ok w _ d0 _:=h 0 f0 a0;have g1:RD P ok w _ d1 _:=h 1 f1 a1;have g2:RD P ok w _ d2 _:=h 2 f2 a2;have g3:RD P ok w _ d3 _:=h 3 f3 a3;have g4:RD P ok w _ d4 _:=h 4 f4 a4;rw[t0,o0,hT.ci]at g0;rw[t1,o1,hT.ci]at g1;rw[t2,o2,hT.cs]at g2;rw[t3,o3,hT.cl]at g3;rw[t4,o4,hT.cd]at g4;obtain⟨k,rfl,e0,k1,k2⟩:=g0.i_inv hT;obtain⟨n,rfl,e1,n1,n2⟩:=g1.i_inv hT;obtain⟨e2',e2,s1⟩:=g2.str_inv hT.s;obtain⟨e3,_⟩:=g3.lst_inv hT.l;obtain⟨e4,_⟩:=g4.lst_inv hT.d;obtain rfl:c0= .int .i64 k:=by simpa using e0
     obtain rfl:c1= .int .i64 n:=by simpa using e1
     obtain rfl:c2= .string d2.toStr:=by simpa using e2
     refine⟨k,n,d2.toStr,d3.toLst,d4.toLst,c3,c4,by rw[←e2',←e3,←e4],rfl,?_,?_,⟨k1,k2⟩,⟨n1,n2⟩,s1⟩;·rw[←e3];simpa using g3
     ·rw[←e4];simpa using g4
end
end Go.Am
namespace Go.Proofs.YtjibjkdalajaiaaGreatDoor
open Go.RowKit Go.Am
theorem tV:∃fv ff,VTy Tryz.prog 26 44 23 24 3 9 fv ff:=by refine⟨_,_,Tryz.underlying26,Tryz.underlying44,Tryz.underlying23,Tryz.underlying24,Tryz.underlying3,Tryz.underlying9,rfl,rfl,?_,?_,?_,?_,?_,?_⟩<;>kernel_rfl
end Go.Proofs.YtjibjkdalajaiaaGreatDoor
namespace Go.Proofs.YtjibjkdalajaiaaGreatDoor
open Go.RowKit Go.Lib Go.Am
def shI(a b c:Int):Int:=if a<=c∧c<(a+26)%256 then(c-a+b)%256 else c
def shB(a b:Int)(c:UInt8):UInt8:=UInt8.ofNat (shI a b (c.toNat:Int)).toNat
def shS(s:ByteArray)(a b:Int):ByteArray:=⟨(s.data.toList.map (shB a b)).toArray⟩
structure ShI (w wr:World) (s:ByteArray) (a b:Int) (r:Nat):Prop where
 below:Below w.heap.size w wr
 row:∃(cur:Array Value)(f:Nat×Nat),wr.heap[w.heap.size]? =some (.cells cur 5 f)∧s.size<=f.1∧s.size<=cur.size∧(∀j,j<s.size->cur[j]? =some (.int .u8 (if j<r then shI a b ((s.data.toList.getD j 0).toNat:Int)else((s.data.toList.getD j 0).toNat:Int))))
theorem ahc(s:ByteArray):s.data.toList.length=s.size:=Array.length_toList
theorem ShI.start(w:World)(s:ByteArray)(a b:Int):ShI w (bytesWorld w 5 s) s a b 0:=by
 have hsz:s.size<=(bytesCells w 5 s).size:=by rw[bytesCells,Array.size_append,Array.size_map];exact Nat.le_add_right _ _
 refine⟨⟨rfl,rfl,rfl,by rw[bytesWorld_size];omega,fun k hk=>bytesWorld_at_old w _ s k hk⟩,bytesCells w 5 s,_,bytesWorld_at_new w 5 s,hsz,hsz,fun j hj=>?_⟩;have hb:=bytesWorld_cell w 5 s j hj;rw[World.cell?,bytesWorld_at_new]at hb;rw[if_neg (Nat.not_lt_zero _)];exact hb
theorem ShI.here{w wr:World}{s:ByteArray}{a b:Int}{r:Nat}(h:ShI w wr s a b r)(hr:r<s.size):wr.cell? ⟨w.heap.size,r,none⟩=some (.int .u8 ((s.data.toList.getD r 0).toNat:Int))∧wr.frozen? ⟨w.heap.size,r,none⟩=false:=by obtain⟨cur,f,h1,h2,h3,h4⟩:=h.row;have h5:=h4 r hr;rw[if_neg (Nat.lt_irrefl r)]at h5;refine⟨by simpa [World.cell?,h1]using h5,?_⟩;simp only[World.frozen?,h1];simp;omega
theorem ShI.keep{w wr:World}{s:ByteArray}{a b:Int}{r:Nat}(h:ShI w wr s a b r)(hr:r<s.size)(he:shI a b ((s.data.toList.getD r 0).toNat:Int)=((s.data.toList.getD r 0).toNat:Int)):ShI w wr s a b (r+1):=by
 obtain⟨cur,f,h1,h2,h3,h4⟩:=h.row;refine⟨h.below,cur,f,h1,h2,h3,fun j hj=>?_⟩;rw[h4 j hj];by_cases hjr:j=r
 ·subst hjr;rw[if_neg (Nat.lt_irrefl j),if_pos (Nat.lt_succ_self j),he]
 ·by_cases hlt:j<r;·rw[if_pos hlt,if_pos (by omega)]
  ·rw[if_neg hlt,if_neg (by omega)]
theorem ShI.set{w wr:World}{s:ByteArray}{a b:Int}{r:Nat}(h:ShI w wr s a b r)(hr:r<s.size):ShI w (wr.setCell ⟨w.heap.size,r,none⟩ (.int .u8 (shI a b ((s.data.toList.getD r 0).toNat:Int)))) s a b (r+1):=by
 obtain⟨cur,f,h1,h2,h3,h4⟩:=h.row;have ho:∀b',b'≠w.heap.size->(wr.setCell ⟨w.heap.size,r,none⟩ (.int .u8 (shI a b ((s.data.toList.getD r 0).toNat:Int)))).heap[b']? =wr.heap[b']? :=fun b' hb=>Below.heap_setCell _ _ _ _ hb;refine⟨⟨h.below.os,h.below.tape,h.below.output,by rw[World.size_setCell];exact h.below.size,fun b' hb=>(ho b' (by omega)).trans (h.below.block b' hb)⟩,cur.setIfInBounds r (.int .u8 (shI a b ((s.data.toList.getD r 0).toNat:Int))),f,?_,h2,by rw[Array.size_setIfInBounds];exact h3,fun j hj=>?_⟩;·simp[World.setCell,Array.getElem?_modify,h1]
 ·rw[Array.getElem?_setIfInBounds];by_cases hjr:r=j
  ·subst hjr;rw[if_pos rfl,if_pos (by omega),if_pos (Nat.lt_succ_self r)]
  ·rw[if_neg hjr,h4 j hj];by_cases hlt:j<r;·rw[if_pos hlt,if_pos (by omega)]
   ·rw[if_neg hlt,if_neg (by omega)]
theorem ShI.done{w wr:World}{s:ByteArray}{a b:Int}(h:ShI w wr s a b s.size)(c:Nat):(convert 149 9 (.slice (some ⟨w.heap.size,0,none⟩) s.size c)).run Tryz.prog wr= .ok (.string (shS s a b)) wr:=by
 obtain⟨cur,f,h1,h2,h3,h4⟩:=h.row;rw[run_convert_bytes_string wr 149 9 5 _ s.size c Tryz.underlying149 Tryz.underlying5 Tryz.underlying9];have hl:(loadCells ⟨w.heap.size,0,none⟩ s.size).run Tryz.prog wr= .ok ((s.data.toList.map fun c=>shI a b (c.toNat:Int)).map (Value.int .u8)).toArray wr:=by
  have:=run_loadCells_list (P:=Tryz.prog) wr ⟨w.heap.size,0,none⟩ ((s.data.toList.map fun c=>shI a b (c.toNat:Int)).map (Value.int .u8)) (fun j v hj=>by
   rw[List.getElem?_map,List.getElem?_map,Option.map_map]at hj;obtain⟨c,hc,rfl⟩:=aY.1 hj;have hjl:=(aA.1 hc).1;rw[ahc]at hjl;have h5:=h4 j hjl;rw[if_pos hjl]at h5;rw[oJ,Nat.zero_add];simp only[World.cell?,h1];have e:s.data.toList.getD j 0=c:=by rw[List.getD,hc];rfl
   rw[e]at h5;simpa using h5)
  rw[List.length_map,List.length_map,ahc]at this;exact this
 rw[run_bytesToString wr ⟨w.heap.size,0,none⟩ s.size c _ hl,foldl_push_bytes];have e:(ByteArray.empty.data++(List.map (fun n:Int=>UInt8.ofNat n.toNat) (List.map (fun c:UInt8=>shI a b (c.toNat:Int)) s.data.toList)).toArray)=(s.data.toList.map (shB a b)).toArray:=by rw[List.map_map,show ByteArray.empty.data= #[]from rfl,Array.empty_append];rfl
 rw[e];rfl
set_option maxHeartbeats 4000000 in
set_option maxRecDepth 1000000 in
theorem ac9(s:ByteArray)(a b:Int)(w:World)(hs:s.size<=maxLen):
  Calls Tryz.prog 142 #[.string s,.int .u8 a,.int .u8 b] w fun e w'=>e= .returned (.string (shS s a b))∧Below w.heap.size w w':=by
 have hs63:s.size<=9223372036854775807:=by unfold maxLen at hs;omega
 clear hs;have t9:=Tryz.underlying9;have tb:=Tryz.underlying149;have t5:=Tryz.underlying5;have hcv:∀w,(convert 9 149 (.string s)).run Tryz.prog w= .ok (.slice (some ⟨w.heap.size,0,none⟩) s.size (grownCap w s.size 0 5)) (bytesWorld w 5 s):=fun w=>Lib.run_convert_string_bytes w 9 149 5 s t9 tb t5
 go_enter Tryz.func142,Tryz.ntmps142
 go_wp2
 go_loopg [14,8,9] s.size (fun g i t8 t9 wr=>∃r:Nat,r<=s.size∧g=s.size-r∧i= .int .i64 r∧ShI w wr s a b r)
 case atStart=>exact⟨0,aC _,rfl,rfl,ShI.start w s a b⟩
 case round=>
  obtain⟨r,hr,rfl,rfl,hI⟩:=hrel;by_cases hrn:r<s.size
  ·have hrz:(r:Int)<(s.size:Int):=by omega
   obtain⟨hc,hf⟩:=hI.here hrn;have hk:=hI.keep hrn;have hst:=hI.set hrn;generalize ((s.data.toList.getD r 0).toNat:Int)=c at hc hk hst;clear hcv hI;by_cases h1:a<=c
   ·    by_cases h2:c<(a+26)%256
        ·go_wp2
         go_roundg (s.size-(r+1))
         case measure=>omega
         case rel=>
          refine⟨r+1,by omega,rfl,by go_num,?_⟩;have e:shI a b c=(c-a+b)%256:=by unfold shI;rw[if_pos ⟨h1,h2⟩]
          rw[e]at hst;exact hst
        ·go_wp2
         go_roundg (s.size-(r+1))
         case measure=>omega
         case rel=>exact⟨r+1,by omega,rfl,by go_num,hk (by unfold shI;split<;>omega)⟩
   ·    go_wp2
        go_roundg (s.size-(r+1))
        case measure=>omega
        case rel=>exact⟨r+1,by omega,rfl,by go_num,hk (by unfold shI;split<;>omega)⟩
  ·obtain rfl:r=s.size:=by omega
   have hd:=hI.done;have hb:=hI.below;clear hcv hI
   go_wp2
   go_ret
   exact⟨rfl,hb⟩
def rA(s:ByteArray)(a b:Int):Option ByteArray:=some (shS s a b)
theorem Pj(s:ByteArray)(a b:Int):(shS s a b).size=s.size:=by show (List.toArray _).size=_;rw[List.size_toArray,List.length_map,ahc]
theorem Pk{s r:ByteArray}{a b:Int}(h:rA s a b=some r):FX Tryz.prog 142 [.dat 9 (.str s),.dat 5 (.int a),.dat 5 (.int b)] [] (.dat 9 (.str r)) []:=by
 cases h;refine Nb fun ok w β vs hok hvs htab=>?_;cases hvs with
 |cons h1 hvs=>
  obtain⟨z1,z2,rfl,h2,h3⟩:=asl hvs;obtain⟨_,rfl,hs⟩:=RV.str Tryz.underlying9 h1;obtain⟨_,rfl,_,_⟩:=RV.int Tryz.underlying5 h2;obtain⟨_,rfl,_,_⟩:=RV.int Tryz.underlying5 h3;refine(ac9 s a b w hs).mono ?_;rintro e w' ⟨rfl,hb⟩;exact⟨_,rfl,hb,RV.mk_str Tryz.underlying9 (by rw[Pj];exact hs)⟩
end Go.Proofs.YtjibjkdalajaiaaGreatDoor
namespace Go.Proofs.YtjibjkdalajaiaaGreatDoor
open Go Go.Am
noncomputable def ada{R:Type}(_:List AV)(_:List Ob)(_:Res->Option R):Option R:=none
theorem Uu{P:Program}{f:FuncId}{R:Type}{args:List AV}{objs:List Ob}{K:Res->Option R}{r:R}(h:ada args objs K=some r):∃q:Res,K q=some r∧FX P f args objs q.1 q.2∧HasBody P f:=by cases h
end Go.Proofs.YtjibjkdalajaiaaGreatDoor
namespace Go.Proofs.YtjibjkdalajaiaaGreatDoor
open Go.Shelf Go.RowKit Go.Lib Go.Am Dt
def ave:Dt:= .agg [.int 2,.int 0,.str ⟨#[]⟩,.lst [],.lst []]
def Ai(s:ByteArray):Dt:= .agg [.int 4,.int 0,.str s,.lst [],.lst []]
def catB(l:List Dt):List UInt8:=l.flatMap fun d=>(S d 2).data.toList
theorem Uv{l:List Dt}{r:Nat}(h:r<l.length):catB (l.take (r+1))=catB (l.take r)++(S l[r] 2).data.toList:=by rw[catB,List.take_succ_eq_append_getElem h,List.flatMap_append,catB];simp
theorem RU(l:List UInt8)(s:ByteArray):byteCells l++strCells s=byteCells (l++s.data.toList):=by simp[byteCells,strCells]
set_option maxRecDepth 100000 in
theorem alB:(Tryz.prog.info? 155).map (·.size)=some 2:=by kernel_rfl
set_option maxHeartbeats 1000000 in
set_option maxRecDepth 100000 in
theorem adb(b:Nat)(w:World)(h0:w.cell? ⟨b,0,none⟩=some (.pointer (some ⟨b,0,none⟩))):
  Calls Tryz.prog 152 #[.pointer (some ⟨b,0,none⟩)] w fun e w'=>e= .returned (.tuple #[])∧w'=w:=by
 obtain⟨j,hj,hjs⟩:=aY.1 alB;have mixed:Tryz.prog.follows .mixedOrders=true:=by kernel_rfl
 go_enter Tryz.func152,Tryz.ntmps152
 go_wp2
 rw[Lib.run_neq_ptr_same w _ Tryz.underlying153 hj]
 go_wp2
 go_end0
 exact⟨rfl,rfl⟩
set_option maxHeartbeats 1000000 in
set_option maxRecDepth 100000 in
theorem Zy(b:Nat)(w:World)(h0:w.cell? ⟨b,0,none⟩=some (.pointer none))(hsh:w.shape? b=some (155,2))(hfz:w.frozen? ⟨b,0,none⟩=false):
  Calls Tryz.prog 152 #[.pointer (some ⟨b,0,none⟩)] w fun e w'=>e= .returned (.tuple #[])∧w'=w.setCell ⟨b,0,none⟩ (.pointer (some ⟨b,0,none⟩)):=by
 obtain⟨j,hj,hjs⟩:=aY.1 alB;have mixed:Tryz.prog.follows .mixedOrders=true:=by kernel_rfl
 go_enter Tryz.func152,Tryz.ntmps152
 go_wp2
 rw[Lib.run_to_unsafe w ⟨b,0,none⟩ Tryz.underlying153 Tryz.underlying174 hj (by rw[hjs];decide) hsh (Nat.zero_lt_succ 1)];simp only[Result.andThen];rw[Oper.upon_value]
 go_wp2
 rw[run_callFunc_extern Tryz.func161 (by kernel_rfl) (by kernel_rfl) (by kernel_rfl) (e:=Extern.AbiNoEscape.same) (by kernel_rfl)];rw[Lib.run_noEscape];simp only[Result.andThen];rw[Oper.upon_value]
 go_wp2
 rw[Lib.run_from_unsafe w ⟨b,0,none⟩ Tryz.underlying174 Tryz.underlying153 hj hsh (by kernel_rfl)];simp only[Result.andThen];rw[Oper.upon_value]
 go_wp2
 go_end0
 exact⟨rfl,rfl⟩
theorem ade(B b:Nat)(bs:List Value)(w:World)(h:Lib.IsBuilder 155 5 B b bs w):
  Calls Tryz.prog 152 #[.pointer (some ⟨b,0,none⟩)] w fun e w'=>e= .returned (.tuple #[])∧(Lib.BuilderAt 155 5 B b (.pointer (some ⟨b,0,none⟩)) bs w'∧Below B w w'):=by
 rcases h with h|h
 ·refine(Zy b w h.cell0 h.shape h.frozen0).mono ?_;rintro e w' ⟨rfl,rfl⟩;exact⟨rfl,h.used _,(Below.refl B w).setCell (p:=⟨b,0,none⟩) h.1 _⟩
 ·refine(adb b w h.cell0).mono ?_;rintro e w' ⟨rfl,rfl⟩;exact⟨rfl,h,Below.refl B _⟩
set_option maxHeartbeats 2000000 in
set_option maxRecDepth 100000 in
theorem adf(B b:Nat)(bs:List Value)(s:ByteArray)(w:World)(h:Lib.IsBuilder 155 5 B b bs w)(hlen:bs.length+s.size<=140737488355328)(hBw:B<=w.heap.size):
  Calls Tryz.prog 139 #[.pointer (some ⟨b,0,none⟩),.string s] w fun e w'=>e= .returned (.tuple #[.int .i64 s.size,.nilIface])∧(Lib.BuilderAt 155 5 B b (.pointer (some ⟨b,0,none⟩)) (bs++Lib.strCells s) w'∧Below B w w'):=by
 obtain⟨i0,hi,hz0,hz1,hz2⟩:=info_parts (show (Tryz.prog.info? 5).map (fun i=>(i.zero,i.size,i.bytes))=some (some (.int .u8 0),1,1) by kernel_rfl);have mixed:Tryz.prog.follows .mixedOrders=true:=by kernel_rfl
 have e240:∀args w,(callFunc 152 args).run Tryz.prog w= .ok (.enter 152 args) w:=enters_of Tryz.func152 (by kernel_rfl) rfl
 go_enter Tryz.func139,Tryz.ntmps139
 go_wp2_with (go_at_fn 152;refine(ade B b bs _ h).mono ?_)
 rintro e w1 ⟨rfl,h1,hb1⟩;obtain⟨hB,v,hbk,hown,hne⟩:=h1;have c0:w1.cell? ⟨b,0,none⟩=some (.pointer (some ⟨b,0,none⟩)):=by rw[Lib.cell_of_heap hbk];rfl
 have c1:w1.cell? ⟨b,1,none⟩=some v:=by rw[Lib.cell_of_heap hbk];rfl
 go_wp2_with (at_builtin;refine Lib.wpList_append_own_string _ rfl _ _ 149 9 rfl B 5 i0 Tryz.underlying149 Tryz.underlying9 hi hz0 hz1 hz2 _ _ _ rfl hown s rfl ?c3 ?c4 ?c5 ?_)
 case c3=>unfold maxLen;omega
 case c4=>omega
 case c5=>have:=hb1.size;omega
 intro v' w2 hown' hgrow _;have hlt:b<w1.heap.size:=by
  rcases Nat.lt_or_ge b w1.heap.size with h'|h';·exact h'
  ·simp[Array.getElem?_eq_none h']at hbk
 have hb2:w2.heap[b]? =some (.cells #[.pointer (some ⟨b,0,none⟩),v] 155 (0,0)):=by rw[hgrow.block b hlt (fun e=>hne e.symm)];exact hbk
 have d0:w2.cell? ⟨b,0,none⟩=some (.pointer (some ⟨b,0,none⟩)):=by rw[Lib.cell_of_heap hb2];rfl
 have d1:w2.cell? ⟨b,1,none⟩=some v:=by rw[Lib.cell_of_heap hb2];rfl
 have f1:w2.frozen? ⟨b,1,none⟩=false:=Lib.frozen_of_heap hb2 1;obtain⟨ao,n',cap,rfl⟩:∃ao n' cap,v'= .slice ao n' cap:=by
  rcases hown'.2 with⟨hv,_⟩| ⟨g,cap,cur,hv,_⟩;·exact⟨_,_,_,hv⟩
  ·exact⟨_,_,_,hv⟩
 go_wp2
 go_ret2
 refine⟨rfl,?_,?_⟩;·exact Lib.BuilderAt.put (T:=155) (e:=5) hB hb2 (bs':=bs++Lib.strCells s) (by simpa [Lib.strCells_length]using hown') (by decide)
 ·exact(hb1.grown hgrow (by have:=hb1.size;omega) (fun k hk=>(hown.lt k hk).1)).setCell (p:=⟨b,1,none⟩) hB _
def zVc:Array Value:= #[.int .i64 0,.int .i64 0,.string ⟨#[]⟩,.slice none 0 0,.slice none 0 0]
def nVc:Value:= .agg #[.int .i64 2,.int .i64 0,.string ⟨#[]⟩,.slice none 0 0,.slice none 0 0]
def tVc(s:ByteArray):Value:= .agg #[.int .i64 4,.int .i64 0,.string s,.slice none 0 0,.slice none 0 0]
structure CnI (w wr:World) (l:List Dt) (r:Nat):Prop where
 below:Below w.heap.size w wr
 size:w.heap.size+2<=wr.heap.size
 res:wr.heap[w.heap.size]? =some (.cells zVc 26 (0,0))
 bld:Lib.IsBuilder 155 5 (w.heap.size+1) (w.heap.size+1) (byteCells (catB (l.take r))) wr
 all:(l.take r).all (fun d=>I d 0==4)=true
theorem ahd{T e B b:Nat}{bs:List Value}{w w':World}(h:Lib.IsBuilder T e B b bs w)(hk:∀k,B<=k->k<w.heap.size->w'.heap[k]? =w.heap[k]?):Lib.IsBuilder T e B b bs w':=by
 have key:∀p,Lib.BuilderAt T e B b p bs w->Lib.BuilderAt T e B b p bs w':=by
  rintro p ⟨h1,v,h2,h3,h4⟩;refine⟨h1,v,?_,lM h3 fun k hb=>?_,h4⟩;·rw[hk b h1 (Array.getElem?_eq_some_iff.1 h2).1];exact h2
  ·obtain⟨q1,q2⟩:=uN h3 hb;exact hk k q1 q2
 rcases h with h|h;·exact .inl (key _ h)
 ·exact .inr (key _ h)
theorem aob(l:List Dt)(n:Nat):(catB (l.take n)).length<=(catB l).length:=by
 have h:catB l=catB (l.take n)++catB (l.drop n):=by rw[catB,catB,catB,←List.flatMap_append,List.take_append_drop]
 rw[h,aR];omega
theorem CnI.start(w:World)(l:List Dt):CnI w ((w.alloc (.cells zVc 26)).alloc (.cells #[.pointer none,.slice none 0 0] 155)) l 0:=by
 have s1:(w.alloc (.cells zVc 26)).heap.size=w.heap.size+1:=Array.size_push _;have s2:((w.alloc (.cells zVc 26)).alloc (.cells #[.pointer none,.slice none 0 0] 155)).heap.size=w.heap.size+1+1:=by rw[←s1];exact Array.size_push _
 refine⟨((Below.refl _ w).alloc (ay _) _).alloc (by omega) _,by omega,?_,.inl ⟨ay _,.slice none 0 0,?_,World.ownsRow_nil _ _ _ _,by simp[Value.ownBlock]⟩,rfl⟩
 ·show ((w.heap.push _).push _)[w.heap.size]? =_;rw[Array.getElem?_push,if_neg (by simp),Array.getElem?_push,if_pos rfl]
 ·have:=heap_alloc_new (w.alloc (.cells zVc 26)) (.cells #[.pointer none,.slice none 0 0] 155);rw[s1]at this;exact this
theorem CnI.step{w wr w':World}{l:List Dt}{r:Nat}{n':Int}{s':ByteArray}{v3 v4:Value}(hI:CnI w wr l r)(hr:r<l.length)(hk:I l[r] 0=4)(hs:S l[r] 2=s')
  (h1:Lib.BuilderAt 155 5 (w.heap.size+1) (w.heap.size+1) (.pointer (some ⟨w.heap.size+1,0,none⟩)) (byteCells (catB (l.take r))++Lib.strCells s') w')
  (h2:Below (w.heap.size+1) (wr.alloc (.cells #[.int .i64 4,.int .i64 n',.string s',v3,v4] 26)) w'):CnI w w' l (r+1):=by
 have hsz:=hI.size;have s1:(wr.alloc (.cells #[.int .i64 4,.int .i64 n',.string s',v3,v4] 26)).heap.size=wr.heap.size+1:=Array.size_push _;have hz:=h2.size;have ho:∀k,k<w.heap.size+1->w'.heap[k]? =wr.heap[k]? :=fun k hk=>by rw[h2.block k hk];show (wr.heap.push _)[k]? =_;rw[Array.getElem?_push,if_neg (by omega)]
 refine⟨⟨h2.os.trans hI.below.os,h2.tape.trans hI.below.tape,h2.output.trans hI.below.output,by omega,fun k hk=>(ho k (by omega)).trans (hI.below.block k hk)⟩,by omega,(ho _ (by omega)).trans hI.res,.inr ?_,?_⟩
 ·rw[Uv hr,hs,←RU];exact h1
 ·rw[List.take_succ_eq_append_getElem hr,List.all_append,hI.all];simp[hk]
set_option maxHeartbeats 1000000 in
set_option maxRecDepth 1000000 in
theorem ahe(w:World):Calls Tryz.prog 87 #[] w fun e w'=>e= .returned nVc∧Below w.heap.size w w':=by
 have mixed:Tryz.prog.follows .mixedOrders=true:=by kernel_rfl
 go_enter Tryz.func87,Tryz.ntmps87
 go_wp2
 refine bodyPost_ret (v:=nVc) (by simp[results,Tryz.results87,go_sem,nVc]) rfl ⟨rfl,?_⟩;exact((Below.refl _ w).alloc (ay _) _)
set_option maxHeartbeats 4000000 in
set_option maxRecDepth 1000000 in
theorem Zz(l:List Dt)(ok:Nat->Prop)(w:World)(z:Value)(hrd:RD Tryz.prog ok w 23 (.lst l) [z])(hok:∀b,ok b->b<w.heap.size)(hcat:(catB l).length<=137438953472):
  Calls Tryz.prog 114 #[.int .i64 21,z] w fun e w'=>e= .returned (bif l.all (fun d=>I d 0==4)then .agg #[.int .i64 4,.int .i64 0,.string ⟨(catB l).toArray⟩,.slice none 0 0,.slice none 0 0]else .agg #[.int .i64 2,.int .i64 0,.string ⟨#[]⟩,.slice none 0 0,.slice none 0 0])∧Below w.heap.size w w':=by
 obtain⟨fv,ff,hT⟩:=tV;obtain⟨a,cap,b,o,rfl,hcap,hm,ha,hel⟩:=hrd.elems hT.l (by rw[hT.cv];omega);have hl63:l.length<=9223372036854775807:=by unfold maxLen at hm;omega
 rw[hT.cv]at hel;have enull:∀args w,(callFunc 87 args).run Tryz.prog w= .ok (.enter 87 args) w:=enters_of Tryz.func87 (by kernel_rfl) rfl;have ewr:∀args w,(callFunc 139 args).run Tryz.prog w= .ok (.enter 139 args) w:=enters_of Tryz.func139 (by kernel_rfl) rfl;have estr:∀args w,(callFunc 141 args).run Tryz.prog w= .ok (.enter 141 args) w:=enters_of Tryz.func141 (by kernel_rfl) rfl
 go_enter Tryz.func114,Tryz.ntmps114
 go_wp2
 go_loopg [15] l.length (fun g i wr=>∃r:Nat,r<=l.length∧g=l.length-r∧i= .int .i64 r∧CnI w wr l r)
 case atStart=>exact⟨0,aC _,rfl,rfl,CnI.start w l⟩
 case round=>
  obtain⟨r,hr,rfl,rfl,hI⟩:=hrel;have hsz:=hI.size;by_cases hrn:r<l.length
  ·have hrz:(r:Int)<(l.length:Int):=by omega
   obtain⟨rfl,hb3⟩:=ha (by omega);clear ha;obtain⟨cs,hcl,hcell,hrx⟩:=hel r _ (au hrn);obtain⟨k',n',s',l',fs',c3',c4',hx,rfl,hl',hf',_⟩:=hrx.v_inv hT;have hbw:b<w.heap.size:=hok _ hb3;have g0:wr.cell? ⟨b,o+r*5,none⟩=some (.int .i64 k'):=by rw[hI.below.cell (p:=⟨b,o+r*5,none⟩) hbw];exact hcell 0 _ rfl
   have g1:wr.cell? ⟨b,o+r*5+1,none⟩=some (.int .i64 n'):=by rw[hI.below.cell (p:=⟨b,o+r*5+1,none⟩) hbw];exact hcell 1 _ rfl
   have g2:wr.cell? ⟨b,o+r*5+2,none⟩=some (.string s'):=by rw[hI.below.cell (p:=⟨b,o+r*5+2,none⟩) hbw];exact hcell 2 _ rfl
   have g3:wr.cell? ⟨b,o+r*5+3,none⟩=some c3':=by rw[hI.below.cell (p:=⟨b,o+r*5+3,none⟩) hbw];exact hcell 3 _ rfl
   have g4:wr.cell? ⟨b,o+r*5+4,none⟩=some c4':=by rw[hI.below.cell (p:=⟨b,o+r*5+4,none⟩) hbw];exact hcell 4 _ rfl
   obtain⟨x3,y3,z3,_,rfl,_⟩:=hl'.elems hT.l (by rw[hT.cv];omega);obtain⟨x4,y4,z4,_,rfl,_⟩:=hf'.elems hT.d (by rw[hT.cf];omega);have hk0:I l[r] 0=k':=by rw[hx];rfl
   have hs0:S l[r] 2=s':=by rw[hx];rfl
   have hlen:(byteCells (catB (l.take r))).length+s'.size<=140737488355328:=by
        have h1:=aob l (r+1);rw[Uv hrn,hs0,aR]at h1;have h2:(byteCells (catB (l.take r))).length=(catB (l.take r)).length:=by simp[byteCells]
        have h3:s'.data.toList.length=s'.size:=Array.length_toList;omega
   clear hcell hel hrd hok hx hrx hl' hf';by_cases hk:k'=4
   ·    subst hk
        go_wp2_with fail
        have hbl:∀c:Array Value,Lib.IsBuilder 155 5 (w.heap.size+1) (w.heap.size+1) (byteCells (catB (l.take r))) (wr.alloc (.cells c 26)):=fun c=>ahd hI.bld fun k _ hk=>by show (wr.heap.push _)[k]? =_;rw[Array.getElem?_push,if_neg (by omega)]
        refine(adf (w.heap.size+1) (w.heap.size+1) _ s' _ (hbl _) hlen (by show w.heap.size+1<=(wr.heap.push _).size;rw[Array.size_push];omega)).mono ?_;rintro e w' ⟨rfl,h1,h2⟩;have hst:=hI.step hrn hk0 hs0 h1 h2;clear hI hbl h1 h2
        go_wp2
        go_roundg (l.length-(r+1))
        case measure=>omega
        case rel=>exact⟨r+1,by omega,rfl,by go_num,hst⟩
   ·    go_wp2_with fail
        refine(ahe _).mono ?_;rintro e w' ⟨rfl,h1⟩;have s1:(wr.alloc (.cells #[.int .i64 k',.int .i64 n',.string s',.slice x3 l'.length y3,.slice x4 fs'.length y4] 26)).heap.size=wr.heap.size+1:=Array.size_push _;have hz:=h1.size;have ho:∀k,k<w.heap.size+1->w'.heap[k]? =wr.heap[k]? :=fun k hk=>by rw[h1.block k (by omega)];show (wr.heap.push _)[k]? =_;rw[Array.getElem?_push,if_neg (by omega)]
        have hR:=(ho w.heap.size (by omega)).trans hI.res;have hbl:Below w.heap.size w w':=⟨h1.os.trans hI.below.os,h1.tape.trans hI.below.tape,h1.output.trans hI.below.output,by omega,fun k hk=>(ho k (by omega)).trans (hI.below.block k hk)⟩;have hno:(l.all fun d=>I d 0==4)=false:=by rw[Bool.eq_false_iff];intro hall;have:=List.all_eq_true.1 hall l[r] (aI hrn);rw[hk0,beq_iff_eq]at this;exact hk this
        have hf:∀j,w'.frozen? ⟨w.heap.size,j,none⟩=false:=fun j=>by simp[World.frozen?,hR]
        have q0:w'.cell? ⟨w.heap.size,0,none⟩=some (.int .i64 0):=by simp[World.cell?,hR,zVc]
        have q1:w'.cell? ⟨w.heap.size,1,none⟩=some (.int .i64 0):=by simp[World.cell?,hR,zVc]
        have q2:w'.cell? ⟨w.heap.size,2,none⟩=some (.string ⟨#[]⟩):=by simp[World.cell?,hR,zVc]
        have q3:w'.cell? ⟨w.heap.size,3,none⟩=some (.slice none 0 0):=by simp[World.cell?,hR,zVc]
        have q4:w'.cell? ⟨w.heap.size,4,none⟩=some (.slice none 0 0):=by simp[World.cell?,hR,zVc]
        clear hI h1 ho hR s1;unfold nVc
        go_wp2
        refine bodyPost_ret (v:=nVc) (by simp[results,Tryz.results114,go_sem,nVc,q0,q1,q2,q3,q4]) rfl ⟨by rw[hno];rfl,?_⟩;have h5:∀(j:Nat)(v:Value)(W:World),Below w.heap.size w W->Below w.heap.size w (W.setCell ⟨w.heap.size,j,none⟩ v):=fun j v W hW=>hW.setCell (p:=⟨w.heap.size,j,none⟩) (ay _) v;exact h5 _ _ _ (h5 _ _ _ (h5 _ _ _ (h5 _ _ _ (h5 _ _ _ hbl))))
  ·obtain rfl:r=l.length:=by omega
   clear hel ha hrd
   go_wp2_with fail
   refine(Any.Builder_String_any Tryz.lays169 Tryz.Builder_Extra_169 (w.heap.size+1) (w.heap.size+1) (catB l) wr (by have:=hI.bld;rwa [List.take_length]at this) (by omega)).mono ?_;rintro e w' ⟨rfl,h1⟩;have hz:=h1.size;have hR:=(h1.block w.heap.size (by omega)).trans hI.res;have hbl:Below w.heap.size w w':=⟨h1.os.trans hI.below.os,h1.tape.trans hI.below.tape,h1.output.trans hI.below.output,by omega,fun k hk=>(h1.block k (by omega)).trans (hI.below.block k hk)⟩;have hall:=hI.all;rw[List.take_length]at hall;have hf:∀j,w'.frozen? ⟨w.heap.size,j,none⟩=false:=fun j=>by simp[World.frozen?,hR]
   have q0:w'.cell? ⟨w.heap.size,0,none⟩=some (.int .i64 0):=by simp[World.cell?,hR,zVc]
   have q1:w'.cell? ⟨w.heap.size,1,none⟩=some (.int .i64 0):=by simp[World.cell?,hR,zVc]
   have q2:w'.cell? ⟨w.heap.size,2,none⟩=some (.string ⟨#[]⟩):=by simp[World.cell?,hR,zVc]
   have q3:w'.cell? ⟨w.heap.size,3,none⟩=some (.slice none 0 0):=by simp[World.cell?,hR,zVc]
   have q4:w'.cell? ⟨w.heap.size,4,none⟩=some (.slice none 0 0):=by simp[World.cell?,hR,zVc]
   have hne:¬w.heap.size=w'.heap.size:=by omega
   have hne2:¬w'.heap.size=w.heap.size:=by omega
   clear hI h1
   go_wp2
   refine bodyPost_ret (v:=tVc ⟨(catB l).toArray⟩) (by simp[results,Tryz.results140,go_sem,tVc]) rfl ?_;have a1:∀c,(w'.alloc (.cells c 26)).heap[w.heap.size]? =some (.cells zVc 26 (0,0)):=fun c=>by show (w'.heap.push _)[w.heap.size]? =_;rw[Array.getElem?_push,if_neg hne];exact hR
   have a2:∀c,Below w.heap.size w (w'.alloc (.cells c 26)):=fun c=>hbl.alloc (by omega) _;generalize hW:w'.alloc _=W;have hR2:W.heap[w.heap.size]? =some (.cells zVc 26 (0,0)):=by rw[←hW];exact a1 _
   have hbl2:Below w.heap.size w W:=by rw[←hW];exact a2 _
   clear a1 a2 hW q0 q1 q2 q3 q4 hf hR hbl hz;have hf:∀j,W.frozen? ⟨w.heap.size,j,none⟩=false:=fun j=>by simp[World.frozen?,hR2]
   have q0:W.cell? ⟨w.heap.size,0,none⟩=some (.int .i64 0):=by simp[World.cell?,hR2,zVc]
   have q1:W.cell? ⟨w.heap.size,1,none⟩=some (.int .i64 0):=by simp[World.cell?,hR2,zVc]
   have q2:W.cell? ⟨w.heap.size,2,none⟩=some (.string ⟨#[]⟩):=by simp[World.cell?,hR2,zVc]
   have q3:W.cell? ⟨w.heap.size,3,none⟩=some (.slice none 0 0):=by simp[World.cell?,hR2,zVc]
   have q4:W.cell? ⟨w.heap.size,4,none⟩=some (.slice none 0 0):=by simp[World.cell?,hR2,zVc]
   unfold tVc
   go_wp2
   refine bodyPost_ret (v:=tVc ⟨(catB l).toArray⟩) (by simp[results,Tryz.results114,go_sem,tVc,q0,q1,q2,q3,q4]) rfl ⟨by rw[hall];rfl,?_⟩;have h5:∀(j:Nat)(v:Value)(W:World),Below w.heap.size w W->Below w.heap.size w (W.setCell ⟨w.heap.size,j,none⟩ v):=fun j v W hW=>hW.setCell (p:=⟨w.heap.size,j,none⟩) (ay _) v;exact h5 _ _ _ (h5 _ _ _ (h5 _ _ _ (h5 _ _ _ (h5 _ _ _ hbl2))))
