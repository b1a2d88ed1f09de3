/- Contracts of the library's functions: strings.Compare and unicode/utf8.ValidString. -/
import Derived.Test.YtmecfjhdnbgfeaaGreatDoorA4
import Derived.Test.YtmecfjhdnbgfeaaGreatDoorShelf
import Derived.Shelf.Small.Strs
import Derived.Shelf.Unicode.ValidAny
set_option linter.all false
namespace Go.Proofs.YtmecfjhdnbgfeaaGreatDoor
open Go.Am Go.RowKit Go.Shelf
theorem SI{P:Program}{f:FuncId}{args:List AV}{res:AV}(h:∀(ok:Nat->Prop)(w:World)(β:Nat->Option Value)(vs:List Value),(∀b,ok b->b<w.heap.size)->RVsX P ok w β args vs->TabOK ok w->
  Calls P f vs.toArray w fun e w'=>∃v,e= .returned v∧Below w.heap.size w w'∧RV P (fun b=>b<w'.heap.size∧(b<w.heap.size->ok b)) w' β res v):FX P f args [] res []:=by
 intro ok w β vs hok hobs hsep hvs htab;have no:∀(β:Nat->Option Value) l b,¬owns [] β l b:=fun β l b h=>by obtain⟨h1,_⟩:=h;cases l<;>cases h1
 refine(h ok w β vs (fun b hb=>(hok b hb).1) hvs htab).mono ?_;rintro e w' ⟨v,rfl,hb,hr⟩;refine⟨v,β,rfl,⟨⟨hb.os,hb.tape,hb.output,hb.size,fun b h1 _=>hb.block b h1⟩,fun l=>?_,fun l l' b h1=>(no _ _ _ h1).elim,fun l b h1=>(no _ _ _ h1).elim,fun l _=>rfl⟩,hr.mono (fun b h1=>⟨⟨h1.1,fun h2=> .inl (h1.2 h2),fun l=>no _ _ _⟩,rfl⟩) (Ext.refl _)⟩;have:=hobs l;exact(show β l=none from this)
theorem auQ{P:Program}{ok:Nat->Prop}{w:World}{β:Nat->Option Value}{a:AV}{vs:List Value}(h:RVsX P ok w β [a] vs):∃z,vs=[z]∧RV P ok w β a z:=by
 cases h with
 |cons h r=>cases r;exact⟨_,rfl,h⟩
theorem ayj{P:Program}{ok:Nat->Prop}{w:World}{β:Nat->Option Value}{a b:AV}{vs:List Value}(h:RVsX P ok w β [a,b] vs):∃z u,vs=[z,u]∧RV P ok w β a z∧RV P ok w β b u:=by
 cases h with
 |cons h r=>obtain⟨u,rfl,hu⟩:=auQ r;exact⟨_,_,rfl,h,hu⟩
def strings_Compare(a b:ByteArray):Option Int:=some (Lib.compareBytes a.data.toList b.data.toList)
theorem amB(a b:List UInt8): -1<=Lib.compareBytes a b∧Lib.compareBytes a b<=1:=by
 induction a generalizing b with
 |nil=>cases b<;>simp[Lib.compareBytes]
 |cons x a ih=>
  cases b with
  |nil=>simp[Lib.compareBytes]
  |cons y b=>
   simp only[Lib.compareBytes];split;·omega
   ·    split;·omega
        ·exact ih b
theorem Qn{a b:ByteArray}{r:Int}(h:strings_Compare a b=some r):FX Tryz.prog 87 [.dat 9 (.str a),.dat 9 (.str b)] [] (.dat 3 (.int r)) []:=by cases h;refine SI fun ok w β vs hok hvs _=>?_;obtain⟨z0,z1,rfl,hz0,hz1⟩:=ayj hvs;obtain⟨_,rfl,_⟩:=RV.str Tryz.underlying9 hz0;obtain⟨_,rfl,_⟩:=RV.str Tryz.underlying9 hz1;refine(Any.strings_Compare Tryz.lays106 a b w).mono ?_;rintro e w' ⟨rfl,rfl⟩;have hb:=amB a.data.toList b.data.toList;refine⟨_,rfl,Below.refl _ _,RV.mk_int Tryz.underlying3 ?_ ?_⟩<;>simp[IntKind.min,IntKind.max,IntKind.signed,IntKind.bits]<;>omega
def utf8_ValidString(s:ByteArray):Option Bool:=some (Lib.validD s.data.toList)
theorem Bu{ok:Nat->Prop}{w:World}(h:TabOK ok w){g:Nat}{cs:List Value}(hm:Cu tabs g=some cs){j:Nat}{v:Value}(hv:cs[j]? =some v):w.cell? ⟨g,j,none⟩=some v:=by obtain⟨_,T,fr,hb⟩:=h.1 _ (vV hm);have hb:w.heap[g]? =some (.cells cs.toArray T fr):=hb;simp only[World.cell?,hb];simpa using hv
def abY:List Value:=(List.range 256).map fun c=>Value.int .u8 (Lib.firstT c)
def amC:List Value:=(List.range 16).flatMap fun i=>[Value.int .u8 (Lib.accLo i),Value.int .u8 (Lib.accHi i)]
set_option maxRecDepth 100000 in
theorem WH:Cu tabs 1=some abY:=by kernel_rfl
set_option maxRecDepth 100000 in
theorem Bv:Cu tabs 2=some amC:=by kernel_rfl
theorem WI{ok:Nat->Prop}{w:World}(h:TabOK ok w):Lib.Utf8Tabs 1 2 w:=by
 refine⟨fun c hc=>Bu h WH ?_,fun i hi=>⟨Bu h Bv ?_,Bu h Bv ?_⟩⟩;·simp[abY,hc]
 ·match i,hi with
  |0,_=>rfl|1,_=>rfl|2,_=>rfl|3,_=>rfl|4,_=>rfl|5,_=>rfl|6,_=>rfl|7,_=>rfl|8,_=>rfl|9,_=>rfl|10,_=>rfl|11,_=>rfl|12,_=>rfl|13,_=>rfl|14,_=>rfl|15,_=>rfl|n+16,h=>omega
 ·match i,hi with
  |0,_=>rfl|1,_=>rfl|2,_=>rfl|3,_=>rfl|4,_=>rfl|5,_=>rfl|6,_=>rfl|7,_=>rfl|8,_=>rfl|9,_=>rfl|10,_=>rfl|11,_=>rfl|12,_=>rfl|13,_=>rfl|14,_=>rfl|15,_=>rfl|n+16,h=>omega
theorem Bw{s:ByteArray}{r:Bool}(h:utf8_ValidString s=some r):FX Tryz.prog 220 [.dat 9 (.str s)] [] (.dat 4 (.bool r)) []:=by cases h;refine SI fun ok w β vs hok hvs htab=>?_;obtain⟨z0,rfl,hz0⟩:=auQ hvs;obtain⟨_,rfl,hs⟩:=RV.str Tryz.underlying9 hz0;refine(Any.utf8_ValidString Tryz.lays196 s w (Nat.le_trans hs (by unfold maxLen;omega)) (WI htab)).mono ?_;rintro e w' ⟨rfl,hb⟩;exact⟨_,rfl,hb,RV.mk_bool Tryz.underlying4⟩
