/- Contracts of the library's functions: strings.Compare and unicode/utf8.ValidString. -/
import Derived.Test.YtmecfjhdnbgfeaaGreatDoorA4
import Derived.Test.YtmecfjhdnbgfeaaGreatDoorShelf
import Derived.Shelf.Small.Strs
import Derived.Shelf.Unicode.ValidAny
set_option linter.all false
namespace Go.Proofs.YtmecfjhdnbgfeaaGreatDoor
open Go.Am Go.RowKit Go.Shelf
theorem O6{P:Program}{f:FuncId}{args:List AV}{res:AV}(h:∀(ok:Nat->Prop)(w:World)(Z:Nat->Option Value)(vs:List Value),(∀b,ok b->b<w.heap.size)->RVsX P ok w Z args vs->TabOK ok w->
  Calls P f vs.toArray w fun e w'=>∃v,e= .returned v∧Below w.heap.size w w'∧RV P (fun b=>b<w'.heap.size∧(b<w.heap.size->ok b)) w' Z res v):FX P f args [] res []:=by
 intro ok w Z vs hok hobs hsep hvs htab;have no:∀(Z:Nat->Option Value) l b,¬owns [] Z l b:=fun Z l b h=>by obtain⟨h1,_⟩:=h;cases l<;>cases h1
 refine(h ok w Z vs (fun b hb=>(hok b hb).1) hvs htab).mono ?_;rintro e w' ⟨v,rfl,hb,hr⟩;refine⟨v,Z,rfl,⟨⟨hb.os,hb.tape,hb.output,hb.size,fun b h1 _=>hb.block b h1⟩,fun l=>?_,fun l l' b h1=>(no _ _ _ h1).elim,fun l b h1=>(no _ _ _ h1).elim,fun l _=>rfl⟩,hr.mono (fun b h1=>⟨⟨h1.1,fun h2=> .inl (h1.2 h2),fun l=>no _ _ _⟩,rfl⟩) (Ext.refl _)⟩;have:=hobs l;exact(show Z l=none from this)
theorem arF{P:Program}{ok:Nat->Prop}{w:World}{Z:Nat->Option Value}{a:AV}{vs:List Value}(h:RVsX P ok w Z [a] vs):∃z,vs=[z]∧RV P ok w Z a z:=by
 cases h with
 |cons h r=>cases r;exact⟨_,rfl,h⟩
theorem ava{P:Program}{ok:Nat->Prop}{w:World}{Z:Nat->Option Value}{a b:AV}{vs:List Value}(h:RVsX P ok w Z [a,b] vs):∃z u,vs=[z,u]∧RV P ok w Z a z∧RV P ok w Z b u:=by
 cases h with
 |cons h r=>obtain⟨u,rfl,hu⟩:=arF r;exact⟨_,_,rfl,h,hu⟩
def strings_Compare(a b:ByteArray):Option Int:=some (Lib.compareBytes a.data.toList b.data.toList)
theorem aiN(a b:List UInt8): -1<=Lib.compareBytes a b∧Lib.compareBytes a b<=1:=by
 induction a generalizing b with
 |nil=>cases b<;>simp[Lib.compareBytes]
 |cons x a ih=>
  cases b with
  |nil=>simp[Lib.compareBytes]
  |cons y b=>
   simp only[Lib.compareBytes];split;·omega
   ·    split;·omega
        ·exact ih b
theorem MZ{a b:ByteArray}{r:Int}(h:strings_Compare a b=some r):FX Tryz.prog 87 [.dat 9 (.str a),.dat 9 (.str b)] [] (.dat 3 (.int r)) []:=by cases h;refine O6 fun ok w Z vs hok hvs _=>?_;obtain⟨z0,z1,rfl,hz0,hz1⟩:=ava hvs;obtain⟨_,rfl,_⟩:=RV.str Tryz.underlying9 hz0;obtain⟨_,rfl,_⟩:=RV.str Tryz.underlying9 hz1;refine(Any.strings_Compare Tryz.lays106 a b w).mono ?_;rintro e w' ⟨rfl,rfl⟩;have hb:=aiN a.data.toList b.data.toList;refine⟨_,rfl,Below.refl _ _,RV.mk_int Tryz.underlying3 ?_ ?_⟩<;>simp[IntKind.min,IntKind.max,IntKind.signed,IntKind.bits]<;>omega
def utf8_ValidString(s:ByteArray):Option Bool:=some (Lib.validD s.data.toList)
theorem yY{ok:Nat->Prop}{w:World}(h:TabOK ok w){g:Nat}{cs:List Value}(hm:AB tabs g=some cs){j:Nat}{v:Value}(hv:cs[j]? =some v):w.cell? ⟨g,j,none⟩=some v:=by obtain⟨_,T,fr,hb⟩:=h.1 _ (uK hm);have hb:w.heap[g]? =some (.cells cs.toArray T fr):=hb;simp only[World.cell?,hb];simpa using hv
def Yt:List Value:=(List.range 256).map fun c=>Value.int .u8 (Lib.firstT c)
def aiO:List Value:=(List.range 16).flatMap fun i=>[Value.int .u8 (Lib.accLo i),Value.int .u8 (Lib.accHi i)]
set_option maxRecDepth 100000 in
theorem Sb:AB tabs 1=some Yt:=by kernel_rfl
set_option maxRecDepth 100000 in
theorem yZ:AB tabs 2=some aiO:=by kernel_rfl
theorem Sc{ok:Nat->Prop}{w:World}(h:TabOK ok w):Lib.Utf8Tabs 1 2 w:=by
 refine⟨fun c hc=>yY h Sb ?_,fun i hi=>⟨yY h yZ ?_,yY h yZ ?_⟩⟩;·simp[Yt,hc]
 ·match i,hi with
  |0,_=>rfl|1,_=>rfl|2,_=>rfl|3,_=>rfl|4,_=>rfl|5,_=>rfl|6,_=>rfl|7,_=>rfl|8,_=>rfl|9,_=>rfl|10,_=>rfl|11,_=>rfl|12,_=>rfl|13,_=>rfl|14,_=>rfl|15,_=>rfl|n+16,h=>omega
 ·match i,hi with
  |0,_=>rfl|1,_=>rfl|2,_=>rfl|3,_=>rfl|4,_=>rfl|5,_=>rfl|6,_=>rfl|7,_=>rfl|8,_=>rfl|9,_=>rfl|10,_=>rfl|11,_=>rfl|12,_=>rfl|13,_=>rfl|14,_=>rfl|15,_=>rfl|n+16,h=>omega
theorem y5{s:ByteArray}{r:Bool}(h:utf8_ValidString s=some r):FX Tryz.prog 220 [.dat 9 (.str s)] [] (.dat 4 (.bool r)) []:=by cases h;refine O6 fun ok w Z vs hok hvs htab=>?_;obtain⟨z0,rfl,hz0⟩:=arF hvs;obtain⟨_,rfl,hs⟩:=RV.str Tryz.underlying9 hz0;refine(Any.utf8_ValidString Tryz.lays196 s w (Nat.le_trans hs (by unfold maxLen;omega)) (Sc htab)).mono ?_;rintro e w' ⟨rfl,hb⟩;exact⟨_,rfl,hb,RV.mk_bool Tryz.underlying4⟩
