/- Contracts of the library's functions: unicode/utf8.ValidString. -/
import Derived.Test.YtjnkagkoolbodaaGreatDoorAm20
import Derived.Test.YtjnkagkoolbodaaGreatDoorShelf
import Derived.Shelf.Unicode.ValidAny
set_option linter.unusedVariables false
set_option linter.unusedSimpArgs false
namespace Go.Proofs.YtjnkagkoolbodaaGreatDoor
open Go.Am Go.RowKit Go.Shelf
theorem aNm {P:Program} {f:FuncId} {args:List AV} {res:AV} (h:∀(ok:Nat→Prop) (w:World) (β:Nat→Option Value) (vs:List Value),(∀b,ok b→b<w.heap.size)→RVsX P ok w β args vs→TabOK ok w→
  Calls P f vs.toArray w fun e w'=>∃v,e= .returned v∧Below w.heap.size w w'∧RV P (fun b=>b<w'.heap.size∧(b<w.heap.size→ok b)) w' β res v):FX P f args [] res []:=by
 intro ok w β vs hok hobs hsep hvs htab
 have no:∀(β:Nat→Option Value) l b,¬owns [] β l b:=fun β l b h=>by obtain⟨h1,_⟩:=h;cases l<;>cases h1
 refine(h ok w β vs (fun b hb=>(hok b hb).1) hvs htab).mono ?_
 rintro e w' ⟨v,rfl,hb,hr⟩
 refine⟨v,β,rfl,⟨⟨hb.os,hb.tape,hb.output,hb.size,fun b h1 _=>hb.block b h1⟩,fun l=>?_,fun l l' b h1=>(no _ _ _ h1).elim,fun l b h1=>(no _ _ _ h1).elim,fun l _=>rfl⟩,hr.mono (fun b h1=>⟨⟨h1.1,fun h2=> .inl (h1.2 h2),fun l=>no _ _ _⟩,rfl⟩) (Ext.refl _)⟩
 have:=hobs l
 exact(show β l=none from this)
theorem aXm {P:Program} {ok:Nat→Prop} {w:World} {β:Nat→Option Value} {a:AV} {vs:List Value} (h:RVsX P ok w β [a] vs):∃z,vs=[z]∧RV P ok w β a z:=by
 cases h with
 |cons h r=>cases r;exact⟨_,rfl,h⟩
def utf8_ValidString (s:ByteArray):Option Bool:=some (Lib.validD s.data.toList)
theorem hbV:HasBody Tryz.prog 212:=⟨_,Tryz.func212,rfl,by decide⟩
theorem al6 {ok:Nat→Prop} {w:World} (h:TabOK ok w) {g:Nat} {cs:List Value} (hm:aml tabs g=some cs) {j:Nat} {v:Value} (hv:cs[j]? =some v):w.cell? ⟨g,j,none⟩=some v:=by
 obtain⟨_,T,fr,hb⟩:=h.1 _ (agB hm)
 have hb:w.heap[g]? =some (.cells cs.toArray T fr):=hb
 simp only[World.cell?,hb]
 simpa using hv
def aIy:List Value:=(List.range 256).map fun c=>Value.int .u8 (Lib.firstT c)
def aNn:List Value:=(List.range 16).flatMap fun i=>[Value.int .u8 (Lib.accLo i),Value.int .u8 (Lib.accHi i)]
set_option maxRecDepth 100000 in
theorem aCZ:aml tabs 1=some aIy:=by kernel_rfl
set_option maxRecDepth 100000 in
theorem al7:aml tabs 2=some aNn:=by kernel_rfl
theorem aC0 {ok:Nat→Prop} {w:World} (h:TabOK ok w):Lib.Utf8Tabs 1 2 w:=by
 refine⟨fun c hc=>al6 h aCZ ?_,fun i hi=>⟨al6 h al7 ?_,al6 h al7 ?_⟩⟩
 ·simp[aIy,hc]
 ·match i,hi with
  |0,_=>rfl|1,_=>rfl|2,_=>rfl|3,_=>rfl|4,_=>rfl|5,_=>rfl|6,_=>rfl|7,_=>rfl|8,_=>rfl|9,_=>rfl|10,_=>rfl|11,_=>rfl|12,_=>rfl|13,_=>rfl|14,_=>rfl|15,_=>rfl|n+16,h=>omega
 ·match i,hi with
  |0,_=>rfl|1,_=>rfl|2,_=>rfl|3,_=>rfl|4,_=>rfl|5,_=>rfl|6,_=>rfl|7,_=>rfl|8,_=>rfl|9,_=>rfl|10,_=>rfl|11,_=>rfl|12,_=>rfl|13,_=>rfl|14,_=>rfl|15,_=>rfl|n+16,h=>omega
theorem Uv {s:ByteArray} {r:Bool} (h:utf8_ValidString s=some r):FX Tryz.prog 212 [.dat 9 (.str s)] [] (.dat 4 (.bool r)) []:=by
 cases h
 refine aNm fun ok w β vs hok hvs htab=>?_
 obtain⟨z0,rfl,hz0⟩:=aXm hvs
 obtain⟨_,rfl,hs⟩:=RV.str Tryz.underlying9 hz0
 refine(Any.utf8_ValidString Tryz.lays196 s w (Nat.le_trans hs (by unfold maxLen;omega)) (aC0 htab)).mono ?_
 rintro e w' ⟨rfl,hb⟩
 exact⟨_,rfl,hb,RV.mk_bool Tryz.underlying4⟩
end Go.Proofs.YtjnkagkoolbodaaGreatDoor
