/- strconv.AppendInt at base 10 onto a row of bytes that the call owns: the row alone is written. -/
import Derived.WalkKit
import Derived.Lib.Walk
import Derived.Lib.ItoaWalk
import Derived.Lib.ItoaMem
import Derived.Lib.ItoaLen
import Derived.Lib.AppendIntMem
import Derived.Lib.AppendZeros
import Derived.Lib.Slices
import Derived.Lib.Hide
import Derived.OwnWalk
import Derived.Maps.AppendAt
import Derived.CellFam
import Derived.Shelf.Strconv.Itoa1
import Derived.Shelf.Strconv.Itoa2
import Derived.Test.YtmejbpmceflcjaaGreatDoorAm21
import Derived.Test.YtmejbpmceflcjaaGreatDoorAmB
import Derived.Test.YtmejbpmceflcjaaGreatDoorShelf
import Derived.Test.YtmejbpmceflcjaaGreatDoorProg
set_option linter.unusedVariables false
set_option linter.unusedSimpArgs false
namespace Go.Proofs.YtmejbpmceflcjaaGreatDoor
open Go.RowKit Go.Lib Go.Sort Go.Shelf
def AppOK (w:World) (sv:Value) (n:Nat) (xs ys:List Value) (v':Value) (w':World):Prop:=
 w'.ownsRow 0 5 1 v' (n+ys.length) (xs++ys)∧w.grownBy w' sv.ownBlock∧(v'.ownBlock=sv.ownBlock∨∃g,v'.ownBlock=some g∧w.heap.size≤g)
set_option maxRecDepth 100000 in
theorem hi5:(Tryz.prog.info? 5).map (fun i=>(i.zero,i.size,i.bytes))=some (some (.int .u8 0),1,1):=by kernel_rfl
theorem grown_below {w W w':World} {row:Option Nat} (h:Below w.heap.size w W) (k:W.grownBy w' row):w.grownBy w' row:=
 ⟨k.os.trans h.os,k.tape.trans h.tape,k.output.trans h.output,Nat.le_trans h.size k.size,fun b hb hne=>(k.block b (Nat.lt_of_lt_of_le hb h.size) hne).trans (h.block b hb)⟩
theorem dec20 (u:Nat) (h:u<18446744073709551616):(decDigits u).length≤20:=by
 rw[decDigits_length]
 by_cases h0:u=0
 ·subst h0;rw[nDigits_small (by omega)];omega
 ·have:=numDigits_eq u (by omega) h
  split at this<;>omega
set_option maxHeartbeats 6400000 in
set_option maxRecDepth 100000 in
theorem appU_small (u:Nat) (hu:u<100) (sv:Value) (n:Nat) (xs:List Value) (w:World) (hown:w.ownsRow 0 5 1 sv n xs) (hlim:n+20≤137438953472):
  Calls Tryz.prog 84 #[sv,.int .u64 u,.int .i64 10] w fun e w'=>∃v',e= .returned v'∧AppOK w sv n xs (byteCells (decDigits u)) v' w':=by
 have mixed:Tryz.prog.follows .mixedOrders=true:=by kernel_rfl
 have t3:=Tryz.underlying3
 have t9:=Tryz.underlying9
 have tB:=Tryz.underlying40
 have t79:=Tryz.underlying79
 have eSM:∀args w,(callFunc 97 args).run Tryz.prog w= .ok (.enter 97 args) w:=enters_of Tryz.func97 (by kernel_rfl) rfl
 obtain⟨i0,hi,hz0,hz1,hz2⟩:=info_parts hi5
 have hlen:=dec20 u (by omega)
 have hsz:(⟨(decDigits u).toArray⟩:ByteArray).size=(decDigits u).length:=by simp[ByteArray.size]
 obtain⟨v',w1,happ,hown',hgrow,hblk⟩:=Go.Am.run_append_str (P:=Tryz.prog) w 40 9 40 5 i0 tB t9 hi hz0 hz1 hz2 sv n xs hown ⟨(decDigits u).toArray⟩ (by rw[hsz];omega)
 go_enter Tryz.func84,Tryz.ntmps84
 go_wp2_with (first
  |(go_at_fn 97;refine(Any.internal_strconv_small {Tryz.laysM171 with} u hu _).mono ?_;rintro e w' ⟨rfl,rfl⟩)
  |(at_builtin;refine Lib.wpList_append_run _ rfl _ _ 40 9 rfl _ _ rfl rfl _ _ happ ?_))
 go_wp2
 go_ret
 refine⟨v',rfl,?_,hgrow,hblk.imp id fun h=>⟨_,h,Nat.le_refl _⟩⟩
 rw[hsz] at hown'
 rw[byteCells_length]
 exact hown'
set_option maxHeartbeats 12800000 in
set_option maxRecDepth 100000 in
theorem appU_big (u:Nat) (hu:100≤u) (hu64:u<18446744073709551616) (sv:Value) (n:Nat) (xs:List Value) (w:World) (hown:w.ownsRow 0 5 1 sv n xs) (hlim:n+20≤137438953472)
  (htab:Lib.TabIs Tryz.prog w "internal/strconv.uint64pow10" .u64 Lib.pow10Tab):
  Calls Tryz.prog 84 #[sv,.int .u64 u,.int .i64 10] w fun e w'=>∃v',e= .returned v'∧AppOK w sv n xs (byteCells (decDigits u)) v' w':=by
 have mixed:Tryz.prog.follows .mixedOrders=true:=by kernel_rfl
 have t3:=Tryz.underlying3
 have t9:=Tryz.underlying9
 have tB:=Tryz.underlying40
 have uB:=run_underlying Tryz.underlying40
 have t79:=Tryz.underlying79
 have tA:=Tryz.underlying107
 have eND:∀args w,(callFunc 98 args).run Tryz.prog w= .ok (.enter 98 args) w:=enters_of Tryz.func98 (by kernel_rfl) rfl
 have eF:∀args w,(callFunc 99 args).run Tryz.prog w= .ok (.enter 99 args) w:=enters_of Tryz.func99 (by kernel_rfl) rfl
 obtain⟨i0,hi,hz0,hz1,hz2⟩:=info_parts hi5
 have hu1:1≤u:=by omega
 have hnd20:nDigits u≤20:=by have:=numDigits_eq u hu1 hu64;split at this<;>omega
 have hal:Tryz.prog.arrayLen 107=24:=by simp[Program.arrayLen,tA]
 have hsl:∀W,(Instr.sliceAt 107 (.pointer (some ⟨w.heap.size,0,none⟩)) none (some (.int .i64 (nDigits u:Int))) none).run Tryz.prog W= .ok (.slice (some ⟨w.heap.size,0,none⟩) (nDigits u) 24) W:=fun W=>by
  rw[run_sliceAt_array_h W 107 ⟨w.heap.size,0,none⟩ (by simp[Program.arrayLen,Program.elem,tA]) .i64 (nDigits u:Int) (by omega) (by rw[hal];omega)]
  have hsz:(sizeOf (Tryz.prog.elem 107)).run Tryz.prog W= .ok 1 W:=by
   have e:Tryz.prog.elem 107=5:=by simp[Program.elem,tA]
   rw[e]
   simp[sizeOf,typeInfo,hi,hz1]
  simp[hsz,slicedAt,hal,Addr.add]
 have hH0:=holds_zero0 w 107 (nDigits u) (by omega)
 have hfmt:=Any.internal_strconv_formatBase10 {Tryz.laysM171 with} w.heap.size 0 24 u (Array.replicate (nDigits u) 0) (w.alloc (.cells zeros24 107)) hH0 (by rw[Array.size_replicate];exact lt_pow_nDigits u) hu64 (by rw[Array.size_replicate];omega)
 rw[Array.size_replicate] at hfmt
 have HH0:=hid hH0
 have iu:(100:Int)≤(u:Int):=by omega
 clear hH0 hal
 go_enter Tryz.func84,Tryz.ntmps84
 go_wp2_with (first
  |(go_at_fn 98;refine(Any.internal_strconv_numDigits {Tryz.laysM171 with} u hu1 hu64 _ (tabIs_alloc htab _)).mono ?_;rintro e w' ⟨rfl,rfl⟩))
 go_at_fn 99
 refine hfmt.mono ?_
 rintro e w' ⟨rfl,k,v',dk,rfl,hF⟩
 have hcells:∀j u',(byteCells (decDigits u))[j]? =some u'→((putRow (fun(b:UInt8)=>Value.int .u8 (b.toNat:Int)) (w.alloc (.cells zeros24 107)) w.heap.size 0 dk).drewN k).cell? ((⟨w.heap.size,0,none⟩:Addr).add j)=some u':=by
  intro j u' hj
  have hjl:j<(decDigits u).length:=by
   have h5:=(List.getElem?_eq_some_iff.1 hj).1
   rwa [byteCells_length] at h5
  have e5:(byteCells (decDigits u))[j]? =some (Value.int .u8 ((decDigits u)[j].toNat:Int)):=by simp[byteCells,hjl]
  rw[e5] at hj
  cases hj
  rw[row_is_numeral hF j hjl,add_plain,World.cell?_drewN]
  exact cell?_putRow (fun(b:UInt8)=>Value.int .u8 (b.toNat:Int)) _ w.heap.size 0 _ dk HH0.out (by rw[hF.size,Array.size_replicate]) j (by rw[hF.size];rw[decDigits_length] at hjl;exact hjl)
 obtain⟨os,eo⟩:=fin_at w (.cells zeros24 107) dk k 0
 have hown2:((putRow (fun(b:UInt8)=>Value.int .u8 (b.toNat:Int)) (w.alloc (.cells zeros24 107)) w.heap.size 0 dk).drewN k).ownsRow 0 5 1 sv n xs:=by rw[eo];exact ownsRow_grow hown k os
 have hb2:Below w.heap.size w ((putRow (fun(b:UInt8)=>Value.int .u8 (b.toNat:Int)) (w.alloc (.cells zeros24 107)) w.heap.size 0 dk).drewN k):=by rw[eo];exact below_grow w.heap.size w (Nat.le_refl _) k os
 generalize (putRow (fun(b:UInt8)=>Value.int .u8 (b.toNat:Int)) (w.alloc (.cells zeros24 107)) w.heap.size 0 dk).drewN k=W2 at hcells hown2 hb2 ⊢
 clear eo HH0 hfmt
 obtain⟨v2,w3,happ,hown3,hgrow,_,hblk⟩:=run_append_own_at (P:=Tryz.prog) W2 0 40 40 5 i0 (.int .u8 0) 1 1 tB hi hz0 hz1 hz2 rfl (by decide) sv n xs hown2 ⟨w.heap.size,0,none⟩ (nDigits u) 24 (byteCells (decDigits u)) (by rw[byteCells_length,decDigits_length,Nat.mul_one]) hcells
  (by intro u' hu';simp only[byteCells,List.mem_map] at hu';obtain⟨b,_,rfl⟩:=hu';rfl) (by unfold maxLen;omega) (by omega) (Nat.zero_le _)
 go_wp2_with (at_builtin;refine Lib.wpList_append_run _ rfl _ _ 40 40 rfl _ _ rfl rfl _ _ happ ?_)
 go_wp2
 go_ret
 refine⟨v2,rfl,?_,grown_below hb2 hgrow,hblk.imp id fun h=>⟨_,h,hb2.size⟩⟩
 rw[byteCells_length,decDigits_length]
 exact hown3
theorem appU (u:Nat) (hu64:u<18446744073709551616) (sv:Value) (n:Nat) (xs:List Value) (w:World) (hown:w.ownsRow 0 5 1 sv n xs) (hlim:n+20≤137438953472)
  (htab:Lib.TabIs Tryz.prog w "internal/strconv.uint64pow10" .u64 Lib.pow10Tab):
  Calls Tryz.prog 84 #[sv,.int .u64 u,.int .i64 10] w fun e w'=>∃v',e= .returned v'∧AppOK w sv n xs (byteCells (decDigits u)) v' w':=by
 by_cases h:u<100
 ·exact appU_small u h sv n xs w hown hlim
 ·exact appU_big u (by omega) hu64 sv n xs w hown hlim htab
theorem tab_of {w:World} {T:TypeId} {fr:Nat×Nat} (hb:w.heap[2]? =some (.cells (Lib.pow10Tab.map fun z=>Value.int .u64 z).toArray T fr)):Lib.TabIs Tryz.prog w "internal/strconv.uint64pow10" .u64 Lib.pow10Tab:=by
 have hn:Tryz.prog.globalNamed "internal/strconv.uint64pow10" =some 2:=by kernel_rfl
 simp only[Lib.TabIs,World.var?,hn,Option.bind_some,hb]
theorem AppOK.trans {w w1 w2:World} {sv v1 v2:Value} {n:Nat} {xs ys zs:List Value} (h:AppOK w sv n xs ys v1 w1) (k:AppOK w1 v1 (n+ys.length) (xs++ys) zs v2 w2):AppOK w sv n xs (ys++zs) v2 w2:=by
 obtain⟨_,g1,b1⟩:=h
 obtain⟨o2,g2,b2⟩:=k
 refine⟨?_,⟨g2.os.trans g1.os,g2.tape.trans g1.tape,g2.output.trans g1.output,Nat.le_trans g1.size g2.size,fun b hb hne=>?_⟩,?_⟩
 ·rw[List.length_append,←Nat.add_assoc,←List.append_assoc]
  exact o2
 ·refine(g2.block b (Nat.lt_of_lt_of_le hb g1.size) fun e=>?_).trans (g1.block b hb hne)
  rcases b1 with b1| ⟨g,b1,hg⟩
  ·exact hne (e.trans b1)
  ·rw[b1] at e;cases e;omega
 ·rcases b2 with b2| ⟨g,b2,hg⟩
  ·rcases b1 with b1| ⟨g,b1,hg⟩
   ·exact .inl (b2.trans b1)
   ·exact .inr ⟨g,b2.trans b1,hg⟩
  ·exact .inr ⟨g,b2,Nat.le_trans g1.size hg⟩
set_option maxHeartbeats 6400000 in
set_option maxRecDepth 100000 in
theorem appI (i:Int) (h0: -9223372036854775808≤i) (h1:i≤9223372036854775807) (sv:Value) (n:Nat) (xs:List Value) (w:World) (hown:w.ownsRow 0 5 1 sv n xs) (hlim:n+21≤137438953472)
  {T:TypeId} {fr:Nat×Nat} (hb:w.heap[2]? =some (.cells (Lib.pow10Tab.map fun z=>Value.int .u64 z).toArray T fr)) (hne:sv.ownBlock≠some 2):
  Calls Tryz.prog 61 #[sv,.int .i64 i,.int .i64 10] w fun e w'=>∃v',e= .returned v'∧AppOK w sv n xs (byteCells (Lib.itoa i)) v' w':=by
 have mixed:Tryz.prog.follows .mixedOrders=true:=by kernel_rfl
 have t2:=Tryz.underlying2
 have t3:=Tryz.underlying3
 have tB:=Tryz.underlying40
 have uB:=run_underlying Tryz.underlying40
 have t5:=Tryz.underlying5
 have t79:=Tryz.underlying79
 have eU:∀args w,(callFunc 84 args).run Tryz.prog w= .ok (.enter 84 args) w:=enters_of Tryz.func84 (by kernel_rfl) rfl
 obtain⟨i0,hi,hz0,hz1,hz2⟩:=info_parts hi5
 have hgp:2<w.heap.size:=(Array.getElem?_eq_some_iff.1 hb).1
 by_cases hneg:i<0
 ·obtain⟨u,rfl⟩:∃u:Nat,i= -(u:Int):=⟨i.natAbs,by omega⟩
  have hu1:1≤u:=by omega
  have hu64:u<18446744073709551616:=by omega
  have hwr:IntKind.u64.wrap (-IntKind.u64.wrap (-(u:Int)))=(u:Int):=by rw[IntKind.wrap_u64,IntKind.wrap_u64];omega
  rw[Lib.itoa_neg u hu1]
  have hW1:Below w.heap.size w (w.alloc (.cells #[Value.int .u8 45] 5)):=(Below.refl _ w).alloc (Nat.le_refl _) _
  obtain⟨v1,w1,happ,hown1,hgrow,_,hblk⟩:=run_append_own_at (P:=Tryz.prog) (w.alloc (.cells #[Value.int .u8 45] 5)) 0 40 40 5 i0 (.int .u8 0) 1 1 tB hi hz0 hz1 hz2 rfl (by decide) sv n xs (hown.alloc _) ⟨w.heap.size,0,none⟩ 1 1 [Value.int .u8 45] rfl
   (by intro j u' hj;match j,hj with|0,hj=>simp at hj;subst hj;simp[Addr.add]) (by intro u' hu';simp at hu';subst hu';rfl) (by unfold maxLen;omega) (by omega) (Nat.zero_le _)
  have ok1:AppOK w sv n xs [Value.int .u8 45] v1 w1:=⟨hown1,grown_below hW1 hgrow,hblk.imp id fun h=>⟨_,h,hW1.size⟩⟩
  have hb1:w1.heap[2]? =_:=(ok1.2.1.block 2 hgp fun e=>hne e.symm).trans hb
  go_enter Tryz.func61,Tryz.ntmps61
  go_wp2_with (at_builtin;refine Lib.wpList_append_run _ rfl _ _ 40 40 rfl _ _ rfl rfl _ _ happ ?_)
  go_wp2_with (go_at_fn 84;refine(appU u hu64 v1 (n+1) _ w1 hown1 (by omega) (tab_of hb1)).mono ?_;rintro e w2 ⟨v2,rfl,ok2⟩)
  go_wp2
  go_ret
  refine⟨v2,rfl,?_⟩
  exact ok1.trans ok2
 ·obtain⟨u,rfl⟩:∃u:Nat,i=(u:Int):=⟨i.toNat,by omega⟩
  have hwr:IntKind.u64.wrap (u:Int)=(u:Int):=by rw[IntKind.wrap_u64];omega
  have hnl:¬((u:Int)<0):=by omega
  have hit:Lib.itoa (u:Int)=decDigits u:=Lib.itoa_nonneg u
  rw[hit]
  go_enter Tryz.func61,Tryz.ntmps61
  go_wp2_with (go_at_fn 84;refine(appU u (by omega) sv n xs w hown (by omega) (tab_of hb)).mono ?_;rintro e w2 ⟨v2,rfl,ok2⟩)
  go_wp2
  go_ret
  exact⟨v2,rfl,ok2⟩
end Go.Proofs.YtmejbpmceflcjaaGreatDoor
