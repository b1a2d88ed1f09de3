/- strconv.AppendInt as the machine sees it: a row of bytes, longer by a decimal numeral. -/
import Derived.Test.YtmejbpmceflcjaaGreatDoorOApp
import Derived.Test.YtmejbpmceflcjaaGreatDoorAm20
set_option linter.unusedVariables false
set_option linter.unusedSimpArgs false
namespace Go.Proofs.YtmejbpmceflcjaaGreatDoor
open Go.RowKit Go.Lib Go.Am
set_option maxHeartbeats 2000000 in
set_option maxRecDepth 100000 in
theorem appP (i:Int) (h0: -9223372036854775808≤i) (h1:i≤9223372036854775807) (sv:Value) (n:Nat) (xs:List Value) (w:World) (hown:w.ownsRow 0 5 1 sv n xs) (hlim:n+21≤137438953472)
  {T:TypeId} {fr:Nat×Nat} (hb:w.heap[2]? =some (.cells (Lib.pow10Tab.map fun z=>Value.int .u64 z).toArray T fr)) (hne:sv.ownBlock≠some 2):
  Calls Tryz.prog 31 #[sv,.int .i64 i,.int .i64 10] w fun e w'=>∃v',e= .returned v'∧AppOK w sv n xs (byteCells (Lib.itoa i)) v' w':=by
 have mixed:Tryz.prog.follows .mixedOrders=true:=by kernel_rfl
 have eI:∀args w,(callFunc 61 args).run Tryz.prog w= .ok (.enter 61 args) w:=enters_of Tryz.func61 (by kernel_rfl) rfl
 go_enter Tryz.func31,Tryz.ntmps31
 go_wp2_with (go_at_fn 61;refine(appI i h0 h1 sv n xs w hown hlim hb hne).mono ?_;rintro e w2 ⟨v2,rfl,ok2⟩)
 go_wp2
 go_ret
 exact⟨v2,rfl,ok2⟩
set_option maxRecDepth 100000 in
theorem pow_tabA:tabAt tabs 2=some (Lib.pow10Tab.map fun z=>Value.int .u64 z):=by kernel_rfl
set_option maxRecDepth 100000 in
theorem c5A:Tryz.prog.cellsOf 5=1:=by kernel_rfl
def bytesI (l:List UInt8):List Dt:=l.map fun b=>Dt.int (b.toNat:Int)
def strconv_AppendInt (i b:Int) (ds:List Dt):Option (List Dt):=
 bif (decide (b=10)&&(decide (-9223372036854775808≤i)&&(decide (i≤9223372036854775807)&&Nat.ble (ds.length+21) 137438953472))) then some (ds++bytesI (Lib.itoa i)) else none
theorem hbA:HasBody Tryz.prog 31:=⟨_,Tryz.func31,rfl,by decide⟩
theorem own_blk {w:World} {B e s n:Nat} {z:Value} {xs:List Value} (h:w.ownsRow B e s z n xs):z.ownBlock=blk z∧z.oneCell'=true:=by
 rcases h.2 with⟨rfl,_⟩| ⟨g,cap,cur,rfl,_⟩<;>exact⟨rfl,rfl⟩
theorem AppendInt_fx {ds:List Dt} {i b:Int} {r:List Dt} (h:strconv_AppendInt i b ds=some r):FX Tryz.prog 31 [.row 0,.dat 3 (.int i),.dat 3 (.int b)] [.row 40 ds] (.row 1) [.gone,.row 40 r]:=by
 unfold strconv_AppendInt at h
 obtain⟨hc,h⟩:=bif_some h
 cases h
 have hb10:b=10:=of_decide_eq_true (and_l hc)
 subst hb10
 have h0: -9223372036854775808≤i:=of_decide_eq_true (and_l (and_r hc))
 have h1:i≤9223372036854775807:=of_decide_eq_true (and_l (and_r (and_r hc)))
 have hl:=Nat.le_of_ble_eq_true (and_r (and_r (and_r hc)))
 intro ok w β vs hok hobs hsep hvs htab
 obtain⟨z0,rest,rfl,hz0,hvs⟩:∃z0 rest,vs=z0::rest∧RV Tryz.prog ok w β (.row 0) z0∧RVsX Tryz.prog ok w β [.dat 3 (.int i),.dat 3 (.int 10)] rest:=by cases hvs with|cons h r=>exact⟨_,_,rfl,h,r⟩
 obtain⟨z1,rest,rfl,hz1,hvs⟩:∃z0 rest',rest=z0::rest'∧RV Tryz.prog ok w β (.dat 3 (.int i)) z0∧RVsX Tryz.prog ok w β [.dat 3 (.int 10)] rest':=by cases hvs with|cons h r=>exact⟨_,_,rfl,h,r⟩
 obtain⟨z2,rest,rfl,hz2,hvs⟩:∃z0 rest',rest=z0::rest'∧RV Tryz.prog ok w β (.dat 3 (.int 10)) z0∧RVsX Tryz.prog ok w β [] rest':=by cases hvs with|cons h r=>exact⟨_,_,rfl,h,r⟩
 cases hvs
 obtain⟨_,rfl,_⟩:=RV.int Tryz.underlying3 hz1
 obtain⟨_,rfl,_⟩:=RV.int Tryz.underlying3 hz2
 have hb0:β 0=some z0:=by
  have:=hz0.2 rfl
  cases this with
  |row h _=>exact h
 obtain⟨E,z,xs,e0,hu,hown,hone,hrd⟩:=hobs 0
 obtain rfl:z0=z:=by rw[hb0] at e0;exact Option.some.inj e0
 obtain rfl:E=5:=by
  have:=hu.symm.trans (Tryz.underlying40)
  simpa using this
 rw[c5A] at hown hrd
 obtain⟨hbl,_⟩:=own_blk hown
 have hXr:∀q,blk z0=some q→XO [Ob.row 40 ds] β q:=fun q hq=>⟨0,rfl,_,hb0,hq⟩
 obtain⟨okGP,T,fr,hbt⟩:=htab.1 _ (tabAt_mem pow_tabA)
 have hbt:w.heap[2]? =some (.cells (Lib.pow10Tab.map fun z=>Value.int .u64 z).toArray T fr):=hbt
 have hne:z0.ownBlock≠some 2:=fun e=>(hok _ okGP).2 (hXr _ (hbl.symm.trans e))
 refine(appP i h0 h1 z0 ds.length xs w hown hl hbt hne).mono ?_
 rintro e w' ⟨v',rfl,hown',hgr,hblk⟩
 obtain⟨hbl',hone'⟩:=own_blk hown'
 have hkeep:∀q,q<w.heap.size→¬XO [Ob.row 40 ds] β q→w'.heap[q]? =w.heap[q]? :=fun q hq hx=>hgr.block q hq fun e=>hx (hXr q (hbl.symm.trans e.symm))
 have hown2:∀l q,owns [Ob.gone,.row 40 (ds++bytesI (Lib.itoa i))] (upB β 1 (some v')) l q→l=1∧blk v'=some q:=by
  rintro l q ⟨h1,z,h2,h3⟩
  match l,h1,h2 with
  |0,h1,_=>cases h1
  |1,_,h2=>rw[upB_same] at h2;cases h2;exact⟨rfl,h3⟩
  |l+2,h1,_=>cases l<;>cases h1
 have hnew:∀q,blk v'=some q→w.heap.size≤q∨XO [Ob.row 40 ds] β q:=fun q hq=>by
  rcases hblk with e| ⟨g,e,hg⟩
  ·exact .inr (hXr q (by rw[←hbl,←e,hbl'];exact hq))
  ·left
   rw[hbl',hq] at e
   cases e
   exact hg
 refine⟨v',upB β 1 (some v'),rfl,⟨⟨hgr.os,hgr.tape,hgr.output,hgr.size,hkeep⟩,fun l=>?_,fun l l' q h1 h2=>(hown2 l q h1).1.trans (hown2 l' q h2).1.symm,fun l q h1=>hnew q (hown2 l q h1).2,fun l hl=>upB_other _ _ _ _ (by simp at hl;omega)⟩,?_⟩
 ·have hk  :∀q,ok q→okOf ⟨ok,XO [Ob.row 40 ds] β,β,1⟩ w w' [Ob.gone,.row 40 (ds++bytesI (Lib.itoa i))] (upB β 1 (some v')) q∧w'.heap[q]? =w.heap[q]? :=fun q hq=>by
   obtain⟨q1,q2⟩:=hok q hq
   refine⟨⟨Nat.lt_of_lt_of_le q1 hgr.size,fun _=> .inl hq,fun l hl=>?_⟩,hkeep q q1 q2⟩
   rcases hnew q (hown2 l q hl).2 with h|h
   ·omega
   ·exact q2 h
  match l with
  |0=>trivial
  |1    =>
   have hlen:(ds++bytesI (Lib.itoa i)).length=ds.length+(byteCells (Lib.itoa i)).length:=by rw[List.length_append,bytesI,List.length_map,byteCells_length]
   refine⟨5,_,xs++byteCells (Lib.itoa i),upB_same _ _ _,Tryz.underlying40,?_,?_,?_⟩
   ·    rw[c5A,hlen]
        exact hown'
   ·    intro c hc
        rcases List.mem_append.1 hc with h|h
        ·exact hone c h
        ·simp only[byteCells,List.mem_map] at h
         obtain⟨b,_,rfl⟩:=h
         rfl
   ·    rw[c5A]
        intro t d hd
        rw[Nat.mul_one]
        have hxl:xs.length=ds.length:=by simpa using hown.1
        by_cases ht:t<ds.length
        ·rw[List.getElem?_append_left ht] at hd
         rw[seg_app_left (by omega)]
         have:=(hrd t d hd).mono hk
         rwa [Nat.mul_one] at this
        ·rw[List.getElem?_append_right (by omega)] at hd
         rw[seg_app_right (by omega),hxl]
         simp only[bytesI,List.getElem?_map,Option.map_eq_some_iff] at hd
         obtain⟨b,hb2,rfl⟩:=hd
         have hlt:=(List.getElem?_eq_some_iff.1 hb2).1
         have hbe:=(List.getElem?_eq_some_iff.1 hb2).2
         have e:((byteCells (Lib.itoa i)).drop (t-ds.length)).take 1=[Value.int .u8 (b.toNat:Int)]:=by
           rw[byteCells,List.drop_eq_getElem_cons (by rw[List.length_map];exact hlt),List.getElem_map,hbe]
           rfl
         rw[e]
         exact u8_rd Tryz.underlying5 b
  |l+2=>
   have h1:β (l+2)=none:=hobs (l+2)
   show upB β 1 _ (l+2)=none
   rw[upB_other _ _ _ _ (by omega)]
   exact h1
 ·exact row_rv (upB_same _ _ _) hone'
end Go.Proofs.YtmejbpmceflcjaaGreatDoor
