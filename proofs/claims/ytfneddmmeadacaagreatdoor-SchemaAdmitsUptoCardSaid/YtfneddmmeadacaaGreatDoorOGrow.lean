/- slices.Grow at the nil slice of strings, as the machine sees it: the row that comes back is the call's own, and empty. -/
import Derived.WalkKit
import Derived.Lib.Walk
import Derived.Lib.SliceRun
import Derived.Lib.AppendZeros
import Derived.Shelf.RegionOpenPlain
import Derived.Test.YtfneddmmeadacaaGreatDoorOLib
import Derived.Test.YtfneddmmeadacaaGreatDoorProg
set_option linter.unusedVariables false
set_option linter.unusedSimpArgs false
namespace Go.Proofs.YtfneddmmeadacaaGreatDoor
open Go.RowKit Go.Lib Go.Am
theorem heap_alloc' (w:World) (o:Obj):(w.alloc o).heap=w.heap.push o:=rfl
set_option maxHeartbeats 2000000 in
set_option maxRecDepth 100000 in
theorem grow_walk (i0:TypeInfo) (hi:Tryz.prog.info? 9=some i0) (hz0:i0.zero=some (.string ByteArray.empty)) (hz1:i0.size=1) (hz2:i0.bytes=16)
  (n:Nat) (hn:n≤1099511627776) (w:World):
  Calls Tryz.prog 78 #[.slice none 0 0,.int .i64 n] w fun e w'=>∃v',e= .returned v'∧w'.ownsRow w.heap.size 9 1 v' 0 []∧v'.oneCell'=true∧Below w.heap.size w w':=by
 have mixed:Tryz.prog.follows .mixedOrders=true:=by kernel_rfl
 have tGS:=Tryz.underlying28
 have t3:=Tryz.underlying3
 by_cases h0:n=0
 ·subst h0
  go_enter Tryz.func78,Tryz.ntmps78
  go_wp2
  go_ret
  exact⟨_,rfl,⟨by simp,.inl ⟨rfl,rfl⟩⟩,rfl,Below.refl _ _⟩
 ·have hpos:(0:Int)<(n:Int):=by omega
  have happ:=Lib.run_append_nil_zeros (P:=Tryz.prog) w 28 3 28 9 i0 (.string ByteArray.empty) .i64 .i64 tGS t3 hi hz0 n (by omega) (by omega) (by omega) (by rw[hz2];omega)
  go_enter Tryz.func78,Tryz.ntmps78
  go_wp2_with (at_builtin;refine Lib.wpList_append_run _ rfl _ _ 28 3 rfl _ _ rfl rfl _ _ happ ?_)
  go_wp2
  go_ret
  have hge:=grownCap_ge w n 0 9
  have hle:=grownCap_le_maxLen w n 0 9 (by unfold maxLen;omega)
  refine⟨_,rfl,⟨by simp,.inr ⟨w.heap.size,grownCap w n 0 9,Builtin.zeroCells #[Value.string ByteArray.empty] n++Builtin.zeroCells #[Value.string ByteArray.empty] (grownCap w n 0 9-n),rfl,Nat.le_refl _,?_,Nat.zero_le _,hle,?_,by simp⟩⟩,rfl,?_⟩
  ·have:=heap_alloc' w (Obj.cells (Builtin.zeroCells #[Value.string ByteArray.empty] n++Builtin.zeroCells #[Value.string ByteArray.empty] (grownCap w n 0 9-n)) 9)
   show (w.alloc _).heap[w.heap.size]? =_
   rw[this,Array.getElem?_push,if_pos rfl]
  ·simp[Builtin.zeroCells];omega
  ·exact((Below.refl _ w).alloc (Nat.le_refl _) _).drew
def slices_Grow (n:Int):Option (List Dt):=bif (decide (0≤n)&&decide (n≤1099511627776)) then some [] else none
theorem hbG:HasBody Tryz.prog 78:=⟨_,Tryz.func78,rfl,by decide⟩
set_option maxRecDepth 100000 in
theorem hi9g:(Tryz.prog.info? 9).map (fun i=>(i.zero,i.size,i.bytes))=some (some (.string ByteArray.empty),1,16):=by kernel_rfl
set_option maxRecDepth 100000 in
theorem c9g:Tryz.prog.cellsOf 9=1:=by kernel_rfl
theorem Grow_fx {n:Int} {r:List Dt} (h:slices_Grow n=some r):FX Tryz.prog 78 [.nils 28,.dat 3 (.int n)] [] (.row 0) [.row 28 r]:=by
 unfold slices_Grow at h
 obtain⟨hc,h2⟩:=bif_some h
 cases h2
 have h0:=of_decide_eq_true (and_l hc)
 have h1:=of_decide_eq_true (and_r hc)
 obtain⟨m,rfl⟩:∃m:Nat,n=m:=⟨n.toNat,by omega⟩
 intro ok w β vs hok hobs hsep hvs _
 obtain⟨z0,z1,rfl,hz0,hz1⟩:=rvs2 hvs
 obtain⟨_,rfl,_⟩:=RV.int Tryz.underlying3 hz1
 obtain rfl:z0= .slice none 0 0:=by
  have:=hz0.2 rfl
  cases this with
  |nils=>rfl
 obtain⟨i0,hi,e⟩:=Option.map_eq_some_iff.1 hi9g
 simp only[Prod.mk.injEq] at e
 have lkn:∀l,lk [] l=Ob.free:=fun l=>by cases l<;>rfl
 have hfree:∀l,β l=none:=fun l=>by have:=hobs l;rw[lkn] at this;exact this
 have noX:∀b,¬XO [] β b:=fun b ⟨l,h⟩=>by obtain⟨h1,_⟩:=h;rw[lkn] at h1;cases h1
 refine(grow_walk i0 hi e.1 e.2.1 e.2.2 m (by omega) w).mono ?_
 rintro e' w' ⟨v',rfl,hown,hone,hb⟩
 have hown':∀l b,owns [Ob.row 28 []] (upB β 0 (some v')) l b→l=0∧blk v'=some b:=by
  rintro l b ⟨h1,z,h2,h3⟩
  match l,h1,h2 with
  |0,_,h2=>rw[upB_same] at h2;cases h2;exact⟨rfl,h3⟩
  |l+1,h1,_=>cases l<;>cases h1
 refine⟨v',upB β 0 (some v'),rfl,⟨⟨hb.os,hb.tape,hb.output,hb.size,fun b h1 _=>hb.block b h1⟩,fun l=>?_,fun l l' b h1 h2=>?_,fun l b h1=>?_,fun l hl=>by cases hl⟩,?_⟩
 ·match l with
  |0=>
   rw[upB_same]
   refine⟨9,v',[],rfl,Tryz.underlying28,?_,by simp,fun i d hd=>by simp at hd⟩
   rw[c9g]
   obtain⟨q1,q2⟩:=hown
   refine⟨q1,?_⟩
   rcases q2 with q2| ⟨g,cap,cur,p1,p2,p3⟩
   ·exact .inl q2
   ·exact .inr ⟨g,cap,cur,p1,Nat.zero_le _,p3⟩
  |l+1=>
   rw[upB_other _ _ _ _ (by omega),hfree]
   show ObOK _ _ _ _ (lk [] l) none
   rw[lkn]
   rfl
 ·rw[(hown' l b h1).1,(hown' l' b h2).1]
 ·obtain⟨_,h3⟩:=hown' l b h1
  exact .inl (ownsRow_blk hown h3).1
 ·exact⟨fun hi=>by simp[AV.isAgg] at hi,fun _=> .row (upB_same _ _ _) hone⟩
end Go.Proofs.YtfneddmmeadacaaGreatDoor
