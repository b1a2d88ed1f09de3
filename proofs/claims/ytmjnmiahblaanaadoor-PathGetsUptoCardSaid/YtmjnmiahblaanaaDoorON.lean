/- slices.Backward at []string, and path.nest over it.
path.nest:its contract.
path.nest as the machine sees it. -/
import Derived.RangeFuncNested
import Derived.RangeFuncBound
import Derived.RangeFuncCalls
import Derived.RangeFuncLeaves
import Derived.Shelf.Abstract
import Derived.Shelf.RegionOpen
import Derived.WalkKit
import Derived.OwnWalkIn
import Derived.TacticsInMore
import Derived.LoopNIn
import Derived.LoopIn
import Derived.Test.YtmjnmiahblaanaaDoorProg
import Derived.Test.YtmjnmiahblaanaaDoorOSplit
set_option linter.unusedVariables false
set_option linter.unusedSimpArgs false
namespace Go.Proofs.YtmjnmiahblaanaaDoor
open Go.RowKit Go.Shelf
attribute [local go_sem] Oper.semAt_some
abbrev BS:={s:ByteArray//s.size≤maxLen}
def upto {α:Type} (f:Nat→α) (k:Nat):List α:=(List.range k).map f
theorem upto_succ {α:Type} (f:Nat→α) (k:Nat):upto f (k+1)=upto f k++[f k]:=by simp[upto,List.range_succ]
theorem upto_length {α:Type} (f:Nat→α) (k:Nat):(upto f k).length=k:=by simp[upto]
def bk (len:Nat) (ss:Nat→BS) (k:Nat):Int×BS:=((len:Int)-1-k,ss (len-1-k))
def KpB (n₀ Bs:Nat) (W W':World):Prop:=Below n₀ W W'∧W'.heap[Bs]? =W.heap[Bs]?
set_option maxRecDepth 100000 in
set_option maxHeartbeats 2000000 in
theorem back1_in (F:Fence) (n:Nat) (h7:F.fn 92) (hro:F.round=none) (hn:1≤n) (l Bs n₀ b off len cap:Nat) (ss:Nat→BS) (hmax:len≤9223372036854775807) (hb:b<n₀) (J Jx:List (Int×BS)→World→Prop)
  (hY:∀pre x W,J pre W→pre.length<len→YieldAt F (n-1) Tryd.prog l #[.int .i64 x.1,.string x.2.1] W fun e W'=>
   (e= .returned (.bool true)∧J (pre++[x]) W'∧KpB n₀ Bs W W')∨(e= .returned (.bool false)∧Jx (pre++[x]) W'))
  (W:World) (hBs:W.cell? ⟨Bs,0,none⟩=some (.slice (some ⟨b,off,none⟩) len cap)) (hc:∀j,j<len→W.cell? ⟨b,off+j,none⟩=some (.string (ss j).1)) (h0:J [] W):
  CallsIn F n Tryd.prog 92 #[.func (.yield l) #[] #[],.pointer (some ⟨Bs,0,none⟩)] W fun e W'=>(∃v,e= .returned v)∧
   ((∃ys,ys=upto (bk len ss) len∧J ys W')∨(∃pre,(∃k,k≤len∧pre=upto (bk len ss) k)∧Jx pre W')):=by
 refine callsIn_of_wp Tryd.func92 rfl h7 ?_ hro
 simp only[Tryd.ntmps92,List.size_toArray,List.length_cons,List.length_nil,Nat.reduceAdd,Nat.reduceSub,Array.replicate_succ,Array.replicate_zero,List.push_toArray,List.append_toArray,List.nil_append,List.cons_append]
 gi_wp2
 gi_loopw [3] (fun i wr=>∃(k:Nat) (v:Int),k≤len∧v=(len:Int)-1-k∧i= .int .i64 v∧J (upto (bk len ss) k) wr∧KpB n₀ Bs W wr)
  (fun i _=>((intOf i)+1).toNat)
 case atStart=>exact⟨0,_,Nat.zero_le _,by simp,rfl,h0,Below.refl _ _,rfl⟩
 case round=>
  obtain⟨k,v,hk,hv,rfl,hJs,hnx⟩:=hrel
  have hB2:wr.cell? ⟨Bs,0,none⟩=some (.slice (some ⟨b,off,none⟩) len cap):=(World.cell?_of_block (w:=W) hnx.2).trans hBs
  have hlen:v<len:=by omega
  by_cases hlt:0≤v
  ·have hcx:wr.cell? ⟨b,off+v.toNat,none⟩=some (.string (ss v.toNat).1):=(hnx.1.cell (p:=⟨b,off+v.toNat,none⟩) hb).trans (hc v.toNat (by omega))
   obtain⟨fn,tmps,assign,body,hy,hR⟩:=hY _ (v,ss v.toNat) wr hJs (by rw[upto_length];omega)
   dsimp only at hy
   have X:Aside (v=(len:Int)-1-k):=hv
   have Y:Aside (KpB n₀ Bs W wr):=hnx
   clear hv hc hY h0 hBs hnx
   gi_wp2
   refine hR.mono ?_
   rintro e W3 (⟨rfl,hJ3,hk3⟩| ⟨rfl,hJx3⟩)
   ·    gi_wp2
        go_roundw
        case rel=>
         have hv:=X.out
         refine⟨k+1,_,by omega,by omega,rfl,?_,?_⟩
         ·rw[upto_succ,show bk len ss k=(v,ss v.toNat) by unfold bk;rw[hv];congr 2;omega];exact hJ3
         ·exact⟨Y.out.1.trans hk3.1,hk3.2.trans Y.out.2⟩
        case measure=>simp[intOf];omega
   ·    gi_wp2
        refine bodyPost_ret (results_none rfl _ _ _) rfl ?_
        have hv:=X.out
        refine⟨⟨_,rfl⟩,.inr ⟨_,⟨k+1,by omega,?_⟩,hJx3⟩⟩
        rw[upto_succ,show bk len ss k=(v,ss v.toNat) by unfold bk;rw[hv];congr 2;omega]
  ·obtain rfl:k=len:=by omega
   have X:Aside (v=(k:Int)-1-k):=hv
   have hv1:v= -1:=by omega
   subst hv1
   clear hv
   gi_wp2
   go_end0
   exact⟨⟨_,rfl⟩,.inl hJs⟩
end Go.Proofs.YtmjnmiahblaanaaDoor
namespace Go.Proofs.YtmjnmiahblaanaaDoor
open Go.RowKit Go.Shelf Go.Am
attribute [local go_sem] Oper.semAt_some
set_option maxHeartbeats 1000000 in
theorem backward_in (F:Fence) (n:Nat) (h5:F.fn 83) (hro:F.round=none) (a:Option Addr) (len cap:Nat) (w:World):
  CallsIn F n Tryd.prog 83 #[.slice a len cap] w fun e w'=>e= .returned (.func (.func 92) #[] #[.pointer (some ⟨w.heap.size,0,none⟩)])∧w'=w.alloc (.cells #[.slice a len cap] 23):=by
 refine callsIn_of_wp Tryd.func83 rfl h5 ?_ hro
 simp only[Tryd.ntmps83,List.size_toArray,List.length_cons,List.length_nil,Nat.reduceAdd,Nat.reduceSub,Array.replicate_succ,Array.replicate_zero,List.push_toArray,List.append_toArray,List.nil_append,List.cons_append]
 gi_wp2
 go_ret
 exact⟨rfl,rfl⟩
set_option maxRecDepth 100000 in
set_option maxHeartbeats 1000000 in
theorem back1_nil_in (F:Fence) (n:Nat) (h7:F.fn 92) (hro:F.round=none) (l Bs:Nat) (a:Option Addr) (cap:Nat) (J:List (Int×BS)→World→Prop) (W:World) (hBs:W.cell? ⟨Bs,0,none⟩=some (.slice a 0 cap)) (h0:J [] W):
  CallsIn F n Tryd.prog 92 #[.func (.yield l) #[] #[],.pointer (some ⟨Bs,0,none⟩)] W fun e W'=>(∃v,e= .returned v)∧J [] W':=by
 refine callsIn_of_wp Tryd.func92 rfl h7 ?_ hro
 simp only[Tryd.ntmps92,List.size_toArray,List.length_cons,List.length_nil,Nat.reduceAdd,Nat.reduceSub,Array.replicate_succ,Array.replicate_zero,List.push_toArray,List.append_toArray,List.nil_append,List.cons_append]
 gi_wp2
 gi_loopw [3] (fun i wr=>i= .int .i64 (-1)∧J [] wr) (fun _ _=>0)
 case atStart=>exact⟨rfl,h0⟩
 case round=>
  obtain⟨rfl,hJs⟩:=hrel
  gi_wp2
  go_end0
  exact⟨⟨_,rfl⟩,hJs⟩
def StrsAt (n₀:Nat) (w:World) (a:Option Addr) (len:Nat) (ss:Nat→BS):Prop:=
 len=0∨∃b off,a=some ⟨b,off,none⟩∧b<n₀∧∀j,j<len→w.cell? ⟨b,off+j,none⟩=some (.string (ss j).1)
theorem back_stops (F:Fence) (n:Nat) (h7:F.fn 92) (hro:F.round=none) (hn:1≤n) (Bs n₀:Nat) (a:Option Addr) (len cap:Nat) (ss:Nat→BS) (hmax:len≤9223372036854775807) (w:World) (hBs:Bs<w.heap.size) (hn₀:n₀≤w.heap.size)
  (hc:w.cell? ⟨Bs,0,none⟩=some (.slice a len cap)) (hI:StrsAt n₀ w a len ss):
  SeqStopsK F n Tryd.prog 92 #[.pointer (some ⟨Bs,0,none⟩)] (fun x:Int×BS=> #[Value.int .i64 x.1,Value.string x.2.1]) (KpB n₀ Bs) (fun ys=>ys=upto (bk len ss) len) (fun pre=>∃k,k≤len∧pre=upto (bk len ss) k) len w:=fun l J Jx W hW _ _ hY h0=>by
 have hc':=(hW.cell (p:=⟨Bs,0,none⟩) hBs).trans hc
 rcases hI with rfl| ⟨b,off,rfl,hb,hcs⟩
 ·exact(back1_nil_in F n h7 hro l Bs a cap J W hc' h0).mono fun e W' ⟨he,hj⟩=>⟨he,.inl ⟨_,rfl,hj⟩⟩
 ·exact back1_in F n h7 hro hn l Bs n₀ b off len cap ss hmax hb J Jx hY W hc' (fun j hj=>(hW.cell (p:=⟨b,off+j,none⟩) (Nat.lt_of_lt_of_le hb hn₀)).trans (hcs j hj)) h0
theorem kpB_t {n₀ Bs:Nat} {A B C:World} (h:KpB n₀ Bs A B) (k:KpB n₀ Bs B C):KpB n₀ Bs A C:=⟨h.1.trans k.1,k.2.trans h.2⟩
theorem kpB_b {n₀ Bs:Nat} {w:World} (hn:n₀≤w.heap.size) (hB:Bs<w.heap.size) (W:World) (l:Nat) (o o':Obj) (hl:w.heap.size≤l) (h:W.heap[l]? =some o) (h1:o.isCells=false) (h2:o.isWalk=false):KpB n₀ Bs W (W.putObj l o'):=
 ⟨belowK_b hn W l o o' hl h h1 h2,World.putObj_heap_other (by omega)⟩
def wrapD (s:ByteArray) (d:Dt):Dt:= .agg [.int 5,.int 0,.str ⟨#[]⟩,.lst [],.lst [.agg [.str s,d]]]
def nestR (pre:List (Int×BS)) (x:Dt):Dt:=pre.foldl (fun d y=>wrapD y.2.1 d) x
def zero36:Array Value:= #[Value.int IntKind.i64 0,Value.int IntKind.i64 0,Value.string ⟨#[]⟩,Value.slice none 0 0,Value.slice none 0 0]
def okI (ok:Nat→Prop) (m k:Nat) (W:World) (b:Nat):Prop:=(b<m∧ok b)∨(k≤b∧∃cs t f,W.heap[b]? =some (.cells cs t f))
def NestI (ok:Nat→Prop) (w:World) (k:Nat) (x:Dt) (pre:List (Int×BS)) (W:World):Prop:=
 (∃d0 d1 d2 d3 d4,W.heap[w.heap.size]? =some (.cells #[d0,d1,d2,d3,d4] 36 (0,0))∧RD Tryd.prog (okI ok w.heap.size k W) W 36 (nestR pre x) [d0,d1,d2,d3,d4])∧
 W.heap[w.heap.size+1]? =some (.cells zero36 36 (0,0))∧k≤W.heap.size∧Below w.heap.size w W
theorem nestI_own (ok:Nat→Prop) (w:World) (x:Dt) (k:Nat) (hk:w.heap.size+2≤k):OwnFrom k (NestI ok w k x):=by
 rintro s W W' row ⟨⟨d0,d1,d2,d3,d4,hx,hd⟩,hr0,hkW,hB⟩ hg hr
 have hne:∀b,b<k→W'.heap[b]? =W.heap[b]? :=fun b hb=>hg.block b (by omega) (fun e=>by have:=(hr b e.symm).1;omega)
 refine⟨⟨d0,d1,d2,d3,d4,(hne _ (by omega)).trans hx,hd.mono ?_⟩,(hne _ (by omega)).trans hr0,Nat.le_trans hkW hg.size,hB.trans ⟨hg.os,hg.tape,hg.output,hg.size,fun j hj=>hne j (by omega)⟩⟩
 rintro b (⟨h1,h2⟩| ⟨h1,cs,t,f,h2⟩)
 ·exact⟨.inl ⟨h1,h2⟩,hne b (by omega)⟩
 ·have hb:b<W.heap.size:=(Array.getElem?_eq_some_iff.1 h2).1
  have e:=hg.block b hb (fun e=>by
   obtain⟨_,o,ho,hoc⟩:=hr b e.symm
   rw[h2] at ho
   cases ho
   cases hoc)
  exact⟨.inr ⟨h1,cs,t,f,e.trans h2⟩,e⟩
theorem c36:Tryd.prog.cellsOf 36=5:=by kernel_rfl
theorem c59:Tryd.prog.cellsOf 59=6:=by kernel_rfl
theorem c3:Tryd.prog.cellsOf 3=1:=by kernel_rfl
theorem c9:Tryd.prog.cellsOf 9=1:=by kernel_rfl
theorem c33:Tryd.prog.cellsOf 33=1:=by kernel_rfl
theorem c34:Tryd.prog.cellsOf 34=1:=by kernel_rfl
theorem wrap_rd {ok:Nat→Prop} {W5:World} {s:ByteArray} {d:Dt} {d0 d1 d2 d3 d4:Value} {B:Nat} (hd:RD Tryd.prog ok W5 36 d [d0,d1,d2,d3,d4]) (hs:s.size≤maxLen) (hB:ok B) (hcell:W5.heap[B]? =some (.cells #[.string s,d0,d1,d2,d3,d4] 59 (0,0))):
  RD Tryd.prog ok W5 36 (wrapD s d) [.int .i64 5,.int .i64 0,.string ⟨#[]⟩,.slice none 0 0,.slice (some ⟨B,0,none⟩) 1 1]:=by
 have h1:=hd.oneCell
 have hmax:maxLen=9223372036854775807:=rfl
 have hfield:RD Tryd.prog ok W5 59 (.agg [.str s,d]) [.string s,d0,d1,d2,d3,d4]:=by
  refine .agg Tryd.underlying59 rfl c59.symm ?_ ?_
  ·intro c hc
   rcases List.mem_cons.1 hc with rfl|hc
   ·rfl
   ·exact h1 c hc
  ·intro i f d' hf hd'
   match i with
   |0=>simp at hf hd';subst hf;subst hd';rw[c9];exact .str Tryd.underlying9 hs
   |1=>simp at hf hd';subst hf;subst hd';rw[c36];exact hd
   |k+2=>simp at hd'
 refine .agg Tryd.underlying36 rfl c36.symm ?_ ?_
 ·intro c hc
  simp at hc
  rcases hc with rfl|rfl|rfl|rfl|rfl<;>rfl
 ·intro i f d' hf hd'
  match i with
  |0=>simp at hf hd';subst hf;subst hd';rw[c3];exact .int Tryd.underlying3 (by decide) (by decide)
  |1=>simp at hf hd';subst hf;subst hd';rw[c3];exact .int Tryd.underlying3 (by decide) (by decide)
  |2=>simp at hf hd';subst hf;subst hd';rw[c9];exact .str Tryd.underlying9 (by decide)
  |3=>
   simp at hf hd';subst hf;subst hd';rw[c33]
   exact .lst ⟨0,0,none⟩ (fun _=>[]) Tryd.underlying33 rfl (Nat.le_refl _) (by decide) (fun h=>by cases h) (fun i hi=>by cases hi) (fun i d hd=>by simp at hd)
  |4    =>
   simp at hf hd';subst hf;subst hd';rw[c34]
   refine .lst ⟨B,0,none⟩ (fun _=>[.string s,d0,d1,d2,d3,d4]) Tryd.underlying34 rfl (Nat.le_refl _) (by omega) (fun _=>⟨rfl,hB⟩) ?_ ?_
   ·    intro i hi
        obtain rfl:i=0:=by simp at hi;exact hi
        refine⟨c59.symm,hfield.oneCell,fun j v hv=>?_⟩
        rw[Nat.zero_mul,Nat.zero_add,add_mk,Nat.zero_add]
        simp only[World.cell?,hcell]
        simpa using hv
   ·    intro i d' hd'
        match i with
        |0=>simp at hd';subst hd';exact hfield
        |k+1=>simp at hd'
  |k+5=>simp at hd'
theorem set_same {V:World} {b o:Nat} {c:Array Value} {t:TypeId} {f:Nat×Nat} (h:V.heap[b]? =some (.cells c t f)) (v:Value):(V.setCell ⟨b,o,none⟩ v).heap[b]? =some (.cells (c.setIfInBounds o v) t f):=by
 simp[World.setCell,Array.getElem?_modify,h]
set_option maxRecDepth 100000 in
set_option maxHeartbeats 2000000 in
theorem nest_in (F:Fence) (n:Nat) (h3:F.fn 74) (h5:F.fn 83) (h6:F.fn 92) (hro:F.round=none) (hn:3≤n) (a:Option Addr) (len cap:Nat) (c0 c1 c2 c3 c4:Value) (w:World) (ok:Nat→Prop) (hok:∀b,ok b→b<w.heap.size) (x:Dt) (ss:Nat→BS) (hmax:len≤9223372036854775807) (hss:StrsAt w.heap.size w a len ss) (hx:RD Tryd.prog ok w 36 x [c0,c1,c2,c3,c4]):
  CallsIn F n Tryd.prog 74 #[.slice a len cap,.agg #[c0,c1,c2,c3,c4]] w fun e w'=>∃e0 e1 e2 e3 e4,e= .returned (.agg #[e0,e1,e2,e3,e4])∧Below w.heap.size w w'∧RD Tryd.prog (fun b=>b<w'.heap.size∧(b<w.heap.size→ok b)) w' 36 (nestR (upto (bk len ss) len) x) [e0,e1,e2,e3,e4]:=by
 have h1:1≤n:=by omega
 refine callsIn_of_wp_marks Tryd.func74 rfl h3 ?_ hro
 simp only[Tryd.ntmps74,List.size_toArray,List.length_cons,List.length_nil,Nat.reduceAdd,Nat.reduceSub,Array.replicate_succ,Array.replicate_zero,List.push_toArray,List.append_toArray,List.nil_append,List.cons_append]
 gi_wp2_with (gi_at_call 83;refine(backward_in F (n-1) h5 hro _ _ _ _).mono ?_;rintro e w' ⟨rfl,rfl⟩)
 obtain⟨W0,hW0⟩:∃W0,(((w.alloc (Obj.cells #[c0,c1,c2,c3,c4] 36)).alloc (Obj.cells zero36 36)).alloc (Obj.cells #[Value.slice a len cap] 23))=W0:=⟨_,rfl⟩
 have hsz:W0.heap.size=w.heap.size+3:=by rw[←hW0];simp
 have hBw:Below w.heap.size w W0:=by rw[←hW0];exact(((Below.refl _ w).alloc (Nat.le_refl _) _).alloc (by simp) _).alloc (by simp;omega) _
 have e0:W0.heap[w.heap.size]? =some (.cells #[c0,c1,c2,c3,c4] 36 (0,0)):=by
  rw[←hW0]
  simp only[heap_alloc',Array.getElem?_push,Array.size_push]
  rw[if_neg (by omega),if_neg (by omega),if_pos trivial]
 have e1:W0.heap[w.heap.size+1]? =some (.cells zero36 36 (0,0)):=by
  rw[←hW0]
  simp only[heap_alloc',Array.getElem?_push,Array.size_push]
  rw[if_neg (by omega),if_pos trivial]
 have e2:W0.heap[w.heap.size+1+1]? =some (.cells #[Value.slice a len cap] 23 (0,0)):=by
  rw[←hW0]
  simp only[heap_alloc',Array.getElem?_push,Array.size_push]
  rw[if_pos trivial]
 have hcB:W0.cell? ⟨w.heap.size+1+1,0,none⟩=some (.slice a len cap):=by simp[World.cell?,e2]
 have hss0:StrsAt w.heap.size W0 a len ss:=by
  rcases hss with h| ⟨b,off,h1,h2,h3⟩
  ·exact .inl h
  ·exact .inr ⟨b,off,h1,h2,fun j hj=>(hBw.cell (p:=⟨b,off+j,none⟩) h2).trans (h3 j hj)⟩
 have hI0:NestI ok w W0.heap.size x [] W0:=by
  refine⟨⟨c0,c1,c2,c3,c4,e0,hx.mono fun b hb=>⟨.inl ⟨hok b hb,hb⟩,hBw.block b (hok b hb)⟩⟩,e1,Nat.le_refl _,hBw⟩
 rw[show (((w.alloc (Obj.cells #[c0,c1,c2,c3,c4] 36)).alloc (Obj.cells #[Value.int IntKind.i64 0,Value.int IntKind.i64 0,Value.string ⟨#[]⟩,Value.slice none 0 0,Value.slice none 0 0] 36)).alloc (Obj.cells #[Value.slice a len cap] 23))=W0 from hW0]
 refine wpIn_rangeFunc_ownF hro h1 (gf:=92) (lb:= #[.pointer (some ⟨w.heap.size+1+1,0,none⟩)]) rfl h6 (enters_of Tryd.func92 (by kernel_rfl) rfl)
  (back_stops F (n-1) h6 hro (by omega) (w.heap.size+1+1) w.heap.size a len cap ss hmax W0 (by omega) (by omega) hcB hss0) kpB_t (kpB_b (by omega) (by omega)) (Below.refl _ _) (fun _=>rfl)
  (NestI ok w W0.heap.size x) (fun _ _ _=>False) (nestI_own ok w x _ (by omega)) (fun _ _ _ _ _ hs _ _=>hs) hI0
  (fun y=>{tmps:= #[Value.slice a len cap,Value.agg #[c0,c1,c2,c3,c4],undef,Value.pointer (some ⟨w.heap.size,0,none⟩),Value.pointer (some ⟨w.heap.size+1,0,none⟩),undef,Value.string y.2.1,Value.slice a len cap,Value.func (Fn.func 92) #[] #[Value.pointer (some ⟨w.heap.size+1+1,0,none⟩)],.int .i64 y.1,.string y.2.1,undef,undef,undef,undef,undef,undef],defers:=[]}) ?assign ?body ?done ?stop
 case assign=>
  intro l x W K hK
  gi_wp2
  exact hK
 case body=>
  rintro l pre y W ⟨⟨d0,d1,d2,d3,d4,hxb,hd⟩,hr0,hkW,hB⟩ _
  have hc0:W.cell? ⟨w.heap.size,0,none⟩=some d0:=by simp[World.cell?,hxb]
  have hc1:W.cell? ⟨w.heap.size,1,none⟩=some d1:=by simp[World.cell?,hxb]
  have hc2:W.cell? ⟨w.heap.size,2,none⟩=some d2:=by simp[World.cell?,hxb]
  have hc3:W.cell? ⟨w.heap.size,3,none⟩=some d3:=by simp[World.cell?,hxb]
  have hc4:W.cell? ⟨w.heap.size,4,none⟩=some d4:=by simp[World.cell?,hxb]
  have hf0:W.frozen? ⟨w.heap.size,0,none⟩=false:=by simp[World.frozen?,hxb]
  have hf1:W.frozen? ⟨w.heap.size,1,none⟩=false:=by simp[World.frozen?,hxb]
  have hf2:W.frozen? ⟨w.heap.size,2,none⟩=false:=by simp[World.frozen?,hxb]
  have hf3:W.frozen? ⟨w.heap.size,3,none⟩=false:=by simp[World.frozen?,hxb]
  have hf4:W.frozen? ⟨w.heap.size,4,none⟩=false:=by simp[World.frozen?,hxb]
  have hol:∀o,(W.alloc o).heap[w.heap.size]? =W.heap[w.heap.size]? :=fun o=>(below_alloc W o).block _ (by omega)
  have ha0:∀o,(W.alloc o).cell? ⟨w.heap.size,0,none⟩=some d0:=fun o=>by rw[World.cell?_of_block (w:=W) (hol o)];exact hc0
  have hg0:∀o,(W.alloc o).frozen? ⟨w.heap.size,0,none⟩=false:=fun o=>by rw[World.frozen?_of_block (w:=W) (hol o)];exact hf0
  have ha1:∀o,(W.alloc o).cell? ⟨w.heap.size,1,none⟩=some d1:=fun o=>by rw[World.cell?_of_block (w:=W) (hol o)];exact hc1
  have hg1:∀o,(W.alloc o).frozen? ⟨w.heap.size,1,none⟩=false:=fun o=>by rw[World.frozen?_of_block (w:=W) (hol o)];exact hf1
  have ha2:∀o,(W.alloc o).cell? ⟨w.heap.size,2,none⟩=some d2:=fun o=>by rw[World.cell?_of_block (w:=W) (hol o)];exact hc2
  have hg2:∀o,(W.alloc o).frozen? ⟨w.heap.size,2,none⟩=false:=fun o=>by rw[World.frozen?_of_block (w:=W) (hol o)];exact hf2
  have ha3:∀o,(W.alloc o).cell? ⟨w.heap.size,3,none⟩=some d3:=fun o=>by rw[World.cell?_of_block (w:=W) (hol o)];exact hc3
  have hg3:∀o,(W.alloc o).frozen? ⟨w.heap.size,3,none⟩=false:=fun o=>by rw[World.frozen?_of_block (w:=W) (hol o)];exact hf3
  have ha4:∀o,(W.alloc o).cell? ⟨w.heap.size,4,none⟩=some d4:=fun o=>by rw[World.cell?_of_block (w:=W) (hol o)];exact hc4
  have hg4:∀o,(W.alloc o).frozen? ⟨w.heap.size,4,none⟩=false:=fun o=>by rw[World.frozen?_of_block (w:=W) (hol o)];exact hf4
  gi_wp2
  obtain⟨V,hV⟩:∃V,W.alloc (Obj.cells #[Value.string y.2.1,d0,d1,d2,d3,d4] 59)=V:=⟨_,rfl⟩
  have hVx:V.heap[w.heap.size]? =some (.cells #[d0,d1,d2,d3,d4] 36 (0,0)):=by rw[←hV];exact(hol _).trans hxb
  have hVn:V.heap[W.heap.size]? =some (.cells #[Value.string y.2.1,d0,d1,d2,d3,d4] 59 (0,0)):=by rw[←hV,heap_alloc',Array.getElem?_push,if_pos rfl]
  have hVs:V.heap.size=W.heap.size+1:=by rw[←hV,heap_alloc',Array.size_push]
  have hVb:Below W.heap.size W V:=by rw[←hV];exact below_alloc _ _
  have hKV:KeepsOthers W V:=by rw[←hV];exact KeepsOthers.alloc _ _
  rw[hV]
  have hx5:=set_same (o:=4) (set_same (o:=3) (set_same (o:=2) (set_same (o:=1) (set_same (o:=0) hVx (Value.int .i64 5)) (Value.int .i64 0)) (Value.string ⟨#[]⟩)) (Value.slice none 0 0)) (Value.slice (some ⟨W.heap.size,0,none⟩) 1 1)
  have hk5:KeepsOthers V (((((V.setCell ⟨w.heap.size,0,none⟩ (Value.int .i64 5)).setCell ⟨w.heap.size,1,none⟩ (Value.int .i64 0)).setCell ⟨w.heap.size,2,none⟩ (Value.string ⟨#[]⟩)).setCell ⟨w.heap.size,3,none⟩ (Value.slice none 0 0)).setCell ⟨w.heap.size,4,none⟩ (Value.slice (some ⟨W.heap.size,0,none⟩) 1 1)):=
   ((((KeepsOthers.setCell _ _ _).trans (KeepsOthers.setCell _ _ _)).trans (KeepsOthers.setCell _ _ _)).trans (KeepsOthers.setCell _ _ _)).trans (KeepsOthers.setCell _ _ _)
  obtain⟨V5,hV5⟩:∃V5,(((((V.setCell ⟨w.heap.size,0,none⟩ (Value.int .i64 5)).setCell ⟨w.heap.size,1,none⟩ (Value.int .i64 0)).setCell ⟨w.heap.size,2,none⟩ (Value.string ⟨#[]⟩)).setCell ⟨w.heap.size,3,none⟩ (Value.slice none 0 0)).setCell ⟨w.heap.size,4,none⟩ (Value.slice (some ⟨W.heap.size,0,none⟩) 1 1))=V5:=⟨_,rfl⟩
  have hoth:∀b,b≠w.heap.size→V5.heap[b]? =V.heap[b]? :=fun b hb=>by
   rw[←hV5,Below.heap_setCell _ _ _ _ hb,Below.heap_setCell _ _ _ _ hb,Below.heap_setCell _ _ _ _ hb,Below.heap_setCell _ _ _ _ hb,Below.heap_setCell _ _ _ _ hb]
  have hsz5:V5.heap.size=W.heap.size+1:=by rw[←hV5,←hVs];simp[World.setCell]
  have hos:V5.os=V.os∧V5.tape=V.tape∧V5.output=V.output:=by rw[←hV5];exact⟨rfl,rfl,rfl⟩
  rw[hV5] at hx5 hk5 ⊢
  have hB5:Below w.heap.size W V5:=⟨hos.1.trans hVb.os,hos.2.1.trans hVb.tape,hos.2.2.trans hVb.output,by omega,fun b hb=>(hoth b (by omega)).trans (hVb.block b (by omega))⟩
  refine⟨hKV.trans hk5,⟨hB5,(hoth _ (by omega)).trans (hVb.block _ (by omega))⟩,⟨⟨_,_,_,_,_,hx5,?_⟩,(hoth _ (by omega)).trans ((hVb.block _ (by omega)).trans hr0),by omega,hB.trans hB5⟩⟩
  have e:nestR (pre++[y]) x=wrapD y.2.1 (nestR pre x):=by simp[nestR,List.foldl_append]
  rw[e]
  refine wrap_rd (hd.mono ?_) y.2.2 (.inr ⟨hkW,_,_,_,(hoth _ (by omega)).trans hVn⟩) ((hoth _ (by omega)).trans hVn)
  rintro b (⟨h1,h2⟩| ⟨h1,cs,t,f,h2⟩)
  ·exact⟨.inl ⟨h1,h2⟩,(hoth b (by omega)).trans (hVb.block b (by omega))⟩
  ·have hb:b<W.heap.size:=(Array.getElem?_eq_some_iff.1 h2).1
   have e:=(hoth b (by omega)).trans (hVb.block b hb)
   exact⟨.inr ⟨h1,cs,t,f,e.trans h2⟩,e⟩
 case done=>
  rintro D ys W hD rfl ⟨⟨d0,d1,d2,d3,d4,hxb,hd⟩,hr0,hkW,hB⟩ hK
  have hone:=hd.oneCell
  have hc0:W.cell? ⟨w.heap.size,0,none⟩=some d0:=by simp[World.cell?,hxb]
  have hr1:W.cell? ⟨w.heap.size+1,0,none⟩=some (.int .i64 0):=by simp[World.cell?,hr0,zero36]
  have hs0:∀(p:Addr) (w':World),(store p d0).run Tryd.prog w'=stored Tryd.prog w' p d0 .plain:=fun p w'=>run_store _ w' p _ _ (hone d0 (by simp))
  have hf0:W.frozen? ⟨w.heap.size+1,0,none⟩=false:=by simp[World.frozen?,hr0]
  have hc1:W.cell? ⟨w.heap.size,1,none⟩=some d1:=by simp[World.cell?,hxb]
  have hr2:W.cell? ⟨w.heap.size+1,1,none⟩=some (.int .i64 0):=by simp[World.cell?,hr0,zero36]
  have hs1:∀(p:Addr) (w':World),(store p d1).run Tryd.prog w'=stored Tryd.prog w' p d1 .plain:=fun p w'=>run_store _ w' p _ _ (hone d1 (by simp))
  have hf1:W.frozen? ⟨w.heap.size+1,1,none⟩=false:=by simp[World.frozen?,hr0]
  have hc2:W.cell? ⟨w.heap.size,2,none⟩=some d2:=by simp[World.cell?,hxb]
  have hr3:W.cell? ⟨w.heap.size+1,2,none⟩=some (.string ⟨#[]⟩):=by simp[World.cell?,hr0,zero36]
  have hs2:∀(p:Addr) (w':World),(store p d2).run Tryd.prog w'=stored Tryd.prog w' p d2 .plain:=fun p w'=>run_store _ w' p _ _ (hone d2 (by simp))
  have hf2:W.frozen? ⟨w.heap.size+1,2,none⟩=false:=by simp[World.frozen?,hr0]
  have hc3:W.cell? ⟨w.heap.size,3,none⟩=some d3:=by simp[World.cell?,hxb]
  have hr4:W.cell? ⟨w.heap.size+1,3,none⟩=some (.slice none 0 0):=by simp[World.cell?,hr0,zero36]
  have hs3:∀(p:Addr) (w':World),(store p d3).run Tryd.prog w'=stored Tryd.prog w' p d3 .plain:=fun p w'=>run_store _ w' p _ _ (hone d3 (by simp))
  have hf3:W.frozen? ⟨w.heap.size+1,3,none⟩=false:=by simp[World.frozen?,hr0]
  have hc4:W.cell? ⟨w.heap.size,4,none⟩=some d4:=by simp[World.cell?,hxb]
  have hr5:W.cell? ⟨w.heap.size+1,4,none⟩=some (.slice none 0 0):=by simp[World.cell?,hr0,zero36]
  have hs4:∀(p:Addr) (w':World),(store p d4).run Tryd.prog w'=stored Tryd.prog w' p d4 .plain:=fun p w'=>run_store _ w' p _ _ (hone d4 (by simp))
  have hf4:W.frozen? ⟨w.heap.size+1,4,none⟩=false:=by simp[World.frozen?,hr0]
  gi_wp2
  have hx5:=set_same (o:=4) (set_same (o:=3) (set_same (o:=2) (set_same (o:=1) (set_same (o:=0) hr0 d0) d1) d2) d3) d4
  obtain⟨V5,hV5⟩:∃V5,(((((W.setCell ⟨w.heap.size+1,0,none⟩ d0).setCell ⟨w.heap.size+1,1,none⟩ d1).setCell ⟨w.heap.size+1,2,none⟩ d2).setCell ⟨w.heap.size+1,3,none⟩ d3).setCell ⟨w.heap.size+1,4,none⟩ d4)=V5:=⟨_,rfl⟩
  have hoth:∀b,b≠w.heap.size+1→V5.heap[b]? =W.heap[b]? :=fun b hb=>by
   rw[←hV5,Below.heap_setCell _ _ _ _ hb,Below.heap_setCell _ _ _ _ hb,Below.heap_setCell _ _ _ _ hb,Below.heap_setCell _ _ _ _ hb,Below.heap_setCell _ _ _ _ hb]
  have hsz5:V5.heap.size=W.heap.size:=by rw[←hV5];simp[World.setCell]
  have hos:V5.os=W.os∧V5.tape=W.tape∧V5.output=W.output:=by rw[←hV5];exact⟨rfl,rfl,rfl⟩
  rw[hV5] at hx5 ⊢
  have hK5:V5.heap[D]? =some (.deferred (some [])):=(hoth D (by omega)).trans hK
  refine⟨by simp,.inl ⟨_,_,rfl,run_takeDeferred hK5,?_⟩⟩
  have hne:D≠w.heap.size+1:=by omega
  have hput:∀b,b≠D→(V5.putObj D (Obj.deferred none)).heap[b]? =V5.heap[b]? :=fun b hb=>World.putObj_heap_other (by omega)
  refine⟨_,results_cell_row rfl _ _ (w.heap.size+1) 36 #[d0,d1,d2,d3,d4] (0,0) _ rfl ((hput _ (by omega)).trans hx5) Tryd.underlying36 rfl (by kernel_rfl),d0,d1,d2,d3,d4,rfl,?_,?_⟩
  ·exact hB.trans ⟨hos.1,hos.2.1,hos.2.2,by simp[hsz5],fun b hb=>(hput b (by omega)).trans (hoth b (by omega))⟩
  ·refine hd.mono ?_
   rintro b (⟨h1,h2⟩| ⟨h1,cs,t,f,h2⟩)
   ·exact⟨⟨by have:=hB.size;simp[hsz5];omega,fun _=>h2⟩,(hput b (by omega)).trans (hoth b (by omega))⟩
   ·    have hb:b<W.heap.size:=(Array.getElem?_eq_some_iff.1 h2).1
        have hbD:b≠D:=fun e=>by
         rw[e,hK] at h2
         cases h2
        exact⟨⟨by simp[hsz5];omega,fun h=>by omega⟩,(hput b hbD).trans (hoth b (by omega))⟩
 case stop=>
  rintro D c pre W _ _ h _
  exact h.elim
end Go.Proofs.YtmjnmiahblaanaaDoor
namespace Go.Proofs.YtmjnmiahblaanaaDoor
open Go.RowKit Go.Shelf Go.Am
def nestD (es:List Dt) (x:Dt):Dt:=es.foldr (fun e d=>wrapD e.toStr d) x
theorem nestR_snoc (pre:List (Int×BS)) (y:Int×BS) (x:Dt):nestR (pre++[y]) x=wrapD y.2.1 (nestR pre x):=by simp[nestR,List.foldl_append]
theorem nestR_upto (es:List Dt) (x:Dt) (ss:Nat→BS) (hss:∀j e,es[j]? =some e→(ss j).1=e.toStr):∀k,k≤es.length→nestR (upto (bk es.length ss) k) x=nestD (es.drop (es.length-k)) x
 |0,_=>by simp[upto,nestR,nestD]
 |k+1,hk=>by
  rw[upto_succ,nestR_snoc,nestR_upto es x ss hss k (by omega)]
  have hlt:es.length-(k+1)<es.length:=by omega
  rw[List.drop_eq_getElem_cons hlt,show es.length-(k+1)+1=es.length-k by omega]
  show _=wrapD _ _
  have:=hss (es.length-(k+1)) _ (List.getElem?_eq_getElem hlt)
  rw[show (bk es.length ss k).2=ss (es.length-(k+1)) from congrArg ss (by omega:es.length-1-k=es.length-(k+1)),this]
  rfl
theorem list5 {cs:List Value} (h:cs.length=5):∃a b c d e,cs=[a,b,c,d,e]:=by
 match cs,h with
 | [a,b,c,d,e],_=>exact⟨a,b,c,d,e,rfl⟩
theorem spot_none {w:World} {ad:Addr} {v:Value} (h:w.cell? ad=some v):ad=⟨ad.block,ad.off,none⟩:=by
 obtain⟨b,o,sp⟩:=ad
 cases sp with
 |none=>rfl
 |some k=>
  simp only[World.cell?] at h
  split at h<;>simp at h
theorem agg_sl {P:Program} {T E:TypeId} (h:P.underlying T=some (.slice E)) (d:Dt):AV.isAgg P (.dat T d)=false:=by
 show aggT P T=false
 unfold aggT
 rw[h]
theorem agg_st {P:Program} {T:TypeId} {fs:Array Field} (h:P.underlying T=some (.struct fs)) (d:Dt):AV.isAgg P (.dat T d)=true:=by
 show aggT P T=true
 unfold aggT
 rw[h]
theorem agg23 (d:Dt):AV.isAgg Tryd.prog (.dat 23 d)=false:=agg_sl Tryd.underlying23 d
theorem agg36 (d:Dt):AV.isAgg Tryd.prog (.dat 36 d)=true:=agg_st Tryd.underlying36 d
theorem nest_fx (es:List Dt) (x:Dt):FX Tryd.prog 74 [.dat 23 (.lst es),.dat 36 x] [] (.dat 36 (nestD es x)) []:=by
 refine fx_nil fun ok w β vs hok hvs=>?_
 obtain⟨u,v,rfl,hu,hv⟩:=hvs.two
 obtain⟨cs,rfl,hra⟩:=hv.1 (agg36 _)
 have hmax:maxLen=9223372036854775807:=rfl
 cases hra with
 |dat   hrd=>
  obtain⟨_,hcl,_,_⟩:=hrd.agg_inv Tryd.underlying36
  rw[c36] at hcl
  obtain⟨c0,c1,c2,c3,c4,rfl⟩:=list5 hcl
  cases hu.2 (agg23 _) with
  |dat   h =>
   obtain⟨_,a,cap,ad,g,hv',hc,hm,ha,hg,hd⟩:=h.lst_inv Tryd.underlying23
   simp only[Dt.toLst] at hv' hc ha hg hd
   obtain rfl:u= .slice a es.length cap:=by simpa using hv'
   have hz:∀(j:Nat) (e:Dt),es[j]? =some e→e.toStr.size≤maxLen:=fun j e he=>((hd j e he).str_inv Tryd.underlying9).2.2
   obtain⟨ss,hss⟩:∃ss:Nat→BS,∀j e,es[j]? =some e→(ss j).1=e.toStr:=by
        refine⟨fun j=>if h:(((es[j]?).map Dt.toStr).getD ByteArray.empty).size≤maxLen then⟨_,h⟩ else⟨ByteArray.empty,by decide⟩,fun j e he=>?_⟩
        have h:=hz j e he
        simp[he,h]
   have hst:StrsAt w.heap.size w a es.length ss:=by
        by_cases h0:es.length=0
        ·exact .inl h0
        ·obtain⟨rfl,hok'⟩:=ha (by omega)
         have hcell:∀(j:Nat),j<es.length→w.cell? (ad.add j)=some (.string (ss j).1):=by
           intro j hj
           obtain⟨h1,h2,h3⟩:=hg j hj
           have he:=List.getElem?_eq_getElem hj
           obtain⟨_,hcs,_⟩:=(hd j _ he).str_inv Tryd.underlying9
           have:=h3 0 (.string (es[j]).toStr) (by rw[hcs];rfl)
           rw[c9,Nat.mul_one,Nat.add_zero] at this
           rw[hss j _ he]
           exact this
         have h00:=hcell 0 (by omega)
         have e0:ad.add 0=ad:=by unfold Addr.add;simp
         rw[e0] at h00
         have hsp:=spot_none h00
         refine .inr ⟨ad.block,ad.off,by rw[←hsp],hok _ hok',fun j hj=>?_⟩
         rw[←add_mk,←hsp]
         exact hcell j hj
   have hn:=callsIn_wide.1 (nest_in Fence.wide 3 trivial trivial trivial rfl (Nat.le_refl _) a es.length cap c0 c1 c2 c3 c4 w ok hok x ss (by omega) hst hrd)
   refine hn.mono ?_
   rintro e w' ⟨e0,e1,e2,e3,e4,rfl,hb,hr⟩
   refine⟨_,rfl,hb,⟨fun _=>⟨[e0,e1,e2,e3,e4],rfl,RA.dat ?_⟩,fun h=>(by rw[agg36] at h;cases h)⟩⟩
   have e:=nestR_upto es x ss hss es.length (Nat.le_refl _)
   rw[Nat.sub_self,List.drop_zero] at e
   rw[←e]
   exact hr
end Go.Proofs.YtmjnmiahblaanaaDoor
