/- Worlds that grew; arguments taken apart.
slices.Delete at []api.Field (elements of six cells),over a block that is owned.
slices.Delete at []api.Field as the machine sees it. -/
import Derived.Test.YtameompfdamfpaaGreatDoorAm9
import Derived.WalkKit
import Derived.Deep.LoopGhost
import Derived.Deep.RegionLaw
import Derived.Lib.Walk
import Derived.Lib.SliceRun
import Derived.Sort.WalkB12
import Derived.Shelf.RegionOpenPlain
import Derived.Test.YtameompfdamfpaaGreatDoorProg
import Derived.Test.YtameompfdamfpaaGreatDoorAm18
set_option linter.unusedVariables false
set_option linter.unusedSimpArgs false
namespace Go.Am
open Go.RowKit
variable {P:Program}
theorem fx_nil {f:FuncId} {args:List AV} {res:AV} (h:∀(ok:Nat→Prop) (w:World) (β:Nat→Option Value) (vs:List Value),(∀b,ok b→b<w.heap.size)→RVsX P ok w β args vs→
  Calls P f vs.toArray w fun e w'=>∃v,e= .returned v∧Below w.heap.size w w'∧RV P (fun b=>b<w'.heap.size∧(b<w.heap.size→ok b)) w' β res v):FX P f args [] res []:=by
 intro ok w β vs hok hobs hsep hvs _
 have no:∀(β:Nat→Option Value) l b,¬owns [] β l b:=fun β l b h=>by obtain⟨h1,_⟩:=h;cases l<;>cases h1
 refine(h ok w β vs (fun b hb=>(hok b hb).1) hvs).mono ?_
 rintro e w' ⟨v,rfl,hb,hr⟩
 refine⟨v,β,rfl,⟨⟨hb.os,hb.tape,hb.output,hb.size,fun b h1 _=>hb.block b h1⟩,fun l=>?_,fun l l' b h1=>(no _ _ _ h1).elim,fun l b h1=>(no _ _ _ h1).elim,fun l _=>rfl⟩,hr.mono (fun b h1=>⟨⟨h1.1,fun h2=> .inl (h1.2 h2),fun l=>no _ _ _⟩,rfl⟩) (Ext.refl _)⟩
 have:=hobs l
 exact(show β l=none from this)
theorem below_alloc (w:World) (o:Obj):Below w.heap.size w (w.alloc o):=by
 have hh:(w.alloc o).heap=w.heap.push o:=rfl
 refine⟨rfl,rfl,rfl,?_,fun k hk=>?_⟩
 ·rw[hh,Array.size_push];exact Nat.le_succ _
 ·rw[hh,Array.getElem?_push,if_neg (Nat.ne_of_lt hk)]
theorem heap_alloc' (w:World) (o:Obj):(w.alloc o).heap=w.heap.push o:=rfl
theorem cell_alloc' (w:World) (cs:Array Value) (T:TypeId) (j:Nat):(w.alloc (.cells cs T)).cell? ⟨w.heap.size,j,none⟩=cs[j]? :=by
 have:(w.alloc (.cells cs T)).heap[w.heap.size]? =some (.cells cs T (0,0)):=by rw[heap_alloc',Array.getElem?_push,if_pos rfl]
 simp only[World.cell?,this]
 rfl
theorem RVsX.two {ok:Nat→Prop} {w:World} {β:Nat→Option Value} {a b:AV} {vs:List Value} (h:RVsX P ok w β [a,b] vs):∃x y,vs=[x,y]∧RV P ok w β a x∧RV P ok w β b y:=by
 cases h with
 |cons h1 h2=>cases h2 with
  |cons h3 h4=>cases h4;exact⟨_,_,rfl,h1,h3⟩
theorem RV.str_inv {ok:Nat→Prop} {w:World} {β:Nat→Option Value} {T:TypeId} {s:ByteArray} {v:Value} (hT:P.underlying T=some .string) (h:RV P ok w β (.dat T (.str s)) v):v= .string s∧s.size≤maxLen:=by
 have hA:AV.isAgg P (.dat T (.str s))=false:=by
  show aggT P T=false
  unfold aggT
  rw[hT]
 cases h.2 hA with
 |dat h=>cases h with
  |str _ hs=>exact⟨rfl,hs⟩
end Go.Am
namespace Go.Proofs.YtameompfdamfpaaGreatDoor
open Go.Shelf Go.RowKit Go.Lib Go.Sort
theorem clear_block {P:Program} (w:World) (t e ty:TypeId) (z:Value) (ht:P.underlying t=some (.slice e)) (hv:∀w,(zeroValue e).run P w= .ok z w) (b o n c:Nat) (hn:0<n) (zs:List Value) (hzs:(Builtin.zeroCells z.cells n).toList=zs)
  (hc:∀j,j<zs.length→(w.cell? ⟨b,o+j,none⟩).isSome=true) (hf:∀j,j<zs.length→w.frozen? ⟨b,o+j,none⟩=false) (h1:∀v∈zs,v.oneCell'=true):
  (Builtin.clear_ #[t] ty #[.slice (some ⟨b,o,none⟩) n c]).run P w= .ok (.tuple #[]) (w.setCells b o zs):=by
 have hst:=run_storeCells_cells (P:=P) b o zs 0 w (by simpa using hc) (by simpa using hf) h1
 simp only[Nat.add_zero] at hst
 obtain⟨m,rfl⟩:∃m,n=m+1:=⟨n-1,by omega⟩
 simp[Builtin.clear_,run_underlying ht,hv,hzs,hst]
theorem setCells_other (b:Nat):∀(vs:List Value) (o:Nat) (w:World) {k:Nat},k≠b→(w.setCells b o vs).heap[k]? =w.heap[k]?
 | [],_,_,_,_=>rfl
 |v::r,o,w,k,h=>by
  show ((w.setCell ⟨b,o,none⟩ v).setCells b (o+1) r).heap[k]? =_
  rw[setCells_other b r (o+1) _ h,Below.heap_setCell _ _ _ _ h]
theorem setCells_same {b:Nat} {T:TypeId} {f:Nat×Nat}:∀(vs:List Value) (o:Nat) (w:World) {c:Array Value},w.heap[b]? =some (.cells c T f)→∃c1,(w.setCells b o vs).heap[b]? =some (.cells c1 T f)∧c1.size=c.size
 | [],_,_,c,h=>⟨c,h,rfl⟩
 |v::r,o,w,c,h=>by
  have h2:(w.setCell ⟨b,o,none⟩ v).heap[b]? =some (.cells (c.setIfInBounds o v) T f):=by simp[World.setCell,Array.getElem?_modify,h]
  obtain⟨c1,h3,h4⟩:=setCells_same r (o+1) _ h2
  exact⟨c1,h3,by simpa using h4⟩
set_option maxHeartbeats 4000000 in
set_option maxRecDepth 1000000 in
theorem delete_walk (blk cap n i j:Nat) (cur:Array Value) (T:TypeId) (w:World) (hb:w.heap[blk]? =some (.cells cur T (0,0))) (hcs:cur.size=cap*6) (hcap:n≤cap) (hm:cap≤9223372036854775807) (hij:i<j) (hj:j≤n)
  (h1:∀c∈cur.toList.take (n*6),c.oneCell'=true):
  Calls Tryz.prog 184 #[.slice (some ⟨blk,0,none⟩) n cap,.int .i64 i,.int .i64 j] w fun e w'=>e= .returned (.slice (some ⟨blk,0,none⟩) (n-(j-i)) cap)∧∃q zs,w'=((w.drewN q).setCells blk (i*6) ((cur.toList.take (n*6)).drop (j*6))).setCells blk ((n-(j-i))*6) zs:=by
 have mixed:Tryz.prog.follows .mixedOrders=true:=by kernel_rfl
 obtain⟨i0,hi0,hz0,hz1,hz2⟩:=info_parts (show (Tryz.prog.info? 57).map (fun i=>(i.zero,i.size,i.bytes))=some (some (.agg #[.string ⟨#[]⟩,.int .i64 0,.int .i64 0,.string ⟨#[]⟩,.slice none 0 0,.slice none 0 0]),6,96) by kernel_rfl)
 obtain⟨news,hnews⟩:∃news,news=(cur.toList.take (n*6)).drop (j*6):=⟨_,rfl⟩
 have hlen:news.length=(n-j)*6:=by rw[hnews];simp;omega
 have hcell:∀t,t<n*6→w.cell? ⟨blk,t,none⟩=cur[t]? :=fun t ht=>by simp[World.cell?,hb]
 have hfr:∀t,w.frozen? ⟨blk,t,none⟩=false:=fun t=>by simp[World.frozen?,hb]
 have hget:∀t,t<(n-j)*6→news[t]? =cur[j*6+t]? :=by
  intro t ht
  rw[hnews,List.getElem?_drop,List.getElem?_take,if_pos (by omega),Array.getElem?_toList]
 obtain⟨A,hA,hsrc⟩:∃A:Addr,(if cap=j then some (⟨blk,0,none⟩:Addr) else some ⟨blk,j*6,none⟩)=some A∧Hid (∀t u,news[t]? =some u→w.drew.cell? (A.add t)=some u):=by
  by_cases h:cap=j
  ·refine⟨⟨blk,0,none⟩,by simp[h],fun t u hu=>?_⟩
   have h0:news.length=0:=by rw[hlen];omega
   rw[List.length_eq_zero_iff.1 h0] at hu
   simp at hu
  ·refine⟨⟨blk,j*6,none⟩,by simp[h],fun t u hu=>?_⟩
   have ht:t<(n-j)*6:=by
        have:=(List.getElem?_eq_some_iff.1 hu).1
        rwa [hlen] at this
   rw[hget t ht] at hu
   rw[Addr.add_lit]
   exact(hcell (j*6+t) (by omega)).trans hu
 have s1:Hid (news.length=(n-j)*6):=hlen
 have s2:Hid (∀u∈news,u.oneCell'=true):=by
  intro u hu
  rw[hnews] at hu
  exact h1 u (List.mem_of_mem_drop hu)
 have s3:Hid (∀t,t<news.length→(w.drew.cell? ⟨blk,0+i*6+t,none⟩).isSome=true∧w.drew.frozen? ⟨blk,0+i*6+t,none⟩=false):=by
  intro t ht
  rw[hlen] at ht
  refine⟨?_,hfr _⟩
  show (w.cell? _).isSome=true
  rw[hcell _ (by omega),Array.getElem?_eq_getElem (by omega)]
  rfl
 obtain⟨W1,hW1⟩:∃W1,W1=w.drew.setCells blk (0+i*6) news:=⟨_,rfl⟩
 obtain⟨zs,hcl⟩:∃zs,∀ty,(Builtin.clear_ #[31] ty #[.slice (some ⟨blk,(i+(n-j))*6,none⟩) (n-(i+(n-j))) (cap-(i+(n-j)))]).run Tryz.prog W1= .ok (.tuple #[]) (W1.setCells blk ((i+(n-j))*6) zs):=⟨(Builtin.zeroCells (Value.agg #[.string ⟨#[]⟩,.int .i64 0,.int .i64 0,.string ⟨#[]⟩,.slice none 0 0,.slice none 0 0]).cells (n-(i+(n-j)))).toList,fun ty=>by
  have hout:∀t,W1.heap[t]? =(if t=blk then W1.heap[blk]? else w.heap[t]?):=fun t=>by
   split
   ·rename_i h;rw[h]
   ·rename_i h;rw[hW1];exact setCells_other _ _ _ _ h
  have hin:∃c1,W1.heap[blk]? =some (.cells c1 T (0,0))∧c1.size=cur.size:=by rw[hW1];exact setCells_same _ _ _ hb
  obtain⟨c1,hc1,hcz⟩:=hin
  have hzl:(Builtin.zeroCells (Value.agg #[.string ⟨#[]⟩,.int .i64 0,.int .i64 0,.string ⟨#[]⟩,.slice none 0 0,.slice none 0 0]).cells (n-(i+(n-j)))).toList.length=(n-(i+(n-j)))*6:=by simp[Builtin.zeroCells,Value.cells]
  refine clear_block W1 31 57 ty _ Tryz.underlying31 Tryz.zeroValue57 blk _ _ _ (by omega) _ rfl (fun t ht=>?_) (fun t ht=>by simp[World.frozen?,hc1]) ?_
  ·rw[hzl] at ht
   have:(i+(n-j))*6+t<c1.size:=by omega
   simp[World.cell?,hc1,this]
  ·intro v hv
   simp only[Builtin.zeroCells,Value.cells,Array.toList_map,List.mem_map] at hv
   obtain⟨k,_,rfl⟩:=hv
   have hk:k%6<6:=Nat.mod_lt _ (by decide)
   show ((#[.string ⟨#[]⟩,.int .i64 0,.int .i64 0,.string ⟨#[]⟩,.slice none 0 0,.slice none 0 0]:Array Value)[k%6]!).oneCell'=true
   generalize k%6=r at hk
   match r,hk with
   |0,_=>rfl
   |1,_=>rfl
   |2,_=>rfl
   |3,_=>rfl
   |4,_=>rfl
   |5,_=>rfl⟩
 have hW:Hid (W1=w.drew.setCells blk (0+i*6) news):=hW1
 have hic:i≤cap:=by omega
 have hjc:j≤cap:=by omega
 have X:Aside (news=(cur.toList.take (n*6)).drop (j*6)):=hnews
 clear hW1 hb h1 hget hnews hlen hcell hfr
 go_enter Tryz.func184,Tryz.ntmps184
 go_wp2_with fail
 go_region_law_o (refine step_append_room rfl (.tmp 22) (.tmp 25) 31 rfl 57 i0 6 Tryz.underlying31 hi0 hz1 blk 0 i cap (by simp[Act.eval,Act.put]) A (n-j) (cap-j) news (by simp[Act.eval,Act.put]) s1.out hsrc.out s2.out (by omega) s3.out ?_;rw[←hW.out])
 go_wp2
 go_ret
 refine⟨by rw[show n-(j-i)=i+(n-j) by omega];rfl,1,zs,?_⟩
 rw[hW.out,←X.out,show n-(j-i)=i+(n-j) by omega,Nat.zero_add]
 rfl
end Go.Proofs.YtameompfdamfpaaGreatDoor
namespace Go.Proofs.YtameompfdamfpaaGreatDoor
open Go.RowKit Go.Am
theorem setCells_get {b:Nat} {T:TypeId} {f:Nat×Nat}:∀(vs:List Value) (o:Nat) (w:World) {c:Array Value},w.heap[b]? =some (.cells c T f)→∃c1,(w.setCells b o vs).heap[b]? =some (.cells c1 T f)∧c1.size=c.size∧∀t,t<c.size→c1[t]? =if o≤t∧t<o+vs.length then vs[t-o]? else c[t]?
 | [],o,w,c,h=>⟨c,h,rfl,fun t ht=>by rw[if_neg (by simp)]⟩
 |v::r,o,w,c,h=>by
  have h2:(w.setCell ⟨b,o,none⟩ v).heap[b]? =some (.cells (c.setIfInBounds o v) T f):=by simp[World.setCell,Array.getElem?_modify,h]
  obtain⟨c1,h3,h4,h5⟩:=setCells_get r (o+1) _ h2
  refine⟨c1,h3,by simpa using h4,fun t ht=>?_⟩
  rw[h5 t (by simpa using ht)]
  by_cases h6:t=o
  ·subst h6
   rw[if_neg (by omega),if_pos (by simp),Array.getElem?_setIfInBounds]
   simp[ht]
  ·by_cases h7:o+1≤t∧t<o+1+r.length
   ·    rw[if_pos h7,if_pos (by simp;omega)]
        obtain⟨k,hk⟩:∃k,t-o=k+1:=⟨t-o-1,by omega⟩
        rw[hk,List.getElem?_cons_succ]
        congr 1;omega
   ·    rw[if_neg h7,if_neg (by simp;omega),Array.getElem?_setIfInBounds]
        simp[Ne.symm h6]
theorem setCells_rest (b:Nat):∀(vs:List Value) (o:Nat) (w:World),(w.setCells b o vs).os=w.os∧(w.setCells b o vs).tape=w.tape∧(w.setCells b o vs).output=w.output∧(w.setCells b o vs).heap.size=w.heap.size
 | [],_,_=>⟨rfl,rfl,rfl,rfl⟩
 |v::r,o,w=>by
  obtain⟨h1,h2,h3,h4⟩:=setCells_rest b r (o+1) (w.setCell ⟨b,o,none⟩ v)
  exact⟨h1,h2,h3,h4.trans (World.size_setCell _ _ _)⟩
theorem take_of_get {c:Array Value} {N:Nat} {l:List Value} (hl:l.length=N) (hN:N≤c.size) (h:∀t,t<N→c[t]? =l[t]?):c.toList.take N=l:=by
 apply List.ext_getElem?
 intro t
 rw[List.getElem?_take]
 split
 ·rename_i ht;rw[Array.getElem?_toList];exact h t ht
 ·rename_i ht;rw[List.getElem?_eq_none (by omega)]
set_option maxRecDepth 100000 in
theorem c59:Tryz.prog.cellsOf 57=6:=by kernel_rfl
set_option maxRecDepth 100000 in
theorem delete_fx (es:List Dt) (i j:Nat) (hij:i<j) (hj:j≤es.length):FX Tryz.prog 184 [.row 0,.dat 3 (.int i),.dat 3 (.int j)] [.row 31 es] (.row 1) [.gone,.row 31 (es.take i++es.drop j)]:=by
 intro ok w β vs hok hobs hsep hvs _
 obtain⟨z0,rest,rfl,hz0,hvs⟩:∃z0 rest,vs=z0::rest∧RV Tryz.prog ok w β (.row 0) z0∧RVsX Tryz.prog ok w β [.dat 3 (.int i),.dat 3 (.int j)] rest:=by cases hvs with|cons h r=>exact⟨_,_,rfl,h,r⟩
 obtain⟨z1,rest,rfl,hz1,hvs⟩:∃z0 rest',rest=z0::rest'∧RV Tryz.prog ok w β (.dat 3 (.int i)) z0∧RVsX Tryz.prog ok w β [.dat 3 (.int j)] rest':=by cases hvs with|cons h r=>exact⟨_,_,rfl,h,r⟩
 obtain⟨z2,rest,rfl,hz2,hvs⟩:∃z0 rest',rest=z0::rest'∧RV Tryz.prog ok w β (.dat 3 (.int j)) z0∧RVsX Tryz.prog ok w β [] rest':=by cases hvs with|cons h r=>exact⟨_,_,rfl,h,r⟩
 cases hvs
 obtain⟨_,rfl,_⟩:=RV.int Tryz.underlying3 hz1
 obtain⟨_,rfl,_⟩:=RV.int Tryz.underlying3 hz2
 have hb0:β 0=some z0:=by
  have:=hz0.2 rfl
  cases this with
  |row h _=>exact h
 obtain⟨E,z,xs,e0,hu,hown,hone,hrd⟩:=hobs 0
 obtain rfl:z0=z:=by rw[hb0] at e0;exact Option.some.inj e0
 obtain rfl:E=57:=by
  have:=hu.symm.trans (Tryz.underlying31)
  simpa using this
 rw[c59] at hown hrd
 obtain⟨hlen,hown⟩:=hown
 rcases hown with⟨_,h0⟩| ⟨g,cap,cur,rfl,_,hh,hn,hm,hcs,htk⟩
 ·omega
 have hgx:XO [Ob.row 31 es] β g:=⟨0,rfl,_,hb0,rfl⟩
 have hXg:∀b,XO [Ob.row 31 es] β b→b=g:=by
  rintro b ⟨l,h1,z,h2,h3⟩
  cases l with
  |zero=>rw[hb0] at h2;cases h2;simpa [blk] using h3.symm
  |succ l=>cases l<;>cases h1
 have hmax:maxLen=9223372036854775807:=rfl
 have walk:=delete_walk g cap es.length i j cur 57 w hh hcs hn (by omega) hij hj (by rw[htk];exact hone)
 refine walk.mono ?_
 rintro e w' ⟨rfl,q,zs,hw'⟩
 rw[htk] at hw'
 obtain⟨c1,hc1,hs1,hg1⟩:=setCells_get (xs.drop (j*6)) (i*6) (w.drewN q) (b:=g) (c:=cur) (T:=57) (f:=(0,0)) hh
 obtain⟨c2,hc2,hs2,hg2⟩:=setCells_get zs ((es.length-(j-i))*6) _ hc1
 rw[←hw'] at hc2
 obtain⟨a1,a2,a3,a4⟩:=setCells_rest g (xs.drop (j*6)) (i*6) (w.drewN q)
 obtain⟨b1,b2,b3,b4⟩:=setCells_rest g zs ((es.length-(j-i))*6) ((w.drewN q).setCells g (i*6) (xs.drop (j*6)))
 rw[←hw'] at b1 b2 b3 b4
 have hsz:w'.heap.size=w.heap.size:=b4.trans a4
 have hoth:∀b,b≠g→w'.heap[b]? =w.heap[b]? :=fun b hb=>by
  rw[hw',setCells_other _ _ _ _ hb,setCells_other _ _ _ _ hb];rfl
 have hpre:c2.toList.take ((es.length-(j-i))*6)=xs.take (i*6)++xs.drop (j*6):=by
  refine take_of_get (by simp;omega) (by rw[hs2,hs1,hcs];exact Nat.mul_le_mul_right 6 (by omega)) fun t ht=>?_
  have htc:t<cur.size:=by rw[hcs];have:(es.length-(j-i))*6≤cap*6:=Nat.mul_le_mul_right 6 (by omega);omega
  rw[hg2 t (by rw[hs1];exact htc),if_neg (by omega),hg1 t htc]
  have hx:∀t,t<es.length*6→cur[t]? =xs[t]? :=fun t ht=>by
   rw[←htk,List.getElem?_take,if_pos ht,Array.getElem?_toList]
  by_cases h1:t<i*6
  ·rw[if_neg (by omega),List.getElem?_append_left (by simp;omega),List.getElem?_take,if_pos h1]
   exact hx t (by omega)
  ·rw[if_pos (by simp;omega),List.getElem?_append_right (by simp;omega)]
   congr 1
   simp;omega
 refine⟨.slice (some ⟨g,0,none⟩) (es.length-(j-i)) cap,upB β 1 (some (.slice (some ⟨g,0,none⟩) (es.length-(j-i)) cap)),rfl,?_,?_⟩
 ·have hown':∀l b,owns [Ob.gone,.row 31 (es.take i++es.drop j)] (upB β 1 (some (.slice (some ⟨g,0,none⟩) (es.length-(j-i)) cap))) l b→l=1∧b=g:=by
   rintro l b ⟨h1,z,h2,h3⟩
   match l,h1,h2 with
   |0,h1,_=>cases h1
   |1,_,h2=>rw[upB_same] at h2;cases h2;exact⟨rfl,by simpa [blk] using h3.symm⟩
   |l+2,h1,_=>cases l<;>cases h1
  refine⟨⟨b1.trans a1,b2.trans a2,b3.trans a3,Nat.le_of_eq hsz.symm,fun b _ hb=>hoth b fun e=>hb (e▸hgx)⟩,fun l=>?_,fun l l' b h1 h2=>(hown' l b h1).1.trans (hown' l' b h2).1.symm,fun l b h1=> .inr ((hown' l b h1).2▸hgx),fun l hl=>upB_other _ _ _ _ (by simp at hl;omega)⟩
  have hk:∀b,ok b→okOf ⟨ok,XO [Ob.row 31 es] β,β,1⟩ w w' [Ob.gone,.row 31 (es.take i++es.drop j)] (upB β 1 (some (.slice (some ⟨g,0,none⟩) (es.length-(j-i)) cap))) b∧w'.heap[b]? =w.heap[b]? :=fun b hb=>by
   have hne:b≠g:=fun e=>(hok b hb).2 (e▸hgx)
   exact⟨⟨by rw[hsz];exact(hok b hb).1,fun _=> .inl hb,fun l hl=>hne (hown' l b hl).2⟩,hoth b hne⟩
  match l with
  |0=>trivial
  |1    =>
   refine⟨57,_,xs.take (i*6)++xs.drop (j*6),upB_same _ _ _,Tryz.underlying31,?_,?_,?_⟩
   ·    rw[c59]
        have hl:(es.take i++es.drop j).length=es.length-(j-i):=by simp;omega
        rw[hl]
        exact⟨by simp;omega,.inr ⟨g,cap,c2,rfl,Nat.zero_le _,hc2,by omega,hm,by rw[hs2,hs1,hcs],hpre⟩⟩
   ·    intro c hc
        rcases List.mem_append.1 hc with h|h
        ·exact hone c (List.mem_of_mem_take h)
        ·exact hone c (List.mem_of_mem_drop h)
   ·    rw[c59]
        intro t d hd
        by_cases ht:t<i
        ·rw[List.getElem?_append_left (by simp;omega),List.getElem?_take,if_pos ht] at hd
         rw[seg_app_left (by simp;omega)]
         have:=(hrd t d hd).mono hk
         rwa [show ((xs.take (i*6)).drop (t*6)).take 6=(xs.drop (t*6)).take 6 by
           rw[List.drop_take,List.take_take];congr 1;omega]
        ·rw[List.getElem?_append_right (by simp;omega),List.getElem?_drop] at hd
         have hlt:(es.take i).length=i:=by simp;omega
         rw[hlt] at hd
         have:=(hrd _ d hd).mono hk
         rw[seg_app_right (by simp;omega)]
         have e:t*6-(xs.take (i*6)).length=(t-i)*6:=by simp;omega
         rw[e,List.drop_drop]
         rwa [show (j+(t-i))*6=j*6+(t-i)*6 by omega] at this
  |l+2=>
   have h1:β (l+2)=none:=hobs (l+2)
   show upB β 1 _ (l+2)=none
   rw[upB_other _ _ _ _ (by omega)]
   exact h1
 ·exact row_rv (upB_same _ _ _) rfl
end Go.Proofs.YtameompfdamfpaaGreatDoor
