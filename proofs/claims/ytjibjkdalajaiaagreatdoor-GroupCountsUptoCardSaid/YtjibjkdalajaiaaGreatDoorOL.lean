/- slices.Insert at []int, one number, over a row that is owned: the library's five roads as one.
slices.Insert as the machine sees it. -/
import Derived.WalkKit
import Derived.Lib.Walk
import Derived.Lib.SliceRun
import Derived.Shelf.Spec.SlicesInsert
import Derived.Shelf.Spec.SlicesInsertGrow
import Derived.Test.YtjibjkdalajaiaaGreatDoorShelf
import Derived.Test.YtjibjkdalajaiaaGreatDoorA4
set_option linter.all false
namespace Go.Proofs.YtjibjkdalajaiaaGreatDoor
open Go.Shelf Go.RowKit Go.Lib Go.Am
theorem SI(b:Nat):∀(vs:List Value)(o:Nat)(w:World){k:Nat},k≠b->(w.setCells b o vs).heap[k]? =w.heap[k]?
 | [],_,_,_,_=>rfl
 |v::r,o,w,k,h=>by show ((w.setCell ⟨b,o,none⟩ v).setCells b (o+1) r).heap[k]? =_;rw[SI b r (o+1) _ h,Below.heap_setCell _ _ _ _ h]
theorem SN{b:Nat}{T:TypeId}{f:Nat×Nat}:∀(vs:List Value)(o:Nat)(w:World){c:Array Value},w.heap[b]? =some (.cells c T f)->∃c1,(w.setCells b o vs).heap[b]? =some (.cells c1 T f)∧c1.size=c.size∧∀t,t<c.size->c1[t]? =if o<=t∧t<o+vs.length then vs[t-o]? else c[t]?
 | [],o,w,c,h=>⟨c,h,rfl,fun t ht=>by rw[if_neg (by simp)]⟩
 |v::r,o,w,c,h=>by
  have h2:(w.setCell ⟨b,o,none⟩ v).heap[b]? =some (.cells (c.setIfInBounds o v) T f):=by simp[World.setCell,Array.getElem?_modify,h]
  obtain⟨c1,h3,h4,h5⟩:=SN r (o+1) _ h2;refine⟨c1,h3,by simpa using h4,fun t ht=>?_⟩;rw[h5 t (by simpa using ht)];by_cases h6:t=o
  ·subst h6;rw[if_neg (by omega),if_pos (by simp),Array.getElem?_setIfInBounds];simp[ht]
  ·by_cases h7:o+1<=t∧t<o+1+r.length
   ·    rw[if_pos h7,if_pos (by simp;omega)];obtain⟨k,hk⟩:∃k,t-o=k+1:=⟨t-o-1,by omega⟩;rw[hk,aX];congr 1;omega
   ·    rw[if_neg h7,if_neg (by simp;omega),Array.getElem?_setIfInBounds];simp[Ne.symm h6]
theorem SQ(b:Nat):∀(vs:List Value)(o:Nat)(w:World),(w.setCells b o vs).os=w.os∧(w.setCells b o vs).tape=w.tape∧(w.setCells b o vs).output=w.output∧(w.setCells b o vs).heap.size=w.heap.size
 | [],_,_=>⟨rfl,rfl,rfl,rfl⟩
 |v::r,o,w=>by obtain⟨h1,h2,h3,h4⟩:=SQ b r (o+1) (w.setCell ⟨b,o,none⟩ v);exact⟨h1,h2,h3,h4.trans (World.size_setCell _ _ _)⟩
theorem ahH{c:Array Value}{N:Nat}{l:List Value}(hl:l.length=N)(h:∀t,t<N->c[t]? =l[t]?):c.toList.take N=l:=by
 apply List.ext_getElem?;intro t;rw[List.getElem?_take];split;·rename_i ht;rw[Array.getElem?_toList];exact h t ht
 ·rename_i ht;rw[List.getElem?_eq_none (by omega)]
def Gm(xs:List Value)(p:Nat)(x:Value):List Value:=xs.take p++x::xs.drop p
theorem zC{xs:List Value}{p:Nat}{x:Value}:(Gm xs p x).length=xs.length+1:=by have:=congrArg List.length (List.take_append_drop p xs);rw[aR]at this;rw[Gm,aR,List.length_cons];omega
theorem Ns{xs:List Value}{p:Nat}{x:Value}(hp:p<=xs.length)(t:Nat):(Gm xs p x)[t]? =if t<p then xs[t]? else if t=p then some x else xs[t-1]? :=by
 have hl:(xs.take p).length=p:=by rw[List.length_take];omega
 rw[Gm];by_cases h1:t<p;·rw[if_pos h1,List.getElem?_append_left (by omega),List.getElem?_take,if_pos h1]
 ·rw[if_neg h1,List.getElem?_append_right (by omega),hl];by_cases h2:t=p;·rw[if_pos h2,h2,Nat.sub_self];rfl
  ·rw[if_neg h2];obtain⟨k,hk⟩:∃k,t-p=k+1:=⟨t-p-1,by omega⟩;rw[hk,aX,List.getElem?_drop];congr 1;omega
structure Ins (w w':World) (z v':Value) (n:Nat) (ys:List Value):Prop where
 own:w'.ownsRow 0 3 1 v' n ys
 bk:Am.blk v'=Am.blk z∨Am.blk v'=some w.heap.size
 os:w'.os=w.os
 tape:w'.tape=w.tape
 output:w'.output=w.output
 size:w.heap.size<=w'.heap.size
 block:∀b,b<w.heap.size->Am.blk z≠some b->w'.heap[b]? =w.heap[b]?
theorem uM(w:World)(o:Obj):(w.alloc o).heap=w.heap.push o:=rfl
theorem X0(z:Value)(n p vb c1:Nat)(cu:Array Value)(xs:List Value)(x:Value)(w:World)(hz:w.ownsRow 0 3 1 z n xs)(hone:∀u∈xs,u.oneCell'=true)(hx1:x.oneCell'=true)(hp:p<=n)(hn:n<=1000000)
  (hvb:w.heap[vb]? =some (.cells cu 3 (0,0)))(hvx:cu[0]? =some x)(hvc:c1<=maxLen)(hc1:1<=c1)(hne:Am.blk z≠some vb):
  Calls Tryz.prog 61 #[z,.int .i64 p,.slice (some ⟨vb,0,none⟩) 1 c1] w fun e w'=>∃v',e= .returned v'∧Ins w w' z v' (n+1) (Gm xs p x):=by
 obtain⟨hlen,hown⟩:=hz;rw[Nat.mul_one]at hlen;have hml:maxLen=9223372036854775807:=rfl;have hvs:∀(j:Nat)(v:Value),[x][j]? =some v->w.cell? ⟨vb,0+j,none⟩=some v:=fun j v hj=>by
  match j,hj with
  |0,hj=>cases hj;simp[World.cell?,hvb,hvx]
 have h1v:∀v∈[x],v.oneCell'=true:=fun v hv=>by rw[List.mem_singleton.1 hv];exact hx1
 have hge:∀k:Nat,k<=n->n+1<=grownCap w (n+1) k 3∧grownCap w (n+1) k 3<=maxLen:=fun k hk=>⟨grownCap_ge w (n+1) k 3,grownCap_le_maxLen w (n+1) k 3 (by rw[hml];omega)⟩;have zc:∀k:Nat,(Builtin.zeroCells (Value.int .i64 0).cells k).size=k:=fun k=>by simp[Builtin.zeroCells,Value.cells]
 have new:∀(w1:World)(cs:Array Value)(k:Nat),w1.heap=w.heap.push (.cells cs 3 (0,0))->w1.os=w.os->w1.tape=w.tape->w1.output=w.output->cs.size=k->n+1<=k->k<=maxLen->(∀t,t<n+1->cs[t]? =(Gm xs p x)[t]?)->Ins w w1 z (.slice (some ⟨w.heap.size,0,none⟩) (n+1) k) (n+1) (Gm xs p x):=fun w1 cs k hh h1 h2 h3 hs hk hk2 hg=>
  {own:=⟨by rw[zC,hlen,Nat.mul_one],.inr ⟨w.heap.size,k,cs,rfl,aC _,by rw[hh,Array.getElem?_push,if_pos rfl],hk,hk2,by rw[hs,Nat.mul_one],by rw[Nat.mul_one];exact ahH (by rw[zC,hlen]) hg⟩⟩
   bk:= .inr rfl
   os:=h1
   tape:=h2
   output:=h3
   size:=by rw[hh,Array.size_push];omega
   block:=fun b hb _=>by rw[hh,Array.getElem?_push,if_neg (by omega)]}
 have hend:∀t,p=n->t<n+1->((xs++[x]))[t]? =(Gm xs p x)[t]? :=fun t e _=>by have h1:xs.take p=xs:=List.take_of_length_le (by omega);have h2:xs.drop p=[]:=List.drop_eq_nil_of_le (by omega);rw[Gm,h1,h2]
 rcases hown with⟨rfl,rfl⟩| ⟨g,cap,cur,rfl,_,hh,hnc,hcm,hcs,htk⟩
 ·obtain rfl:p=0:=by omega
  have hxs:xs=[]:=List.length_eq_zero_iff.1 hlen;refine(Any2.slices_Insert_int_end_grow Tryz.laysNm221 none 0 0 vb 0 1 c1 xs [x] w (by omega) (ay _) (by omega) (by omega) hlen rfl (fun _=>rfl) (fun a ha=>by cases ha) hvs h1v).mono ?_;rintro e w' ⟨rfl,rfl⟩;refine⟨_,rfl,new _ _ _ (uM _ _) rfl rfl rfl ?_ (hge 0 (by omega)).1 (hge 0 (by omega)).2 fun t ht=>?_⟩
  ·have:=(hge 0 (ay _)).1;rw[Array.size_append,zc,List.size_toArray,aR,hlen];show 0+1+(grownCap w (0+1) 0 3-(0+1))=grownCap w (0+1) 0 3;omega
  ·rw[←hend t rfl ht,Array.getElem?_append_left (by rw[List.size_toArray,aR,hlen];exact ht),List.getElem?_toArray]
 ·rw[   Nat.mul_one]at hcs htk;have hcell:∀t,w.cell? ⟨g,t,none⟩=cur[t]? :=fun t=>by simp[World.cell?,hh]
  have hx:∀t,t<n->cur[t]? =xs[t]? :=fun t ht=>by rw[←htk,List.getElem?_take,if_pos ht,Array.getElem?_toList]
  have hcsx:∀(j:Nat)(v:Value),xs[j]? =some v->w.cell? ⟨g,0+j,none⟩=some v:=fun j v hj=>by
   have:j<n:=by rw[←hlen];exact(aA.1 hj).1
   rw[Nat.zero_add,hcell,hx j this];exact hj
  have hsp:∀j,j<cap->(w.cell? ⟨g,0+j,none⟩).isSome=true:=fun j hj=>by rw[Nat.zero_add,hcell,Array.getElem?_eq_getElem (by omega)];rfl
  have hfz:∀t,w.frozen? ⟨g,t,none⟩=false:=fun t=>by simp[World.frozen?,hh]
  have hgw:g<w.heap.size:=(Array.getElem?_eq_some_iff.1 hh).1;have hgv:vb≠g:=fun e=>hne (by rw[e];rfl);have same:∀(w1:World)(cs:Array Value),w1.heap[g]? =some (.cells cs 3 (0,0))->cs.size=cap->n+1<=cap->w1.os=w.os->w1.tape=w.tape->w1.output=w.output->w1.heap.size=w.heap.size->(∀b,b≠g->w1.heap[b]? =w.heap[b]?)->(∀t,t<n+1->cs[t]? =(Gm xs p x)[t]?)->Ins w w1 (.slice (some ⟨g,0,none⟩) n cap) (.slice (some ⟨g,0,none⟩) (n+1) cap) (n+1) (Gm xs p x):=fun w1 cs h0 hs hk h1 h2 h3 h4 h5 hg=>
   {    own:=⟨by rw[zC,hlen,Nat.mul_one],.inr ⟨g,cap,cs,rfl,aC _,h0,hk,hcm,by rw[hs,Nat.mul_one],by rw[Nat.mul_one];exact ahH (by rw[zC,hlen]) hg⟩⟩
        bk:= .inl rfl
        os:=h1
        tape:=h2
        output:=h3
        size:=Nat.le_of_eq h4.symm
        block:=fun b _ hb=>h5 b fun e=>hb (by rw[e];rfl)}
  by_cases hpn:p=n
  ·by_cases hroom:n+1<=cap
   ·    have k:=Any2.slices_Insert_int_end_room Tryz.laysNm221 g 0 n cap vb 0 1 c1 [x] w (by omega) hroom (by omega) rfl (fun j hj=>by rw[Nat.add_assoc];exact hsp _ (by omega)) (fun j _=>hfz _) hvs h1v;rw[hpn];rw[hpn]at same hend;refine k.mono ?_;rintro e w' ⟨rfl,rfl⟩;obtain⟨c2,g1,g2,g3⟩:=SN [x] (0+n) w hh;obtain⟨r1,r2,r3,r4⟩:=SQ g [x] (0+n) w;refine⟨_,rfl,same _ c2 g1 (by rw[g2,hcs]) hroom r1 r2 r3 r4 (fun b hb=>SI _ _ _ _ hb) fun t ht=>?_⟩;rw[g3 t (by omega),←hend t rfl ht];by_cases h:t<n;·rw[if_neg (by omega),hx t h,List.getElem?_append_left (by omega)]
        ·have e:t=n:=by omega
         subst e;rw[if_pos (by simp),List.getElem?_append_right (by omega),hlen];simp
   ·    have k:=Any2.slices_Insert_int_end_grow Tryz.laysNm221 (some ⟨g,0,none⟩) n cap vb 0 1 c1 xs [x] w (by omega) hnc (by omega) (by omega) hlen rfl (fun h=>by cases h) (fun a ha j v hj=>by cases ha;rw[Addr.add_lit];exact hcsx j v hj) hvs h1v;rw[hpn];rw[hpn]at new hend;have hcn:cap=n:=by omega
        refine k.mono ?_;rintro e w' ⟨rfl,rfl⟩;have hg1:=grownCap_ge w (n+1) cap 3;have hg2:=grownCap_le_maxLen w (n+1) cap 3 (by rw[hml];omega);refine⟨_,rfl,new _ _ _ (uM _ _) rfl rfl rfl ?_ hg1 hg2 fun t ht=>?_⟩
        ·rw[Array.size_append,zc,List.size_toArray,aR,hlen];show n+1+(grownCap w (n+1) cap 3-(n+1))=grownCap w (n+1) cap 3;omega
        ·rw[←hend t rfl ht,Array.getElem?_append_left (by rw[List.size_toArray,aR,hlen];exact ht),List.getElem?_toArray]
  ·have hlt:p<n:=by omega
   by_cases hroom:n+1<=cap
   ·    refine(Any2.slices_Insert_int_shift Tryz.laysNm221 g 0 n cap p vb 0 1 c1 xs [x] w hlt (by omega) hroom (by omega) hgv hlen rfl hcsx (fun j hj=>hsp j (by omega)) (fun j _=>hfz _) hvs hone h1v 3 3 cu.size cur.size (by simp[World.shape?,hvb]) (by simp[World.shape?,hh]) (by omega) (by simp[World.frozen?,hvb]) (by simp[World.frozen?,hvb])).mono ?_;rintro e w' ⟨rfl,rfl⟩;obtain⟨c2,g1,g2,g3⟩:=SN (xs.drop p) (0+(p+1)) w.drew (show w.drew.heap[g]? =_ from hh);obtain⟨c3,q1,q2,q3⟩:=SN [x] (0+p) _ g1;obtain⟨r1,r2,r3,r4⟩:=SQ g (xs.drop p) (0+(p+1)) w.drew;obtain⟨s1,s2,s3,s4⟩:=SQ g [x] (0+p) (w.drew.setCells g (0+(p+1)) (xs.drop p));refine⟨_,rfl,same _ c3 q1 (by rw[q2,g2,hcs]) hroom (s1.trans r1) (s2.trans r2) (s3.trans r3) (s4.trans r4) (fun b hb=>(SI _ _ _ _ hb).trans (SI _ _ _ _ hb)) fun t ht=>?_⟩;have hdl:(xs.drop p).length=n-p:=by rw[List.length_drop,hlen]
        rw[q3 t (by omega),g3 t (by omega),Ns (by omega),hdl,List.length_singleton];by_cases h1:t<p;·rw[if_neg (by omega),if_neg (by omega),if_pos h1,hx t (by omega)]
        ·by_cases h2:t=p
         ·rw[if_pos (by omega),if_neg h1,if_pos h2,h2];simp
         ·rw[if_neg (by omega),if_pos (by omega),if_neg h1,if_neg h2,List.getElem?_drop];congr 1;omega
   ·    have hcn:cap=n:=by omega
        refine(Any2.slices_Insert_int_grow Tryz.laysNm221 g 0 n cap p vb 0 1 c1 xs [x] w hlt (by omega) hnc (by omega) (by omega) hlen rfl hcsx hvs hone h1v).mono ?_;rintro e w' ⟨rfl,rfl⟩;have hg1:=grownCap_ge w (n+1) cap 3;have hg2:=grownCap_le_maxLen w (n+1) cap 3 (by rw[hml];omega);obtain⟨cA,hcA⟩:∃cA,cA=(xs.take p).toArray++Builtin.zeroCells (Value.int .i64 0).cells (n+1-p)++Builtin.zeroCells (Value.int .i64 0).cells (grownCap w (n+1) cap 3-(n+1)):=⟨_,rfl⟩;have htl:(xs.take p).length=p:=by rw[List.length_take,hlen];omega
        have hsz:cA.size=grownCap w (n+1) cap 3:=by rw[hcA,Array.size_append,Array.size_append,zc,zc,List.size_toArray,htl];omega
        have hA:((w.alloc (.cells cA 3)).drew).heap[w.heap.size]? =some (.cells cA 3 (0,0)):=by show (w.alloc _).heap[w.heap.size]? =_;rw[uM,Array.getElem?_push,if_pos rfl]
        obtain⟨c2,g1,g2,g3⟩:=SN [x] p _ hA;obtain⟨c3,q1,q2,q3⟩:=SN (xs.drop p) (p+1) (((w.alloc (.cells cA 3)).drew.setCells w.heap.size p [x]).drew) (show (((w.alloc (.cells cA 3)).drew.setCells w.heap.size p [x]).drew).heap[w.heap.size]? =_ from g1);obtain⟨r1,r2,r3,r4⟩:=SQ w.heap.size [x] p ((w.alloc (.cells cA 3)).drew);obtain⟨s1,s2,s3,s4⟩:=SQ w.heap.size (xs.drop p) (p+1) (((w.alloc (.cells cA 3)).drew.setCells w.heap.size p [x]).drew);have hdl:(xs.drop p).length=n-p:=by rw[List.length_drop,hlen]
        have hsz2:(w.alloc (.cells cA 3)).heap.size=w.heap.size+1:=by rw[uM,Array.size_push]
        have hG:∀t,t<n+1->c3[t]? =(Gm xs p x)[t]? :=fun t ht=>by
         rw[q3 t (by omega),g3 t (by omega),Ns (by omega),hdl,List.length_singleton];by_cases h1:t<p;·rw[if_neg (by omega),if_neg (by omega),if_pos h1,hcA,Array.getElem?_append_left (by rw[Array.size_append,List.size_toArray,htl];omega),Array.getElem?_append_left (by rw[List.size_toArray,htl];exact h1),List.getElem?_toArray,List.getElem?_take,if_pos h1]
         ·by_cases h2:t=p
          ·rw[if_neg (by omega),if_pos (by omega),if_neg h1,if_pos h2,h2];simp
          ·rw[if_pos (by omega),if_neg h1,if_neg h2,List.getElem?_drop];congr 1;omega
        simp only[show Tryz.laysNm221_ren.t 3=3 from rfl,←hcA];refine⟨_,rfl,⟨⟨by rw[zC,hlen,Nat.mul_one],.inr ⟨w.heap.size,grownCap w (n+1) cap 3,c3,rfl,aC _,q1,hg1,hg2,by rw[q2,g2,hsz,Nat.mul_one],by rw[Nat.mul_one];exact ahH (by rw[zC,hlen]) hG⟩⟩,.inr rfl,s1.trans r1,s2.trans r2,s3.trans r3,?_,fun b hb _=>?_⟩⟩
        ·have:(((w.alloc (.cells cA 3)).drew.setCells w.heap.size p [x]).drew.setCells w.heap.size (p+1) (xs.drop p)).heap.size=(w.alloc (.cells cA 3)).heap.size:=s4.trans r4;show w.heap.size<=(((w.alloc (.cells cA 3)).drew.setCells w.heap.size p [x]).drew.setCells w.heap.size (p+1) (xs.drop p)).heap.size;omega
        ·have hne':b≠w.heap.size:=by omega
         refine(SI _ _ _ _ hne').trans ((SI w.heap.size [x] p ((w.alloc (.cells cA 3)).drew) hne').trans ?_);show (w.alloc _).heap[b]? =_;rw[uM,Array.getElem?_push,if_neg hne']
end Go.Proofs.YtjibjkdalajaiaaGreatDoor
namespace Go.Proofs.YtjibjkdalajaiaaGreatDoor
open Go.RowKit Go.Am
def lu(i:Int)(s vs:List Dt):Option (List Dt):=bif decide (0<=i)&&(decide (i<=(s.length:Int))&&(Nat.beq vs.length 1&&Nat.ble s.length 1000000))then some (s.take i.toNat++vs++s.drop i.toNat)else none
set_option maxRecDepth 100000 in
theorem c3i:Tryz.prog.cellsOf 3=1:=by kernel_rfl
theorem af6{i:Int}{s vs r:List Dt}(h:lu i s vs=some r):FX Tryz.prog 61 [.row 0,.dat 3 (.int i),.row 1] [.row 74 s,.row 74 vs] (.row 2) [.gone,.gone,.row 74 r]:=by
 unfold lu at h;obtain⟨hc,h2⟩:=aJ h;cases h2;have h0:=of_decide_eq_true (aG hc);have h1:=of_decide_eq_true (aG (aB hc));have h2:=beq_eq (aG (aB (aB hc)));have h3:=aL (aB (aB (aB hc)));obtain⟨p,rfl⟩:∃m:Nat,i=m:=⟨i.toNat,by omega⟩;rw[Int.toNat_natCast];obtain⟨d0,rfl⟩:∃d,vs=[d]:=by
  match vs,h2 with
  | [d],_=>exact⟨d,rfl⟩
 intro ok w β zs hok hobs hsep hvs _;obtain⟨z0,rest,rfl,hz0,hvs⟩:∃z0 rest,zs=z0::rest∧RV Tryz.prog ok w β (.row 0) z0∧RVsX Tryz.prog ok w β [.dat 3 (.int p),.row 1] rest:=by cases hvs with|cons h r=>exact⟨_,_,rfl,h,r⟩
 obtain⟨zi,rest,rfl,hzi,hvs⟩:∃z0 rest',rest=z0::rest'∧RV Tryz.prog ok w β (.dat 3 (.int p)) z0∧RVsX Tryz.prog ok w β [.row 1] rest':=by cases hvs with|cons h r=>exact⟨_,_,rfl,h,r⟩
 obtain⟨z1,rest,rfl,hz1,hvs⟩:∃z0 rest',rest=z0::rest'∧RV Tryz.prog ok w β (.row 1) z0∧RVsX Tryz.prog ok w β [] rest':=by cases hvs with|cons h r=>exact⟨_,_,rfl,h,r⟩
 cases hvs;obtain⟨_,rfl,_⟩:=RV.int Tryz.underlying3 hzi;have hb0:β 0=some z0:=by
  have:=hz0.2 rfl;cases this with
  |row h _=>exact h
 have hb1:β 1=some z1:=by
  have:=hz1.2 rfl;cases this with
  |row h _=>exact h
 obtain⟨E,z,xs,e0,hu,hown,hone,hrd⟩:=hobs 0;obtain rfl:z0=z:=by rw[hb0]at e0;exact Option.some.inj e0
 obtain rfl:E=3:=by have:=hu.symm.trans (Tryz.underlying74);simpa using this
 obtain⟨E,z,ys,e1,hu1,hown1,hone1,hrd1⟩:=hobs 1;obtain rfl:z1=z:=by rw[hb1]at e1;exact Option.some.inj e1
 obtain rfl:E=3:=by have:=hu1.symm.trans (Tryz.underlying74);simpa using this
 rw[c3i]at hown hrd hown1 hrd1;obtain⟨hl1,hown1⟩:=hown1;rcases hown1 with⟨_,h0⟩| ⟨vb,c1,cu,rfl,_,hh1,hn1,hm1,hcs1,htk1⟩;·cases h0
 have hn1:1<=c1:=hn1;have hl1:ys.length=1:=hl1;obtain⟨x,rfl⟩:∃x,ys=[x]:=by
  match ys,hl1 with
  | [x],_=>exact⟨x,rfl⟩
 have hvx:cu[0]? =some x:=by
  have:(cu.toList.take 1)[0]? =some x:=by have e:cu.toList.take ([d0].length*1)=[x]:=htk1;have e:cu.toList.take 1=[x]:=e;rw[e];rfl
  rw[List.getElem?_take,if_pos (by omega),Array.getElem?_toList]at this;exact this
 let hs0:List Ob:=[.row 74 s,.row 74 [d0]]
 have ow1:owns hs0 β 1 vb:=⟨rfl,_,hb1,.inl rfl⟩;have hne:Am.blk z0≠some vb:=fun e=>by have ow0:owns hs0 β 0 vb:=⟨rfl,_,hb0,.inl e⟩;have:=hsep 0 1 vb ow0 ow1;cases this
 have hxl:xs.length=s.length:=by have:=hown.1;rw[Nat.mul_one]at this;exact this
 have walk:=X0 z0 s.length p vb c1 cu xs x w hown hone (hone1 x (by simp)) (by omega) h3 hh1 hvx hm1 hn1 hne;refine walk.mono ?_;rintro e w' ⟨v',rfl,hI⟩;have hz0X:∀b,Am.blk z0=some b->XO hs0 β b:=fun b hb=>⟨0,rfl,_,hb0,.inl hb⟩;have hnt:∀arr,v'≠ .tuple arr:=fun arr e=>by
  rcases hI.own.2 with⟨h,_⟩| ⟨_,_,_,h,_⟩;·rw[h]at e;cases e
  ·rw[h]at e;cases e
 have hown':∀l b,owns [Ob.gone,.gone,.row 74 (s.take p++[d0]++s.drop p)] (upB β 2 (some v')) l b->l=2∧Am.blk v'=some b:=by
  rintro l b ⟨h1,z,h2,h3⟩;match l,h1,h2 with
  |0,h1,_=>cases h1
  |1,h1,_=>cases h1
  |2,_,h2=>rw[dA]at h2;cases h2;exact⟨rfl,h3.of hnt⟩
  |l+3,h1,_=>cases l<;>cases h1
 have hfree:∀l,2<=l->β l=none:=fun l hl=>by
  match l,hl with
  |l+2,_=>
   have h1:=hobs (l+2);have e:lk hs0 (l+2)= .free:=by show lk [] l=_;cases l<;>rfl
   have h1:ObOK Tryz.prog ok w β (lk hs0 (l+2)) (β (l+2)):=h1;rw[e]at h1;exact h1
 have hvlt:vb<w.heap.size:=(Array.getElem?_eq_some_iff.1 hh1).1;refine⟨v',upB β 2 (some v'),rfl,?_,?_⟩
 ·refine⟨ ⟨hI.os,hI.tape,hI.output,hI.size,fun b hb hX=>hI.block b hb fun e=>hX (hz0X b e)⟩,fun l=>?_,fun l l' b h1 h2=>(hown' l b h1).1.trans (hown' l' b h2).1.symm,fun l b h1=>?_,fun l hl=>dX _ _ _ _ (by simp at hl;omega)⟩
  ·have hk  :∀b,ok b->okOf ⟨ok,XO hs0 β,β,2⟩ w w' [Ob.gone,.gone,.row 74 (s.take p++[d0]++s.drop p)] (upB β 2 (some v')) b∧w'.heap[b]? =w.heap[b]? :=fun b hb=>by
        have hbw:=(hok b hb).1;have hnz:Am.blk z0≠some b:=fun e=>(hok b hb).2 (hz0X b e);refine⟨⟨Nat.lt_of_lt_of_le hbw hI.size,fun _=> .inl hb,fun l hl=>?_⟩,hI.block b hbw hnz⟩;have h2:=(hown' l b hl).2;rcases hI.bk with h|h;·exact hnz (h▸h2)
        ·rw[h]at h2;cases h2;omega
   match l with
   |0=>trivial
   |1=>trivial
   |    2=>
        refine⟨3,v',Gm xs p x,dA _ _ _,Tryz.underlying74,?_,?_,?_⟩
        ·rw[c3i];have hl:(s.take p++[d0]++s.drop p).length=s.length+1:=by simp;omega
         rw[hl];exact hI.own
        ·intro c hc;rcases List.mem_append.1 hc with h|h;·exact hone c (List.mem_of_mem_take h)
         ·rcases List.mem_cons.1 h with rfl|h;·exact hone1 _ (by simp)
          ·exact hone c (List.mem_of_mem_drop h)
        ·rw[c3i];intro t d hd;have hseg:∀(l:List Value)(k:Nat),(l.drop (k*1)).take 1=match l[k]? with
          |some u=>[u]
          |none=>[]:=fun l k=>by
          rw[Nat.mul_one];cases hk:l[k]? with
          |none=>rw[List.drop_eq_nil_of_le (List.getElem?_eq_none_iff.1 hk)];rfl
          | some u=>
            obtain⟨h1,h2⟩:=aA.1 hk;rw[aH h1,h2];rfl
         have hget:(Gm xs p x)[t]? =if t<p then xs[t]? else if t=p then some x else xs[t-1]? :=Ns (by omega) t;have hls:(s.take p).length=p:=by rw[List.length_take];omega
         rw[hseg,hget];by_cases h1:t<p
         ·rw[if_pos h1];rw[List.append_assoc,List.getElem?_append_left (by omega),List.getElem?_take,if_pos h1]at hd;have:=(hrd t d hd).mono hk;rw[hseg]at this;exact this
         ·rw[if_neg h1];rw[List.append_assoc,List.getElem?_append_right (by omega),hls]at hd;by_cases h2:t=p
          · rw[if_pos h2];rw[h2,Nat.sub_self]at hd;have hd:d0=d:=by simpa using hd
            have:=(hrd1 0 d (by rw[←hd];rfl)).mono hk;exact this
          · rw[if_neg h2];obtain⟨k,hk2⟩:∃k,t-p=k+1:=⟨t-p-1,by omega⟩;rw[hk2]at hd;have hd:(s.drop p)[k]? =some d:=hd;rw[List.getElem?_drop,show p+k=t-1 by omega]at hd;have:=(hrd (t-1) d hd).mono hk;rw[hseg]at this;exact this
   |    l+3=>
        show ObOK Tryz.prog _ _ _ (lk [] l) (upB β 2 (some v') (l+3));rw[dX _ _ _ _ (by omega),hfree (l+3) (by omega)];cases l<;>exact rfl
  ·have h2:=(hown' l b h1).2;rcases hI.bk with h|h;·exact .inr (hz0X b (h▸h2))
   ·rw[h]at h2;cases h2;exact .inl (ay _)
 ·refine Cb (dA _ _ _) ?_;rcases hI.own.2 with⟨h,_⟩| ⟨_,_,_,h,_⟩<;>rw[h]<;>rfl
