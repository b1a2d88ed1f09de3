/- path.put: its walk, where a list grows. -/
import Derived.Test.YtmjnmiahblaanaaDoorOA
import Derived.Deep.RegionLaw
set_option linter.unusedVariables false
set_option linter.unusedSimpArgs false
namespace Go.Proofs.YtmjnmiahblaanaaDoor
open Go.RowKit Go.Am
theorem Grow.form {w wr:World} {b q:Nat} {arr:Array Value} {T:TypeId} {z0 v:Value} {E:TypeId} {okE:Nat→Prop} {es:List Dt} (h:Grow w b q arr T z0 E okE wr v es):∃A c,v= .slice A es.length c:=by
 obtain⟨xs,h1,_⟩:=h.row
 rcases h1.2 with⟨rfl,h0⟩| ⟨g,cap,cur,rfl,_⟩
 ·exact⟨none,0,by rw[h0]⟩
 ·exact⟨_,_,rfl⟩
theorem below_da (w:World) (o:Obj):Below w.heap.size w (w.alloc o).drew:=⟨rfl,rfl,rfl,by show w.heap.size≤(w.alloc o).heap.size;rw[alloc_size];exact Nat.le_succ _,fun b hb=>alloc_old hb⟩
theorem null_rd (ok:Nat→Prop) (w:World):RD Tryd.prog ok w 36 nullD [.int .i64 2,.int .i64 0,.string ⟨#[]⟩,.slice none 0 0,.slice none 0 0]:=by
 obtain⟨fv,ff,hT⟩:=tV
 exact RD.v_mk hT (RD.nil hT.l) (RD.nil hT.d) (by decide) (by decide) (by decide)
set_option maxHeartbeats 4000000 in
set_option maxRecDepth 1000000 in
theorem put_addL (s0:ByteArray) (ps:List Dt) (kd nd:Int) (sd:ByteArray) (ld fd:List Dt) (hk6:kd=6) (i:Nat) (hi:numV s0=((i:Int),true)) (hi4:i<10000) (hif:¬i<ld.length) {w:World} {b o lo hi':Nat} {arr:Array Value} {T:TypeId} {cs:List Value} {ok:Nat→Prop} {x:Dt} {cx:List Value} {z:Value}
  (hC:PutC w b o lo hi' arr T (.agg [.int kd,.int nd,.str sd,.lst ld,.lst fd]) cs ok) (ht:TabOK ok w) (hp:RD Tryd.prog ok w 23 (.lst (.str s0::ps)) [z]) (hx:RD Tryd.prog ok w 36 x cx):
  Calls Tryd.prog 60 #[.pointer (some ⟨b,o,none⟩),z,.agg cx.toArray] w fun e w'=>e= .returned (.bool true)∧PutR w w' b o lo hi' arr T ok (.agg [.int kd,.int nd,.str sd,.lst (ld++List.replicate (i-ld.length) nullD++[nestD ps x]),.lst fd]):=by
 obtain⟨fv,ff,hT⟩:=tV
 subst hk6
 obtain⟨bp,op,cap,_,e,rfl,hbp,hcap,hcm,hpc,hs0,htail⟩:=path_parts hp
 cases e
 obtain⟨A,hA⟩:∃A:Option Addr,(if cap=1 then some (⟨bp,op,none⟩:Addr) else some ⟨bp,op+1,none⟩)=A:=⟨_,rfl⟩
 have htl:=htail A hA
 obtain⟨kx,nx,sx,lx,fx,x3,x4,hxe,rfl,hlx,hdx,_⟩:=hx.v_inv hT
 obtain⟨a3,p3,_,_,rfl,_⟩:=hlx.elems hT.l (by rw[hT.cv];omega)
 obtain⟨a4,p4,_,_,rfl,_⟩:=hdx.elems hT.d (by rw[hT.cf];omega)
 obtain⟨_,_,_,_,_,d3,d4,_,_,_,e1,rfl,_⟩:=hC.hrt.v_inv hT
 cases e1
 have hbpw:bp<w.heap.size:=(hC.hok _ hbp).1
 have hbw:=hC.lt
 have e0:∀q,(w.alloc q).cell? ⟨b,o,none⟩=some (.int .i64 6):=fun q=>(hC.keep (below_alloc' w q)).cell (j:=0) (by omega) rfl
 have e5:∀q,(w.alloc q).cell? ⟨bp,op,none⟩=some (.string s0):=fun q=>((below_alloc' w q).cell (p:=⟨bp,op,none⟩) hbpw).trans hpc
 obtain⟨A3,q3,hd3⟩:=hC.grow3.form
 have hlen3:ld.length≤137438900000:=by
  have hbk:=hC.hbk
  have:=len_bulk ld
  simp only[Dt.bulk,Dt.bulkL] at hbk
  omega
 obtain⟨W0,hW0⟩:∃W0,W0=w.alloc (.cells #[.int .i64 kx,.int .i64 nx,.string sx,.slice a3 lx.length p3,.slice a4 fx.length p4] 36):=⟨_,rfl⟩
 have b0:Below w.heap.size w W0:=by rw[hW0];exact below_alloc' w _
 have s0':W0.heap.size=w.heap.size+1:=by rw[hW0,alloc_size]
 have t0:W0.heap[w.heap.size]? =some (.cells #[.int .i64 kx,.int .i64 nx,.string sx,.slice a3 lx.length p3,.slice a4 fx.length p4] 36 (0,0)):=by rw[hW0,alloc_at]
 have hfc:∀W:World,Below W0.heap.size W0 W→Calls Tryd.prog 20 #[.string s0] W fun e w'=>e= .returned (.tuple #[.int .i64 (i:Int),.bool true])∧Hid (Below W0.heap.size W0 w')∧w'.cell? ⟨b,o+3,none⟩=some (.slice A3 ld.length q3):=fun W hW=>by
  have q:=below_via b0 hW b0.size
  have h:=number_call (ok:=ok) (w:=W) (s:=s0) (fun c hc=>Nat.lt_of_lt_of_le (hC.hok c hc).1 q.size) (ht.mono fun c hc=>⟨hc,q.block c (hC.hok c hc).1⟩) hs0
  refine h.mono ?_
  rintro e w' ⟨rfl,hb⟩
  have hb':=below_via hW hb hW.size
  have q2:=below_via b0 hb' b0.size
  exact⟨by rw[hi],hb',by rw[←hd3];exact(hC.keep q2).cell (j:=3) (by omega) rfl⟩
 have hil:¬(i:Int)<(ld.length:Int):=by omega
 have A0:Hid (W0=w.alloc (.cells #[.int .i64 kx,.int .i64 nx,.string sx,.slice a3 lx.length p3,.slice a4 fx.length p4] 36)):=hW0
 have HC:Hid (PutC W0 b o lo hi' arr T (.agg [.int 6,.int nd,.str sd,.lst ld,.lst fd]) [.int .i64 6,.int .i64 nd,.string sd,d3,d4] ok):=hC.keep b0
 have HB0:Hid (Below w.heap.size w W0∧b<w.heap.size∧hi'≤w.heap.size∧W0.heap.size=w.heap.size+1):=⟨b0,hC.lt,hC.hhi,s0'⟩
 have HX:Hid (RD Tryd.prog ok W0 36 x [.int .i64 kx,.int .i64 nx,.string sx,.slice a3 lx.length p3,.slice a4 fx.length p4]∧RD Tryd.prog ok W0 23 (.lst ps) [.slice A ps.length (cap-1)]∧TabOK ok W0∧d3= .slice A3 ld.length q3∧W0.heap[w.heap.size]? =some (.cells #[.int .i64 kx,.int .i64 nx,.string sx,.slice a3 lx.length p3,.slice a4 fx.length p4] 36 (0,0))):=⟨hx.mono fun c hc=>⟨hc,b0.block c (hC.hok c hc).1⟩,htl.mono fun c hc=>⟨hc,b0.block c (hC.hok c hc).1⟩,ht.mono fun c hc=>⟨hc,b0.block c (hC.hok c hc).1⟩,hd3,t0⟩
 clear hC hx hp htail htl ht hlx hdx hxe b0 s0' t0 hi hd3
 show Calls Tryd.prog 60 #[.pointer (some ⟨b,o,none⟩),.slice (some ⟨bp,op,none⟩) (ps.length+1) cap,.agg #[.int .i64 kx,.int .i64 nx,.string sx,.slice a3 lx.length p3,.slice a4 fx.length p4]] w _
 go_enter Tryd.func60,Tryd.ntmps60
 go_wp2_with (go_at_call 20;refine(hfc _ ?_).mono ?_;(rw[A0.out];exact Below.refl _ _);rintro e w1 ⟨rfl,hX1,q1⟩)
 clear hfc e0 e5
 go_loopg [] (i-ld.length) (fun g wr=>∃(j:Nat) (v:Value),j≤i-ld.length∧g=i-ld.length-j∧Grow W0 b (o+3) arr T d3 36 (okE0 ok W0 b lo hi' d3) wr v (ld++List.replicate j nullD)∧wr.heap[w.heap.size]? =some (.cells #[.int .i64 kx,.int .i64 nx,.string sx,.slice a3 lx.length p3,.slice a4 fx.length p4] 36 (0,0)))
 case atStart=>
  refine⟨0,d3,Nat.zero_le _,rfl,?_,(hX1.out.block _ ?_).trans HX.out.2.2.2.2⟩
  ·rw[List.replicate_zero,List.append_nil];exact HC.out.grow3.keep hX1.out
  ·rw[HB0.out.2.2.2];omega
 case round=>
  obtain⟨j,v,hj,rfl,hG,hbox⟩:=hrel
  obtain⟨A1,c1,rfl⟩:=hG.form
  obtain⟨L,hL⟩:∃L,(ld++List.replicate j nullD).length=L:=⟨_,rfl⟩
  have hL':L=ld.length+j:=by rw[←hL];simp
  have hcell:wr.cell? ⟨b,o+3,none⟩=some (.slice A1 L c1):=by
   have hho:=HC.out.ho
   rw[cell_at hG.hb,Array.getElem?_setIfInBounds,if_pos rfl,if_pos (by omega),hL]
  by_cases hjl:j<i-ld.length
  ·have hLi:(L:Int)<(i:Int):=by omega
   have hGG:Hid (Grow W0 b (o+3) arr T d3 36 (okE0 ok W0 b lo hi' d3) wr (.slice A1 (ld++List.replicate j nullD).length c1) (ld++List.replicate j nullD)):=hG
   have hG2:=hG
   rw[hL] at hG2
   obtain⟨xs,hx1,hx2,hx3⟩:=hG.row
   have hbB:=hG.hb
   have hv:=hG.hv
   have hlt:=hG.lt
   rw[hT.cv,hL] at hx1
   rw[hL] at hv
   obtain⟨i0,hi0,hz0,hz1,hz2⟩:=info_parts (show (Tryd.prog.info? 36).map (fun i=>(i.zero,i.size,i.bytes))=some (some (.agg zV),5,80) by kernel_rfl)
   obtain⟨WA,hWA⟩:∃WA,(wr.alloc (.cells #[Value.int IntKind.i64 0,Value.int IntKind.i64 0,Value.string ⟨#[]⟩,Value.slice none 0 0,Value.slice none 0 0] 36)).drew=WA:=⟨_,rfl⟩
   have hbelA:Below wr.heap.size wr WA:=by rw[←hWA];exact below_da wr _
   have hnews:∀(j:Nat) (u:Value),zV.toList[j]? =some u→WA.cell? ((⟨wr.heap.size,0,none⟩:Addr).add j)=some u:=by
        rw[←hWA];exact World.news_of_block (show (wr.alloc _).drew.heap[wr.heap.size]? =_ from alloc_at wr zV 36)
   have hownA:WA.ownsRow 0 36 5 (.slice A1 L c1) L xs:=ownsRow_of_block hx1 fun g hg=>hbelA.block g ((own_blk hx1).2 g hg)
   have hfx:∀(g cp:Nat) (w2:World),w2.ownsRow 0 36 5 (.slice (some ⟨g,0,none⟩) (L+1) cp) (L+1) (xs++zV.toList)→WA.grownBy w2 (Value.slice A1 L c1).ownBlock→((Value.slice A1 L c1).ownBlock=some g∨g=WA.heap.size)→∃v0 v1 v2 v3 v4,w2.cell? ⟨g,L*5,none⟩=some v0∧w2.cell? ⟨g,L*5+1,none⟩=some v1∧w2.cell? ⟨g,L*5+2,none⟩=some v2∧w2.cell? ⟨g,L*5+3,none⟩=some v3∧w2.cell? ⟨g,L*5+4,none⟩=some v4∧(∀t,w2.frozen? ⟨g,t,none⟩=false)∧w2.cell? ⟨b,o+3,none⟩=some (.slice A1 L c1)∧(∀t,w2.frozen? ⟨b,t,none⟩=false)∧¬g=b∧¬b=g:=by
        intro g cp w2 h1 h2 h3
        have hob:=(own_blk hownA).1
        rw[hob] at h2 h3
        have hne:g≠b:=by
          rcases h3 with h3|h3
          ·exact(hv g h3).1
          ·have:=hbelA.size;omega
        have hbb:w2.heap[b]? =some (.cells (arr.setIfInBounds (o+3) (.slice A1 L c1)) T (0,0)):=by
          rw[h2.block b (Nat.lt_of_lt_of_le hlt hbelA.size) (fun e=>(hv b e.symm).1 rfl),hbelA.block b hlt,hbB,hL]
        have hho:=HC.out.ho
        rcases h1.2 with⟨e,_⟩| ⟨g',cp',cur,e,_,hg,hncap,hcm,hcsz,htk⟩
        ·cases e
        · injection e with e1 e2 e3
          injection e1 with e1
          injection e1 with e1
          subst e1 e3
          have hmul:(L+1)*5≤cp*5:=Nat.mul_le_mul_right _ hncap
          have hget:∀t,t<cp*5→∃v,cur[t]? =some v:=fun t ht=>⟨_,Array.getElem?_eq_getElem (by omega)⟩
          obtain⟨v0,q0⟩:=hget (L*5) (by omega)
          obtain⟨v1,q1⟩:=hget (L*5+1) (by omega)
          obtain⟨v2,q2⟩:=hget (L*5+2) (by omega)
          obtain⟨v3,q3⟩:=hget (L*5+3) (by omega)
          obtain⟨v4,q4⟩:=hget (L*5+4) (by omega)
          refine⟨v0,v1,v2,v3,v4,(cell_at hg).trans q0,(cell_at hg).trans q1,(cell_at hg).trans q2,(cell_at hg).trans q3,(cell_at hg).trans q4,fun t=>froz_at hg,?_,fun t=>froz_at hbb,hne,fun e=>hne e.symm⟩
          rw[cell_at hbb,Array.getElem?_setIfInBounds,if_pos rfl,if_pos (by omega)]
   have hfin:∀(g cp:Nat) (w2 w3:World),w2.ownsRow 0 36 5 (.slice (some ⟨g,0,none⟩) (L+1) cp) (L+1) (xs++zV.toList)→WA.grownBy w2 (Value.slice A1 L c1).ownBlock→((Value.slice A1 L c1).ownBlock=some g∨g=WA.heap.size)→
          (w3=(((((w2.setCell ⟨g,L*5,none⟩ (.int .i64 2)).setCell ⟨g,L*5+1,none⟩ (.int .i64 0)).setCell ⟨g,L*5+2,none⟩ (.string ⟨#[]⟩)).setCell ⟨g,L*5+3,none⟩ (.slice none 0 0)).setCell ⟨g,L*5+4,none⟩ (.slice none 0 0)).setCell ⟨b,o+3,none⟩ (.slice (some ⟨g,0,none⟩) (L+1) cp)∨w3=(((((w2.setCell ⟨b,o+3,none⟩ (.slice (some ⟨g,0,none⟩) (L+1) cp)).setCell ⟨g,L*5,none⟩ (.int .i64 2)).setCell ⟨g,L*5+1,none⟩ (.int .i64 0)).setCell ⟨g,L*5+2,none⟩ (.string ⟨#[]⟩)).setCell ⟨g,L*5+3,none⟩ (.slice none 0 0)).setCell ⟨g,L*5+4,none⟩ (.slice none 0 0))→
          ∃(j':Nat) (v:Value),j'≤i-ld.length∧i-ld.length-(j+1)=i-ld.length-j'∧Grow W0 b (o+3) arr T d3 36 (okE0 ok W0 b lo hi' d3) w3 v (ld++List.replicate j' nullD)∧w3.heap[w.heap.size]? =some (.cells #[.int .i64 kx,.int .i64 nx,.string sx,.slice a3 lx.length p3,.slice a4 fx.length p4] 36 (0,0)):=by
        intro g cp w2 w3 h1 h2 h3 h4
        replace h4:w3=(w2.setCells g (L*5) [.int .i64 2,.int .i64 0,.string ⟨#[]⟩,.slice none 0 0,.slice none 0 0]).setCell ⟨b,o+3,none⟩ (.slice (some ⟨g,0,none⟩) (L+1) cp)∨w3=(w2.setCell ⟨b,o+3,none⟩ (.slice (some ⟨g,0,none⟩) (L+1) cp)).setCells g (L*5) [.int .i64 2,.int .i64 0,.string ⟨#[]⟩,.slice none 0 0,.slice none 0 0]:=h4
        have hE:=hG2.hE
        have hv':=hG2.hv
        have hob:=(own_blk hownA).1
        have hbs:=hG2.below.size
        have hAs:=hbelA.size
        have h2s:=h2.size
        have hw:=HB0.out.2.2.2
        have hho:=HC.out.ho
        have hgv:∀c,c<wr.heap.size→blk (.slice A1 L c1)≠some c→c≠g:=fun c hc hne e=>by
          subst e
          rcases h3 with h3|h3
          ·rw[hob] at h3;exact hne h3
          ·omega
        obtain⟨q1,q2,q3⟩:=(hG2.keep hbelA).stepAB (okE':=okE0 ok W0 b lo hi' d3) (x:=nullD) (ec:=[.int .i64 2,.int .i64 0,.string ⟨#[]⟩,.slice none 0 0,.slice none 0 0]) (w3:=w3) (zs:=zV.toList) (g:=g) (cap:=cp) (w1:=w2) (by omega) hL (by rw[hT.cv];exact hownA) ⟨hx2,fun i d hd=>(hx3 i d hd).mono fun c hc=>⟨hc,hbelA.block c (hE c hc).1⟩⟩ (by rw[hT.cv];exact h1) h2 h3 (by rw[hT.cv];rfl) (by rw[hT.cv];exact h4) (fun c hc=>hc) (fun c hc=>⟨by have:=(hE c hc).1;omega,(hE c hc).2.1,hgv c (hE c hc).1 (hE c hc).2.2⟩) (null_rd _ _)
        refine⟨j+1,_,by omega,rfl,by rw[List.replicate_succ',←List.append_assoc];exact q1,?_⟩
        have hbl:=HB0.out.2.1
        have hnv:blk (.slice A1 L c1)≠some w.heap.size:=fun e=>by
          rcases(hv _ e).2 with e2|e2
          ·have:=HC.out.blk3 _ e2;have:=HB0.out.2.2.1;omega
          ·omega
        rw[q3 _ (by omega) (hgv _ (by omega) hnv),h2.block _ (by omega) (fun e=>hnv (by rw[←hob,←e])),hbelA.block _ (by omega)]
        exact hbox
   have hR0:Hid (wr.ownsRow 0 36 5 (.slice A1 L c1) L xs∧(∀c∈xs,c.oneCell'=true)∧∀(i:Nat) (d:Dt),(ld++List.replicate j nullD)[i]? =some d→RD Tryd.prog (okE0 ok W0 b lo hi' d3) wr 36 d ((xs.drop (i*Tryd.prog.cellsOf 36)).take (Tryd.prog.cellsOf 36))):=⟨hx1,hx2,hx3⟩
   have hBA:Hid (Below wr.heap.size wr WA):=hbelA
   have hWA':Hid ((wr.alloc (.cells #[Value.int IntKind.i64 0,Value.int IntKind.i64 0,Value.string ⟨#[]⟩,Value.slice none 0 0,Value.slice none 0 0] 36)).drew=WA):=hWA
   have hnewsH:Hid (∀(j:Nat) (u:Value),zV.toList[j]? =some u→WA.cell? ((⟨wr.heap.size,0,none⟩:Addr).add j)=some u):=hnews
   clear hG hG2 hx1 hx2 hx3 hbB hv hbelA hnews hWA
   have hHA:Hid (WA.ownsRow 0 36 5 (.slice A1 L c1) L xs):=hownA
   clear hownA
   have hLH:Hid (L=ld.length+j∧(ld++List.replicate j nullD).length=L):=⟨hL',hL⟩
   have hLm:L≤137438910000:=by omega
   have hLL:(L:Int)<(L:Int)+1:=by omega
   clear hL hL'
   go_wp2
   go_region_law (
        refine step_append_lies _ rfl (.tmp 99) (.tmp 102) 33 rfl 0 36 i0 (.agg zV) 5 80 Tryd.underlying33 hi0 hz0 hz1 hz2 rfl (by omega) (.slice A1 L c1) L xs (by simp[Act.eval,Act.put]) (by rw[hWA'.out];exact hHA.out) ⟨wr.heap.size,0,none⟩ 1 1 zV.toList (by simp[Act.eval,Act.put]) rfl (by rw[hWA'.out];exact hnewsH.out) (by decide) (by omega) (by unfold maxLen;omega) (by omega) (Nat.zero_le _) _ rfl ?_
        rw[hWA'.out]
        intro g cp w2 hown2 hgr hat hglt
        obtain⟨v0,v1,v2,v3,v4,f0,f1,f2,f3,f4,ff,fb,fbf,fn1,fn2⟩:=hfx g cp w2 hown2 hgr hat)
   all_goals go_wp2
   all_goals go_roundg (i-ld.length-(j+1))
   all_goals (first|(case measure=>omega)|skip)
   all_goals (first|(refine hfin g cp w2 _ hown2 hgr hat (Or.inl ?_);with_reducible rfl)|(refine hfin g cp w2 _ hown2 hgr hat (Or.inr ?_);with_reducible rfl))
  ·have hjeq    : j=i-ld.length:=by omega
   subst hjeq
   have hLi:¬(L:Int)<(i:Int):=by omega
   have hG2:=hG
   rw[hL] at hG2
   obtain⟨xs,hx1,hx2,hx3⟩:=hG.row
   rw[hT.cv,hL] at hx1
   have hv:=hG2.hv
   have hlt:=hG.lt
   have hbB:=hG.hb
   have hE:=hG2.hE
   have hob:=(own_blk hx1).1
   have hoblt:=(own_blk hx1).2
   have hw1:=HB0.out.2.2.2
   have hbl:=HB0.out.2.1
   have hho:=HC.out.ho
   have hrs:=hG.below.size
   have hnv:blk (.slice A1 L c1)≠some w.heap.size:=fun e=>by
        rcases(hv _ e).2 with e2|e2
        ·have:=HC.out.blk3 _ e2;have:=HB0.out.2.2.1;omega
        ·omega
   have hnb:blk (.slice A1 L c1)≠some b:=fun e=>(hv b e).1 rfl
   have hown:∀WA:World,Below wr.heap.size wr WA→WA.ownsRow 0 36 5 (.slice A1 L c1) L xs:=fun WA hW=>ownsRow_of_block hx1 fun g hg=>hW.block g (hoblt g hg)
   have hbcell:∀W:World,W.heap[b]? =wr.heap[b]? →W.cell? ⟨b,o+3,none⟩=some (.slice A1 L c1):=fun W hW=>by
        rw[cell_at (hW.trans hbB),Array.getElem?_setIfInBounds,if_pos rfl,if_pos (by omega),hL]
   have hnc:∀W:World,Below wr.heap.size wr W→Calls Tryd.prog 74 #[.slice A ps.length (cap-1),.agg #[.int .i64 kx,.int .i64 nx,.string sx,.slice a3 lx.length p3,.slice a4 fx.length p4]] W fun e w'=>∃k n s x3 y3 z3 x4 y4 z4,e= .returned (.agg #[.int .i64 k,.int .i64 n,.string s,.slice x3 y3 z3,.slice x4 y4 z4])∧Hid (Below wr.heap.size wr W∧Below W.heap.size W w'∧RD Tryd.prog (fun c=>c<w'.heap.size∧(c<W.heap.size→ok c)) w' 36 (nestD ps x) [.int .i64 k,.int .i64 n,.string s,.slice x3 y3 z3,.slice x4 y4 z4])∧
          w'.cell? ⟨w.heap.size,0,none⟩=some (.int .i64 kx)∧w'.cell? ⟨w.heap.size,1,none⟩=some (.int .i64 nx)∧w'.cell? ⟨w.heap.size,2,none⟩=some (.string sx)∧w'.cell? ⟨w.heap.size,3,none⟩=some (.slice a3 lx.length p3)∧w'.cell? ⟨w.heap.size,4,none⟩=some (.slice a4 fx.length p4)∧w'.cell? ⟨b,o+3,none⟩=some (.slice A1 L c1)∧b<w'.heap.size:=fun W hW=>by
        have hk:∀c,ok c→ok c∧W.heap[c]? =W0.heap[c]? :=fun c hc=>by
          obtain⟨u1,u2,u3⟩:=HC.out.hok c hc
          refine⟨hc,(hW.block c (Nat.lt_of_lt_of_le u1 hrs)).trans (hG.below.block c u1 ?_)⟩
          rintro(e|e)
          ·exact u2 e
          ·have:=HC.out.blk3 _ e;omega
        have h:=nest_call (ok:=ok) (w:=W) (fun c hc=>Nat.lt_of_lt_of_le (HC.out.hok c hc).1 (Nat.le_trans hrs hW.size)) (HX.out.2.2.1.mono hk) (HX.out.2.1.mono hk) (HX.out.1.mono hk)
        refine h.mono ?_
        rintro e w' ⟨k,n,s,x3,y3,z3,x4,y4,z4,rfl,h1,h2⟩
        have hb':=below_via hW h1 hW.size
        have u:=(hb'.block w.heap.size (by omega)).trans hbox
        exact⟨k,n,s,x3,y3,z3,x4,y4,z4,rfl,⟨hW,h1,h2⟩,cell_at u,cell_at u,cell_at u,cell_at u,cell_at u,hbcell _ (hb'.block b hlt),Nat.lt_of_lt_of_le hlt hb'.size⟩
   have hfx:∀(WA:World),Below wr.heap.size wr WA→∀(g cp:Nat) (w2:World),w2.ownsRow 0 36 5 (.slice (some ⟨g,0,none⟩) (L+1) cp) (L+1) (xs++zV.toList)→WA.grownBy w2 (Value.slice A1 L c1).ownBlock→((Value.slice A1 L c1).ownBlock=some g∨g=WA.heap.size)→∃v0 v1 v2 v3 v4,w2.cell? ⟨g,L*5,none⟩=some v0∧w2.cell? ⟨g,L*5+1,none⟩=some v1∧w2.cell? ⟨g,L*5+2,none⟩=some v2∧w2.cell? ⟨g,L*5+3,none⟩=some v3∧w2.cell? ⟨g,L*5+4,none⟩=some v4∧(∀t,w2.frozen? ⟨g,t,none⟩=false)∧w2.cell? ⟨b,o+3,none⟩=some (.slice A1 L c1)∧(∀t,w2.frozen? ⟨b,t,none⟩=false)∧¬g=b∧¬b=g∧¬g=w.heap.size∧¬w.heap.size=g∧
          w2.cell? ⟨w.heap.size,0,none⟩=some (.int .i64 kx)∧w2.cell? ⟨w.heap.size,1,none⟩=some (.int .i64 nx)∧w2.cell? ⟨w.heap.size,2,none⟩=some (.string sx)∧w2.cell? ⟨w.heap.size,3,none⟩=some (.slice a3 lx.length p3)∧w2.cell? ⟨w.heap.size,4,none⟩=some (.slice a4 fx.length p4):=by
        intro WA hWA g cp w2 h1 h2 h3
        rw[hob] at h2 h3
        have hAs:=hWA.size
        have hne:g≠b:=by
          rcases h3 with h3|h3
          ·exact(hv g h3).1
          ·omega
        have hnw:g≠w.heap.size:=by
          rcases h3 with h3|h3
          ·intro e;rw[e] at h3;exact hnv h3
          ·omega
        have hbb:w2.heap[b]? =wr.heap[b]? :=(h2.block b (Nat.lt_of_lt_of_le hlt hWA.size) (fun e=>hnb e.symm)).trans (hWA.block b hlt)
        have u:w2.heap[w.heap.size]? =_:=(h2.block w.heap.size (by omega) (fun e=>hnv e.symm)).trans ((hWA.block _ (by omega)).trans hbox)
        rcases h1.2 with⟨e,_⟩| ⟨g',cp',cur,e,_,hg,hncap,hcm,hcsz,htk⟩
        ·cases e
        · injection e with e1 e2 e3
          injection e1 with e1
          injection e1 with e1
          subst e1 e3
          have hmul:(L+1)*5≤cp*5:=Nat.mul_le_mul_right _ hncap
          have hget:∀t,t<cp*5→∃v,cur[t]? =some v:=fun t ht=>⟨_,Array.getElem?_eq_getElem (by omega)⟩
          obtain⟨v0,q0⟩:=hget (L*5) (by omega)
          obtain⟨v1,q1⟩:=hget (L*5+1) (by omega)
          obtain⟨v2,q2⟩:=hget (L*5+2) (by omega)
          obtain⟨v3,q3⟩:=hget (L*5+3) (by omega)
          obtain⟨v4,q4⟩:=hget (L*5+4) (by omega)
          exact⟨v0,v1,v2,v3,v4,(cell_at hg).trans q0,(cell_at hg).trans q1,(cell_at hg).trans q2,(cell_at hg).trans q3,(cell_at hg).trans q4,fun t=>froz_at hg,hbcell _ hbb,fun t=>froz_at (hbb.trans hbB),hne,fun e=>hne e.symm,hnw,fun e=>hnw e.symm,cell_at u,cell_at u,cell_at u,cell_at u,cell_at u⟩
   have hfin:∀(W w3 WA:World) (g cp:Nat) (w2 w':World) (kn nn:Int) (sn:ByteArray) (c3 c4:Value),Below wr.heap.size wr W→Below W.heap.size W w3→Below w3.heap.size w3 WA→RD Tryd.prog (fun c=>c<w3.heap.size∧(c<W.heap.size→ok c)) w3 36 (nestD ps x) [.int .i64 kn,.int .i64 nn,.string sn,c3,c4]→
          w2.ownsRow 0 36 5 (.slice (some ⟨g,0,none⟩) (L+1) cp) (L+1) (xs++zV.toList)→WA.grownBy w2 (Value.slice A1 L c1).ownBlock→((Value.slice A1 L c1).ownBlock=some g∨g=WA.heap.size)→
          (w'=(((((w2.setCell ⟨g,L*5,none⟩ (.int .i64 kn)).setCell ⟨g,L*5+1,none⟩ (.int .i64 nn)).setCell ⟨g,L*5+2,none⟩ (.string sn)).setCell ⟨g,L*5+3,none⟩ c3).setCell ⟨g,L*5+4,none⟩ c4).setCell ⟨b,o+3,none⟩ (.slice (some ⟨g,0,none⟩) (L+1) cp)∨
            w'=((((((w2.setCell ⟨b,o+3,none⟩ (.slice (some ⟨g,0,none⟩) (L+1) cp)).setCell ⟨g,L*5,none⟩ (.int .i64 kn)).setCell ⟨g,L*5+1,none⟩ (.int .i64 nn)).setCell ⟨g,L*5+2,none⟩ (.string sn)).setCell ⟨g,L*5+3,none⟩ c3).setCell ⟨g,L*5+4,none⟩ c4))→
          PutR w w' b o lo hi' arr T ok (.agg [.int 6,.int nd,.str sd,.lst (ld++List.replicate (i-ld.length) nullD++[nestD ps x]),.lst fd]):=by
        intro W w3 WA g cp w2 w' kn nn sn c3 c4 k1 k2 k3 hrd h1 h2 h3 h4
        replace h4:w'=(w2.setCells g (L*5) [.int .i64 kn,.int .i64 nn,.string sn,c3,c4]).setCell ⟨b,o+3,none⟩ (.slice (some ⟨g,0,none⟩) (L+1) cp)∨w'=(w2.setCell ⟨b,o+3,none⟩ (.slice (some ⟨g,0,none⟩) (L+1) cp)).setCells g (L*5) [.int .i64 kn,.int .i64 nn,.string sn,c3,c4]:=h4
        have k12:=below_via k1 k2 k1.size
        have kA:=below_via k12 k3 k12.size
        have s1:=k1.size
        have s2:=k2.size
        have s3:=k3.size
        have h2s:=h2.size
        have hN:∀c,c<w3.heap.size→(c<W.heap.size→ok c)→c≠b∧blk (.slice A1 L c1)≠some c∧(c<W0.heap.size→ok c):=fun c hc1 hc2=>by
          rcases Nat.lt_or_ge c W.heap.size with hlt'|hge
          · have hk:=HC.out.hok c (hc2 hlt')
            refine⟨hk.2.1,fun e=>?_,fun _=>hc2 hlt'⟩
            rcases(hv c e).2 with e2|e2
            ·have:=HC.out.blk3 _ e2;omega
            ·omega
          ·exact⟨by omega,fun e=>by have:=hoblt c e;omega,fun h=>by omega⟩
        have hgN:∀c,c<WA.heap.size→blk (.slice A1 L c1)≠some c→c≠g:=fun c hc hne e=>by
          subst e
          rcases h3 with h3|h3
          ·rw[hob] at h3;exact hne h3
          ·omega
        have hrd2:RD Tryd.prog (fun c=>okE0 ok W0 b lo hi' d3 c∨(c<w3.heap.size∧(c<W.heap.size→ok c))) w2 36 (nestD ps x) [.int .i64 kn,.int .i64 nn,.string sn,c3,c4]:=hrd.mono fun c hc=>⟨.inr hc,(h2.block c (by omega) (fun e=>(hN c hc.1 hc.2).2.1 (by rw[←hob,←e]))).trans (k3.block c hc.1)⟩
        obtain⟨q1,q2,q3⟩:=(hG2.keep kA).stepAB (okE':=fun c=>okE0 ok W0 b lo hi' d3 c∨(c<w3.heap.size∧(c<W.heap.size→ok c))) (x:=nestD ps x) (ec:=[.int .i64 kn,.int .i64 nn,.string sn,c3,c4]) (w3:=w') (zs:=zV.toList) (g:=g) (cap:=cp) (w1:=w2) (by omega) hL (by rw[hT.cv];exact hown WA kA) ⟨hx2,fun i d hd=>(hx3 i d hd).mono fun c hc=>⟨hc,kA.block c (hE c hc).1⟩⟩ (by rw[hT.cv];exact h1) h2 h3 (by rw[hT.cv];rfl) (by rw[hT.cv];exact h4) (fun c hc=> .inl hc) (fun c hc=>by
            rcases hc with hc|hc
            ·exact⟨by have:=(hE c hc).1;omega,(hE c hc).2.1,hgN c (by have:=(hE c hc).1;omega) (hE c hc).2.2⟩
            ·exact⟨by omega,(hN c hc.1 hc.2).1,hgN c (by omega) (hN c hc.1 hc.2).2.1⟩) hrd2
        have hR:=HC.out.grown3 q1 (fun c hc=>by
          rcases hc with hc|hc
          ·exact⟨by have:=(hE c hc).1;omega,(hE c hc).2.1,fun _=>hc.2.2.2⟩
          ·exact⟨by omega,(hN c hc.1 hc.2).1,fun hlt'=> .inl ((hN c hc.1 hc.2).2.2 hlt')⟩)
        exact hR.from HB0.out.1 HB0.out.2.1 HB0.out.2.2.1
   have g0:wr.cell? ⟨w.heap.size,0,none⟩=some (.int .i64 kx):=cell_at hbox
   have g1:wr.cell? ⟨w.heap.size,1,none⟩=some (.int .i64 nx):=cell_at hbox
   have g2:wr.cell? ⟨w.heap.size,2,none⟩=some (.string sx):=cell_at hbox
   have g3:wr.cell? ⟨w.heap.size,3,none⟩=some (.slice a3 lx.length p3):=cell_at hbox
   have g4:wr.cell? ⟨w.heap.size,4,none⟩=some (.slice a4 fx.length p4):=cell_at hbox
   have hpl:(1:Int)≤(ps.length:Int)+1:=by omega
   obtain⟨i0,hi0,hz0,hz1,hz2⟩:=info_parts (show (Tryd.prog.info? 36).map (fun i=>(i.zero,i.size,i.bytes))=some (some (.agg zV),5,80) by kernel_rfl)
   have hLm:L≤137438910000:=by omega
   have hLL:(L:Int)<(L:Int)+1:=by omega
   have hnb1:¬b=w.heap.size:=by omega
   have hnb2:¬w.heap.size=b:=by omega
   have hnr:¬wr.heap.size=w.heap.size:=by omega
   have hnr2:¬w.heap.size=wr.heap.size:=by omega
   have hO:Hid (∀WA:World,Below wr.heap.size wr WA→WA.ownsRow 0 36 5 (.slice A1 L c1) L xs):=hown
   clear hG hG2 hL hL' hx1 hx2 hx3 hv hbB hE hob hoblt hw1 hbl hho hrs hnv hnb hown hbcell hbox
   go_wp2
   refine wp_region_noPanic ?_
   refine wp_region_held_drew (S:=(fun W=>W.cell? ⟨w.heap.size,0,none⟩=some (.int .i64 kx)∧W.cell? ⟨w.heap.size,1,none⟩=some (.int .i64 nx)∧W.cell? ⟨w.heap.size,2,none⟩=some (.string sx)∧W.cell? ⟨w.heap.size,3,none⟩=some (.slice a3 lx.length p3)∧W.cell? ⟨w.heap.size,4,none⟩=some (.slice a4 fx.length p4))) (by kernel_rfl) ?_ (fun hHeld=>?_)
   · ((try dsimp only);go_keep)
   refine wpAnyH_take (i:=0) (v:=?_) (by simp only[List.getElem?_toArray,List.getElem?_cons_succ,List.getElem?_cons_zero];rfl) (by kernel_rfl) (by kernel_rfl) (by kernel_rfl) (fun _ _ _ h=>h) (Or.inl ⟨by rfl,?_⟩) (by assumption) ?_
   rotate_left
   · (intro w hSw;(try dsimp only at hSw);go_simp;try with_reducible rfl)
   (try simp only[Act.put,List.setIfInBounds_toArray,List.set_cons_zero,List.set_cons_succ])
   refine wpAnyH_take (i:=1) (v:=?_) (by simp only[List.getElem?_toArray,List.getElem?_cons_succ,List.getElem?_cons_zero];rfl) (by kernel_rfl) (by kernel_rfl) (by kernel_rfl) (fun _ _ _ h=>h) (Or.inl ⟨by rfl,?_⟩) (by assumption) ?_
   rotate_left
   · (intro w hSw;(try dsimp only at hSw);go_simp;try with_reducible rfl)
   (try simp only[Act.put,List.setIfInBounds_toArray,List.set_cons_zero,List.set_cons_succ])
   refine wpAnyH_take (i:=2) (v:=?_) (by simp only[List.getElem?_toArray,List.getElem?_cons_succ,List.getElem?_cons_zero];rfl) (by kernel_rfl) (by kernel_rfl) (by kernel_rfl) (fun _ _ _ h=>h) (Or.inl ⟨by rfl,?_⟩) (by assumption) ?_
   rotate_left
   · (intro w hSw;(try dsimp only at hSw);go_simp;try with_reducible rfl)
   (try simp only[Act.put,List.setIfInBounds_toArray,List.set_cons_zero,List.set_cons_succ])
   refine wpAnyH_take (i:=4) (v:=?_) (by simp only[List.getElem?_toArray,List.getElem?_cons_succ,List.getElem?_cons_zero];rfl) (by kernel_rfl) (by kernel_rfl) (by kernel_rfl) (fun _ _ _ h=>h) (Or.inl ⟨by rfl,?_⟩) (by assumption) ?_
   rotate_left
   · (intro w hSw;(try dsimp only at hSw);go_simp;try with_reducible rfl)
   (try simp only[Act.put,List.setIfInBounds_toArray,List.set_cons_zero,List.set_cons_succ])
   refine wpAnyH_take (i:=5) (v:=?_) (by simp only[List.getElem?_toArray,List.getElem?_cons_succ,List.getElem?_cons_zero];rfl) (by kernel_rfl) (by kernel_rfl) (by kernel_rfl) (fun _ _ _ h=>h) (Or.inl ⟨by rfl,?_⟩) (by assumption) ?_
   rotate_left
   · (intro w hSw;(try dsimp only at hSw);go_simp;try with_reducible rfl)
   (try simp only[Act.put,List.setIfInBounds_toArray,List.set_cons_zero,List.set_cons_succ])
   refine wpAnyH_take (i:=6) (v:=?_) (by simp only[List.getElem?_toArray,List.getElem?_cons_succ,List.getElem?_cons_zero];rfl) (by kernel_rfl) (by kernel_rfl) (by kernel_rfl) (fun _ _ _ h=>h) (Or.inl ⟨by rfl,?_⟩) (by assumption) ?_
   rotate_left
   · (intro w hSw;(try dsimp only at hSw);go_simp;try with_reducible rfl)
   (try simp only[Act.put,List.setIfInBounds_toArray,List.set_cons_zero,List.set_cons_succ])
   refine wpAnyH_ready (rs:=[3,7,9]) (by kernel_rfl) (by simp) ?_
   refine(AllReadyH.cons (by simp only[List.getElem?_toArray,List.getElem?_cons_succ,List.getElem?_cons_zero];rfl) (fun K hK=>?_) (AllReadyH.cons (by simp only[List.getElem?_toArray,List.getElem?_cons_succ,List.getElem?_cons_zero];rfl) (fun K hK=>?_) (AllReadyH.cons (by simp only[List.getElem?_toArray,List.getElem?_cons_succ,List.getElem?_cons_zero];rfl) (fun K hK=>?_) AllReadyH.nil)))
   ·    (go_simp)
        refine hK.out _ _ ?_ (fun hNew=>?_)
        · ((try dsimp only);go_keep)
        clear hHeld;have hHeld:=hNew;clear hNew hK K
        (try simp only[Act.put,List.setIfInBounds_toArray,List.set_cons_zero,List.set_cons_succ])
        refine wpAnyH_take (i:=8) (v:=?_) (by simp only[List.getElem?_toArray,List.getElem?_cons_succ,List.getElem?_cons_zero];rfl) (by kernel_rfl) (by kernel_rfl) (by kernel_rfl) (fun _ _ _ h=>h) (Or.inl ⟨by rfl,?_⟩) (by assumption) ?_
        rotate_left
        · (intro w hSw;(try dsimp only at hSw);go_simp;try with_reducible rfl)
        (try simp only[Act.put,List.setIfInBounds_toArray,List.set_cons_zero,List.set_cons_succ])
        refine wpAnyH_ready (rs:=[7,9]) (by kernel_rfl) (by simp) ?_
        refine(AllReadyH.cons (by simp only[List.getElem?_toArray,List.getElem?_cons_succ,List.getElem?_cons_zero];rfl) (fun K hK=>?_) (AllReadyH.cons (by simp only[List.getElem?_toArray,List.getElem?_cons_succ,List.getElem?_cons_zero];rfl) (fun K hK=>?_) AllReadyH.nil))
        · (go_simp;(go_at_call 74;refine(hnc _ ?_).mono ?_;(first|exact below_drew _ _|exact below_da _ _);rintro e w3 ⟨kn,nn,sn,x3,y3,z3,x4,y4,z4,rfl,hXn,r0,r1,r2,r3,r4,r5,r6⟩);go_wp2_with fail)
          refine hK.out _ _ ?_ (fun hNew=>?_)
          · ((try dsimp only);go_keep)
          clear hHeld;have hHeld:=hNew;clear hNew hK K
          (try simp only[Act.put,List.setIfInBounds_toArray,List.set_cons_zero,List.set_cons_succ])
          refine wpAnyH_ready (rs:=[9]) (by kernel_rfl) (by simp) ?_
          refine(AllReadyH.cons (by simp only[List.getElem?_toArray,List.getElem?_cons_succ,List.getElem?_cons_zero];rfl) (fun K hK=>?_) AllReadyH.nil)
          · (go_simp)
            refine hK.out _ _ ?_ (fun hNew=>?_)
            · ((try dsimp only);go_keep)
            clear hHeld;have hHeld:=hNew;clear hNew hK K
            (try simp only[Act.put,List.setIfInBounds_toArray,List.set_cons_zero,List.set_cons_succ])
            refine wpAnyH_ready (rs:=[10]) (by kernel_rfl) (by simp) ?_
            refine(AllReadyH.cons (by simp only[List.getElem?_toArray,List.getElem?_cons_succ,List.getElem?_cons_zero];rfl) (fun K hK=>?_) AllReadyH.nil)
            · ((refine step_append_lies _ rfl (.tmp 110) (.tmp 116) 33 rfl 0 36 i0 (.agg zV) 5 80 Tryd.underlying33 hi0 hz0 hz1 hz2 rfl (by omega) (.slice A1 L c1) L xs (by simp[Act.eval,Act.put]) (hO.out _ (below_via (below_via hXn.out.1 hXn.out.2.1 hXn.out.1.size) (below_alloc' w3 _) (Nat.le_trans hXn.out.1.size hXn.out.2.1.size))) ⟨w3.heap.size,0,none⟩ 1 1 zV.toList (by simp[Act.eval,Act.put]) rfl (World.news_of_block (alloc_at w3 zV 36)) (by decide) (by omega) (by unfold maxLen;omega) (by omega) (Nat.zero_le _) _ rfl ?_;intro g cp w2 hown2 hgr hat hglt;obtain⟨v0,v1,v2,v3,v4,f0,f1,f2,f3,f4,ff,fb,fbf,fn1,fn2,fn3,fn4,u0,u1,u2,u3,u4⟩:=hfx _ (below_via (below_via hXn.out.1 hXn.out.2.1 hXn.out.1.size) (below_alloc' w3 _) (Nat.le_trans hXn.out.1.size hXn.out.2.1.size)) g cp w2 hown2 hgr hat))
              refine hK.out _ _ ?_ (fun hNew=>?_)
              · ((try dsimp only);go_keep)
              clear hHeld;have hHeld:=hNew;clear hNew hK K
              (try simp only[Act.put,List.setIfInBounds_toArray,List.set_cons_zero,List.set_cons_succ])
              refine wpAnyH_take (i:=11) (v:=?_) (by simp only[List.getElem?_toArray,List.getElem?_cons_succ,List.getElem?_cons_zero];rfl) (by kernel_rfl) (by kernel_rfl) (by kernel_rfl) (fun _ _ _ h=>h) (Or.inl ⟨by rfl,?_⟩) (by assumption) ?_
              rotate_left
              · (intro w hSw;(try dsimp only at hSw);go_simp;try with_reducible rfl)
              (try simp only[Act.put,List.setIfInBounds_toArray,List.set_cons_zero,List.set_cons_succ])
              refine wpAnyH_take (i:=13) (v:=?_) (by simp only[List.getElem?_toArray,List.getElem?_cons_succ,List.getElem?_cons_zero];rfl) (by kernel_rfl) (by kernel_rfl) (by kernel_rfl) (fun _ _ _ h=>h) (Or.inl ⟨by rfl,?_⟩) (by assumption) ?_
              rotate_left
              · (intro w hSw;(try dsimp only at hSw);go_simp;try with_reducible rfl)
              (try simp only[Act.put,List.setIfInBounds_toArray,List.set_cons_zero,List.set_cons_succ])
              refine wpAnyH_take (i:=14) (v:=?_) (by simp only[List.getElem?_toArray,List.getElem?_cons_succ,List.getElem?_cons_zero];rfl) (by kernel_rfl) (by kernel_rfl) (by kernel_rfl) (fun _ _ _ h=>h) (Or.inl ⟨by rfl,?_⟩) (by assumption) ?_
              rotate_left
              · (intro w hSw;(try dsimp only at hSw);go_simp;try with_reducible rfl)
              (try simp only[Act.put,List.setIfInBounds_toArray,List.set_cons_zero,List.set_cons_succ])
              refine wpAnyH_ready (rs:=[12,15]) (by kernel_rfl) (by simp) ?_
              refine(AllReadyH.cons (by simp only[List.getElem?_toArray,List.getElem?_cons_succ,List.getElem?_cons_zero];rfl) (fun K hK=>?_) (AllReadyH.cons (by simp only[List.getElem?_toArray,List.getElem?_cons_succ,List.getElem?_cons_zero];rfl) (fun K hK=>?_) AllReadyH.nil))
              · (go_simp)
                refine hK.out _ _ ?_ (fun hNew=>?_)
                · ((try dsimp only);go_keep)
                clear hHeld;have hHeld:=hNew;clear hNew hK K
                (try simp only[Act.put,List.setIfInBounds_toArray,List.set_cons_zero,List.set_cons_succ])
                refine wpAnyH_ready (rs:=[15]) (by kernel_rfl) (by simp) ?_
                refine(AllReadyH.cons (by simp only[List.getElem?_toArray,List.getElem?_cons_succ,List.getElem?_cons_zero];rfl) (fun K hK=>?_) AllReadyH.nil)
                · (go_simp)
                  refine hK.out _ _ ?_ (fun hNew=>?_)
                  · ((try dsimp only);go_keep)
                  clear hHeld;have hHeld:=hNew;clear hNew hK K
                  (try simp only[Act.put,List.setIfInBounds_toArray,List.set_cons_zero,List.set_cons_succ])
                  refine wpAnyH_done (by kernel_rfl) ?_ _
                  refine NoPanic.normal ?_
                  go_wp2
                  go_ret
                  first|(refine⟨rfl,hfin _ w3 _ g cp w2 _ kn nn sn _ _ hXn.out.1 hXn.out.2.1 ?_ hXn.out.2.2 hown2 hgr hat (Or.inl ?_)⟩;(first|exact below_alloc' _ _|exact Below.refl _ _);with_reducible rfl)|(refine⟨rfl,hfin _ w3 _ g cp w2 _ kn nn sn _ _ hXn.out.1 hXn.out.2.1 ?_ hXn.out.2.2 hown2 hgr hat (Or.inr ?_)⟩;(first|exact below_alloc' _ _|exact Below.refl _ _);with_reducible rfl)
              · (go_simp)
                refine hK.out _ _ ?_ (fun hNew=>?_)
                · ((try dsimp only);go_keep)
                clear hHeld;have hHeld:=hNew;clear hNew hK K
                (try simp only[Act.put,List.setIfInBounds_toArray,List.set_cons_zero,List.set_cons_succ])
                refine wpAnyH_ready (rs:=[12]) (by kernel_rfl) (by simp) ?_
                refine(AllReadyH.cons (by simp only[List.getElem?_toArray,List.getElem?_cons_succ,List.getElem?_cons_zero];rfl) (fun K hK=>?_) AllReadyH.nil)
                · (go_simp)
                  refine hK.out _ _ ?_ (fun hNew=>?_)
                  · ((try dsimp only);go_keep)
                  clear hHeld;have hHeld:=hNew;clear hNew hK K
                  (try simp only[Act.put,List.setIfInBounds_toArray,List.set_cons_zero,List.set_cons_succ])
                  refine wpAnyH_done (by kernel_rfl) ?_ _
                  refine NoPanic.normal ?_
                  go_wp2
                  go_ret
                  first|(refine⟨rfl,hfin _ w3 _ g cp w2 _ kn nn sn _ _ hXn.out.1 hXn.out.2.1 ?_ hXn.out.2.2 hown2 hgr hat (Or.inl ?_)⟩;(first|exact below_alloc' _ _|exact Below.refl _ _);with_reducible rfl)|(refine⟨rfl,hfin _ w3 _ g cp w2 _ kn nn sn _ _ hXn.out.1 hXn.out.2.1 ?_ hXn.out.2.2 hown2 hgr hat (Or.inr ?_)⟩;(first|exact below_alloc' _ _|exact Below.refl _ _);with_reducible rfl)
        · (go_simp)
          refine hK.out _ _ ?_ (fun hNew=>?_)
          · ((try dsimp only);go_keep)
          clear hHeld;have hHeld:=hNew;clear hNew hK K
          (try simp only[Act.put,List.setIfInBounds_toArray,List.set_cons_zero,List.set_cons_succ])
          refine wpAnyH_ready (rs:=[7]) (by kernel_rfl) (by simp) ?_
          refine(AllReadyH.cons (by simp only[List.getElem?_toArray,List.getElem?_cons_succ,List.getElem?_cons_zero];rfl) (fun K hK=>?_) AllReadyH.nil)
          · (go_simp;(go_at_call 74;refine(hnc _ ?_).mono ?_;(first|exact below_drew _ _|exact below_da _ _);rintro e w3 ⟨kn,nn,sn,x3,y3,z3,x4,y4,z4,rfl,hXn,r0,r1,r2,r3,r4,r5,r6⟩);go_wp2_with fail)
            refine hK.out _ _ ?_ (fun hNew=>?_)
            · ((try dsimp only);go_keep)
            clear hHeld;have hHeld:=hNew;clear hNew hK K
            (try simp only[Act.put,List.setIfInBounds_toArray,List.set_cons_zero,List.set_cons_succ])
            refine wpAnyH_ready (rs:=[10]) (by kernel_rfl) (by simp) ?_
            refine(AllReadyH.cons (by simp only[List.getElem?_toArray,List.getElem?_cons_succ,List.getElem?_cons_zero];rfl) (fun K hK=>?_) AllReadyH.nil)
            · ((refine step_append_lies _ rfl (.tmp 110) (.tmp 116) 33 rfl 0 36 i0 (.agg zV) 5 80 Tryd.underlying33 hi0 hz0 hz1 hz2 rfl (by omega) (.slice A1 L c1) L xs (by simp[Act.eval,Act.put]) (hO.out _ (below_via hXn.out.1 hXn.out.2.1 hXn.out.1.size)) ⟨wr.heap.size,0,none⟩ 1 1 zV.toList (by simp[Act.eval,Act.put]) rfl (World.news_of_block ((hXn.out.2.1.block wr.heap.size (show wr.heap.size<(wr.alloc _).heap.size by rw[alloc_size];omega)).trans (show (wr.alloc _).drew.heap[wr.heap.size]? =_ from alloc_at wr zV 36))) (by decide) (by omega) (by unfold maxLen;omega) (by omega) (Nat.zero_le _) _ rfl ?_;intro g cp w2 hown2 hgr hat hglt;obtain⟨v0,v1,v2,v3,v4,f0,f1,f2,f3,f4,ff,fb,fbf,fn1,fn2,fn3,fn4,u0,u1,u2,u3,u4⟩:=hfx _ (below_via hXn.out.1 hXn.out.2.1 hXn.out.1.size) g cp w2 hown2 hgr hat))
              refine hK.out _ _ ?_ (fun hNew=>?_)
              · ((try dsimp only);go_keep)
              clear hHeld;have hHeld:=hNew;clear hNew hK K
              (try simp only[Act.put,List.setIfInBounds_toArray,List.set_cons_zero,List.set_cons_succ])
              refine wpAnyH_take (i:=11) (v:=?_) (by simp only[List.getElem?_toArray,List.getElem?_cons_succ,List.getElem?_cons_zero];rfl) (by kernel_rfl) (by kernel_rfl) (by kernel_rfl) (fun _ _ _ h=>h) (Or.inl ⟨by rfl,?_⟩) (by assumption) ?_
              rotate_left
              · (intro w hSw;(try dsimp only at hSw);go_simp;try with_reducible rfl)
              (try simp only[Act.put,List.setIfInBounds_toArray,List.set_cons_zero,List.set_cons_succ])
              refine wpAnyH_take (i:=13) (v:=?_) (by simp only[List.getElem?_toArray,List.getElem?_cons_succ,List.getElem?_cons_zero];rfl) (by kernel_rfl) (by kernel_rfl) (by kernel_rfl) (fun _ _ _ h=>h) (Or.inl ⟨by rfl,?_⟩) (by assumption) ?_
              rotate_left
              · (intro w hSw;(try dsimp only at hSw);go_simp;try with_reducible rfl)
              (try simp only[Act.put,List.setIfInBounds_toArray,List.set_cons_zero,List.set_cons_succ])
              refine wpAnyH_take (i:=14) (v:=?_) (by simp only[List.getElem?_toArray,List.getElem?_cons_succ,List.getElem?_cons_zero];rfl) (by kernel_rfl) (by kernel_rfl) (by kernel_rfl) (fun _ _ _ h=>h) (Or.inl ⟨by rfl,?_⟩) (by assumption) ?_
              rotate_left
              · (intro w hSw;(try dsimp only at hSw);go_simp;try with_reducible rfl)
              (try simp only[Act.put,List.setIfInBounds_toArray,List.set_cons_zero,List.set_cons_succ])
              refine wpAnyH_ready (rs:=[12,15]) (by kernel_rfl) (by simp) ?_
              refine(AllReadyH.cons (by simp only[List.getElem?_toArray,List.getElem?_cons_succ,List.getElem?_cons_zero];rfl) (fun K hK=>?_) (AllReadyH.cons (by simp only[List.getElem?_toArray,List.getElem?_cons_succ,List.getElem?_cons_zero];rfl) (fun K hK=>?_) AllReadyH.nil))
              · (go_simp)
                refine hK.out _ _ ?_ (fun hNew=>?_)
                · ((try dsimp only);go_keep)
                clear hHeld;have hHeld:=hNew;clear hNew hK K
                (try simp only[Act.put,List.setIfInBounds_toArray,List.set_cons_zero,List.set_cons_succ])
                refine wpAnyH_ready (rs:=[15]) (by kernel_rfl) (by simp) ?_
                refine(AllReadyH.cons (by simp only[List.getElem?_toArray,List.getElem?_cons_succ,List.getElem?_cons_zero];rfl) (fun K hK=>?_) AllReadyH.nil)
                · (go_simp)
                  refine hK.out _ _ ?_ (fun hNew=>?_)
                  · ((try dsimp only);go_keep)
                  clear hHeld;have hHeld:=hNew;clear hNew hK K
                  (try simp only[Act.put,List.setIfInBounds_toArray,List.set_cons_zero,List.set_cons_succ])
                  refine wpAnyH_done (by kernel_rfl) ?_ _
                  refine NoPanic.normal ?_
                  go_wp2
                  go_ret
                  first|(refine⟨rfl,hfin _ w3 _ g cp w2 _ kn nn sn _ _ hXn.out.1 hXn.out.2.1 ?_ hXn.out.2.2 hown2 hgr hat (Or.inl ?_)⟩;(first|exact below_alloc' _ _|exact Below.refl _ _);with_reducible rfl)|(refine⟨rfl,hfin _ w3 _ g cp w2 _ kn nn sn _ _ hXn.out.1 hXn.out.2.1 ?_ hXn.out.2.2 hown2 hgr hat (Or.inr ?_)⟩;(first|exact below_alloc' _ _|exact Below.refl _ _);with_reducible rfl)
              · (go_simp)
                refine hK.out _ _ ?_ (fun hNew=>?_)
                · ((try dsimp only);go_keep)
                clear hHeld;have hHeld:=hNew;clear hNew hK K
                (try simp only[Act.put,List.setIfInBounds_toArray,List.set_cons_zero,List.set_cons_succ])
                refine wpAnyH_ready (rs:=[12]) (by kernel_rfl) (by simp) ?_
                refine(AllReadyH.cons (by simp only[List.getElem?_toArray,List.getElem?_cons_succ,List.getElem?_cons_zero];rfl) (fun K hK=>?_) AllReadyH.nil)
                · (go_simp)
                  refine hK.out _ _ ?_ (fun hNew=>?_)
                  · ((try dsimp only);go_keep)
                  clear hHeld;have hHeld:=hNew;clear hNew hK K
                  (try simp only[Act.put,List.setIfInBounds_toArray,List.set_cons_zero,List.set_cons_succ])
                  refine wpAnyH_done (by kernel_rfl) ?_ _
                  refine NoPanic.normal ?_
                  go_wp2
                  go_ret
                  first|(refine⟨rfl,hfin _ w3 _ g cp w2 _ kn nn sn _ _ hXn.out.1 hXn.out.2.1 ?_ hXn.out.2.2 hown2 hgr hat (Or.inl ?_)⟩;(first|exact below_alloc' _ _|exact Below.refl _ _);with_reducible rfl)|(refine⟨rfl,hfin _ w3 _ g cp w2 _ kn nn sn _ _ hXn.out.1 hXn.out.2.1 ?_ hXn.out.2.2 hown2 hgr hat (Or.inr ?_)⟩;(first|exact below_alloc' _ _|exact Below.refl _ _);with_reducible rfl)
   ·    (go_simp; (go_at_call 74;refine(hnc _ ?_).mono ?_;(first|exact below_drew _ _|exact below_da _ _);rintro e w3 ⟨kn,nn,sn,x3,y3,z3,x4,y4,z4,rfl,hXn,r0,r1,r2,r3,r4,r5,r6⟩);go_wp2_with fail)
        refine hK.out _ _ ?_ (fun hNew=>?_)
        · ((try dsimp only);go_keep)
        clear hHeld;have hHeld:=hNew;clear hNew hK K
        (try simp only[Act.put,List.setIfInBounds_toArray,List.set_cons_zero,List.set_cons_succ])
        refine wpAnyH_ready (rs:=[3,9]) (by kernel_rfl) (by simp) ?_
        refine(AllReadyH.cons (by simp only[List.getElem?_toArray,List.getElem?_cons_succ,List.getElem?_cons_zero];rfl) (fun K hK=>?_) (AllReadyH.cons (by simp only[List.getElem?_toArray,List.getElem?_cons_succ,List.getElem?_cons_zero];rfl) (fun K hK=>?_) AllReadyH.nil))
        · (go_simp)
          refine hK.out _ _ ?_ (fun hNew=>?_)
          · ((try dsimp only);go_keep)
          clear hHeld;have hHeld:=hNew;clear hNew hK K
          (try simp only[Act.put,List.setIfInBounds_toArray,List.set_cons_zero,List.set_cons_succ])
          refine wpAnyH_take (i:=8) (v:=?_) (by simp only[List.getElem?_toArray,List.getElem?_cons_succ,List.getElem?_cons_zero];rfl) (by kernel_rfl) (by kernel_rfl) (by kernel_rfl) (fun _ _ _ h=>h) (Or.inl ⟨by rfl,?_⟩) (by assumption) ?_
          rotate_left
          · (intro w hSw;(try dsimp only at hSw);go_simp;try with_reducible rfl)
          (try simp only[Act.put,List.setIfInBounds_toArray,List.set_cons_zero,List.set_cons_succ])
          refine wpAnyH_ready (rs:=[9]) (by kernel_rfl) (by simp) ?_
          refine(AllReadyH.cons (by simp only[List.getElem?_toArray,List.getElem?_cons_succ,List.getElem?_cons_zero];rfl) (fun K hK=>?_) AllReadyH.nil)
          · (go_simp)
            refine hK.out _ _ ?_ (fun hNew=>?_)
            · ((try dsimp only);go_keep)
            clear hHeld;have hHeld:=hNew;clear hNew hK K
            (try simp only[Act.put,List.setIfInBounds_toArray,List.set_cons_zero,List.set_cons_succ])
            refine wpAnyH_ready (rs:=[10]) (by kernel_rfl) (by simp) ?_
            refine(AllReadyH.cons (by simp only[List.getElem?_toArray,List.getElem?_cons_succ,List.getElem?_cons_zero];rfl) (fun K hK=>?_) AllReadyH.nil)
            · ((refine step_append_lies _ rfl (.tmp 110) (.tmp 116) 33 rfl 0 36 i0 (.agg zV) 5 80 Tryd.underlying33 hi0 hz0 hz1 hz2 rfl (by omega) (.slice A1 L c1) L xs (by simp[Act.eval,Act.put]) (hO.out _ (below_via (below_via hXn.out.1 hXn.out.2.1 hXn.out.1.size) (below_alloc' w3 _) (Nat.le_trans hXn.out.1.size hXn.out.2.1.size))) ⟨w3.heap.size,0,none⟩ 1 1 zV.toList (by simp[Act.eval,Act.put]) rfl (World.news_of_block (alloc_at w3 zV 36)) (by decide) (by omega) (by unfold maxLen;omega) (by omega) (Nat.zero_le _) _ rfl ?_;intro g cp w2 hown2 hgr hat hglt;obtain⟨v0,v1,v2,v3,v4,f0,f1,f2,f3,f4,ff,fb,fbf,fn1,fn2,fn3,fn4,u0,u1,u2,u3,u4⟩:=hfx _ (below_via (below_via hXn.out.1 hXn.out.2.1 hXn.out.1.size) (below_alloc' w3 _) (Nat.le_trans hXn.out.1.size hXn.out.2.1.size)) g cp w2 hown2 hgr hat))
              refine hK.out _ _ ?_ (fun hNew=>?_)
              · ((try dsimp only);go_keep)
              clear hHeld;have hHeld:=hNew;clear hNew hK K
              (try simp only[Act.put,List.setIfInBounds_toArray,List.set_cons_zero,List.set_cons_succ])
              refine wpAnyH_take (i:=11) (v:=?_) (by simp only[List.getElem?_toArray,List.getElem?_cons_succ,List.getElem?_cons_zero];rfl) (by kernel_rfl) (by kernel_rfl) (by kernel_rfl) (fun _ _ _ h=>h) (Or.inl ⟨by rfl,?_⟩) (by assumption) ?_
              rotate_left
              · (intro w hSw;(try dsimp only at hSw);go_simp;try with_reducible rfl)
              (try simp only[Act.put,List.setIfInBounds_toArray,List.set_cons_zero,List.set_cons_succ])
              refine wpAnyH_take (i:=13) (v:=?_) (by simp only[List.getElem?_toArray,List.getElem?_cons_succ,List.getElem?_cons_zero];rfl) (by kernel_rfl) (by kernel_rfl) (by kernel_rfl) (fun _ _ _ h=>h) (Or.inl ⟨by rfl,?_⟩) (by assumption) ?_
              rotate_left
              · (intro w hSw;(try dsimp only at hSw);go_simp;try with_reducible rfl)
              (try simp only[Act.put,List.setIfInBounds_toArray,List.set_cons_zero,List.set_cons_succ])
              refine wpAnyH_take (i:=14) (v:=?_) (by simp only[List.getElem?_toArray,List.getElem?_cons_succ,List.getElem?_cons_zero];rfl) (by kernel_rfl) (by kernel_rfl) (by kernel_rfl) (fun _ _ _ h=>h) (Or.inl ⟨by rfl,?_⟩) (by assumption) ?_
              rotate_left
              · (intro w hSw;(try dsimp only at hSw);go_simp;try with_reducible rfl)
              (try simp only[Act.put,List.setIfInBounds_toArray,List.set_cons_zero,List.set_cons_succ])
              refine wpAnyH_ready (rs:=[12,15]) (by kernel_rfl) (by simp) ?_
              refine(AllReadyH.cons (by simp only[List.getElem?_toArray,List.getElem?_cons_succ,List.getElem?_cons_zero];rfl) (fun K hK=>?_) (AllReadyH.cons (by simp only[List.getElem?_toArray,List.getElem?_cons_succ,List.getElem?_cons_zero];rfl) (fun K hK=>?_) AllReadyH.nil))
              · (go_simp)
                refine hK.out _ _ ?_ (fun hNew=>?_)
                · ((try dsimp only);go_keep)
                clear hHeld;have hHeld:=hNew;clear hNew hK K
                (try simp only[Act.put,List.setIfInBounds_toArray,List.set_cons_zero,List.set_cons_succ])
                refine wpAnyH_ready (rs:=[15]) (by kernel_rfl) (by simp) ?_
                refine(AllReadyH.cons (by simp only[List.getElem?_toArray,List.getElem?_cons_succ,List.getElem?_cons_zero];rfl) (fun K hK=>?_) AllReadyH.nil)
                · (go_simp)
                  refine hK.out _ _ ?_ (fun hNew=>?_)
                  · ((try dsimp only);go_keep)
                  clear hHeld;have hHeld:=hNew;clear hNew hK K
                  (try simp only[Act.put,List.setIfInBounds_toArray,List.set_cons_zero,List.set_cons_succ])
                  refine wpAnyH_done (by kernel_rfl) ?_ _
                  refine NoPanic.normal ?_
                  go_wp2
                  go_ret
                  first|(refine⟨rfl,hfin _ w3 _ g cp w2 _ kn nn sn _ _ hXn.out.1 hXn.out.2.1 ?_ hXn.out.2.2 hown2 hgr hat (Or.inl ?_)⟩;(first|exact below_alloc' _ _|exact Below.refl _ _);with_reducible rfl)|(refine⟨rfl,hfin _ w3 _ g cp w2 _ kn nn sn _ _ hXn.out.1 hXn.out.2.1 ?_ hXn.out.2.2 hown2 hgr hat (Or.inr ?_)⟩;(first|exact below_alloc' _ _|exact Below.refl _ _);with_reducible rfl)
              · (go_simp)
                refine hK.out _ _ ?_ (fun hNew=>?_)
                · ((try dsimp only);go_keep)
                clear hHeld;have hHeld:=hNew;clear hNew hK K
                (try simp only[Act.put,List.setIfInBounds_toArray,List.set_cons_zero,List.set_cons_succ])
                refine wpAnyH_ready (rs:=[12]) (by kernel_rfl) (by simp) ?_
                refine(AllReadyH.cons (by simp only[List.getElem?_toArray,List.getElem?_cons_succ,List.getElem?_cons_zero];rfl) (fun K hK=>?_) AllReadyH.nil)
                · (go_simp)
                  refine hK.out _ _ ?_ (fun hNew=>?_)
                  · ((try dsimp only);go_keep)
                  clear hHeld;have hHeld:=hNew;clear hNew hK K
                  (try simp only[Act.put,List.setIfInBounds_toArray,List.set_cons_zero,List.set_cons_succ])
                  refine wpAnyH_done (by kernel_rfl) ?_ _
                  refine NoPanic.normal ?_
                  go_wp2
                  go_ret
                  first|(refine⟨rfl,hfin _ w3 _ g cp w2 _ kn nn sn _ _ hXn.out.1 hXn.out.2.1 ?_ hXn.out.2.2 hown2 hgr hat (Or.inl ?_)⟩;(first|exact below_alloc' _ _|exact Below.refl _ _);with_reducible rfl)|(refine⟨rfl,hfin _ w3 _ g cp w2 _ kn nn sn _ _ hXn.out.1 hXn.out.2.1 ?_ hXn.out.2.2 hown2 hgr hat (Or.inr ?_)⟩;(first|exact below_alloc' _ _|exact Below.refl _ _);with_reducible rfl)
        · (go_simp)
          refine hK.out _ _ ?_ (fun hNew=>?_)
          · ((try dsimp only);go_keep)
          clear hHeld;have hHeld:=hNew;clear hNew hK K
          (try simp only[Act.put,List.setIfInBounds_toArray,List.set_cons_zero,List.set_cons_succ])
          refine wpAnyH_ready (rs:=[3]) (by kernel_rfl) (by simp) ?_
          refine(AllReadyH.cons (by simp only[List.getElem?_toArray,List.getElem?_cons_succ,List.getElem?_cons_zero];rfl) (fun K hK=>?_) AllReadyH.nil)
          · (go_simp)
            refine hK.out _ _ ?_ (fun hNew=>?_)
            · ((try dsimp only);go_keep)
            clear hHeld;have hHeld:=hNew;clear hNew hK K
            (try simp only[Act.put,List.setIfInBounds_toArray,List.set_cons_zero,List.set_cons_succ])
            refine wpAnyH_take (i:=8) (v:=?_) (by simp only[List.getElem?_toArray,List.getElem?_cons_succ,List.getElem?_cons_zero];rfl) (by kernel_rfl) (by kernel_rfl) (by kernel_rfl) (fun _ _ _ h=>h) (Or.inl ⟨by rfl,?_⟩) (by assumption) ?_
            rotate_left
            · (intro w hSw;(try dsimp only at hSw);go_simp;try with_reducible rfl)
            (try simp only[Act.put,List.setIfInBounds_toArray,List.set_cons_zero,List.set_cons_succ])
            refine wpAnyH_ready (rs:=[10]) (by kernel_rfl) (by simp) ?_
            refine(AllReadyH.cons (by simp only[List.getElem?_toArray,List.getElem?_cons_succ,List.getElem?_cons_zero];rfl) (fun K hK=>?_) AllReadyH.nil)
            · ((refine step_append_lies _ rfl (.tmp 110) (.tmp 116) 33 rfl 0 36 i0 (.agg zV) 5 80 Tryd.underlying33 hi0 hz0 hz1 hz2 rfl (by omega) (.slice A1 L c1) L xs (by simp[Act.eval,Act.put]) (hO.out _ (below_via (below_via hXn.out.1 hXn.out.2.1 hXn.out.1.size) (below_alloc' w3 _) (Nat.le_trans hXn.out.1.size hXn.out.2.1.size))) ⟨w3.heap.size,0,none⟩ 1 1 zV.toList (by simp[Act.eval,Act.put]) rfl (World.news_of_block (alloc_at w3 zV 36)) (by decide) (by omega) (by unfold maxLen;omega) (by omega) (Nat.zero_le _) _ rfl ?_;intro g cp w2 hown2 hgr hat hglt;obtain⟨v0,v1,v2,v3,v4,f0,f1,f2,f3,f4,ff,fb,fbf,fn1,fn2,fn3,fn4,u0,u1,u2,u3,u4⟩:=hfx _ (below_via (below_via hXn.out.1 hXn.out.2.1 hXn.out.1.size) (below_alloc' w3 _) (Nat.le_trans hXn.out.1.size hXn.out.2.1.size)) g cp w2 hown2 hgr hat))
              refine hK.out _ _ ?_ (fun hNew=>?_)
              · ((try dsimp only);go_keep)
              clear hHeld;have hHeld:=hNew;clear hNew hK K
              (try simp only[Act.put,List.setIfInBounds_toArray,List.set_cons_zero,List.set_cons_succ])
              refine wpAnyH_take (i:=11) (v:=?_) (by simp only[List.getElem?_toArray,List.getElem?_cons_succ,List.getElem?_cons_zero];rfl) (by kernel_rfl) (by kernel_rfl) (by kernel_rfl) (fun _ _ _ h=>h) (Or.inl ⟨by rfl,?_⟩) (by assumption) ?_
              rotate_left
              · (intro w hSw;(try dsimp only at hSw);go_simp;try with_reducible rfl)
              (try simp only[Act.put,List.setIfInBounds_toArray,List.set_cons_zero,List.set_cons_succ])
              refine wpAnyH_take (i:=13) (v:=?_) (by simp only[List.getElem?_toArray,List.getElem?_cons_succ,List.getElem?_cons_zero];rfl) (by kernel_rfl) (by kernel_rfl) (by kernel_rfl) (fun _ _ _ h=>h) (Or.inl ⟨by rfl,?_⟩) (by assumption) ?_
              rotate_left
              · (intro w hSw;(try dsimp only at hSw);go_simp;try with_reducible rfl)
              (try simp only[Act.put,List.setIfInBounds_toArray,List.set_cons_zero,List.set_cons_succ])
              refine wpAnyH_take (i:=14) (v:=?_) (by simp only[List.getElem?_toArray,List.getElem?_cons_succ,List.getElem?_cons_zero];rfl) (by kernel_rfl) (by kernel_rfl) (by kernel_rfl) (fun _ _ _ h=>h) (Or.inl ⟨by rfl,?_⟩) (by assumption) ?_
              rotate_left
              · (intro w hSw;(try dsimp only at hSw);go_simp;try with_reducible rfl)
              (try simp only[Act.put,List.setIfInBounds_toArray,List.set_cons_zero,List.set_cons_succ])
              refine wpAnyH_ready (rs:=[12,15]) (by kernel_rfl) (by simp) ?_
              refine(AllReadyH.cons (by simp only[List.getElem?_toArray,List.getElem?_cons_succ,List.getElem?_cons_zero];rfl) (fun K hK=>?_) (AllReadyH.cons (by simp only[List.getElem?_toArray,List.getElem?_cons_succ,List.getElem?_cons_zero];rfl) (fun K hK=>?_) AllReadyH.nil))
              · (go_simp)
                refine hK.out _ _ ?_ (fun hNew=>?_)
                · ((try dsimp only);go_keep)
                clear hHeld;have hHeld:=hNew;clear hNew hK K
                (try simp only[Act.put,List.setIfInBounds_toArray,List.set_cons_zero,List.set_cons_succ])
                refine wpAnyH_ready (rs:=[15]) (by kernel_rfl) (by simp) ?_
                refine(AllReadyH.cons (by simp only[List.getElem?_toArray,List.getElem?_cons_succ,List.getElem?_cons_zero];rfl) (fun K hK=>?_) AllReadyH.nil)
                · (go_simp)
                  refine hK.out _ _ ?_ (fun hNew=>?_)
                  · ((try dsimp only);go_keep)
                  clear hHeld;have hHeld:=hNew;clear hNew hK K
                  (try simp only[Act.put,List.setIfInBounds_toArray,List.set_cons_zero,List.set_cons_succ])
                  refine wpAnyH_done (by kernel_rfl) ?_ _
                  refine NoPanic.normal ?_
                  go_wp2
                  go_ret
                  first|(refine⟨rfl,hfin _ w3 _ g cp w2 _ kn nn sn _ _ hXn.out.1 hXn.out.2.1 ?_ hXn.out.2.2 hown2 hgr hat (Or.inl ?_)⟩;(first|exact below_alloc' _ _|exact Below.refl _ _);with_reducible rfl)|(refine⟨rfl,hfin _ w3 _ g cp w2 _ kn nn sn _ _ hXn.out.1 hXn.out.2.1 ?_ hXn.out.2.2 hown2 hgr hat (Or.inr ?_)⟩;(first|exact below_alloc' _ _|exact Below.refl _ _);with_reducible rfl)
              · (go_simp)
                refine hK.out _ _ ?_ (fun hNew=>?_)
                · ((try dsimp only);go_keep)
                clear hHeld;have hHeld:=hNew;clear hNew hK K
                (try simp only[Act.put,List.setIfInBounds_toArray,List.set_cons_zero,List.set_cons_succ])
                refine wpAnyH_ready (rs:=[12]) (by kernel_rfl) (by simp) ?_
                refine(AllReadyH.cons (by simp only[List.getElem?_toArray,List.getElem?_cons_succ,List.getElem?_cons_zero];rfl) (fun K hK=>?_) AllReadyH.nil)
                · (go_simp)
                  refine hK.out _ _ ?_ (fun hNew=>?_)
                  · ((try dsimp only);go_keep)
                  clear hHeld;have hHeld:=hNew;clear hNew hK K
                  (try simp only[Act.put,List.setIfInBounds_toArray,List.set_cons_zero,List.set_cons_succ])
                  refine wpAnyH_done (by kernel_rfl) ?_ _
                  refine NoPanic.normal ?_
                  go_wp2
                  go_ret
                  first|(refine⟨rfl,hfin _ w3 _ g cp w2 _ kn nn sn _ _ hXn.out.1 hXn.out.2.1 ?_ hXn.out.2.2 hown2 hgr hat (Or.inl ?_)⟩;(first|exact below_alloc' _ _|exact Below.refl _ _);with_reducible rfl)|(refine⟨rfl,hfin _ w3 _ g cp w2 _ kn nn sn _ _ hXn.out.1 hXn.out.2.1 ?_ hXn.out.2.2 hown2 hgr hat (Or.inr ?_)⟩;(first|exact below_alloc' _ _|exact Below.refl _ _);with_reducible rfl)
   ·    (go_simp)
        refine hK.out _ _ ?_ (fun hNew=>?_)
        · ((try dsimp only);go_keep)
        clear hHeld;have hHeld:=hNew;clear hNew hK K
        (try simp only[Act.put,List.setIfInBounds_toArray,List.set_cons_zero,List.set_cons_succ])
        refine wpAnyH_ready (rs:=[3,7]) (by kernel_rfl) (by simp) ?_
        refine(AllReadyH.cons (by simp only[List.getElem?_toArray,List.getElem?_cons_succ,List.getElem?_cons_zero];rfl) (fun K hK=>?_) (AllReadyH.cons (by simp only[List.getElem?_toArray,List.getElem?_cons_succ,List.getElem?_cons_zero];rfl) (fun K hK=>?_) AllReadyH.nil))
        · (go_simp)
          refine hK.out _ _ ?_ (fun hNew=>?_)
          · ((try dsimp only);go_keep)
          clear hHeld;have hHeld:=hNew;clear hNew hK K
          (try simp only[Act.put,List.setIfInBounds_toArray,List.set_cons_zero,List.set_cons_succ])
          refine wpAnyH_take (i:=8) (v:=?_) (by simp only[List.getElem?_toArray,List.getElem?_cons_succ,List.getElem?_cons_zero];rfl) (by kernel_rfl) (by kernel_rfl) (by kernel_rfl) (fun _ _ _ h=>h) (Or.inl ⟨by rfl,?_⟩) (by assumption) ?_
          rotate_left
          · (intro w hSw;(try dsimp only at hSw);go_simp;try with_reducible rfl)
          (try simp only[Act.put,List.setIfInBounds_toArray,List.set_cons_zero,List.set_cons_succ])
          refine wpAnyH_ready (rs:=[7]) (by kernel_rfl) (by simp) ?_
          refine(AllReadyH.cons (by simp only[List.getElem?_toArray,List.getElem?_cons_succ,List.getElem?_cons_zero];rfl) (fun K hK=>?_) AllReadyH.nil)
          · (go_simp;(go_at_call 74;refine(hnc _ ?_).mono ?_;(first|exact below_drew _ _|exact below_da _ _);rintro e w3 ⟨kn,nn,sn,x3,y3,z3,x4,y4,z4,rfl,hXn,r0,r1,r2,r3,r4,r5,r6⟩);go_wp2_with fail)
            refine hK.out _ _ ?_ (fun hNew=>?_)
            · ((try dsimp only);go_keep)
            clear hHeld;have hHeld:=hNew;clear hNew hK K
            (try simp only[Act.put,List.setIfInBounds_toArray,List.set_cons_zero,List.set_cons_succ])
            refine wpAnyH_ready (rs:=[10]) (by kernel_rfl) (by simp) ?_
            refine(AllReadyH.cons (by simp only[List.getElem?_toArray,List.getElem?_cons_succ,List.getElem?_cons_zero];rfl) (fun K hK=>?_) AllReadyH.nil)
            · ((refine step_append_lies _ rfl (.tmp 110) (.tmp 116) 33 rfl 0 36 i0 (.agg zV) 5 80 Tryd.underlying33 hi0 hz0 hz1 hz2 rfl (by omega) (.slice A1 L c1) L xs (by simp[Act.eval,Act.put]) (hO.out _ (below_via hXn.out.1 hXn.out.2.1 hXn.out.1.size)) ⟨wr.heap.size,0,none⟩ 1 1 zV.toList (by simp[Act.eval,Act.put]) rfl (World.news_of_block ((hXn.out.2.1.block wr.heap.size (show wr.heap.size<(wr.alloc _).heap.size by rw[alloc_size];omega)).trans (show (wr.alloc _).drew.heap[wr.heap.size]? =_ from alloc_at wr zV 36))) (by decide) (by omega) (by unfold maxLen;omega) (by omega) (Nat.zero_le _) _ rfl ?_;intro g cp w2 hown2 hgr hat hglt;obtain⟨v0,v1,v2,v3,v4,f0,f1,f2,f3,f4,ff,fb,fbf,fn1,fn2,fn3,fn4,u0,u1,u2,u3,u4⟩:=hfx _ (below_via hXn.out.1 hXn.out.2.1 hXn.out.1.size) g cp w2 hown2 hgr hat))
              refine hK.out _ _ ?_ (fun hNew=>?_)
              · ((try dsimp only);go_keep)
              clear hHeld;have hHeld:=hNew;clear hNew hK K
              (try simp only[Act.put,List.setIfInBounds_toArray,List.set_cons_zero,List.set_cons_succ])
              refine wpAnyH_take (i:=11) (v:=?_) (by simp only[List.getElem?_toArray,List.getElem?_cons_succ,List.getElem?_cons_zero];rfl) (by kernel_rfl) (by kernel_rfl) (by kernel_rfl) (fun _ _ _ h=>h) (Or.inl ⟨by rfl,?_⟩) (by assumption) ?_
              rotate_left
              · (intro w hSw;(try dsimp only at hSw);go_simp;try with_reducible rfl)
              (try simp only[Act.put,List.setIfInBounds_toArray,List.set_cons_zero,List.set_cons_succ])
              refine wpAnyH_take (i:=13) (v:=?_) (by simp only[List.getElem?_toArray,List.getElem?_cons_succ,List.getElem?_cons_zero];rfl) (by kernel_rfl) (by kernel_rfl) (by kernel_rfl) (fun _ _ _ h=>h) (Or.inl ⟨by rfl,?_⟩) (by assumption) ?_
              rotate_left
              · (intro w hSw;(try dsimp only at hSw);go_simp;try with_reducible rfl)
              (try simp only[Act.put,List.setIfInBounds_toArray,List.set_cons_zero,List.set_cons_succ])
              refine wpAnyH_take (i:=14) (v:=?_) (by simp only[List.getElem?_toArray,List.getElem?_cons_succ,List.getElem?_cons_zero];rfl) (by kernel_rfl) (by kernel_rfl) (by kernel_rfl) (fun _ _ _ h=>h) (Or.inl ⟨by rfl,?_⟩) (by assumption) ?_
              rotate_left
              · (intro w hSw;(try dsimp only at hSw);go_simp;try with_reducible rfl)
              (try simp only[Act.put,List.setIfInBounds_toArray,List.set_cons_zero,List.set_cons_succ])
              refine wpAnyH_ready (rs:=[12,15]) (by kernel_rfl) (by simp) ?_
              refine(AllReadyH.cons (by simp only[List.getElem?_toArray,List.getElem?_cons_succ,List.getElem?_cons_zero];rfl) (fun K hK=>?_) (AllReadyH.cons (by simp only[List.getElem?_toArray,List.getElem?_cons_succ,List.getElem?_cons_zero];rfl) (fun K hK=>?_) AllReadyH.nil))
              · (go_simp)
                refine hK.out _ _ ?_ (fun hNew=>?_)
                · ((try dsimp only);go_keep)
                clear hHeld;have hHeld:=hNew;clear hNew hK K
                (try simp only[Act.put,List.setIfInBounds_toArray,List.set_cons_zero,List.set_cons_succ])
                refine wpAnyH_ready (rs:=[15]) (by kernel_rfl) (by simp) ?_
                refine(AllReadyH.cons (by simp only[List.getElem?_toArray,List.getElem?_cons_succ,List.getElem?_cons_zero];rfl) (fun K hK=>?_) AllReadyH.nil)
                · (go_simp)
                  refine hK.out _ _ ?_ (fun hNew=>?_)
                  · ((try dsimp only);go_keep)
                  clear hHeld;have hHeld:=hNew;clear hNew hK K
                  (try simp only[Act.put,List.setIfInBounds_toArray,List.set_cons_zero,List.set_cons_succ])
                  refine wpAnyH_done (by kernel_rfl) ?_ _
                  refine NoPanic.normal ?_
                  go_wp2
                  go_ret
                  first|(refine⟨rfl,hfin _ w3 _ g cp w2 _ kn nn sn _ _ hXn.out.1 hXn.out.2.1 ?_ hXn.out.2.2 hown2 hgr hat (Or.inl ?_)⟩;(first|exact below_alloc' _ _|exact Below.refl _ _);with_reducible rfl)|(refine⟨rfl,hfin _ w3 _ g cp w2 _ kn nn sn _ _ hXn.out.1 hXn.out.2.1 ?_ hXn.out.2.2 hown2 hgr hat (Or.inr ?_)⟩;(first|exact below_alloc' _ _|exact Below.refl _ _);with_reducible rfl)
              · (go_simp)
                refine hK.out _ _ ?_ (fun hNew=>?_)
                · ((try dsimp only);go_keep)
                clear hHeld;have hHeld:=hNew;clear hNew hK K
                (try simp only[Act.put,List.setIfInBounds_toArray,List.set_cons_zero,List.set_cons_succ])
                refine wpAnyH_ready (rs:=[12]) (by kernel_rfl) (by simp) ?_
                refine(AllReadyH.cons (by simp only[List.getElem?_toArray,List.getElem?_cons_succ,List.getElem?_cons_zero];rfl) (fun K hK=>?_) AllReadyH.nil)
                · (go_simp)
                  refine hK.out _ _ ?_ (fun hNew=>?_)
                  · ((try dsimp only);go_keep)
                  clear hHeld;have hHeld:=hNew;clear hNew hK K
                  (try simp only[Act.put,List.setIfInBounds_toArray,List.set_cons_zero,List.set_cons_succ])
                  refine wpAnyH_done (by kernel_rfl) ?_ _
                  refine NoPanic.normal ?_
                  go_wp2
                  go_ret
                  first|(refine⟨rfl,hfin _ w3 _ g cp w2 _ kn nn sn _ _ hXn.out.1 hXn.out.2.1 ?_ hXn.out.2.2 hown2 hgr hat (Or.inl ?_)⟩;(first|exact below_alloc' _ _|exact Below.refl _ _);with_reducible rfl)|(refine⟨rfl,hfin _ w3 _ g cp w2 _ kn nn sn _ _ hXn.out.1 hXn.out.2.1 ?_ hXn.out.2.2 hown2 hgr hat (Or.inr ?_)⟩;(first|exact below_alloc' _ _|exact Below.refl _ _);with_reducible rfl)
        · (go_simp;(go_at_call 74;refine(hnc _ ?_).mono ?_;(first|exact below_drew _ _|exact below_da _ _);rintro e w3 ⟨kn,nn,sn,x3,y3,z3,x4,y4,z4,rfl,hXn,r0,r1,r2,r3,r4,r5,r6⟩);go_wp2_with fail)
          refine hK.out _ _ ?_ (fun hNew=>?_)
          · ((try dsimp only);go_keep)
          clear hHeld;have hHeld:=hNew;clear hNew hK K
          (try simp only[Act.put,List.setIfInBounds_toArray,List.set_cons_zero,List.set_cons_succ])
          refine wpAnyH_ready (rs:=[3]) (by kernel_rfl) (by simp) ?_
          refine(AllReadyH.cons (by simp only[List.getElem?_toArray,List.getElem?_cons_succ,List.getElem?_cons_zero];rfl) (fun K hK=>?_) AllReadyH.nil)
          · (go_simp)
            refine hK.out _ _ ?_ (fun hNew=>?_)
            · ((try dsimp only);go_keep)
            clear hHeld;have hHeld:=hNew;clear hNew hK K
            (try simp only[Act.put,List.setIfInBounds_toArray,List.set_cons_zero,List.set_cons_succ])
            refine wpAnyH_take (i:=8) (v:=?_) (by simp only[List.getElem?_toArray,List.getElem?_cons_succ,List.getElem?_cons_zero];rfl) (by kernel_rfl) (by kernel_rfl) (by kernel_rfl) (fun _ _ _ h=>h) (Or.inl ⟨by rfl,?_⟩) (by assumption) ?_
            rotate_left
            · (intro w hSw;(try dsimp only at hSw);go_simp;try with_reducible rfl)
            (try simp only[Act.put,List.setIfInBounds_toArray,List.set_cons_zero,List.set_cons_succ])
            refine wpAnyH_ready (rs:=[10]) (by kernel_rfl) (by simp) ?_
            refine(AllReadyH.cons (by simp only[List.getElem?_toArray,List.getElem?_cons_succ,List.getElem?_cons_zero];rfl) (fun K hK=>?_) AllReadyH.nil)
            · ((refine step_append_lies _ rfl (.tmp 110) (.tmp 116) 33 rfl 0 36 i0 (.agg zV) 5 80 Tryd.underlying33 hi0 hz0 hz1 hz2 rfl (by omega) (.slice A1 L c1) L xs (by simp[Act.eval,Act.put]) (hO.out _ (below_via hXn.out.1 hXn.out.2.1 hXn.out.1.size)) ⟨wr.heap.size,0,none⟩ 1 1 zV.toList (by simp[Act.eval,Act.put]) rfl (World.news_of_block ((hXn.out.2.1.block wr.heap.size (show wr.heap.size<(wr.alloc _).heap.size by rw[alloc_size];omega)).trans (show (wr.alloc _).drew.heap[wr.heap.size]? =_ from alloc_at wr zV 36))) (by decide) (by omega) (by unfold maxLen;omega) (by omega) (Nat.zero_le _) _ rfl ?_;intro g cp w2 hown2 hgr hat hglt;obtain⟨v0,v1,v2,v3,v4,f0,f1,f2,f3,f4,ff,fb,fbf,fn1,fn2,fn3,fn4,u0,u1,u2,u3,u4⟩:=hfx _ (below_via hXn.out.1 hXn.out.2.1 hXn.out.1.size) g cp w2 hown2 hgr hat))
              refine hK.out _ _ ?_ (fun hNew=>?_)
              · ((try dsimp only);go_keep)
              clear hHeld;have hHeld:=hNew;clear hNew hK K
              (try simp only[Act.put,List.setIfInBounds_toArray,List.set_cons_zero,List.set_cons_succ])
              refine wpAnyH_take (i:=11) (v:=?_) (by simp only[List.getElem?_toArray,List.getElem?_cons_succ,List.getElem?_cons_zero];rfl) (by kernel_rfl) (by kernel_rfl) (by kernel_rfl) (fun _ _ _ h=>h) (Or.inl ⟨by rfl,?_⟩) (by assumption) ?_
              rotate_left
              · (intro w hSw;(try dsimp only at hSw);go_simp;try with_reducible rfl)
              (try simp only[Act.put,List.setIfInBounds_toArray,List.set_cons_zero,List.set_cons_succ])
              refine wpAnyH_take (i:=13) (v:=?_) (by simp only[List.getElem?_toArray,List.getElem?_cons_succ,List.getElem?_cons_zero];rfl) (by kernel_rfl) (by kernel_rfl) (by kernel_rfl) (fun _ _ _ h=>h) (Or.inl ⟨by rfl,?_⟩) (by assumption) ?_
              rotate_left
              · (intro w hSw;(try dsimp only at hSw);go_simp;try with_reducible rfl)
              (try simp only[Act.put,List.setIfInBounds_toArray,List.set_cons_zero,List.set_cons_succ])
              refine wpAnyH_take (i:=14) (v:=?_) (by simp only[List.getElem?_toArray,List.getElem?_cons_succ,List.getElem?_cons_zero];rfl) (by kernel_rfl) (by kernel_rfl) (by kernel_rfl) (fun _ _ _ h=>h) (Or.inl ⟨by rfl,?_⟩) (by assumption) ?_
              rotate_left
              · (intro w hSw;(try dsimp only at hSw);go_simp;try with_reducible rfl)
              (try simp only[Act.put,List.setIfInBounds_toArray,List.set_cons_zero,List.set_cons_succ])
              refine wpAnyH_ready (rs:=[12,15]) (by kernel_rfl) (by simp) ?_
              refine(AllReadyH.cons (by simp only[List.getElem?_toArray,List.getElem?_cons_succ,List.getElem?_cons_zero];rfl) (fun K hK=>?_) (AllReadyH.cons (by simp only[List.getElem?_toArray,List.getElem?_cons_succ,List.getElem?_cons_zero];rfl) (fun K hK=>?_) AllReadyH.nil))
              · (go_simp)
                refine hK.out _ _ ?_ (fun hNew=>?_)
                · ((try dsimp only);go_keep)
                clear hHeld;have hHeld:=hNew;clear hNew hK K
                (try simp only[Act.put,List.setIfInBounds_toArray,List.set_cons_zero,List.set_cons_succ])
                refine wpAnyH_ready (rs:=[15]) (by kernel_rfl) (by simp) ?_
                refine(AllReadyH.cons (by simp only[List.getElem?_toArray,List.getElem?_cons_succ,List.getElem?_cons_zero];rfl) (fun K hK=>?_) AllReadyH.nil)
                · (go_simp)
                  refine hK.out _ _ ?_ (fun hNew=>?_)
                  · ((try dsimp only);go_keep)
                  clear hHeld;have hHeld:=hNew;clear hNew hK K
                  (try simp only[Act.put,List.setIfInBounds_toArray,List.set_cons_zero,List.set_cons_succ])
                  refine wpAnyH_done (by kernel_rfl) ?_ _
                  refine NoPanic.normal ?_
                  go_wp2
                  go_ret
                  first|(refine⟨rfl,hfin _ w3 _ g cp w2 _ kn nn sn _ _ hXn.out.1 hXn.out.2.1 ?_ hXn.out.2.2 hown2 hgr hat (Or.inl ?_)⟩;(first|exact below_alloc' _ _|exact Below.refl _ _);with_reducible rfl)|(refine⟨rfl,hfin _ w3 _ g cp w2 _ kn nn sn _ _ hXn.out.1 hXn.out.2.1 ?_ hXn.out.2.2 hown2 hgr hat (Or.inr ?_)⟩;(first|exact below_alloc' _ _|exact Below.refl _ _);with_reducible rfl)
              · (go_simp)
                refine hK.out _ _ ?_ (fun hNew=>?_)
                · ((try dsimp only);go_keep)
                clear hHeld;have hHeld:=hNew;clear hNew hK K
                (try simp only[Act.put,List.setIfInBounds_toArray,List.set_cons_zero,List.set_cons_succ])
                refine wpAnyH_ready (rs:=[12]) (by kernel_rfl) (by simp) ?_
                refine(AllReadyH.cons (by simp only[List.getElem?_toArray,List.getElem?_cons_succ,List.getElem?_cons_zero];rfl) (fun K hK=>?_) AllReadyH.nil)
                · (go_simp)
                  refine hK.out _ _ ?_ (fun hNew=>?_)
                  · ((try dsimp only);go_keep)
                  clear hHeld;have hHeld:=hNew;clear hNew hK K
                  (try simp only[Act.put,List.setIfInBounds_toArray,List.set_cons_zero,List.set_cons_succ])
                  refine wpAnyH_done (by kernel_rfl) ?_ _
                  refine NoPanic.normal ?_
                  go_wp2
                  go_ret
                  first|(refine⟨rfl,hfin _ w3 _ g cp w2 _ kn nn sn _ _ hXn.out.1 hXn.out.2.1 ?_ hXn.out.2.2 hown2 hgr hat (Or.inl ?_)⟩;(first|exact below_alloc' _ _|exact Below.refl _ _);with_reducible rfl)|(refine⟨rfl,hfin _ w3 _ g cp w2 _ kn nn sn _ _ hXn.out.1 hXn.out.2.1 ?_ hXn.out.2.2 hown2 hgr hat (Or.inr ?_)⟩;(first|exact below_alloc' _ _|exact Below.refl _ _);with_reducible rfl)
end Go.Proofs.YtmjnmiahblaanaaDoor
