/- path.put: its walk, where a document grows. -/
import Derived.Test.YtmjnmiahblaanaaDoorOPut5
set_option linter.unusedVariables false
set_option linter.unusedSimpArgs false
namespace Go.Proofs.YtmjnmiahblaanaaDoor
open Go.RowKit Go.Am
set_option maxHeartbeats 4000000 in
set_option maxRecDepth 1000000 in
theorem put_addF (s0:ByteArray) (ps:List Dt) (kd nd:Int) (sd:ByteArray) (ld fd:List Dt) (hk6:kd=5) (hi:fldI fd s0= -1) {w:World} {b o lo hi':Nat} {arr:Array Value} {T:TypeId} {cs:List Value} {ok:Nat→Prop} {x:Dt} {cx:List Value} {z:Value}
   (hC:PutC w b o lo hi' arr T (.agg [.int kd,.int nd,.str sd,.lst ld,.lst fd]) cs ok) (ht:TabOK ok w) (hp:RD Tryd.prog ok w 23 (.lst (.str s0::ps)) [z]) (hx:RD Tryd.prog ok w 36 x cx):
   Calls Tryd.prog 60 #[.pointer (some ⟨b,o,none⟩),z,.agg cx.toArray] w fun e w'=>e= .returned (.bool true)∧PutR w w' b o lo hi' arr T ok (.agg [.int kd,.int nd,.str sd,.lst ld,.lst (fd++[.agg [.str s0,nestD ps x]])]):=by
 obtain⟨fv,ff,hT⟩:=tV
 subst hk6
 obtain⟨bp,op,cap,_,e,rfl,hbp,hcap,hcm,hpc,hs0,htail⟩:=path_parts hp
 cases e
 obtain⟨A,hA⟩:∃A:Option Addr,(if cap=1 then some (⟨bp,op,none⟩:Addr) else some ⟨bp,op+1,none⟩)=A:=⟨_,rfl⟩
 have htl:=htail A hA
 obtain⟨kx,nx,sx,lx,fx,x3,x4,hxe,rfl,hlx,hdx,_⟩:=hx.v_inv hT
 obtain⟨a3,p3,_,_,rfl,_⟩:=hlx.elems hT.l (by rw[hT.cv];omega)
 obtain⟨a4,p4,_,_,rfl,_⟩:=hdx.elems hT.d (by rw[hT.cf];omega)
 obtain⟨_,_,_,_,_,d3,d4,_,_,_,e1,rfl,_⟩:=hC.hrt.v_inv hT
 cases e1
 have hbpw:bp<w.heap.size:=(hC.hok _ hbp).1
 have hbw:=hC.lt
 have e0:∀q,(w.alloc q).cell? ⟨b,o,none⟩=some (.int .i64 5):=fun q=>(hC.keep (below_alloc' w q)).cell (j:=0) (by omega) rfl
 have e5:∀q,(w.alloc q).cell? ⟨bp,op,none⟩=some (.string s0):=fun q=>((below_alloc' w q).cell (p:=⟨bp,op,none⟩) hbpw).trans hpc
 obtain⟨A1,c1,hd3⟩:=hC.grow4.form
 obtain⟨L,hL⟩:∃L,fd.length=L:=⟨_,rfl⟩
 rw[hL] at hd3
 have hlen3:fd.length≤137438900000:=by
   have hbk:=hC.hbk
   have:=len_bulk fd
   simp only[Dt.bulk,Dt.bulkL] at hbk
   omega
 obtain⟨W0,hW0⟩:∃W0,W0=w.alloc (.cells #[.int .i64 kx,.int .i64 nx,.string sx,.slice a3 lx.length p3,.slice a4 fx.length p4] 36):=⟨_,rfl⟩
 have b0:Below w.heap.size w W0:=by rw[hW0];exact below_alloc' w _
 have s0':W0.heap.size=w.heap.size+1:=by rw[hW0,alloc_size]
 have t0:W0.heap[w.heap.size]? =some (.cells #[.int .i64 kx,.int .i64 nx,.string sx,.slice a3 lx.length p3,.slice a4 fx.length p4] 36 (0,0)):=by rw[hW0,alloc_at]
 have hpcW:∀W:World,Below W0.heap.size W0 W→W.cell? ⟨bp,op,none⟩=some (.string s0):=fun W hW=>((below_via b0 hW b0.size).cell (p:=⟨bp,op,none⟩) hbpw).trans hpc
 have hfc:∀W:World,Below W0.heap.size W0 W→Calls Tryd.prog 51 #[.slice A1 L c1,.string s0] W fun e w'=>e= .returned (.int .i64 (-1))∧Hid (Below W0.heap.size W0 w')∧w'.cell? ⟨b,o+4,none⟩=some (.slice A1 L c1)∧w'.cell? ⟨bp,op,none⟩=some (.string s0):=fun W hW=>by
   have q:=below_via b0 hW b0.size
   have hK:=hC.keep q
   obtain⟨_,_,_,_,_,_,_,m1,m2,m3,e1,e2,n1,n2,n3,n4,_,hd4,_⟩:=hK.hrt.v_inv hT
   cases e1
   cases e2
   have hd5:=hd4.toRD (ok:=fun c=>ok c∨(lo≤c∧c<hi')) fun c _ _=> .inr (by omega)
   rw[hd3] at hd5
   have h:=field_call (ok:=fun c=>ok c∨(lo≤c∧c<hi')) (s:=s0) (fun c hc=>by
     rcases hc with hc|hc
     ·exact(hK.hok c hc).1
     ·have:=hK.hhi;omega) (ht.mono fun c hc=>⟨.inl hc,q.block c (hC.hok c hc).1⟩) hd5 (by omega) hs0
   refine h.mono ?_
   rintro e w' ⟨rfl,hb⟩
   have hb':=below_via hW hb hW.size
   have q2:=below_via b0 hb' b0.size
   exact⟨by rw[hi],hb',by rw[←hd3];exact(hC.keep q2).cell (j:=4) (by omega) rfl,hpcW w' hb'⟩
 have e4:w.cell? ⟨b,o+4,none⟩=some (.slice A1 L c1):=by rw[←hd3];exact hC.cell (j:=4) (by omega) rfl
 have A0:Hid (W0=w.alloc (.cells #[.int .i64 kx,.int .i64 nx,.string sx,.slice a3 lx.length p3,.slice a4 fx.length p4] 36)):=hW0
 have HC:Hid (PutC W0 b o lo hi' arr T (.agg [.int 5,.int nd,.str sd,.lst ld,.lst fd]) [.int .i64 5,.int .i64 nd,.string sd,d3,d4] ok):=hC.keep b0
 have HB0:Hid (Below w.heap.size w W0∧b<w.heap.size∧hi'≤w.heap.size∧W0.heap.size=w.heap.size+1):=⟨b0,hC.lt,hC.hhi,s0'⟩
 have HX:Hid (RD Tryd.prog ok W0 36 x [.int .i64 kx,.int .i64 nx,.string sx,.slice a3 lx.length p3,.slice a4 fx.length p4]∧RD Tryd.prog ok W0 23 (.lst ps) [.slice A ps.length (cap-1)]∧TabOK ok W0∧d4= .slice A1 L c1∧W0.heap[w.heap.size]? =some (.cells #[.int .i64 kx,.int .i64 nx,.string sx,.slice a3 lx.length p3,.slice a4 fx.length p4] 36 (0,0))):=⟨hx.mono fun c hc=>⟨hc,b0.block c (hC.hok c hc).1⟩,htl.mono fun c hc=>⟨hc,b0.block c (hC.hok c hc).1⟩,ht.mono fun c hc=>⟨hc,b0.block c (hC.hok c hc).1⟩,hd3,t0⟩
 have hPC:Hid (∀W:World,Below W0.heap.size W0 W→W.cell? ⟨bp,op,none⟩=some (.string s0)):=hpcW
 have hLH:Hid (fd.length=L):=hL
 clear hL
 clear hC hx hp htail htl ht hlx hdx hxe b0 s0' t0 hi hd3 hpcW
 show Calls Tryd.prog 60 #[.pointer (some ⟨b,o,none⟩),.slice (some ⟨bp,op,none⟩) (ps.length+1) cap,.agg #[.int .i64 kx,.int .i64 nx,.string sx,.slice a3 lx.length p3,.slice a4 fx.length p4]] w _
 go_enter Tryd.func60,Tryd.ntmps60
 go_wp2
 go_region_held3 (fun W=>W.cell? ⟨b,o+4,none⟩=some (.slice A1 L c1)∧W.cell? ⟨bp,op,none⟩=some (.string s0))
   (go_keep)
   (first|(go_at_call 51;refine(hfc _ ?_).mono ?_;(rw[A0.out];exact below_drew _ _);rintro e wr ⟨rfl,hX1,q1,q2⟩))
 clear hfc e0 e5 e4
 have hbox:=(hX1.out.block w.heap.size (by rw[HB0.out.2.2.2];omega)).trans HX.out.2.2.2.2
 have hL:=hLH.out
 rw[hL] at hlen3
 have hd4:=HX.out.2.2.2.1
 have hG:Grow W0 b (o+4) arr T d4 59 (okE0 ok W0 b lo hi' d4) wr (.slice A1 L c1) fd:=by rw[←hd4];exact HC.out.grow4.keep hX1.out
 have hG2:=hG
 obtain⟨xs,hx1,hx2,hx3⟩:=hG.row
 rw[hT.cf,hL] at hx1
 have hv:=hG2.hv
 have hlt:=hG.lt
 have hbB:=hG.hb
 have hE:=hG2.hE
 have hob:=(own_blk hx1).1
 have hoblt:=(own_blk hx1).2
 have hw1:=HB0.out.2.2.2
 have hbl:=HB0.out.2.1
 have hho:=HC.out.ho
 have hrs:=hG.below.size
 have hnv:blk (.slice A1 L c1)≠some w.heap.size:=fun e=>by
   rcases(hv _ e).2 with e2|e2
   ·have:=HC.out.blk4 _ e2;have:=HB0.out.2.2.1;omega
   ·omega
 have hbpk:=HC.out.hok bp hbp
 have hnp0:blk (.slice A1 L c1)≠some bp:=fun e=>by
   rcases(hv _ e).2 with e2|e2
   ·have:=HC.out.blk4 _ e2;omega
   ·omega
 have hnb:blk (.slice A1 L c1)≠some b:=fun e=>(hv b e).1 rfl
 have hown:∀WA:World,Below wr.heap.size wr WA→WA.ownsRow 0 59 6 (.slice A1 L c1) L xs:=fun WA hW=>ownsRow_of_block hx1 fun g hg=>hW.block g (hoblt g hg)
 have hbcell:∀W:World,W.heap[b]? =wr.heap[b]? →W.cell? ⟨b,o+4,none⟩=some (.slice A1 L c1):=fun W hW=>by
   rw[cell_at (hW.trans hbB),Array.getElem?_setIfInBounds,if_pos rfl,if_pos (by omega)]
 have hnc:∀W:World,Below wr.heap.size wr W→Calls Tryd.prog 74 #[.slice A ps.length (cap-1),.agg #[.int .i64 kx,.int .i64 nx,.string sx,.slice a3 lx.length p3,.slice a4 fx.length p4]] W fun e w'=>∃k n s x3 y3 z3 x4 y4 z4,e= .returned (.agg #[.int .i64 k,.int .i64 n,.string s,.slice x3 y3 z3,.slice x4 y4 z4])∧Hid (Below wr.heap.size wr W∧Below W.heap.size W w'∧RD Tryd.prog (fun c=>c<w'.heap.size∧(c<W.heap.size→ok c)) w' 36 (nestD ps x) [.int .i64 k,.int .i64 n,.string s,.slice x3 y3 z3,.slice x4 y4 z4])∧
     w'.cell? ⟨w.heap.size,0,none⟩=some (.int .i64 kx)∧w'.cell? ⟨w.heap.size,1,none⟩=some (.int .i64 nx)∧w'.cell? ⟨w.heap.size,2,none⟩=some (.string sx)∧w'.cell? ⟨w.heap.size,3,none⟩=some (.slice a3 lx.length p3)∧w'.cell? ⟨w.heap.size,4,none⟩=some (.slice a4 fx.length p4)∧w'.cell? ⟨b,o+4,none⟩=some (.slice A1 L c1)∧b<w'.heap.size∧w'.cell? ⟨bp,op,none⟩=some (.string s0):=fun W hW=>by
   have hk:∀c,ok c→ok c∧W.heap[c]? =W0.heap[c]? :=fun c hc=>by
     obtain⟨u1,u2,u3⟩:=HC.out.hok c hc
     refine⟨hc,(hW.block c (Nat.lt_of_lt_of_le u1 hrs)).trans (hG.below.block c u1 ?_)⟩
     rintro(e|e)
     ·exact u2 e
     ·have:=HC.out.blk4 _ e;omega
   have h:=nest_call (ok:=ok) (w:=W) (fun c hc=>Nat.lt_of_lt_of_le (HC.out.hok c hc).1 (Nat.le_trans hrs hW.size)) (HX.out.2.2.1.mono hk) (HX.out.2.1.mono hk) (HX.out.1.mono hk)
   refine h.mono ?_
   rintro e w' ⟨k,n,s,x3,y3,z3,x4,y4,z4,rfl,h1,h2⟩
   have hb':=below_via hW h1 hW.size
   have u:=(hb'.block w.heap.size (by omega)).trans hbox
   exact⟨k,n,s,x3,y3,z3,x4,y4,z4,rfl,⟨hW,h1,h2⟩,cell_at u,cell_at u,cell_at u,cell_at u,cell_at u,hbcell _ (hb'.block b hlt),Nat.lt_of_lt_of_le hlt hb'.size,hPC.out w' (below_via hX1.out hb' hX1.out.size)⟩
 have hfx:∀(WA:World),Below wr.heap.size wr WA→∀(g cp:Nat) (w2:World),w2.ownsRow 0 59 6 (.slice (some ⟨g,0,none⟩) (L+1) cp) (L+1) (xs++zF.toList)→WA.grownBy w2 (Value.slice A1 L c1).ownBlock→((Value.slice A1 L c1).ownBlock=some g∨g=WA.heap.size)→∃v0 v1 v2 v3 v4 v5,w2.cell? ⟨g,L*6,none⟩=some v0∧w2.cell? ⟨g,L*6+1,none⟩=some v1∧w2.cell? ⟨g,L*6+2,none⟩=some v2∧w2.cell? ⟨g,L*6+3,none⟩=some v3∧w2.cell? ⟨g,L*6+4,none⟩=some v4∧w2.cell? ⟨g,L*6+5,none⟩=some v5∧(∀t,w2.frozen? ⟨g,t,none⟩=false)∧w2.cell? ⟨b,o+4,none⟩=some (.slice A1 L c1)∧(∀t,w2.frozen? ⟨b,t,none⟩=false)∧¬g=b∧¬b=g∧¬g=w.heap.size∧¬w.heap.size=g∧¬g=bp∧¬bp=g∧w2.cell? ⟨bp,op,none⟩=some (.string s0)∧
     w2.cell? ⟨w.heap.size,0,none⟩=some (.int .i64 kx)∧w2.cell? ⟨w.heap.size,1,none⟩=some (.int .i64 nx)∧w2.cell? ⟨w.heap.size,2,none⟩=some (.string sx)∧w2.cell? ⟨w.heap.size,3,none⟩=some (.slice a3 lx.length p3)∧w2.cell? ⟨w.heap.size,4,none⟩=some (.slice a4 fx.length p4):=by
   intro WA hWA g cp w2 h1 h2 h3
   rw[hob] at h2 h3
   have hAs:=hWA.size
   have hne:g≠b:=by
     rcases h3 with h3|h3
     ·exact(hv g h3).1
     ·omega
   have hnw:g≠w.heap.size:=by
     rcases h3 with h3|h3
     ·intro e;rw[e] at h3;exact hnv h3
     ·omega
   have hnp:g≠bp:=by
     rcases h3 with h3|h3
     ·intro e;rw[e] at h3;exact hnp0 h3
     ·omega
   have hup:w2.cell? ⟨bp,op,none⟩=some (.string s0):=by
     rw[World.cell?_of_block (w:=wr) ((h2.block bp (by omega) (fun e=>hnp0 e.symm)).trans (hWA.block bp (by omega)))]
     exact hPC.out wr hX1.out
   have hbb:w2.heap[b]? =wr.heap[b]? :=(h2.block b (Nat.lt_of_lt_of_le hlt hWA.size) (fun e=>hnb e.symm)).trans (hWA.block b hlt)
   have u:w2.heap[w.heap.size]? =_:=(h2.block w.heap.size (by omega) (fun e=>hnv e.symm)).trans ((hWA.block _ (by omega)).trans hbox)
   rcases h1.2 with⟨e,_⟩| ⟨g',cp',cur,e,_,hg,hncap,hcm,hcsz,htk⟩
   ·cases e
   · injection e with e1 e2 e3
     injection e1 with e1
     injection e1 with e1
     subst e1 e3
     have hmul:(L+1)*6≤cp*6:=Nat.mul_le_mul_right _ hncap
     have hget:∀t,t<cp*6→∃v,cur[t]? =some v:=fun t ht=>⟨_,Array.getElem?_eq_getElem (by omega)⟩
     obtain⟨v0,q0⟩:=hget (L*6) (by omega)
     obtain⟨v1,q1⟩:=hget (L*6+1) (by omega)
     obtain⟨v2,q2⟩:=hget (L*6+2) (by omega)
     obtain⟨v3,q3⟩:=hget (L*6+3) (by omega)
     obtain⟨v4,q4⟩:=hget (L*6+4) (by omega)
     obtain⟨v5,q5⟩:=hget (L*6+5) (by omega)
     exact⟨v0,v1,v2,v3,v4,v5,(cell_at hg).trans q0,(cell_at hg).trans q1,(cell_at hg).trans q2,(cell_at hg).trans q3,(cell_at hg).trans q4,(cell_at hg).trans q5,fun t=>froz_at hg,hbcell _ hbb,fun t=>froz_at (hbb.trans hbB),hne,fun e=>hne e.symm,hnw,fun e=>hnw e.symm,hnp,fun e=>hnp e.symm,hup,cell_at u,cell_at u,cell_at u,cell_at u,cell_at u⟩
 have hfin:∀(W w3 WA:World) (g cp:Nat) (w2 w':World) (kn nn:Int) (sn:ByteArray) (c3 c4:Value),Below wr.heap.size wr W→Below W.heap.size W w3→Below w3.heap.size w3 WA→RD Tryd.prog (fun c=>c<w3.heap.size∧(c<W.heap.size→ok c)) w3 36 (nestD ps x) [.int .i64 kn,.int .i64 nn,.string sn,c3,c4]→
     w2.ownsRow 0 59 6 (.slice (some ⟨g,0,none⟩) (L+1) cp) (L+1) (xs++zF.toList)→WA.grownBy w2 (Value.slice A1 L c1).ownBlock→((Value.slice A1 L c1).ownBlock=some g∨g=WA.heap.size)→
     (w'=((((((w2.setCell ⟨g,L*6,none⟩ (.string s0)).setCell ⟨g,L*6+1,none⟩ (.int .i64 kn)).setCell ⟨g,L*6+2,none⟩ (.int .i64 nn)).setCell ⟨g,L*6+3,none⟩ (.string sn)).setCell ⟨g,L*6+4,none⟩ c3).setCell ⟨g,L*6+5,none⟩ c4).setCell ⟨b,o+4,none⟩ (.slice (some ⟨g,0,none⟩) (L+1) cp)∨
        w'=(((((((w2.setCell ⟨b,o+4,none⟩ (.slice (some ⟨g,0,none⟩) (L+1) cp)).setCell ⟨g,L*6,none⟩ (.string s0)).setCell ⟨g,L*6+1,none⟩ (.int .i64 kn)).setCell ⟨g,L*6+2,none⟩ (.int .i64 nn)).setCell ⟨g,L*6+3,none⟩ (.string sn)).setCell ⟨g,L*6+4,none⟩ c3).setCell ⟨g,L*6+5,none⟩ c4))→
     PutR w w' b o lo hi' arr T ok (.agg [.int 5,.int nd,.str sd,.lst ld,.lst (fd++[.agg [.str s0,nestD ps x]])]):=by
   intro W w3 WA g cp w2 w' kn nn sn c3 c4 k1 k2 k3 hrd h1 h2 h3 h4
   replace h4:w'=(w2.setCells g (L*6) [.string s0,.int .i64 kn,.int .i64 nn,.string sn,c3,c4]).setCell ⟨b,o+4,none⟩ (.slice (some ⟨g,0,none⟩) (L+1) cp)∨w'=(w2.setCell ⟨b,o+4,none⟩ (.slice (some ⟨g,0,none⟩) (L+1) cp)).setCells g (L*6) [.string s0,.int .i64 kn,.int .i64 nn,.string sn,c3,c4]:=h4
   have k12:=below_via k1 k2 k1.size
   have kA:=below_via k12 k3 k12.size
   have s1:=k1.size
   have s2:=k2.size
   have s3:=k3.size
   have h2s:=h2.size
   have hN:∀c,c<w3.heap.size→(c<W.heap.size→ok c)→c≠b∧blk (.slice A1 L c1)≠some c∧(c<W0.heap.size→ok c):=fun c hc1 hc2=>by
     rcases Nat.lt_or_ge c W.heap.size with hlt'|hge
     ·  have hk:=HC.out.hok c (hc2 hlt')
        refine⟨hk.2.1,fun e=>?_,fun _=>hc2 hlt'⟩
        rcases(hv c e).2 with e2|e2
        ·have:=HC.out.blk4 _ e2;omega
        ·omega
     ·exact⟨by omega,fun e=>by have:=hoblt c e;omega,fun h=>by omega⟩
   have hgN:∀c,c<WA.heap.size→blk (.slice A1 L c1)≠some c→c≠g:=fun c hc hne e=>by
     subst e
     rcases h3 with h3|h3
     ·rw[hob] at h3;exact hne h3
     ·omega
   have hrd2:RD Tryd.prog (fun c=>okE0 ok W0 b lo hi' d4 c∨(c<w3.heap.size∧(c<W.heap.size→ok c))) w2 36 (nestD ps x) [.int .i64 kn,.int .i64 nn,.string sn,c3,c4]:=hrd.mono fun c hc=>⟨.inr hc,(h2.block c (by omega) (fun e=>(hN c hc.1 hc.2).2.1 (by rw[←hob,←e]))).trans (k3.block c hc.1)⟩
   obtain⟨q1,q2,q3⟩:=(hG2.keep kA).stepAB (okE':=fun c=>okE0 ok W0 b lo hi' d4 c∨(c<w3.heap.size∧(c<W.heap.size→ok c))) (x:= .agg [.str s0,nestD ps x]) (ec:=[.string s0,.int .i64 kn,.int .i64 nn,.string sn,c3,c4]) (w3:=w') (zs:=zF.toList) (g:=g) (cap:=cp) (w1:=w2) (by omega) hL (by rw[hT.cf];exact hown WA kA) ⟨hx2,fun i d hd=>(hx3 i d hd).mono fun c hc=>⟨hc,kA.block c (hE c hc).1⟩⟩ (by rw[hT.cf];exact h1) h2 h3 (by rw[hT.cf];rfl) (by rw[hT.cf];exact h4) (fun c hc=> .inl hc) (fun c hc=>by
        rcases hc with hc|hc
        ·exact⟨by have:=(hE c hc).1;omega,(hE c hc).2.1,hgN c (by have:=(hE c hc).1;omega) (hE c hc).2.2⟩
        ·exact⟨by omega,(hN c hc.1 hc.2).1,hgN c (by omega) (hN c hc.1 hc.2).2.1⟩) (RD.f_mk hT rfl hs0 hrd2)
   have hR:=HC.out.grown4 q1 (fun c hc=>by
     rcases hc with hc|hc
     ·exact⟨by have:=(hE c hc).1;omega,(hE c hc).2.1,fun _=>hc.2.2.2⟩
     ·exact⟨by omega,(hN c hc.1 hc.2).1,fun hlt'=> .inl ((hN c hc.1 hc.2).2.2 hlt')⟩)
   exact hR.from HB0.out.1 HB0.out.2.1 HB0.out.2.2.1
 have g0:wr.cell? ⟨w.heap.size,0,none⟩=some (.int .i64 kx):=cell_at hbox
 have g1:wr.cell? ⟨w.heap.size,1,none⟩=some (.int .i64 nx):=cell_at hbox
 have g2:wr.cell? ⟨w.heap.size,2,none⟩=some (.string sx):=cell_at hbox
 have g3:wr.cell? ⟨w.heap.size,3,none⟩=some (.slice a3 lx.length p3):=cell_at hbox
 have g4:wr.cell? ⟨w.heap.size,4,none⟩=some (.slice a4 fx.length p4):=cell_at hbox
 have hpl:(1:Int)≤(ps.length:Int)+1:=by omega
 obtain⟨i0,hi0,hz0,hz1,hz2⟩:=info_parts (show (Tryd.prog.info? 59).map (fun i=>(i.zero,i.size,i.bytes))=some (some (.agg zF),6,96) by kernel_rfl)
 have hLm:L≤137438910000:=by omega
 have hLL:(L:Int)<(L:Int)+1:=by omega
 have hnb1:¬b=w.heap.size:=by omega
 have hnb2:¬w.heap.size=b:=by omega
 have hnbp:¬b=bp:=fun e=>hbpk.2.1 e.symm
 have hnbp2:¬bp=b:=hbpk.2.1
 have hpcr:=hPC.out wr hX1.out
 have hnr:¬wr.heap.size=w.heap.size:=by omega
 have hnr2:¬w.heap.size=wr.heap.size:=by omega
 have hO:Hid (∀WA:World,Below wr.heap.size wr WA→WA.ownsRow 0 59 6 (.slice A1 L c1) L xs):=hown
 clear hbpk hnp0 hG hG2 hL hx1 hx2 hx3 hv hbB hE hob hoblt hw1 hbl hho hrs hnv hnb hown hbcell hbox
 go_wp2
 refine wp_region_noPanic ?_
 refine wp_region_held_drew (S:=(fun W=>W.cell? ⟨bp,op,none⟩=some (.string s0)∧W.cell? ⟨w.heap.size,0,none⟩=some (.int .i64 kx)∧W.cell? ⟨w.heap.size,1,none⟩=some (.int .i64 nx)∧W.cell? ⟨w.heap.size,2,none⟩=some (.string sx)∧W.cell? ⟨w.heap.size,3,none⟩=some (.slice a3 lx.length p3)∧W.cell? ⟨w.heap.size,4,none⟩=some (.slice a4 fx.length p4))) (by kernel_rfl) ?_ (fun hHeld=>?_)
 · ((try dsimp only);go_keep)
 refine wpAnyH_take (i:=0) (v:=?_) (by simp only[List.getElem?_toArray,List.getElem?_cons_succ,List.getElem?_cons_zero];rfl) (by kernel_rfl) (by kernel_rfl) (by kernel_rfl) (fun _ _ _ h=>h) (Or.inl ⟨by rfl,?_⟩) (by assumption) ?_
 rotate_left
 · (intro w hSw;(try dsimp only at hSw);go_simp;try with_reducible rfl)
 (try simp only[Act.put,List.setIfInBounds_toArray,List.set_cons_zero,List.set_cons_succ])
 refine wpAnyH_take (i:=1) (v:=?_) (by simp only[List.getElem?_toArray,List.getElem?_cons_succ,List.getElem?_cons_zero];rfl) (by kernel_rfl) (by kernel_rfl) (by kernel_rfl) (fun _ _ _ h=>h) (Or.inl ⟨by rfl,?_⟩) (by assumption) ?_
 rotate_left
 · (intro w hSw;(try dsimp only at hSw);go_simp;try with_reducible rfl)
 (try simp only[Act.put,List.setIfInBounds_toArray,List.set_cons_zero,List.set_cons_succ])
 refine wpAnyH_take (i:=2) (v:=?_) (by simp only[List.getElem?_toArray,List.getElem?_cons_succ,List.getElem?_cons_zero];rfl) (by kernel_rfl) (by kernel_rfl) (by kernel_rfl) (fun _ _ _ h=>h) (Or.inl ⟨by rfl,?_⟩) (by assumption) ?_
 rotate_left
 · (intro w hSw;(try dsimp only at hSw);go_simp;try with_reducible rfl)
 (try simp only[Act.put,List.setIfInBounds_toArray,List.set_cons_zero,List.set_cons_succ])
 refine wpAnyH_take (i:=4) (v:=?_) (by simp only[List.getElem?_toArray,List.getElem?_cons_succ,List.getElem?_cons_zero];rfl) (by kernel_rfl) (by kernel_rfl) (by kernel_rfl) (fun _ _ _ h=>h) (Or.inl ⟨by rfl,?_⟩) (by assumption) ?_
 rotate_left
 · (intro w hSw;(try dsimp only at hSw);go_simp;try with_reducible rfl)
 (try simp only[Act.put,List.setIfInBounds_toArray,List.set_cons_zero,List.set_cons_succ])
 refine wpAnyH_take (i:=5) (v:=?_) (by simp only[List.getElem?_toArray,List.getElem?_cons_succ,List.getElem?_cons_zero];rfl) (by kernel_rfl) (by kernel_rfl) (by kernel_rfl) (fun _ _ _ h=>h) (Or.inl ⟨by rfl,?_⟩) (by assumption) ?_
 rotate_left
 · (intro w hSw;(try dsimp only at hSw);go_simp;try with_reducible rfl)
 (try simp only[Act.put,List.setIfInBounds_toArray,List.set_cons_zero,List.set_cons_succ])
 refine wpAnyH_take (i:=6) (v:=?_) (by simp only[List.getElem?_toArray,List.getElem?_cons_succ,List.getElem?_cons_zero];rfl) (by kernel_rfl) (by kernel_rfl) (by kernel_rfl) (fun _ _ _ h=>h) (Or.inl ⟨by rfl,?_⟩) (by assumption) ?_
 rotate_left
 · (intro w hSw;(try dsimp only at hSw);go_simp;try with_reducible rfl)
 (try simp only[Act.put,List.setIfInBounds_toArray,List.set_cons_zero,List.set_cons_succ])
 refine wpAnyH_take (i:=7) (v:=?_) (by simp only[List.getElem?_toArray,List.getElem?_cons_succ,List.getElem?_cons_zero];rfl) (by kernel_rfl) (by kernel_rfl) (by kernel_rfl) (fun _ _ _ h=>h) (Or.inl ⟨by rfl,?_⟩) (by assumption) ?_
 rotate_left
 · (intro w hSw;(try dsimp only at hSw);go_simp;try with_reducible rfl)
 (try simp only[Act.put,List.setIfInBounds_toArray,List.set_cons_zero,List.set_cons_succ])
 refine wpAnyH_take (i:=8) (v:=?_) (by simp only[List.getElem?_toArray,List.getElem?_cons_succ,List.getElem?_cons_zero];rfl) (by kernel_rfl) (by kernel_rfl) (by kernel_rfl) (fun _ _ _ h=>h) (Or.inl ⟨by rfl,?_⟩) (by assumption) ?_
 rotate_left
 · (intro w hSw;(try dsimp only at hSw);go_simp;try with_reducible rfl)
 (try simp only[Act.put,List.setIfInBounds_toArray,List.set_cons_zero,List.set_cons_succ])
 refine wpAnyH_take (i:=9) (v:=?_) (by simp only[List.getElem?_toArray,List.getElem?_cons_succ,List.getElem?_cons_zero];rfl) (by kernel_rfl) (by kernel_rfl) (by kernel_rfl) (fun _ _ _ h=>h) (Or.inl ⟨by rfl,?_⟩) (by assumption) ?_
 rotate_left
 · (intro w hSw;(try dsimp only at hSw);go_simp;try with_reducible rfl)
 (try simp only[Act.put,List.setIfInBounds_toArray,List.set_cons_zero,List.set_cons_succ])
 refine wpAnyH_ready (rs:=[3,10,13]) (by kernel_rfl) (by simp) ?_
 refine(AllReadyH.cons (by simp only[List.getElem?_toArray,List.getElem?_cons_succ,List.getElem?_cons_zero];rfl) (fun K hK=>?_) (AllReadyH.cons (by simp only[List.getElem?_toArray,List.getElem?_cons_succ,List.getElem?_cons_zero];rfl) (fun K hK=>?_) (AllReadyH.cons (by simp only[List.getElem?_toArray,List.getElem?_cons_succ,List.getElem?_cons_zero];rfl) (fun K hK=>?_) AllReadyH.nil)))
 · (go_simp)
   refine hK.out _ _ ?_ (fun hNew=>?_)
   · ((try dsimp only);go_keep)
   clear hHeld;have hHeld:=hNew;clear hNew hK K
   (try simp only[Act.put,List.setIfInBounds_toArray,List.set_cons_zero,List.set_cons_succ])
   refine wpAnyH_take (i:=12) (v:=?_) (by simp only[List.getElem?_toArray,List.getElem?_cons_succ,List.getElem?_cons_zero];rfl) (by kernel_rfl) (by kernel_rfl) (by kernel_rfl) (fun _ _ _ h=>h) (Or.inl ⟨by rfl,?_⟩) (by assumption) ?_
   rotate_left
   · (intro w hSw;(try dsimp only at hSw);go_simp;try with_reducible rfl)
   (try simp only[Act.put,List.setIfInBounds_toArray,List.set_cons_zero,List.set_cons_succ])
   refine wpAnyH_ready (rs:=[10,13]) (by kernel_rfl) (by simp) ?_
   refine(AllReadyH.cons (by simp only[List.getElem?_toArray,List.getElem?_cons_succ,List.getElem?_cons_zero];rfl) (fun K hK=>?_) (AllReadyH.cons (by simp only[List.getElem?_toArray,List.getElem?_cons_succ,List.getElem?_cons_zero];rfl) (fun K hK=>?_) AllReadyH.nil))
   · (go_simp;(go_at_call 74;refine(hnc _ ?_).mono ?_;(first|exact below_drew _ _|exact below_da _ _);rintro e w3 ⟨kn,nn,sn,x3,y3,z3,x4,y4,z4,rfl,hXn,r0,r1,r2,r3,r4,r5,r6,r7⟩);go_wp2_with fail)
     refine hK.out _ _ ?_ (fun hNew=>?_)
     · ((try dsimp only);go_keep)
     clear hHeld;have hHeld:=hNew;clear hNew hK K
     (try simp only[Act.put,List.setIfInBounds_toArray,List.set_cons_zero,List.set_cons_succ])
     refine wpAnyH_take (i:=11) (v:=?_) (by simp only[List.getElem?_toArray,List.getElem?_cons_succ,List.getElem?_cons_zero];rfl) (by kernel_rfl) (by kernel_rfl) (by kernel_rfl) (fun _ _ _ h=>h) (Or.inl ⟨by rfl,?_⟩) (by assumption) ?_
     rotate_left
     · (intro w hSw;(try dsimp only at hSw);go_simp;try with_reducible rfl)
     (try simp only[Act.put,List.setIfInBounds_toArray,List.set_cons_zero,List.set_cons_succ])
     refine wpAnyH_ready (rs:=[13]) (by kernel_rfl) (by simp) ?_
     refine(AllReadyH.cons (by simp only[List.getElem?_toArray,List.getElem?_cons_succ,List.getElem?_cons_zero];rfl) (fun K hK=>?_) AllReadyH.nil)
     ·  (go_simp)
        refine hK.out _ _ ?_ (fun hNew=>?_)
        · ((try dsimp only);go_keep)
        clear hHeld;have hHeld:=hNew;clear hNew hK K
        (try simp only[Act.put,List.setIfInBounds_toArray,List.set_cons_zero,List.set_cons_succ])
        refine wpAnyH_ready (rs:=[14]) (by kernel_rfl) (by simp) ?_
        refine(AllReadyH.cons (by simp only[List.getElem?_toArray,List.getElem?_cons_succ,List.getElem?_cons_zero];rfl) (fun K hK=>?_) AllReadyH.nil)
        · ((refine step_append_lies _ rfl (.tmp 46) (.tmp 56) 34 rfl 0 59 i0 (.agg zF) 6 96 Tryd.underlying34 hi0 hz0 hz1 hz2 rfl (by omega) (.slice A1 L c1) L xs (by simp[Act.eval,Act.put]) (hO.out _ (below_via (below_via hXn.out.1 hXn.out.2.1 hXn.out.1.size) (below_alloc' w3 _) (Nat.le_trans hXn.out.1.size hXn.out.2.1.size))) ⟨w3.heap.size,0,none⟩ 1 1 zF.toList (by simp[Act.eval,Act.put]) rfl (World.news_of_block (alloc_at w3 zF 59)) (by decide) (by omega) (by unfold maxLen;omega) (by omega) (Nat.zero_le _) _ rfl ?_;intro g cp w2 hown2 hgr hat hglt;obtain⟨v0,v1,v2,v3,v4,v5,f0,f1,f2,f3,f4,f5,ff,fb,fbf,fn1,fn2,fn3,fn4,fn5,fn6,fup,u0,u1,u2,u3,u4⟩:=hfx _ (below_via (below_via hXn.out.1 hXn.out.2.1 hXn.out.1.size) (below_alloc' w3 _) (Nat.le_trans hXn.out.1.size hXn.out.2.1.size)) g cp w2 hown2 hgr hat))
          refine hK.out _ _ ?_ (fun hNew=>?_)
          · ((try dsimp only);go_keep)
          clear hHeld;have hHeld:=hNew;clear hNew hK K
          (try simp only[Act.put,List.setIfInBounds_toArray,List.set_cons_zero,List.set_cons_succ])
          refine wpAnyH_take (i:=15) (v:=?_) (by simp only[List.getElem?_toArray,List.getElem?_cons_succ,List.getElem?_cons_zero];rfl) (by kernel_rfl) (by kernel_rfl) (by kernel_rfl) (fun _ _ _ h=>h) (Or.inl ⟨by rfl,?_⟩) (by assumption) ?_
          rotate_left
          · (intro w hSw;(try dsimp only at hSw);go_simp;try with_reducible rfl)
          (try simp only[Act.put,List.setIfInBounds_toArray,List.set_cons_zero,List.set_cons_succ])
          refine wpAnyH_take (i:=17) (v:=?_) (by simp only[List.getElem?_toArray,List.getElem?_cons_succ,List.getElem?_cons_zero];rfl) (by kernel_rfl) (by kernel_rfl) (by kernel_rfl) (fun _ _ _ h=>h) (Or.inl ⟨by rfl,?_⟩) (by assumption) ?_
          rotate_left
          · (intro w hSw;(try dsimp only at hSw);go_simp;try with_reducible rfl)
          (try simp only[Act.put,List.setIfInBounds_toArray,List.set_cons_zero,List.set_cons_succ])
          refine wpAnyH_take (i:=18) (v:=?_) (by simp only[List.getElem?_toArray,List.getElem?_cons_succ,List.getElem?_cons_zero];rfl) (by kernel_rfl) (by kernel_rfl) (by kernel_rfl) (fun _ _ _ h=>h) (Or.inl ⟨by rfl,?_⟩) (by assumption) ?_
          rotate_left
          · (intro w hSw;(try dsimp only at hSw);go_simp;try with_reducible rfl)
          (try simp only[Act.put,List.setIfInBounds_toArray,List.set_cons_zero,List.set_cons_succ])
          refine wpAnyH_ready (rs:=[16,19]) (by kernel_rfl) (by simp) ?_
          refine(AllReadyH.cons (by simp only[List.getElem?_toArray,List.getElem?_cons_succ,List.getElem?_cons_zero];rfl) (fun K hK=>?_) (AllReadyH.cons (by simp only[List.getElem?_toArray,List.getElem?_cons_succ,List.getElem?_cons_zero];rfl) (fun K hK=>?_) AllReadyH.nil))
          · (go_simp)
            refine hK.out _ _ ?_ (fun hNew=>?_)
            · ((try dsimp only);go_keep)
            clear hHeld;have hHeld:=hNew;clear hNew hK K
            (try simp only[Act.put,List.setIfInBounds_toArray,List.set_cons_zero,List.set_cons_succ])
            refine wpAnyH_ready (rs:=[19]) (by kernel_rfl) (by simp) ?_
            refine(AllReadyH.cons (by simp only[List.getElem?_toArray,List.getElem?_cons_succ,List.getElem?_cons_zero];rfl) (fun K hK=>?_) AllReadyH.nil)
            · (go_simp)
              refine hK.out _ _ ?_ (fun hNew=>?_)
              · ((try dsimp only);go_keep)
              clear hHeld;have hHeld:=hNew;clear hNew hK K
              (try simp only[Act.put,List.setIfInBounds_toArray,List.set_cons_zero,List.set_cons_succ])
              refine wpAnyH_done (by kernel_rfl) ?_ _
              refine NoPanic.normal ?_
              go_wp2
              go_ret
              first|(refine⟨rfl,hfin _ w3 _ g cp w2 _ kn nn sn _ _ hXn.out.1 hXn.out.2.1 ?_ hXn.out.2.2 hown2 hgr hat (Or.inl ?_)⟩;(first|exact below_alloc' _ _|exact Below.refl _ _);with_reducible rfl)|(refine⟨rfl,hfin _ w3 _ g cp w2 _ kn nn sn _ _ hXn.out.1 hXn.out.2.1 ?_ hXn.out.2.2 hown2 hgr hat (Or.inr ?_)⟩;(first|exact below_alloc' _ _|exact Below.refl _ _);with_reducible rfl)
          · (go_simp)
            refine hK.out _ _ ?_ (fun hNew=>?_)
            · ((try dsimp only);go_keep)
            clear hHeld;have hHeld:=hNew;clear hNew hK K
            (try simp only[Act.put,List.setIfInBounds_toArray,List.set_cons_zero,List.set_cons_succ])
            refine wpAnyH_ready (rs:=[16]) (by kernel_rfl) (by simp) ?_
            refine(AllReadyH.cons (by simp only[List.getElem?_toArray,List.getElem?_cons_succ,List.getElem?_cons_zero];rfl) (fun K hK=>?_) AllReadyH.nil)
            · (go_simp)
              refine hK.out _ _ ?_ (fun hNew=>?_)
              · ((try dsimp only);go_keep)
              clear hHeld;have hHeld:=hNew;clear hNew hK K
              (try simp only[Act.put,List.setIfInBounds_toArray,List.set_cons_zero,List.set_cons_succ])
              refine wpAnyH_done (by kernel_rfl) ?_ _
              refine NoPanic.normal ?_
              go_wp2
              go_ret
              first|(refine⟨rfl,hfin _ w3 _ g cp w2 _ kn nn sn _ _ hXn.out.1 hXn.out.2.1 ?_ hXn.out.2.2 hown2 hgr hat (Or.inl ?_)⟩;(first|exact below_alloc' _ _|exact Below.refl _ _);with_reducible rfl)|(refine⟨rfl,hfin _ w3 _ g cp w2 _ kn nn sn _ _ hXn.out.1 hXn.out.2.1 ?_ hXn.out.2.2 hown2 hgr hat (Or.inr ?_)⟩;(first|exact below_alloc' _ _|exact Below.refl _ _);with_reducible rfl)
   · (go_simp)
     refine hK.out _ _ ?_ (fun hNew=>?_)
     · ((try dsimp only);go_keep)
     clear hHeld;have hHeld:=hNew;clear hNew hK K
     (try simp only[Act.put,List.setIfInBounds_toArray,List.set_cons_zero,List.set_cons_succ])
     refine wpAnyH_ready (rs:=[10]) (by kernel_rfl) (by simp) ?_
     refine(AllReadyH.cons (by simp only[List.getElem?_toArray,List.getElem?_cons_succ,List.getElem?_cons_zero];rfl) (fun K hK=>?_) AllReadyH.nil)
     ·  (go_simp;(go_at_call 74;refine(hnc _ ?_).mono ?_;(first|exact below_drew _ _|exact below_da _ _);rintro e w3 ⟨kn,nn,sn,x3,y3,z3,x4,y4,z4,rfl,hXn,r0,r1,r2,r3,r4,r5,r6,r7⟩);go_wp2_with fail)
        refine hK.out _ _ ?_ (fun hNew=>?_)
        · ((try dsimp only);go_keep)
        clear hHeld;have hHeld:=hNew;clear hNew hK K
        (try simp only[Act.put,List.setIfInBounds_toArray,List.set_cons_zero,List.set_cons_succ])
        refine wpAnyH_take (i:=11) (v:=?_) (by simp only[List.getElem?_toArray,List.getElem?_cons_succ,List.getElem?_cons_zero];rfl) (by kernel_rfl) (by kernel_rfl) (by kernel_rfl) (fun _ _ _ h=>h) (Or.inl ⟨by rfl,?_⟩) (by assumption) ?_
        rotate_left
        · (intro w hSw;(try dsimp only at hSw);go_simp;try with_reducible rfl)
        (try simp only[Act.put,List.setIfInBounds_toArray,List.set_cons_zero,List.set_cons_succ])
        refine wpAnyH_ready (rs:=[14]) (by kernel_rfl) (by simp) ?_
        refine(AllReadyH.cons (by simp only[List.getElem?_toArray,List.getElem?_cons_succ,List.getElem?_cons_zero];rfl) (fun K hK=>?_) AllReadyH.nil)
        · ((refine step_append_lies _ rfl (.tmp 46) (.tmp 56) 34 rfl 0 59 i0 (.agg zF) 6 96 Tryd.underlying34 hi0 hz0 hz1 hz2 rfl (by omega) (.slice A1 L c1) L xs (by simp[Act.eval,Act.put]) (hO.out _ (below_via hXn.out.1 hXn.out.2.1 hXn.out.1.size)) ⟨wr.heap.size,0,none⟩ 1 1 zF.toList (by simp[Act.eval,Act.put]) rfl (World.news_of_block ((hXn.out.2.1.block wr.heap.size (show wr.heap.size<(wr.alloc _).heap.size by rw[alloc_size];omega)).trans (show (wr.alloc _).drew.heap[wr.heap.size]? =_ from alloc_at wr zF 59))) (by decide) (by omega) (by unfold maxLen;omega) (by omega) (Nat.zero_le _) _ rfl ?_;intro g cp w2 hown2 hgr hat hglt;obtain⟨v0,v1,v2,v3,v4,v5,f0,f1,f2,f3,f4,f5,ff,fb,fbf,fn1,fn2,fn3,fn4,fn5,fn6,fup,u0,u1,u2,u3,u4⟩:=hfx _ (below_via hXn.out.1 hXn.out.2.1 hXn.out.1.size) g cp w2 hown2 hgr hat))
          refine hK.out _ _ ?_ (fun hNew=>?_)
          · ((try dsimp only);go_keep)
          clear hHeld;have hHeld:=hNew;clear hNew hK K
          (try simp only[Act.put,List.setIfInBounds_toArray,List.set_cons_zero,List.set_cons_succ])
          refine wpAnyH_take (i:=15) (v:=?_) (by simp only[List.getElem?_toArray,List.getElem?_cons_succ,List.getElem?_cons_zero];rfl) (by kernel_rfl) (by kernel_rfl) (by kernel_rfl) (fun _ _ _ h=>h) (Or.inl ⟨by rfl,?_⟩) (by assumption) ?_
          rotate_left
          · (intro w hSw;(try dsimp only at hSw);go_simp;try with_reducible rfl)
          (try simp only[Act.put,List.setIfInBounds_toArray,List.set_cons_zero,List.set_cons_succ])
          refine wpAnyH_take (i:=17) (v:=?_) (by simp only[List.getElem?_toArray,List.getElem?_cons_succ,List.getElem?_cons_zero];rfl) (by kernel_rfl) (by kernel_rfl) (by kernel_rfl) (fun _ _ _ h=>h) (Or.inl ⟨by rfl,?_⟩) (by assumption) ?_
          rotate_left
          · (intro w hSw;(try dsimp only at hSw);go_simp;try with_reducible rfl)
          (try simp only[Act.put,List.setIfInBounds_toArray,List.set_cons_zero,List.set_cons_succ])
          refine wpAnyH_take (i:=18) (v:=?_) (by simp only[List.getElem?_toArray,List.getElem?_cons_succ,List.getElem?_cons_zero];rfl) (by kernel_rfl) (by kernel_rfl) (by kernel_rfl) (fun _ _ _ h=>h) (Or.inl ⟨by rfl,?_⟩) (by assumption) ?_
          rotate_left
          · (intro w hSw;(try dsimp only at hSw);go_simp;try with_reducible rfl)
          (try simp only[Act.put,List.setIfInBounds_toArray,List.set_cons_zero,List.set_cons_succ])
          refine wpAnyH_ready (rs:=[16,19]) (by kernel_rfl) (by simp) ?_
          refine(AllReadyH.cons (by simp only[List.getElem?_toArray,List.getElem?_cons_succ,List.getElem?_cons_zero];rfl) (fun K hK=>?_) (AllReadyH.cons (by simp only[List.getElem?_toArray,List.getElem?_cons_succ,List.getElem?_cons_zero];rfl) (fun K hK=>?_) AllReadyH.nil))
          · (go_simp)
            refine hK.out _ _ ?_ (fun hNew=>?_)
            · ((try dsimp only);go_keep)
            clear hHeld;have hHeld:=hNew;clear hNew hK K
            (try simp only[Act.put,List.setIfInBounds_toArray,List.set_cons_zero,List.set_cons_succ])
            refine wpAnyH_ready (rs:=[19]) (by kernel_rfl) (by simp) ?_
            refine(AllReadyH.cons (by simp only[List.getElem?_toArray,List.getElem?_cons_succ,List.getElem?_cons_zero];rfl) (fun K hK=>?_) AllReadyH.nil)
            · (go_simp)
              refine hK.out _ _ ?_ (fun hNew=>?_)
              · ((try dsimp only);go_keep)
              clear hHeld;have hHeld:=hNew;clear hNew hK K
              (try simp only[Act.put,List.setIfInBounds_toArray,List.set_cons_zero,List.set_cons_succ])
              refine wpAnyH_done (by kernel_rfl) ?_ _
              refine NoPanic.normal ?_
              go_wp2
              go_ret
              first|(refine⟨rfl,hfin _ w3 _ g cp w2 _ kn nn sn _ _ hXn.out.1 hXn.out.2.1 ?_ hXn.out.2.2 hown2 hgr hat (Or.inl ?_)⟩;(first|exact below_alloc' _ _|exact Below.refl _ _);with_reducible rfl)|(refine⟨rfl,hfin _ w3 _ g cp w2 _ kn nn sn _ _ hXn.out.1 hXn.out.2.1 ?_ hXn.out.2.2 hown2 hgr hat (Or.inr ?_)⟩;(first|exact below_alloc' _ _|exact Below.refl _ _);with_reducible rfl)
          · (go_simp)
            refine hK.out _ _ ?_ (fun hNew=>?_)
            · ((try dsimp only);go_keep)
            clear hHeld;have hHeld:=hNew;clear hNew hK K
            (try simp only[Act.put,List.setIfInBounds_toArray,List.set_cons_zero,List.set_cons_succ])
            refine wpAnyH_ready (rs:=[16]) (by kernel_rfl) (by simp) ?_
            refine(AllReadyH.cons (by simp only[List.getElem?_toArray,List.getElem?_cons_succ,List.getElem?_cons_zero];rfl) (fun K hK=>?_) AllReadyH.nil)
            · (go_simp)
              refine hK.out _ _ ?_ (fun hNew=>?_)
              · ((try dsimp only);go_keep)
              clear hHeld;have hHeld:=hNew;clear hNew hK K
              (try simp only[Act.put,List.setIfInBounds_toArray,List.set_cons_zero,List.set_cons_succ])
              refine wpAnyH_done (by kernel_rfl) ?_ _
              refine NoPanic.normal ?_
              go_wp2
              go_ret
              first|(refine⟨rfl,hfin _ w3 _ g cp w2 _ kn nn sn _ _ hXn.out.1 hXn.out.2.1 ?_ hXn.out.2.2 hown2 hgr hat (Or.inl ?_)⟩;(first|exact below_alloc' _ _|exact Below.refl _ _);with_reducible rfl)|(refine⟨rfl,hfin _ w3 _ g cp w2 _ kn nn sn _ _ hXn.out.1 hXn.out.2.1 ?_ hXn.out.2.2 hown2 hgr hat (Or.inr ?_)⟩;(first|exact below_alloc' _ _|exact Below.refl _ _);with_reducible rfl)
 · (go_simp;  (go_at_call 74;refine(hnc _ ?_).mono ?_;(first|exact below_drew _ _|exact below_da _ _);rintro e w3 ⟨kn,nn,sn,x3,y3,z3,x4,y4,z4,rfl,hXn,r0,r1,r2,r3,r4,r5,r6,r7⟩);go_wp2_with fail)
   refine hK.out _ _ ?_ (fun hNew=>?_)
   · ((try dsimp only);go_keep)
   clear hHeld;have hHeld:=hNew;clear hNew hK K
   (try simp only[Act.put,List.setIfInBounds_toArray,List.set_cons_zero,List.set_cons_succ])
   refine wpAnyH_take (i:=11) (v:=?_) (by simp only[List.getElem?_toArray,List.getElem?_cons_succ,List.getElem?_cons_zero];rfl) (by kernel_rfl) (by kernel_rfl) (by kernel_rfl) (fun _ _ _ h=>h) (Or.inl ⟨by rfl,?_⟩) (by assumption) ?_
   rotate_left
   · (intro w hSw;(try dsimp only at hSw);go_simp;try with_reducible rfl)
   (try simp only[Act.put,List.setIfInBounds_toArray,List.set_cons_zero,List.set_cons_succ])
   refine wpAnyH_ready (rs:=[3,13]) (by kernel_rfl) (by simp) ?_
   refine(AllReadyH.cons (by simp only[List.getElem?_toArray,List.getElem?_cons_succ,List.getElem?_cons_zero];rfl) (fun K hK=>?_) (AllReadyH.cons (by simp only[List.getElem?_toArray,List.getElem?_cons_succ,List.getElem?_cons_zero];rfl) (fun K hK=>?_) AllReadyH.nil))
   · (go_simp)
     refine hK.out _ _ ?_ (fun hNew=>?_)
     · ((try dsimp only);go_keep)
     clear hHeld;have hHeld:=hNew;clear hNew hK K
     (try simp only[Act.put,List.setIfInBounds_toArray,List.set_cons_zero,List.set_cons_succ])
     refine wpAnyH_take (i:=12) (v:=?_) (by simp only[List.getElem?_toArray,List.getElem?_cons_succ,List.getElem?_cons_zero];rfl) (by kernel_rfl) (by kernel_rfl) (by kernel_rfl) (fun _ _ _ h=>h) (Or.inl ⟨by rfl,?_⟩) (by assumption) ?_
     rotate_left
     · (intro w hSw;(try dsimp only at hSw);go_simp;try with_reducible rfl)
     (try simp only[Act.put,List.setIfInBounds_toArray,List.set_cons_zero,List.set_cons_succ])
     refine wpAnyH_ready (rs:=[13]) (by kernel_rfl) (by simp) ?_
     refine(AllReadyH.cons (by simp only[List.getElem?_toArray,List.getElem?_cons_succ,List.getElem?_cons_zero];rfl) (fun K hK=>?_) AllReadyH.nil)
     ·  (go_simp)
        refine hK.out _ _ ?_ (fun hNew=>?_)
        · ((try dsimp only);go_keep)
        clear hHeld;have hHeld:=hNew;clear hNew hK K
        (try simp only[Act.put,List.setIfInBounds_toArray,List.set_cons_zero,List.set_cons_succ])
        refine wpAnyH_ready (rs:=[14]) (by kernel_rfl) (by simp) ?_
        refine(AllReadyH.cons (by simp only[List.getElem?_toArray,List.getElem?_cons_succ,List.getElem?_cons_zero];rfl) (fun K hK=>?_) AllReadyH.nil)
        · ((refine step_append_lies _ rfl (.tmp 46) (.tmp 56) 34 rfl 0 59 i0 (.agg zF) 6 96 Tryd.underlying34 hi0 hz0 hz1 hz2 rfl (by omega) (.slice A1 L c1) L xs (by simp[Act.eval,Act.put]) (hO.out _ (below_via (below_via hXn.out.1 hXn.out.2.1 hXn.out.1.size) (below_alloc' w3 _) (Nat.le_trans hXn.out.1.size hXn.out.2.1.size))) ⟨w3.heap.size,0,none⟩ 1 1 zF.toList (by simp[Act.eval,Act.put]) rfl (World.news_of_block (alloc_at w3 zF 59)) (by decide) (by omega) (by unfold maxLen;omega) (by omega) (Nat.zero_le _) _ rfl ?_;intro g cp w2 hown2 hgr hat hglt;obtain⟨v0,v1,v2,v3,v4,v5,f0,f1,f2,f3,f4,f5,ff,fb,fbf,fn1,fn2,fn3,fn4,fn5,fn6,fup,u0,u1,u2,u3,u4⟩:=hfx _ (below_via (below_via hXn.out.1 hXn.out.2.1 hXn.out.1.size) (below_alloc' w3 _) (Nat.le_trans hXn.out.1.size hXn.out.2.1.size)) g cp w2 hown2 hgr hat))
          refine hK.out _ _ ?_ (fun hNew=>?_)
          · ((try dsimp only);go_keep)
          clear hHeld;have hHeld:=hNew;clear hNew hK K
          (try simp only[Act.put,List.setIfInBounds_toArray,List.set_cons_zero,List.set_cons_succ])
          refine wpAnyH_take (i:=15) (v:=?_) (by simp only[List.getElem?_toArray,List.getElem?_cons_succ,List.getElem?_cons_zero];rfl) (by kernel_rfl) (by kernel_rfl) (by kernel_rfl) (fun _ _ _ h=>h) (Or.inl ⟨by rfl,?_⟩) (by assumption) ?_
          rotate_left
          · (intro w hSw;(try dsimp only at hSw);go_simp;try with_reducible rfl)
          (try simp only[Act.put,List.setIfInBounds_toArray,List.set_cons_zero,List.set_cons_succ])
          refine wpAnyH_take (i:=17) (v:=?_) (by simp only[List.getElem?_toArray,List.getElem?_cons_succ,List.getElem?_cons_zero];rfl) (by kernel_rfl) (by kernel_rfl) (by kernel_rfl) (fun _ _ _ h=>h) (Or.inl ⟨by rfl,?_⟩) (by assumption) ?_
          rotate_left
          · (intro w hSw;(try dsimp only at hSw);go_simp;try with_reducible rfl)
          (try simp only[Act.put,List.setIfInBounds_toArray,List.set_cons_zero,List.set_cons_succ])
          refine wpAnyH_take (i:=18) (v:=?_) (by simp only[List.getElem?_toArray,List.getElem?_cons_succ,List.getElem?_cons_zero];rfl) (by kernel_rfl) (by kernel_rfl) (by kernel_rfl) (fun _ _ _ h=>h) (Or.inl ⟨by rfl,?_⟩) (by assumption) ?_
          rotate_left
          · (intro w hSw;(try dsimp only at hSw);go_simp;try with_reducible rfl)
          (try simp only[Act.put,List.setIfInBounds_toArray,List.set_cons_zero,List.set_cons_succ])
          refine wpAnyH_ready (rs:=[16,19]) (by kernel_rfl) (by simp) ?_
          refine(AllReadyH.cons (by simp only[List.getElem?_toArray,List.getElem?_cons_succ,List.getElem?_cons_zero];rfl) (fun K hK=>?_) (AllReadyH.cons (by simp only[List.getElem?_toArray,List.getElem?_cons_succ,List.getElem?_cons_zero];rfl) (fun K hK=>?_) AllReadyH.nil))
          · (go_simp)
            refine hK.out _ _ ?_ (fun hNew=>?_)
            · ((try dsimp only);go_keep)
            clear hHeld;have hHeld:=hNew;clear hNew hK K
            (try simp only[Act.put,List.setIfInBounds_toArray,List.set_cons_zero,List.set_cons_succ])
            refine wpAnyH_ready (rs:=[19]) (by kernel_rfl) (by simp) ?_
            refine(AllReadyH.cons (by simp only[List.getElem?_toArray,List.getElem?_cons_succ,List.getElem?_cons_zero];rfl) (fun K hK=>?_) AllReadyH.nil)
            · (go_simp)
              refine hK.out _ _ ?_ (fun hNew=>?_)
              · ((try dsimp only);go_keep)
              clear hHeld;have hHeld:=hNew;clear hNew hK K
              (try simp only[Act.put,List.setIfInBounds_toArray,List.set_cons_zero,List.set_cons_succ])
              refine wpAnyH_done (by kernel_rfl) ?_ _
              refine NoPanic.normal ?_
              go_wp2
              go_ret
              first|(refine⟨rfl,hfin _ w3 _ g cp w2 _ kn nn sn _ _ hXn.out.1 hXn.out.2.1 ?_ hXn.out.2.2 hown2 hgr hat (Or.inl ?_)⟩;(first|exact below_alloc' _ _|exact Below.refl _ _);with_reducible rfl)|(refine⟨rfl,hfin _ w3 _ g cp w2 _ kn nn sn _ _ hXn.out.1 hXn.out.2.1 ?_ hXn.out.2.2 hown2 hgr hat (Or.inr ?_)⟩;(first|exact below_alloc' _ _|exact Below.refl _ _);with_reducible rfl)
          · (go_simp)
            refine hK.out _ _ ?_ (fun hNew=>?_)
            · ((try dsimp only);go_keep)
            clear hHeld;have hHeld:=hNew;clear hNew hK K
            (try simp only[Act.put,List.setIfInBounds_toArray,List.set_cons_zero,List.set_cons_succ])
            refine wpAnyH_ready (rs:=[16]) (by kernel_rfl) (by simp) ?_
            refine(AllReadyH.cons (by simp only[List.getElem?_toArray,List.getElem?_cons_succ,List.getElem?_cons_zero];rfl) (fun K hK=>?_) AllReadyH.nil)
            · (go_simp)
              refine hK.out _ _ ?_ (fun hNew=>?_)
              · ((try dsimp only);go_keep)
              clear hHeld;have hHeld:=hNew;clear hNew hK K
              (try simp only[Act.put,List.setIfInBounds_toArray,List.set_cons_zero,List.set_cons_succ])
              refine wpAnyH_done (by kernel_rfl) ?_ _
              refine NoPanic.normal ?_
              go_wp2
              go_ret
              first|(refine⟨rfl,hfin _ w3 _ g cp w2 _ kn nn sn _ _ hXn.out.1 hXn.out.2.1 ?_ hXn.out.2.2 hown2 hgr hat (Or.inl ?_)⟩;(first|exact below_alloc' _ _|exact Below.refl _ _);with_reducible rfl)|(refine⟨rfl,hfin _ w3 _ g cp w2 _ kn nn sn _ _ hXn.out.1 hXn.out.2.1 ?_ hXn.out.2.2 hown2 hgr hat (Or.inr ?_)⟩;(first|exact below_alloc' _ _|exact Below.refl _ _);with_reducible rfl)
   · (go_simp)
     refine hK.out _ _ ?_ (fun hNew=>?_)
     · ((try dsimp only);go_keep)
     clear hHeld;have hHeld:=hNew;clear hNew hK K
     (try simp only[Act.put,List.setIfInBounds_toArray,List.set_cons_zero,List.set_cons_succ])
     refine wpAnyH_ready (rs:=[3]) (by kernel_rfl) (by simp) ?_
     refine(AllReadyH.cons (by simp only[List.getElem?_toArray,List.getElem?_cons_succ,List.getElem?_cons_zero];rfl) (fun K hK=>?_) AllReadyH.nil)
     ·  (go_simp)
        refine hK.out _ _ ?_ (fun hNew=>?_)
        · ((try dsimp only);go_keep)
        clear hHeld;have hHeld:=hNew;clear hNew hK K
        (try simp only[Act.put,List.setIfInBounds_toArray,List.set_cons_zero,List.set_cons_succ])
        refine wpAnyH_take (i:=12) (v:=?_) (by simp only[List.getElem?_toArray,List.getElem?_cons_succ,List.getElem?_cons_zero];rfl) (by kernel_rfl) (by kernel_rfl) (by kernel_rfl) (fun _ _ _ h=>h) (Or.inl ⟨by rfl,?_⟩) (by assumption) ?_
        rotate_left
        · (intro w hSw;(try dsimp only at hSw);go_simp;try with_reducible rfl)
        (try simp only[Act.put,List.setIfInBounds_toArray,List.set_cons_zero,List.set_cons_succ])
        refine wpAnyH_ready (rs:=[14]) (by kernel_rfl) (by simp) ?_
        refine(AllReadyH.cons (by simp only[List.getElem?_toArray,List.getElem?_cons_succ,List.getElem?_cons_zero];rfl) (fun K hK=>?_) AllReadyH.nil)
        · ((refine step_append_lies _ rfl (.tmp 46) (.tmp 56) 34 rfl 0 59 i0 (.agg zF) 6 96 Tryd.underlying34 hi0 hz0 hz1 hz2 rfl (by omega) (.slice A1 L c1) L xs (by simp[Act.eval,Act.put]) (hO.out _ (below_via (below_via hXn.out.1 hXn.out.2.1 hXn.out.1.size) (below_alloc' w3 _) (Nat.le_trans hXn.out.1.size hXn.out.2.1.size))) ⟨w3.heap.size,0,none⟩ 1 1 zF.toList (by simp[Act.eval,Act.put]) rfl (World.news_of_block (alloc_at w3 zF 59)) (by decide) (by omega) (by unfold maxLen;omega) (by omega) (Nat.zero_le _) _ rfl ?_;intro g cp w2 hown2 hgr hat hglt;obtain⟨v0,v1,v2,v3,v4,v5,f0,f1,f2,f3,f4,f5,ff,fb,fbf,fn1,fn2,fn3,fn4,fn5,fn6,fup,u0,u1,u2,u3,u4⟩:=hfx _ (below_via (below_via hXn.out.1 hXn.out.2.1 hXn.out.1.size) (below_alloc' w3 _) (Nat.le_trans hXn.out.1.size hXn.out.2.1.size)) g cp w2 hown2 hgr hat))
          refine hK.out _ _ ?_ (fun hNew=>?_)
          · ((try dsimp only);go_keep)
          clear hHeld;have hHeld:=hNew;clear hNew hK K
          (try simp only[Act.put,List.setIfInBounds_toArray,List.set_cons_zero,List.set_cons_succ])
          refine wpAnyH_take (i:=15) (v:=?_) (by simp only[List.getElem?_toArray,List.getElem?_cons_succ,List.getElem?_cons_zero];rfl) (by kernel_rfl) (by kernel_rfl) (by kernel_rfl) (fun _ _ _ h=>h) (Or.inl ⟨by rfl,?_⟩) (by assumption) ?_
          rotate_left
          · (intro w hSw;(try dsimp only at hSw);go_simp;try with_reducible rfl)
          (try simp only[Act.put,List.setIfInBounds_toArray,List.set_cons_zero,List.set_cons_succ])
          refine wpAnyH_take (i:=17) (v:=?_) (by simp only[List.getElem?_toArray,List.getElem?_cons_succ,List.getElem?_cons_zero];rfl) (by kernel_rfl) (by kernel_rfl) (by kernel_rfl) (fun _ _ _ h=>h) (Or.inl ⟨by rfl,?_⟩) (by assumption) ?_
          rotate_left
          · (intro w hSw;(try dsimp only at hSw);go_simp;try with_reducible rfl)
          (try simp only[Act.put,List.setIfInBounds_toArray,List.set_cons_zero,List.set_cons_succ])
          refine wpAnyH_take (i:=18) (v:=?_) (by simp only[List.getElem?_toArray,List.getElem?_cons_succ,List.getElem?_cons_zero];rfl) (by kernel_rfl) (by kernel_rfl) (by kernel_rfl) (fun _ _ _ h=>h) (Or.inl ⟨by rfl,?_⟩) (by assumption) ?_
          rotate_left
          · (intro w hSw;(try dsimp only at hSw);go_simp;try with_reducible rfl)
          (try simp only[Act.put,List.setIfInBounds_toArray,List.set_cons_zero,List.set_cons_succ])
          refine wpAnyH_ready (rs:=[16,19]) (by kernel_rfl) (by simp) ?_
          refine(AllReadyH.cons (by simp only[List.getElem?_toArray,List.getElem?_cons_succ,List.getElem?_cons_zero];rfl) (fun K hK=>?_) (AllReadyH.cons (by simp only[List.getElem?_toArray,List.getElem?_cons_succ,List.getElem?_cons_zero];rfl) (fun K hK=>?_) AllReadyH.nil))
          · (go_simp)
            refine hK.out _ _ ?_ (fun hNew=>?_)
            · ((try dsimp only);go_keep)
            clear hHeld;have hHeld:=hNew;clear hNew hK K
            (try simp only[Act.put,List.setIfInBounds_toArray,List.set_cons_zero,List.set_cons_succ])
            refine wpAnyH_ready (rs:=[19]) (by kernel_rfl) (by simp) ?_
            refine(AllReadyH.cons (by simp only[List.getElem?_toArray,List.getElem?_cons_succ,List.getElem?_cons_zero];rfl) (fun K hK=>?_) AllReadyH.nil)
            · (go_simp)
              refine hK.out _ _ ?_ (fun hNew=>?_)
              · ((try dsimp only);go_keep)
              clear hHeld;have hHeld:=hNew;clear hNew hK K
              (try simp only[Act.put,List.setIfInBounds_toArray,List.set_cons_zero,List.set_cons_succ])
              refine wpAnyH_done (by kernel_rfl) ?_ _
              refine NoPanic.normal ?_
              go_wp2
              go_ret
              first|(refine⟨rfl,hfin _ w3 _ g cp w2 _ kn nn sn _ _ hXn.out.1 hXn.out.2.1 ?_ hXn.out.2.2 hown2 hgr hat (Or.inl ?_)⟩;(first|exact below_alloc' _ _|exact Below.refl _ _);with_reducible rfl)|(refine⟨rfl,hfin _ w3 _ g cp w2 _ kn nn sn _ _ hXn.out.1 hXn.out.2.1 ?_ hXn.out.2.2 hown2 hgr hat (Or.inr ?_)⟩;(first|exact below_alloc' _ _|exact Below.refl _ _);with_reducible rfl)
          · (go_simp)
            refine hK.out _ _ ?_ (fun hNew=>?_)
            · ((try dsimp only);go_keep)
            clear hHeld;have hHeld:=hNew;clear hNew hK K
            (try simp only[Act.put,List.setIfInBounds_toArray,List.set_cons_zero,List.set_cons_succ])
            refine wpAnyH_ready (rs:=[16]) (by kernel_rfl) (by simp) ?_
            refine(AllReadyH.cons (by simp only[List.getElem?_toArray,List.getElem?_cons_succ,List.getElem?_cons_zero];rfl) (fun K hK=>?_) AllReadyH.nil)
            · (go_simp)
              refine hK.out _ _ ?_ (fun hNew=>?_)
              · ((try dsimp only);go_keep)
              clear hHeld;have hHeld:=hNew;clear hNew hK K
              (try simp only[Act.put,List.setIfInBounds_toArray,List.set_cons_zero,List.set_cons_succ])
              refine wpAnyH_done (by kernel_rfl) ?_ _
              refine NoPanic.normal ?_
              go_wp2
              go_ret
              first|(refine⟨rfl,hfin _ w3 _ g cp w2 _ kn nn sn _ _ hXn.out.1 hXn.out.2.1 ?_ hXn.out.2.2 hown2 hgr hat (Or.inl ?_)⟩;(first|exact below_alloc' _ _|exact Below.refl _ _);with_reducible rfl)|(refine⟨rfl,hfin _ w3 _ g cp w2 _ kn nn sn _ _ hXn.out.1 hXn.out.2.1 ?_ hXn.out.2.2 hown2 hgr hat (Or.inr ?_)⟩;(first|exact below_alloc' _ _|exact Below.refl _ _);with_reducible rfl)
 · (go_simp)
   refine hK.out _ _ ?_ (fun hNew=>?_)
   · ((try dsimp only);go_keep)
   clear hHeld;have hHeld:=hNew;clear hNew hK K
   (try simp only[Act.put,List.setIfInBounds_toArray,List.set_cons_zero,List.set_cons_succ])
   refine wpAnyH_ready (rs:=[3,10]) (by kernel_rfl) (by simp) ?_
   refine(AllReadyH.cons (by simp only[List.getElem?_toArray,List.getElem?_cons_succ,List.getElem?_cons_zero];rfl) (fun K hK=>?_) (AllReadyH.cons (by simp only[List.getElem?_toArray,List.getElem?_cons_succ,List.getElem?_cons_zero];rfl) (fun K hK=>?_) AllReadyH.nil))
   · (go_simp)
     refine hK.out _ _ ?_ (fun hNew=>?_)
     · ((try dsimp only);go_keep)
     clear hHeld;have hHeld:=hNew;clear hNew hK K
     (try simp only[Act.put,List.setIfInBounds_toArray,List.set_cons_zero,List.set_cons_succ])
     refine wpAnyH_take (i:=12) (v:=?_) (by simp only[List.getElem?_toArray,List.getElem?_cons_succ,List.getElem?_cons_zero];rfl) (by kernel_rfl) (by kernel_rfl) (by kernel_rfl) (fun _ _ _ h=>h) (Or.inl ⟨by rfl,?_⟩) (by assumption) ?_
     rotate_left
     · (intro w hSw;(try dsimp only at hSw);go_simp;try with_reducible rfl)
     (try simp only[Act.put,List.setIfInBounds_toArray,List.set_cons_zero,List.set_cons_succ])
     refine wpAnyH_ready (rs:=[10]) (by kernel_rfl) (by simp) ?_
     refine(AllReadyH.cons (by simp only[List.getElem?_toArray,List.getElem?_cons_succ,List.getElem?_cons_zero];rfl) (fun K hK=>?_) AllReadyH.nil)
     ·  (go_simp;(go_at_call 74;refine(hnc _ ?_).mono ?_;(first|exact below_drew _ _|exact below_da _ _);rintro e w3 ⟨kn,nn,sn,x3,y3,z3,x4,y4,z4,rfl,hXn,r0,r1,r2,r3,r4,r5,r6,r7⟩);go_wp2_with fail)
        refine hK.out _ _ ?_ (fun hNew=>?_)
        · ((try dsimp only);go_keep)
        clear hHeld;have hHeld:=hNew;clear hNew hK K
        (try simp only[Act.put,List.setIfInBounds_toArray,List.set_cons_zero,List.set_cons_succ])
        refine wpAnyH_take (i:=11) (v:=?_) (by simp only[List.getElem?_toArray,List.getElem?_cons_succ,List.getElem?_cons_zero];rfl) (by kernel_rfl) (by kernel_rfl) (by kernel_rfl) (fun _ _ _ h=>h) (Or.inl ⟨by rfl,?_⟩) (by assumption) ?_
        rotate_left
        · (intro w hSw;(try dsimp only at hSw);go_simp;try with_reducible rfl)
        (try simp only[Act.put,List.setIfInBounds_toArray,List.set_cons_zero,List.set_cons_succ])
        refine wpAnyH_ready (rs:=[14]) (by kernel_rfl) (by simp) ?_
        refine(AllReadyH.cons (by simp only[List.getElem?_toArray,List.getElem?_cons_succ,List.getElem?_cons_zero];rfl) (fun K hK=>?_) AllReadyH.nil)
        · ((refine step_append_lies _ rfl (.tmp 46) (.tmp 56) 34 rfl 0 59 i0 (.agg zF) 6 96 Tryd.underlying34 hi0 hz0 hz1 hz2 rfl (by omega) (.slice A1 L c1) L xs (by simp[Act.eval,Act.put]) (hO.out _ (below_via hXn.out.1 hXn.out.2.1 hXn.out.1.size)) ⟨wr.heap.size,0,none⟩ 1 1 zF.toList (by simp[Act.eval,Act.put]) rfl (World.news_of_block ((hXn.out.2.1.block wr.heap.size (show wr.heap.size<(wr.alloc _).heap.size by rw[alloc_size];omega)).trans (show (wr.alloc _).drew.heap[wr.heap.size]? =_ from alloc_at wr zF 59))) (by decide) (by omega) (by unfold maxLen;omega) (by omega) (Nat.zero_le _) _ rfl ?_;intro g cp w2 hown2 hgr hat hglt;obtain⟨v0,v1,v2,v3,v4,v5,f0,f1,f2,f3,f4,f5,ff,fb,fbf,fn1,fn2,fn3,fn4,fn5,fn6,fup,u0,u1,u2,u3,u4⟩:=hfx _ (below_via hXn.out.1 hXn.out.2.1 hXn.out.1.size) g cp w2 hown2 hgr hat))
          refine hK.out _ _ ?_ (fun hNew=>?_)
          · ((try dsimp only);go_keep)
          clear hHeld;have hHeld:=hNew;clear hNew hK K
          (try simp only[Act.put,List.setIfInBounds_toArray,List.set_cons_zero,List.set_cons_succ])
          refine wpAnyH_take (i:=15) (v:=?_) (by simp only[List.getElem?_toArray,List.getElem?_cons_succ,List.getElem?_cons_zero];rfl) (by kernel_rfl) (by kernel_rfl) (by kernel_rfl) (fun _ _ _ h=>h) (Or.inl ⟨by rfl,?_⟩) (by assumption) ?_
          rotate_left
          · (intro w hSw;(try dsimp only at hSw);go_simp;try with_reducible rfl)
          (try simp only[Act.put,List.setIfInBounds_toArray,List.set_cons_zero,List.set_cons_succ])
          refine wpAnyH_take (i:=17) (v:=?_) (by simp only[List.getElem?_toArray,List.getElem?_cons_succ,List.getElem?_cons_zero];rfl) (by kernel_rfl) (by kernel_rfl) (by kernel_rfl) (fun _ _ _ h=>h) (Or.inl ⟨by rfl,?_⟩) (by assumption) ?_
          rotate_left
          · (intro w hSw;(try dsimp only at hSw);go_simp;try with_reducible rfl)
          (try simp only[Act.put,List.setIfInBounds_toArray,List.set_cons_zero,List.set_cons_succ])
          refine wpAnyH_take (i:=18) (v:=?_) (by simp only[List.getElem?_toArray,List.getElem?_cons_succ,List.getElem?_cons_zero];rfl) (by kernel_rfl) (by kernel_rfl) (by kernel_rfl) (fun _ _ _ h=>h) (Or.inl ⟨by rfl,?_⟩) (by assumption) ?_
          rotate_left
          · (intro w hSw;(try dsimp only at hSw);go_simp;try with_reducible rfl)
          (try simp only[Act.put,List.setIfInBounds_toArray,List.set_cons_zero,List.set_cons_succ])
          refine wpAnyH_ready (rs:=[16,19]) (by kernel_rfl) (by simp) ?_
          refine(AllReadyH.cons (by simp only[List.getElem?_toArray,List.getElem?_cons_succ,List.getElem?_cons_zero];rfl) (fun K hK=>?_) (AllReadyH.cons (by simp only[List.getElem?_toArray,List.getElem?_cons_succ,List.getElem?_cons_zero];rfl) (fun K hK=>?_) AllReadyH.nil))
          · (go_simp)
            refine hK.out _ _ ?_ (fun hNew=>?_)
            · ((try dsimp only);go_keep)
            clear hHeld;have hHeld:=hNew;clear hNew hK K
            (try simp only[Act.put,List.setIfInBounds_toArray,List.set_cons_zero,List.set_cons_succ])
            refine wpAnyH_ready (rs:=[19]) (by kernel_rfl) (by simp) ?_
            refine(AllReadyH.cons (by simp only[List.getElem?_toArray,List.getElem?_cons_succ,List.getElem?_cons_zero];rfl) (fun K hK=>?_) AllReadyH.nil)
            · (go_simp)
              refine hK.out _ _ ?_ (fun hNew=>?_)
              · ((try dsimp only);go_keep)
              clear hHeld;have hHeld:=hNew;clear hNew hK K
              (try simp only[Act.put,List.setIfInBounds_toArray,List.set_cons_zero,List.set_cons_succ])
              refine wpAnyH_done (by kernel_rfl) ?_ _
              refine NoPanic.normal ?_
              go_wp2
              go_ret
              first|(refine⟨rfl,hfin _ w3 _ g cp w2 _ kn nn sn _ _ hXn.out.1 hXn.out.2.1 ?_ hXn.out.2.2 hown2 hgr hat (Or.inl ?_)⟩;(first|exact below_alloc' _ _|exact Below.refl _ _);with_reducible rfl)|(refine⟨rfl,hfin _ w3 _ g cp w2 _ kn nn sn _ _ hXn.out.1 hXn.out.2.1 ?_ hXn.out.2.2 hown2 hgr hat (Or.inr ?_)⟩;(first|exact below_alloc' _ _|exact Below.refl _ _);with_reducible rfl)
          · (go_simp)
            refine hK.out _ _ ?_ (fun hNew=>?_)
            · ((try dsimp only);go_keep)
            clear hHeld;have hHeld:=hNew;clear hNew hK K
            (try simp only[Act.put,List.setIfInBounds_toArray,List.set_cons_zero,List.set_cons_succ])
            refine wpAnyH_ready (rs:=[16]) (by kernel_rfl) (by simp) ?_
            refine(AllReadyH.cons (by simp only[List.getElem?_toArray,List.getElem?_cons_succ,List.getElem?_cons_zero];rfl) (fun K hK=>?_) AllReadyH.nil)
            · (go_simp)
              refine hK.out _ _ ?_ (fun hNew=>?_)
              · ((try dsimp only);go_keep)
              clear hHeld;have hHeld:=hNew;clear hNew hK K
              (try simp only[Act.put,List.setIfInBounds_toArray,List.set_cons_zero,List.set_cons_succ])
              refine wpAnyH_done (by kernel_rfl) ?_ _
              refine NoPanic.normal ?_
              go_wp2
              go_ret
              first|(refine⟨rfl,hfin _ w3 _ g cp w2 _ kn nn sn _ _ hXn.out.1 hXn.out.2.1 ?_ hXn.out.2.2 hown2 hgr hat (Or.inl ?_)⟩;(first|exact below_alloc' _ _|exact Below.refl _ _);with_reducible rfl)|(refine⟨rfl,hfin _ w3 _ g cp w2 _ kn nn sn _ _ hXn.out.1 hXn.out.2.1 ?_ hXn.out.2.2 hown2 hgr hat (Or.inr ?_)⟩;(first|exact below_alloc' _ _|exact Below.refl _ _);with_reducible rfl)
   · (go_simp;(go_at_call 74;refine(hnc _ ?_).mono ?_;(first|exact below_drew _ _|exact below_da _ _);rintro e w3 ⟨kn,nn,sn,x3,y3,z3,x4,y4,z4,rfl,hXn,r0,r1,r2,r3,r4,r5,r6,r7⟩);go_wp2_with fail)
     refine hK.out _ _ ?_ (fun hNew=>?_)
     · ((try dsimp only);go_keep)
     clear hHeld;have hHeld:=hNew;clear hNew hK K
     (try simp only[Act.put,List.setIfInBounds_toArray,List.set_cons_zero,List.set_cons_succ])
     refine wpAnyH_take (i:=11) (v:=?_) (by simp only[List.getElem?_toArray,List.getElem?_cons_succ,List.getElem?_cons_zero];rfl) (by kernel_rfl) (by kernel_rfl) (by kernel_rfl) (fun _ _ _ h=>h) (Or.inl ⟨by rfl,?_⟩) (by assumption) ?_
     rotate_left
     · (intro w hSw;(try dsimp only at hSw);go_simp;try with_reducible rfl)
     (try simp only[Act.put,List.setIfInBounds_toArray,List.set_cons_zero,List.set_cons_succ])
     refine wpAnyH_ready (rs:=[3]) (by kernel_rfl) (by simp) ?_
     refine(AllReadyH.cons (by simp only[List.getElem?_toArray,List.getElem?_cons_succ,List.getElem?_cons_zero];rfl) (fun K hK=>?_) AllReadyH.nil)
     ·  (go_simp)
        refine hK.out _ _ ?_ (fun hNew=>?_)
        · ((try dsimp only);go_keep)
        clear hHeld;have hHeld:=hNew;clear hNew hK K
        (try simp only[Act.put,List.setIfInBounds_toArray,List.set_cons_zero,List.set_cons_succ])
        refine wpAnyH_take (i:=12) (v:=?_) (by simp only[List.getElem?_toArray,List.getElem?_cons_succ,List.getElem?_cons_zero];rfl) (by kernel_rfl) (by kernel_rfl) (by kernel_rfl) (fun _ _ _ h=>h) (Or.inl ⟨by rfl,?_⟩) (by assumption) ?_
        rotate_left
        · (intro w hSw;(try dsimp only at hSw);go_simp;try with_reducible rfl)
        (try simp only[Act.put,List.setIfInBounds_toArray,List.set_cons_zero,List.set_cons_succ])
        refine wpAnyH_ready (rs:=[14]) (by kernel_rfl) (by simp) ?_
        refine(AllReadyH.cons (by simp only[List.getElem?_toArray,List.getElem?_cons_succ,List.getElem?_cons_zero];rfl) (fun K hK=>?_) AllReadyH.nil)
        · ((refine step_append_lies _ rfl (.tmp 46) (.tmp 56) 34 rfl 0 59 i0 (.agg zF) 6 96 Tryd.underlying34 hi0 hz0 hz1 hz2 rfl (by omega) (.slice A1 L c1) L xs (by simp[Act.eval,Act.put]) (hO.out _ (below_via hXn.out.1 hXn.out.2.1 hXn.out.1.size)) ⟨wr.heap.size,0,none⟩ 1 1 zF.toList (by simp[Act.eval,Act.put]) rfl (World.news_of_block ((hXn.out.2.1.block wr.heap.size (show wr.heap.size<(wr.alloc _).heap.size by rw[alloc_size];omega)).trans (show (wr.alloc _).drew.heap[wr.heap.size]? =_ from alloc_at wr zF 59))) (by decide) (by omega) (by unfold maxLen;omega) (by omega) (Nat.zero_le _) _ rfl ?_;intro g cp w2 hown2 hgr hat hglt;obtain⟨v0,v1,v2,v3,v4,v5,f0,f1,f2,f3,f4,f5,ff,fb,fbf,fn1,fn2,fn3,fn4,fn5,fn6,fup,u0,u1,u2,u3,u4⟩:=hfx _ (below_via hXn.out.1 hXn.out.2.1 hXn.out.1.size) g cp w2 hown2 hgr hat))
          refine hK.out _ _ ?_ (fun hNew=>?_)
          · ((try dsimp only);go_keep)
          clear hHeld;have hHeld:=hNew;clear hNew hK K
          (try simp only[Act.put,List.setIfInBounds_toArray,List.set_cons_zero,List.set_cons_succ])
          refine wpAnyH_take (i:=15) (v:=?_) (by simp only[List.getElem?_toArray,List.getElem?_cons_succ,List.getElem?_cons_zero];rfl) (by kernel_rfl) (by kernel_rfl) (by kernel_rfl) (fun _ _ _ h=>h) (Or.inl ⟨by rfl,?_⟩) (by assumption) ?_
          rotate_left
          · (intro w hSw;(try dsimp only at hSw);go_simp;try with_reducible rfl)
          (try simp only[Act.put,List.setIfInBounds_toArray,List.set_cons_zero,List.set_cons_succ])
          refine wpAnyH_take (i:=17) (v:=?_) (by simp only[List.getElem?_toArray,List.getElem?_cons_succ,List.getElem?_cons_zero];rfl) (by kernel_rfl) (by kernel_rfl) (by kernel_rfl) (fun _ _ _ h=>h) (Or.inl ⟨by rfl,?_⟩) (by assumption) ?_
          rotate_left
          · (intro w hSw;(try dsimp only at hSw);go_simp;try with_reducible rfl)
          (try simp only[Act.put,List.setIfInBounds_toArray,List.set_cons_zero,List.set_cons_succ])
          refine wpAnyH_take (i:=18) (v:=?_) (by simp only[List.getElem?_toArray,List.getElem?_cons_succ,List.getElem?_cons_zero];rfl) (by kernel_rfl) (by kernel_rfl) (by kernel_rfl) (fun _ _ _ h=>h) (Or.inl ⟨by rfl,?_⟩) (by assumption) ?_
          rotate_left
          · (intro w hSw;(try dsimp only at hSw);go_simp;try with_reducible rfl)
          (try simp only[Act.put,List.setIfInBounds_toArray,List.set_cons_zero,List.set_cons_succ])
          refine wpAnyH_ready (rs:=[16,19]) (by kernel_rfl) (by simp) ?_
          refine(AllReadyH.cons (by simp only[List.getElem?_toArray,List.getElem?_cons_succ,List.getElem?_cons_zero];rfl) (fun K hK=>?_) (AllReadyH.cons (by simp only[List.getElem?_toArray,List.getElem?_cons_succ,List.getElem?_cons_zero];rfl) (fun K hK=>?_) AllReadyH.nil))
          · (go_simp)
            refine hK.out _ _ ?_ (fun hNew=>?_)
            · ((try dsimp only);go_keep)
            clear hHeld;have hHeld:=hNew;clear hNew hK K
            (try simp only[Act.put,List.setIfInBounds_toArray,List.set_cons_zero,List.set_cons_succ])
            refine wpAnyH_ready (rs:=[19]) (by kernel_rfl) (by simp) ?_
            refine(AllReadyH.cons (by simp only[List.getElem?_toArray,List.getElem?_cons_succ,List.getElem?_cons_zero];rfl) (fun K hK=>?_) AllReadyH.nil)
            · (go_simp)
              refine hK.out _ _ ?_ (fun hNew=>?_)
              · ((try dsimp only);go_keep)
              clear hHeld;have hHeld:=hNew;clear hNew hK K
              (try simp only[Act.put,List.setIfInBounds_toArray,List.set_cons_zero,List.set_cons_succ])
              refine wpAnyH_done (by kernel_rfl) ?_ _
              refine NoPanic.normal ?_
              go_wp2
              go_ret
              first|(refine⟨rfl,hfin _ w3 _ g cp w2 _ kn nn sn _ _ hXn.out.1 hXn.out.2.1 ?_ hXn.out.2.2 hown2 hgr hat (Or.inl ?_)⟩;(first|exact below_alloc' _ _|exact Below.refl _ _);with_reducible rfl)|(refine⟨rfl,hfin _ w3 _ g cp w2 _ kn nn sn _ _ hXn.out.1 hXn.out.2.1 ?_ hXn.out.2.2 hown2 hgr hat (Or.inr ?_)⟩;(first|exact below_alloc' _ _|exact Below.refl _ _);with_reducible rfl)
          · (go_simp)
            refine hK.out _ _ ?_ (fun hNew=>?_)
            · ((try dsimp only);go_keep)
            clear hHeld;have hHeld:=hNew;clear hNew hK K
            (try simp only[Act.put,List.setIfInBounds_toArray,List.set_cons_zero,List.set_cons_succ])
            refine wpAnyH_ready (rs:=[16]) (by kernel_rfl) (by simp) ?_
            refine(AllReadyH.cons (by simp only[List.getElem?_toArray,List.getElem?_cons_succ,List.getElem?_cons_zero];rfl) (fun K hK=>?_) AllReadyH.nil)
            · (go_simp)
              refine hK.out _ _ ?_ (fun hNew=>?_)
              · ((try dsimp only);go_keep)
              clear hHeld;have hHeld:=hNew;clear hNew hK K
              (try simp only[Act.put,List.setIfInBounds_toArray,List.set_cons_zero,List.set_cons_succ])
              refine wpAnyH_done (by kernel_rfl) ?_ _
              refine NoPanic.normal ?_
              go_wp2
              go_ret
              first|(refine⟨rfl,hfin _ w3 _ g cp w2 _ kn nn sn _ _ hXn.out.1 hXn.out.2.1 ?_ hXn.out.2.2 hown2 hgr hat (Or.inl ?_)⟩;(first|exact below_alloc' _ _|exact Below.refl _ _);with_reducible rfl)|(refine⟨rfl,hfin _ w3 _ g cp w2 _ kn nn sn _ _ hXn.out.1 hXn.out.2.1 ?_ hXn.out.2.2 hown2 hgr hat (Or.inr ?_)⟩;(first|exact below_alloc' _ _|exact Below.refl _ _);with_reducible rfl)
end Go.Proofs.YtmjnmiahblaanaaDoor
