/- path.clone: what it returns has memory of its own. -/
import Derived.WalkKit
import Derived.Deep.LoopGhost
import Derived.Deep.RegionLaw
import Derived.Deep.OwnRows
import Derived.Deep.Cut
import Derived.Deep.CutRange
import Derived.Deep.Light
import Derived.Deep.RegionHeld3
import Derived.Test.YtameompfdamfpaaGreatDoorProg
import Derived.Test.YtameompfdamfpaaGreatDoorOT
set_option linter.unusedVariables false
set_option linter.unusedSimpArgs false
namespace Go.Proofs.YtameompfdamfpaaGreatDoor
open Go.RowKit Go.Am
theorem tV:∃fv ff,VTy Tryz.prog 33 57 23 31 3 9 fv ff:=by
 refine⟨_,_,Tryz.underlying33,Tryz.underlying57,Tryz.underlying23,Tryz.underlying31,Tryz.underlying3,Tryz.underlying9,rfl,rfl,?_,?_,?_,?_,?_,?_⟩<;>kernel_rfl
def zV:Array Value:= #[Value.int IntKind.i64 0,Value.int IntKind.i64 0,Value.string ⟨#[]⟩,Value.slice none 0 0,Value.slice none 0 0]
def zF:Array Value:= #[Value.string ⟨#[]⟩,Value.int IntKind.i64 0,Value.int IntKind.i64 0,Value.string ⟨#[]⟩,Value.slice none 0 0,Value.slice none 0 0]
theorem make33 (n:Nat) (hn:n≤137438953472) (w:World):(Instr.makeSlice 23 (.int .i64 n) (.int .i64 n)).run Tryz.prog w= .ok (.slice (some ⟨w.heap.size,0,none⟩) n n) (w.alloc (.cells (madeCells zV (n*5)) 33)):=by
 obtain⟨i0,hi0,hz0,hz1,hz2⟩:=info_parts (show (Tryz.prog.info? 33).map (fun i=>(i.zero,i.size,i.bytes))=some (some (.agg zV),5,80) by kernel_rfl)
 have h:=run_make (P:=Tryz.prog) w 23 33 i0 (.agg zV) Tryz.underlying23 hi0 hz0 .i64 .i64 n n (by omega) (by omega) (by rw[hz2];omega) (by omega)
 rw[hz1] at h
 have e:(Value.agg zV).cells=zV:=rfl
 rw[e] at h
 simpa using h
theorem make34 (n:Nat) (hn:n≤137438953472) (w:World):(Instr.makeSlice 31 (.int .i64 n) (.int .i64 n)).run Tryz.prog w= .ok (.slice (some ⟨w.heap.size,0,none⟩) n n) (w.alloc (.cells (madeCells zF (n*6)) 57)):=by
 obtain⟨i0,hi0,hz0,hz1,hz2⟩:=info_parts (show (Tryz.prog.info? 57).map (fun i=>(i.zero,i.size,i.bytes))=some (some (.agg zF),6,96) by kernel_rfl)
 have h:=run_make (P:=Tryz.prog) w 31 57 i0 (.agg zF) Tryz.underlying31 hi0 hz0 .i64 .i64 n n (by omega) (by omega) (by rw[hz2];omega) (by omega)
 rw[hz1] at h
 have e:(Value.agg zF).cells=zF:=rfl
 rw[e] at h
 simpa using h
theorem one_made {z:Array Value} (hz:∀c∈z.toList,c.oneCell'=true) (h0:0<z.size) (N:Nat):∀c∈(madeCells z N).toList,c.oneCell'=true:=by
 intro c hc
 obtain⟨j,hj⟩:=List.getElem?_of_mem hc
 simp only[madeCells,Array.getElem?_toList,Array.getElem?_map,Option.map_eq_some_iff] at hj
 obtain⟨q,_,rfl⟩:=hj
 have hlt:q%z.size<z.size:=Nat.mod_lt _ h0
 have:z[q%z.size]! =z[q%z.size]:=by simp[hlt]
 rw[this]
 exact hz _ (by simp)
theorem below_drew (B:Nat) (w:World):Below B w w.drew:=⟨rfl,rfl,rfl,Nat.le_refl _,fun _ _=>rfl⟩
theorem below_via {B:Nat} {w W w':World} (h:Below B w W) (k:Below W.heap.size W w') (hB:B≤W.heap.size):Below B w w':=⟨k.os.trans h.os,k.tape.trans h.tape,k.output.trans h.output,Nat.le_trans h.size k.size,fun b hb=>(k.block b (by omega)).trans (h.block b hb)⟩
theorem alloc_old {w:World} {o:Obj} {b:Nat} (h:b<w.heap.size):(w.alloc o).heap[b]? =w.heap[b]? :=by
 show (w.heap.push _)[b]? =_
 rw[Array.getElem?_push,if_neg (by omega)]
theorem alloc_size (w:World) (o:Obj):(w.alloc o).heap.size=w.heap.size+1:=Array.size_push _
theorem alloc_at (w:World) (c:Array Value) (T:TypeId):(w.alloc (.cells c T)).heap[w.heap.size]? =some (.cells c T (0,0)):=heap_alloc_new w _
theorem alloc_eq {w:World} {b:Nat} {c:Array Value} {T:TypeId} (h:b=w.heap.size):(w.alloc (.cells c T)).heap[b]? =some (.cells c T (0,0)):=by rw[h];exact alloc_at w c T
theorem cell_at {w:World} {b o:Nat} {c:Array Value} {T:TypeId} {f:Nat×Nat} (h:w.heap[b]? =some (.cells c T f)):w.cell? ⟨b,o,none⟩=c[o]? :=by simp[World.cell?,h]
theorem froz_at {w:World} {b o:Nat} {c:Array Value} {T:TypeId} (h:w.heap[b]? =some (.cells c T (0,0))):w.frozen? ⟨b,o,none⟩=false:=by simp[World.frozen?,h]
theorem RT.isSlice {P:Program} {T E:TypeId} {w:World} {lo hi:Nat} {d:Dt} {z:Value} (hu:P.underlying T=some (.slice E)) (h:RT P w lo hi T d [z]):∃x y u,z= .slice x y u:=by
 obtain⟨es,rfl,⟨_,e⟩| ⟨b,arr,m,e,_⟩⟩:=h.l_inv hu
 ·exact⟨_,_,_,by simpa using e⟩
 ·exact⟨_,_,_,by simpa using e⟩
structure Cl (w wr:World) (k n:Int) (s:ByteArray) (c3 c4 r3 r4:Value):Prop where
 below:Below w.heap.size w wr
 size:w.heap.size+3≤wr.heap.size
 hv:wr.heap[w.heap.size]? =some (.cells #[.int .i64 k,.int .i64 n,.string s,c3,c4] 33 (0,0))
 hz:wr.heap[w.heap.size+1]? =some (.cells zV 33 (0,0))
 hr:wr.heap[w.heap.size+1+1]? =some (.cells #[.int .i64 k,.int .i64 n,.string s,r3,r4] 33 (0,0))
theorem Cl.keep {w wr W:World} {k n:Int} {s:ByteArray} {c3 c4 r3 r4:Value} (h:Cl w wr k n s c3 c4 r3 r4) (hb:Below (w.heap.size+3) wr W):Cl w W k n s c3 c4 r3 r4:=
 ⟨⟨hb.os.trans h.below.os,hb.tape.trans h.below.tape,hb.output.trans h.below.output,Nat.le_trans h.below.size hb.size,fun b hbw=>(hb.block b (by omega)).trans (h.below.block b hbw)⟩,Nat.le_trans h.size hb.size,(hb.block _ (by omega)).trans h.hv,(hb.block _ (by omega)).trans h.hz,(hb.block _ (by omega)).trans h.hr⟩
theorem cl_start (w:World) (k n:Int) (s:ByteArray) (c3 c4 r3 r4:Value):Cl w (((w.alloc (.cells #[.int .i64 k,.int .i64 n,.string s,c3,c4] 33)).alloc (.cells zV 33)).alloc (.cells #[.int .i64 k,.int .i64 n,.string s,r3,r4] 33)) k n s c3 c4 r3 r4:=by
 have s1:=alloc_size w (.cells #[.int .i64 k,.int .i64 n,.string s,c3,c4] 33)
 have s2:=alloc_size (w.alloc (.cells #[.int .i64 k,.int .i64 n,.string s,c3,c4] 33)) (.cells zV 33)
 have s3:=alloc_size ((w.alloc (.cells #[.int .i64 k,.int .i64 n,.string s,c3,c4] 33)).alloc (.cells zV 33)) (.cells #[.int .i64 k,.int .i64 n,.string s,r3,r4] 33)
 refine⟨⟨rfl,rfl,rfl,by omega,fun b hb=>?_⟩,by omega,?_,?_,?_⟩
 ·rw[alloc_old (by omega),alloc_old (by omega),alloc_old hb]
 ·rw[alloc_old (by omega),alloc_old (by omega),alloc_at]
 ·rw[alloc_old (by omega),←s1,alloc_at]
 ·rw[←s1,←s2,alloc_at]
theorem cl_alloc {w wr:World} {k n:Int} {s:ByteArray} {c3 c4 r3 r4:Value} (h:Cl w wr k n s c3 c4 r3 r4) (o:Obj):Cl w (wr.alloc o) k n s c3 c4 r3 r4:=
 h.keep ⟨rfl,rfl,rfl,by rw[alloc_size];omega,fun b hb=>alloc_old (by have:=h.size;omega)⟩
theorem cl_set {w wr:World} {k n:Int} {s:ByteArray} {c3 c4 r3 r4:Value} (h:Cl w wr k n s c3 c4 r3 r4) (v:Value):Cl w (wr.setCell ⟨w.heap.size+1+1,4,none⟩ v) k n s c3 c4 r3 v:=by
 have hs:=h.size
 have ho:∀b,b≠w.heap.size+1+1→(wr.setCell ⟨w.heap.size+1+1,4,none⟩ v).heap[b]? =wr.heap[b]? :=fun b hb=>Below.heap_setCell _ _ _ _ hb
 refine⟨⟨h.below.os,h.below.tape,h.below.output,by rw[World.size_setCell];omega,fun b hb=>(ho b (by omega)).trans (h.below.block b hb)⟩,by rw[World.size_setCell];omega,(ho _ (by omega)).trans h.hv,(ho _ (by omega)).trans h.hz,?_⟩
 simp[World.setCell,Array.getElem?_modify,h.hr]
theorem cl_round {P:Program} {E:TypeId} {es:List Dt} {w wr W0 w' W2:World} {k n:Int} {s:ByteArray} {c3 c4 r3 r4:Value} {r a lo B:Nat} {d:Dt} {cs:List Value} {o:Obj} (hC:Cl w wr k n s c3 c4 r3 r4) (hB:Built P wr lo B E es r) (hB3:w.heap.size+3≤B) (hBw:B<wr.heap.size) (hd:es[r]? =some d) (hW0:W0=wr.alloc o)
  (h1:Below W0.heap.size W0 w') (h2:W0.heap.size≤a) (hrt:RT P w' a w'.heap.size E d cs) (hl:cs.length=P.cellsOf E) (hW2:W2=w'.setCells B (r*P.cellsOf E) cs):Cl w W2 k n s c3 c4 r3 r4∧Built P W2 lo B E es (r+1)∧∀b,b<wr.heap.size→b≠B→W2.heap[b]? =wr.heap[b]? :=by
 have s0:W0.heap.size=wr.heap.size+1:=by rw[hW0,alloc_size]
 have k0:∀b,b<wr.heap.size→W0.heap[b]? =wr.heap[b]? :=fun b hb=>by rw[hW0,alloc_old hb]
 have hs1:=h1.size
 have k1:∀b,b<wr.heap.size→w'.heap[b]? =wr.heap[b]? :=fun b hb=>(h1.block b (by omega)).trans (k0 b hb)
 obtain⟨z1,z2,z3,z4⟩:=scells_rest B cs (r*P.cellsOf E) w'
 refine⟨hC.keep ⟨?_,?_,?_,?_,fun b hb=>?_⟩,hB.step hd (by omega) k1 (by omega) hrt hl (by rw[hW2]),fun b hb hne=>by rw[hW2,scells_other B cs _ w' hne];exact k1 b hb⟩
 ·rw[hW2,z1,h1.os,hW0];rfl
 ·rw[hW2,z2,h1.tape,hW0];rfl
 ·rw[hW2,z3,h1.output,hW0];rfl
 ·rw[hW2,z4];omega
 ·rw[hW2,scells_other B cs _ w' (by omega)]
  exact k1 b (by have:=hC.size;omega)
theorem elem_call (N:Nat) (ih:∀(d:Dt) (ok:Nat→Prop) (w:World) (cs:List Value),d.bulk≤N→RD Tryz.prog ok w 33 d cs→(∀b,ok b→b<w.heap.size)→Calls Tryz.prog 140 #[.agg cs.toArray] w fun e w'=>∃cs',e= .returned (.agg cs'.toArray)∧Below w.heap.size w w'∧RT Tryz.prog w' w.heap.size w'.heap.size 33 d cs')
  {fv ff:Array Field} (hT:VTy Tryz.prog 33 57 23 31 3 9 fv ff) {ok:Nat→Prop} {w W0:World} (hok:∀b,ok b→b<w.heap.size) (hW0:Below w.heap.size w W0) {k' n':Int} {s':ByteArray} {l' fs':List Dt} {c3' c4':Value} (hb:(Dt.agg [Dt.int k',Dt.int n',Dt.str s',Dt.lst l',Dt.lst fs']).bulk≤N)
  (hrx:RD Tryz.prog ok w 33 (Dt.agg [Dt.int k',Dt.int n',Dt.str s',Dt.lst l',Dt.lst fs']) [.int .i64 k',.int .i64 n',.string s',c3',c4']) (W:World) (hW:Below W0.heap.size W0 W):
  Calls Tryz.prog 140 #[.agg #[.int .i64 k',.int .i64 n',.string s',c3',c4']] W fun e w'=>∃x3 y3 z3 x4 y4 z4,e= .returned (.agg #[.int .i64 k',.int .i64 n',.string s',.slice x3 y3 z3,.slice x4 y4 z4])∧Below W0.heap.size W0 w'∧
   ∃a,W0.heap.size≤a∧a≤w'.heap.size∧RT Tryz.prog w' a w'.heap.size 33 (Dt.agg [Dt.int k',Dt.int n',Dt.str s',Dt.lst l',Dt.lst fs']) [.int .i64 k',.int .i64 n',.string s',.slice x3 y3 z3,.slice x4 y4 z4]:=by
 have h:=ih _ ok W [.int .i64 k',.int .i64 n',.string s',c3',c4'] hb (hrx.mono fun b hb=>⟨hb,(hW.block b (Nat.lt_of_lt_of_le (hok b hb) hW0.size)).trans (hW0.block b (hok b hb))⟩) (fun b hb=>Nat.lt_of_lt_of_le (hok b hb) (Nat.le_trans hW0.size hW.size))
 refine h.mono ?_
 rintro e w' ⟨cs',rfl,hb',hrt⟩
 obtain⟨k1,n1,s1,l1,f1,c3,c4,a,b,c,e1,rfl,_,_,_,_,hl1,hf1,_⟩:=hrt.v_inv hT
 cases e1
 obtain⟨x3,y3,z3,rfl⟩:=RT.isSlice hT.l hl1
 obtain⟨x4,y4,z4,rfl⟩:=RT.isSlice hT.d hf1
 exact⟨x3,y3,z3,x4,y4,z4,rfl,below_via hW hb' hW.size,W.heap.size,hW.size,hb'.size,hrt⟩
set_option maxHeartbeats 4000000 in
set_option maxRecDepth 1000000 in
theorem clone_walk (N:Nat) (ih:∀(d:Dt) (ok:Nat→Prop) (w:World) (cs:List Value),d.bulk≤N→RD Tryz.prog ok w 33 d cs→(∀b,ok b→b<w.heap.size)→Calls Tryz.prog 140 #[.agg cs.toArray] w fun e w'=>∃cs',e= .returned (.agg cs'.toArray)∧Below w.heap.size w w'∧RT Tryz.prog w' w.heap.size w'.heap.size 33 d cs')
  (d:Dt) (ok:Nat→Prop) (w:World) (cs:List Value) (hb:d.bulk≤N+1) (hN:N≤137438953471) (hrd:RD Tryz.prog ok w 33 d cs) (hok:∀b,ok b→b<w.heap.size):
  Calls Tryz.prog 140 #[.agg cs.toArray] w fun e w'=>∃cs',e= .returned (.agg cs'.toArray)∧Below w.heap.size w w'∧RT Tryz.prog w' w.heap.size w'.heap.size 33 d cs':=by
 obtain⟨fv,ff,hT⟩:=tV
 obtain⟨k,n,s,l,fs,c3,c4,rfl,rfl,hl,hf,hk,hn,hs⟩:=hrd.v_inv hT
 obtain⟨a3,p3,b3,o3,rfl,hp3,hm3,ha3,hel3⟩:=hl.elems hT.l (by rw[hT.cv];omega)
 obtain⟨a4,p4,b4,o4,rfl,hp4,hm4,ha4,hel4⟩:=hf.elems hT.d (by rw[hT.cf];omega)
 have hbk:Dt.bulkL l+Dt.bulkL fs+3≤N:=by
  simp only[Dt.bulk,Dt.bulkL] at hb
  omega
 have hll:=len_bulk l
 have hlf:=len_bulk fs
 have h3:l.length≤137438953472:=by omega
 have h4:fs.length≤137438953472:=by omega
 rw[hT.cv] at hel3
 rw[hT.cf] at hel4
 have hmk3:=make33 l.length h3
 have hmk4:=make34 fs.length h4
 clear hrd hl hf hb
 show Calls Tryz.prog 140 #[.agg #[.int .i64 k,.int .i64 n,.string s,.slice a3 l.length p3,.slice a4 fs.length p4]] w _
 go_enter Tryz.func140,Tryz.ntmps140
 go_upto_if 18 with fail
 go_cut [] from 4 to 38 (fun wc=>∃r3,Cl w wc k n s (.slice a3 l.length p3) (.slice a4 fs.length p4) r3 (.slice none 0 0)∧RT Tryz.prog wc (w.heap.size+3) wc.heap.size 23 (.lst l) [r3])
 case first=>
  by_cases hn0:0<l.length
  ·obtain⟨ rfl,hb3⟩:=ha3 hn0
   clear ha3
   have e18:decide (0<l.length)=true:=decide_eq_true hn0
   rw[e18]
   go_wp2
   go_loopg [27] l.length (fun g i wr=>∃r:Nat,r≤l.length∧g=l.length-r∧i= .int .i64 r∧Cl w wr k n s (.slice (some ⟨b3,o3,none⟩) l.length p3) (.slice a4 fs.length p4) (.slice (some ⟨w.heap.size+1+1+1,0,none⟩) l.length l.length) (.slice none 0 0)∧Built Tryz.prog wr (w.heap.size+3) (w.heap.size+1+1+1) 33 l r)
   case atStart=>
        have hC:=cl_start w k n s (.slice (some ⟨b3,o3,none⟩) l.length p3) (.slice a4 fs.length p4) (.slice (some ⟨w.heap.size+1+1+1,0,none⟩) l.length l.length) (.slice none 0 0)
        refine⟨0,Nat.zero_le _,rfl,rfl,cl_alloc hC _,Built.start (arr:=madeCells zV (l.length*5)) ?_ (by rw[size_madeCells,hT.cv]) (one_made (by decide) (by decide) _) (Nat.le_refl _) ?_⟩
        ·exact alloc_eq (by rw[alloc_size,alloc_size,alloc_size])
        ·rw[alloc_size,alloc_size,alloc_size,alloc_size];omega
   case round=>
        obtain⟨r,hr,rfl,rfl,hC,hB⟩:=hrel
        by_cases hrn:r<l.length
        ·have hrz:(r:Int)<(l.length:Int):=by omega
         obtain⟨cs,hcl,hcell,hrx⟩:=hel3 r _ (List.getElem?_eq_getElem hrn)
         have hbx:=bulk_in (List.getElem_mem hrn)
         obtain⟨k',n',s',l',fs',c3',c4',hx,rfl,hl',hf',_⟩:=hrx.v_inv hT
         obtain⟨a3',p3',_,_,rfl,_⟩:=hl'.elems hT.l (by rw[hT.cv];omega)
         obtain⟨a4',p4',_,_,rfl,_⟩:=hf'.elems hT.d (by rw[hT.cf];omega)
         have hxe:=List.getElem?_eq_getElem hrn
         rw[hx] at hrx hbx hxe
         have hbw:b3<w.heap.size:=hok _ hb3
         have g0:wr.cell? ⟨b3,o3+r*5,none⟩=some (.int .i64 k'):=by rw[hC.below.cell (p:=⟨b3,o3+r*5,none⟩) hbw];exact hcell 0 _ rfl
         have g1:wr.cell? ⟨b3,o3+r*5+1,none⟩=some (.int .i64 n'):=by rw[hC.below.cell (p:=⟨b3,o3+r*5+1,none⟩) hbw];exact hcell 1 _ rfl
         have g2:wr.cell? ⟨b3,o3+r*5+2,none⟩=some (.string s'):=by rw[hC.below.cell (p:=⟨b3,o3+r*5+2,none⟩) hbw];exact hcell 2 _ rfl
         have g3:wr.cell? ⟨b3,o3+r*5+3,none⟩=some (.slice a3' l'.length p3'):=by rw[hC.below.cell (p:=⟨b3,o3+r*5+3,none⟩) hbw];exact hcell 3 _ rfl
         have g4:wr.cell? ⟨b3,o3+r*5+4,none⟩=some (.slice a4' fs'.length p4'):=by rw[hC.below.cell (p:=⟨b3,o3+r*5+4,none⟩) hbw];exact hcell 4 _ rfl
         have hsz:=hC.size
         have hR:=hC.hr
         obtain⟨arr,m,hB0,hz0,hB1⟩:=id hB
         have hBs:w.heap.size+1+1+1<wr.heap.size:=(Array.getElem?_eq_some_iff.1 hB0).1
         have hmul:(r+1)*5≤l.length*5:=Nat.mul_le_mul_right _ hrn
         rw[hT.cv] at hz0
         have hv:∀j,j<5→∃v,arr[r*5+j]? =some v:=fun j hj=>⟨_,Array.getElem?_eq_getElem (by omega)⟩
         obtain⟨v0,hv0⟩:=hv 0 (by omega)
         obtain⟨v1,hv1⟩:=hv 1 (by omega)
         obtain⟨v2,hv2⟩:=hv 2 (by omega)
         obtain⟨v3,hv3⟩:=hv 3 (by omega)
         obtain⟨v4,hv4⟩:=hv 4 (by omega)
         obtain⟨W0,hW0⟩:∃W0,W0=wr.alloc (.cells #[.int .i64 k',.int .i64 n',.string s',.slice a3' l'.length p3',.slice a4' fs'.length p4'] 33):=⟨_,rfl⟩
         have s0:W0.heap.size=wr.heap.size+1:=by rw[hW0,alloc_size]
         have k0:∀b,b<wr.heap.size→W0.heap[b]? =wr.heap[b]? :=fun b hb=>by rw[hW0,alloc_old hb]
         have t0:W0.heap[wr.heap.size]? =some (.cells #[.int .i64 k',.int .i64 n',.string s',.slice a3' l'.length p3',.slice a4' fs'.length p4'] 33 (0,0)):=by rw[hW0,alloc_at]
         have b0:Below w.heap.size w W0:=by
          rw[hW0];exact⟨hC.below.os,hC.below.tape,hC.below.output,by rw[alloc_size];omega,fun b hb=>(alloc_old (by omega)).trans (hC.below.block b hb)⟩
         have ihc:∀W:World,Below W0.heap.size W0 W→Calls Tryz.prog 140 #[.agg #[.int .i64 k',.int .i64 n',.string s',.slice a3' l'.length p3',.slice a4' fs'.length p4']] W fun e w'=>
           ∃   x3 y3 z3 x4 y4 z4,e= .returned (.agg #[.int .i64 k',.int .i64 n',.string s',.slice x3 y3 z3,.slice x4 y4 z4])∧Hid (Below W0.heap.size W0 w'∧∃a,W0.heap.size≤a∧a≤w'.heap.size∧RT Tryz.prog w' a w'.heap.size 33 (Dt.agg [Dt.int k',Dt.int n',Dt.str s',Dt.lst l',Dt.lst fs']) [.int .i64 k',.int .i64 n',.string s',.slice x3 y3 z3,.slice x4 y4 z4])∧
               w'.cell? ⟨w.heap.size+1+1,3,none⟩=some (.slice (some ⟨w.heap.size+1+1+1,0,none⟩) l.length l.length)∧w'.cell? ⟨wr.heap.size,0,none⟩=some (.int .i64 k')∧w'.cell? ⟨wr.heap.size,1,none⟩=some (.int .i64 n')∧w'.cell? ⟨wr.heap.size,2,none⟩=some (.string s')∧w'.cell? ⟨wr.heap.size,3,none⟩=some (.slice a3' l'.length p3')∧w'.cell? ⟨wr.heap.size,4,none⟩=some (.slice a4' fs'.length p4')∧
               w'.cell? ⟨w.heap.size+1+1+1,r*5,none⟩=some v0∧w'.cell? ⟨w.heap.size+1+1+1,r*5+1,none⟩=some v1∧w'.cell? ⟨w.heap.size+1+1+1,r*5+2,none⟩=some v2∧w'.cell? ⟨w.heap.size+1+1+1,r*5+3,none⟩=some v3∧w'.cell? ⟨w.heap.size+1+1+1,r*5+4,none⟩=some v4∧∀t,w'.frozen? ⟨w.heap.size+1+1+1,t,none⟩=false:=fun W hW=>by
          refine(elem_call N ih hT hok b0 (by omega) hrx W hW).mono ?_
          rintro e w' ⟨x3,y3,z3,x4,y4,z4,rfl,h1,h2⟩
          have f1:=(h1.block _ (by omega)).trans ((k0 _ (by omega)).trans hR)
          have f2:=(h1.block wr.heap.size (by omega)).trans t0
          have f3:=(h1.block _ (by omega)).trans ((k0 _ hBs).trans hB0)
          exact⟨x3,y3,z3,x4,y4,z4,rfl,⟨h1,h2⟩,cell_at f1,cell_at f2,cell_at f2,cell_at f2,cell_at f2,cell_at f2,(cell_at f3).trans hv0,(cell_at f3).trans hv1,(cell_at f3).trans hv2,(cell_at f3).trans hv3,(cell_at f3).trans hv4,fun t=>froz_at f3⟩
         have A1:Hid (l[r]? =some (Dt.agg [Dt.int k',Dt.int n',Dt.str s',Dt.lst l',Dt.lst fs'])∧W0=wr.alloc (.cells #[.int .i64 k',.int .i64 n',.string s',.slice a3' l'.length p3',.slice a4' fs'.length p4'] 33)∧W0.heap.size=wr.heap.size+1∧(∀b,b<wr.heap.size→W0.heap[b]? =wr.heap[b]?)):=⟨hxe,hW0,s0,k0⟩
         have g5:wr.cell? ⟨w.heap.size+1+1,3,none⟩=some (.slice (some ⟨w.heap.size+1+1+1,0,none⟩) l.length l.length):=cell_at hR
         have hne:¬wr.heap.size=w.heap.size+1+1+1:=by omega
         have hne3:¬w.heap.size+1+1+1=wr.heap.size:=by omega
         have hne2:¬w.heap.size+1+1=wr.heap.size:=by omega
         clear hel3 hel4 hcell hok hmk3 hmk4 hx hxe hrx hl' hf' hB0 hz0 hB1 hv hv0 hv1 hv2 hv3 hv4 s0 k0 t0 b0 ih hmul
         go_wp2
         go_region_held3 (fun W=>W.cell? ⟨w.heap.size+1+1,3,none⟩=some (.slice (some ⟨w.heap.size+1+1+1,0,none⟩) l.length l.length)∧W.cell? ⟨wr.heap.size,0,none⟩=some (.int .i64 k')∧W.cell? ⟨wr.heap.size,1,none⟩=some (.int .i64 n')∧W.cell? ⟨wr.heap.size,2,none⟩=some (.string s')∧W.cell? ⟨wr.heap.size,3,none⟩=some (.slice a3' l'.length p3')∧W.cell? ⟨wr.heap.size,4,none⟩=some (.slice a4' fs'.length p4'))
          (go_keep)
          (first|(go_at_call 140;refine(ihc _ ?_).mono ?_;(rw[A1.out.2.1];exact below_drew _ _);rintro e w' ⟨x3,y3,z3,x4,y4,z4,rfl,hX,q1,q2,q3,q4,q5,q6,e0,e1,e2,e3,e4,ef⟩))
         go_wp2
         go_roundg (l.length-(r+1))
         case measure=>omega
         case rel=>
          obtain⟨hX1,a,hX2,hX3,hX4⟩:=hX.out
          obtain⟨hR1,hR2,_⟩:=cl_round hC hB (Nat.le_refl _) hBs A1.out.1 A1.out.2.1 hX1 hX2 hX4 (by rw[hT.cv];rfl) (W2:=w'.setCells (w.heap.size+1+1+1) (r*5) [.int .i64 k',.int .i64 n',.string s',.slice x3 y3 z3,.slice x4 y4 z4]) (by rw[hT.cv])
          exact⟨r+1,by omega,rfl,by go_num,hR1,hR2⟩
        ·obtain rfl:r=l.length:=by omega
         clear hel3 hel4 hok hmk3 hmk4 ih
         go_wp2
         go_meet
         case rel=>exact⟨_,hC,hB.done hT.l hn0 (by unfold maxLen;omega)⟩
  ·have h0:l=[]:=List.eq_nil_of_length_eq_zero (by omega)
   subst h0
   clear ha3 hel3 hel4 hok hmk3 hmk4 ih
   go_wp2
   go_meet
   case rel=>exact⟨_,cl_start w k n s _ _ _ _,.nil hT.l⟩
 case rest=>
  obtain⟨r3,hC0,hL⟩:=hcut
  obtain⟨x3,y3,z3,rfl⟩:=RT.isSlice hT.l hL
  have f1:wc.cell? ⟨w.heap.size,4,none⟩=some (.slice a4 fs.length p4):=cell_at hC0.hv
  have hR0:=hC0.hr
  clear ha3 hel3 hmk3
  go_upto_if 42 with fail
  go_cut [] from 4 to 66 (fun wd=>∃r4,Cl w wd k n s (.slice a3 l.length p3) (.slice a4 fs.length p4) (.slice x3 y3 z3) r4∧RT Tryz.prog wd (w.heap.size+3) wc.heap.size 23 (.lst l) [.slice x3 y3 z3]∧wc.heap.size≤wd.heap.size∧RT Tryz.prog wd wc.heap.size wd.heap.size 31 (.lst fs) [r4])
  case first=>
   by_cases hn0:0<fs.length
   ·    obtain⟨rfl,hb4⟩:=ha4 hn0
        clear ha4
        have e42:decide (0<fs.length)=true:=decide_eq_true hn0
        rw[e42]
        have hcs:=hC0.size
        have hst1:∀o,(wc.alloc o).cell? ⟨w.heap.size+1+1,4,none⟩=some (.slice none 0 0):=fun o=>cell_at ((alloc_old (by omega)).trans hR0)
        have hst2:∀o,(wc.alloc o).frozen? ⟨w.heap.size+1+1,4,none⟩=false:=fun o=>froz_at ((alloc_old (by omega)).trans hR0)
        have hst3:∀o v,((wc.alloc o).setCell ⟨w.heap.size+1+1,4,none⟩ v).cell? ⟨w.heap.size,4,none⟩=some (.slice (some ⟨b4,o4,none⟩) fs.length p4):=fun o v=>cell_at ((Below.heap_setCell _ _ _ _ (by show w.heap.size≠w.heap.size+1+1;omega)).trans ((alloc_old (by omega)).trans hC0.hv))
        go_wp2
        clear hst1 hst2 hst3
        go_loopg [51] fs.length (fun g i wr=>∃r:Nat,r≤fs.length∧g=fs.length-r∧i= .int .i64 r∧Cl w wr k n s (.slice a3 l.length p3) (.slice (some ⟨b4,o4,none⟩) fs.length p4) (.slice x3 y3 z3) (.slice (some ⟨wc.heap.size,0,none⟩) fs.length fs.length)∧RT Tryz.prog wr (w.heap.size+3) wc.heap.size 23 (.lst l) [.slice x3 y3 z3]∧Built Tryz.prog wr wc.heap.size wc.heap.size 57 fs r)
        case atStart=>
         refine⟨0,Nat.zero_le _,rfl,rfl,cl_set (cl_alloc hC0 _) _,hL.frame fun b hb1 hb2=>?_,Built.start (arr:=madeCells zF (fs.length*6)) ?_ (by rw[size_madeCells,hT.cf]) (one_made (by decide) (by decide) _) (Nat.le_refl _) ?_⟩
         ·exact(Below.heap_setCell _ _ _ _ (by show b≠w.heap.size+1+1;omega)).trans (alloc_old hb2)
         ·exact(Below.heap_setCell _ _ _ _ (by show wc.heap.size≠w.heap.size+1+1;omega)).trans (alloc_eq rfl)
         ·rw[World.size_setCell,alloc_size];omega
        case round=>
         obtain⟨r,hr,rfl,rfl,hC,hLr,hB⟩:=hrel
         by_cases hrn:r<fs.length
         ·have hrz:(r:Int)<(fs.length:Int):=by omega
          obtain⟨cs,hcl,hcell,hrx⟩:=hel4 r _ (List.getElem?_eq_getElem hrn)
          have hbx:=bulk_in (List.getElem_mem hrn)
          obtain⟨nm,x,c0,hx0,rfl,hc0,hnm,hrx⟩:=hrx.f_inv hT
          obtain⟨k',n',s',l',fs',c3',c4',rfl,rfl,hl',hf',_⟩:=hrx.v_inv hT
          obtain⟨a3',p3',_,_,rfl,_⟩:=hl'.elems hT.l (by rw[hT.cv];omega)
          obtain⟨a4',p4',_,_,rfl,_⟩:=hf'.elems hT.d (by rw[hT.cf];omega)
          have hxe:=List.getElem?_eq_getElem hrn
          rw[hx0] at hbx hxe
          have hbx':(Dt.agg [Dt.int k',Dt.int n',Dt.str s',Dt.lst l',Dt.lst fs']).bulk≤N:=by
           have:(Dt.agg [Dt.str nm,Dt.agg [Dt.int k',Dt.int n',Dt.str s',Dt.lst l',Dt.lst fs']]).bulk=(Dt.str nm).bulk+((Dt.agg [Dt.int k',Dt.int n',Dt.str s',Dt.lst l',Dt.lst fs']).bulk+0)+1:=rfl
           omega
          have hbw:b4<w.heap.size:=hok _ hb4
          have g0:wr.cell? ⟨b4,o4+r*6,none⟩=some (.string nm):=by rw[hC.below.cell (p:=⟨b4,o4+r*6,none⟩) hbw];exact hcell 0 _ rfl
          have g1:wr.cell? ⟨b4,o4+r*6+1,none⟩=some (.int .i64 k'):=by rw[hC.below.cell (p:=⟨b4,o4+r*6+1,none⟩) hbw];exact hcell 1 _ rfl
          have g2:wr.cell? ⟨b4,o4+r*6+2,none⟩=some (.int .i64 n'):=by rw[hC.below.cell (p:=⟨b4,o4+r*6+2,none⟩) hbw];exact hcell 2 _ rfl
          have g3:wr.cell? ⟨b4,o4+r*6+3,none⟩=some (.string s'):=by rw[hC.below.cell (p:=⟨b4,o4+r*6+3,none⟩) hbw];exact hcell 3 _ rfl
          have g4:wr.cell? ⟨b4,o4+r*6+4,none⟩=some (.slice a3' l'.length p3'):=by rw[hC.below.cell (p:=⟨b4,o4+r*6+4,none⟩) hbw];exact hcell 4 _ rfl
          have g5:wr.cell? ⟨b4,o4+r*6+5,none⟩=some (.slice a4' fs'.length p4'):=by rw[hC.below.cell (p:=⟨b4,o4+r*6+5,none⟩) hbw];exact hcell 5 _ rfl
          have hsz:=hC.size
          have hR:=hC.hr
          obtain⟨arr,m,hB0,hz0,hB1⟩:=id hB
          have hBs:wc.heap.size<wr.heap.size:=(Array.getElem?_eq_some_iff.1 hB0).1
          have hmul:(r+1)*6≤fs.length*6:=Nat.mul_le_mul_right _ hrn
          rw[hT.cf] at hz0
          have hv:∀j,j<6→∃v,arr[r*6+j]? =some v:=fun j hj=>⟨_,Array.getElem?_eq_getElem (by omega)⟩
          obtain⟨v0,hv0⟩:=hv 0 (by omega)
          obtain⟨v1,hv1⟩:=hv 1 (by omega)
          obtain⟨v2,hv2⟩:=hv 2 (by omega)
          obtain⟨v3,hv3⟩:=hv 3 (by omega)
          obtain⟨v4,hv4⟩:=hv 4 (by omega)
          obtain⟨v5,hv5⟩:=hv 5 (by omega)
          obtain⟨W0,hW0⟩:∃W0,W0=wr.alloc (.cells #[.string nm,.int .i64 k',.int .i64 n',.string s',.slice a3' l'.length p3',.slice a4' fs'.length p4'] 57):=⟨_,rfl⟩
          have s0:W0.heap.size=wr.heap.size+1:=by rw[hW0,alloc_size]
          have k0:∀b,b<wr.heap.size→W0.heap[b]? =wr.heap[b]? :=fun b hb=>by rw[hW0,alloc_old hb]
          have t0:W0.heap[wr.heap.size]? =some (.cells #[.string nm,.int .i64 k',.int .i64 n',.string s',.slice a3' l'.length p3',.slice a4' fs'.length p4'] 57 (0,0)):=by rw[hW0,alloc_at]
          have b0:Below w.heap.size w W0:=by
           rw[hW0];exact⟨hC.below.os,hC.below.tape,hC.below.output,by rw[alloc_size];omega,fun b hb=>(alloc_old (by omega)).trans (hC.below.block b hb)⟩
          have ihc:∀W:World,Below W0.heap.size W0 W→Calls Tryz.prog 140 #[.agg #[.int .i64 k',.int .i64 n',.string s',.slice a3' l'.length p3',.slice a4' fs'.length p4']] W fun e w'=>
               ∃x5 y5 z5 x6 y6 z6,e= .returned (.agg #[.int .i64 k',.int .i64 n',.string s',.slice x5 y5 z5,.slice x6 y6 z6])∧Hid (Below W0.heap.size W0 w'∧∃a,W0.heap.size≤a∧a≤w'.heap.size∧RT Tryz.prog w' a w'.heap.size 33 (Dt.agg [Dt.int k',Dt.int n',Dt.str s',Dt.lst l',Dt.lst fs']) [.int .i64 k',.int .i64 n',.string s',.slice x5 y5 z5,.slice x6 y6 z6])∧
                w'.cell? ⟨w.heap.size+1+1,4,none⟩=some (.slice (some ⟨wc.heap.size,0,none⟩) fs.length fs.length)∧w'.cell? ⟨wr.heap.size,0,none⟩=some (.string nm)∧w'.cell? ⟨wr.heap.size,1,none⟩=some (.int .i64 k')∧w'.cell? ⟨wr.heap.size,2,none⟩=some (.int .i64 n')∧w'.cell? ⟨wr.heap.size,3,none⟩=some (.string s')∧w'.cell? ⟨wr.heap.size,4,none⟩=some (.slice a3' l'.length p3')∧w'.cell? ⟨wr.heap.size,5,none⟩=some (.slice a4' fs'.length p4')∧
                w'.cell? ⟨wc.heap.size,r*6,none⟩=some v0∧w'.cell? ⟨wc.heap.size,r*6+1,none⟩=some v1∧w'.cell? ⟨wc.heap.size,r*6+2,none⟩=some v2∧w'.cell? ⟨wc.heap.size,r*6+3,none⟩=some v3∧w'.cell? ⟨wc.heap.size,r*6+4,none⟩=some v4∧w'.cell? ⟨wc.heap.size,r*6+5,none⟩=some v5∧∀t,w'.frozen? ⟨wc.heap.size,t,none⟩=false:=fun W hW=>by
           refine(elem_call N ih hT hok b0 hbx' hrx W hW).mono ?_
           rintro e w' ⟨x5,y5,z5,x6,y6,z6,rfl,h1,h2⟩
           have f1:=(h1.block _ (by omega)).trans ((k0 _ (by omega)).trans hR)
           have f2:=(h1.block wr.heap.size (by omega)).trans t0
           have f3:=(h1.block _ (by omega)).trans ((k0 _ hBs).trans hB0)
           exact⟨x5,y5,z5,x6,y6,z6,rfl,⟨h1,h2⟩,cell_at f1,cell_at f2,cell_at f2,cell_at f2,cell_at f2,cell_at f2,cell_at f2,(cell_at f3).trans hv0,(cell_at f3).trans hv1,(cell_at f3).trans hv2,(cell_at f3).trans hv3,(cell_at f3).trans hv4,(cell_at f3).trans hv5,fun t=>froz_at f3⟩
          have A1:Hid (fs[r]? =some (Dt.agg [Dt.str nm,Dt.agg [Dt.int k',Dt.int n',Dt.str s',Dt.lst l',Dt.lst fs']])∧W0=wr.alloc (.cells #[.string nm,.int .i64 k',.int .i64 n',.string s',.slice a3' l'.length p3',.slice a4' fs'.length p4'] 57)∧nm.size≤maxLen):=⟨hxe,hW0,hnm⟩
          have g6:wr.cell? ⟨w.heap.size+1+1,4,none⟩=some (.slice (some ⟨wc.heap.size,0,none⟩) fs.length fs.length):=cell_at hR
          have hne:¬wr.heap.size=wc.heap.size:=by omega
          have hne3:¬wc.heap.size=wr.heap.size:=by omega
          have hne2:¬w.heap.size+1+1=wr.heap.size:=by omega
          have hne4:¬w.heap.size+1+1=wc.heap.size:=by omega
          have hne5:¬wc.heap.size=w.heap.size+1+1:=by omega
          clear hel4 hcell hok hmk4 hx0 hxe hrx hl' hf' hB0 hz0 hB1 hv hv0 hv1 hv2 hv3 hv4 hv5 s0 k0 t0 b0 ih hmul hbx hbx' hnm hC0 hR0 f1
          go_wp2
          go_region_held3 (fun W=>W.cell? ⟨w.heap.size+1+1,4,none⟩=some (.slice (some ⟨wc.heap.size,0,none⟩) fs.length fs.length)∧W.cell? ⟨wr.heap.size,0,none⟩=some (.string nm)∧W.cell? ⟨wr.heap.size,1,none⟩=some (.int .i64 k')∧W.cell? ⟨wr.heap.size,2,none⟩=some (.int .i64 n')∧W.cell? ⟨wr.heap.size,3,none⟩=some (.string s')∧W.cell? ⟨wr.heap.size,4,none⟩=some (.slice a3' l'.length p3')∧W.cell? ⟨wr.heap.size,5,none⟩=some (.slice a4' fs'.length p4'))
           (go_keep)
           (first|(go_at_call 140;refine(ihc _ ?_).mono ?_;(rw[A1.out.2.1];exact below_drew _ _);rintro e w' ⟨x5,y5,z5,x6,y6,z6,rfl,hX,q1,q2,q3,q4,q5,q6,q7,e0,e1,e2,e3,e4,e5,ef⟩))
          go_wp2
          go_roundg (fs.length-(r+1))
          case measure=>omega
          case rel=>
           obtain⟨hX1,a,hX2,hX3,hX4⟩:=hX.out
           obtain⟨hR1,hR2,hR3⟩:=cl_round hC hB (by omega) hBs A1.out.1 A1.out.2.1 hX1 hX2 (hX4.f_mk hT hX3 rfl A1.out.2.2) (by rw[hT.cf];rfl) (W2:=w'.setCells wc.heap.size (r*6) [.string nm,.int .i64 k',.int .i64 n',.string s',.slice x5 y5 z5,.slice x6 y6 z6]) (by rw[hT.cf])
           exact⟨r+1,by omega,rfl,by go_num,hR1,hLr.frame fun b hb1 hb2=>hR3 b (by omega) (by omega),hR2⟩
         ·obtain rfl:r=fs.length:=by omega
          have hBs:wc.heap.size≤wr.heap.size:=by
           obtain⟨arr,m,hB0,_⟩:=id hB
           exact Nat.le_of_lt (Array.getElem?_eq_some_iff.1 hB0).1
          clear hel4 hok hmk4 ih hC0 hR0 f1
          go_wp2
          go_meet
          case rel=>exact⟨_,hC,hLr,hBs,hB.done hT.d hn0 (by unfold maxLen;omega)⟩
   ·    have h0:fs=[]:=List.eq_nil_of_length_eq_zero (by omega)
        subst h0
        clear ha4 hel4 hok hmk4 ih f1 hR0
        go_wp2
        go_meet
        case rel=>exact⟨_,hC0,hL,Nat.le_refl _,.nil hT.d⟩
  case rest=>
   have hc0:=hC0.size
   obtain⟨r4,hC,hL1,hcd',hF⟩:=hcut
   have hs':=hs
   clear hs
   obtain⟨x4,y4,z4,rfl⟩:=RT.isSlice hT.d hF
   have hR:=hC.hr
   have hZ:=hC.hz
   have g0:wc.cell? ⟨w.heap.size+1+1,0,none⟩=some (.int .i64 k):=cell_at hR
   have g1:wc.cell? ⟨w.heap.size+1+1,1,none⟩=some (.int .i64 n):=cell_at hR
   have g2:wc.cell? ⟨w.heap.size+1+1,2,none⟩=some (.string s):=cell_at hR
   have g3:wc.cell? ⟨w.heap.size+1+1,3,none⟩=some (.slice x3 y3 z3):=cell_at hR
   have g4:wc.cell? ⟨w.heap.size+1+1,4,none⟩=some (.slice x4 y4 z4):=cell_at hR
   have q0:wc.cell? ⟨w.heap.size+1,0,none⟩=some (.int .i64 0):=cell_at hZ
   have q1:wc.cell? ⟨w.heap.size+1,1,none⟩=some (.int .i64 0):=cell_at hZ
   have q2:wc.cell? ⟨w.heap.size+1,2,none⟩=some (.string ⟨#[]⟩):=cell_at hZ
   have q3:wc.cell? ⟨w.heap.size+1,3,none⟩=some (.slice none 0 0):=cell_at hZ
   have q4:wc.cell? ⟨w.heap.size+1,4,none⟩=some (.slice none 0 0):=cell_at hZ
   have qf:∀t,wc.frozen? ⟨w.heap.size+1,t,none⟩=false:=fun t=>froz_at hZ
   clear ih hok hel4 hmk4 ha4 f1 hR0 hC0 hL
   go_wp2
   try simp only[Exit.inBlock,Exit.then]
   refine bodyPost_ret (v:= .agg #[.int .i64 k,.int .i64 n,.string s,.slice x3 y3 z3,.slice x4 y4 z4]) (by simp[results,Tryz.results140,go_sem,q0,q1,q2,q3,q4]) rfl ?_
   obtain⟨W2,hW2⟩:∃W2,W2=wc.setCells (w.heap.size+1) 0 [.int .i64 k,.int .i64 n,.string s,.slice x3 y3 z3,.slice x4 y4 z4]:=⟨_,rfl⟩
   show ∃cs':List Value,_=Ending.returned (Value.agg cs'.toArray)∧Below w.heap.size w (wc.setCells (w.heap.size+1) 0 [.int .i64 k,.int .i64 n,.string s,.slice x3 y3 z3,.slice x4 y4 z4])∧RT _ (wc.setCells (w.heap.size+1) 0 [.int .i64 k,.int .i64 n,.string s,.slice x3 y3 z3,.slice x4 y4 z4]) _ (World.heap (wc.setCells (w.heap.size+1) 0 [.int .i64 k,.int .i64 n,.string s,.slice x3 y3 z3,.slice x4 y4 z4])).size _ _ _
   rw[←hW2]
   obtain⟨z1,z2,z3',z4'⟩:=scells_rest (w.heap.size+1) [.int .i64 k,.int .i64 n,.string s,.slice x3 y3 z3,.slice x4 y4 z4] 0 wc
   rw[←hW2] at z1 z2 z3' z4'
   have ho:∀b,b≠w.heap.size+1→W2.heap[b]? =wc.heap[b]? :=fun b hb=>by rw[hW2];exact scells_other _ _ _ _ hb
   have hs:=hC.size
   refine⟨_,rfl,⟨z1.trans hC.below.os,z2.trans hC.below.tape,z3'.trans hC.below.output,by omega,fun b hb=>(ho b (by omega)).trans (hC.below.block b hb)⟩,?_⟩
   exact RT.v_mk hT (lo:=w.heap.size) (a:=w.heap.size+3) (by omega) hc0 hcd' (Nat.le_of_eq z4'.symm) (hL1.frame fun b hb1 hb2=>ho b (by omega)) (hF.frame fun b hb1 hb2=>ho b (by omega)) hk hn hs'
theorem clone_ok:∀(N:Nat) (d:Dt) (ok:Nat→Prop) (w:World) (cs:List Value),d.bulk≤N→N≤137438953472→RD Tryz.prog ok w 33 d cs→(∀b,ok b→b<w.heap.size)→Calls Tryz.prog 140 #[.agg cs.toArray] w fun e w'=>∃cs',e= .returned (.agg cs'.toArray)∧Below w.heap.size w w'∧RT Tryz.prog w' w.heap.size w'.heap.size 33 d cs'
 |0,d,_,_,_,h,_,_,_=>by have:=bulk_pos' d;omega
 |N+1,d,ok,w,cs,h,hN,hrd,hok=>clone_walk N (fun d ok w cs hd=>clone_ok N d ok w cs hd (by omega)) d ok w cs h (by omega) hrd hok
end Go.Proofs.YtameompfdamfpaaGreatDoor
