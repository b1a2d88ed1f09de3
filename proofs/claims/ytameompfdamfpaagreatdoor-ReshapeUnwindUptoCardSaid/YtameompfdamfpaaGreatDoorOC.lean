/- path.Put and path.Drop as contracts.
path.Put as a contract.
path.Put:the walk where there is something to do.
path.Put as a contract:the way that puts.
path.Put as a contract. -/
import Derived.Test.YtameompfdamfpaaGreatDoorOB
set_option linter.unusedVariables false
set_option linter.unusedSimpArgs false
namespace Go.Proofs.YtameompfdamfpaaGreatDoor
open Go.RowKit Go.Am
theorem fx_nil3 {P:Program} {f:FuncId} {args:List AV} {res:AV} (h:∀(ok:Nat→Prop) (w:World) (β:Nat→Option Value) (vs:List Value),(∀b,ok b→b<w.heap.size)→RVsX P ok w β args vs→TabOK ok w→
  Calls P f vs.toArray w fun e w'=>∃v,e= .returned v∧Below w.heap.size w w'∧RV P (fun b=>b<w'.heap.size∧(b<w.heap.size→ok b)) w' β res v):FX P f args [] res []:=by
 intro ok w β vs hok hobs hsep hvs htab
 have no:∀(β:Nat→Option Value) l b,¬owns [] β l b:=fun β l b h=>by obtain⟨h1,_⟩:=h;cases l<;>cases h1
 refine(h ok w β vs (fun b hb=>(hok b hb).1) hvs htab).mono ?_
 rintro e w' ⟨v,rfl,hb,hr⟩
 refine⟨v,β,rfl,⟨⟨hb.os,hb.tape,hb.output,hb.size,fun b h1 _=>hb.block b h1⟩,fun l=>?_,fun l l' b h1=>(no _ _ _ h1).elim,fun l b h1=>(no _ _ _ h1).elim,fun l _=>rfl⟩,hr.mono (fun b h1=>⟨⟨h1.1,fun h2=> .inl (h1.2 h2),fun l=>no _ _ _⟩,rfl⟩) (Ext.refl _)⟩
 have:=hobs l
 exact(show β l=none from this)
noncomputable def path_DropC (v:Dt) (p:List Dt):Option Dt:=if v.bulk≤137438900000∧fol p v=true then some (if p.isEmpty then v else dropD p v) else none
def zeroD:Dt:= .agg [.int 0,.int 0,.str ⟨#[]⟩,.lst [],.lst []]
theorem zero_rd (ok:Nat→Prop) (w:World):RD Tryz.prog ok w 33 zeroD [.int .i64 0,.int .i64 0,.string ⟨#[]⟩,.slice none 0 0,.slice none 0 0]:=by
 obtain⟨fv,ff,hT⟩:=tV
 exact RD.v_mk hT (RD.nil hT.l) (RD.nil hT.d) (by decide) (by decide) (by decide)
theorem clone_call {d:Dt} {ok:Nat→Prop} {w:World} {cs:List Value} (hb:d.bulk≤137438900000) (hrd:RD Tryz.prog ok w 33 d cs) (hok:∀b,ok b→b<w.heap.size):
  Calls Tryz.prog 140 #[.agg cs.toArray] w fun e w'=>∃k n s x3 y3 z3 x4 y4 z4,e= .returned (.agg #[.int .i64 k,.int .i64 n,.string s,.slice x3 y3 z3,.slice x4 y4 z4])∧Below w.heap.size w w'∧RT Tryz.prog w' w.heap.size w'.heap.size 33 d [.int .i64 k,.int .i64 n,.string s,.slice x3 y3 z3,.slice x4 y4 z4]:=by
 obtain⟨fv,ff,hT⟩:=tV
 refine(clone_ok _ d ok w cs hb (by omega) hrd hok).mono ?_
 rintro e w' ⟨cs',rfl,hb',hrt⟩
 obtain⟨k,n,s,l,fs,c3,c4,a,b,c,e1,rfl,_,_,_,_,hl1,hf1,_⟩:=hrt.v_inv hT
 obtain⟨x3,y3,z3,rfl⟩:=RT.isSlice hT.l hl1
 obtain⟨x4,y4,z4,rfl⟩:=RT.isSlice hT.d hf1
 exact⟨k,n,s,_,_,_,_,_,_,rfl,hb',hrt⟩
theorem rd_cells5 {ok:Nat→Prop} {w:World} {d:Dt} {cs:List Value} (h:RD Tryz.prog ok w 33 d cs):∃k n s x3 y3 z3 x4 y4 z4,cs=[.int .i64 k,.int .i64 n,.string s,.slice x3 y3 z3,.slice x4 y4 z4]:=by
 obtain⟨fv,ff,hT⟩:=tV
 obtain⟨k,n,s,l,fs,c3,c4,e1,rfl,hl,hd,_⟩:=h.v_inv hT
 obtain⟨a3,p3,_,_,rfl,_⟩:=hl.elems hT.l (by rw[hT.cv];omega)
 obtain⟨a4,p4,_,_,rfl,_⟩:=hd.elems hT.d (by rw[hT.cf];omega)
 exact⟨k,n,s,_,_,_,_,_,_,rfl⟩
set_option maxHeartbeats 4000000 in
set_option maxRecDepth 1000000 in
theorem Drop_walk {ok:Nat→Prop} {w:World} {v:Dt} {cv:List Value} {ps:List Dt} {z:Value} (hbv:v.bulk≤137438900000) (hfo:fol ps v=true) (hok:∀b,ok b→b<w.heap.size) (ht:TabOK ok w) (hv:RD Tryz.prog ok w 33 v cv) (hp:RD Tryz.prog ok w 22 (.lst ps) [z]):
  Calls Tryz.prog 96 #[.agg cv.toArray,z] w fun e w'=>∃cs:List Value,e= .returned (.agg cs.toArray)∧Below w.heap.size w w'∧RD Tryz.prog (fun b=>b<w'.heap.size∧(b<w.heap.size→ok b)) w' 33 (if ps.isEmpty then v else dropD ps v) cs:=by
 obtain⟨fv,ff,hT⟩:=tV
 obtain⟨k,n,s,x3,y3,z3,x4,y4,z4,rfl⟩:=rd_cells5 hv
 obtain⟨ap,cp,_,_,rfl,hpx⟩:=hp.elems Tryz.underlying22 (by rw[show Tryz.prog.cellsOf 9=1 by kernel_rfl];omega)
 clear hpx
 obtain⟨W1,hW1⟩:∃W1,W1=(w.alloc (.cells #[.int .i64 k,.int .i64 n,.string s,.slice x3 y3 z3,.slice x4 y4 z4] 33)).alloc (.cells #[.int .i64 0,.int .i64 0,.string ⟨#[]⟩,.slice none 0 0,.slice none 0 0] 33):=⟨_,rfl⟩
 have hz0:W1.heap[w.heap.size+1]? =some (.cells zV 33 (0,0)):=by rw[hW1];exact alloc_eq (by rw[alloc_size])
 have hs1:W1.heap.size=w.heap.size+2:=by rw[hW1,alloc_size,alloc_size]
 have hb1:Below w.heap.size w W1:=by rw[hW1];exact below_via (below_alloc' w _) (below_alloc' _ _) (by rw[alloc_size];omega)
 have hzc:∀W:World,W.heap[w.heap.size+1]? =some (.cells zV 33 (0,0))→W.cell? ⟨w.heap.size+1,0,none⟩=some (.int .i64 0)∧W.cell? ⟨w.heap.size+1,1,none⟩=some (.int .i64 0)∧W.cell? ⟨w.heap.size+1,2,none⟩=some (.string ⟨#[]⟩)∧W.cell? ⟨w.heap.size+1,3,none⟩=some (.slice none 0 0)∧W.cell? ⟨w.heap.size+1,4,none⟩=some (.slice none 0 0)∧(∀t,W.frozen? ⟨w.heap.size+1,t,none⟩=false):=fun W h=>⟨cell_at h,cell_at h,cell_at h,cell_at h,cell_at h,fun t=>froz_at h⟩
 have hcl:Calls Tryz.prog 140 #[.agg #[.int .i64 k,.int .i64 n,.string s,.slice x3 y3 z3,.slice x4 y4 z4]] W1 fun e w'=>∃k n s x3 y3 z3 x4 y4 z4,e= .returned (.agg #[.int .i64 k,.int .i64 n,.string s,.slice x3 y3 z3,.slice x4 y4 z4])∧Hid (Below W1.heap.size W1 w'∧RT Tryz.prog w' W1.heap.size w'.heap.size 33 v [.int .i64 k,.int .i64 n,.string s,.slice x3 y3 z3,.slice x4 y4 z4])∧w.heap.size+1<w'.heap.size∧w'.cell? ⟨w.heap.size+1,0,none⟩=some (.int .i64 0)∧w'.cell? ⟨w.heap.size+1,1,none⟩=some (.int .i64 0)∧w'.cell? ⟨w.heap.size+1,2,none⟩=some (.string ⟨#[]⟩)∧w'.cell? ⟨w.heap.size+1,3,none⟩=some (.slice none 0 0)∧w'.cell? ⟨w.heap.size+1,4,none⟩=some (.slice none 0 0)∧(∀t,w'.frozen? ⟨w.heap.size+1,t,none⟩=false):=by
  refine(clone_call (ok:=ok) hbv (hv.mono fun b hb=>⟨hb,hb1.block b (hok b hb)⟩) (fun b hb=>Nat.lt_of_lt_of_le (hok b hb) hb1.size)).mono ?_
  rintro e w' ⟨k,n,s,x3,y3,z3,x4,y4,z4,rfl,h1,h2⟩
  have:=h1.size
  exact⟨_,_,_,_,_,_,_,_,_,rfl,⟨h1,h2⟩,by omega,hzc _ ((h1.block _ (by omega)).trans hz0)⟩
 have hend:∀(W1 w1:World) (d:Dt) (cs:List Value) (ob:Obj) (w3 w':World),Below w.heap.size w W1→W1.heap.size=w.heap.size+2→Below W1.heap.size W1 w1→BelowX (fun c=>c=w1.heap.size∨(W1.heap.size≤c∧c<w1.heap.size)) (w1.alloc ob) w3→RD Tryz.prog (fun c=>c<w3.heap.size∧(c<w1.heap.size→ok c∨(W1.heap.size≤c∧c<w1.heap.size))) w3 33 d cs→w'=w3.setCells (w.heap.size+1) 0 cs→Below w.heap.size w w'∧RD Tryz.prog (fun b=>b<w'.heap.size∧(b<w.heap.size→ok b)) w' 33 d cs:=by
  intro W1 w1 d cs ob w3 w' h1 h2 h3 h4 h5 h6
  obtain⟨z1,z2,z3,z4⟩:=scells_rest (w.heap.size+1) cs 0 w3
  have s1:=h3.size
  have s2:=h4.size
  rw[alloc_size] at s2
  have ho:∀c,c≠w.heap.size+1→w'.heap[c]? =w3.heap[c]? :=fun c hc=>by rw[h6];exact scells_other _ _ _ _ hc
  refine⟨⟨by rw[h6,z1,h4.os];exact h3.os.trans h1.os,by rw[h6,z2,h4.tape];exact h3.tape.trans h1.tape,by rw[h6,z3,h4.output];exact h3.output.trans h1.output,by rw[h6,z4];omega,fun c hc=>?_⟩,h5.mono fun c hc=>⟨⟨by rw[h6,z4];exact hc.1,fun hlt=>?_⟩,ho c ?_⟩⟩
  ·rw[ho c (by omega),h4.block c (by rw[alloc_size];omega) (by omega),alloc_old (by omega),h3.block c (by omega),h1.block c hc]
  ·rcases hc.2 (by omega) with h|h
   ·exact h
   ·omega
  ·intro e
   rcases hc.2 (by omega) with h|h
   ·have:=hok c h;omega
   ·omega
 cases ps with
 |nil=>
  have hE:Hid (∀(w1:World) (k n:Int) (s:ByteArray) (c3 c4:Value) (ob:Obj) (w':World),Below W1.heap.size W1 w1→RT Tryz.prog w1 W1.heap.size w1.heap.size 33 v [.int .i64 k,.int .i64 n,.string s,c3,c4]→w'=(w1.setCells (w.heap.size+1) 0 [.int .i64 k,.int .i64 n,.string s,c3,c4]).alloc ob→Below w.heap.size w w'∧RD Tryz.prog (fun b=>b<w'.heap.size∧(b<w.heap.size→ok b)) w' 33 v [.int .i64 k,.int .i64 n,.string s,c3,c4]):=by
   intro w1 k n s c3 c4 ob w' h1 h2 h3
   obtain⟨z1,z2,z3,z4⟩:=scells_rest (w.heap.size+1) [.int .i64 k,.int .i64 n,.string s,c3,c4] 0 w1
   have s1:=h1.size
   have hsz:w'.heap.size=w1.heap.size+1:=by rw[h3,alloc_size,z4]
   have ho:∀c,c<w1.heap.size→c≠w.heap.size+1→w'.heap[c]? =w1.heap[c]? :=fun c hc hne=>by rw[h3,alloc_old (by rw[z4];exact hc)];exact scells_other _ _ _ _ hne
   refine⟨⟨by rw[h3];exact z1.trans (h1.os.trans hb1.os),by rw[h3];exact z2.trans (h1.tape.trans hb1.tape),by rw[h3];exact z3.trans (h1.output.trans hb1.output),by omega,fun c hc=>?_⟩,(h2.frame fun b hb1' hb2=>ho b hb2 (by omega)).toRD fun b hb1' hb2=>⟨by omega,fun h=>by omega⟩⟩
   rw[ho c (by omega) (by omega),h1.block c (by omega),hb1.block c hc]
  have hWH:Hid (W1=(w.alloc (.cells #[.int .i64 k,.int .i64 n,.string s,.slice x3 y3 z3,.slice x4 y4 z4] 33)).alloc (.cells #[.int .i64 0,.int .i64 0,.string ⟨#[]⟩,.slice none 0 0,.slice none 0 0] 33)):=hW1
  clear hend hzc hz0 hs1 hb1 hv hp hW1 ht
  show Calls Tryz.prog 96 #[.agg #[.int .i64 k,.int .i64 n,.string s,.slice x3 y3 z3,.slice x4 y4 z4],.slice ap 0 cp] w _
  go_enter Tryz.func96,Tryz.ntmps96
  go_wp2_with (go_at_call 140;rw[←hWH.out];refine hcl.mono ?_;rintro e w1 ⟨k1,n1,s1,u3,v3,q3,u4,v4,q4,rfl,hX,hlt,r0,r1,r2,r3,r4,r5⟩)
  try simp only[Exit.inBlock,Exit.then]
  refine bodyPost_ret (v:= .agg #[.int .i64 k1,.int .i64 n1,.string s1,.slice u3 v3 q3,.slice u4 v4 q4]) (by simp[results,Tryz.results96,go_sem,r0,r1,r2,r3,r4,hlt]) rfl ?_
  refine⟨[.int .i64 k1,.int .i64 n1,.string s1,.slice u3 v3 q3,.slice u4 v4 q4],rfl,?_⟩
  exact hE.out w1 k1 n1 s1 _ _ _ _ hX.out.1 hX.out.2 rfl
 |cons p ps=>
  have hdr:∀(w1:World) (k n:Int) (s:ByteArray) (x3:Option Addr) (y3 z3:Nat) (x4:Option Addr) (y4 z4:Nat),Hid (Below W1.heap.size W1 w1∧RT Tryz.prog w1 W1.heap.size w1.heap.size 33 v [.int .i64 k,.int .i64 n,.string s,.slice x3 y3 z3,.slice x4 y4 z4])→
        Calls Tryz.prog 143 #[.pointer (some ⟨w1.heap.size,0,none⟩),.slice ap (ps.length+1) cp] (w1.alloc (.cells #[.int .i64 k,.int .i64 n,.string s,.slice x3 y3 z3,.slice x4 y4 z4] 33)) fun e w3=>e= .returned (.tuple #[])∧∃k' n' s' x5 y5 z5 x6 y6 z6,w3.cell? ⟨w1.heap.size,0,none⟩=some (.int .i64 k')∧w3.cell? ⟨w1.heap.size,1,none⟩=some (.int .i64 n')∧w3.cell? ⟨w1.heap.size,2,none⟩=some (.string s')∧w3.cell? ⟨w1.heap.size,3,none⟩=some (.slice x5 y5 z5)∧w3.cell? ⟨w1.heap.size,4,none⟩=some (.slice x6 y6 z6)∧w3.cell? ⟨w.heap.size+1,0,none⟩=some (.int .i64 0)∧w3.cell? ⟨w.heap.size+1,1,none⟩=some (.int .i64 0)∧w3.cell? ⟨w.heap.size+1,2,none⟩=some (.string ⟨#[]⟩)∧w3.cell? ⟨w.heap.size+1,3,none⟩=some (.slice none 0 0)∧w3.cell? ⟨w.heap.size+1,4,none⟩=some (.slice none 0 0)∧(∀t,w3.frozen? ⟨w.heap.size+1,t,none⟩=false)∧
         Hid (∀w':World,w'=((((w3.setCell ⟨w.heap.size+1,0,none⟩ (.int .i64 k')).setCell ⟨w.heap.size+1,1,none⟩ (.int .i64 n')).setCell ⟨w.heap.size+1,2,none⟩ (.string s')).setCell ⟨w.heap.size+1,3,none⟩ (.slice x5 y5 z5)).setCell ⟨w.heap.size+1,4,none⟩ (.slice x6 y6 z6)→Below w.heap.size w w'∧RD Tryz.prog (fun b=>b<w'.heap.size∧(b<w.heap.size→ok b)) w' 33 (dropD (p::ps) v) [.int .i64 k',.int .i64 n',.string s',.slice x5 y5 z5,.slice x6 y6 z6]):=by
   intro w1 k n s x3 y3 z3 x4 y4 z4 hX
   obtain⟨h1,h2⟩:=hX.out
   have s1:=h1.size
   have hq:Below w.heap.size w (w1.alloc (.cells #[.int .i64 k,.int .i64 n,.string s,.slice x3 y3 z3,.slice x4 y4 z4] 33)):=below_via (below_via hb1 h1 hb1.size) (below_alloc' w1 _) (by omega)
   have hPC:PutC (w1.alloc (.cells #[.int .i64 k,.int .i64 n,.string s,.slice x3 y3 z3,.slice x4 y4 z4] 33)) w1.heap.size 0 W1.heap.size w1.heap.size #[.int .i64 k,.int .i64 n,.string s,.slice x3 y3 z3,.slice x4 y4 z4] 33 v [.int .i64 k,.int .i64 n,.string s,.slice x3 y3 z3,.slice x4 y4 z4] ok:=by
        refine⟨alloc_at _ _ _,Nat.le_refl _,fun j hj=>by simp,h2.frame fun b _ hb=>alloc_old hb,by rw[alloc_size];omega,.inr (Nat.le_refl _),fun c hc=>?_,hbv⟩
        have:=hok c hc
        rw[alloc_size]
        omega
   have h:=drop_ok p ps v hfo _ _ 0 _ _ _ _ _ ok (.slice ap (ps.length+1) cp) hPC (ht.mono fun b hb=>⟨hb,hq.block b (hok b hb)⟩) (hp.mono fun b hb=>⟨hb,hq.block b (hok b hb)⟩)
   refine h.mono ?_
   rintro e w3 ⟨rfl,hR⟩
   obtain⟨arr',cs',g1,g2,g3,g4,g5,g6⟩:=hR.res
   obtain⟨k',n',s',x5,y5,z5,x6,y6,z6,rfl⟩:=rd_cells5 g6
   have hcell:∀j,j<5→w3.cell? ⟨w1.heap.size,j,none⟩=([Value.int .i64 k',.int .i64 n',.string s',.slice x5 y5 z5,.slice x6 y6 z6]:List Value)[j]? :=fun j hj=>by
        have:=g5 j hj
        rw[Nat.zero_add] at this
        rw[cell_at g1,this]
   have hzz:w3.heap[w.heap.size+1]? =some (.cells zV 33 (0,0)):=by
        rw[hR.below.block _ (by rw[alloc_size];omega) (by omega),alloc_old (by omega),h1.block _ (by omega)]
        exact hz0
   obtain⟨u0,u1,u2,u3,u4,u5⟩:=hzc w3 hzz
   refine⟨rfl,k',n',s',x5,y5,z5,x6,y6,z6,hcell 0 (by omega),hcell 1 (by omega),hcell 2 (by omega),hcell 3 (by omega),hcell 4 (by omega),u0,u1,u2,u3,u4,u5,fun w' hw'=>?_⟩
   exact hend W1 w1 _ _ _ w3 w' hb1 hs1 h1 hR.below (g6.mono fun c hc=>⟨⟨hc.1,fun hlt=>hc.2.2 (by rw[alloc_size];omega)⟩,rfl⟩) hw'
  have hWH:Hid (W1=(w.alloc (.cells #[.int .i64 k,.int .i64 n,.string s,.slice x3 y3 z3,.slice x4 y4 z4] 33)).alloc (.cells #[.int .i64 0,.int .i64 0,.string ⟨#[]⟩,.slice none 0 0,.slice none 0 0] 33)):=hW1
  have hpl:(0:Int)<(ps.length:Int)+1:=by omega
  clear hend hzc hz0 hs1 hb1 hv hp hW1 ht
  show Calls Tryz.prog 96 #[.agg #[.int .i64 k,.int .i64 n,.string s,.slice x3 y3 z3,.slice x4 y4 z4],.slice ap (ps.length+1) cp] w _
  go_enter Tryz.func96,Tryz.ntmps96
  go_wp2_with (first
   |(go_at_call 140;rw[←hWH.out];refine hcl.mono ?_;rintro e w1 ⟨k1,n1,s1,u3,v3,q3,u4,v4,q4,rfl,hX,hlt,r0,r1,r2,r3,r4,r5⟩)
   |(go_at_call 143;refine(hdr w1 k1 n1 s1 u3 v3 q3 u4 v4 q4 hX).mono ?_;rintro e w3 ⟨rfl,k2,n2,s2,x5,y5,z5,x6,y6,z6,d0,d1,d2,d3,d4,f0,f1,f2,f3,f4,f5,hE⟩))
  try simp only[Exit.inBlock,Exit.then]
  refine bodyPost_ret (v:= .agg #[.int .i64 k2,.int .i64 n2,.string s2,.slice x5 y5 z5,.slice x6 y6 z6]) (by simp[results,Tryz.results96,go_sem,f0,f1,f2,f3,f4]) rfl ?_
  refine⟨[.int .i64 k2,.int .i64 n2,.string s2,.slice x5 y5 z5,.slice x6 y6 z6],rfl,?_⟩
  refine hE.out _ ?_
  with_reducible rfl
set_option maxRecDepth 100000 in
theorem path_DropC_fx {v:Dt} {p:List Dt} {r:Dt} (h:path_DropC v p=some r):FX Tryz.prog 96 [.dat 33 v,.dat 22 (.lst p)] [] (.dat 33 r) []:=by
 unfold path_DropC at h
 by_cases hb:v.bulk≤137438900000∧fol p v=true
 ·rw[   if_pos hb] at h
  cases h
  refine fx_nil3 fun ok w β vs hok ha ht=>?_
  obtain⟨x,y,rfl,hx,hy⟩:=ha.two
  obtain⟨cs,rfl,hra⟩:=hx.1 (show aggT _ 33=true from g36)
  cases hra with
  |dat hrd=>
   cases hy.2 (show aggT _ 22=false from g23) with
   |    dat hp=>
        refine(Drop_walk hb.1 hb.2 hok ht hrd hp).mono ?_
        rintro e w' ⟨cs',rfl,h1,h2⟩
        exact⟨_,rfl,h1,rv_datA g36 h2⟩
 ·rw[if_neg hb] at h
  cases h
end Go.Proofs.YtameompfdamfpaaGreatDoor
namespace Go.Proofs.YtameompfdamfpaaGreatDoor
open Go.RowKit Go.Am
noncomputable def path_PutC (v:Dt) (p:List Dt) (x:Dt):Option (Dt×Int):=
 if v.bulk≤137438900000∧x.bulk≤137438900000∧fol p v=true∧P1.path_Valid 100 p=some true∧Dt.I v 0=5∧Dt.I x 0≠0∧(putD p v x).2=true then some ((putD p v x).1,0) else none
theorem rd_cells5' {ok:Nat→Prop} {w:World} {d:Dt} {cs:List Value} (h:RD Tryz.prog ok w 33 d cs):∃n s x3 y3 z3 x4 y4 z4,cs=[.int .i64 (Dt.I d 0),.int .i64 n,.string s,.slice x3 y3 z3,.slice x4 y4 z4]:=by
 obtain⟨fv,ff,hT⟩:=tV
 obtain⟨k,n,s,l,fs,c3,c4,rfl,rfl,hl,hd,_⟩:=h.v_inv hT
 obtain⟨a3,p3,_,_,rfl,_⟩:=hl.elems hT.l (by rw[hT.cv];omega)
 obtain⟨a4,p4,_,_,rfl,_⟩:=hd.elems hT.d (by rw[hT.cf];omega)
 exact⟨n,s,_,_,_,_,_,_,rfl⟩
theorem valid_call {ok:Nat→Prop} {w:World} {ps:List Dt} {z:Value} {bv:Bool} (hV:P1.path_Valid 100 ps=some bv) (hok:∀b,ok b→b<w.heap.size) (ht:TabOK ok w) (hp:RD Tryz.prog ok w 22 (.lst ps) [z]):
  Calls Tryz.prog 141 #[z] w fun e w'=>e= .returned (.bool bv)∧Below w.heap.size w w':=by
 have h:=fx_call (P1.path_Valid_fx 99 (fun R=>P1.ct_ok _ R) ps hV) hok (vs:=[z]) (.cons (rv_dat1 g23 hp) .nil) ht
 refine h.mono ?_
 rintro e w' ⟨v,β',rfl,hb,hr⟩
 obtain⟨_,rfl⟩:=RV.bool Tryz.underlying4 hr
 exact⟨rfl,hb⟩
def PutOut (ok:Nat→Prop) (w:World) (d:Dt) (k:Int) (e:Ending) (w':World):Prop:=
 ∃cs:List Value,e= .returned (.tuple #[.agg cs.toArray,.int .i64 k])∧Below w.heap.size w w'∧RD Tryz.prog (fun b=>b<w'.heap.size∧(b<w.heap.size→ok b)) w' 33 d cs
theorem put_zero {ok:Nat→Prop} {w w':World} {k:Int} (h:Below w.heap.size w w'):PutOut ok w zeroD k (.returned (.tuple #[.agg #[.int .i64 0,.int .i64 0,.string ⟨#[]⟩,.slice none 0 0,.slice none 0 0],.int .i64 k])) w':=
 ⟨[.int .i64 0,.int .i64 0,.string ⟨#[]⟩,.slice none 0 0,.slice none 0 0],rfl,h,zero_rd _ _⟩
theorem zero_set {w w1 w':World} (h:Below w.heap.size w w1) (hw':w'=((((w1.setCell ⟨w.heap.size+2,0,none⟩ (.int .i64 0)).setCell ⟨w.heap.size+2,1,none⟩ (.int .i64 0)).setCell ⟨w.heap.size+2,2,none⟩ (.string ⟨#[]⟩)).setCell ⟨w.heap.size+2,3,none⟩ (.slice none 0 0)).setCell ⟨w.heap.size+2,4,none⟩ (.slice none 0 0)):Below w.heap.size w w':=by
 replace hw':w'=w1.setCells (w.heap.size+2) 0 [.int .i64 0,.int .i64 0,.string ⟨#[]⟩,.slice none 0 0,.slice none 0 0]:=hw'
 obtain⟨z1,z2,z3,z4⟩:=scells_rest (w.heap.size+2) [.int .i64 0,.int .i64 0,.string ⟨#[]⟩,.slice none 0 0,.slice none 0 0] 0 w1
 refine⟨by rw[hw',z1,h.os],by rw[hw',z2,h.tape],by rw[hw',z3,h.output],by rw[hw',z4];exact h.size,fun c hc=>?_⟩
 rw[hw',scells_other _ _ _ _ (show c≠w.heap.size+2 by omega)]
 exact h.block c hc
def W3 (w:World) (cv cx:Array Value):World:=((w.alloc (.cells cv 33)).alloc (.cells cx 33)).alloc (.cells #[.int .i64 0,.int .i64 0,.string ⟨#[]⟩,.slice none 0 0,.slice none 0 0] 33)
theorem w3_size (w:World) (cv cx:Array Value):(W3 w cv cx).heap.size=w.heap.size+3:=by unfold W3;rw[alloc_size,alloc_size,alloc_size]
theorem w3_below (w:World) (cv cx:Array Value):Below w.heap.size w (W3 w cv cx):=by
 unfold W3
 exact below_via (below_via (below_alloc' w _) (below_alloc' _ _) (by rw[alloc_size];omega)) (below_alloc' _ _) (by rw[alloc_size,alloc_size];omega)
theorem w3_at (w:World) (cv cx:Array Value):(W3 w cv cx).heap[w.heap.size]? =some (.cells cv 33 (0,0))∧(W3 w cv cx).heap[w.heap.size+1]? =some (.cells cx 33 (0,0))∧(W3 w cv cx).heap[w.heap.size+2]? =some (.cells zV 33 (0,0)):=by
 unfold W3
 refine⟨?_,?_,?_⟩
 ·rw[alloc_old (by rw[alloc_size,alloc_size];omega),alloc_old (by rw[alloc_size];omega)];exact alloc_at _ _ _
 ·rw[alloc_old (by rw[alloc_size,alloc_size];omega)];exact alloc_eq (by rw[alloc_size])
 ·exact alloc_eq (by rw[alloc_size,alloc_size])
end Go.Proofs.YtameompfdamfpaaGreatDoor
namespace Go.Proofs.YtameompfdamfpaaGreatDoor
open Go.RowKit Go.Am
set_option maxHeartbeats 4000000 in
set_option maxRecDepth 1000000 in
theorem Put_walk {w:World} {n kx nx:Int} {s sx:ByteArray} {x3 x4 x5 x6:Option Addr} {y3 z3 y4 z4 y5 z5 y6 z6:Nat} {aP:Option Addr} {cP lP:Nat} (rb:Bool) (hkx:kx≠0)
  (X1:World→Prop) (X2:World→World→Int→Int→ByteArray→Option Addr→Nat→Nat→Option Addr→Nat→Nat→Prop) (X3:World→World→Int→Int→ByteArray→Option Addr→Nat→Nat→Option Addr→Nat→Nat→World→Int→Int→ByteArray→Option Addr→Nat→Nat→Option Addr→Nat→Nat→Prop) (X4:World→Int→Int→ByteArray→Option Addr→Nat→Nat→Option Addr→Nat→Nat→Prop) (Q:Ending→World→Prop)
  (hvc:Calls Tryz.prog 141 #[.slice aP lP cP] (((w.alloc (.cells #[.int .i64 5,.int .i64 n,.string s,.slice x3 y3 z3,.slice x4 y4 z4] 33)).alloc (.cells #[.int .i64 kx,.int .i64 nx,.string sx,.slice x5 y5 z5,.slice x6 y6 z6] 33)).alloc (.cells #[.int .i64 0,.int .i64 0,.string ⟨#[]⟩,.slice none 0 0,.slice none 0 0] 33)) fun e w1=>e= .returned (.bool true)∧X1 w1∧w1.cell? ⟨w.heap.size,0,none⟩=some (.int .i64 5)∧w1.cell? ⟨w.heap.size,1,none⟩=some (.int .i64 n)∧w1.cell? ⟨w.heap.size,2,none⟩=some (.string s)∧w1.cell? ⟨w.heap.size,3,none⟩=some (.slice x3 y3 z3)∧w1.cell? ⟨w.heap.size,4,none⟩=some (.slice x4 y4 z4)∧w1.cell? ⟨w.heap.size+1,0,none⟩=some (.int .i64 kx))
  (hc1:∀w1,X1 w1→Calls Tryz.prog 140 #[.agg #[.int .i64 5,.int .i64 n,.string s,.slice x3 y3 z3,.slice x4 y4 z4]] w1 fun e w2=>∃kp np sp ap bp cp dp ep fp,e= .returned (.agg #[.int .i64 kp,.int .i64 np,.string sp,.slice ap bp cp,.slice dp ep fp])∧X2 w1 w2 kp np sp ap bp cp dp ep fp∧w.heap.size+1<w2.heap.size∧w2.cell? ⟨w.heap.size+1,0,none⟩=some (.int .i64 kx)∧w2.cell? ⟨w.heap.size+1,1,none⟩=some (.int .i64 nx)∧w2.cell? ⟨w.heap.size+1,2,none⟩=some (.string sx)∧w2.cell? ⟨w.heap.size+1,3,none⟩=some (.slice x5 y5 z5)∧w2.cell? ⟨w.heap.size+1,4,none⟩=some (.slice x6 y6 z6))
  (hc2:∀w1 w2 kp np sp ap bp cp dp ep fp,X2 w1 w2 kp np sp ap bp cp dp ep fp→Calls Tryz.prog 140 #[.agg #[.int .i64 kx,.int .i64 nx,.string sx,.slice x5 y5 z5,.slice x6 y6 z6]] (w2.alloc (.cells #[.int .i64 kp,.int .i64 np,.string sp,.slice ap bp cp,.slice dp ep fp] 33)) fun e w3=>∃kq nq sq aq bq cq dq eq fq,e= .returned (.agg #[.int .i64 kq,.int .i64 nq,.string sq,.slice aq bq cq,.slice dq eq fq])∧X3 w1 w2 kp np sp ap bp cp dp ep fp w3 kq nq sq aq bq cq dq eq fq)
  (hpt:∀w1 w2 kp np sp ap bp cp dp ep fp w3 kq nq sq aq bq cq dq eq fq,X2 w1 w2 kp np sp ap bp cp dp ep fp→X3 w1 w2 kp np sp ap bp cp dp ep fp w3 kq nq sq aq bq cq dq eq fq→Calls Tryz.prog 142 #[.pointer (some ⟨w2.heap.size,0,none⟩),.slice aP lP cP,.agg #[.int .i64 kq,.int .i64 nq,.string sq,.slice aq bq cq,.slice dq eq fq]] w3 fun e w4=>e= .returned (.bool rb)∧∃kr nr sr ar br cr dr er fr,w4.cell? ⟨w2.heap.size,0,none⟩=some (.int .i64 kr)∧w4.cell? ⟨w2.heap.size,1,none⟩=some (.int .i64 nr)∧w4.cell? ⟨w2.heap.size,2,none⟩=some (.string sr)∧w4.cell? ⟨w2.heap.size,3,none⟩=some (.slice ar br cr)∧w4.cell? ⟨w2.heap.size,4,none⟩=some (.slice dr er fr)∧w4.cell? ⟨w.heap.size+2,0,none⟩=some (.int .i64 0)∧w4.cell? ⟨w.heap.size+2,1,none⟩=some (.int .i64 0)∧w4.cell? ⟨w.heap.size+2,2,none⟩=some (.string ⟨#[]⟩)∧w4.cell? ⟨w.heap.size+2,3,none⟩=some (.slice none 0 0)∧w4.cell? ⟨w.heap.size+2,4,none⟩=some (.slice none 0 0)∧(∀t,w4.frozen? ⟨w.heap.size+2,t,none⟩=false)∧X4 w4 kr nr sr ar br cr dr er fr)
  (hq1:rb=true→∀w4 kr nr sr ar br cr dr er fr,X4 w4 kr nr sr ar br cr dr er fr→∀w':World,w'=(((((w4.setCell ⟨w.heap.size+2,0,none⟩ (.int .i64 kr)).setCell ⟨w.heap.size+2,1,none⟩ (.int .i64 nr)).setCell ⟨w.heap.size+2,2,none⟩ (.string sr)).setCell ⟨w.heap.size+2,3,none⟩ (.slice ar br cr)).setCell ⟨w.heap.size+2,4,none⟩ (.slice dr er fr))→Q (.returned (.tuple #[.agg #[.int .i64 kr,.int .i64 nr,.string sr,.slice ar br cr,.slice dr er fr],.int .i64 0])) w')
  (hq2:rb=false→∀w4 kr nr sr ar br cr dr er fr,X4 w4 kr nr sr ar br cr dr er fr→∀w':World,w'=(((((w4.setCell ⟨w.heap.size+2,0,none⟩ (.int .i64 0)).setCell ⟨w.heap.size+2,1,none⟩ (.int .i64 0)).setCell ⟨w.heap.size+2,2,none⟩ (.string ⟨#[]⟩)).setCell ⟨w.heap.size+2,3,none⟩ (.slice none 0 0)).setCell ⟨w.heap.size+2,4,none⟩ (.slice none 0 0))→Q (.returned (.tuple #[.agg #[.int .i64 0,.int .i64 0,.string ⟨#[]⟩,.slice none 0 0,.slice none 0 0],.int .i64 10])) w'):
  Calls Tryz.prog 95 #[.agg #[.int .i64 5,.int .i64 n,.string s,.slice x3 y3 z3,.slice x4 y4 z4],.slice aP lP cP,.agg #[.int .i64 kx,.int .i64 nx,.string sx,.slice x5 y5 z5,.slice x6 y6 z6]] w Q:=by
 cases rb
 all_goals
  go_enter Tryz.func95,Tryz.ntmps95
  go_wp2_with (first
   |(go_at_call 141;refine hvc.mono ?_;rintro e w1 ⟨rfl,hX,r0,r1,r2,r3,r4,r5⟩)
   |(go_at_call 140;refine(hc2 w1 w2 kp np sp ap bp cp dp ep fp hY).mono ?_;rintro e w3 ⟨kq,nq,sq,aq,bq,cq,dq,eq,fq,rfl,hZ⟩)
   |(go_at_call 140;refine(hc1 w1 hX).mono ?_;rintro e w2 ⟨kp,np,sp,ap,bp,cp,dp,ep,fp,rfl,hY,hlt,t0,t1,t2,t3,t4⟩)
   |(go_at_call 142;refine(hpt w1 w2 kp np sp ap bp cp dp ep fp w3 kq nq sq aq bq cq dq eq fq hY hZ).mono ?_;rintro e w4 ⟨rfl,kr,nr,sr,ar,br,cr,dr,er,fr,u0,u1,u2,u3,u4,l0,l1,l2,l3,l4,l5,hE⟩))
 all_goals try simp only[Exit.inBlock,Exit.then]
 ·refine bodyPost_ret (v:= .tuple #[.agg #[.int .i64 0,.int .i64 0,.string ⟨#[]⟩,.slice none 0 0,.slice none 0 0],.int .i64 10]) (by simp[results,Tryz.results95,go_sem,l0,l1,l2,l3,l4]) rfl ?_
  refine hq2 trivial w4 kr nr sr ar br cr dr er fr hE _ ?_
  with_reducible rfl
 ·refine bodyPost_ret (v:= .tuple #[.agg #[.int .i64 kr,.int .i64 nr,.string sr,.slice ar br cr,.slice dr er fr],.int .i64 0]) (by simp[results,Tryz.results95,go_sem,l0,l1,l2,l3,l4]) rfl ?_
  refine hq1 trivial w4 kr nr sr ar br cr dr er fr hE _ ?_
  with_reducible rfl
end Go.Proofs.YtameompfdamfpaaGreatDoor
namespace Go.Proofs.YtameompfdamfpaaGreatDoor
open Go.RowKit Go.Am
set_option maxHeartbeats 4000000 in
set_option maxRecDepth 1000000 in
theorem Put_go {ok:Nat→Prop} {w:World} {v x:Dt} {cv cx:List Value} {ps:List Dt} {z:Value} (hV:P1.path_Valid 100 ps=some true) (hfo:fol ps v=true) (hbv:v.bulk≤137438900000) (hbx:x.bulk≤137438900000) (hk5:Dt.I v 0=5) (hk0:Dt.I x 0≠0) (hok:∀b,ok b→b<w.heap.size) (ht:TabOK ok w) (hv:RD Tryz.prog ok w 33 v cv) (hp:RD Tryz.prog ok w 22 (.lst ps) [z]) (hx:RD Tryz.prog ok w 33 x cx):
  Calls Tryz.prog 95 #[.agg cv.toArray,z,.agg cx.toArray] w fun e w'=>((putD ps v x).2=true→PutOut ok w (putD ps v x).1 0 e w')∧((putD ps v x).2=false→PutOut ok w zeroD 10 e w'):=by
 obtain⟨n,s,x3,y3,z3,x4,y4,z4,rfl⟩:=rd_cells5' hv
 obtain⟨nx,sx,x5,y5,z5,x6,y6,z6,rfl⟩:=rd_cells5' hx
 rw[hk5] at*
 generalize Dt.I x 0=kx at*
 obtain⟨aP,cP,_,_,rfl,hpx⟩:=hp.elems Tryz.underlying22 (by rw[show Tryz.prog.cellsOf 9=1 by kernel_rfl];omega)
 clear hpx
 obtain⟨W1,hW1⟩:∃W1,W1=W3 w #[.int .i64 5,.int .i64 n,.string s,.slice x3 y3 z3,.slice x4 y4 z4] #[.int .i64 kx,.int .i64 nx,.string sx,.slice x5 y5 z5,.slice x6 y6 z6]:=⟨_,rfl⟩
 have hb1:Below w.heap.size w W1:=by rw[hW1];exact w3_below _ _ _
 have hs1:W1.heap.size=w.heap.size+3:=by rw[hW1];exact w3_size _ _ _
 obtain⟨a1,a2,a3⟩:=w3_at w #[.int .i64 5,.int .i64 n,.string s,.slice x3 y3 z3,.slice x4 y4 z4] #[.int .i64 kx,.int .i64 nx,.string sx,.slice x5 y5 z5,.slice x6 y6 z6]
 rw[←hW1] at a1 a2 a3
 have hmono:∀W:World,Below W1.heap.size W1 W→Below w.heap.size w W:=fun W h=>below_via hb1 h hb1.size
 have hvc:Calls Tryz.prog 141 #[.slice aP ps.length cP] W1 fun e w1=>e= .returned (.bool true)∧Hid (Below W1.heap.size W1 w1)∧w1.cell? ⟨w.heap.size,0,none⟩=some (.int .i64 5)∧w1.cell? ⟨w.heap.size,1,none⟩=some (.int .i64 n)∧w1.cell? ⟨w.heap.size,2,none⟩=some (.string s)∧w1.cell? ⟨w.heap.size,3,none⟩=some (.slice x3 y3 z3)∧w1.cell? ⟨w.heap.size,4,none⟩=some (.slice x4 y4 z4)∧w1.cell? ⟨w.heap.size+1,0,none⟩=some (.int .i64 kx):=by
  refine(valid_call (ok:=ok) hV (fun b hb=>Nat.lt_of_lt_of_le (hok b hb) hb1.size) (ht.mono fun b hb=>⟨hb,hb1.block b (hok b hb)⟩) (hp.mono fun b hb=>⟨hb,hb1.block b (hok b hb)⟩)).mono ?_
  rintro e w' ⟨rfl,hb⟩
  have u:=(hb.block _ (by omega)).trans a1
  exact⟨rfl,hb,cell_at u,cell_at u,cell_at u,cell_at u,cell_at u,cell_at ((hb.block _ (by omega)).trans a2)⟩
 have hc1:∀w1:World,Hid (Below W1.heap.size W1 w1)→Calls Tryz.prog 140 #[.agg #[.int .i64 5,.int .i64 n,.string s,.slice x3 y3 z3,.slice x4 y4 z4]] w1 fun e w2=>∃kp np sp ap bp cp dp ep fp,e= .returned (.agg #[.int .i64 kp,.int .i64 np,.string sp,.slice ap bp cp,.slice dp ep fp])∧Hid (Below W1.heap.size W1 w1∧Below w1.heap.size w1 w2∧RT Tryz.prog w2 w1.heap.size w2.heap.size 33 v [.int .i64 kp,.int .i64 np,.string sp,.slice ap bp cp,.slice dp ep fp])∧w.heap.size+1<w2.heap.size∧w2.cell? ⟨w.heap.size+1,0,none⟩=some (.int .i64 kx)∧w2.cell? ⟨w.heap.size+1,1,none⟩=some (.int .i64 nx)∧w2.cell? ⟨w.heap.size+1,2,none⟩=some (.string sx)∧w2.cell? ⟨w.heap.size+1,3,none⟩=some (.slice x5 y5 z5)∧w2.cell? ⟨w.heap.size+1,4,none⟩=some (.slice x6 y6 z6):=by
  intro w1 h1
  have q:=hmono w1 h1.out
  refine(clone_call (ok:=ok) hbv (hv.mono fun b hb=>⟨hb,q.block b (hok b hb)⟩) (fun b hb=>Nat.lt_of_lt_of_le (hok b hb) q.size)).mono ?_
  rintro e w2 ⟨kp,np,sp,ap,bp,cp,dp,ep,fp,rfl,g1,g2⟩
  have u:=(g1.block (w.heap.size+1) (by have:=h1.out.size;omega)).trans ((h1.out.block _ (by omega)).trans a2)
  exact⟨kp,np,sp,ap,bp,cp,dp,ep,fp,rfl,⟨h1.out,g1,g2⟩,by have:=h1.out.size;have:=g1.size;omega,cell_at u,cell_at u,cell_at u,cell_at u,cell_at u⟩
 have hc2:∀(w1 w2:World) (kp np:Int) (sp:ByteArray) (ap:Option Addr) (bp cp:Nat) (dp:Option Addr) (ep fp:Nat),Hid (Below W1.heap.size W1 w1∧Below w1.heap.size w1 w2∧RT Tryz.prog w2 w1.heap.size w2.heap.size 33 v [.int .i64 kp,.int .i64 np,.string sp,.slice ap bp cp,.slice dp ep fp])→Calls Tryz.prog 140 #[.agg #[.int .i64 kx,.int .i64 nx,.string sx,.slice x5 y5 z5,.slice x6 y6 z6]] (w2.alloc (.cells #[.int .i64 kp,.int .i64 np,.string sp,.slice ap bp cp,.slice dp ep fp] 33)) fun e w3=>∃kq nq sq aq bq cq dq eq fq,e= .returned (.agg #[.int .i64 kq,.int .i64 nq,.string sq,.slice aq bq cq,.slice dq eq fq])∧Hid (Below (w2.alloc (.cells #[.int .i64 kp,.int .i64 np,.string sp,.slice ap bp cp,.slice dp ep fp] 33)).heap.size (w2.alloc (.cells #[.int .i64 kp,.int .i64 np,.string sp,.slice ap bp cp,.slice dp ep fp] 33)) w3∧RT Tryz.prog w3 (w2.alloc (.cells #[.int .i64 kp,.int .i64 np,.string sp,.slice ap bp cp,.slice dp ep fp] 33)).heap.size w3.heap.size 33 x [.int .i64 kq,.int .i64 nq,.string sq,.slice aq bq cq,.slice dq eq fq]):=by
  intro w1 w2 kp np sp ap bp cp dp ep fp h
  obtain⟨h1,h2,h3⟩:=h.out
  have q:=below_via (below_via (hmono w1 h1) h2 (hmono w1 h1).size) (below_alloc' w2 (.cells #[.int .i64 kp,.int .i64 np,.string sp,.slice ap bp cp,.slice dp ep fp] 33)) (Nat.le_trans (hmono w1 h1).size h2.size)
  refine(clone_call (ok:=ok) hbx (hx.mono fun b hb=>⟨hb,q.block b (hok b hb)⟩) (fun b hb=>Nat.lt_of_lt_of_le (hok b hb) q.size)).mono ?_
  rintro e w3 ⟨kq,nq,sq,aq,bq,cq,dq,eq,fq,rfl,g1,g2⟩
  exact⟨kq,nq,sq,aq,bq,cq,dq,eq,fq,rfl,g1,g2⟩
 have hpt:∀(w1 w2:World) (kp np:Int) (sp:ByteArray) (ap:Option Addr) (bp cp:Nat) (dp:Option Addr) (ep fp:Nat) (w3:World) (kq nq:Int) (sq:ByteArray) (aq:Option Addr) (bq cq:Nat) (dq:Option Addr) (eq fq:Nat),Hid (Below W1.heap.size W1 w1∧Below w1.heap.size w1 w2∧RT Tryz.prog w2 w1.heap.size w2.heap.size 33 v [.int .i64 kp,.int .i64 np,.string sp,.slice ap bp cp,.slice dp ep fp])→Hid (Below (w2.alloc (.cells #[.int .i64 kp,.int .i64 np,.string sp,.slice ap bp cp,.slice dp ep fp] 33)).heap.size (w2.alloc (.cells #[.int .i64 kp,.int .i64 np,.string sp,.slice ap bp cp,.slice dp ep fp] 33)) w3∧RT Tryz.prog w3 (w2.alloc (.cells #[.int .i64 kp,.int .i64 np,.string sp,.slice ap bp cp,.slice dp ep fp] 33)).heap.size w3.heap.size 33 x [.int .i64 kq,.int .i64 nq,.string sq,.slice aq bq cq,.slice dq eq fq])→Calls Tryz.prog 142 #[.pointer (some ⟨w2.heap.size,0,none⟩),.slice aP ps.length cP,.agg #[.int .i64 kq,.int .i64 nq,.string sq,.slice aq bq cq,.slice dq eq fq]] w3 fun e w4=>e= .returned (.bool (putD ps v x).2)∧∃kr nr sr ar br cr dr er fr,w4.cell? ⟨w2.heap.size,0,none⟩=some (.int .i64 kr)∧w4.cell? ⟨w2.heap.size,1,none⟩=some (.int .i64 nr)∧w4.cell? ⟨w2.heap.size,2,none⟩=some (.string sr)∧w4.cell? ⟨w2.heap.size,3,none⟩=some (.slice ar br cr)∧w4.cell? ⟨w2.heap.size,4,none⟩=some (.slice dr er fr)∧w4.cell? ⟨w.heap.size+2,0,none⟩=some (.int .i64 0)∧w4.cell? ⟨w.heap.size+2,1,none⟩=some (.int .i64 0)∧w4.cell? ⟨w.heap.size+2,2,none⟩=some (.string ⟨#[]⟩)∧w4.cell? ⟨w.heap.size+2,3,none⟩=some (.slice none 0 0)∧w4.cell? ⟨w.heap.size+2,4,none⟩=some (.slice none 0 0)∧(∀t,w4.frozen? ⟨w.heap.size+2,t,none⟩=false)∧Hid (Below w.heap.size w w4∧∀w':World,w'=((((w4.setCell ⟨w.heap.size+2,0,none⟩ (.int .i64 kr)).setCell ⟨w.heap.size+2,1,none⟩ (.int .i64 nr)).setCell ⟨w.heap.size+2,2,none⟩ (.string sr)).setCell ⟨w.heap.size+2,3,none⟩ (.slice ar br cr)).setCell ⟨w.heap.size+2,4,none⟩ (.slice dr er fr)→Below w.heap.size w w'∧RD Tryz.prog (fun b=>b<w'.heap.size∧(b<w.heap.size→ok b)) w' 33 (putD ps v x).1 [.int .i64 kr,.int .i64 nr,.string sr,.slice ar br cr,.slice dr er fr]):=by
  intro w1 w2 kp np sp ap bp cp dp ep fp w3 kq nq sq aq bq cq dq eq fq hh1 hh2
  obtain⟨h1,h2,h3⟩:=hh1.out
  obtain⟨h4,h5⟩:=hh2.out
  have q1:=hmono w1 h1
  have q2:=below_via q1 h2 q1.size
  have q3:=below_via q2 (below_alloc' w2 (.cells #[.int .i64 kp,.int .i64 np,.string sp,.slice ap bp cp,.slice dp ep fp] 33)) q2.size
  have q4:=below_via q3 h4 q3.size
  have s1:=h1.size
  have s2:=h2.size
  have s4:=h4.size
  rw[alloc_size] at s4
  have hPC:PutC w3 w2.heap.size 0 w1.heap.size w2.heap.size #[.int .i64 kp,.int .i64 np,.string sp,.slice ap bp cp,.slice dp ep fp] 33 v [.int .i64 kp,.int .i64 np,.string sp,.slice ap bp cp,.slice dp ep fp] (fun c=>ok c∨(w2.heap.size+1≤c∧c<w3.heap.size)):=by
   refine⟨(h4.block _ (by rw[alloc_size];omega)).trans (alloc_at _ _ _),Nat.le_refl _,fun j hj=>by simp,h3.frame fun b _ hb=>(h4.block b (by rw[alloc_size];omega)).trans (alloc_old hb),by omega,.inr (Nat.le_refl _),fun c hc=>?_,hbv⟩
   rcases hc with hc|hc
   ·have:=hok c hc;omega
   ·omega
  have h:=put_ok ps v hfo _ _ 0 _ _ _ _ _ (fun c=>ok c∨(w2.heap.size+1≤c∧c<w3.heap.size)) x [.int .i64 kq,.int .i64 nq,.string sq,.slice aq bq cq,.slice dq eq fq] (.slice aP ps.length cP) hPC (ht.mono fun b hb=>⟨.inl hb,q4.block b (hok b hb)⟩) (hp.mono fun b hb=>⟨.inl hb,q4.block b (hok b hb)⟩) (h5.toRD fun b hb1 hb2=> .inr ⟨by rw[alloc_size] at hb1;exact hb1,hb2⟩)
  refine h.mono ?_
  rintro e w4 ⟨rfl,hR⟩
  obtain⟨arr',cs',g1,g2,g3,g4,g5,g6⟩:=hR.res
  obtain⟨kr,nr,sr,ar,br,cr,dr,er,fr,rfl⟩:=rd_cells5 g6
  have hcell:∀j,j<5→w4.cell? ⟨w2.heap.size,j,none⟩=([.int .i64 kr,.int .i64 nr,.string sr,.slice ar br cr,.slice dr er fr]:List Value)[j]? :=fun j hj=>by
   have:=g5 j hj
   rw[Nat.zero_add] at this
   rw[cell_at g1,this]
  have hb4:=hR.below
  have s5:=hb4.size
  have hq:Below w.heap.size w w4:=⟨hb4.os.trans q4.os,hb4.tape.trans q4.tape,hb4.output.trans q4.output,Nat.le_trans q4.size s5,fun c hc=>(hb4.block c (by have:=q4.size;omega) (by have:=q1.size;omega)).trans (q4.block c hc)⟩
  have u:w4.heap[w.heap.size+2]? =some (.cells zV 33 (0,0)):=by
   rw[hb4.block _ (by omega) (by omega),h4.block _ (by rw[alloc_size];omega),alloc_old (by omega),h2.block _ (by omega),h1.block _ (by omega)]
   exact a3
  refine⟨rfl,kr,nr,sr,ar,br,cr,dr,er,fr,hcell 0 (by omega),hcell 1 (by omega),hcell 2 (by omega),hcell 3 (by omega),hcell 4 (by omega),cell_at u,cell_at u,cell_at u,cell_at u,cell_at u,fun t=>froz_at u,hq,fun w' hw'=>?_⟩
  replace hw':w'=w4.setCells (w.heap.size+2) 0 [.int .i64 kr,.int .i64 nr,.string sr,.slice ar br cr,.slice dr er fr]:=hw'
  obtain⟨z1,z2,z3,z4⟩:=scells_rest (w.heap.size+2) [.int .i64 kr,.int .i64 nr,.string sr,.slice ar br cr,.slice dr er fr] 0 w4
  have ho:∀c,c≠w.heap.size+2→w'.heap[c]? =w4.heap[c]? :=fun c hc=>by rw[hw'];exact scells_other _ _ _ _ hc
  refine⟨⟨by rw[hw',z1,hq.os],by rw[hw',z2,hq.tape],by rw[hw',z3,hq.output],by rw[hw',z4];exact hq.size,fun c hc=>(ho c (by omega)).trans (hq.block c hc)⟩,g6.mono fun c hc=>⟨⟨by rw[hw',z4];exact hc.1,fun hlt=>?_⟩,ho c ?_⟩⟩
  ·rcases hc.2.2 (by omega) with (h'|h')|h'
   ·exact h'
   ·omega
   ·omega
  ·intro e
   rcases hc.2.2 (by omega) with (h'|h')|h'
   ·have:=hok c h';omega
   ·omega
   ·omega
 refine Put_walk (putD ps v x).2 hk0 (fun w1=>Hid (Below W1.heap.size W1 w1)) (fun w1 w2 kp np sp ap bp cp dp ep fp=>Hid (Below W1.heap.size W1 w1∧Below w1.heap.size w1 w2∧RT Tryz.prog w2 w1.heap.size w2.heap.size 33 v [.int .i64 kp,.int .i64 np,.string sp,.slice ap bp cp,.slice dp ep fp])) (fun w1 w2 kp np sp ap bp cp dp ep fp w3 kq nq sq aq bq cq dq eq fq=>Hid (Below (w2.alloc (.cells #[.int .i64 kp,.int .i64 np,.string sp,.slice ap bp cp,.slice dp ep fp] 33)).heap.size (w2.alloc (.cells #[.int .i64 kp,.int .i64 np,.string sp,.slice ap bp cp,.slice dp ep fp] 33)) w3∧RT Tryz.prog w3 (w2.alloc (.cells #[.int .i64 kp,.int .i64 np,.string sp,.slice ap bp cp,.slice dp ep fp] 33)).heap.size w3.heap.size 33 x [.int .i64 kq,.int .i64 nq,.string sq,.slice aq bq cq,.slice dq eq fq])) (fun w4 kr nr sr ar br cr dr er fr=>Hid (Below w.heap.size w w4∧∀w':World,w'=((((w4.setCell ⟨w.heap.size+2,0,none⟩ (.int .i64 kr)).setCell ⟨w.heap.size+2,1,none⟩ (.int .i64 nr)).setCell ⟨w.heap.size+2,2,none⟩ (.string sr)).setCell ⟨w.heap.size+2,3,none⟩ (.slice ar br cr)).setCell ⟨w.heap.size+2,4,none⟩ (.slice dr er fr)→Below w.heap.size w w'∧RD Tryz.prog (fun b=>b<w'.heap.size∧(b<w.heap.size→ok b)) w' 33 (putD ps v x).1 [.int .i64 kr,.int .i64 nr,.string sr,.slice ar br cr,.slice dr er fr])) _ (by unfold W3 at hW1;rw[←hW1];exact hvc) hc1 hc2 hpt ?_ ?_
 ·intro hr w4 kr nr sr ar br cr dr er fr hE w' hw'
  refine⟨fun _=>?_,fun h=>?_⟩
  ·obtain⟨g1,g2⟩:=hE.out.2 w' hw'
   exact⟨_,rfl,g1,g2⟩
  ·rw[hr] at h;exact absurd h (by decide)
 ·intro hr w4 kr nr sr ar br cr dr er fr hE w' hw'
  refine⟨fun h=>?_,fun _=>?_⟩
  ·rw[hr] at h;exact absurd h (by decide)
  ·exact put_zero (zero_set hE.out.1 hw')
end Go.Proofs.YtameompfdamfpaaGreatDoor
namespace Go.Proofs.YtameompfdamfpaaGreatDoor
open Go.RowKit Go.Am
theorem rvs_three {P:Program} {ok:Nat→Prop} {w:World} {β:Nat→Option Value} {a b c:AV} {vs:List Value} (h:RVsX P ok w β [a,b,c] vs):∃x y z,vs=[x,y,z]∧RV P ok w β a x∧RV P ok w β b y∧RV P ok w β c z:=by
 cases h with
 |cons h1 r=>
  obtain⟨y,z,rfl,h2,h3⟩:=r.two
  exact⟨_,y,z,rfl,h1,h2,h3⟩
theorem g24:aggT Tryz.prog 37=false:=by kernel_rfl
theorem PutOut.rv {ok:Nat→Prop} {w w':World} {β:Nat→Option Value} {d:Dt} {k:Int} {e:Ending} (hk:0≤k∧k≤10) (h:PutOut ok w d k e w'):∃v,e= .returned v∧Below w.heap.size w w'∧RV Tryz.prog (fun b=>b<w'.heap.size∧(b<w.heap.size→ok b)) w' β (.tup [.dat 33 d,.dat 37 (.int k)]) v:=by
 obtain⟨cs,rfl,h1,h2⟩:=h
 refine⟨_,rfl,h1,_,rfl,rfl,fun i av hv=>?_⟩
 match i with
 |0=>simp only[List.getElem?_cons_zero,Option.some.injEq] at hv;subst hv;exact rv_datA g36 h2
 |1=>
  simp only[List.getElem?_cons_succ,List.getElem?_cons_zero,Option.some.injEq] at hv;subst hv
  have hi:RD Tryz.prog (fun b=>b<w'.heap.size∧(b<w.heap.size→ok b)) w' 37 (.int k) [.int .i64 k]:= .int Tryz.underlying37 (by simp[IntKind.min,IntKind.bits,IntKind.signed];omega) (by simp[IntKind.max,IntKind.bits,IntKind.signed];omega)
  exact rv_dat1 g24 hi
 |i+2=>simp at hv
set_option maxRecDepth 100000 in
theorem path_PutC_fx {v:Dt} {p:List Dt} {x:Dt} {r:Dt×Int} (h:path_PutC v p x=some r):FX Tryz.prog 95 [.dat 33 v,.dat 22 (.lst p),.dat 33 x] [] (.tup [.dat 33 r.1,.dat 37 (.int r.2)]) []:=by
 unfold path_PutC at h
 by_cases hb:v.bulk≤137438900000∧x.bulk≤137438900000∧fol p v=true∧P1.path_Valid 100 p=some true∧Dt.I v 0=5∧Dt.I x 0≠0∧(putD p v x).2=true
 ·rw[   if_pos hb] at h
  cases h
  obtain⟨h1,h2,h3,hV,h5,h0,hr⟩:=hb
  refine fx_nil3 fun ok w β vs hok ha ht=>?_
  obtain⟨x1,x2,x3,rfl,hx1,hx2,hx3⟩:=rvs_three ha
  obtain⟨cs,rfl,hra⟩:=hx1.1 (show aggT _ 33=true from g36)
  obtain⟨cx,rfl,hrx⟩:=hx3.1 (show aggT _ 33=true from g36)
  cases hra with
  |dat   hrd=>
   cases hrx with
   |    dat hrx=>
        cases hx2.2 (show aggT _ 22=false from g23) with
        |dat hp=>
         refine(Put_go hV h3 h1 h2 h5 h0 hok ht hrd hp hrx).mono ?_
         rintro e w' ⟨ho1,ho2⟩
         exact(ho1 hr).rv ⟨by omega,by omega⟩
 ·rw[if_neg hb] at h
  cases h
end Go.Proofs.YtameompfdamfpaaGreatDoor
