/- path.put: the whole.
path.drop:its walk.
A list within a tree that grows:what holds of it.
path.drop:a field is deleted;the whole. -/
import Derived.Test.YtameompfdamfpaaGreatDoorOA
import Derived.Test.YtameompfdamfpaaGreatDoorOX
import Derived.Deep.AppendLies
set_option linter.unusedVariables false
set_option linter.unusedSimpArgs false
namespace Go.Proofs.YtameompfdamfpaaGreatDoor
open Go.RowKit Go.Am
theorem put_ok:∀ps:List Dt,PutS ps
 | []=>put_nil
 |p::ps=>by
  have ih:=put_ok ps
  intro d hfo w b o lo hi arr T cs ok x cx z hC ht hp hx
  obtain⟨fv,ff,hT⟩:=tV
  obtain⟨_,_,_,s0,rfl,_⟩:=path_parts hp
  obtain⟨kd,nd,sd,ld,fd,d3,d4,a1,a2,a3,rfl,_,_,_,_,_,_⟩:=hC.hrt.v_inv hT
  have hbk:=hC.hbk
  have hlf:=len_bulk fd
  simp only[Dt.bulk,Dt.bulkL] at hbk
  have hI:Dt.I (Dt.agg [.int kd,.int nd,.str sd,.lst ld,.lst fd]) 0=kd:=rfl
  have hL3:Dt.L (Dt.agg [.int kd,.int nd,.str sd,.lst ld,.lst fd]) 3=ld:=rfl
  have hL4:Dt.L (Dt.agg [.int kd,.int nd,.str sd,.lst ld,.lst fd]) 4=fd:=rfl
  have hS:Dt.toStr (Dt.str s0)=s0:=rfl
  rw[fol,hI,hL3,hL4,hS] at hfo
  rw[putD,hI,hL3,hL4,hS,mkV_eq,mkV_eq]
  by_cases h5:kd=5
  ·rw[if_pos h5] at hfo ⊢
   rcases(fld_some fd s0 (by omega)).2 with h| ⟨i,h,hi⟩
   ·rw[h] at hfo;simp at hfo
   ·    rw[if_pos (show (0:Int)≤fldI fd s0 by omega),h,Int.toNat_natCast]
        rw[h,Int.toNat_natCast,Bool.and_eq_true] at hfo
        exact put_field s0 ps ih kd nd sd ld fd h5 i h hi hfo.2 hC ht hp hx
  ·rw[   if_neg h5] at hfo ⊢
   by_cases h6:kd=6
   ·    rw[if_pos h6,Bool.and_eq_true,Bool.and_eq_true] at hfo
        rw[if_pos h6]
        ·have hn:=hfo.1.1
         obtain⟨i,h1,h2⟩:=(num_some' s0).2 hn
         have hnum:numV s0=((i:Int),true):=by rw[←h1,←hn]
         rw[if_pos hn,h1,Int.toNat_natCast]
         rw[h1,Int.toNat_natCast,decide_eq_true_eq] at hfo
         rw[if_pos hfo.1.2]
         exact put_elem s0 ps ih kd nd sd ld fd h6 i hnum hfo.1.2 hfo.2 hC ht hp hx
   ·rw[if_neg h6] at hfo;cases hfo
end Go.Proofs.YtameompfdamfpaaGreatDoor
namespace Go.Proofs.YtameompfdamfpaaGreatDoor
open Go.RowKit Go.Am
def DropS (ps:List Dt):Prop:=∀(d:Dt),fol ps d=true→∀(w:World) (b o lo hi:Nat) (arr:Array Value) (T:TypeId) (cs:List Value) (ok:Nat→Prop) (z:Value),
 PutC w b o lo hi arr T d cs ok→TabOK ok w→RD Tryz.prog ok w 22 (.lst ps) [z]→
 Calls Tryz.prog 143 #[.pointer (some ⟨b,o,none⟩),z] w fun e w'=>e= .returned (.tuple #[])∧PutR w w' b o lo hi arr T ok (dropD ps d)
set_option maxHeartbeats 4000000 in
set_option maxRecDepth 1000000 in
theorem drop_field (s0:ByteArray) (ps:List Dt) (ih:DropS ps) (hps:0<ps.length) (kd nd:Int) (sd:ByteArray) (ld fd:List Dt) (hkd:kd=5) (i:Nat) (hi:fldI fd s0=(i:Int)) (hif:i<fd.length) (hfo:fol ps (Dt.fld (fd.getD i (.int 0)) 1)=true) {w:World} {b o lo hi':Nat} {arr:Array Value} {T:TypeId} {cs:List Value} {ok:Nat→Prop} {z:Value}
  (hC:PutC w b o lo hi' arr T (.agg [.int kd,.int nd,.str sd,.lst ld,.lst fd]) cs ok) (ht:TabOK ok w) (hp:RD Tryz.prog ok w 22 (.lst (.str s0::ps)) [z]):
  Calls Tryz.prog 143 #[.pointer (some ⟨b,o,none⟩),z] w fun e w'=>e= .returned (.tuple #[])∧PutR w w' b o lo hi' arr T ok (.agg [.int kd,.int nd,.str sd,.lst ld,.lst (fd.set i (.agg [.str (Dt.S (fd.getD i (.int 0)) 0),dropD ps (Dt.fld (fd.getD i (.int 0)) 1)]))]):=by
 obtain⟨fv,ff,hT⟩:=tV
 subst hkd
 obtain⟨bp,op,cap,_,e,rfl,hbp,hcap,hcm,hpc,hs0,htail⟩:=path_parts hp
 cases e
 obtain⟨A,hA⟩:∃A:Option Addr,(if cap=1 then some (⟨bp,op,none⟩:Addr) else some ⟨bp,op+1,none⟩)=A:=⟨_,rfl⟩
 have htl:=htail A hA
 obtain⟨_,_,_,_,_,d3,d4,_,_,_,e1,rfl,_⟩:=hC.hrt.v_inv hT
 cases e1
 obtain⟨B,a,a',brr,c0,rfl,⟨hB1,hB2,hB3,hB4⟩,hCc,hback⟩:=hC.field hif
 have hbpw:bp<w.heap.size:=(hC.hok _ hbp).1
 have facts:∀W:World,Below w.heap.size w W→W.cell? ⟨b,o+4,none⟩=some (.slice (some ⟨B,0,none⟩) fd.length fd.length)∧W.cell? ⟨bp,op,none⟩=some (.string s0):=fun W q=>⟨(hC.keep q).cell (j:=4) (by omega) rfl,(q.cell (p:=⟨bp,op,none⟩) hbpw).trans hpc⟩
 have hfc:∀W:World,Below w.heap.size w W→Calls Tryz.prog 138 #[.slice (some ⟨B,0,none⟩) fd.length fd.length,.string s0] W fun e w'=>e= .returned (.int .i64 (i:Int))∧Hid (Below w.heap.size w w')∧w'.cell? ⟨b,o+4,none⟩=some (.slice (some ⟨B,0,none⟩) fd.length fd.length)∧w'.cell? ⟨bp,op,none⟩=some (.string s0):=fun W q=>by
  have hK:=hC.keep q
  obtain⟨_,_,_,_,_,_,_,m1,m2,m3,e1,e2,n1,n2,n3,n4,_,hd4,_⟩:=hK.hrt.v_inv hT
  cases e1
  cases e2
  have hd5:=hd4.toRD (ok:=fun c=>ok c∨(lo≤c∧c<hi')) fun c _ _=> .inr (by omega)
  have hbk:=hC.hbk
  have hlf:=len_bulk fd
  simp only[Dt.bulk,Dt.bulkL] at hbk
  have h:=field_call (ok:=fun c=>ok c∨(lo≤c∧c<hi')) (s:=s0) (fun c hc=>by
   rcases hc with hc|hc
   ·exact(hK.hok c hc).1
   ·have:=hK.hhi;omega) (ht.mono fun c hc=>⟨.inl hc,q.block c (hC.hok c hc).1⟩) hd5 (by omega) hs0
  refine h.mono ?_
  rintro e w' ⟨rfl,hb⟩
  have hb':=below_via q hb q.size
  exact⟨by rw[hi],hb',facts w' hb'⟩
 have e0:w.cell? ⟨b,o,none⟩=some (.int .i64 5):=hC.cell (j:=0) (by omega) rfl
 have e4:w.cell? ⟨b,o+4,none⟩=some (.slice (some ⟨B,0,none⟩) fd.length fd.length):=hC.cell (j:=4) (by omega) rfl
 have hrec:∀w1 W:World,Below w.heap.size w w1→Below w1.heap.size w1 W→Calls Tryz.prog 143 #[.pointer (some ⟨B,i*6+1,none⟩),.slice A ps.length (cap-1)] W fun e w'=>e= .returned (.tuple #[])∧Hid (PutR w w' b o lo hi' arr T ok (.agg [.int 5,.int nd,.str sd,.lst ld,.lst (fd.set i (.agg [.str (Dt.S (fd.getD i (.int 0)) 0),dropD ps (Dt.fld (fd.getD i (.int 0)) 1)]))]))∧
   w'.cell? ⟨b,o+4,none⟩=some (.slice (some ⟨B,0,none⟩) fd.length fd.length):=fun w1 W h1 h2=>by
  have q:=below_via h1 h2 h1.size
  have hCW:=hCc.keep q
  have h:=ih _ hfo W B (i*6+1) a a' brr 57 c0 ok (.slice A ps.length (cap-1)) hCW (ht.mono fun c hc=>⟨hc,q.block c (hC.hok c hc).1⟩) (htl.mono fun c hc=>⟨hc,q.block c (hC.hok c hc).1⟩)
  refine h.mono ?_
  rintro e w' ⟨rfl,hR⟩
  have hbB:=hCc.lt
  have hba:=hCc.hbo
  have hhi:=hCc.hhi
  have v1:w'.heap[b]? =W.heap[b]? :=by
   have hbb:=hC.lt
   have hbo:=hC.hbo
   exact hR.below.block b (Nat.lt_of_lt_of_le hbb q.size) (by omega)
  refine⟨rfl,hback W w' _ q hR,?_⟩
  rw[World.cell?_of_block (w:=W) v1]
  exact(facts W q).1
 generalize dropD ps (Dt.fld (fd.getD i (.int 0)) 1)=R at hrec ⊢
 have hfl:(i:Int)<(fd.length:Int):=by omega
 have hcl0:(1:Int)≤(ps.length:Int)+1:=by omega
 have hcl1:(1:Int)<(ps.length:Int)+1:=by omega
 clear hfo facts hback hCc hC hp htail htl ht ih hi
 go_enter Tryz.func143,Tryz.ntmps143
 go_wp2
 go_region_held3 (fun W=>W.cell? ⟨b,o+4,none⟩=some (.slice (some ⟨B,0,none⟩) fd.length fd.length)∧W.cell? ⟨bp,op,none⟩=some (.string s0))
  (go_keep)
  (first|(go_at_call 138;refine(hfc _ ?_).mono ?_;exact below_drew _ _;rintro e w1 ⟨rfl,hX1,q1,q2⟩))
 go_wp2
 go_region_held3 (fun W=>W.cell? ⟨b,o+4,none⟩=some (.slice (some ⟨B,0,none⟩) fd.length fd.length))
  (go_keep)
  (first|(go_at_call 143;refine(hrec w1 _ hX1.out ?_).mono ?_;exact below_drew _ _;rintro e w2 ⟨rfl,hX2,r1⟩))
 go_wp2
 go_end0
 exact⟨rfl,hX2.out⟩
set_option maxHeartbeats 4000000 in
set_option maxRecDepth 1000000 in
theorem drop_elem (s0:ByteArray) (ps:List Dt) (ih:DropS ps) (hps:0<ps.length) (kd nd:Int) (sd:ByteArray) (ld fd:List Dt) (hkd:kd=6) (i:Nat) (hi:numV s0=((i:Int),true)) (hif:i<ld.length) (hfo:fol ps (ld.getD i (.int 0))=true) {w:World} {b o lo hi':Nat} {arr:Array Value} {T:TypeId} {cs:List Value} {ok:Nat→Prop} {z:Value}
  (hC:PutC w b o lo hi' arr T (.agg [.int kd,.int nd,.str sd,.lst ld,.lst fd]) cs ok) (ht:TabOK ok w) (hp:RD Tryz.prog ok w 22 (.lst (.str s0::ps)) [z]):
  Calls Tryz.prog 143 #[.pointer (some ⟨b,o,none⟩),z] w fun e w'=>e= .returned (.tuple #[])∧PutR w w' b o lo hi' arr T ok (.agg [.int kd,.int nd,.str sd,.lst (ld.set i (dropD ps (ld.getD i (.int 0)))),.lst fd]):=by
 obtain⟨fv,ff,hT⟩:=tV
 subst hkd
 obtain⟨bp,op,cap,_,e,rfl,hbp,hcap,hcm,hpc,hs0,htail⟩:=path_parts hp
 cases e
 obtain⟨A,hA⟩:∃A:Option Addr,(if cap=1 then some (⟨bp,op,none⟩:Addr) else some ⟨bp,op+1,none⟩)=A:=⟨_,rfl⟩
 have htl:=htail A hA
 obtain⟨_,_,_,_,_,d3,d4,_,_,_,e1,rfl,_⟩:=hC.hrt.v_inv hT
 cases e1
 obtain⟨B,a,a',brr,c0,rfl,⟨hB1,hB2,hB3,hB4⟩,hCc,hback⟩:=hC.elem hif
 have hbpw:bp<w.heap.size:=(hC.hok _ hbp).1
 have facts:∀W:World,Below w.heap.size w W→W.cell? ⟨b,o+3,none⟩=some (.slice (some ⟨B,0,none⟩) ld.length ld.length)∧W.cell? ⟨bp,op,none⟩=some (.string s0):=fun W q=>⟨(hC.keep q).cell (j:=3) (by omega) rfl,(q.cell (p:=⟨bp,op,none⟩) hbpw).trans hpc⟩
 have hfc:∀W:World,Below w.heap.size w W→Calls Tryz.prog 139 #[.string s0] W fun e w'=>e= .returned (.tuple #[.int .i64 (i:Int),.bool true])∧Hid (Below w.heap.size w w')∧w'.cell? ⟨b,o+3,none⟩=some (.slice (some ⟨B,0,none⟩) ld.length ld.length)∧w'.cell? ⟨bp,op,none⟩=some (.string s0):=fun W q=>by
  have h:=number_call (ok:=ok) (w:=W) (s:=s0) (fun c hc=>Nat.lt_of_lt_of_le (hC.hok c hc).1 q.size) (ht.mono fun c hc=>⟨hc,q.block c (hC.hok c hc).1⟩) hs0
  refine h.mono ?_
  rintro e w' ⟨rfl,hb⟩
  have hb':=below_via q hb q.size
  exact⟨by rw[hi],hb',facts w' hb'⟩
 have e0:w.cell? ⟨b,o,none⟩=some (.int .i64 6):=hC.cell (j:=0) (by omega) rfl
 have e4:w.cell? ⟨b,o+3,none⟩=some (.slice (some ⟨B,0,none⟩) ld.length ld.length):=hC.cell (j:=3) (by omega) rfl
 have hrec:∀w1 W:World,Below w.heap.size w w1→Below w1.heap.size w1 W→Calls Tryz.prog 143 #[.pointer (some ⟨B,i*5,none⟩),.slice A ps.length (cap-1)] W fun e w'=>e= .returned (.tuple #[])∧Hid (PutR w w' b o lo hi' arr T ok (.agg [.int 6,.int nd,.str sd,.lst (ld.set i (dropD ps (ld.getD i (.int 0)))),.lst fd]))∧
   w'.cell? ⟨b,o+3,none⟩=some (.slice (some ⟨B,0,none⟩) ld.length ld.length):=fun w1 W h1 h2=>by
  have q:=below_via h1 h2 h1.size
  have hCW:=hCc.keep q
  have h:=ih _ hfo W B (i*5) a a' brr 33 c0 ok (.slice A ps.length (cap-1)) hCW (ht.mono fun c hc=>⟨hc,q.block c (hC.hok c hc).1⟩) (htl.mono fun c hc=>⟨hc,q.block c (hC.hok c hc).1⟩)
  refine h.mono ?_
  rintro e w' ⟨rfl,hR⟩
  have hbB:=hCc.lt
  have hba:=hCc.hbo
  have hhi:=hCc.hhi
  have v1:w'.heap[b]? =W.heap[b]? :=by
   have hbb:=hC.lt
   have hbo:=hC.hbo
   exact hR.below.block b (Nat.lt_of_lt_of_le hbb q.size) (by omega)
  refine⟨rfl,hback W w' _ q hR,?_⟩
  rw[World.cell?_of_block (w:=W) v1]
  exact(facts W q).1
 generalize dropD ps (ld.getD i (.int 0))=R at hrec ⊢
 have hfl:(i:Int)<(ld.length:Int):=by omega
 have hfl2:¬(ld.length:Int)≤(i:Int):=by omega
 have hcl0:(1:Int)≤(ps.length:Int)+1:=by omega
 have hcl1:(1:Int)<(ps.length:Int)+1:=by omega
 clear hfo facts hback hCc hC hp htail htl ht ih hi
 go_enter Tryz.func143,Tryz.ntmps143
 go_wp2_with (go_at_call 139;refine(hfc _ ?_).mono ?_;exact Below.refl _ _;rintro e w1 ⟨rfl,hX1,q1,q2⟩)
 go_region_held3 (fun W=>W.cell? ⟨b,o+3,none⟩=some (.slice (some ⟨B,0,none⟩) ld.length ld.length))
  (go_keep)
  (first|(go_at_call 143;refine(hrec w1 _ hX1.out ?_).mono ?_;exact below_drew _ _;rintro e w2 ⟨rfl,hX2,r1⟩))
 go_wp2
 go_end0
 exact⟨rfl,hX2.out⟩
set_option maxHeartbeats 4000000 in
set_option maxRecDepth 1000000 in
theorem drop_null (s0:ByteArray) (kd nd:Int) (sd:ByteArray) (ld fd:List Dt) (hkd:kd=6) (i:Nat) (hi:numV s0=((i:Int),true)) (hif:i<ld.length) {w:World} {b o lo hi':Nat} {arr:Array Value} {T:TypeId} {cs:List Value} {ok:Nat→Prop} {z:Value}
  (hC:PutC w b o lo hi' arr T (.agg [.int kd,.int nd,.str sd,.lst ld,.lst fd]) cs ok) (ht:TabOK ok w) (hp:RD Tryz.prog ok w 22 (.lst [.str s0]) [z]):
  Calls Tryz.prog 143 #[.pointer (some ⟨b,o,none⟩),z] w fun e w'=>e= .returned (.tuple #[])∧PutR w w' b o lo hi' arr T ok (.agg [.int kd,.int nd,.str sd,.lst (ld.set i (nullD)),.lst fd]):=by
 obtain⟨fv,ff,hT⟩:=tV
 subst hkd
 obtain⟨bp,op,cap,_,e,rfl,hbp,hcap,hcm,hpc,hs0,htail⟩:=path_parts hp
 cases e
 obtain⟨_,_,_,_,_,d3,d4,_,_,_,e1,rfl,_⟩:=hC.hrt.v_inv hT
 cases e1
 obtain⟨B,a,a',brr,c0,rfl,⟨hB1,hB2,hB3,hB4⟩,hCc,hback⟩:=hC.elem hif
 have hbpw:bp<w.heap.size:=(hC.hok _ hbp).1
 have facts:∀W:World,Below w.heap.size w W→W.cell? ⟨b,o+3,none⟩=some (.slice (some ⟨B,0,none⟩) ld.length ld.length)∧W.cell? ⟨bp,op,none⟩=some (.string s0):=fun W q=>⟨(hC.keep q).cell (j:=3) (by omega) rfl,(q.cell (p:=⟨bp,op,none⟩) hbpw).trans hpc⟩
 have hfc:∀W:World,Below w.heap.size w W→Calls Tryz.prog 139 #[.string s0] W fun e w'=>e= .returned (.tuple #[.int .i64 (i:Int),.bool true])∧Hid (Below w.heap.size w w')∧w'.cell? ⟨b,o+3,none⟩=some (.slice (some ⟨B,0,none⟩) ld.length ld.length)∧w'.cell? ⟨bp,op,none⟩=some (.string s0):=fun W q=>by
  have h:=number_call (ok:=ok) (w:=W) (s:=s0) (fun c hc=>Nat.lt_of_lt_of_le (hC.hok c hc).1 q.size) (ht.mono fun c hc=>⟨hc,q.block c (hC.hok c hc).1⟩) hs0
  refine h.mono ?_
  rintro e w' ⟨rfl,hb⟩
  have hb':=below_via q hb q.size
  exact⟨by rw[hi],hb',facts w' hb'⟩
 have e0:w.cell? ⟨b,o,none⟩=some (.int .i64 6):=hC.cell (j:=0) (by omega) rfl
 have e4:w.cell? ⟨b,o+3,none⟩=some (.slice (some ⟨B,0,none⟩) ld.length ld.length):=hC.cell (j:=3) (by omega) rfl
 obtain⟨ke,ne,se,le,fe,y3,y4,_,_,_,hye,rfl,_⟩:=hCc.hrt.v_inv hT
 have hst:∀w1:World,Below w.heap.size w w1→w1.cell? ⟨B,i*5,none⟩=some (.int .i64 ke)∧w1.cell? ⟨B,i*5+1,none⟩=some (.int .i64 ne)∧w1.cell? ⟨B,i*5+2,none⟩=some (.string se)∧w1.cell? ⟨B,i*5+3,none⟩=some y3∧w1.cell? ⟨B,i*5+4,none⟩=some y4∧∀t,w1.frozen? ⟨B,t,none⟩=false:=fun w1 q=>
  ⟨(hCc.keep q).cell (j:=0) (by omega) rfl,(hCc.keep q).cell (j:=1) (by omega) rfl,(hCc.keep q).cell (j:=2) (by omega) rfl,(hCc.keep q).cell (j:=3) (by omega) rfl,(hCc.keep q).cell (j:=4) (by omega) rfl,fun t=>(hCc.keep q).froz t⟩
 have hend:∀w1 w':World,Below w.heap.size w w1→w'=((((w1.setCell ⟨B,i*5,none⟩ (.int .i64 2)).setCell ⟨B,i*5+1,none⟩ (.int .i64 0)).setCell ⟨B,i*5+2,none⟩ (.string ⟨#[]⟩)).setCell ⟨B,i*5+3,none⟩ (.slice none 0 0)).setCell ⟨B,i*5+4,none⟩ (.slice none 0 0)→PutR w w' b o lo hi' arr T ok (.agg [.int 6,.int nd,.str sd,.lst (ld.set i nullD),.lst fd]):=fun w1 w' q h=>
  hback w w' nullD (Below.refl _ _) (hCc.repl q (RD.v_mk hT (RD.nil hT.l) (RD.nil hT.d) (by decide) (by decide) (by decide)) rfl h)
 have hfl:(i:Int)<(ld.length:Int):=by omega
 have hfl2:¬(ld.length:Int)≤(i:Int):=by omega
 have hS:Hid (∀w1:World,Below w.heap.size w w1→w1.cell? ⟨B,i*5,none⟩=some (.int .i64 ke)∧w1.cell? ⟨B,i*5+1,none⟩=some (.int .i64 ne)∧w1.cell? ⟨B,i*5+2,none⟩=some (.string se)∧w1.cell? ⟨B,i*5+3,none⟩=some y3∧w1.cell? ⟨B,i*5+4,none⟩=some y4∧∀t,w1.frozen? ⟨B,t,none⟩=false):=hst
 clear facts hback hCc hC hp htail ht hi hst hye
 go_enter Tryz.func143,Tryz.ntmps143
 go_wp2_with (go_at_call 139;refine(hfc _ ?_).mono ?_;exact Below.refl _ _;rintro e w1 ⟨rfl,hX1,q1,q2⟩;obtain⟨r0,r1,r2,r3,r4,r5⟩:=hS.out w1 hX1.out)
 go_end0
 exact⟨rfl,hend w1 _ hX1.out rfl⟩
end Go.Proofs.YtameompfdamfpaaGreatDoor
namespace Go.Proofs.YtameompfdamfpaaGreatDoor
open Go.RowKit Go.Am
structure Grow (w:World) (b q:Nat) (arr:Array Value) (T:TypeId) (z0:Value) (E:TypeId) (okE:Nat→Prop) (wr:World) (v:Value) (es:List Dt):Prop where
 below:BelowX (fun c=>c=b∨blk z0=some c) w wr
 hb:wr.heap[b]? =some (.cells (arr.setIfInBounds q v) T (0,0))
 row:∃xs,wr.ownsRow 0 E (Tryz.prog.cellsOf E) v es.length xs∧(∀c∈xs,c.oneCell'=true)∧∀(i:Nat) (d:Dt),es[i]? =some d→RD Tryz.prog okE wr E d ((xs.drop (i*Tryz.prog.cellsOf E)).take (Tryz.prog.cellsOf E))
 hv:∀g,blk v=some g→g≠b∧(blk z0=some g∨w.heap.size≤g)
 hE:∀c,okE c→c<wr.heap.size∧c≠b∧blk v≠some c
 bw:b<w.heap.size
section
variable {w wr W w1 w3:World} {b q:Nat} {arr:Array Value} {T:TypeId} {z0 v:Value} {E:TypeId} {okE okE':Nat→Prop} {es:List Dt}
theorem Grow.lt (h:Grow w b q arr T z0 E okE wr v es):b<wr.heap.size:=Nat.lt_of_lt_of_le h.bw h.below.size
theorem own_blk {base:Nat} {e:TypeId} {size:Nat} {v:Value} {n:Nat} {xs:List Value} (h:w.ownsRow base e size v n xs):v.ownBlock=blk v∧∀g,blk v=some g→g<w.heap.size:=by
 rcases h.2 with⟨rfl,_⟩| ⟨g,cap,cur,rfl,_,hg,_⟩
 ·exact⟨rfl,fun g h=>by cases h⟩
 ·refine⟨rfl,fun g' h=>?_⟩
  simp only[blk,Option.some.injEq] at h
  subst h
  exact(Array.getElem?_eq_some_iff.1 hg).1
theorem Grow.keep (h:Grow w b q arr T z0 E okE wr v es) (hW:Below wr.heap.size wr W):Grow w b q arr T z0 E okE W v es:=by
 obtain⟨xs,h1,h2,h3⟩:=h.row
 have hb:=h.below
 refine⟨⟨hW.os.trans hb.os,hW.tape.trans hb.tape,hW.output.trans hb.output,Nat.le_trans hb.size hW.size,fun c hc hx=>(hW.block c (Nat.lt_of_lt_of_le hc hb.size)).trans (hb.block c hc hx)⟩,(hW.block b h.lt).trans h.hb,⟨xs,ownsRow_of_block h1 fun g hg=>hW.block g ((own_blk h1).2 g hg),h2,fun i d hd=>(h3 i d hd).mono fun c hc=>⟨hc,hW.block c (h.hE c hc).1⟩⟩,h.hv,fun c hc=>⟨Nat.lt_of_lt_of_le (h.hE c hc).1 hW.size,(h.hE c hc).2⟩,h.bw⟩
end
def okE0 (ok:Nat→Prop) (w:World) (b lo hi:Nat) (z0:Value) (c:Nat):Prop:=c<w.heap.size∧c≠b∧blk z0≠some c∧(ok c∨(lo≤c∧c<hi))
theorem set_self {arr:Array Value} {q:Nat} {v:Value} (h:arr[q]? =some v):arr.setIfInBounds q v=arr:=by
 apply Array.ext_getElem?
 intro t
 rw[Array.getElem?_setIfInBounds]
 split
 ·rename_i e;subst e
  have:=(Array.getElem?_eq_some_iff.1 h).1
  rw[if_pos this,h]
 ·rfl
section
variable {w w':World} {b o lo hi:Nat} {arr:Array Value} {T:TypeId} {ok okE':Nat→Prop} {k n:Int} {s:ByteArray} {l fs es:List Dt} {c3 c4 v:Value}
theorem PutC.blk4 (h:PutC w b o lo hi arr T (.agg [.int k,.int n,.str s,.lst l,.lst fs]) [.int .i64 k,.int .i64 n,.string s,c3,c4] ok):∀c,blk c4=some c→lo≤c∧c<hi:=by
 obtain⟨fv,ff,hT⟩:=tV
 obtain⟨_,_,_,_,_,_,_,a1,a2,a3,e1,e2,p1,p2,p3,p4,hl,hd,_⟩:=h.hrt.v_inv hT
 cases e1
 cases e2
 obtain⟨_,_,_,hbz,_,_⟩:=hd.owns hT.d
 intro c hc
 have:=hbz c hc
 omega
theorem PutC.grow4 (h:PutC w b o lo hi arr T (.agg [.int k,.int n,.str s,.lst l,.lst fs]) [.int .i64 k,.int .i64 n,.string s,c3,c4] ok):Grow w b (o+4) arr T c4 57 (okE0 ok w b lo hi c4) w c4 fs:=by
 obtain⟨fv,ff,hT⟩:=tV
 obtain⟨_,_,_,_,_,_,_,a1,a2,a3,e1,e2,p1,p2,p3,p4,hl,hd,_⟩:=h.hrt.v_inv hT
 cases e1
 cases e2
 obtain⟨xs,h1,h2,h3,h4,h5⟩:=hd.owns hT.d
 have hhi:=h.hhi
 have hbo:=h.hbo
 have hcell:arr[o+4]? =some c4:=h.hc 4 (by omega)
 refine⟨BelowX.refl _ _,by rw[set_self hcell];exact h.hb,⟨xs,h1,h2,h5 w _ fun j hj1 hj2 hj3=>⟨rfl,by omega,by omega,hj3,.inr (by omega)⟩⟩,fun g hg=>⟨?_,.inl hg⟩,fun c hc=>⟨hc.1,hc.2.1,hc.2.2.1⟩,h.lt⟩
 have:=h3 g hg
 omega
theorem PutC.grown4 (h:PutC w b o lo hi arr T (.agg [.int k,.int n,.str s,.lst l,.lst fs]) [.int .i64 k,.int .i64 n,.string s,c3,c4] ok) (hG:Grow w b (o+4) arr T c4 57 okE' w' v es) (hok':∀c,okE' c→OkP ok w w' b lo hi c):
  PutR w w' b o lo hi arr T ok (.agg [.int k,.int n,.str s,.lst l,.lst es]):=by
 obtain⟨fv,ff,hT⟩:=tV
 obtain⟨_,_,_,_,_,_,_,a1,a2,a3,e1,e2,p1,p2,p3,p4,hl,hd,hk,hn,hs⟩:=h.hrt.v_inv hT
 cases e1
 cases e2
 obtain⟨_,_,_,hbz,_,_⟩:=hd.owns hT.d
 obtain⟨xs,g1,g2,g3⟩:=hG.row
 have hhi:=h.hhi
 have hbo:=h.hbo
 have hho:=h.ho
 have hb:=hG.below
 have hsz:=hb.size
 have hrow:=row_rd (ok':=OkP ok w w' b lo hi) hT.d g1 g2 g3 hok' fun c hc=>by
  refine⟨(own_blk g1).2 c hc,(hG.hv c hc).1,fun hlt=> .inr ?_⟩
  rcases(hG.hv c hc).2 with h1|h1
  ·have:=hbz c h1;omega
  ·omega
 have hoth:=(hl.frame (w':=w') fun c h1 h2=>hb.block c (by omega) (by
  rintro(e|e)
  ·omega
  ·have:=hbz c e;omega)).toRD (ok:=OkP ok w w' b lo hi) fun c h1 h2=>⟨by omega,by omega,fun _=> .inr (by omega)⟩
 refine⟨⟨hb.os,hb.tape,hb.output,hb.size,fun c hc hx=>hb.block c hc ?_⟩,arr.setIfInBounds (o+4) v,[.int .i64 k,.int .i64 n,.string s,c3,v],hG.hb,by simp,fun t ht=>?_,rfl,fun j hj=>?_,RD.v_mk hT hoth hrow hk hn hs⟩
 ·rintro(e|e)
  ·exact hx (.inl e)
  ·exact hx (.inr (by have:=hbz c e;omega))
 ·rw[Array.getElem?_setIfInBounds,if_neg (by omega)]
 ·rw[Array.getElem?_setIfInBounds]
  by_cases hj3:j=4
  ·subst hj3
   rw[if_pos rfl,if_pos (by omega)];rfl
  ·rw[if_neg (by omega),h.hc j hj]
   rcases(show j=0∨j=1∨j=2∨j=3 by omega) with rfl|rfl|rfl|rfl<;>rfl
end
section
variable {w wr W w1 w3:World} {b q L:Nat} {arr:Array Value} {T:TypeId} {z0 v:Value} {E:TypeId} {okE okE':Nat→Prop} {es:List Dt}
end
end Go.Proofs.YtameompfdamfpaaGreatDoor
namespace Go.Proofs.YtameompfdamfpaaGreatDoor
open Go.RowKit Go.Am
theorem g3:aggT Tryz.prog 3=false:=by unfold aggT;rw[Tryz.underlying3]
theorem delete_call {okE:Nat→Prop} {w:World} {es:List Dt} {c4:Value} {xs:List Value} {i:Nat} (hi:i<es.length) (hown:w.ownsRow 0 57 (Tryz.prog.cellsOf 57) c4 es.length xs) (h1:∀c∈xs,c.oneCell'=true)
  (hrd:∀(j:Nat) (d:Dt),es[j]? =some d→RD Tryz.prog okE w 57 d ((xs.drop (j*Tryz.prog.cellsOf 57)).take (Tryz.prog.cellsOf 57))) (hok:∀c,okE c→c<w.heap.size∧blk c4≠some c) (ht:TabOK okE w) (hlen:es.length≤137438953472):
  Calls Tryz.prog 184 #[c4,.int .i64 i,.int .i64 ((i+1:Nat):Int)] w fun e w'=>∃v,e= .returned v∧BelowX (fun c=>blk c4=some c) w w'∧(∃ys,w'.ownsRow 0 57 (Tryz.prog.cellsOf 57) v (es.eraseIdx i).length ys∧(∀c∈ys,c.oneCell'=true)∧∀(j:Nat) (d:Dt),(es.eraseIdx i)[j]? =some d→RD Tryz.prog (fun c=>c<w'.heap.size∧(c<w.heap.size→okE c∨blk c4=some c)∧blk v≠some c) w' 57 d ((ys.drop (j*Tryz.prog.cellsOf 57)).take (Tryz.prog.cellsOf 57)))∧
   ∀g,blk v=some g→blk c4=some g∨w.heap.size≤g:=by
 obtain⟨β,hβ⟩:∃β:Nat→Option Value,β=fun l=>if l=0 then some c4 else none:=⟨_,rfl⟩
 have hb0:β 0=some c4:=by rw[hβ];rfl
 have hbn:∀l,l≠0→β l=none:=fun l hl=>by rw[hβ];simp[hl]
 have hone:c4.oneCell'=true:=by
  rcases hown.2 with⟨rfl,_⟩| ⟨g,cap,cur,rfl,_⟩<;>rfl
 have hO:∀l b,owns [Ob.row 31 es] β l b→l=0∧blk c4=some b:=by
  rintro l b ⟨h1,z,h2,h3⟩
  cases l with
  |zero=>rw[hb0] at h2;cases h2;exact⟨rfl,h3⟩
  |succ l=>cases l<;>cases h1
 have hX:∀b,XO [Ob.row 31 es] β b↔blk c4=some b:=fun b=>⟨fun⟨l,hl⟩=>(hO l b hl).2,fun h=>⟨0,rfl,_,hb0,h⟩⟩
 have hfx:=delete_fx es i (i+1) (by omega) (by omega) okE w β [c4,.int .i64 i,.int .i64 ((i+1:Nat):Int)] (fun b hb=>⟨(hok b hb).1,fun h=>(hok b hb).2 ((hX b).1 h)⟩) (fun l=>by
   cases l with
   |zero=>exact⟨57,c4,xs,hb0,Tryz.underlying31,hown,h1,hrd⟩
   |succ l=>cases l<;>exact hbn _ (by omega)) (fun l l' b h1 h2=>(hO l b h1).1.trans (hO l' b h2).1.symm)
  (.cons (row_rv hb0 hone) (.cons (rv_dat1 g3 (.int Tryz.underlying3 (i64_len (by unfold maxLen;omega)).1 (i64_len (by unfold maxLen;omega)).2)) (.cons (rv_dat1 g3 (.int Tryz.underlying3 (i64_len (m:=i+1) (by unfold maxLen;omega)).1 (i64_len (m:=i+1) (by unfold maxLen;omega)).2)) .nil))) ht
 refine hfx.mono ?_
 rintro e w' ⟨v,β',rfl,hF,hr⟩
 have hv:β' 1=some v:=row_eval hr
 have hob:=hF.obs 1
 rw[hv] at hob
 obtain⟨E,ys,hu,hown',h1',hrd'⟩:=ob_row (T:=31) hob
 have hE:E=57:=by
  have:=hu.symm.trans (Tryz.underlying31)
  simpa using this
 subst hE
 have hO1:∀b,blk v=some b→owns [Ob.gone,.row 31 (es.take i++es.drop (i+1))] β' 1 b:=fun b hb=>⟨rfl,v,hv,hb⟩
 have her:es.eraseIdx i=es.take i++es.drop (i+1):=List.eraseIdx_eq_take_drop_succ es i
 refine⟨v,rfl,⟨hF.below.os,hF.below.tape,hF.below.output,hF.below.size,fun c hc hx=>hF.below.block c hc fun h=>hx ((hX c).1 h)⟩,⟨ys,by rw[her];exact hown',h1',fun j d hd=>?_⟩,fun g hg=>?_⟩
 ·rw[her] at hd
  refine(hrd' j d hd).mono fun c hc=>⟨⟨hc.1,fun hlt=>?_,fun h=>hc.2.2 1 (hO1 c h)⟩,rfl⟩
  rcases hc.2.1 hlt with h|h
  ·exact .inl h
  ·exact .inr ((hX c).1 h)
 ·rcases hF.own 1 g (hO1 g hg) with h|h
  ·exact .inr h
  ·exact .inl ((hX g).1 h)
set_option maxHeartbeats 4000000 in
set_option maxRecDepth 1000000 in
theorem drop_del (s0:ByteArray) (kd nd:Int) (sd:ByteArray) (ld fd:List Dt) (hk5:kd=5) (i:Nat) (hi:fldI fd s0=(i:Int)) (hif:i<fd.length) {w:World} {b o lo hi':Nat} {arr:Array Value} {T:TypeId} {cs:List Value} {ok:Nat→Prop} {z:Value}
  (hC:PutC w b o lo hi' arr T (.agg [.int kd,.int nd,.str sd,.lst ld,.lst fd]) cs ok) (ht:TabOK ok w) (hp:RD Tryz.prog ok w 22 (.lst [.str s0]) [z]):
  Calls Tryz.prog 143 #[.pointer (some ⟨b,o,none⟩),z] w fun e w'=>e= .returned (.tuple #[])∧PutR w w' b o lo hi' arr T ok (.agg [.int kd,.int nd,.str sd,.lst ld,.lst (fd.eraseIdx i)]):=by
 obtain⟨fv,ff,hT⟩:=tV
 obtain⟨bp,op,cap,_,e,rfl,hbp,hcap,hcm,hpc,hs0,htail⟩:=path_parts hp
 cases e
 obtain⟨_,_,_,_,_,d3,d4,_,_,_,e1,rfl,_⟩:=hC.hrt.v_inv hT
 cases e1
 subst hk5
 have hd4:∃A1 c1,d4= .slice A1 fd.length c1:=by
  obtain⟨_,_,_,_,_,_,_,m1,m2,m3,e1,e2,n1,n2,n3,n4,_,hd4,_⟩:=hC.hrt.v_inv hT
  cases e1
  cases e2
  obtain⟨es,e,⟨_,e3⟩| ⟨b',arr',m,e3,_⟩⟩:=hd4.l_inv hT.d
  ·cases e
   exact⟨_,_,by rename_i h0;subst h0;simpa using e3⟩
  ·cases e
   exact⟨_,_,by simpa using e3⟩
 obtain⟨A1,c1,hde⟩:=hd4
 have hbpw:bp<w.heap.size:=(hC.hok _ hbp).1
 have facts:∀W:World,Below w.heap.size w W→W.cell? ⟨b,o+4,none⟩=some (.slice A1 fd.length c1)∧W.cell? ⟨bp,op,none⟩=some (.string s0):=fun W q=>⟨by rw[←hde];exact(hC.keep q).cell (j:=4) (by omega) rfl,(q.cell (p:=⟨bp,op,none⟩) hbpw).trans hpc⟩
 have hfc:∀W:World,Below w.heap.size w W→Calls Tryz.prog 138 #[.slice A1 fd.length c1,.string s0] W fun e w'=>e= .returned (.int .i64 (i:Int))∧Hid (Below w.heap.size w w')∧w'.cell? ⟨b,o+4,none⟩=some (.slice A1 fd.length c1)∧w'.cell? ⟨bp,op,none⟩=some (.string s0):=fun W q=>by
  have hK:=hC.keep q
  obtain⟨_,_,_,_,_,_,_,m1,m2,m3,e1,e2,n1,n2,n3,n4,_,hd4,_⟩:=hK.hrt.v_inv hT
  cases e1
  cases e2
  have hd5:=hd4.toRD (ok:=fun c=>ok c∨(lo≤c∧c<hi')) fun c _ _=> .inr (by omega)
  rw[hde] at hd5
  have hbk:=hC.hbk
  have hlf:=len_bulk fd
  simp only[Dt.bulk,Dt.bulkL] at hbk
  have h:=field_call (ok:=fun c=>ok c∨(lo≤c∧c<hi')) (s:=s0) (fun c hc=>by
   rcases hc with hc|hc
   ·exact(hK.hok c hc).1
   ·have:=hK.hhi;omega) (ht.mono fun c hc=>⟨.inl hc,q.block c (hC.hok c hc).1⟩) hd5 (by omega) hs0
  refine h.mono ?_
  rintro e w' ⟨rfl,hb⟩
  have hb':=below_via q hb q.size
  exact⟨by rw[hi],hb',facts w' hb'⟩
 have e0:w.cell? ⟨b,o,none⟩=some (.int .i64 5):=hC.cell (j:=0) (by omega) rfl
 have e4:w.cell? ⟨b,o+4,none⟩=some (.slice A1 fd.length c1):=by rw[←hde];exact hC.cell (j:=4) (by omega) rfl
 have hdel:∀w1 W:World,Below w.heap.size w w1→Below w1.heap.size w1 W→Calls Tryz.prog 184 #[.slice A1 fd.length c1,.int .i64 (i:Int),.int .i64 ((i:Int)+1)] W fun e w2=>∃x y z,e= .returned (.slice x y z)∧w2.cell? ⟨b,o+4,none⟩=some (.slice A1 fd.length c1)∧(∀t,w2.frozen? ⟨b,t,none⟩=false)∧
   Hid (∀w':World,w'=w2.setCell ⟨b,o+4,none⟩ (.slice x y z)→PutR w w' b o lo hi' arr T ok (.agg [.int 5,.int nd,.str sd,.lst ld,.lst (fd.eraseIdx i)])):=fun w1 W q1 q2=>by
  have q:=below_via q1 q2 q1.size
  have hK:=hC.keep q
  have hbk:=hC.hbk
  have hlf:=len_bulk fd
  simp only[Dt.bulk,Dt.bulkL] at hbk
  have hG:=hK.grow4
  obtain⟨xs,g1,g2,g3'⟩:=hG.row
  have hEe:=hG.hE
  have hE0:∀c,ok c→okE0 ok W b lo hi' d4 c:=fun c hc=>⟨(hK.hok c hc).1,(hK.hok c hc).2.1,fun e=>by have:=hK.blk4 c e;have:=(hK.hok c hc).2.2;omega,.inl hc⟩
  have h:=delete_call hif g1 g2 g3' (fun c hc=>⟨hc.1,hc.2.2.1⟩) (ht.mono fun c hc=>⟨hE0 c hc,q.block c (hC.hok c hc).1⟩) (by omega)
  rw[hde] at h
  rw[show ((i+1:Nat):Int)=(i:Int)+1 by omega] at h
  refine h.mono ?_
  rintro e w2 ⟨v,rfl,hb2,⟨ys,r1,r2,r3⟩,hv⟩
  have hbb:=hK.lt
  have hnb:blk (.slice A1 fd.length c1)≠some b:=fun e=>by
   have:=hK.blk4 b (by rw[hde];exact e)
   have:=hK.hbo
   omega
  have hB:w2.heap[b]? =some (.cells arr T (0,0)):=(hb2.block b hbb hnb).trans hK.hb
  have hcell:arr[o+4]? =some (.slice A1 fd.length c1):=by rw[←hde];exact hK.hc 4 (by omega)
  have hob:=own_blk r1
  have hgb:∀g,blk v=some g→g≠b:=fun g hg e=>by
   subst e
   rcases hv g hg with h|h
   ·exact hnb h
   ·omega
  obtain⟨x,y,z,rfl⟩:∃x y z,v= .slice x y z:=by
   rcases r1.2 with⟨rfl,_⟩| ⟨g,cap,cur,rfl,_⟩
   ·exact⟨_,_,_,rfl⟩
   ·exact⟨_,_,_,rfl⟩
  refine⟨x,y,z,rfl,(cell_at hB).trans hcell,fun t=>froz_at hB,fun w' hw'=>?_⟩
  have hoth:∀c,c≠b→w'.heap[c]? =w2.heap[c]? :=fun c hc=>by rw[hw'];exact Below.heap_setCell _ _ _ _ hc
  have hsz:w'.heap.size=w2.heap.size:=by rw[hw'];exact World.size_setCell _ _ _
  have hs2:=hb2.size
  have hGr:Grow W b (o+4) arr T d4 57 (fun c=>c<w2.heap.size∧(c<W.heap.size→okE0 ok W b lo hi' (.slice A1 fd.length c1) c∨blk (.slice A1 fd.length c1)=some c)∧blk (.slice x y z)≠some c) w' (.slice x y z) (fd.eraseIdx i):=by
   refine⟨⟨by rw[hw'];exact hb2.os,by rw[hw'];exact hb2.tape,by rw[hw'];exact hb2.output,by omega,fun c hc hx=>(hoth c fun e=>hx (.inl e)).trans (hb2.block c hc fun e=>hx (.inr (by rw[hde];exact e)))⟩,?_,⟨ys,ownsRow_of_block r1 fun g hg=>hoth g (hgb g hg),r2,fun j d hd=>(r3 j d hd).mono fun c hc=>⟨hc,hoth c ?_⟩⟩,fun g hg=>⟨hgb g hg,by rw[hde];exact hv g hg⟩,fun c hc=>⟨by omega,?_,hc.2.2⟩,hbb⟩
   ·    rw[hw']
        simp[World.setCell,Array.getElem?_modify,hB]
   ·    intro e
        subst e
        rcases hc.2.1 hbb with h|h
        ·exact h.2.1 rfl
        ·exact hnb h
   ·    intro e
        subst e
        rcases hc.2.1 hbb with h|h
        ·exact h.2.1 rfl
        ·exact hnb h
  have hR:=hK.grown4 hGr fun c hc=>⟨by omega,(hGr.hE c hc).2.1,fun hlt=>by
   rcases hc.2.1 hlt with h|h
   ·exact h.2.2.2
   ·exact .inr (hK.blk4 c (by rw[hde];exact h))⟩
  exact hR.from q hC.lt hC.hhi
 have hcl0:(1:Int)≤(0:Int)+1:=by omega
 have hii:IntKind.i64.wrap ((i:Int)+1)=(i:Int)+1:=by
  have hbk:=hC.hbk
  have hlf:=len_bulk fd
  simp only[Dt.bulk,Dt.bulkL] at hbk
  exact p_wrap64 (by omega) (by omega)
 clear facts hC hp htail ht hi hde
 go_enter Tryz.func143,Tryz.ntmps143
 go_wp2
 go_region_held3 (fun W=>W.cell? ⟨b,o+4,none⟩=some (.slice A1 fd.length c1)∧W.cell? ⟨bp,op,none⟩=some (.string s0))
  (go_keep)
  (first|(go_at_call 138;refine(hfc _ ?_).mono ?_;exact below_drew _ _;rintro e w1 ⟨rfl,hX1,q1,q2⟩))
 go_wp2_with (go_at_call 184;refine(hdel w1 _ hX1.out ?_).mono ?_;exact Below.refl _ _;rintro e w2 ⟨x,y,z,rfl,r1,r2,hR⟩)
 go_end0
 exact⟨rfl,hR.out _ rfl⟩
theorem drop_ok:∀(p:Dt) (ps:List Dt),DropS (p::ps)
 |p,ps   =>by
  have ih:0<ps.length→DropS ps:=fun h=>by
   match ps,h with
   |q::qs,_=>exact drop_ok q qs
  intro d hfo w b o lo hi arr T cs ok z hC ht hp
  obtain⟨fv,ff,hT⟩:=tV
  obtain⟨_,_,_,s0,rfl,_⟩:=path_parts hp
  obtain⟨kd,nd,sd,ld,fd,d3,d4,a1,a2,a3,rfl,_,_,_,_,_,_⟩:=hC.hrt.v_inv hT
  have hbk:=hC.hbk
  have hlf:=len_bulk fd
  simp only[Dt.bulk,Dt.bulkL] at hbk
  have hI:Dt.I (Dt.agg [.int kd,.int nd,.str sd,.lst ld,.lst fd]) 0=kd:=rfl
  have hL3:Dt.L (Dt.agg [.int kd,.int nd,.str sd,.lst ld,.lst fd]) 3=ld:=rfl
  have hL4:Dt.L (Dt.agg [.int kd,.int nd,.str sd,.lst ld,.lst fd]) 4=fd:=rfl
  have hS:Dt.toStr (Dt.str s0)=s0:=rfl
  rw[fol,hI,hL3,hL4,hS] at hfo
  rw[dropD,hI,hL3,hL4,hS,mkV_eq,mkV_eq,mkV_eq,mkV_eq]
  by_cases h5:kd=5
  ·rw[   if_pos h5] at hfo ⊢
   rcases(fld_some fd s0 (by omega)).2 with h| ⟨i,h,hi⟩
   ·rw[h] at hfo;simp at hfo
   ·    rw[if_pos (show (0:Int)≤fldI fd s0 by omega),h,Int.toNat_natCast]
        rw[h,Int.toNat_natCast,Bool.and_eq_true] at hfo
        cases ps with
        |nil=>
         rw[if_pos (show (([]:List Dt).isEmpty=true) from rfl)]
         exact drop_del s0 kd nd sd ld fd h5 i h hi hC ht hp
        |cons q qs=>
         rw[if_neg (show ¬((q::qs).isEmpty=true) by simp)]
         exact drop_field s0 (q::qs) (ih (by simp)) (by simp) kd nd sd ld fd h5 i h hi hfo.2 hC ht hp
  ·rw[   if_neg h5] at hfo ⊢
   by_cases h6:kd=6
   ·    rw[if_pos h6,Bool.and_eq_true,Bool.and_eq_true] at hfo
        rw[if_pos h6]
        ·have hn:=hfo.1.1
         obtain⟨i,h1,h2⟩:=(num_some' s0).2 hn
         have hnum:numV s0=((i:Int),true):=by rw[←h1,←hn]
         rw[if_pos hn,h1,Int.toNat_natCast]
         rw[h1,Int.toNat_natCast,decide_eq_true_eq] at hfo
         by_cases hi:i<ld.length
         · rw[if_pos hi]
           cases ps with
           |nil=>
            rw[if_pos (show (([]:List Dt).isEmpty=true) from rfl)]
            exact drop_null s0 kd nd sd ld fd h6 i hnum hi hC ht hp
           |cons q qs=>
            rw[if_neg (show ¬((q::qs).isEmpty=true) by simp)]
            exact drop_elem s0 (q::qs) (ih (by simp)) (by simp) kd nd sd ld fd h6 i hnum hi hfo.2 hC ht hp
         ·exact absurd hfo.1.2 hi
   ·rw[if_neg h6] at hfo;cases hfo
end Go.Proofs.YtameompfdamfpaaGreatDoor
