/- path.put: the whole.
path.drop:its walk.
path.drop:a field is deleted;the whole.
path.Put and path.Drop as contracts.
path.Put as a contract.
path.Put:the walk where there is something to do.
path.Put as a contract:the way that puts.
path.Put as a contract. -/
import Derived.Test.YtmjnmiahblaanaaDoorOPut6
import Derived.Test.YtmjnmiahblaanaaDoorOA
import Derived.Test.YtmjnmiahblaanaaDoorOD
set_option linter.unusedVariables false
set_option linter.unusedSimpArgs false
namespace Go.Proofs.YtmjnmiahblaanaaDoor
open Go.RowKit Go.Am
theorem put_ok:∀ps:List Dt,PutS ps
 | []=>put_nil
 |p::ps    =>by
  have ih:=put_ok ps
  intro d w b o lo hi arr T cs ok x cx z hC ht hp hx
  obtain⟨fv,ff,hT⟩:=tV
  obtain⟨_,_,_,s0,rfl,_⟩:=path_parts hp
  obtain⟨kd,nd,sd,ld,fd,d3,d4,a1,a2,a3,rfl,_,_,_,_,_,_⟩:=hC.hrt.v_inv hT
  have hbk:=hC.hbk
  have hlf:=len_bulk fd
  simp only[Dt.bulk,Dt.bulkL] at hbk
  have hI:Dt.I (Dt.agg [.int kd,.int nd,.str sd,.lst ld,.lst fd]) 0=kd:=rfl
  have hL3:Dt.L (Dt.agg [.int kd,.int nd,.str sd,.lst ld,.lst fd]) 3=ld:=rfl
  have hL4:Dt.L (Dt.agg [.int kd,.int nd,.str sd,.lst ld,.lst fd]) 4=fd:=rfl
  have hS:Dt.toStr (Dt.str s0)=s0:=rfl
  rw[putD,hI,hL3,hL4,hS,mkV_eq,mkV_eq,mkV_eq,mkV_eq]
  by_cases h5:kd=5
  ·rw[if_pos h5]
   rcases(fld_some fd s0 (by omega)).2 with h| ⟨i,h,hi⟩
   ·    rw[if_neg (show ¬(0:Int)≤fldI fd s0 by omega)]
        exact put_addF s0 ps kd nd sd ld fd h5 h hC ht hp hx
   ·    rw[if_pos (show (0:Int)≤fldI fd s0 by omega),h,Int.toNat_natCast]
        exact put_field s0 ps ih kd nd sd ld fd h5 i h hi hC ht hp hx
  ·rw[   if_neg h5]
   by_cases h6:kd=6
   ·    rw[if_pos h6]
        by_cases hn:(numV s0).2=true
        ·obtain⟨i,h1,h2⟩:=(num_some' s0).2 hn
         have hnum:numV s0=((i:Int),true):=by rw[←h1,←hn]
         rw[if_pos hn,h1,Int.toNat_natCast]
         by_cases hi:i<ld.length
         · rw[if_pos hi]
           exact put_elem s0 ps ih kd nd sd ld fd h6 i hnum hi hC ht hp hx
         · rw[if_neg hi]
           exact put_addL s0 ps kd nd sd ld fd h6 i hnum h2 hi hC ht hp hx
        ·rw[if_neg hn]
         exact put_nonum s0 ps kd nd sd ld fd h6 (by simpa using hn) hC ht hp hx
   ·    rw[if_neg h6]
        exact put_kind s0 ps kd nd sd ld fd h5 h6 hC ht hp hx
end Go.Proofs.YtmjnmiahblaanaaDoor
namespace Go.Proofs.YtmjnmiahblaanaaDoor
open Go.RowKit Go.Am
def DropS (ps:List Dt):Prop:=∀(d:Dt) (w:World) (b o lo hi:Nat) (arr:Array Value) (T:TypeId) (cs:List Value) (ok:Nat→Prop) (z:Value),
 PutC w b o lo hi arr T d cs ok→TabOK ok w→RD Tryd.prog ok w 23 (.lst ps) [z]→
 Calls Tryd.prog 54 #[.pointer (some ⟨b,o,none⟩),z] w fun e w'=>e= .returned (.tuple #[])∧PutR w w' b o lo hi arr T ok (dropD ps d)
set_option maxHeartbeats 4000000 in
set_option maxRecDepth 1000000 in
theorem drop_kind (s0:ByteArray) (ps:List Dt) (kd nd:Int) (sd:ByteArray) (ld fd:List Dt) (h5:¬kd=5) (h6:¬kd=6) {w:World} {b o lo hi':Nat} {arr:Array Value} {T:TypeId} {cs:List Value} {ok:Nat→Prop} {z:Value}
  (hC:PutC w b o lo hi' arr T (.agg [.int kd,.int nd,.str sd,.lst ld,.lst fd]) cs ok) (hp:RD Tryd.prog ok w 23 (.lst (.str s0::ps)) [z]):
  Calls Tryd.prog 54 #[.pointer (some ⟨b,o,none⟩),z] w fun e w'=>e= .returned (.tuple #[])∧PutR w w' b o lo hi' arr T ok (.agg [.int kd,.int nd,.str sd,.lst ld,.lst fd]):=by
 obtain⟨fv,ff,hT⟩:=tV
 obtain⟨bp,op,cap,_,e,rfl,hbp,hcap,hcm,hpc,hs0,htail⟩:=path_parts hp
 cases e
 obtain⟨_,_,_,_,_,d3,d4,_,_,_,e1,rfl,_⟩:=hC.hrt.v_inv hT
 cases e1
 have e0:w.cell? ⟨b,o,none⟩=some (.int .i64 kd):=hC.cell (j:=0) (by omega) rfl
 have hCC:Hid (PutC w b o lo hi' arr T (.agg [.int kd,.int nd,.str sd,.lst ld,.lst fd]) [.int .i64 kd,.int .i64 nd,.string sd,d3,d4] ok):=hC
 clear hC hp htail
 go_enter Tryd.func54,Tryd.ntmps54
 go_wp2
 go_end0
 exact⟨rfl,hCC.out.same (Below.refl _ _)⟩
set_option maxHeartbeats 4000000 in
set_option maxRecDepth 1000000 in
theorem drop_field (s0:ByteArray) (ps:List Dt) (ih:DropS ps) (hps:0<ps.length) (kd nd:Int) (sd:ByteArray) (ld fd:List Dt) (hkd:kd=5) (i:Nat) (hi:fldI fd s0=(i:Int)) (hif:i<fd.length) {w:World} {b o lo hi':Nat} {arr:Array Value} {T:TypeId} {cs:List Value} {ok:Nat→Prop} {z:Value}
  (hC:PutC w b o lo hi' arr T (.agg [.int kd,.int nd,.str sd,.lst ld,.lst fd]) cs ok) (ht:TabOK ok w) (hp:RD Tryd.prog ok w 23 (.lst (.str s0::ps)) [z]):
  Calls Tryd.prog 54 #[.pointer (some ⟨b,o,none⟩),z] w fun e w'=>e= .returned (.tuple #[])∧PutR w w' b o lo hi' arr T ok (.agg [.int kd,.int nd,.str sd,.lst ld,.lst (fd.set i (.agg [.str (Dt.S (fd.getD i (.int 0)) 0),dropD ps (Dt.fld (fd.getD i (.int 0)) 1)]))]):=by
 obtain⟨fv,ff,hT⟩:=tV
 subst hkd
 obtain⟨bp,op,cap,_,e,rfl,hbp,hcap,hcm,hpc,hs0,htail⟩:=path_parts hp
 cases e
 obtain⟨A,hA⟩:∃A:Option Addr,(if cap=1 then some (⟨bp,op,none⟩:Addr) else some ⟨bp,op+1,none⟩)=A:=⟨_,rfl⟩
 have htl:=htail A hA
 obtain⟨_,_,_,_,_,d3,d4,_,_,_,e1,rfl,_⟩:=hC.hrt.v_inv hT
 cases e1
 obtain⟨B,a,a',brr,c0,rfl,⟨hB1,hB2,hB3,hB4⟩,hCc,hback⟩:=hC.field hif
 have hbpw:bp<w.heap.size:=(hC.hok _ hbp).1
 have facts:∀W:World,Below w.heap.size w W→W.cell? ⟨b,o+4,none⟩=some (.slice (some ⟨B,0,none⟩) fd.length fd.length)∧W.cell? ⟨bp,op,none⟩=some (.string s0):=fun W q=>⟨(hC.keep q).cell (j:=4) (by omega) rfl,(q.cell (p:=⟨bp,op,none⟩) hbpw).trans hpc⟩
 have hfc:∀W:World,Below w.heap.size w W→Calls Tryd.prog 51 #[.slice (some ⟨B,0,none⟩) fd.length fd.length,.string s0] W fun e w'=>e= .returned (.int .i64 (i:Int))∧Hid (Below w.heap.size w w')∧w'.cell? ⟨b,o+4,none⟩=some (.slice (some ⟨B,0,none⟩) fd.length fd.length)∧w'.cell? ⟨bp,op,none⟩=some (.string s0):=fun W q=>by
  have hK:=hC.keep q
  obtain⟨_,_,_,_,_,_,_,m1,m2,m3,e1,e2,n1,n2,n3,n4,_,hd4,_⟩:=hK.hrt.v_inv hT
  cases e1
  cases e2
  have hd5:=hd4.toRD (ok:=fun c=>ok c∨(lo≤c∧c<hi')) fun c _ _=> .inr (by omega)
  have hbk:=hC.hbk
  have hlf:=len_bulk fd
  simp only[Dt.bulk,Dt.bulkL] at hbk
  have h:=field_call (ok:=fun c=>ok c∨(lo≤c∧c<hi')) (s:=s0) (fun c hc=>by
   rcases hc with hc|hc
   ·exact(hK.hok c hc).1
   ·have:=hK.hhi;omega) (ht.mono fun c hc=>⟨.inl hc,q.block c (hC.hok c hc).1⟩) hd5 (by omega) hs0
  refine h.mono ?_
  rintro e w' ⟨rfl,hb⟩
  have hb':=below_via q hb q.size
  exact⟨by rw[hi],hb',facts w' hb'⟩
 have e0:w.cell? ⟨b,o,none⟩=some (.int .i64 5):=hC.cell (j:=0) (by omega) rfl
 have e4:w.cell? ⟨b,o+4,none⟩=some (.slice (some ⟨B,0,none⟩) fd.length fd.length):=hC.cell (j:=4) (by omega) rfl
 have hrec:∀w1 W:World,Below w.heap.size w w1→Below w1.heap.size w1 W→Calls Tryd.prog 54 #[.pointer (some ⟨B,i*6+1,none⟩),.slice A ps.length (cap-1)] W fun e w'=>e= .returned (.tuple #[])∧Hid (PutR w w' b o lo hi' arr T ok (.agg [.int 5,.int nd,.str sd,.lst ld,.lst (fd.set i (.agg [.str (Dt.S (fd.getD i (.int 0)) 0),dropD ps (Dt.fld (fd.getD i (.int 0)) 1)]))]))∧
   w'.cell? ⟨b,o+4,none⟩=some (.slice (some ⟨B,0,none⟩) fd.length fd.length):=fun w1 W h1 h2=>by
  have q:=below_via h1 h2 h1.size
  have hCW:=hCc.keep q
  have h:=ih _ W B (i*6+1) a a' brr 59 c0 ok (.slice A ps.length (cap-1)) hCW (ht.mono fun c hc=>⟨hc,q.block c (hC.hok c hc).1⟩) (htl.mono fun c hc=>⟨hc,q.block c (hC.hok c hc).1⟩)
  refine h.mono ?_
  rintro e w' ⟨rfl,hR⟩
  have hbB:=hCc.lt
  have hba:=hCc.hbo
  have hhi:=hCc.hhi
  have v1:w'.heap[b]? =W.heap[b]? :=by
   have hbb:=hC.lt
   have hbo:=hC.hbo
   exact hR.below.block b (Nat.lt_of_lt_of_le hbb q.size) (by omega)
  refine⟨rfl,hback W w' _ q hR,?_⟩
  rw[World.cell?_of_block (w:=W) v1]
  exact(facts W q).1
 generalize dropD ps (Dt.fld (fd.getD i (.int 0)) 1)=R at hrec ⊢
 have hfl:(i:Int)<(fd.length:Int):=by omega
 have hcl0:(1:Int)≤(ps.length:Int)+1:=by omega
 have hcl1:(1:Int)<(ps.length:Int)+1:=by omega
 clear facts hback hCc hC hp htail htl ht ih hi
 go_enter Tryd.func54,Tryd.ntmps54
 go_wp2
 go_region_held3 (fun W=>W.cell? ⟨b,o+4,none⟩=some (.slice (some ⟨B,0,none⟩) fd.length fd.length)∧W.cell? ⟨bp,op,none⟩=some (.string s0))
  (go_keep)
  (first|(go_at_call 51;refine(hfc _ ?_).mono ?_;exact below_drew _ _;rintro e w1 ⟨rfl,hX1,q1,q2⟩))
 go_wp2
 go_region_held3 (fun W=>W.cell? ⟨b,o+4,none⟩=some (.slice (some ⟨B,0,none⟩) fd.length fd.length))
  (go_keep)
  (first|(go_at_call 54;refine(hrec w1 _ hX1.out ?_).mono ?_;exact below_drew _ _;rintro e w2 ⟨rfl,hX2,r1⟩))
 go_wp2
 go_end0
 exact⟨rfl,hX2.out⟩
set_option maxHeartbeats 4000000 in
set_option maxRecDepth 1000000 in
theorem drop_elem (s0:ByteArray) (ps:List Dt) (ih:DropS ps) (hps:0<ps.length) (kd nd:Int) (sd:ByteArray) (ld fd:List Dt) (hkd:kd=6) (i:Nat) (hi:numV s0=((i:Int),true)) (hif:i<ld.length) {w:World} {b o lo hi':Nat} {arr:Array Value} {T:TypeId} {cs:List Value} {ok:Nat→Prop} {z:Value}
  (hC:PutC w b o lo hi' arr T (.agg [.int kd,.int nd,.str sd,.lst ld,.lst fd]) cs ok) (ht:TabOK ok w) (hp:RD Tryd.prog ok w 23 (.lst (.str s0::ps)) [z]):
  Calls Tryd.prog 54 #[.pointer (some ⟨b,o,none⟩),z] w fun e w'=>e= .returned (.tuple #[])∧PutR w w' b o lo hi' arr T ok (.agg [.int kd,.int nd,.str sd,.lst (ld.set i (dropD ps (ld.getD i (.int 0)))),.lst fd]):=by
 obtain⟨fv,ff,hT⟩:=tV
 subst hkd
 obtain⟨bp,op,cap,_,e,rfl,hbp,hcap,hcm,hpc,hs0,htail⟩:=path_parts hp
 cases e
 obtain⟨A,hA⟩:∃A:Option Addr,(if cap=1 then some (⟨bp,op,none⟩:Addr) else some ⟨bp,op+1,none⟩)=A:=⟨_,rfl⟩
 have htl:=htail A hA
 obtain⟨_,_,_,_,_,d3,d4,_,_,_,e1,rfl,_⟩:=hC.hrt.v_inv hT
 cases e1
 obtain⟨B,a,a',brr,c0,rfl,⟨hB1,hB2,hB3,hB4⟩,hCc,hback⟩:=hC.elem hif
 have hbpw:bp<w.heap.size:=(hC.hok _ hbp).1
 have facts:∀W:World,Below w.heap.size w W→W.cell? ⟨b,o+3,none⟩=some (.slice (some ⟨B,0,none⟩) ld.length ld.length)∧W.cell? ⟨bp,op,none⟩=some (.string s0):=fun W q=>⟨(hC.keep q).cell (j:=3) (by omega) rfl,(q.cell (p:=⟨bp,op,none⟩) hbpw).trans hpc⟩
 have hfc:∀W:World,Below w.heap.size w W→Calls Tryd.prog 20 #[.string s0] W fun e w'=>e= .returned (.tuple #[.int .i64 (i:Int),.bool true])∧Hid (Below w.heap.size w w')∧w'.cell? ⟨b,o+3,none⟩=some (.slice (some ⟨B,0,none⟩) ld.length ld.length)∧w'.cell? ⟨bp,op,none⟩=some (.string s0):=fun W q=>by
  have h:=number_call (ok:=ok) (w:=W) (s:=s0) (fun c hc=>Nat.lt_of_lt_of_le (hC.hok c hc).1 q.size) (ht.mono fun c hc=>⟨hc,q.block c (hC.hok c hc).1⟩) hs0
  refine h.mono ?_
  rintro e w' ⟨rfl,hb⟩
  have hb':=below_via q hb q.size
  exact⟨by rw[hi],hb',facts w' hb'⟩
 have e0:w.cell? ⟨b,o,none⟩=some (.int .i64 6):=hC.cell (j:=0) (by omega) rfl
 have e4:w.cell? ⟨b,o+3,none⟩=some (.slice (some ⟨B,0,none⟩) ld.length ld.length):=hC.cell (j:=3) (by omega) rfl
 have hrec:∀w1 W:World,Below w.heap.size w w1→Below w1.heap.size w1 W→Calls Tryd.prog 54 #[.pointer (some ⟨B,i*5,none⟩),.slice A ps.length (cap-1)] W fun e w'=>e= .returned (.tuple #[])∧Hid (PutR w w' b o lo hi' arr T ok (.agg [.int 6,.int nd,.str sd,.lst (ld.set i (dropD ps (ld.getD i (.int 0)))),.lst fd]))∧
   w'.cell? ⟨b,o+3,none⟩=some (.slice (some ⟨B,0,none⟩) ld.length ld.length):=fun w1 W h1 h2=>by
  have q:=below_via h1 h2 h1.size
  have hCW:=hCc.keep q
  have h:=ih _ W B (i*5) a a' brr 36 c0 ok (.slice A ps.length (cap-1)) hCW (ht.mono fun c hc=>⟨hc,q.block c (hC.hok c hc).1⟩) (htl.mono fun c hc=>⟨hc,q.block c (hC.hok c hc).1⟩)
  refine h.mono ?_
  rintro e w' ⟨rfl,hR⟩
  have hbB:=hCc.lt
  have hba:=hCc.hbo
  have hhi:=hCc.hhi
  have v1:w'.heap[b]? =W.heap[b]? :=by
   have hbb:=hC.lt
   have hbo:=hC.hbo
   exact hR.below.block b (Nat.lt_of_lt_of_le hbb q.size) (by omega)
  refine⟨rfl,hback W w' _ q hR,?_⟩
  rw[World.cell?_of_block (w:=W) v1]
  exact(facts W q).1
 generalize dropD ps (ld.getD i (.int 0))=R at hrec ⊢
 have hfl:(i:Int)<(ld.length:Int):=by omega
 have hfl2:¬(ld.length:Int)≤(i:Int):=by omega
 have hcl0:(1:Int)≤(ps.length:Int)+1:=by omega
 have hcl1:(1:Int)<(ps.length:Int)+1:=by omega
 clear facts hback hCc hC hp htail htl ht ih hi
 go_enter Tryd.func54,Tryd.ntmps54
 go_wp2_with (go_at_call 20;refine(hfc _ ?_).mono ?_;exact Below.refl _ _;rintro e w1 ⟨rfl,hX1,q1,q2⟩)
 go_region_held3 (fun W=>W.cell? ⟨b,o+3,none⟩=some (.slice (some ⟨B,0,none⟩) ld.length ld.length))
  (go_keep)
  (first|(go_at_call 54;refine(hrec w1 _ hX1.out ?_).mono ?_;exact below_drew _ _;rintro e w2 ⟨rfl,hX2,r1⟩))
 go_wp2
 go_end0
 exact⟨rfl,hX2.out⟩
set_option maxHeartbeats 4000000 in
set_option maxRecDepth 1000000 in
theorem drop_nofield (s0:ByteArray) (ps:List Dt) (kd nd:Int) (sd:ByteArray) (ld fd:List Dt) (hk5:kd=5) (hi:fldI fd s0= -1) {w:World} {b o lo hi':Nat} {arr:Array Value} {T:TypeId} {cs:List Value} {ok:Nat→Prop} {z:Value}
  (hC:PutC w b o lo hi' arr T (.agg [.int kd,.int nd,.str sd,.lst ld,.lst fd]) cs ok) (ht:TabOK ok w) (hp:RD Tryd.prog ok w 23 (.lst (.str s0::ps)) [z]):
  Calls Tryd.prog 54 #[.pointer (some ⟨b,o,none⟩),z] w fun e w'=>e= .returned (.tuple #[])∧PutR w w' b o lo hi' arr T ok (.agg [.int kd,.int nd,.str sd,.lst ld,.lst fd]):=by
 obtain⟨fv,ff,hT⟩:=tV
 obtain⟨bp,op,cap,_,e,rfl,hbp,hcap,hcm,hpc,hs0,htail⟩:=path_parts hp
 cases e
 obtain⟨_,_,_,_,_,d3,d4,_,_,_,e1,rfl,_⟩:=hC.hrt.v_inv hT
 cases e1
 subst hk5
 have hd4:∃A1 c1,d4= .slice A1 fd.length c1:=by
  obtain⟨_,_,_,_,_,_,_,m1,m2,m3,e1,e2,n1,n2,n3,n4,_,hd4,_⟩:=hC.hrt.v_inv hT
  cases e1
  cases e2
  obtain⟨es,e,⟨_,e3⟩| ⟨b',arr',m,e3,_⟩⟩:=hd4.l_inv hT.d
  ·cases e
   exact⟨_,_,by rename_i h0;subst h0;simpa using e3⟩
  ·cases e
   exact⟨_,_,by simpa using e3⟩
 obtain⟨A1,c1,hde⟩:=hd4
 have hbpw:bp<w.heap.size:=(hC.hok _ hbp).1
 have facts:∀W:World,Below w.heap.size w W→W.cell? ⟨b,o+4,none⟩=some (.slice A1 fd.length c1)∧W.cell? ⟨bp,op,none⟩=some (.string s0):=fun W q=>⟨by rw[←hde];exact(hC.keep q).cell (j:=4) (by omega) rfl,(q.cell (p:=⟨bp,op,none⟩) hbpw).trans hpc⟩
 have hfc:∀W:World,Below w.heap.size w W→Calls Tryd.prog 51 #[.slice A1 fd.length c1,.string s0] W fun e w'=>e= .returned (.int .i64 (-1))∧Hid (Below w.heap.size w w')∧w'.cell? ⟨b,o+4,none⟩=some (.slice A1 fd.length c1)∧w'.cell? ⟨bp,op,none⟩=some (.string s0):=fun W q=>by
  have hK:=hC.keep q
  obtain⟨_,_,_,_,_,_,_,m1,m2,m3,e1,e2,n1,n2,n3,n4,_,hd4,_⟩:=hK.hrt.v_inv hT
  cases e1
  cases e2
  have hd5:=hd4.toRD (ok:=fun c=>ok c∨(lo≤c∧c<hi')) fun c _ _=> .inr (by omega)
  rw[hde] at hd5
  have hbk:=hC.hbk
  have hlf:=len_bulk fd
  simp only[Dt.bulk,Dt.bulkL] at hbk
  have h:=field_call (ok:=fun c=>ok c∨(lo≤c∧c<hi')) (s:=s0) (fun c hc=>by
   rcases hc with hc|hc
   ·exact(hK.hok c hc).1
   ·have:=hK.hhi;omega) (ht.mono fun c hc=>⟨.inl hc,q.block c (hC.hok c hc).1⟩) hd5 (by omega) hs0
  refine h.mono ?_
  rintro e w' ⟨rfl,hb⟩
  have hb':=below_via q hb q.size
  exact⟨by rw[hi],hb',facts w' hb'⟩
 have e0:w.cell? ⟨b,o,none⟩=some (.int .i64 5):=hC.cell (j:=0) (by omega) rfl
 have e4:w.cell? ⟨b,o+4,none⟩=some (.slice A1 fd.length c1):=by rw[←hde];exact hC.cell (j:=4) (by omega) rfl
 have hCC:Hid (PutC w b o lo hi' arr T (.agg [.int 5,.int nd,.str sd,.lst ld,.lst fd]) [.int .i64 5,.int .i64 nd,.string sd,d3,d4] ok):=hC
 have hcl0:(1:Int)≤(ps.length:Int)+1:=by omega
 clear facts hC hp htail ht hi hde
 go_enter Tryd.func54,Tryd.ntmps54
 go_wp2
 go_region_held3 (fun W=>W.cell? ⟨b,o+4,none⟩=some (.slice A1 fd.length c1)∧W.cell? ⟨bp,op,none⟩=some (.string s0))
  (go_keep)
  (first|(go_at_call 51;refine(hfc _ ?_).mono ?_;exact below_drew _ _;rintro e w1 ⟨rfl,hX1,q1,q2⟩))
 go_wp2
 go_end0
 exact⟨rfl,hCC.out.same hX1.out⟩
set_option maxHeartbeats 4000000 in
set_option maxRecDepth 1000000 in
theorem drop_null (s0:ByteArray) (kd nd:Int) (sd:ByteArray) (ld fd:List Dt) (hkd:kd=6) (i:Nat) (hi:numV s0=((i:Int),true)) (hif:i<ld.length) {w:World} {b o lo hi':Nat} {arr:Array Value} {T:TypeId} {cs:List Value} {ok:Nat→Prop} {z:Value}
  (hC:PutC w b o lo hi' arr T (.agg [.int kd,.int nd,.str sd,.lst ld,.lst fd]) cs ok) (ht:TabOK ok w) (hp:RD Tryd.prog ok w 23 (.lst [.str s0]) [z]):
  Calls Tryd.prog 54 #[.pointer (some ⟨b,o,none⟩),z] w fun e w'=>e= .returned (.tuple #[])∧PutR w w' b o lo hi' arr T ok (.agg [.int kd,.int nd,.str sd,.lst (ld.set i (nullD)),.lst fd]):=by
 obtain⟨fv,ff,hT⟩:=tV
 subst hkd
 obtain⟨bp,op,cap,_,e,rfl,hbp,hcap,hcm,hpc,hs0,htail⟩:=path_parts hp
 cases e
 obtain⟨_,_,_,_,_,d3,d4,_,_,_,e1,rfl,_⟩:=hC.hrt.v_inv hT
 cases e1
 obtain⟨B,a,a',brr,c0,rfl,⟨hB1,hB2,hB3,hB4⟩,hCc,hback⟩:=hC.elem hif
 have hbpw:bp<w.heap.size:=(hC.hok _ hbp).1
 have facts:∀W:World,Below w.heap.size w W→W.cell? ⟨b,o+3,none⟩=some (.slice (some ⟨B,0,none⟩) ld.length ld.length)∧W.cell? ⟨bp,op,none⟩=some (.string s0):=fun W q=>⟨(hC.keep q).cell (j:=3) (by omega) rfl,(q.cell (p:=⟨bp,op,none⟩) hbpw).trans hpc⟩
 have hfc:∀W:World,Below w.heap.size w W→Calls Tryd.prog 20 #[.string s0] W fun e w'=>e= .returned (.tuple #[.int .i64 (i:Int),.bool true])∧Hid (Below w.heap.size w w')∧w'.cell? ⟨b,o+3,none⟩=some (.slice (some ⟨B,0,none⟩) ld.length ld.length)∧w'.cell? ⟨bp,op,none⟩=some (.string s0):=fun W q=>by
  have h:=number_call (ok:=ok) (w:=W) (s:=s0) (fun c hc=>Nat.lt_of_lt_of_le (hC.hok c hc).1 q.size) (ht.mono fun c hc=>⟨hc,q.block c (hC.hok c hc).1⟩) hs0
  refine h.mono ?_
  rintro e w' ⟨rfl,hb⟩
  have hb':=below_via q hb q.size
  exact⟨by rw[hi],hb',facts w' hb'⟩
 have e0:w.cell? ⟨b,o,none⟩=some (.int .i64 6):=hC.cell (j:=0) (by omega) rfl
 have e4:w.cell? ⟨b,o+3,none⟩=some (.slice (some ⟨B,0,none⟩) ld.length ld.length):=hC.cell (j:=3) (by omega) rfl
 obtain⟨ke,ne,se,le,fe,y3,y4,_,_,_,hye,rfl,_⟩:=hCc.hrt.v_inv hT
 have hst:∀w1:World,Below w.heap.size w w1→w1.cell? ⟨B,i*5,none⟩=some (.int .i64 ke)∧w1.cell? ⟨B,i*5+1,none⟩=some (.int .i64 ne)∧w1.cell? ⟨B,i*5+2,none⟩=some (.string se)∧w1.cell? ⟨B,i*5+3,none⟩=some y3∧w1.cell? ⟨B,i*5+4,none⟩=some y4∧∀t,w1.frozen? ⟨B,t,none⟩=false:=fun w1 q=>
  ⟨(hCc.keep q).cell (j:=0) (by omega) rfl,(hCc.keep q).cell (j:=1) (by omega) rfl,(hCc.keep q).cell (j:=2) (by omega) rfl,(hCc.keep q).cell (j:=3) (by omega) rfl,(hCc.keep q).cell (j:=4) (by omega) rfl,fun t=>(hCc.keep q).froz t⟩
 have hend:∀w1 w':World,Below w.heap.size w w1→w'=((((w1.setCell ⟨B,i*5,none⟩ (.int .i64 2)).setCell ⟨B,i*5+1,none⟩ (.int .i64 0)).setCell ⟨B,i*5+2,none⟩ (.string ⟨#[]⟩)).setCell ⟨B,i*5+3,none⟩ (.slice none 0 0)).setCell ⟨B,i*5+4,none⟩ (.slice none 0 0)→PutR w w' b o lo hi' arr T ok (.agg [.int 6,.int nd,.str sd,.lst (ld.set i nullD),.lst fd]):=fun w1 w' q h=>
  hback w w' nullD (Below.refl _ _) (hCc.repl q (RD.v_mk hT (RD.nil hT.l) (RD.nil hT.d) (by decide) (by decide) (by decide)) rfl h)
 have hfl:(i:Int)<(ld.length:Int):=by omega
 have hfl2:¬(ld.length:Int)≤(i:Int):=by omega
 have hS:Hid (∀w1:World,Below w.heap.size w w1→w1.cell? ⟨B,i*5,none⟩=some (.int .i64 ke)∧w1.cell? ⟨B,i*5+1,none⟩=some (.int .i64 ne)∧w1.cell? ⟨B,i*5+2,none⟩=some (.string se)∧w1.cell? ⟨B,i*5+3,none⟩=some y3∧w1.cell? ⟨B,i*5+4,none⟩=some y4∧∀t,w1.frozen? ⟨B,t,none⟩=false):=hst
 clear facts hback hCc hC hp htail ht hi hst hye
 go_enter Tryd.func54,Tryd.ntmps54
 go_wp2_with (go_at_call 20;refine(hfc _ ?_).mono ?_;exact Below.refl _ _;rintro e w1 ⟨rfl,hX1,q1,q2⟩;obtain⟨r0,r1,r2,r3,r4,r5⟩:=hS.out w1 hX1.out)
 go_end0
 exact⟨rfl,hend w1 _ hX1.out rfl⟩
set_option maxHeartbeats 4000000 in
set_option maxRecDepth 1000000 in
theorem drop_nonum (s0:ByteArray) (ps:List Dt) (kd nd:Int) (sd:ByteArray) (ld fd:List Dt) (hk6:kd=6) (hi:(numV s0).2=false) {w:World} {b o lo hi':Nat} {arr:Array Value} {T:TypeId} {cs:List Value} {ok:Nat→Prop} {z:Value}
  (hC:PutC w b o lo hi' arr T (.agg [.int kd,.int nd,.str sd,.lst ld,.lst fd]) cs ok) (ht:TabOK ok w) (hp:RD Tryd.prog ok w 23 (.lst (.str s0::ps)) [z]):
  Calls Tryd.prog 54 #[.pointer (some ⟨b,o,none⟩),z] w fun e w'=>e= .returned (.tuple #[])∧PutR w w' b o lo hi' arr T ok (.agg [.int kd,.int nd,.str sd,.lst ld,.lst fd]):=by
 obtain⟨fv,ff,hT⟩:=tV
 obtain⟨bp,op,cap,_,e,rfl,hbp,hcap,hcm,hpc,hs0,htail⟩:=path_parts hp
 cases e
 obtain⟨_,_,_,_,_,d3,d4,_,_,_,e1,rfl,_⟩:=hC.hrt.v_inv hT
 cases e1
 subst hk6
 have e0:w.cell? ⟨b,o,none⟩=some (.int .i64 6):=hC.cell (j:=0) (by omega) rfl
 have hbpw:bp<w.heap.size:=(hC.hok _ hbp).1
 have hfc:∀W:World,Below w.heap.size w W→Calls Tryd.prog 20 #[.string s0] W fun e w'=>e= .returned (.tuple #[.int .i64 (numV s0).1,.bool false])∧Hid (Below w.heap.size w w'):=fun W q=>by
  have h:=number_call (ok:=ok) (w:=W) (s:=s0) (fun c hc=>Nat.lt_of_lt_of_le (hC.hok c hc).1 q.size) (ht.mono fun c hc=>⟨hc,q.block c (hC.hok c hc).1⟩) hs0
  refine h.mono ?_
  rintro e w' ⟨rfl,hb⟩
  have hb':=below_via q hb q.size
  exact⟨by rw[hi],hb'⟩
 have hCC:Hid (PutC w b o lo hi' arr T (.agg [.int 6,.int nd,.str sd,.lst ld,.lst fd]) [.int .i64 6,.int .i64 nd,.string sd,d3,d4] ok):=hC
 have hcl0:(1:Int)≤(ps.length:Int)+1:=by omega
 clear hC hp htail ht hi
 go_enter Tryd.func54,Tryd.ntmps54
 go_wp2_with (go_at_call 20;refine(hfc _ ?_).mono ?_;exact Below.refl _ _;rintro e w1 ⟨rfl,hX1⟩)
 refine bodyPost_ret (results_none rfl _ _ _) rfl ?_
 exact⟨rfl,hCC.out.same hX1.out⟩
set_option maxHeartbeats 4000000 in
set_option maxRecDepth 1000000 in
theorem drop_big (s0:ByteArray) (ps:List Dt) (kd nd:Int) (sd:ByteArray) (ld fd:List Dt) (hk6:kd=6) (i:Nat) (hi:numV s0=((i:Int),true)) (hif:¬i<ld.length) {w:World} {b o lo hi':Nat} {arr:Array Value} {T:TypeId} {cs:List Value} {ok:Nat→Prop} {z:Value}
  (hC:PutC w b o lo hi' arr T (.agg [.int kd,.int nd,.str sd,.lst ld,.lst fd]) cs ok) (ht:TabOK ok w) (hp:RD Tryd.prog ok w 23 (.lst (.str s0::ps)) [z]):
  Calls Tryd.prog 54 #[.pointer (some ⟨b,o,none⟩),z] w fun e w'=>e= .returned (.tuple #[])∧PutR w w' b o lo hi' arr T ok (.agg [.int kd,.int nd,.str sd,.lst ld,.lst fd]):=by
 obtain⟨fv,ff,hT⟩:=tV
 obtain⟨bp,op,cap,_,e,rfl,hbp,hcap,hcm,hpc,hs0,htail⟩:=path_parts hp
 cases e
 obtain⟨_,_,_,_,_,d3,d4,_,_,_,e1,rfl,_⟩:=hC.hrt.v_inv hT
 cases e1
 subst hk6
 have e0:w.cell? ⟨b,o,none⟩=some (.int .i64 6):=hC.cell (j:=0) (by omega) rfl
 have hbpw:bp<w.heap.size:=(hC.hok _ hbp).1
 have hd3:∃A1 c1,d3= .slice A1 ld.length c1:=by
  obtain⟨_,_,_,_,_,_,_,m1,m2,m3,e1,e2,n1,n2,n3,n4,hd3,_,_⟩:=hC.hrt.v_inv hT
  cases e1
  cases e2
  obtain⟨es,e,⟨h0,e3⟩| ⟨b',arr',m,e3,_⟩⟩:=hd3.l_inv hT.l
  ·cases e
   exact⟨_,_,by subst h0;simpa using e3⟩
  ·cases e
   exact⟨_,_,by simpa using e3⟩
 obtain⟨A1,c1,hde⟩:=hd3
 have hil:(ld.length:Int)≤(i:Int):=by omega
 have hfc:∀W:World,Below w.heap.size w W→Calls Tryd.prog 20 #[.string s0] W fun e w'=>e= .returned (.tuple #[.int .i64 (i:Int),.bool true])∧Hid (Below w.heap.size w w')∧w'.cell? ⟨b,o+3,none⟩=some (.slice A1 ld.length c1):=fun W q=>by
  have h:=number_call (ok:=ok) (w:=W) (s:=s0) (fun c hc=>Nat.lt_of_lt_of_le (hC.hok c hc).1 q.size) (ht.mono fun c hc=>⟨hc,q.block c (hC.hok c hc).1⟩) hs0
  refine h.mono ?_
  rintro e w' ⟨rfl,hb⟩
  have hb':=below_via q hb q.size
  exact⟨by rw[hi],hb',by rw[←hde];exact(hC.keep hb').cell (j:=3) (by omega) rfl⟩
 have hCC:Hid (PutC w b o lo hi' arr T (.agg [.int 6,.int nd,.str sd,.lst ld,.lst fd]) [.int .i64 6,.int .i64 nd,.string sd,d3,d4] ok):=hC
 have hcl0:(1:Int)≤(ps.length:Int)+1:=by omega
 clear hC hp htail ht hi
 go_enter Tryd.func54,Tryd.ntmps54
 go_wp2_with (go_at_call 20;refine(hfc _ ?_).mono ?_;exact Below.refl _ _;rintro e w1 ⟨rfl,hX1,q1⟩)
 refine bodyPost_ret (results_none rfl _ _ _) rfl ?_
 exact⟨rfl,hCC.out.same hX1.out⟩
end Go.Proofs.YtmjnmiahblaanaaDoor
namespace Go.Proofs.YtmjnmiahblaanaaDoor
open Go.RowKit Go.Am
theorem g3:aggT Tryd.prog 3=false:=by unfold aggT;rw[Tryd.underlying3]
theorem delete_call {okE:Nat→Prop} {w:World} {es:List Dt} {c4:Value} {xs:List Value} {i:Nat} (hi:i<es.length) (hown:w.ownsRow 0 59 (Tryd.prog.cellsOf 59) c4 es.length xs) (h1:∀c∈xs,c.oneCell'=true)
  (hrd:∀(j:Nat) (d:Dt),es[j]? =some d→RD Tryd.prog okE w 59 d ((xs.drop (j*Tryd.prog.cellsOf 59)).take (Tryd.prog.cellsOf 59))) (hok:∀c,okE c→c<w.heap.size∧blk c4≠some c) (ht:TabOK okE w) (hlen:es.length≤137438953472):
  Calls Tryd.prog 73 #[c4,.int .i64 i,.int .i64 ((i+1:Nat):Int)] w fun e w'=>∃v,e= .returned v∧BelowX (fun c=>blk c4=some c) w w'∧(∃ys,w'.ownsRow 0 59 (Tryd.prog.cellsOf 59) v (es.eraseIdx i).length ys∧(∀c∈ys,c.oneCell'=true)∧∀(j:Nat) (d:Dt),(es.eraseIdx i)[j]? =some d→RD Tryd.prog (fun c=>c<w'.heap.size∧(c<w.heap.size→okE c∨blk c4=some c)∧blk v≠some c) w' 59 d ((ys.drop (j*Tryd.prog.cellsOf 59)).take (Tryd.prog.cellsOf 59)))∧
   ∀g,blk v=some g→blk c4=some g∨w.heap.size≤g:=by
 obtain⟨β,hβ⟩:∃β:Nat→Option Value,β=fun l=>if l=0 then some c4 else none:=⟨_,rfl⟩
 have hb0:β 0=some c4:=by rw[hβ];rfl
 have hbn:∀l,l≠0→β l=none:=fun l hl=>by rw[hβ];simp[hl]
 have hone:c4.oneCell'=true:=by
  rcases hown.2 with⟨rfl,_⟩| ⟨g,cap,cur,rfl,_⟩<;>rfl
 have hO:∀l b,owns [Ob.row 34 es] β l b→l=0∧blk c4=some b:=by
  rintro l b ⟨h1,z,h2,h3⟩
  cases l with
  |zero=>rw[hb0] at h2;cases h2;exact⟨rfl,h3⟩
  |succ l=>cases l<;>cases h1
 have hX:∀b,XO [Ob.row 34 es] β b↔blk c4=some b:=fun b=>⟨fun⟨l,hl⟩=>(hO l b hl).2,fun h=>⟨0,rfl,_,hb0,h⟩⟩
 have hfx:=delete_fx es i (i+1) (by omega) (by omega) okE w β [c4,.int .i64 i,.int .i64 ((i+1:Nat):Int)] (fun b hb=>⟨(hok b hb).1,fun h=>(hok b hb).2 ((hX b).1 h)⟩) (fun l=>by
   cases l with
   |zero=>exact⟨59,c4,xs,hb0,Tryd.underlying34,hown,h1,hrd⟩
   |succ l=>cases l<;>exact hbn _ (by omega)) (fun l l' b h1 h2=>(hO l b h1).1.trans (hO l' b h2).1.symm)
  (.cons (row_rv hb0 hone) (.cons (rv_dat1 g3 (.int Tryd.underlying3 (i64_len (by unfold maxLen;omega)).1 (i64_len (by unfold maxLen;omega)).2)) (.cons (rv_dat1 g3 (.int Tryd.underlying3 (i64_len (m:=i+1) (by unfold maxLen;omega)).1 (i64_len (m:=i+1) (by unfold maxLen;omega)).2)) .nil))) ht
 refine hfx.mono ?_
 rintro e w' ⟨v,β',rfl,hF,hr⟩
 have hv:β' 1=some v:=row_eval hr
 have hob:=hF.obs 1
 rw[hv] at hob
 obtain⟨E,ys,hu,hown',h1',hrd'⟩:=ob_row (T:=34) hob
 have hE:E=59:=by
  have:=hu.symm.trans (Tryd.underlying34)
  simpa using this
 subst hE
 have hO1:∀b,blk v=some b→owns [Ob.gone,.row 34 (es.take i++es.drop (i+1))] β' 1 b:=fun b hb=>⟨rfl,v,hv,hb⟩
 have her:es.eraseIdx i=es.take i++es.drop (i+1):=List.eraseIdx_eq_take_drop_succ es i
 refine⟨v,rfl,⟨hF.below.os,hF.below.tape,hF.below.output,hF.below.size,fun c hc hx=>hF.below.block c hc fun h=>hx ((hX c).1 h)⟩,⟨ys,by rw[her];exact hown',h1',fun j d hd=>?_⟩,fun g hg=>?_⟩
 ·rw[her] at hd
  refine(hrd' j d hd).mono fun c hc=>⟨⟨hc.1,fun hlt=>?_,fun h=>hc.2.2 1 (hO1 c h)⟩,rfl⟩
  rcases hc.2.1 hlt with h|h
  ·exact .inl h
  ·exact .inr ((hX c).1 h)
 ·rcases hF.own 1 g (hO1 g hg) with h|h
  ·exact .inr h
  ·exact .inl ((hX g).1 h)
set_option maxHeartbeats 4000000 in
set_option maxRecDepth 1000000 in
theorem drop_del (s0:ByteArray) (kd nd:Int) (sd:ByteArray) (ld fd:List Dt) (hk5:kd=5) (i:Nat) (hi:fldI fd s0=(i:Int)) (hif:i<fd.length) {w:World} {b o lo hi':Nat} {arr:Array Value} {T:TypeId} {cs:List Value} {ok:Nat→Prop} {z:Value}
  (hC:PutC w b o lo hi' arr T (.agg [.int kd,.int nd,.str sd,.lst ld,.lst fd]) cs ok) (ht:TabOK ok w) (hp:RD Tryd.prog ok w 23 (.lst [.str s0]) [z]):
  Calls Tryd.prog 54 #[.pointer (some ⟨b,o,none⟩),z] w fun e w'=>e= .returned (.tuple #[])∧PutR w w' b o lo hi' arr T ok (.agg [.int kd,.int nd,.str sd,.lst ld,.lst (fd.eraseIdx i)]):=by
 obtain⟨fv,ff,hT⟩:=tV
 obtain⟨bp,op,cap,_,e,rfl,hbp,hcap,hcm,hpc,hs0,htail⟩:=path_parts hp
 cases e
 obtain⟨_,_,_,_,_,d3,d4,_,_,_,e1,rfl,_⟩:=hC.hrt.v_inv hT
 cases e1
 subst hk5
 have hd4:∃A1 c1,d4= .slice A1 fd.length c1:=by
  obtain⟨_,_,_,_,_,_,_,m1,m2,m3,e1,e2,n1,n2,n3,n4,_,hd4,_⟩:=hC.hrt.v_inv hT
  cases e1
  cases e2
  obtain⟨es,e,⟨_,e3⟩| ⟨b',arr',m,e3,_⟩⟩:=hd4.l_inv hT.d
  ·cases e
   exact⟨_,_,by rename_i h0;subst h0;simpa using e3⟩
  ·cases e
   exact⟨_,_,by simpa using e3⟩
 obtain⟨A1,c1,hde⟩:=hd4
 have hbpw:bp<w.heap.size:=(hC.hok _ hbp).1
 have facts:∀W:World,Below w.heap.size w W→W.cell? ⟨b,o+4,none⟩=some (.slice A1 fd.length c1)∧W.cell? ⟨bp,op,none⟩=some (.string s0):=fun W q=>⟨by rw[←hde];exact(hC.keep q).cell (j:=4) (by omega) rfl,(q.cell (p:=⟨bp,op,none⟩) hbpw).trans hpc⟩
 have hfc:∀W:World,Below w.heap.size w W→Calls Tryd.prog 51 #[.slice A1 fd.length c1,.string s0] W fun e w'=>e= .returned (.int .i64 (i:Int))∧Hid (Below w.heap.size w w')∧w'.cell? ⟨b,o+4,none⟩=some (.slice A1 fd.length c1)∧w'.cell? ⟨bp,op,none⟩=some (.string s0):=fun W q=>by
  have hK:=hC.keep q
  obtain⟨_,_,_,_,_,_,_,m1,m2,m3,e1,e2,n1,n2,n3,n4,_,hd4,_⟩:=hK.hrt.v_inv hT
  cases e1
  cases e2
  have hd5:=hd4.toRD (ok:=fun c=>ok c∨(lo≤c∧c<hi')) fun c _ _=> .inr (by omega)
  rw[hde] at hd5
  have hbk:=hC.hbk
  have hlf:=len_bulk fd
  simp only[Dt.bulk,Dt.bulkL] at hbk
  have h:=field_call (ok:=fun c=>ok c∨(lo≤c∧c<hi')) (s:=s0) (fun c hc=>by
   rcases hc with hc|hc
   ·exact(hK.hok c hc).1
   ·have:=hK.hhi;omega) (ht.mono fun c hc=>⟨.inl hc,q.block c (hC.hok c hc).1⟩) hd5 (by omega) hs0
  refine h.mono ?_
  rintro e w' ⟨rfl,hb⟩
  have hb':=below_via q hb q.size
  exact⟨by rw[hi],hb',facts w' hb'⟩
 have e0:w.cell? ⟨b,o,none⟩=some (.int .i64 5):=hC.cell (j:=0) (by omega) rfl
 have e4:w.cell? ⟨b,o+4,none⟩=some (.slice A1 fd.length c1):=by rw[←hde];exact hC.cell (j:=4) (by omega) rfl
 have hdel:∀w1 W:World,Below w.heap.size w w1→Below w1.heap.size w1 W→Calls Tryd.prog 73 #[.slice A1 fd.length c1,.int .i64 (i:Int),.int .i64 ((i:Int)+1)] W fun e w2=>∃x y z,e= .returned (.slice x y z)∧w2.cell? ⟨b,o+4,none⟩=some (.slice A1 fd.length c1)∧(∀t,w2.frozen? ⟨b,t,none⟩=false)∧
   Hid (∀w':World,w'=w2.setCell ⟨b,o+4,none⟩ (.slice x y z)→PutR w w' b o lo hi' arr T ok (.agg [.int 5,.int nd,.str sd,.lst ld,.lst (fd.eraseIdx i)])):=fun w1 W q1 q2=>by
  have q:=below_via q1 q2 q1.size
  have hK:=hC.keep q
  have hbk:=hC.hbk
  have hlf:=len_bulk fd
  simp only[Dt.bulk,Dt.bulkL] at hbk
  have hG:=hK.grow4
  obtain⟨xs,g1,g2,g3'⟩:=hG.row
  have hEe:=hG.hE
  have hE0:∀c,ok c→okE0 ok W b lo hi' d4 c:=fun c hc=>⟨(hK.hok c hc).1,(hK.hok c hc).2.1,fun e=>by have:=hK.blk4 c e;have:=(hK.hok c hc).2.2;omega,.inl hc⟩
  have h:=delete_call hif g1 g2 g3' (fun c hc=>⟨hc.1,hc.2.2.1⟩) (ht.mono fun c hc=>⟨hE0 c hc,q.block c (hC.hok c hc).1⟩) (by omega)
  rw[hde] at h
  rw[show ((i+1:Nat):Int)=(i:Int)+1 by omega] at h
  refine h.mono ?_
  rintro e w2 ⟨v,rfl,hb2,⟨ys,r1,r2,r3⟩,hv⟩
  have hbb:=hK.lt
  have hnb:blk (.slice A1 fd.length c1)≠some b:=fun e=>by
   have:=hK.blk4 b (by rw[hde];exact e)
   have:=hK.hbo
   omega
  have hB:w2.heap[b]? =some (.cells arr T (0,0)):=(hb2.block b hbb hnb).trans hK.hb
  have hcell:arr[o+4]? =some (.slice A1 fd.length c1):=by rw[←hde];exact hK.hc 4 (by omega)
  have hob:=own_blk r1
  have hgb:∀g,blk v=some g→g≠b:=fun g hg e=>by
   subst e
   rcases hv g hg with h|h
   ·exact hnb h
   ·omega
  obtain⟨x,y,z,rfl⟩:∃x y z,v= .slice x y z:=by
   rcases r1.2 with⟨rfl,_⟩| ⟨g,cap,cur,rfl,_⟩
   ·exact⟨_,_,_,rfl⟩
   ·exact⟨_,_,_,rfl⟩
  refine⟨x,y,z,rfl,(cell_at hB).trans hcell,fun t=>froz_at hB,fun w' hw'=>?_⟩
  have hoth:∀c,c≠b→w'.heap[c]? =w2.heap[c]? :=fun c hc=>by rw[hw'];exact Below.heap_setCell _ _ _ _ hc
  have hsz:w'.heap.size=w2.heap.size:=by rw[hw'];exact World.size_setCell _ _ _
  have hs2:=hb2.size
  have hGr:Grow W b (o+4) arr T d4 59 (fun c=>c<w2.heap.size∧(c<W.heap.size→okE0 ok W b lo hi' (.slice A1 fd.length c1) c∨blk (.slice A1 fd.length c1)=some c)∧blk (.slice x y z)≠some c) w' (.slice x y z) (fd.eraseIdx i):=by
   refine⟨⟨by rw[hw'];exact hb2.os,by rw[hw'];exact hb2.tape,by rw[hw'];exact hb2.output,by omega,fun c hc hx=>(hoth c fun e=>hx (.inl e)).trans (hb2.block c hc fun e=>hx (.inr (by rw[hde];exact e)))⟩,?_,⟨ys,ownsRow_of_block r1 fun g hg=>hoth g (hgb g hg),r2,fun j d hd=>(r3 j d hd).mono fun c hc=>⟨hc,hoth c ?_⟩⟩,fun g hg=>⟨hgb g hg,by rw[hde];exact hv g hg⟩,fun c hc=>⟨by omega,?_,hc.2.2⟩,hbb⟩
   ·    rw[hw']
        simp[World.setCell,Array.getElem?_modify,hB]
   ·    intro e
        subst e
        rcases hc.2.1 hbb with h|h
        ·exact h.2.1 rfl
        ·exact hnb h
   ·    intro e
        subst e
        rcases hc.2.1 hbb with h|h
        ·exact h.2.1 rfl
        ·exact hnb h
  have hR:=hK.grown4 hGr fun c hc=>⟨by omega,(hGr.hE c hc).2.1,fun hlt=>by
   rcases hc.2.1 hlt with h|h
   ·exact h.2.2.2
   ·exact .inr (hK.blk4 c (by rw[hde];exact h))⟩
  exact hR.from q hC.lt hC.hhi
 have hcl0:(1:Int)≤(0:Int)+1:=by omega
 have hii:IntKind.i64.wrap ((i:Int)+1)=(i:Int)+1:=by
  have hbk:=hC.hbk
  have hlf:=len_bulk fd
  simp only[Dt.bulk,Dt.bulkL] at hbk
  exact p_wrap64 (by omega) (by omega)
 clear facts hC hp htail ht hi hde
 go_enter Tryd.func54,Tryd.ntmps54
 go_wp2
 go_region_held3 (fun W=>W.cell? ⟨b,o+4,none⟩=some (.slice A1 fd.length c1)∧W.cell? ⟨bp,op,none⟩=some (.string s0))
  (go_keep)
  (first|(go_at_call 51;refine(hfc _ ?_).mono ?_;exact below_drew _ _;rintro e w1 ⟨rfl,hX1,q1,q2⟩))
 go_wp2_with (go_at_call 73;refine(hdel w1 _ hX1.out ?_).mono ?_;exact Below.refl _ _;rintro e w2 ⟨x,y,z,rfl,r1,r2,hR⟩)
 go_end0
 exact⟨rfl,hR.out _ rfl⟩
theorem drop_ok:∀(p:Dt) (ps:List Dt),DropS (p::ps)
 |p,ps   =>by
  have ih:0<ps.length→DropS ps:=fun h=>by
   match ps,h with
   |q::qs,_=>exact drop_ok q qs
  intro d w b o lo hi arr T cs ok z hC ht hp
  obtain⟨fv,ff,hT⟩:=tV
  obtain⟨_,_,_,s0,rfl,_⟩:=path_parts hp
  obtain⟨kd,nd,sd,ld,fd,d3,d4,a1,a2,a3,rfl,_,_,_,_,_,_⟩:=hC.hrt.v_inv hT
  have hbk:=hC.hbk
  have hlf:=len_bulk fd
  simp only[Dt.bulk,Dt.bulkL] at hbk
  have hI:Dt.I (Dt.agg [.int kd,.int nd,.str sd,.lst ld,.lst fd]) 0=kd:=rfl
  have hL3:Dt.L (Dt.agg [.int kd,.int nd,.str sd,.lst ld,.lst fd]) 3=ld:=rfl
  have hL4:Dt.L (Dt.agg [.int kd,.int nd,.str sd,.lst ld,.lst fd]) 4=fd:=rfl
  have hS:Dt.toStr (Dt.str s0)=s0:=rfl
  rw[dropD,hI,hL3,hL4,hS,mkV_eq,mkV_eq,mkV_eq,mkV_eq]
  by_cases h5:kd=5
  ·rw[   if_pos h5]
   rcases(fld_some fd s0 (by omega)).2 with h| ⟨i,h,hi⟩
   ·    rw[if_neg (show ¬(0:Int)≤fldI fd s0 by omega)]
        exact drop_nofield s0 ps kd nd sd ld fd h5 h hC ht hp
   ·    rw[if_pos (show (0:Int)≤fldI fd s0 by omega),h,Int.toNat_natCast]
        cases ps with
        |nil=>
         rw[if_pos (show (([]:List Dt).isEmpty=true) from rfl)]
         exact drop_del s0 kd nd sd ld fd h5 i h hi hC ht hp
        |cons q qs=>
         rw[if_neg (show ¬((q::qs).isEmpty=true) by simp)]
         exact drop_field s0 (q::qs) (ih (by simp)) (by simp) kd nd sd ld fd h5 i h hi hC ht hp
  ·rw[   if_neg h5]
   by_cases h6:kd=6
   ·    rw[if_pos h6]
        by_cases hn:(numV s0).2=true
        ·obtain⟨i,h1,h2⟩:=(num_some' s0).2 hn
         have hnum:numV s0=((i:Int),true):=by rw[←h1,←hn]
         rw[if_pos hn,h1,Int.toNat_natCast]
         by_cases hi:i<ld.length
         · rw[if_pos hi]
           cases ps with
           |nil=>
            rw[if_pos (show (([]:List Dt).isEmpty=true) from rfl)]
            exact drop_null s0 kd nd sd ld fd h6 i hnum hi hC ht hp
           |cons q qs=>
            rw[if_neg (show ¬((q::qs).isEmpty=true) by simp)]
            exact drop_elem s0 (q::qs) (ih (by simp)) (by simp) kd nd sd ld fd h6 i hnum hi hC ht hp
         · rw[if_neg hi]
           exact drop_big s0 ps kd nd sd ld fd h6 i hnum hi hC ht hp
        ·rw[if_neg hn]
         exact drop_nonum s0 ps kd nd sd ld fd h6 (by simpa using hn) hC ht hp
   ·    rw[if_neg h6]
        exact drop_kind s0 ps kd nd sd ld fd h5 h6 hC hp
end Go.Proofs.YtmjnmiahblaanaaDoor
namespace Go.Proofs.YtmjnmiahblaanaaDoor
open Go.RowKit Go.Am
theorem fx_nil3 {P:Program} {f:FuncId} {args:List AV} {res:AV} (h:∀(ok:Nat→Prop) (w:World) (β:Nat→Option Value) (vs:List Value),(∀b,ok b→b<w.heap.size)→RVsX P ok w β args vs→TabOK ok w→
  Calls P f vs.toArray w fun e w'=>∃v,e= .returned v∧Below w.heap.size w w'∧RV P (fun b=>b<w'.heap.size∧(b<w.heap.size→ok b)) w' β res v):FX P f args [] res []:=by
 intro ok w β vs hok hobs hsep hvs htab
 have no:∀(β:Nat→Option Value) l b,¬owns [] β l b:=fun β l b h=>by obtain⟨h1,_⟩:=h;cases l<;>cases h1
 refine(h ok w β vs (fun b hb=>(hok b hb).1) hvs htab).mono ?_
 rintro e w' ⟨v,rfl,hb,hr⟩
 refine⟨v,β,rfl,⟨⟨hb.os,hb.tape,hb.output,hb.size,fun b h1 _=>hb.block b h1⟩,fun l=>?_,fun l l' b h1=>(no _ _ _ h1).elim,fun l b h1=>(no _ _ _ h1).elim,fun l _=>rfl⟩,hr.mono (fun b h1=>⟨⟨h1.1,fun h2=> .inl (h1.2 h2),fun l=>no _ _ _⟩,rfl⟩) (Ext.refl _)⟩
 have:=hobs l
 exact(show β l=none from this)
noncomputable def path_DropC (v:Dt) (p:List Dt):Option Dt:=if v.bulk≤137438900000 then some (if p.isEmpty then v else dropD p v) else none
def zeroD:Dt:= .agg [.int 0,.int 0,.str ⟨#[]⟩,.lst [],.lst []]
theorem zero_rd (ok:Nat→Prop) (w:World):RD Tryd.prog ok w 36 zeroD [.int .i64 0,.int .i64 0,.string ⟨#[]⟩,.slice none 0 0,.slice none 0 0]:=by
 obtain⟨fv,ff,hT⟩:=tV
 exact RD.v_mk hT (RD.nil hT.l) (RD.nil hT.d) (by decide) (by decide) (by decide)
theorem clone_call {d:Dt} {ok:Nat→Prop} {w:World} {cs:List Value} (hb:d.bulk≤137438900000) (hrd:RD Tryd.prog ok w 36 d cs) (hok:∀b,ok b→b<w.heap.size):
  Calls Tryd.prog 52 #[.agg cs.toArray] w fun e w'=>∃k n s x3 y3 z3 x4 y4 z4,e= .returned (.agg #[.int .i64 k,.int .i64 n,.string s,.slice x3 y3 z3,.slice x4 y4 z4])∧Below w.heap.size w w'∧RT Tryd.prog w' w.heap.size w'.heap.size 36 d [.int .i64 k,.int .i64 n,.string s,.slice x3 y3 z3,.slice x4 y4 z4]:=by
 obtain⟨fv,ff,hT⟩:=tV
 refine(clone_ok _ d ok w cs hb (by omega) hrd hok).mono ?_
 rintro e w' ⟨cs',rfl,hb',hrt⟩
 obtain⟨k,n,s,l,fs,c3,c4,a,b,c,e1,rfl,_,_,_,_,hl1,hf1,_⟩:=hrt.v_inv hT
 obtain⟨x3,y3,z3,rfl⟩:=RT.isSlice hT.l hl1
 obtain⟨x4,y4,z4,rfl⟩:=RT.isSlice hT.d hf1
 exact⟨k,n,s,_,_,_,_,_,_,rfl,hb',hrt⟩
theorem rd_cells5 {ok:Nat→Prop} {w:World} {d:Dt} {cs:List Value} (h:RD Tryd.prog ok w 36 d cs):∃k n s x3 y3 z3 x4 y4 z4,cs=[.int .i64 k,.int .i64 n,.string s,.slice x3 y3 z3,.slice x4 y4 z4]:=by
 obtain⟨fv,ff,hT⟩:=tV
 obtain⟨k,n,s,l,fs,c3,c4,e1,rfl,hl,hd,_⟩:=h.v_inv hT
 obtain⟨a3,p3,_,_,rfl,_⟩:=hl.elems hT.l (by rw[hT.cv];omega)
 obtain⟨a4,p4,_,_,rfl,_⟩:=hd.elems hT.d (by rw[hT.cf];omega)
 exact⟨k,n,s,_,_,_,_,_,_,rfl⟩
set_option maxHeartbeats 4000000 in
set_option maxRecDepth 1000000 in
theorem Drop_walk {ok:Nat→Prop} {w:World} {v:Dt} {cv:List Value} {ps:List Dt} {z:Value} (hbv:v.bulk≤137438900000) (hok:∀b,ok b→b<w.heap.size) (ht:TabOK ok w) (hv:RD Tryd.prog ok w 36 v cv) (hp:RD Tryd.prog ok w 23 (.lst ps) [z]):
  Calls Tryd.prog 26 #[.agg cv.toArray,z] w fun e w'=>∃cs:List Value,e= .returned (.agg cs.toArray)∧Below w.heap.size w w'∧RD Tryd.prog (fun b=>b<w'.heap.size∧(b<w.heap.size→ok b)) w' 36 (if ps.isEmpty then v else dropD ps v) cs:=by
 obtain⟨fv,ff,hT⟩:=tV
 obtain⟨k,n,s,x3,y3,z3,x4,y4,z4,rfl⟩:=rd_cells5 hv
 obtain⟨ap,cp,_,_,rfl,hpx⟩:=hp.elems Tryd.underlying23 (by rw[show Tryd.prog.cellsOf 9=1 by kernel_rfl];omega)
 clear hpx
 obtain⟨W1,hW1⟩:∃W1,W1=(w.alloc (.cells #[.int .i64 k,.int .i64 n,.string s,.slice x3 y3 z3,.slice x4 y4 z4] 36)).alloc (.cells #[.int .i64 0,.int .i64 0,.string ⟨#[]⟩,.slice none 0 0,.slice none 0 0] 36):=⟨_,rfl⟩
 have hz0:W1.heap[w.heap.size+1]? =some (.cells zV 36 (0,0)):=by rw[hW1];exact alloc_eq (by rw[alloc_size])
 have hs1:W1.heap.size=w.heap.size+2:=by rw[hW1,alloc_size,alloc_size]
 have hb1:Below w.heap.size w W1:=by rw[hW1];exact below_via (below_alloc' w _) (below_alloc' _ _) (by rw[alloc_size];omega)
 have hzc:∀W:World,W.heap[w.heap.size+1]? =some (.cells zV 36 (0,0))→W.cell? ⟨w.heap.size+1,0,none⟩=some (.int .i64 0)∧W.cell? ⟨w.heap.size+1,1,none⟩=some (.int .i64 0)∧W.cell? ⟨w.heap.size+1,2,none⟩=some (.string ⟨#[]⟩)∧W.cell? ⟨w.heap.size+1,3,none⟩=some (.slice none 0 0)∧W.cell? ⟨w.heap.size+1,4,none⟩=some (.slice none 0 0)∧(∀t,W.frozen? ⟨w.heap.size+1,t,none⟩=false):=fun W h=>⟨cell_at h,cell_at h,cell_at h,cell_at h,cell_at h,fun t=>froz_at h⟩
 have hcl:Calls Tryd.prog 52 #[.agg #[.int .i64 k,.int .i64 n,.string s,.slice x3 y3 z3,.slice x4 y4 z4]] W1 fun e w'=>∃k n s x3 y3 z3 x4 y4 z4,e= .returned (.agg #[.int .i64 k,.int .i64 n,.string s,.slice x3 y3 z3,.slice x4 y4 z4])∧Hid (Below W1.heap.size W1 w'∧RT Tryd.prog w' W1.heap.size w'.heap.size 36 v [.int .i64 k,.int .i64 n,.string s,.slice x3 y3 z3,.slice x4 y4 z4])∧w.heap.size+1<w'.heap.size∧w'.cell? ⟨w.heap.size+1,0,none⟩=some (.int .i64 0)∧w'.cell? ⟨w.heap.size+1,1,none⟩=some (.int .i64 0)∧w'.cell? ⟨w.heap.size+1,2,none⟩=some (.string ⟨#[]⟩)∧w'.cell? ⟨w.heap.size+1,3,none⟩=some (.slice none 0 0)∧w'.cell? ⟨w.heap.size+1,4,none⟩=some (.slice none 0 0)∧(∀t,w'.frozen? ⟨w.heap.size+1,t,none⟩=false):=by
  refine(clone_call (ok:=ok) hbv (hv.mono fun b hb=>⟨hb,hb1.block b (hok b hb)⟩) (fun b hb=>Nat.lt_of_lt_of_le (hok b hb) hb1.size)).mono ?_
  rintro e w' ⟨k,n,s,x3,y3,z3,x4,y4,z4,rfl,h1,h2⟩
  have:=h1.size
  exact⟨_,_,_,_,_,_,_,_,_,rfl,⟨h1,h2⟩,by omega,hzc _ ((h1.block _ (by omega)).trans hz0)⟩
 have hend:∀(W1 w1:World) (d:Dt) (cs:List Value) (ob:Obj) (w3 w':World),Below w.heap.size w W1→W1.heap.size=w.heap.size+2→Below W1.heap.size W1 w1→BelowX (fun c=>c=w1.heap.size∨(W1.heap.size≤c∧c<w1.heap.size)) (w1.alloc ob) w3→RD Tryd.prog (fun c=>c<w3.heap.size∧(c<w1.heap.size→ok c∨(W1.heap.size≤c∧c<w1.heap.size))) w3 36 d cs→w'=w3.setCells (w.heap.size+1) 0 cs→Below w.heap.size w w'∧RD Tryd.prog (fun b=>b<w'.heap.size∧(b<w.heap.size→ok b)) w' 36 d cs:=by
  intro W1 w1 d cs ob w3 w' h1 h2 h3 h4 h5 h6
  obtain⟨z1,z2,z3,z4⟩:=scells_rest (w.heap.size+1) cs 0 w3
  have s1:=h3.size
  have s2:=h4.size
  rw[alloc_size] at s2
  have ho:∀c,c≠w.heap.size+1→w'.heap[c]? =w3.heap[c]? :=fun c hc=>by rw[h6];exact scells_other _ _ _ _ hc
  refine⟨⟨by rw[h6,z1,h4.os];exact h3.os.trans h1.os,by rw[h6,z2,h4.tape];exact h3.tape.trans h1.tape,by rw[h6,z3,h4.output];exact h3.output.trans h1.output,by rw[h6,z4];omega,fun c hc=>?_⟩,h5.mono fun c hc=>⟨⟨by rw[h6,z4];exact hc.1,fun hlt=>?_⟩,ho c ?_⟩⟩
  ·rw[ho c (by omega),h4.block c (by rw[alloc_size];omega) (by omega),alloc_old (by omega),h3.block c (by omega),h1.block c hc]
  ·rcases hc.2 (by omega) with h|h
   ·exact h
   ·omega
  ·intro e
   rcases hc.2 (by omega) with h|h
   ·have:=hok c h;omega
   ·omega
 cases ps with
 |nil=>
  have hE:Hid (∀(w1:World) (k n:Int) (s:ByteArray) (c3 c4:Value) (ob:Obj) (w':World),Below W1.heap.size W1 w1→RT Tryd.prog w1 W1.heap.size w1.heap.size 36 v [.int .i64 k,.int .i64 n,.string s,c3,c4]→w'=(w1.setCells (w.heap.size+1) 0 [.int .i64 k,.int .i64 n,.string s,c3,c4]).alloc ob→Below w.heap.size w w'∧RD Tryd.prog (fun b=>b<w'.heap.size∧(b<w.heap.size→ok b)) w' 36 v [.int .i64 k,.int .i64 n,.string s,c3,c4]):=by
   intro w1 k n s c3 c4 ob w' h1 h2 h3
   obtain⟨z1,z2,z3,z4⟩:=scells_rest (w.heap.size+1) [.int .i64 k,.int .i64 n,.string s,c3,c4] 0 w1
   have s1:=h1.size
   have hsz:w'.heap.size=w1.heap.size+1:=by rw[h3,alloc_size,z4]
   have ho:∀c,c<w1.heap.size→c≠w.heap.size+1→w'.heap[c]? =w1.heap[c]? :=fun c hc hne=>by rw[h3,alloc_old (by rw[z4];exact hc)];exact scells_other _ _ _ _ hne
   refine⟨⟨by rw[h3];exact z1.trans (h1.os.trans hb1.os),by rw[h3];exact z2.trans (h1.tape.trans hb1.tape),by rw[h3];exact z3.trans (h1.output.trans hb1.output),by omega,fun c hc=>?_⟩,(h2.frame fun b hb1' hb2=>ho b hb2 (by omega)).toRD fun b hb1' hb2=>⟨by omega,fun h=>by omega⟩⟩
   rw[ho c (by omega) (by omega),h1.block c (by omega),hb1.block c hc]
  have hWH:Hid (W1=(w.alloc (.cells #[.int .i64 k,.int .i64 n,.string s,.slice x3 y3 z3,.slice x4 y4 z4] 36)).alloc (.cells #[.int .i64 0,.int .i64 0,.string ⟨#[]⟩,.slice none 0 0,.slice none 0 0] 36)):=hW1
  clear hend hzc hz0 hs1 hb1 hv hp hW1 ht
  show Calls Tryd.prog 26 #[.agg #[.int .i64 k,.int .i64 n,.string s,.slice x3 y3 z3,.slice x4 y4 z4],.slice ap 0 cp] w _
  go_enter Tryd.func26,Tryd.ntmps26
  go_wp2_with (go_at_call 52;rw[←hWH.out];refine hcl.mono ?_;rintro e w1 ⟨k1,n1,s1,u3,v3,q3,u4,v4,q4,rfl,hX,hlt,r0,r1,r2,r3,r4,r5⟩)
  try simp only[Exit.inBlock,Exit.then]
  refine bodyPost_ret (v:= .agg #[.int .i64 k1,.int .i64 n1,.string s1,.slice u3 v3 q3,.slice u4 v4 q4]) (by simp[results,Tryd.results26,go_sem,r0,r1,r2,r3,r4,hlt]) rfl ?_
  refine⟨[.int .i64 k1,.int .i64 n1,.string s1,.slice u3 v3 q3,.slice u4 v4 q4],rfl,?_⟩
  exact hE.out w1 k1 n1 s1 _ _ _ _ hX.out.1 hX.out.2 rfl
 |cons p ps=>
  have hdr:∀(w1:World) (k n:Int) (s:ByteArray) (x3:Option Addr) (y3 z3:Nat) (x4:Option Addr) (y4 z4:Nat),Hid (Below W1.heap.size W1 w1∧RT Tryd.prog w1 W1.heap.size w1.heap.size 36 v [.int .i64 k,.int .i64 n,.string s,.slice x3 y3 z3,.slice x4 y4 z4])→
        Calls Tryd.prog 54 #[.pointer (some ⟨w1.heap.size,0,none⟩),.slice ap (ps.length+1) cp] (w1.alloc (.cells #[.int .i64 k,.int .i64 n,.string s,.slice x3 y3 z3,.slice x4 y4 z4] 36)) fun e w3=>e= .returned (.tuple #[])∧∃k' n' s' x5 y5 z5 x6 y6 z6,w3.cell? ⟨w1.heap.size,0,none⟩=some (.int .i64 k')∧w3.cell? ⟨w1.heap.size,1,none⟩=some (.int .i64 n')∧w3.cell? ⟨w1.heap.size,2,none⟩=some (.string s')∧w3.cell? ⟨w1.heap.size,3,none⟩=some (.slice x5 y5 z5)∧w3.cell? ⟨w1.heap.size,4,none⟩=some (.slice x6 y6 z6)∧w3.cell? ⟨w.heap.size+1,0,none⟩=some (.int .i64 0)∧w3.cell? ⟨w.heap.size+1,1,none⟩=some (.int .i64 0)∧w3.cell? ⟨w.heap.size+1,2,none⟩=some (.string ⟨#[]⟩)∧w3.cell? ⟨w.heap.size+1,3,none⟩=some (.slice none 0 0)∧w3.cell? ⟨w.heap.size+1,4,none⟩=some (.slice none 0 0)∧(∀t,w3.frozen? ⟨w.heap.size+1,t,none⟩=false)∧
         Hid (∀w':World,w'=((((w3.setCell ⟨w.heap.size+1,0,none⟩ (.int .i64 k')).setCell ⟨w.heap.size+1,1,none⟩ (.int .i64 n')).setCell ⟨w.heap.size+1,2,none⟩ (.string s')).setCell ⟨w.heap.size+1,3,none⟩ (.slice x5 y5 z5)).setCell ⟨w.heap.size+1,4,none⟩ (.slice x6 y6 z6)→Below w.heap.size w w'∧RD Tryd.prog (fun b=>b<w'.heap.size∧(b<w.heap.size→ok b)) w' 36 (dropD (p::ps) v) [.int .i64 k',.int .i64 n',.string s',.slice x5 y5 z5,.slice x6 y6 z6]):=by
   intro w1 k n s x3 y3 z3 x4 y4 z4 hX
   obtain⟨h1,h2⟩:=hX.out
   have s1:=h1.size
   have hq:Below w.heap.size w (w1.alloc (.cells #[.int .i64 k,.int .i64 n,.string s,.slice x3 y3 z3,.slice x4 y4 z4] 36)):=below_via (below_via hb1 h1 hb1.size) (below_alloc' w1 _) (by omega)
   have hPC:PutC (w1.alloc (.cells #[.int .i64 k,.int .i64 n,.string s,.slice x3 y3 z3,.slice x4 y4 z4] 36)) w1.heap.size 0 W1.heap.size w1.heap.size #[.int .i64 k,.int .i64 n,.string s,.slice x3 y3 z3,.slice x4 y4 z4] 36 v [.int .i64 k,.int .i64 n,.string s,.slice x3 y3 z3,.slice x4 y4 z4] ok:=by
        refine⟨alloc_at _ _ _,Nat.le_refl _,fun j hj=>by simp,h2.frame fun b _ hb=>alloc_old hb,by rw[alloc_size];omega,.inr (Nat.le_refl _),fun c hc=>?_,hbv⟩
        have:=hok c hc
        rw[alloc_size]
        omega
   have h:=drop_ok p ps v _ _ 0 _ _ _ _ _ ok (.slice ap (ps.length+1) cp) hPC (ht.mono fun b hb=>⟨hb,hq.block b (hok b hb)⟩) (hp.mono fun b hb=>⟨hb,hq.block b (hok b hb)⟩)
   refine h.mono ?_
   rintro e w3 ⟨rfl,hR⟩
   obtain⟨arr',cs',g1,g2,g3,g4,g5,g6⟩:=hR.res
   obtain⟨k',n',s',x5,y5,z5,x6,y6,z6,rfl⟩:=rd_cells5 g6
   have hcell:∀j,j<5→w3.cell? ⟨w1.heap.size,j,none⟩=([Value.int .i64 k',.int .i64 n',.string s',.slice x5 y5 z5,.slice x6 y6 z6]:List Value)[j]? :=fun j hj=>by
        have:=g5 j hj
        rw[Nat.zero_add] at this
        rw[cell_at g1,this]
   have hzz:w3.heap[w.heap.size+1]? =some (.cells zV 36 (0,0)):=by
        rw[hR.below.block _ (by rw[alloc_size];omega) (by omega),alloc_old (by omega),h1.block _ (by omega)]
        exact hz0
   obtain⟨u0,u1,u2,u3,u4,u5⟩:=hzc w3 hzz
   refine⟨rfl,k',n',s',x5,y5,z5,x6,y6,z6,hcell 0 (by omega),hcell 1 (by omega),hcell 2 (by omega),hcell 3 (by omega),hcell 4 (by omega),u0,u1,u2,u3,u4,u5,fun w' hw'=>?_⟩
   exact hend W1 w1 _ _ _ w3 w' hb1 hs1 h1 hR.below (g6.mono fun c hc=>⟨⟨hc.1,fun hlt=>hc.2.2 (by rw[alloc_size];omega)⟩,rfl⟩) hw'
  have hWH:Hid (W1=(w.alloc (.cells #[.int .i64 k,.int .i64 n,.string s,.slice x3 y3 z3,.slice x4 y4 z4] 36)).alloc (.cells #[.int .i64 0,.int .i64 0,.string ⟨#[]⟩,.slice none 0 0,.slice none 0 0] 36)):=hW1
  have hpl:(0:Int)<(ps.length:Int)+1:=by omega
  clear hend hzc hz0 hs1 hb1 hv hp hW1 ht
  show Calls Tryd.prog 26 #[.agg #[.int .i64 k,.int .i64 n,.string s,.slice x3 y3 z3,.slice x4 y4 z4],.slice ap (ps.length+1) cp] w _
  go_enter Tryd.func26,Tryd.ntmps26
  go_wp2_with (first
   |(go_at_call 52;rw[←hWH.out];refine hcl.mono ?_;rintro e w1 ⟨k1,n1,s1,u3,v3,q3,u4,v4,q4,rfl,hX,hlt,r0,r1,r2,r3,r4,r5⟩)
   |(go_at_call 54;refine(hdr w1 k1 n1 s1 u3 v3 q3 u4 v4 q4 hX).mono ?_;rintro e w3 ⟨rfl,k2,n2,s2,x5,y5,z5,x6,y6,z6,d0,d1,d2,d3,d4,f0,f1,f2,f3,f4,f5,hE⟩))
  try simp only[Exit.inBlock,Exit.then]
  refine bodyPost_ret (v:= .agg #[.int .i64 k2,.int .i64 n2,.string s2,.slice x5 y5 z5,.slice x6 y6 z6]) (by simp[results,Tryd.results26,go_sem,f0,f1,f2,f3,f4]) rfl ?_
  refine⟨[.int .i64 k2,.int .i64 n2,.string s2,.slice x5 y5 z5,.slice x6 y6 z6],rfl,?_⟩
  refine hE.out _ ?_
  with_reducible rfl
set_option maxRecDepth 100000 in
theorem path_DropC_fx {v:Dt} {p:List Dt} {r:Dt} (h:path_DropC v p=some r):FX Tryd.prog 26 [.dat 36 v,.dat 23 (.lst p)] [] (.dat 36 r) []:=by
 unfold path_DropC at h
 by_cases hb:v.bulk≤137438900000
 ·rw[   if_pos hb] at h
  cases h
  refine fx_nil3 fun ok w β vs hok ha ht=>?_
  obtain⟨x,y,rfl,hx,hy⟩:=ha.two
  obtain⟨cs,rfl,hra⟩:=hx.1 (show aggT _ 36=true from g36)
  cases hra with
  |dat hrd=>
   cases hy.2 (show aggT _ 23=false from g23) with
   |    dat hp=>
        refine(Drop_walk hb hok ht hrd hp).mono ?_
        rintro e w' ⟨cs',rfl,h1,h2⟩
        exact⟨_,rfl,h1,rv_datA g36 h2⟩
 ·rw[if_neg hb] at h
  cases h
end Go.Proofs.YtmjnmiahblaanaaDoor
namespace Go.Proofs.YtmjnmiahblaanaaDoor
open Go.RowKit Go.Am
noncomputable def path_PutC (v:Dt) (p:List Dt) (x:Dt):Option (Dt×Int):=
 if v.bulk≤137438900000∧x.bulk≤137438900000 then
  (P1.path_Valid 100 p).bind fun ok=>if ok=false then some (zeroD,10) else if Dt.I v 0≠5∨Dt.I x 0=0 then some (zeroD,8) else if(putD p v x).2=true then some ((putD p v x).1,0) else some (zeroD,10)
 else none
theorem rd_cells5' {ok:Nat→Prop} {w:World} {d:Dt} {cs:List Value} (h:RD Tryd.prog ok w 36 d cs):∃n s x3 y3 z3 x4 y4 z4,cs=[.int .i64 (Dt.I d 0),.int .i64 n,.string s,.slice x3 y3 z3,.slice x4 y4 z4]:=by
 obtain⟨fv,ff,hT⟩:=tV
 obtain⟨k,n,s,l,fs,c3,c4,rfl,rfl,hl,hd,_⟩:=h.v_inv hT
 obtain⟨a3,p3,_,_,rfl,_⟩:=hl.elems hT.l (by rw[hT.cv];omega)
 obtain⟨a4,p4,_,_,rfl,_⟩:=hd.elems hT.d (by rw[hT.cf];omega)
 exact⟨n,s,_,_,_,_,_,_,rfl⟩
theorem valid_call {ok:Nat→Prop} {w:World} {ps:List Dt} {z:Value} {bv:Bool} (hV:P1.path_Valid 100 ps=some bv) (hok:∀b,ok b→b<w.heap.size) (ht:TabOK ok w) (hp:RD Tryd.prog ok w 23 (.lst ps) [z]):
  Calls Tryd.prog 17 #[z] w fun e w'=>e= .returned (.bool bv)∧Below w.heap.size w w':=by
 have h:=fx_call (P1.path_Valid_fx 99 (fun R=>P1.ct_ok _ R) ps hV) hok (vs:=[z]) (.cons (rv_dat1 g23 hp) .nil) ht
 refine h.mono ?_
 rintro e w' ⟨v,β',rfl,hb,hr⟩
 obtain⟨_,rfl⟩:=RV.bool Tryd.underlying4 hr
 exact⟨rfl,hb⟩
def PutOut (ok:Nat→Prop) (w:World) (d:Dt) (k:Int) (e:Ending) (w':World):Prop:=
 ∃cs:List Value,e= .returned (.tuple #[.agg cs.toArray,.int .i64 k])∧Below w.heap.size w w'∧RD Tryd.prog (fun b=>b<w'.heap.size∧(b<w.heap.size→ok b)) w' 36 d cs
theorem put_zero {ok:Nat→Prop} {w w':World} {k:Int} (h:Below w.heap.size w w'):PutOut ok w zeroD k (.returned (.tuple #[.agg #[.int .i64 0,.int .i64 0,.string ⟨#[]⟩,.slice none 0 0,.slice none 0 0],.int .i64 k])) w':=
 ⟨[.int .i64 0,.int .i64 0,.string ⟨#[]⟩,.slice none 0 0,.slice none 0 0],rfl,h,zero_rd _ _⟩
theorem zero_set {w w1 w':World} (h:Below w.heap.size w w1) (hw':w'=((((w1.setCell ⟨w.heap.size+2,0,none⟩ (.int .i64 0)).setCell ⟨w.heap.size+2,1,none⟩ (.int .i64 0)).setCell ⟨w.heap.size+2,2,none⟩ (.string ⟨#[]⟩)).setCell ⟨w.heap.size+2,3,none⟩ (.slice none 0 0)).setCell ⟨w.heap.size+2,4,none⟩ (.slice none 0 0)):Below w.heap.size w w':=by
 replace hw':w'=w1.setCells (w.heap.size+2) 0 [.int .i64 0,.int .i64 0,.string ⟨#[]⟩,.slice none 0 0,.slice none 0 0]:=hw'
 obtain⟨z1,z2,z3,z4⟩:=scells_rest (w.heap.size+2) [.int .i64 0,.int .i64 0,.string ⟨#[]⟩,.slice none 0 0,.slice none 0 0] 0 w1
 refine⟨by rw[hw',z1,h.os],by rw[hw',z2,h.tape],by rw[hw',z3,h.output],by rw[hw',z4];exact h.size,fun c hc=>?_⟩
 rw[hw',scells_other _ _ _ _ (show c≠w.heap.size+2 by omega)]
 exact h.block c hc
def W3 (w:World) (cv cx:Array Value):World:=((w.alloc (.cells cv 36)).alloc (.cells cx 36)).alloc (.cells #[.int .i64 0,.int .i64 0,.string ⟨#[]⟩,.slice none 0 0,.slice none 0 0] 36)
theorem w3_size (w:World) (cv cx:Array Value):(W3 w cv cx).heap.size=w.heap.size+3:=by unfold W3;rw[alloc_size,alloc_size,alloc_size]
theorem w3_below (w:World) (cv cx:Array Value):Below w.heap.size w (W3 w cv cx):=by
 unfold W3
 exact below_via (below_via (below_alloc' w _) (below_alloc' _ _) (by rw[alloc_size];omega)) (below_alloc' _ _) (by rw[alloc_size,alloc_size];omega)
theorem w3_at (w:World) (cv cx:Array Value):(W3 w cv cx).heap[w.heap.size]? =some (.cells cv 36 (0,0))∧(W3 w cv cx).heap[w.heap.size+1]? =some (.cells cx 36 (0,0))∧(W3 w cv cx).heap[w.heap.size+2]? =some (.cells zV 36 (0,0)):=by
 unfold W3
 refine⟨?_,?_,?_⟩
 ·rw[alloc_old (by rw[alloc_size,alloc_size];omega),alloc_old (by rw[alloc_size];omega)];exact alloc_at _ _ _
 ·rw[alloc_old (by rw[alloc_size,alloc_size];omega)];exact alloc_eq (by rw[alloc_size])
 ·exact alloc_eq (by rw[alloc_size,alloc_size])
set_option maxHeartbeats 4000000 in
set_option maxRecDepth 1000000 in
theorem Put_bad {ok:Nat→Prop} {w:World} {v x:Dt} {cv cx:List Value} {ps:List Dt} {z:Value} (hV:P1.path_Valid 100 ps=some false) (hok:∀b,ok b→b<w.heap.size) (ht:TabOK ok w) (hv:RD Tryd.prog ok w 36 v cv) (hp:RD Tryd.prog ok w 23 (.lst ps) [z]) (hx:RD Tryd.prog ok w 36 x cx):
  Calls Tryd.prog 31 #[.agg cv.toArray,z,.agg cx.toArray] w fun e w'=>PutOut ok w zeroD 10 e w':=by
 obtain⟨k,n,s,x3,y3,z3,x4,y4,z4,rfl⟩:=rd_cells5 hv
 obtain⟨kx,nx,sx,x5,y5,z5,x6,y6,z6,rfl⟩:=rd_cells5 hx
 obtain⟨ap,cp,_,_,rfl,hpx⟩:=hp.elems Tryd.underlying23 (by rw[show Tryd.prog.cellsOf 9=1 by kernel_rfl];omega)
 clear hpx
 obtain⟨W1,hW1⟩:∃W1,W1=W3 w #[.int .i64 k,.int .i64 n,.string s,.slice x3 y3 z3,.slice x4 y4 z4] #[.int .i64 kx,.int .i64 nx,.string sx,.slice x5 y5 z5,.slice x6 y6 z6]:=⟨_,rfl⟩
 have hb1:Below w.heap.size w W1:=by rw[hW1];exact w3_below _ _ _
 have hs1:W1.heap.size=w.heap.size+3:=by rw[hW1];exact w3_size _ _ _
 obtain⟨a1,a2,a3⟩:=w3_at w #[.int .i64 k,.int .i64 n,.string s,.slice x3 y3 z3,.slice x4 y4 z4] #[.int .i64 kx,.int .i64 nx,.string sx,.slice x5 y5 z5,.slice x6 y6 z6]
 rw[←hW1] at a1 a2 a3
 have hvc:Calls Tryd.prog 17 #[.slice ap ps.length cp] W1 fun e w'=>e= .returned (.bool false)∧Hid (Below W1.heap.size W1 w')∧w'.cell? ⟨w.heap.size+2,0,none⟩=some (.int .i64 0)∧w'.cell? ⟨w.heap.size+2,1,none⟩=some (.int .i64 0)∧w'.cell? ⟨w.heap.size+2,2,none⟩=some (.string ⟨#[]⟩)∧w'.cell? ⟨w.heap.size+2,3,none⟩=some (.slice none 0 0)∧w'.cell? ⟨w.heap.size+2,4,none⟩=some (.slice none 0 0)∧∀t,w'.frozen? ⟨w.heap.size+2,t,none⟩=false:=by
  refine(valid_call (ok:=ok) hV (fun b hb=>Nat.lt_of_lt_of_le (hok b hb) hb1.size) (ht.mono fun b hb=>⟨hb,hb1.block b (hok b hb)⟩) (hp.mono fun b hb=>⟨hb,hb1.block b (hok b hb)⟩)).mono ?_
  rintro e w' ⟨rfl,hb⟩
  have u:=(hb.block _ (by omega)).trans a3
  exact⟨rfl,hb,cell_at u,cell_at u,cell_at u,cell_at u,cell_at u,fun t=>froz_at u⟩
 have hE:Hid (∀w1 w':World,Below W1.heap.size W1 w1→w'=((((w1.setCell ⟨w.heap.size+2,0,none⟩ (.int .i64 0)).setCell ⟨w.heap.size+2,1,none⟩ (.int .i64 0)).setCell ⟨w.heap.size+2,2,none⟩ (.string ⟨#[]⟩)).setCell ⟨w.heap.size+2,3,none⟩ (.slice none 0 0)).setCell ⟨w.heap.size+2,4,none⟩ (.slice none 0 0)→Below w.heap.size w w'):=fun w1 w' h1 h2=>zero_set (below_via hb1 h1 hb1.size) h2
 have hWH:Hid (W1=W3 w #[.int .i64 k,.int .i64 n,.string s,.slice x3 y3 z3,.slice x4 y4 z4] #[.int .i64 kx,.int .i64 nx,.string sx,.slice x5 y5 z5,.slice x6 y6 z6]):=hW1
 clear hW1 hb1 hs1 a1 a2 a3 hv hp hx ht hV
 show Calls Tryd.prog 31 #[.agg #[.int .i64 k,.int .i64 n,.string s,.slice x3 y3 z3,.slice x4 y4 z4],.slice ap ps.length cp,.agg #[.int .i64 kx,.int .i64 nx,.string sx,.slice x5 y5 z5,.slice x6 y6 z6]] w _
 go_enter Tryd.func31,Tryd.ntmps31
 go_wp2_with (first|(go_at_call 17;(show Calls _ _ _ (W3 w _ _) _);rw[←hWH.out];refine hvc.mono ?_;rintro e w1 ⟨rfl,hX,r0,r1,r2,r3,r4,r5⟩))
 try simp only[Exit.inBlock,Exit.then]
 refine bodyPost_ret (v:= .tuple #[.agg #[.int .i64 0,.int .i64 0,.string ⟨#[]⟩,.slice none 0 0,.slice none 0 0],.int .i64 10]) (by simp[results,Tryd.results31,go_sem,r0,r1,r2,r3,r4]) rfl ?_
 refine put_zero (hE.out w1 _ hX.out ?_)
 with_reducible rfl
set_option maxHeartbeats 4000000 in
set_option maxRecDepth 1000000 in
theorem Put_kind {ok:Nat→Prop} {w:World} {v x:Dt} {cv cx:List Value} {ps:List Dt} {z:Value} (hV:P1.path_Valid 100 ps=some true) (hk:Dt.I v 0≠5∨Dt.I x 0=0) (hok:∀b,ok b→b<w.heap.size) (ht:TabOK ok w) (hv:RD Tryd.prog ok w 36 v cv) (hp:RD Tryd.prog ok w 23 (.lst ps) [z]) (hx:RD Tryd.prog ok w 36 x cx):
  Calls Tryd.prog 31 #[.agg cv.toArray,z,.agg cx.toArray] w fun e w'=>PutOut ok w zeroD 8 e w':=by
 obtain⟨n,s,x3,y3,z3,x4,y4,z4,rfl⟩:=rd_cells5' hv
 obtain⟨nx,sx,x5,y5,z5,x6,y6,z6,rfl⟩:=rd_cells5' hx
 generalize Dt.I v 0=k at*
 generalize Dt.I x 0=kx at*
 obtain⟨ap,cp,_,_,rfl,hpx⟩:=hp.elems Tryd.underlying23 (by rw[show Tryd.prog.cellsOf 9=1 by kernel_rfl];omega)
 clear hpx
 obtain⟨W1,hW1⟩:∃W1,W1=W3 w #[.int .i64 k,.int .i64 n,.string s,.slice x3 y3 z3,.slice x4 y4 z4] #[.int .i64 kx,.int .i64 nx,.string sx,.slice x5 y5 z5,.slice x6 y6 z6]:=⟨_,rfl⟩
 have hb1:Below w.heap.size w W1:=by rw[hW1];exact w3_below _ _ _
 have hs1:W1.heap.size=w.heap.size+3:=by rw[hW1];exact w3_size _ _ _
 obtain⟨a1,a2,a3⟩:=w3_at w #[.int .i64 k,.int .i64 n,.string s,.slice x3 y3 z3,.slice x4 y4 z4] #[.int .i64 kx,.int .i64 nx,.string sx,.slice x5 y5 z5,.slice x6 y6 z6]
 rw[←hW1] at a1 a2 a3
 have hvc:Calls Tryd.prog 17 #[.slice ap ps.length cp] W1 fun e w'=>e= .returned (.bool true)∧Hid (Below W1.heap.size W1 w')∧w'.cell? ⟨w.heap.size+2,0,none⟩=some (.int .i64 0)∧w'.cell? ⟨w.heap.size+2,1,none⟩=some (.int .i64 0)∧w'.cell? ⟨w.heap.size+2,2,none⟩=some (.string ⟨#[]⟩)∧w'.cell? ⟨w.heap.size+2,3,none⟩=some (.slice none 0 0)∧w'.cell? ⟨w.heap.size+2,4,none⟩=some (.slice none 0 0)∧w'.cell? ⟨w.heap.size,0,none⟩=some (.int .i64 k)∧w'.cell? ⟨w.heap.size+1,0,none⟩=some (.int .i64 kx)∧∀t,w'.frozen? ⟨w.heap.size+2,t,none⟩=false:=by
  refine(valid_call (ok:=ok) hV (fun b hb=>Nat.lt_of_lt_of_le (hok b hb) hb1.size) (ht.mono fun b hb=>⟨hb,hb1.block b (hok b hb)⟩) (hp.mono fun b hb=>⟨hb,hb1.block b (hok b hb)⟩)).mono ?_
  rintro e w' ⟨rfl,hb⟩
  have u:=(hb.block _ (by omega)).trans a3
  exact⟨rfl,hb,cell_at u,cell_at u,cell_at u,cell_at u,cell_at u,cell_at ((hb.block _ (by omega)).trans a1),cell_at ((hb.block _ (by omega)).trans a2),fun t=>froz_at u⟩
 have hE:Hid (∀w1 w':World,Below W1.heap.size W1 w1→w'=((((w1.setCell ⟨w.heap.size+2,0,none⟩ (.int .i64 0)).setCell ⟨w.heap.size+2,1,none⟩ (.int .i64 0)).setCell ⟨w.heap.size+2,2,none⟩ (.string ⟨#[]⟩)).setCell ⟨w.heap.size+2,3,none⟩ (.slice none 0 0)).setCell ⟨w.heap.size+2,4,none⟩ (.slice none 0 0)→Below w.heap.size w w'):=fun w1 w' h1 h2=>zero_set (below_via hb1 h1 hb1.size) h2
 have hWH:Hid (W1=W3 w #[.int .i64 k,.int .i64 n,.string s,.slice x3 y3 z3,.slice x4 y4 z4] #[.int .i64 kx,.int .i64 nx,.string sx,.slice x5 y5 z5,.slice x6 y6 z6]):=hW1
 clear hW1 hb1 hs1 a1 a2 a3 hv hp hx ht hV
 by_cases hk5:k=5
 ·have hk0:kx=0:=by rcases hk with h|h;exact absurd hk5 h;exact h
  subst hk5 hk0
  clear hk
  show Calls Tryd.prog 31 #[.agg #[.int .i64 5,.int .i64 n,.string s,.slice x3 y3 z3,.slice x4 y4 z4],.slice ap ps.length cp,.agg #[.int .i64 0,.int .i64 nx,.string sx,.slice x5 y5 z5,.slice x6 y6 z6]] w _
  go_enter Tryd.func31,Tryd.ntmps31
  go_wp2_with (first|(go_at_call 17;(show Calls _ _ _ (W3 w _ _) _);rw[←hWH.out];refine hvc.mono ?_;rintro e w1 ⟨rfl,hX,r0,r1,r2,r3,r4,r6,r7,r5⟩))
  try simp only[Exit.inBlock,Exit.then]
  refine bodyPost_ret (v:= .tuple #[.agg #[.int .i64 0,.int .i64 0,.string ⟨#[]⟩,.slice none 0 0,.slice none 0 0],.int .i64 8]) (by simp[results,Tryd.results31,go_sem,r0,r1,r2,r3,r4]) rfl ?_
  refine put_zero (hE.out w1 _ hX.out ?_)
  with_reducible rfl
 ·clear hk
  show Calls Tryd.prog 31 #[.agg #[.int .i64 k,.int .i64 n,.string s,.slice x3 y3 z3,.slice x4 y4 z4],.slice ap ps.length cp,.agg #[.int .i64 kx,.int .i64 nx,.string sx,.slice x5 y5 z5,.slice x6 y6 z6]] w _
  go_enter Tryd.func31,Tryd.ntmps31
  go_wp2_with (first|(go_at_call 17;(show Calls _ _ _ (W3 w _ _) _);rw[←hWH.out];refine hvc.mono ?_;rintro e w1 ⟨rfl,hX,r0,r1,r2,r3,r4,r6,r7,r5⟩))
  try simp only[Exit.inBlock,Exit.then]
  refine bodyPost_ret (v:= .tuple #[.agg #[.int .i64 0,.int .i64 0,.string ⟨#[]⟩,.slice none 0 0,.slice none 0 0],.int .i64 8]) (by simp[results,Tryd.results31,go_sem,r0,r1,r2,r3,r4]) rfl ?_
  refine put_zero (hE.out w1 _ hX.out ?_)
  with_reducible rfl
end Go.Proofs.YtmjnmiahblaanaaDoor
namespace Go.Proofs.YtmjnmiahblaanaaDoor
open Go.RowKit Go.Am
set_option maxHeartbeats 4000000 in
set_option maxRecDepth 1000000 in
theorem Put_walk {w:World} {n kx nx:Int} {s sx:ByteArray} {x3 x4 x5 x6:Option Addr} {y3 z3 y4 z4 y5 z5 y6 z6:Nat} {aP:Option Addr} {cP lP:Nat} (rb:Bool) (hkx:kx≠0)
  (X1:World→Prop) (X2:World→World→Int→Int→ByteArray→Option Addr→Nat→Nat→Option Addr→Nat→Nat→Prop) (X3:World→World→Int→Int→ByteArray→Option Addr→Nat→Nat→Option Addr→Nat→Nat→World→Int→Int→ByteArray→Option Addr→Nat→Nat→Option Addr→Nat→Nat→Prop) (X4:World→Int→Int→ByteArray→Option Addr→Nat→Nat→Option Addr→Nat→Nat→Prop) (Q:Ending→World→Prop)
  (hvc:Calls Tryd.prog 17 #[.slice aP lP cP] (((w.alloc (.cells #[.int .i64 5,.int .i64 n,.string s,.slice x3 y3 z3,.slice x4 y4 z4] 36)).alloc (.cells #[.int .i64 kx,.int .i64 nx,.string sx,.slice x5 y5 z5,.slice x6 y6 z6] 36)).alloc (.cells #[.int .i64 0,.int .i64 0,.string ⟨#[]⟩,.slice none 0 0,.slice none 0 0] 36)) fun e w1=>e= .returned (.bool true)∧X1 w1∧w1.cell? ⟨w.heap.size,0,none⟩=some (.int .i64 5)∧w1.cell? ⟨w.heap.size,1,none⟩=some (.int .i64 n)∧w1.cell? ⟨w.heap.size,2,none⟩=some (.string s)∧w1.cell? ⟨w.heap.size,3,none⟩=some (.slice x3 y3 z3)∧w1.cell? ⟨w.heap.size,4,none⟩=some (.slice x4 y4 z4)∧w1.cell? ⟨w.heap.size+1,0,none⟩=some (.int .i64 kx))
  (hc1:∀w1,X1 w1→Calls Tryd.prog 52 #[.agg #[.int .i64 5,.int .i64 n,.string s,.slice x3 y3 z3,.slice x4 y4 z4]] w1 fun e w2=>∃kp np sp ap bp cp dp ep fp,e= .returned (.agg #[.int .i64 kp,.int .i64 np,.string sp,.slice ap bp cp,.slice dp ep fp])∧X2 w1 w2 kp np sp ap bp cp dp ep fp∧w.heap.size+1<w2.heap.size∧w2.cell? ⟨w.heap.size+1,0,none⟩=some (.int .i64 kx)∧w2.cell? ⟨w.heap.size+1,1,none⟩=some (.int .i64 nx)∧w2.cell? ⟨w.heap.size+1,2,none⟩=some (.string sx)∧w2.cell? ⟨w.heap.size+1,3,none⟩=some (.slice x5 y5 z5)∧w2.cell? ⟨w.heap.size+1,4,none⟩=some (.slice x6 y6 z6))
  (hc2:∀w1 w2 kp np sp ap bp cp dp ep fp,X2 w1 w2 kp np sp ap bp cp dp ep fp→Calls Tryd.prog 52 #[.agg #[.int .i64 kx,.int .i64 nx,.string sx,.slice x5 y5 z5,.slice x6 y6 z6]] (w2.alloc (.cells #[.int .i64 kp,.int .i64 np,.string sp,.slice ap bp cp,.slice dp ep fp] 36)) fun e w3=>∃kq nq sq aq bq cq dq eq fq,e= .returned (.agg #[.int .i64 kq,.int .i64 nq,.string sq,.slice aq bq cq,.slice dq eq fq])∧X3 w1 w2 kp np sp ap bp cp dp ep fp w3 kq nq sq aq bq cq dq eq fq)
  (hpt:∀w1 w2 kp np sp ap bp cp dp ep fp w3 kq nq sq aq bq cq dq eq fq,X2 w1 w2 kp np sp ap bp cp dp ep fp→X3 w1 w2 kp np sp ap bp cp dp ep fp w3 kq nq sq aq bq cq dq eq fq→Calls Tryd.prog 60 #[.pointer (some ⟨w2.heap.size,0,none⟩),.slice aP lP cP,.agg #[.int .i64 kq,.int .i64 nq,.string sq,.slice aq bq cq,.slice dq eq fq]] w3 fun e w4=>e= .returned (.bool rb)∧∃kr nr sr ar br cr dr er fr,w4.cell? ⟨w2.heap.size,0,none⟩=some (.int .i64 kr)∧w4.cell? ⟨w2.heap.size,1,none⟩=some (.int .i64 nr)∧w4.cell? ⟨w2.heap.size,2,none⟩=some (.string sr)∧w4.cell? ⟨w2.heap.size,3,none⟩=some (.slice ar br cr)∧w4.cell? ⟨w2.heap.size,4,none⟩=some (.slice dr er fr)∧w4.cell? ⟨w.heap.size+2,0,none⟩=some (.int .i64 0)∧w4.cell? ⟨w.heap.size+2,1,none⟩=some (.int .i64 0)∧w4.cell? ⟨w.heap.size+2,2,none⟩=some (.string ⟨#[]⟩)∧w4.cell? ⟨w.heap.size+2,3,none⟩=some (.slice none 0 0)∧w4.cell? ⟨w.heap.size+2,4,none⟩=some (.slice none 0 0)∧(∀t,w4.frozen? ⟨w.heap.size+2,t,none⟩=false)∧X4 w4 kr nr sr ar br cr dr er fr)
  (hq1:rb=true→∀w4 kr nr sr ar br cr dr er fr,X4 w4 kr nr sr ar br cr dr er fr→∀w':World,w'=(((((w4.setCell ⟨w.heap.size+2,0,none⟩ (.int .i64 kr)).setCell ⟨w.heap.size+2,1,none⟩ (.int .i64 nr)).setCell ⟨w.heap.size+2,2,none⟩ (.string sr)).setCell ⟨w.heap.size+2,3,none⟩ (.slice ar br cr)).setCell ⟨w.heap.size+2,4,none⟩ (.slice dr er fr))→Q (.returned (.tuple #[.agg #[.int .i64 kr,.int .i64 nr,.string sr,.slice ar br cr,.slice dr er fr],.int .i64 0])) w')
  (hq2:rb=false→∀w4 kr nr sr ar br cr dr er fr,X4 w4 kr nr sr ar br cr dr er fr→∀w':World,w'=(((((w4.setCell ⟨w.heap.size+2,0,none⟩ (.int .i64 0)).setCell ⟨w.heap.size+2,1,none⟩ (.int .i64 0)).setCell ⟨w.heap.size+2,2,none⟩ (.string ⟨#[]⟩)).setCell ⟨w.heap.size+2,3,none⟩ (.slice none 0 0)).setCell ⟨w.heap.size+2,4,none⟩ (.slice none 0 0))→Q (.returned (.tuple #[.agg #[.int .i64 0,.int .i64 0,.string ⟨#[]⟩,.slice none 0 0,.slice none 0 0],.int .i64 10])) w'):
  Calls Tryd.prog 31 #[.agg #[.int .i64 5,.int .i64 n,.string s,.slice x3 y3 z3,.slice x4 y4 z4],.slice aP lP cP,.agg #[.int .i64 kx,.int .i64 nx,.string sx,.slice x5 y5 z5,.slice x6 y6 z6]] w Q:=by
 cases rb
 all_goals
  go_enter Tryd.func31,Tryd.ntmps31
  go_wp2_with (first
   |(go_at_call 17;refine hvc.mono ?_;rintro e w1 ⟨rfl,hX,r0,r1,r2,r3,r4,r5⟩)
   |(go_at_call 52;refine(hc2 w1 w2 kp np sp ap bp cp dp ep fp hY).mono ?_;rintro e w3 ⟨kq,nq,sq,aq,bq,cq,dq,eq,fq,rfl,hZ⟩)
   |(go_at_call 52;refine(hc1 w1 hX).mono ?_;rintro e w2 ⟨kp,np,sp,ap,bp,cp,dp,ep,fp,rfl,hY,hlt,t0,t1,t2,t3,t4⟩)
   |(go_at_call 60;refine(hpt w1 w2 kp np sp ap bp cp dp ep fp w3 kq nq sq aq bq cq dq eq fq hY hZ).mono ?_;rintro e w4 ⟨rfl,kr,nr,sr,ar,br,cr,dr,er,fr,u0,u1,u2,u3,u4,l0,l1,l2,l3,l4,l5,hE⟩))
 all_goals try simp only[Exit.inBlock,Exit.then]
 ·refine bodyPost_ret (v:= .tuple #[.agg #[.int .i64 0,.int .i64 0,.string ⟨#[]⟩,.slice none 0 0,.slice none 0 0],.int .i64 10]) (by simp[results,Tryd.results31,go_sem,l0,l1,l2,l3,l4]) rfl ?_
  refine hq2 trivial w4 kr nr sr ar br cr dr er fr hE _ ?_
  with_reducible rfl
 ·refine bodyPost_ret (v:= .tuple #[.agg #[.int .i64 kr,.int .i64 nr,.string sr,.slice ar br cr,.slice dr er fr],.int .i64 0]) (by simp[results,Tryd.results31,go_sem,l0,l1,l2,l3,l4]) rfl ?_
  refine hq1 trivial w4 kr nr sr ar br cr dr er fr hE _ ?_
  with_reducible rfl
end Go.Proofs.YtmjnmiahblaanaaDoor
namespace Go.Proofs.YtmjnmiahblaanaaDoor
open Go.RowKit Go.Am
set_option maxHeartbeats 4000000 in
set_option maxRecDepth 1000000 in
theorem Put_go {ok:Nat→Prop} {w:World} {v x:Dt} {cv cx:List Value} {ps:List Dt} {z:Value} (hV:P1.path_Valid 100 ps=some true) (hbv:v.bulk≤137438900000) (hbx:x.bulk≤137438900000) (hk5:Dt.I v 0=5) (hk0:Dt.I x 0≠0) (hok:∀b,ok b→b<w.heap.size) (ht:TabOK ok w) (hv:RD Tryd.prog ok w 36 v cv) (hp:RD Tryd.prog ok w 23 (.lst ps) [z]) (hx:RD Tryd.prog ok w 36 x cx):
  Calls Tryd.prog 31 #[.agg cv.toArray,z,.agg cx.toArray] w fun e w'=>((putD ps v x).2=true→PutOut ok w (putD ps v x).1 0 e w')∧((putD ps v x).2=false→PutOut ok w zeroD 10 e w'):=by
 obtain⟨n,s,x3,y3,z3,x4,y4,z4,rfl⟩:=rd_cells5' hv
 obtain⟨nx,sx,x5,y5,z5,x6,y6,z6,rfl⟩:=rd_cells5' hx
 rw[hk5] at*
 generalize Dt.I x 0=kx at*
 obtain⟨aP,cP,_,_,rfl,hpx⟩:=hp.elems Tryd.underlying23 (by rw[show Tryd.prog.cellsOf 9=1 by kernel_rfl];omega)
 clear hpx
 obtain⟨W1,hW1⟩:∃W1,W1=W3 w #[.int .i64 5,.int .i64 n,.string s,.slice x3 y3 z3,.slice x4 y4 z4] #[.int .i64 kx,.int .i64 nx,.string sx,.slice x5 y5 z5,.slice x6 y6 z6]:=⟨_,rfl⟩
 have hb1:Below w.heap.size w W1:=by rw[hW1];exact w3_below _ _ _
 have hs1:W1.heap.size=w.heap.size+3:=by rw[hW1];exact w3_size _ _ _
 obtain⟨a1,a2,a3⟩:=w3_at w #[.int .i64 5,.int .i64 n,.string s,.slice x3 y3 z3,.slice x4 y4 z4] #[.int .i64 kx,.int .i64 nx,.string sx,.slice x5 y5 z5,.slice x6 y6 z6]
 rw[←hW1] at a1 a2 a3
 have hmono:∀W:World,Below W1.heap.size W1 W→Below w.heap.size w W:=fun W h=>below_via hb1 h hb1.size
 have hvc:Calls Tryd.prog 17 #[.slice aP ps.length cP] W1 fun e w1=>e= .returned (.bool true)∧Hid (Below W1.heap.size W1 w1)∧w1.cell? ⟨w.heap.size,0,none⟩=some (.int .i64 5)∧w1.cell? ⟨w.heap.size,1,none⟩=some (.int .i64 n)∧w1.cell? ⟨w.heap.size,2,none⟩=some (.string s)∧w1.cell? ⟨w.heap.size,3,none⟩=some (.slice x3 y3 z3)∧w1.cell? ⟨w.heap.size,4,none⟩=some (.slice x4 y4 z4)∧w1.cell? ⟨w.heap.size+1,0,none⟩=some (.int .i64 kx):=by
  refine(valid_call (ok:=ok) hV (fun b hb=>Nat.lt_of_lt_of_le (hok b hb) hb1.size) (ht.mono fun b hb=>⟨hb,hb1.block b (hok b hb)⟩) (hp.mono fun b hb=>⟨hb,hb1.block b (hok b hb)⟩)).mono ?_
  rintro e w' ⟨rfl,hb⟩
  have u:=(hb.block _ (by omega)).trans a1
  exact⟨rfl,hb,cell_at u,cell_at u,cell_at u,cell_at u,cell_at u,cell_at ((hb.block _ (by omega)).trans a2)⟩
 have hc1:∀w1:World,Hid (Below W1.heap.size W1 w1)→Calls Tryd.prog 52 #[.agg #[.int .i64 5,.int .i64 n,.string s,.slice x3 y3 z3,.slice x4 y4 z4]] w1 fun e w2=>∃kp np sp ap bp cp dp ep fp,e= .returned (.agg #[.int .i64 kp,.int .i64 np,.string sp,.slice ap bp cp,.slice dp ep fp])∧Hid (Below W1.heap.size W1 w1∧Below w1.heap.size w1 w2∧RT Tryd.prog w2 w1.heap.size w2.heap.size 36 v [.int .i64 kp,.int .i64 np,.string sp,.slice ap bp cp,.slice dp ep fp])∧w.heap.size+1<w2.heap.size∧w2.cell? ⟨w.heap.size+1,0,none⟩=some (.int .i64 kx)∧w2.cell? ⟨w.heap.size+1,1,none⟩=some (.int .i64 nx)∧w2.cell? ⟨w.heap.size+1,2,none⟩=some (.string sx)∧w2.cell? ⟨w.heap.size+1,3,none⟩=some (.slice x5 y5 z5)∧w2.cell? ⟨w.heap.size+1,4,none⟩=some (.slice x6 y6 z6):=by
  intro w1 h1
  have q:=hmono w1 h1.out
  refine(clone_call (ok:=ok) hbv (hv.mono fun b hb=>⟨hb,q.block b (hok b hb)⟩) (fun b hb=>Nat.lt_of_lt_of_le (hok b hb) q.size)).mono ?_
  rintro e w2 ⟨kp,np,sp,ap,bp,cp,dp,ep,fp,rfl,g1,g2⟩
  have u:=(g1.block (w.heap.size+1) (by have:=h1.out.size;omega)).trans ((h1.out.block _ (by omega)).trans a2)
  exact⟨kp,np,sp,ap,bp,cp,dp,ep,fp,rfl,⟨h1.out,g1,g2⟩,by have:=h1.out.size;have:=g1.size;omega,cell_at u,cell_at u,cell_at u,cell_at u,cell_at u⟩
 have hc2:∀(w1 w2:World) (kp np:Int) (sp:ByteArray) (ap:Option Addr) (bp cp:Nat) (dp:Option Addr) (ep fp:Nat),Hid (Below W1.heap.size W1 w1∧Below w1.heap.size w1 w2∧RT Tryd.prog w2 w1.heap.size w2.heap.size 36 v [.int .i64 kp,.int .i64 np,.string sp,.slice ap bp cp,.slice dp ep fp])→Calls Tryd.prog 52 #[.agg #[.int .i64 kx,.int .i64 nx,.string sx,.slice x5 y5 z5,.slice x6 y6 z6]] (w2.alloc (.cells #[.int .i64 kp,.int .i64 np,.string sp,.slice ap bp cp,.slice dp ep fp] 36)) fun e w3=>∃kq nq sq aq bq cq dq eq fq,e= .returned (.agg #[.int .i64 kq,.int .i64 nq,.string sq,.slice aq bq cq,.slice dq eq fq])∧Hid (Below (w2.alloc (.cells #[.int .i64 kp,.int .i64 np,.string sp,.slice ap bp cp,.slice dp ep fp] 36)).heap.size (w2.alloc (.cells #[.int .i64 kp,.int .i64 np,.string sp,.slice ap bp cp,.slice dp ep fp] 36)) w3∧RT Tryd.prog w3 (w2.alloc (.cells #[.int .i64 kp,.int .i64 np,.string sp,.slice ap bp cp,.slice dp ep fp] 36)).heap.size w3.heap.size 36 x [.int .i64 kq,.int .i64 nq,.string sq,.slice aq bq cq,.slice dq eq fq]):=by
  intro w1 w2 kp np sp ap bp cp dp ep fp h
  obtain⟨h1,h2,h3⟩:=h.out
  have q:=below_via (below_via (hmono w1 h1) h2 (hmono w1 h1).size) (below_alloc' w2 (.cells #[.int .i64 kp,.int .i64 np,.string sp,.slice ap bp cp,.slice dp ep fp] 36)) (Nat.le_trans (hmono w1 h1).size h2.size)
  refine(clone_call (ok:=ok) hbx (hx.mono fun b hb=>⟨hb,q.block b (hok b hb)⟩) (fun b hb=>Nat.lt_of_lt_of_le (hok b hb) q.size)).mono ?_
  rintro e w3 ⟨kq,nq,sq,aq,bq,cq,dq,eq,fq,rfl,g1,g2⟩
  exact⟨kq,nq,sq,aq,bq,cq,dq,eq,fq,rfl,g1,g2⟩
 have hpt:∀(w1 w2:World) (kp np:Int) (sp:ByteArray) (ap:Option Addr) (bp cp:Nat) (dp:Option Addr) (ep fp:Nat) (w3:World) (kq nq:Int) (sq:ByteArray) (aq:Option Addr) (bq cq:Nat) (dq:Option Addr) (eq fq:Nat),Hid (Below W1.heap.size W1 w1∧Below w1.heap.size w1 w2∧RT Tryd.prog w2 w1.heap.size w2.heap.size 36 v [.int .i64 kp,.int .i64 np,.string sp,.slice ap bp cp,.slice dp ep fp])→Hid (Below (w2.alloc (.cells #[.int .i64 kp,.int .i64 np,.string sp,.slice ap bp cp,.slice dp ep fp] 36)).heap.size (w2.alloc (.cells #[.int .i64 kp,.int .i64 np,.string sp,.slice ap bp cp,.slice dp ep fp] 36)) w3∧RT Tryd.prog w3 (w2.alloc (.cells #[.int .i64 kp,.int .i64 np,.string sp,.slice ap bp cp,.slice dp ep fp] 36)).heap.size w3.heap.size 36 x [.int .i64 kq,.int .i64 nq,.string sq,.slice aq bq cq,.slice dq eq fq])→Calls Tryd.prog 60 #[.pointer (some ⟨w2.heap.size,0,none⟩),.slice aP ps.length cP,.agg #[.int .i64 kq,.int .i64 nq,.string sq,.slice aq bq cq,.slice dq eq fq]] w3 fun e w4=>e= .returned (.bool (putD ps v x).2)∧∃kr nr sr ar br cr dr er fr,w4.cell? ⟨w2.heap.size,0,none⟩=some (.int .i64 kr)∧w4.cell? ⟨w2.heap.size,1,none⟩=some (.int .i64 nr)∧w4.cell? ⟨w2.heap.size,2,none⟩=some (.string sr)∧w4.cell? ⟨w2.heap.size,3,none⟩=some (.slice ar br cr)∧w4.cell? ⟨w2.heap.size,4,none⟩=some (.slice dr er fr)∧w4.cell? ⟨w.heap.size+2,0,none⟩=some (.int .i64 0)∧w4.cell? ⟨w.heap.size+2,1,none⟩=some (.int .i64 0)∧w4.cell? ⟨w.heap.size+2,2,none⟩=some (.string ⟨#[]⟩)∧w4.cell? ⟨w.heap.size+2,3,none⟩=some (.slice none 0 0)∧w4.cell? ⟨w.heap.size+2,4,none⟩=some (.slice none 0 0)∧(∀t,w4.frozen? ⟨w.heap.size+2,t,none⟩=false)∧Hid (Below w.heap.size w w4∧∀w':World,w'=((((w4.setCell ⟨w.heap.size+2,0,none⟩ (.int .i64 kr)).setCell ⟨w.heap.size+2,1,none⟩ (.int .i64 nr)).setCell ⟨w.heap.size+2,2,none⟩ (.string sr)).setCell ⟨w.heap.size+2,3,none⟩ (.slice ar br cr)).setCell ⟨w.heap.size+2,4,none⟩ (.slice dr er fr)→Below w.heap.size w w'∧RD Tryd.prog (fun b=>b<w'.heap.size∧(b<w.heap.size→ok b)) w' 36 (putD ps v x).1 [.int .i64 kr,.int .i64 nr,.string sr,.slice ar br cr,.slice dr er fr]):=by
  intro w1 w2 kp np sp ap bp cp dp ep fp w3 kq nq sq aq bq cq dq eq fq hh1 hh2
  obtain⟨h1,h2,h3⟩:=hh1.out
  obtain⟨h4,h5⟩:=hh2.out
  have q1:=hmono w1 h1
  have q2:=below_via q1 h2 q1.size
  have q3:=below_via q2 (below_alloc' w2 (.cells #[.int .i64 kp,.int .i64 np,.string sp,.slice ap bp cp,.slice dp ep fp] 36)) q2.size
  have q4:=below_via q3 h4 q3.size
  have s1:=h1.size
  have s2:=h2.size
  have s4:=h4.size
  rw[alloc_size] at s4
  have hPC:PutC w3 w2.heap.size 0 w1.heap.size w2.heap.size #[.int .i64 kp,.int .i64 np,.string sp,.slice ap bp cp,.slice dp ep fp] 36 v [.int .i64 kp,.int .i64 np,.string sp,.slice ap bp cp,.slice dp ep fp] (fun c=>ok c∨(w2.heap.size+1≤c∧c<w3.heap.size)):=by
   refine⟨(h4.block _ (by rw[alloc_size];omega)).trans (alloc_at _ _ _),Nat.le_refl _,fun j hj=>by simp,h3.frame fun b _ hb=>(h4.block b (by rw[alloc_size];omega)).trans (alloc_old hb),by omega,.inr (Nat.le_refl _),fun c hc=>?_,hbv⟩
   rcases hc with hc|hc
   ·have:=hok c hc;omega
   ·omega
  have h:=put_ok ps v _ _ 0 _ _ _ _ _ (fun c=>ok c∨(w2.heap.size+1≤c∧c<w3.heap.size)) x [.int .i64 kq,.int .i64 nq,.string sq,.slice aq bq cq,.slice dq eq fq] (.slice aP ps.length cP) hPC (ht.mono fun b hb=>⟨.inl hb,q4.block b (hok b hb)⟩) (hp.mono fun b hb=>⟨.inl hb,q4.block b (hok b hb)⟩) (h5.toRD fun b hb1 hb2=> .inr ⟨by rw[alloc_size] at hb1;exact hb1,hb2⟩)
  refine h.mono ?_
  rintro e w4 ⟨rfl,hR⟩
  obtain⟨arr',cs',g1,g2,g3,g4,g5,g6⟩:=hR.res
  obtain⟨kr,nr,sr,ar,br,cr,dr,er,fr,rfl⟩:=rd_cells5 g6
  have hcell:∀j,j<5→w4.cell? ⟨w2.heap.size,j,none⟩=([.int .i64 kr,.int .i64 nr,.string sr,.slice ar br cr,.slice dr er fr]:List Value)[j]? :=fun j hj=>by
   have:=g5 j hj
   rw[Nat.zero_add] at this
   rw[cell_at g1,this]
  have hb4:=hR.below
  have s5:=hb4.size
  have hq:Below w.heap.size w w4:=⟨hb4.os.trans q4.os,hb4.tape.trans q4.tape,hb4.output.trans q4.output,Nat.le_trans q4.size s5,fun c hc=>(hb4.block c (by have:=q4.size;omega) (by have:=q1.size;omega)).trans (q4.block c hc)⟩
  have u:w4.heap[w.heap.size+2]? =some (.cells zV 36 (0,0)):=by
   rw[hb4.block _ (by omega) (by omega),h4.block _ (by rw[alloc_size];omega),alloc_old (by omega),h2.block _ (by omega),h1.block _ (by omega)]
   exact a3
  refine⟨rfl,kr,nr,sr,ar,br,cr,dr,er,fr,hcell 0 (by omega),hcell 1 (by omega),hcell 2 (by omega),hcell 3 (by omega),hcell 4 (by omega),cell_at u,cell_at u,cell_at u,cell_at u,cell_at u,fun t=>froz_at u,hq,fun w' hw'=>?_⟩
  replace hw':w'=w4.setCells (w.heap.size+2) 0 [.int .i64 kr,.int .i64 nr,.string sr,.slice ar br cr,.slice dr er fr]:=hw'
  obtain⟨z1,z2,z3,z4⟩:=scells_rest (w.heap.size+2) [.int .i64 kr,.int .i64 nr,.string sr,.slice ar br cr,.slice dr er fr] 0 w4
  have ho:∀c,c≠w.heap.size+2→w'.heap[c]? =w4.heap[c]? :=fun c hc=>by rw[hw'];exact scells_other _ _ _ _ hc
  refine⟨⟨by rw[hw',z1,hq.os],by rw[hw',z2,hq.tape],by rw[hw',z3,hq.output],by rw[hw',z4];exact hq.size,fun c hc=>(ho c (by omega)).trans (hq.block c hc)⟩,g6.mono fun c hc=>⟨⟨by rw[hw',z4];exact hc.1,fun hlt=>?_⟩,ho c ?_⟩⟩
  ·rcases hc.2.2 (by omega) with (h'|h')|h'
   ·exact h'
   ·omega
   ·omega
  ·intro e
   rcases hc.2.2 (by omega) with (h'|h')|h'
   ·have:=hok c h';omega
   ·omega
   ·omega
 refine Put_walk (putD ps v x).2 hk0 (fun w1=>Hid (Below W1.heap.size W1 w1)) (fun w1 w2 kp np sp ap bp cp dp ep fp=>Hid (Below W1.heap.size W1 w1∧Below w1.heap.size w1 w2∧RT Tryd.prog w2 w1.heap.size w2.heap.size 36 v [.int .i64 kp,.int .i64 np,.string sp,.slice ap bp cp,.slice dp ep fp])) (fun w1 w2 kp np sp ap bp cp dp ep fp w3 kq nq sq aq bq cq dq eq fq=>Hid (Below (w2.alloc (.cells #[.int .i64 kp,.int .i64 np,.string sp,.slice ap bp cp,.slice dp ep fp] 36)).heap.size (w2.alloc (.cells #[.int .i64 kp,.int .i64 np,.string sp,.slice ap bp cp,.slice dp ep fp] 36)) w3∧RT Tryd.prog w3 (w2.alloc (.cells #[.int .i64 kp,.int .i64 np,.string sp,.slice ap bp cp,.slice dp ep fp] 36)).heap.size w3.heap.size 36 x [.int .i64 kq,.int .i64 nq,.string sq,.slice aq bq cq,.slice dq eq fq])) (fun w4 kr nr sr ar br cr dr er fr=>Hid (Below w.heap.size w w4∧∀w':World,w'=((((w4.setCell ⟨w.heap.size+2,0,none⟩ (.int .i64 kr)).setCell ⟨w.heap.size+2,1,none⟩ (.int .i64 nr)).setCell ⟨w.heap.size+2,2,none⟩ (.string sr)).setCell ⟨w.heap.size+2,3,none⟩ (.slice ar br cr)).setCell ⟨w.heap.size+2,4,none⟩ (.slice dr er fr)→Below w.heap.size w w'∧RD Tryd.prog (fun b=>b<w'.heap.size∧(b<w.heap.size→ok b)) w' 36 (putD ps v x).1 [.int .i64 kr,.int .i64 nr,.string sr,.slice ar br cr,.slice dr er fr])) _ (by unfold W3 at hW1;rw[←hW1];exact hvc) hc1 hc2 hpt ?_ ?_
 ·intro hr w4 kr nr sr ar br cr dr er fr hE w' hw'
  refine⟨fun _=>?_,fun h=>?_⟩
  ·obtain⟨g1,g2⟩:=hE.out.2 w' hw'
   exact⟨_,rfl,g1,g2⟩
  ·rw[hr] at h;exact absurd h (by decide)
 ·intro hr w4 kr nr sr ar br cr dr er fr hE w' hw'
  refine⟨fun h=>?_,fun _=>?_⟩
  ·rw[hr] at h;exact absurd h (by decide)
  ·exact put_zero (zero_set hE.out.1 hw')
end Go.Proofs.YtmjnmiahblaanaaDoor
namespace Go.Proofs.YtmjnmiahblaanaaDoor
open Go.RowKit Go.Am
theorem rvs_three {P:Program} {ok:Nat→Prop} {w:World} {β:Nat→Option Value} {a b c:AV} {vs:List Value} (h:RVsX P ok w β [a,b,c] vs):∃x y z,vs=[x,y,z]∧RV P ok w β a x∧RV P ok w β b y∧RV P ok w β c z:=by
 cases h with
 |cons h1 r=>
  obtain⟨y,z,rfl,h2,h3⟩:=r.two
  exact⟨_,y,z,rfl,h1,h2,h3⟩
theorem g24:aggT Tryd.prog 24=false:=by kernel_rfl
theorem PutOut.rv {ok:Nat→Prop} {w w':World} {β:Nat→Option Value} {d:Dt} {k:Int} {e:Ending} (hk:0≤k∧k≤10) (h:PutOut ok w d k e w'):∃v,e= .returned v∧Below w.heap.size w w'∧RV Tryd.prog (fun b=>b<w'.heap.size∧(b<w.heap.size→ok b)) w' β (.tup [.dat 36 d,.dat 24 (.int k)]) v:=by
 obtain⟨cs,rfl,h1,h2⟩:=h
 refine⟨_,rfl,h1,_,rfl,rfl,fun i av hv=>?_⟩
 match i with
 |0=>simp only[List.getElem?_cons_zero,Option.some.injEq] at hv;subst hv;exact rv_datA g36 h2
 |1=>
  simp only[List.getElem?_cons_succ,List.getElem?_cons_zero,Option.some.injEq] at hv;subst hv
  have hi:RD Tryd.prog (fun b=>b<w'.heap.size∧(b<w.heap.size→ok b)) w' 24 (.int k) [.int .i64 k]:= .int Tryd.underlying24 (by simp[IntKind.min,IntKind.bits,IntKind.signed];omega) (by simp[IntKind.max,IntKind.bits,IntKind.signed];omega)
  exact rv_dat1 g24 hi
 |i+2=>simp at hv
set_option maxRecDepth 100000 in
theorem path_PutC_fx {v:Dt} {p:List Dt} {x:Dt} {r:Dt×Int} (h:path_PutC v p x=some r):FX Tryd.prog 31 [.dat 36 v,.dat 23 (.lst p),.dat 36 x] [] (.tup [.dat 36 r.1,.dat 24 (.int r.2)]) []:=by
 unfold path_PutC at h
 by_cases hb:v.bulk≤137438900000∧x.bulk≤137438900000
 ·rw[   if_pos hb] at h
  cases hV:P1.path_Valid 100 p with
  |none=>rw[hV] at h;cases h
  |some bv   =>
   rw[hV] at h
   simp only[Option.bind_some] at h
   refine fx_nil3 fun ok w β vs hok ha ht=>?_
   obtain⟨x1,x2,x3,rfl,hx1,hx2,hx3⟩:=rvs_three ha
   obtain⟨cs,rfl,hra⟩:=hx1.1 (show aggT _ 36=true from g36)
   obtain⟨cx,rfl,hrx⟩:=hx3.1 (show aggT _ 36=true from g36)
   cases hra with
   |    dat hrd =>
        cases hrx with
        |dat hrx =>
         cases hx2.2 (show aggT _ 23=false from g23) with
         |  dat hp=>
            cases bv with
            |false=>
             rw[if_pos rfl] at h
             cases h
             refine(Put_bad hV hok ht hrd hp hrx).mono ?_
             rintro e w' ho
             exact ho.rv ⟨by omega,by omega⟩
            |true=>
             rw[if_neg (by decide)] at h
             by_cases hk:Dt.I v 0≠5∨Dt.I x 0=0
             ·  rw[if_pos hk] at h
                cases h
                refine(Put_kind hV hk hok ht hrd hp hrx).mono ?_
                rintro e w' ho
                exact ho.rv ⟨by omega,by omega⟩
             ·  rw[if_neg hk] at h
                have h5:Dt.I v 0=5:=by apply Classical.byContradiction;intro h';exact hk (.inl h')
                have h0:Dt.I x 0≠0:=fun h'=>hk (.inr h')
                refine(Put_go hV hb.1 hb.2 h5 h0 hok ht hrd hp hrx).mono ?_
                rintro e w' ⟨ho1,ho2⟩
                cases hr:(putD p v x).2 with
                |true=>
                 rw[if_pos hr] at h
                 cases h
                 exact(ho1 hr).rv ⟨by omega,by omega⟩
                |false=>
                 rw[if_neg (by rw[hr];decide)] at h
                 cases h
                 exact(ho2 hr).rv ⟨by omega,by omega⟩
 ·rw[if_neg hb] at h
  cases h
end Go.Proofs.YtmjnmiahblaanaaDoor
