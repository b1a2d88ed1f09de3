/- slices.Clone at a row of the program's, as the machine sees it: the contract. -/
import Derived.Test.YtmecfjhdnbgfeaaGreatDoorOClone
import Derived.Test.YtmecfjhdnbgfeaaGreatDoorOLibS
set_option linter.all false
namespace Go.Proofs.YtmecfjhdnbgfeaaGreatDoor
open Go.RowKit Go.Am
def slices_Clone(es:List Dt):Option (List Dt):=bif Nat.ble es.length 137438953472 then some es else none
set_option maxRecDepth 100000 in
theorem cCE:Tryz.prog.cellsOf 26=5:=by kernel_rfl
set_option maxRecDepth 100000 in
theorem avb:(Tryz.prog.info? 26).map (fun i=>(i.zero,i.size,i.bytes))=some (some (.agg #[.int .i64 0,.int .i64 0,.string ByteArray.empty,.slice none 0 0,.slice none 0 0]),5,80):=by kernel_rfl
theorem info_parts'{i:Option TypeInfo}{z:Value}{s b:Nat}(h:i.map (fun i=>(i.zero,i.size,i.bytes))=some (some z,s,b)):∃i0,i=some i0∧i0.zero=some z∧i0.size=s∧i0.bytes=b:=by obtain⟨i0,rfl,e⟩:=aT.1 h;simp only[Prod.mk.injEq]at e;exact⟨i0,rfl,e.1,e.2.1,e.2.2⟩
def kM(g:Nat->List Value):Nat->List Value
 |0=>[]
 |n+1=>kM g n++g n
theorem qo{g:Nat->List Value}{s:Nat}:∀{n:Nat},(∀i,i<n->(g i).length=s)->(kM g n).length=n*s
 |0,_=>by simp[kM]
 |n+1,h=>by rw[kM,aW,qo fun i hi=>h i (Nat.lt_succ_of_lt hi),h n (Nat.lt_succ_self n),Nat.succ_mul]
theorem HY{g:Nat->List Value}{s:Nat}:∀{n:Nat},(∀i,i<n->(g i).length=s)->∀i,i<n->((kM g n).drop (i*s)).take s=g i
 |0,_,i,hi=>by omega
 |n+    1,h,i,hi=>by
  have hl:=qo (g:=g) (s:=s) (n:=n) fun i hi=>h i (Nat.lt_succ_of_lt hi);rw[kM];by_cases e:i=n
  ·subst e;rw[List.drop_append_of_le_length (by omega),List.drop_of_length_le (by omega),List.nil_append,List.take_of_length_le];rw[h i (Nat.lt_succ_self i)];exact aM _
  ·have hlt:i<n:=by omega
   have h1:i*s+s<=n*s:=by
        have:=aH s (show i+1<=n by omega)
        rwa [Nat.succ_mul]at this
   rw[List.drop_append_of_le_length (by omega),List.take_append_of_le_length (by rw[List.length_drop];omega)];exact HY (fun i hi=>h i (Nat.lt_succ_of_lt hi)) i hlt
theorem HZ{g:Nat->List Value}{s:Nat}{Q:Nat->Value->Prop}:∀{n:Nat},(∀i,i<n->(g i).length=s)->(∀i,i<n->∀j v,(g i)[j]? =some v->Q (i*s+j) v)->∀j v,(kM g n)[j]? =some v->Q j v
 |0,_,_,j,v,h=>by simp[kM]at h
 |n+1,h,hq,j,v,hv=>by
  have hl:=qo (g:=g) (s:=s) (n:=n) fun i hi=>h i (Nat.lt_succ_of_lt hi);rw[kM]at hv;by_cases hj:j<n*s
  ·rw[List.getElem?_append_left (by omega)]at hv;exact HZ (fun i hi=>h i (Nat.lt_succ_of_lt hi)) (fun i hi=>hq i (Nat.lt_succ_of_lt hi)) j v hv
  ·rw[List.getElem?_append_right (by omega)]at hv;have:=hq n (Nat.lt_succ_self n) _ v hv
   rwa [show n*s+(j-(kM g n).length)=j by omega]at this
theorem y7{g:Nat->List Value}{Q:Value->Prop}:∀{n:Nat},(∀i,i<n->∀c∈g i,Q c)->∀c∈kM g n,Q c
 |0,_,c,h=>by simp[kM]at h
 |n+1,h,c,hc=>by
  rcases List.mem_append.1 hc with hc|hc;·exact y7 (fun i hi=>h i (Nat.lt_succ_of_lt hi)) c hc
  ·exact h n (Nat.lt_succ_self n) c hc
theorem aoW(l:Nat):lk [] l=Ob.free:=by cases l<;>rfl
set_option maxRecDepth 100000 in
theorem Yu{es r:List Dt}(h:slices_Clone es=some r):FX Tryz.prog 28 [.dat 23 (.lst es)] [] (.row 0) [.row 23 r]:=by
 unfold slices_Clone at h;obtain⟨hn,h2⟩:=aC h;cases h2;have hn:=ak hn;intro ok w Z vs hok hobs hsep hvs _;obtain⟨z0,rest,rfl,hz0,hvs⟩:∃z0 rest,vs=z0::rest∧RV Tryz.prog ok w Z (.dat 23 (.lst es)) z0∧RVsX Tryz.prog ok w Z [] rest:=by cases hvs with|cons h r=>exact⟨_,_,rfl,h,r⟩
 cases hvs;obtain⟨_,hrd,_,_,_⟩:=RV.lst Tryz.underlying23 hz0;obtain⟨_,a,cap,ad,g,hv,hc,hm,ha,hg,hd⟩:=hrd.lst_inv Tryz.underlying23;simp only[Dt.toLst]at hv hc ha hg hd;obtain rfl:z0= .slice a es.length cap:=by simpa using hv
 rw[cCE]at hg;have hfree:∀l,Z l=none:=fun l=>by have:=hobs l;rw[aoW]at this;exact this
 have fin:∀(v':Value)(w':World),w'.ownsRow w.heap.size 26 5 v' es.length (kM g es.length)->v'.oneCell'=true->Below w.heap.size w w'->
   ∃v Z',Ending.returned v'=Ending.returned v∧FinX Tryz.prog ok w w' Z Z' [] [.row 23 es]∧RV Tryz.prog (okOf ⟨ok,XO [] Z,Z,0⟩ w w' [.row 23 es] Z') w' Z' (.row 0) v:=by
  intro v' w' hown h1 hb;have hown':∀l b,owns [Ob.row 23 es] (upB Z 0 (some v')) l b->l=0∧blk v'=some b:=by
   rintro l b ⟨h1,z,h2,h3⟩;match l,h1,h2 with
   |0,_,h2=>rw[bG]at h2;cases h2;exact⟨rfl,h3.of hown.notup⟩
   |l+1,h1,_=>cases l<;>cases h1
  have hge:∀b,blk v'=some b->w.heap.size<=b:=fun b hb'=>(gq hown hb').1;refine⟨v',upB Z 0 (some v'),rfl,⟨⟨hb.os,hb.tape,hb.output,hb.size,fun b hb' _=>hb.block b hb'⟩,fun l=>?_,fun l l' b q1 q2=>(hown' l b q1).1.trans (hown' l' b q2).1.symm,fun l b q1=> .inl (hge b (hown' l b q1).2),fun l hl=>by simp at hl⟩,?_⟩
  ·have hk:∀b,ok b->okOf ⟨ok,XO [] Z,Z,0⟩ w w' [Ob.row 23 es] (upB Z 0 (some v')) b∧w'.heap[b]? =w.heap[b]? :=fun b hb'=>by have hlt:=(hok b hb').1;exact⟨⟨Nat.lt_of_lt_of_le hlt hb.size,fun _=> .inl hb',fun l hl=>by have:=hge b (hown' l b hl).2;omega⟩,hb.block b hlt⟩
   match l with
   |    0=>
        refine⟨26,v',kM g es.length,bG _ _ _,Tryz.underlying23,?_,y7 fun i hi=>(hg i hi).2.1,fun i d hi=>?_⟩
        ·rw[cCE];exact⟨hown.1,hown.2.imp id fun⟨g,cap,cur,h1,h2,h3⟩=>⟨g,cap,cur,h1,aS _,h3⟩⟩
        ·rw[cCE,HY (fun i hi=>(hg i hi).1) i (au.1 hi).1];exact(hd i d hi).mono hk
   |    l+1=>
        show upB Z 0 _ (l+1)=none;rw[bR _ _ _ _ (by omega)];exact hfree _
  ·exact jS (bG _ _ _) h1
 obtain⟨i0,hi0,hz0',hz1,hz2⟩:=info_parts' avb;cases a with
 |none=>
  refine(Si es.length cap w).mono ?_;rintro e w' ⟨rfl,rfl⟩;have h0:es.length=0:=by
   rcases Nat.eq_zero_or_pos es.length with h|h;·exact h
   ·have:=(ha h).1;cases this
  refine fin _ _ ?_ rfl (Below.refl _ _);rw[h0];exact⟨by simp[kM],.inl ⟨rfl,rfl⟩⟩
 |some a0=>
  have hcl:=qo (g:=g) fun i hi=>(hg i hi).1;refine(M9 i0 _ 5 80 hi0 hz0' hz1 hz2 rfl (by decide) a0 es.length cap (kM g es.length) w hcl (Nat.le_trans hn (by decide)) (by omega) ?_ (y7 fun i hi=>(hg i hi).2.1)).mono ?_
  ·intro j u hj;have hpos:0<es.length:=by
        rcases Nat.eq_zero_or_pos es.length with h|h;·rw[h]at hj;simp[kM]at hj
        ·exact h
   have e0:a0=ad:=Option.some.inj (ha hpos).1;subst e0;exact HZ (Q:=fun j u=>w.cell? (a0.add j)=some u) (fun i hi=>(hg i hi).1) (fun i hi j v hv=>(hg i hi).2.2 j v hv) j u hj
  ·rintro e w' ⟨v',rfl,hown,hne,hb⟩;refine fin v' w' hown ?_ hb;rcases hown.2 with⟨rfl,_⟩| ⟨g',cap',cur',rfl,_⟩<;>rfl
