/- The law: Merge.
What the row's condition says of the package's tables:the blocks hold the cells that the machine's table lists.
The package's tables:what the rows' condition says is what the machine's table lists;a world that holds them. -/
import Derived.Test.YtmecfjhdnbgfeaaGreatDoorPD
import Derived.Test.YtmecfjhdnbgfeaaGreatDoorPB
import Derived.Test.YtmecfjhdnbgfeaaGreatDoorPA
import Derived.Test.YtmecfjhdnbgfeaaGreatDoorEF
import Derived.Test.YtmecfjhdnbgfeaaGreatDoorProg
import Derived.Test.YtmecfjhdnbgfeaaGreatDoorRows
import Derived.LaidLaws
import Derived.ChangeArms
import Derived.Lib.LaidTab
import Derived.PinnedBridge
import Derived.MakeChecks
import Derived.Lib.LaidIn
set_option linter.all false
namespace Go.Proofs.YtmecfjhdnbgfeaaGreatDoor
open Go.Am Dt
theorem vd1(m:Nat)(d:Dt)(hw:WV d)(hr:WR d)(hb:d.bulk<=1048576)(hm:3000000<=m)(hm2:m<9223372036854775000):∃b,yG (m+5) d=some b∧(b=false->Ok d∧I d 0=5):=by
 rw[yG];by_cases h5:I d 0=5
 ·have e:(I d 0 !=5)=false:=by rw[h5];rfl
  rw[e,cond_false,iC hw m (by omega) (by omega) (by omega),ah];exact⟨_,rfl,fun h=>⟨⟨hw,hr,by simpa using h,hb⟩,h5⟩⟩
 ·have e:(I d 0 !=5)=true:=by simp only[bne,Bool.not_eq_true',beq_eq_false_iff_ne];exact h5
  rw[e];exact⟨true,rfl,fun h=>by cases h⟩
def Vs(docs:List Dt):Prop:=docs.length<=1048576∧∀d∈docs,WV d∧WR d∧d.bulk<=1048576
theorem UK(m:Nat)(docs:List Dt)(hv:Vs docs)(hm:3000000<=m)(hm2:m<9223372036854775000):∀(M i:Nat),i<=docs.length->docs.length-i<M->
  ∃r:Int,uO (m+5) M docs (docs.length:Int) (i:Int)=some r∧(decide (0<=r)=false->∀d∈docs.drop i,Ok d∧I d 0=5)
 |0,i,_,h=>by omega
 |M+    1,i,hi,h=>by
  have hl:=hv.1;rw[uO,dlt];by_cases hlt:i<docs.length
  ·obtain⟨w1,w2,w3⟩:=hv.2 _ (aD hlt);obtain⟨b,b1,b2⟩:=vd1 m docs[i] w1 w2 w3 hm hm2;obtain⟨r,r1,r2⟩:=UK m docs hv hm hm2 M (i+1) (by omega) (by omega);rw[decide_eq_true hlt,cond_true,Qg,bg hlt,ah,b1,ah,Qf,bF (by omega)];cases b with
   |true=>exact⟨(i:Int),rfl,fun h=>by rw[dp1]at h;cases h⟩
   |    false=>
        refine⟨r,r1,fun h d hd=>?_⟩;rw[ay hlt]at hd;rcases List.mem_cons.1 hd with rfl|hd;·exact b2 rfl
        ·exact r2 h d hd
  ·have e:i=docs.length:=by omega
   subst e;rw[decide_eq_false hlt];exact⟨-1,rfl,fun _ d hd=>by simp at hd⟩
theorem Gq(m:Nat)(docs:List Dt)(hv:Vs docs)(hm:3000000<=m)(hm2:m<9223372036854775000):∃b,yH (m+8) docs=some b∧(b=true->docs.length<=30∧∀d∈docs,Ok d∧I d 0=5):=by
 have hl:=hv.1;rw[yH];by_cases h30:((docs.length:Nat):Int)<=30
 ·obtain⟨r,r1,r2⟩:=UK m docs hv hm hm2 (m+6) 0 (aN _) (by omega);have h9:i37 (m+6) docs=some r:=r1;rw[decide_eq_true h30,cond_true,i36,h9,ah,ah];refine⟨_,rfl,fun h=>⟨by omega,fun d hd=>r2 (by simpa using h) d (by simpa using hd)⟩⟩
 ·rw[decide_eq_false h30];exact⟨false,rfl,fun h=>by cases h⟩
theorem ap5(m:Nat)(hm:6000000<=m)(hm2:m<800000000000)(T:List Dt)(hl:T.length<100000000)(i:Nat)(hi:i<T.length)(hd:∀j(h:j<T.length),j<=i->Do T[j])(rec1:List Dt->Int->Int->Option Bool)(Q:Prop)(hr:(∀j(h:j<T.length),j<i->kc T[j]≠kc T[i])->∃b,rec1 T (T.length:Int) ((i+1:Nat):Int)=some b∧(b=true->Q)):∀(M j:Nat),j<=i->i-j<M->(∀k(h:k<T.length),k<j->kc T[k]≠kc T[i])->
  ∃b,Fu m rec1 M T (i:Int) (T.length:Int) (i:Int) (i:Int) (j:Int)=some b∧(b=true->Q)
 |0,j,_,h,_=>by omega
 |M+    1,j,hj,h,hk=>by
  rw[Fu,dlt];by_cases hlt:j<i
  ·have hjT:j<T.length:=by omega
   have h1:=hd j hjT (by omega);have h2:=hd i hi (by omega);have hb:=h1.id.bk;obtain⟨q,rfl⟩:∃q,m=q+3:=⟨m-3,by omega⟩;rw[decide_eq_true hlt,cond_true,abJ,bg hjT,ah,h1.idx,ah,bg hi,ah,h2.idx,ah];show ∃b,Option.bind (qA (q+3) (idD T[j]) (idD T[i])) _=_∧_;rw[Iu (idD T[j]) (idD T[i]) q (by omega) (by omega),ah];cases hc:(iT (idD T[j]) (idD T[i])==0)with
   |true=>exact⟨false,rfl,fun h=>by cases h⟩
   |    false=>
        have hne:kc T[j]≠kc T[i]:=fun he=>by rw[(FB h1.id.wv h2.id.wv h1.id.snd h2.id.snd).2 (ab6 h1 h2 he)]at hc;cases hc
        rw[cond_false,abI,bF (by omega)];exact ap5 (q+3) hm hm2 T hl i hi hd rec1 Q hr M (j+1) (by omega) (by omega) fun k hk' hk2=>by
         rcases Nat.lt_succ_iff_lt_or_eq.1 hk2 with h|rfl;·exact hk k hk' h
         ·exact hne
  ·have e:j=i:=by omega
   subst e;rw[decide_eq_false hlt,cond_false,abK,bF (by omega)];exact hr hk
theorem agN(m:Nat)(hm:6000000<=m)(hm2:m<790000000000)(T:List Dt)(hl:T.length<1000000)(hv:∀d∈T,Ok d∧I d 0=5):∀(M i:Nat),i<=T.length->T.length-i<M->(∀j(h:j<T.length),j<i->Do T[j])->(∀j k(hj:j<T.length)(hk:k<T.length),j<k->k<i->kc T[j]≠kc T[k])->
  ∃b,Bn (m+1) M T (T.length:Int) (i:Int)=some b∧(b=true->(∀d∈T,Do d)∧Df kc T)
 |0,i,_,h,_,_=>by omega
 |M+    1,i,  hi,h,g1,g2=>by
  rw[Bn,dlt];by_cases hlt:i<T.length
  ·obtain⟨    w1,w2⟩:=hv _ (aD hlt);obtain⟨e,e1,e2⟩:=KG w1 w2 (m:=m) (by omega) (by omega);rw[decide_eq_true hlt,cond_true,abL,bg hlt,ah,e1,ah];cases hz:(e !=0)with
   |true=>exact⟨false,rfl,fun h=>by cases h⟩
   |    false =>
        have hdi:Do T[i]:=e2 (by simpa using hz);rw[cond_false]
        exact ap5 (m+1) (by omega) (by omega) T (by omega) i hlt (fun j hj0 hj=>by
         rcases Nat.lt_or_eq_of_le hj with h|rfl;·exact g1 j hj0 h
         ·exact hdi) (Bn (m+1) M) _ (fun hn=>agN m hm hm2 T hl hv M (i+1) (by omega) (by omega) (fun j hj h=>by
          rcases Nat.lt_succ_iff_lt_or_eq.1 h with h|rfl;·exact g1 j hj h
          ·   exact hdi) (fun j k hj hk h1 h2=>by
              rcases Nat.lt_succ_iff_lt_or_eq.1 h2 with h|rfl;·exact g2 j k hj hk h1 h
              ·exact hn j hj h1)) (m+2) 0 (by omega) (by omega) (fun k hk hk2=>by omega)
  ·have e:i=T.length:=by omega
   subst e;rw[decide_eq_false hlt];exact⟨true,rfl,fun _=>⟨fun d hd=>by obtain⟨j,hj,rfl⟩:=List.mem_iff_getElem.1 hd;exact g1 j hj hj,List.pairwise_iff_getElem.2 fun j k hj hk hjk=>g2 j k hj hk hjk hk⟩⟩
theorem UL(m:Nat)(hm:40<=m)(l:List Dt)(hl:l.length<1000000000):∀(M i:Nat),i<=l.length->l.length-i<M->∃b,Ew (m+1) M l (i:Int)=some b
 |0,i,_,h=>by omega
 |M+    1,i,hi,h=>by
  rw[Ew,dlt];by_cases hlt:i<l.length
  ·rw[decide_eq_true hlt,cond_true,aaC,bg hlt,ah,Wm m (by omega),ah];cases nm (toStr l[i])with
   |false=>exact⟨false,rfl⟩
   |    true=>
        rw[Bool.not_true,cond_false,aaB,bF (by omega)];exact UL m hm l hl M (i+1) (by omega) (by omega)
  ·rw[decide_eq_false hlt];exact⟨true,rfl⟩
theorem aue(m:Nat)(l:List Dt)(hl:l.length<=10000000)(hm:10000100<=m):∃b,zH (m+1) l=some b:=by
 obtain⟨q,rfl⟩:∃q,m=q+1:=⟨m-1,by omega⟩;rw[zH];cases decide ((l.length:Int)<1)with
 |true=>exact⟨false,rfl⟩
 |false=>
  rw[cond_false,Sc];cases decide (16<(l.length:Int))with
  |true=>exact⟨false,rfl⟩
  |false=>exact UL q (by omega) l (by omega) (q+2) 0 (by omega) (by omega)
theorem UM(m:Nat)(hm:10000200<=m)(on:List Dt)(hl:on.length<1000000000)(hon:∀p∈on,Pth p):∀(M i:Nat),i<=on.length->on.length-i<M->∃r,Ey (m+2) M on (on.length:Int) (i:Int)=some r
 |0,i,_,h=>by omega
 |M+    1,i,hi,h=>by
  rw[Ey,dlt];by_cases hlt:i<on.length
  ·have hp:(toLst on[i]).length<=10000000:=hon _ (aD hlt);obtain⟨b,hb⟩:=aue m (toLst on[i]) hp (by omega);rw[decide_eq_true hlt,cond_true,aaE,bg hlt,ah,yB,hb,ah,ah];cases b with
   |false=>exact⟨_,rfl⟩
   |    true=>
        rw[Bool.not_true,cond_false,aaD,bF (by omega)];exact UM m hm on hl hon M (i+1) (by omega) (by omega)
  ·rw[decide_eq_false hlt];exact⟨_,rfl⟩
theorem Ym(m:Nat)(hm:10000200<=m)(on:List Dt)(hl:on.length<=8)(hon:∀p∈on,Pth p):∃b,i8 (m+4) on=some b:=by obtain⟨r,hr⟩:=UM m hm on (by omega) hon (m+3) 0 (by omega) (by omega);have hr:i9 (m+3) on=some r:=hr;rw[i8,hr];exact⟨_,rfl⟩
theorem Eb(m:Nat)(hm:20000000<=m)(hm2:m<700000000000){md:Dt}(hon:∀p∈L md 1,Pth p)(T docs:List Dt)(hT:Vs T)(hd:Vs docs):∃b,zP (m+9) md T docs=some b∧(b=true->(1<=I md 2∧I md 2<=4∧4<=I md 3∧I md 3<=6∧(L md 1).length<=8)∧(T.length<=30∧(∀d∈T,Do d)∧Df kc T)∧docs.length<=30∧∀d∈docs,Ok d∧I d 0=5):=by
 obtain⟨b,b1,b2⟩:=Gq m T hT (by omega) (by omega);obtain⟨c,c1,c2⟩:=Gq m docs hd (by omega) (by omega);rw[zP];by_cases k1:I md 2<1
 ·rw[decide_eq_true k1];exact⟨false,rfl,fun h=>by cases h⟩
 by_cases k2:4<I md 2
 ·rw[decide_eq_false k1,decide_eq_true k2];exact⟨false,rfl,fun h=>by cases h⟩
 by_cases k3:I md 3<4
 ·rw[decide_eq_false k1,decide_eq_false k2,decide_eq_true k3];exact⟨false,rfl,fun h=>by cases h⟩
 by_cases k4:6<I md 3
 ·rw[decide_eq_false k1,decide_eq_false k2,decide_eq_false k3,decide_eq_true k4];exact⟨false,rfl,fun h=>by cases h⟩
 by_cases k5:8<((L md 1).length:Int)
 ·rw[decide_eq_false k1,decide_eq_false k2,decide_eq_false k3,decide_eq_false k4,decide_eq_true k5];exact⟨false,rfl,fun h=>by cases h⟩
 obtain⟨g,hg⟩:=Ym (m+4) (by omega) (L md 1) (by omega) hon;rw[decide_eq_false k1,decide_eq_false k2,decide_eq_false k3,decide_eq_false k4,decide_eq_false k5,cond_false,cond_false,cond_false,cond_false,cond_false,hg,ah,wK];cases g with
 |true=>exact⟨false,rfl,fun h=>by cases h⟩
 |false=>
  rw[cond_false,abM,b1,ah];cases b with
  |false=>exact⟨false,rfl,fun h=>by cases h⟩
  |true=>
   rw[cond_true,c1,ah];cases c with
   |false=>exact⟨false,rfl,fun h=>by cases h⟩
   |    true=>
        obtain⟨l1,v1⟩:=b2 rfl;obtain⟨s,s1,s2⟩:=agN (m+6) (by omega) (by omega) T (by omega) v1 (m+8) 0 (by omega) (by omega) (fun j h h'=>by omega) (fun j k hj hk h1 h2=>by omega);have s1:qW (m+8) T=some s:=s1;rw[cond_true,s1];exact⟨s,rfl,fun h=>⟨⟨by omega,by omega,by omega,by omega,by omega⟩,⟨l1,s2 h⟩,c2 rfl⟩⟩
theorem axl{w:Dt}(h:Ws w){m:Nat}(hm:3000000<=m):zW (m+2) w w=some true:=by have r:∀d:Dt,d.bulk<=1048576->qU (m+1) d d=some true:=fun d hd=>BM 1048576 d hd (by omega) m (by omega);rw[zW,r _ h.1,r _ h.2.1,r _ h.2.2];simp only[beq_self_eq_true,cond_true,ah]
theorem Gr{W:List Dt}(h:∀w∈W,Ws w)(hl:W.length<=1000){m:Nat}(hm:3000000<=m):∀(M i:Nat),i<=W.length->W.length-i<M->ug (m+2) M W W (W.length:Int) (i:Int)=some true
 |0,i,_,h=>by omega
 |M+1,i,hi,hM=>by
  rw[ug,dlt];by_cases hlt:i<W.length
  ·rw[decide_eq_true hlt,cond_true,PD,bg hlt,ah,ah,axl (h _ (aD hlt)) hm,ah,Bool.not_true,cond_false,Pz,bF (by omega)];exact Gr h hl hm M (i+1) (by omega) (by omega)
  ·rw[decide_eq_false hlt];rfl
theorem same_eq{W:List Dt}(h:∀w∈W,Ws w)(hl:W.length<=1000){m:Nat}(hm:3000010<=m):zZ (m+1) W W=some true:=by
 obtain⟨q,rfl⟩:∃q,m=q+3:=⟨m-3,by omega⟩;have k:=Gr h hl (m:=q) (by omega) (q+3) 0 (by omega) (by omega);have e:i34 (q+3) W W=some true:=by rw[i34,bne_self_eq_false,cond_false];exact k
 rw[zZ,e];rfl
theorem Yn(md:Dt)(hon:∀p∈L md 1,Pth p)(T docs:List Dt)(hT:Vs T)(hd:Vs docs):zU (400000000000+1) md T docs=some true:=by
 obtain⟨b,b1,b2⟩:=Eb 399999999991 (by omega) (by omega) hon T docs hT hd;have b1:zP 400000000000 md T docs=some b:=b1;have aw:qx=some true:=rfl;rw[zU,b1,ah];cases b with
 |false=>rw[Bool.not_false,cond_true,aw];rfl
 |true=>
  obtain⟨⟨k1,k2,k3,k4,k5⟩,⟨t1,t2,t3⟩,d1,d2⟩:=b2 rfl;obtain⟨W,e,w1,w2,w3,w4⟩:=RG (m:=399999999999) ⟨hon,k5⟩ k1 k2 k3 k4 (by omega) (by omega) T docs t2 t3 (by omega) (fun d hd=>⟨(d2 d hd).1,(d2 d hd).2⟩) (by omega);have w1:qQ 400000000000 md T docs=some (W,e):=w1;have w2:qL 400000000000 md T docs=some (W,e):=w2;have s1:zZ 400000000000 W W=some true:=same_eq w3 w4 (m:=399999999999) (by omega);rw[Bool.not_true,cond_false,abN,w1,ah,w2,ah];dsimp only;rw[beq_self_eq_true,cond_true,s1,ah,cond_true,aw];rfl
theorem auf{md p:Dt}(hb:md.bulk<=1048576)(hp:p∈L md 1):Pth p:=by
 have h1:=lg hp;have h2:(toLst p).length<=p.bulk:=by cases p<;>simp only[toLst,List.length_nil,aN];have:=dx (l:= ‹List Dt›);simp only[Dt.bulk];omega
 show (toLst p).length<=10000000;omega
theorem agO{ds:List Dt}(h:HasTys Tryz.prog Tryz.f7.params.toList ds)(hb:bulkL ds<=1048576):FX Tryz.prog 7 (anQ Tryz.f7.params.toList ds) [] (.dat 4 (.bool true)) []:=by
 have h':HasTys Tryz.prog [51,23,23] ds:=h;match ds,h',hb with
 | [md,x,y],.cons _ (.cons h1 (.cons h2 .nil)),hb=>
   obtain⟨e1,_,w1⟩:=amf Tryz.underlying23 h1;obtain⟨e2,_,w2⟩:=amf Tryz.underlying23 h2;rw[e1,e2]at hb ⊢
   simp only[bulkL,Dt.bulk]at hb;have l1:=dx x.toLst;have l2:=dx y.toLst;have f:=ap2 400000000000 (aw2 400000000000) _ _ _ _ (Yn md (fun p hp=>auf (by omega) hp) x.toLst y.toLst ⟨by omega,fun d hd=>⟨asl (w1 d hd),asn (w1 d hd),by have:=dh hd;omega⟩⟩ ⟨by omega,fun d hd=>⟨asl (w2 d hd),asn (w2 d hd),by have:=dh hd;omega⟩⟩);exact f
end Go.Proofs.YtmecfjhdnbgfeaaGreatDoor
namespace Go.Proofs.YtmecfjhdnbgfeaaGreatDoor
open Go.Am
mutual
def gv{H:Type}:DataW H->List Value
 | .lit (.int k m)=>[.int k m]
 | .lit (.bool b)=>[.bool b]
 | .lit (.string s)=>[.string ⟨s.toArray⟩]
 | .agg ds=>gvL ds
 |_=>[]
def gvL{H:Type}:List (DataW H)->List Value
 | []=>[]
 |d::r=>gv d++gvL r
end
section
variable{H:Type}{enc:TypeId×Value->H}{P:Program}{w:World}{base:Nat}{sp:Nat->Bool}{held:Bool}
def Told(enc:TypeId×Value->H)(P:Program)(w:World)(base:Nat)(sp:Nat->Bool)(held:Bool)(e:TypeId):Prop:=∀(fuel:Nat)(cs:List Value)(x:DataW H×List MemPlace),DataW.trod enc P w base sp held fuel e cs=some x->cs=gv x.1
theorem MU{e:TypeId}{k:IntKind}(he:P.underlying e=some (.int k)):Told enc P w base sp held e:=fun fuel cs x h=>by obtain⟨z,rfl,rfl,_⟩:=DataW.trod_int he h;rfl
theorem agP{e f:TypeId}{F0 F1:Field}(hu:P.underlying e=some (.struct #[F0,F1]))(h0:F0.offset=0)(h1:F1.offset=1)(hf0:F0.type=f)(hf1:F1.type=f)(hc:P.cellsOf e=2)(hcf:P.cellsOf f=1)(hf:Told enc P w base sp held f):Told enc P w base sp held e:=fun fuel cs x h=>by
 obtain⟨xs,m,_,rfl,hlen,hxl,hget⟩:=DataW.trod_struct hu h;rw[hc]at hlen;match cs,hlen with
 | [a,b],_=>
   have hx2:xs.length=2:=hxl;match xs,hx2 with
   | [u,v],_=>
     have g0:=hget 0 F0 rfl;have g1:=hget 1 F1 rfl;rw[h0,hf0,hcf]at g0;rw[h1,hf1,hcf]at g1;have e0:=hf _ _ _ g0;have e1:=hf _ _ _ g1;show [a,b]=gv u.1++(gv v.1++[]);rw[←e0,←e1];rfl
theorem UN{n s:Nat}:∀{ds:List (DataW H)}{cs:List Value},cs.length=ds.length*s->(∀i D,ds[i]? =some D->(cs.drop (i*s)).take s=gv D)->cs=gvL ds
 | [],cs,hl,_=>by have:cs=[]:=List.eq_nil_of_length_eq_zero (by simpa using hl);subst this;rfl
 | d::r,cs,hl,h=>by
   have h0:=h 0 d rfl;rw[Nat.zero_mul,aK]at h0;have hl':cs.length=r.length*s+s:=by rw[hl,List.length_cons,Nat.succ_mul]
   have ih:=UN (n:=n) (s:=s) (ds:=r) (cs:=cs.drop s) (by rw[List.length_drop];omega) fun i D hD=>by have:=h (i+1) D (by simpa using hD);rw[List.drop_drop,show s+i*s=(i+1)*s by rw[Nat.succ_mul];omega];exact this
   show cs=gv d++gvL r;rw[←h0,←ih,List.take_append_drop]
theorem MV{t e:TypeId}{n:Nat}(ht:P.underlying t=some (.array n e))(hct:P.cellsOf t=n*P.cellsOf e)(he:Told enc P w base sp held e):Told enc P w base sp held t:=fun fuel cs x h=>by
 cases fuel with
 |zero=>simp[DataW.trod]at h
 |succ fuel=>
  simp only[DataW.trod,ht]at h;split at h
  ·rename_i hl;obtain⟨xs,hm,rfl⟩:=aW.1 h;have hxl:xs.length=n:=by simpa using Lib.mapM_length hm
   show cs=gvL (xs.map (·.1));refine UN (n:=n) (s:=P.cellsOf e) (by rw[List.length_map,hxl];omega) fun i D hD=>?_;rw[List.getElem?_map]at hD;obtain⟨y,hy,rfl⟩:=aW.1 hD;have hi:i<n:=by rw[←hxl];exact(ak.1 hy).1
   obtain⟨b,hb,hf⟩:=Lib.mapM_at hm i i (by simp[hi]);rw[hy]at hb;cases hb;exact he _ _ _ hf
  ·cases h
end
theorem mI{P:Program}{W:World}:∀{l:List (String×DataW Unit)}{ps:List MemPlace}{name:String}{d:DataW Unit}{g:Nat}{t:TypeId},DataW.LaidVars P W l ps->(name,d)∈l->P.globalNamed name=some g->(P.globals[g]?).map (·.type)=some t->Told (fun _=>()) P W 0 (fun _=>true) false t->
  W.var? P name=some (gv d).toArray
 | [],ps,name,d,g,t,_,hm,_,_,_=>by cases hm
 |(n,d')::r,ps,name,d,g,t,h,hm,hg,hty,ht=>by
  obtain⟨g',t',cs,fuel,p,q,hg',ht',hvar,hd,hr,rfl⟩:=h;rcases List.mem_cons.1 hm with e|hm
  ·cases e;obtain rfl:=Option.some.inj (hg.symm.trans hg');obtain rfl:=Option.some.inj (hty.symm.trans ht');have:=ht _ _ _ hd;rw[hvar,←this]
  ·exact mI hr hm hg hty ht
theorem tu{P:Program}{W:World}{name:String}{g:Nat}{cs:Array Value}(hg:P.globalNamed name=some g)(h:W.var? P name=some cs):∃(T:TypeId)(fr:Nat×Nat),W.heap[g]? =some (.cells cs T fr):=by
 unfold World.var? at h;rw[hg]at h;simp only[ah]at h;cases hb:W.heap[g]? with
 |none=>rw[hb]at h;simp at h
 |some o=>
  rw[hb]at h;cases o with
  |cells c T fr=>simp only[aA]at h;subst h;exact⟨T,fr,rfl⟩
  |_=>simp at h
theorem ant{W:World}{g:Nat}{cs:List Value}(h:∃(T:TypeId)(fr:Nat×Nat),W.heap[g]? =some (.cells cs.toArray T fr)):g<W.heap.size∧∃(T:TypeId)(fr:Nat×Nat),W.heap[g]? =some (.cells cs.toArray T fr):=by refine⟨?_,h⟩;obtain⟨T,fr,h⟩:=h;exact(Array.getElem?_eq_some_iff.1 h).1
noncomputable def UO:List (String×DataW Unit):=[("unicode/utf8.acceptRanges",Rows.laid_unicode_utf8_acceptRanges),("unicode/utf8.first",Rows.laid_unicode_utf8_first)]
noncomputable def ayq:List (String×DataW Unit×Nat):=[("unicode/utf8.first",Rows.laid_unicode_utf8_first,1),("unicode/utf8.acceptRanges",Rows.laid_unicode_utf8_acceptRanges,2)]
set_option maxRecDepth 100000 in
theorem anu:tabs=ayq.map fun q=>(q.2.2,gv q.2.1):=by kernel_rfl
section
variable{W:World}
theorem Rt:Told (fun _=>()) Tryz.prog W 0 (fun _=>true) false 227:=MV Tryz.underlying227 (by kernel_rfl) (MU Tryz.underlying5)
theorem agQ:Told (fun _=>()) Tryz.prog W 0 (fun _=>true) false 230:=MV Tryz.underlying230 (by kernel_rfl) (agP (f:=5) Tryz.underlying229 rfl rfl rfl rfl (by kernel_rfl) (by kernel_rfl) (MU Tryz.underlying5))
set_option maxRecDepth 100000 in
theorem agR(h:laidMetH Tryz.prog UO W):TabOK (fun b=>b<W.heap.size) W:=by
 rw[Go.MakeChecks.laidMetH_plain _ _ _ (by kernel_rfl)]at h;obtain⟨ps,hl,_⟩:=h;refine⟨?_,fun g hg=>by have hg':g∈([]:List Nat):=hg;cases hg'⟩;intro t ht;rw[anu]at ht;obtain⟨q,hq,rfl⟩:=List.mem_map.1 ht;have key:∃(T:TypeId)(fr:Nat×Nat),W.heap[q.2.2]? =some (.cells (gv q.2.1).toArray T fr):=by
  have hq':q∈[("unicode/utf8.first",Rows.laid_unicode_utf8_first,1),("unicode/utf8.acceptRanges",Rows.laid_unicode_utf8_acceptRanges,2)]:=hq;rcases List.mem_cons.1 hq' with rfl|hq';·exact tu (by kernel_rfl) (mI hl (g:=1) (t:=227) (.tail _ (.head _)) (by kernel_rfl) (by kernel_rfl) Rt)
  rcases List.mem_cons.1 hq' with rfl|hq';·exact tu (by kernel_rfl) (mI hl (g:=2) (t:=230) (.head _) (by kernel_rfl) (by kernel_rfl) agQ)
  cases hq'
 exact ant key
end
noncomputable def kD(os:Os):World:=
 let w0:=World.holding Tryz.prog os ⟨#[],#[],[]⟩
 let put (h:Array Obj) (g:Nat) (cs:List Value):Array Obj:=h.modify g fun
  | .cells _ t frozen=> .cells cs.toArray t frozen
  |o=>o
 let h1:=put w0.heap 2 (gv (H:=Unit) Rows.laid_unicode_utf8_acceptRanges)
 let h2:=put h1 1 (gv Rows.laid_unicode_utf8_first)
 {w0 with heap:=h2}
set_option maxRecDepth 100000 in
theorem Yo(os:Os)(args:Array Value):laidMet Tryz.prog UO ((kD os).forCall (fun _ _=>0) ⟨#[],args,[]⟩).memory:=
 (LaidIn.of_run (l:=UO) [2,1] 8 (by kernel_rfl) (by kernel_rfl) (by kernel_rfl) (by kernel_rfl)).met
