/- The law: Merged.
What the row's condition says of the package's tables:the blocks hold the cells that the machine's table lists.
The package's tables:what the rows' condition says is what the machine's table lists;a world that holds them. -/
import Derived.Test.YtmecfjhdnbgfeaaGreatDoorPB
import Derived.Test.YtmecfjhdnbgfeaaGreatDoorPA
import Derived.Test.YtmecfjhdnbgfeaaGreatDoorEF
import Derived.Test.YtmecfjhdnbgfeaaGreatDoorProg
import Derived.Test.YtmecfjhdnbgfeaaGreatDoorRows
import Derived.LaidLaws
import Derived.ChangeArms
import Derived.Lib.LaidTab
import Derived.PinnedBridge
import Derived.MakeChecks
import Derived.Lib.LaidIn
set_option linter.all false
namespace Go.Proofs.YtmecfjhdnbgfeaaGreatDoor
open Go.Am Dt
theorem Qs{m:Nat}(hm:5000000<=m)(hm2:m<800000000000){d:Dt}(h:Do d)(D:List Dt)(hD:∀x∈D,Do x)(hl:D.length<100000000):∀(M i:Nat),i<=D.length->D.length-i<M->
  wP m M (D.length:Int) (i:Int) D d=some (match fk kc (kc d) (D.drop i)with|some j=>D.set (i+j) d|none=>D++[d])
 |0,i,_,h=>by omega
 |M+    1,i,hi,hM=>by
  rw[wP,dlt];by_cases hlt:i<D.length
  ·have ho:=hD _ (aI hlt);have hb:=ho.id.bk;obtain⟨q,rfl⟩:∃q,m=q+3:=⟨m-3,by omega⟩;rw[decide_eq_true hlt,cond_true,WQ,fJ hlt,ah,Int.toNat_natCast,aG hlt,ah,ho.idx,ah,h.idx,ah];show Option.bind (qC (q+3) (idD D[i]) (idD d)) _=_;rw[Yy (idD D[i]) (idD d) q (by omega) (by omega),ah,aD hlt,fk];by_cases he:kc D[i]=kc d
   ·    have hc:Bu (idD D[i]) (idD d)=0:=(Pg ho.id.wv h.id.wv ho.id.snd h.id.snd).2 (M8 ho h he);rw[if_pos he,hc];rfl
   ·    have hc:(Bu (idD D[i]) (idD d)==0)=false:=by rw[beq_eq_false_iff_ne];intro hc;exact he (by unfold kc;rw[(Pg ho.id.wv h.id.wv ho.id.snd h.id.snd).1 hc])
        rw[if_neg he,hc,cond_false,WO,bK (by omega),Qs hm hm2 h D hD hl M (i+1) (by omega) (by omega)];cases fk kc (kc d) (D.drop (i+1))with
        |none=>rfl
        |some j=>
         show some (D.set (i+1+j) d)=some (D.set (i+(j+1)) d);rw[Nat.add_assoc,Nat.add_comm 1 j]
  ·have e:i=D.length:=by omega
   subst e;rw[decide_eq_false hlt,cond_false,WS,qw (by omega),List.drop_length];rfl
theorem acQ{m:Nat}(hm:5000000<=m)(hm2:m<800000000000){d:Dt}(h:Do d)(D:List Dt)(hD:∀x∈D,Do x)(hl:D.length<1000000):i6 (m+1) d D=some (eZ kc D d):=by
 have:=Qs hm hm2 h D hD (by omega) (m+1) 0 (by omega) (by omega);rw[aQ]at this;rw[i6];show wP m (m+1) (D.length:Int) ((0:Nat):Int) D d=_;rw[this];unfold eZ;cases fk kc (kc d) D with
 |none=>rfl
 |some j=>
  show some (D.set (0+j) d)=some (D.set j d);rw[Nat.zero_add]
theorem vd1(m:Nat)(d:Dt)(hw:WV d)(hr:WR d)(hb:d.bulk<=1048576)(hm:3000000<=m)(hm2:m<9223372036854775000):∃b,zZ (m+5) d=some b∧(b=false->Ok d∧I d 0=5):=by
 rw[zZ];by_cases h5:I d 0=5
 ·have e:(I d 0 !=5)=false:=by rw[h5];rfl
  rw[e,cond_false,mE hw m (by omega) (by omega) (by omega),ah];exact⟨_,rfl,fun h=>⟨⟨hw,hr,by simpa using h,hb⟩,h5⟩⟩
 ·have e:(I d 0 !=5)=true:=by simp only[bne,Bool.not_eq_true',beq_eq_false_iff_ne];exact h5
  rw[e];exact⟨true,rfl,fun h=>by cases h⟩
def Vs(docs:List Dt):Prop:=docs.length<=1048576∧∀d∈docs,WV d∧WR d∧d.bulk<=1048576
theorem Qt(m:Nat)(docs:List Dt)(hv:Vs docs)(hm:3000000<=m)(hm2:m<9223372036854775000):∀(M i:Nat),i<=docs.length->docs.length-i<M->
  ∃r:Int,sS (m+5) M docs (docs.length:Int) (i:Int)=some r∧(decide (0<=r)=false->∀d∈docs.drop i,Ok d∧I d 0=5)
 |0,i,_,h=>by omega
 |M+    1,i,hi,h=>by
  have hl:=hv.1;rw[sS,dlt];by_cases hlt:i<docs.length
  ·obtain⟨w1,w2,w3⟩:=hv.2 _ (aI hlt);obtain⟨b,b1,b2⟩:=vd1 m docs[i] w1 w2 w3 hm hm2;obtain⟨r,r1,r2⟩:=Qt m docs hv hm hm2 M (i+1) (by omega) (by omega);rw[decide_eq_true hlt,cond_true,MH,bE hlt,ah,b1,ah,MG,bK (by omega)];cases b with
   |true=>exact⟨(i:Int),rfl,fun h=>by rw[dp1]at h;cases h⟩
   |    false=>
        refine⟨r,r1,fun h d hd=>?_⟩;rw[aD hlt]at hd;rcases List.mem_cons.1 hd with rfl|hd;·exact b2 rfl
        ·exact r2 h d hd
  ·have e:i=docs.length:=by omega
   subst e;rw[decide_eq_false hlt];exact⟨-1,rfl,fun _ d hd=>by simp at hd⟩
theorem D7(m:Nat)(docs:List Dt)(hv:Vs docs)(hm:3000000<=m)(hm2:m<9223372036854775000):∃b,z6 (m+8) docs=some b∧(b=true->docs.length<=30∧∀d∈docs,Ok d∧I d 0=5):=by
 have hl:=hv.1;rw[z6];by_cases h30:((docs.length:Nat):Int)<=30
 ·obtain⟨r,r1,r2⟩:=Qt m docs hv hm hm2 (m+6) 0 (aS _) (by omega);have h9:i41 (m+6) docs=some r:=r1;rw[decide_eq_true h30,cond_true,i40,h9,ah,ah];refine⟨_,rfl,fun h=>⟨by omega,fun d hd=>r2 (by simpa using h) d (by simpa using hd)⟩⟩
 ·rw[decide_eq_false h30];exact⟨false,rfl,fun h=>by cases h⟩
theorem Qu(m:Nat)(docs:List Dt)(hv:∀d∈docs,Ok d∧I d 0=5)(hl:docs.length<100000000)(hm:6000000<=m)(hm2:m<800000000000):∀(M i:Nat),i<=docs.length->docs.length-i<M->
  ∃r:Int,sU (m+2) M docs (docs.length:Int) (i:Int)=some r∧(decide (0<=r)=false->∀d∈docs.drop i,Do d)
 |0,i,_,h=>by omega
 |M+    1,i,hi,h=>by
  rw[sU,dlt];by_cases hlt:i<docs.length
  ·obtain⟨w1,w2⟩:=hv _ (aI hlt);obtain⟨e,e1,e2⟩:=vv w1 w2 (m:=m) (by omega) (by omega);obtain⟨r,r1,r2⟩:=Qu m docs hv hl hm hm2 M (i+1) (by omega) (by omega);rw[decide_eq_true hlt,cond_true,ML,bE hlt,ah,zO,e1,ah,ah,MK,bK (by omega)];cases hz:(e !=0)with
   |true=>exact⟨(i:Int),rfl,fun h=>by rw[dp1]at h;cases h⟩
   |    false=>
        refine⟨r,r1,fun h d hd=>?_⟩;rw[aD hlt]at hd;rcases List.mem_cons.1 hd with rfl|hd;·exact e2 (by simpa using hz)
        ·exact r2 h d hd
  ·have e:i=docs.length:=by omega
   subst e;rw[decide_eq_false hlt];exact⟨-1,rfl,fun _ d hd=>by simp at hd⟩
theorem amt(m:Nat)(hm:6000000<=m)(hm2:m<800000000000)(T:List Dt)(hl:T.length<100000000)(i:Nat)(hi:i<T.length)(hd:∀j(h:j<T.length),j<=i->Do T[j])(rec1:List Dt->Int->Int->Option Bool)(Q:Prop)(hr:(∀j(h:j<T.length),j<i->kc T[j]≠kc T[i])->∃b,rec1 T (T.length:Int) ((i+1:Nat):Int)=some b∧(b=true->Q)):∀(M j:Nat),j<=i->i-j<M->(∀k(h:k<T.length),k<j->kc T[k]≠kc T[i])->
  ∃b,CV m rec1 M T (i:Int) (T.length:Int) (i:Int) (i:Int) (j:Int)=some b∧(b=true->Q)
 |0,j,_,h,_=>by omega
 |M+    1,j,hj,h,hk=>by
  rw[CV,dlt];by_cases hlt:j<i
  ·have hjT:j<T.length:=by omega
   have h1:=hd j hjT (by omega);have h2:=hd i hi (by omega);have hb:=h1.id.bk;obtain⟨q,rfl⟩:∃q,m=q+3:=⟨m-3,by omega⟩;rw[decide_eq_true hlt,cond_true,X9,bE hjT,ah,h1.idx,ah,bE hi,ah,h2.idx,ah];show ∃b,Option.bind (qC (q+3) (idD T[j]) (idD T[i])) _=_∧_;rw[Yy (idD T[j]) (idD T[i]) q (by omega) (by omega),ah];cases hc:(Bu (idD T[j]) (idD T[i])==0)with
   |true=>exact⟨false,rfl,fun h=>by cases h⟩
   |    false=>
        have hne:kc T[j]≠kc T[i]:=fun he=>by rw[(Pg h1.id.wv h2.id.wv h1.id.snd h2.id.snd).2 (M8 h1 h2 he)]at hc;cases hc
        rw[cond_false,X8,bK (by omega)];exact amt (q+3) hm hm2 T hl i hi hd rec1 Q hr M (j+1) (by omega) (by omega) fun k hk' hk2=>by
         rcases Nat.lt_succ_iff_lt_or_eq.1 hk2 with h|rfl;·exact hk k hk' h
         ·exact hne
  ·have e:j=i:=by omega
   subst e;rw[decide_eq_false hlt,cond_false,Ya,bK (by omega)];exact hr hk
theorem acR(m:Nat)(hm:6000000<=m)(hm2:m<790000000000)(T:List Dt)(hl:T.length<1000000)(hv:∀d∈T,Ok d∧I d 0=5):∀(M i:Nat),i<=T.length->T.length-i<M->(∀j(h:j<T.length),j<i->Do T[j])->(∀j k(hj:j<T.length)(hk:k<T.length),j<k->k<i->kc T[j]≠kc T[k])->
  ∃b,yR (m+1) M T (T.length:Int) (i:Int)=some b∧(b=true->(∀d∈T,Do d)∧Df kc T)
 |0,i,_,h,_,_=>by omega
 |M+    1,i,  hi,h,g1,g2=>by
  rw[yR,dlt];by_cases hlt:i<T.length
  ·obtain⟨    w1,w2⟩:=hv _ (aI hlt);obtain⟨e,e1,e2⟩:=vv w1 w2 (m:=m) (by omega) (by omega);rw[decide_eq_true hlt,cond_true,Yb,bE hlt,ah,e1,ah];cases hz:(e !=0)with
   |true=>exact⟨false,rfl,fun h=>by cases h⟩
   |    false =>
        have hdi:Do T[i]:=e2 (by simpa using hz);rw[cond_false]
        exact amt (m+1) (by omega) (by omega) T (by omega) i hlt (fun j hj0 hj=>by
         rcases Nat.lt_or_eq_of_le hj with h|rfl;·exact g1 j hj0 h
         ·exact hdi) (yR (m+1) M) _ (fun hn=>acR m hm hm2 T hl hv M (i+1) (by omega) (by omega) (fun j hj h=>by
          rcases Nat.lt_succ_iff_lt_or_eq.1 h with h|rfl;·exact g1 j hj h
          ·   exact hdi) (fun j k hj hk h1 h2=>by
              rcases Nat.lt_succ_iff_lt_or_eq.1 h2 with h|rfl;·exact g2 j k hj hk h1 h
              ·exact hn j hj h1)) (m+2) 0 (by omega) (by omega) (fun k hk hk2=>by omega)
  ·have e:i=T.length:=by omega
   subst e;rw[decide_eq_false hlt];exact⟨true,rfl,fun _=>⟨fun d hd=>by obtain⟨j,hj,rfl⟩:=List.mem_iff_getElem.1 hd;exact g1 j hj hj,List.pairwise_iff_getElem.2 fun j k hj hk hjk=>g2 j k hj hk hjk hk⟩⟩
theorem acS(m:Nat)(hm:100<=m):i14 (m+5) (L jP 1)=some false:=by
 have hn:nm uid=true:=by decide+kernel
 have h1:zD (m+2) [.str uid]=some true:=by rw[zD];show uS (m+1) (m+2) [.str uid] 0=_;rw[uS];show Option.bind (qS (m+1) uid) _=_;rw[RO m (by omega) uid,hn,ah];show uS (m+1) (m+1) [.str uid] 1=_;rw[uS];rfl
 rw[i14,i15];show Option.bind (kG (m+3) (m+4) [.lst [.str uid]] 1 0) _=_;rw[kG];show Option.bind (Option.bind (zQ (m+3) [.str uid]) _) _=_;rw[zQ,h1,ah,ah];show Option.bind (kG (m+3) (m+3) [.lst [.str uid]] 1 1) _=_;rw[kG];rfl
theorem BM(m:Nat)(hm:7000000<=m)(hm2:m<700000000000)(T docs:List Dt)(hT:Vs T)(hd:Vs docs):∃b,zG (m+9) jP T docs=some b∧(b=true->(T.length<=30∧(∀d∈T,Do d)∧Df kc T)∧docs.length<=30∧∀d∈docs,Ok d∧I d 0=5):=by
 obtain⟨b,b1,b2⟩:=D7 m T hT (by omega) (by omega);obtain⟨c,c1,c2⟩:=D7 m docs hd (by omega) (by omega);have e0:zG (m+9) jP T docs=Option.bind (i14 (m+8) (L jP 1)) fun r3=>qb (m+8) T docs r3:=by rw[zG];rfl
 rw[e0,acS (m+3) (by omega),ah,qb,cond_false,Yc,b1,ah];cases b with
 |false=>exact⟨false,rfl,fun h=>by cases h⟩
 |true=>
  rw[cond_true,c1,ah];cases c with
  |false=>exact⟨false,rfl,fun h=>by cases h⟩
  |true=>
   obtain⟨l1,v1⟩:=b2 rfl;obtain⟨s,s1,s2⟩:=acR (m+6) (by omega) (by omega) T (by omega) v1 (m+8) 0 (by omega) (by omega) (fun j h h'=>by omega) (fun j k hj hk h1 h2=>by omega);have s1:qV (m+8) T=some s:=s1;rw[cond_true,s1];exact⟨s,rfl,fun h=>⟨⟨l1,s2 h⟩,c2 rfl⟩⟩
theorem Qv:∀(docs D:List Dt),(∀d∈docs,Do d)->(∀d∈D,Do d)->(∀d∈docs.foldl (eZ kc) D,Do d)∧(docs.foldl (eZ kc) D).length<=D.length+docs.length
 | [],D,_,h=>⟨h,by simp⟩
 |e::r,D,h1,h2=>by have pl:=qx D e;obtain⟨a,b⟩:=Qv r (eZ kc D e) (fun d hd=>h1 d (aY _ hd)) fun d hd=>(qp hd).elim (h2 d) fun e'=>e'▸h1 e bB;exact⟨a,by show (r.foldl (eZ kc) (eZ kc D e)).length<=_;simp only[List.length_cons];omega⟩
theorem Qw(m:Nat)(hm:6000000<=m)(hm2:m<800000000000)(docs X:List Dt)(hd:∀d∈docs,Do d)(hdl:docs.length<=1000):∀(M i:Nat)(D:List Dt),(∀d∈D,Do d)->D.length<=1000+i->i<=docs.length->docs.length-i<M->
  sV (m+1) M docs (docs.length:Int) (i:Int) X D=Fb (m+1) X ((docs.drop i).foldl (eZ kc) D)
 |0,i,_,_,_,_,h=>by omega
 |M+1,i,D,hD,hl,hi,h=>by
  rw[sV,dlt];by_cases hlt:i<docs.length
  ·have ho:=hd _ (aI hlt);have pl:=qx D docs[i];rw[decide_eq_true hlt,cond_true,MO,bE hlt,ah,acQ (by omega) (by omega) ho D hD (by omega),ah,MN,bK (by omega),Qw m hm hm2 docs X hd hdl M (i+1) (eZ kc D docs[i]) (fun d hd=>(qp hd).elim (hD d) fun e=>e▸ho) (by omega) (by omega) (by omega),aD hlt];rfl
  ·have e:i=docs.length:=by omega
   subst e;rw[decide_eq_false hlt,cond_false,List.drop_length];rfl
theorem Qx(m:Nat)(hm:6000000<=m)(hm2:m<800000000000)(T docs W:List Dt)(hW:∀w∈W,I w 0=2∧Do (fld w 3))(hWl:W.length<=1000):∀(M i:Nat)(D:List Dt),(∀d∈D,Do d)->D.length<=1000+i->i<=W.length->W.length-i<M->
  CX (m+1) M T docs W (W.length:Int) (i:Int) D=O3 (m+1) T docs (after D (W.drop i))
 |0,i,_,_,_,_,h=>by omega
 |M+1,i,D,hD,hl,hi,h=>by
  rw[CX,dlt];by_cases hlt:i<W.length
  ·obtain⟨h2,ho⟩:=hW _ (aI hlt);have pl:=qx D (fld W[i] 3);rw[decide_eq_true hlt,cond_true,Yf,bE hlt,ah,arL ho (by omega) (by omega),ah,h2];show O1 (m+1) _ T docs W (W.length:Int) (i:Int) D W[i]=_;rw[O1,acQ (by omega) (by omega) ho D hD (by omega),ah,Yd,bK (by omega),Qx m hm hm2 T docs W hW hWl M (i+1) (eZ kc D (fld W[i] 3)) (fun d hd=>(qp hd).elim (hD d) fun e=>e▸ho) (by omega) (by omega) (by omega),aD hlt];rfl
  ·have e:i=W.length:=by omega
   subst e;rw[decide_eq_false hlt,cond_false,List.drop_length];rfl
theorem N9(T docs:List Dt)(hT:Vs T)(hd:Vs docs):qA (500000000000+1) T docs=some true:=by
 obtain⟨b,b1,b2⟩:=BM 499999999991 (by omega) (by omega) T docs hT hd;have b1:zG 500000000000 jP T docs=some b:=b1;have aw:o9=some true:=rfl;rw[qA,b1,ah];cases b with
 |false=>rw[Bool.not_false,cond_true,CY,aw];rfl
 |true=>
  obtain⟨⟨t1,t2,t3⟩,d1,d2⟩:=b2 rfl;obtain⟨r,r1,r2⟩:=Qu 499999999996 docs d2 (by omega) (by omega) (by omega) 499999999999 0 (by omega) (by omega);have r1:i9 500000000000 docs=some (decide (0<=r)):=by have h10:i10 499999999999 docs=some r:=r1;rw[i9,h10];rfl
  rw[Bool.not_true,cond_false,r1,ah];cases hz:decide (0<=r)with
  |true=>rw[CY,aw];rfl
  |false=>
   have hdo:∀d∈docs,Do d:=fun d hd=>r2 hz d (by simpa using hd);obtain⟨W,w1,w2,w3,w4⟩:=YD (m:=499999999999) (by omega) (by omega) (ByteArray.mk (List.toArray [115])) T docs t2 t3 (by omega) hdo (by omega);have w1:qP 500000000000 (.agg [.str (ByteArray.mk (List.toArray [115])),.lst [.lst [.str (ByteArray.mk (List.toArray [95,105,100]))]],.int 1,.int 5]) T docs=some (W,0):=w1;have hcl:slices_Clone T=some T:=by unfold slices_Clone;rw[Nat.ble_eq_true_of_le (by omega),cond_true]
   have k1:=Qx 499999999999 (by omega) (by omega) T docs W w2 (by omega) 500000000001 0 T t2 (by omega) (by omega) (by omega);have k2:=Qw 499999999999 (by omega) (by omega) docs (after T W) hdo (by omega) 500000000001 0 T t2 (by omega) (by omega) (by omega);rw[aQ]at k1 k2;obtain⟨f1,f2⟩:=Qv docs T hdo t2;have k3:qR 500000000000 (docs.foldl (eZ kc) T) (docs.foldl (eZ kc) T)=some true:=Ii 499999999999 _ (by omega) (by omega) fun x hx=>zq 1048576 x (f1 x hx).o.bk (by omega) 499999999998 (by omega);rw[CY,cond_false,Yh,w1,ah];show O4 500000000000 T docs W=_;rw[O4,hcl,ah,Yg];refine Eq.trans k1 ?_;rw[O3,hcl,ah,MP];refine Eq.trans k2 ?_;rw[Fb,w3];show Option.bind (qR 500000000000 _ _) _=_;rw[k3,ah,cond_true,aw];rfl
theorem UD{ds:List Dt}(h:HasTys Tryz.prog Tryz.f6.params.toList ds)(hb:bulkL ds<=1048576):FX Tryz.prog 6 (aks Tryz.f6.params.toList ds) [] (.dat 4 (.bool true)) []:=by
 have h':HasTys Tryz.prog [23,23] ds:=h;match ds,h',hb with
 | [x,y],.cons h1 (.cons h2 .nil),hb=>
   obtain⟨e1,_,w1⟩:=ait Tryz.underlying23 h1;obtain⟨e2,_,w2⟩:=ait Tryz.underlying23 h2;rw[e1,e2]at hb ⊢
   simp only[bulkL,Dt.bulk]at hb;have l1:=bW x.toLst;have l2:=bW y.toLst;have f:=amo 500000000000 (atJ 500000000000) _ _ (N9 x.toLst y.toLst ⟨by omega,fun d hd=>⟨aot (w1 d hd),aou (w1 d hd),by have:=bU hd;omega⟩⟩ ⟨by omega,fun d hd=>⟨aot (w2 d hd),aou (w2 d hd),by have:=bU hd;omega⟩⟩);exact f
end Go.Proofs.YtmecfjhdnbgfeaaGreatDoor
namespace Go.Proofs.YtmecfjhdnbgfeaaGreatDoor
open Go.Am
mutual
def gv{H:Type}:DataW H->List Value
 | .lit (.int k m)=>[.int k m]
 | .lit (.bool b)=>[.bool b]
 | .lit (.string s)=>[.string ⟨s.toArray⟩]
 | .agg ds=>gvL ds
 |_=>[]
def gvL{H:Type}:List (DataW H)->List Value
 | []=>[]
 |d::r=>gv d++gvL r
end
section
variable{H:Type}{enc:TypeId×Value->H}{P:Program}{w:World}{base:Nat}{sp:Nat->Bool}{held:Bool}
def Told(enc:TypeId×Value->H)(P:Program)(w:World)(base:Nat)(sp:Nat->Bool)(held:Bool)(e:TypeId):Prop:=∀(fuel:Nat)(cs:List Value)(x:DataW H×List MemPlace),DataW.trod enc P w base sp held fuel e cs=some x->cs=gv x.1
theorem JR{e:TypeId}{k:IntKind}(he:P.underlying e=some (.int k)):Told enc P w base sp held e:=fun fuel cs x h=>by obtain⟨z,rfl,rfl,_⟩:=DataW.trod_int he h;rfl
theorem acT{e f:TypeId}{F0 F1:Field}(hu:P.underlying e=some (.struct #[F0,F1]))(h0:F0.offset=0)(h1:F1.offset=1)(hf0:F0.type=f)(hf1:F1.type=f)(hc:P.cellsOf e=2)(hcf:P.cellsOf f=1)(hf:Told enc P w base sp held f):Told enc P w base sp held e:=fun fuel cs x h=>by
 obtain⟨xs,m,_,rfl,hlen,hxl,hget⟩:=DataW.trod_struct hu h;rw[hc]at hlen;match cs,hlen with
 | [a,b],_=>
   have hx2:xs.length=2:=hxl;match xs,hx2 with
   | [u,v],_=>
     have g0:=hget 0 F0 rfl;have g1:=hget 1 F1 rfl;rw[h0,hf0,hcf]at g0;rw[h1,hf1,hcf]at g1;have e0:=hf _ _ _ g0;have e1:=hf _ _ _ g1;show [a,b]=gv u.1++(gv v.1++[]);rw[←e0,←e1];rfl
theorem Qy{n s:Nat}:∀{ds:List (DataW H)}{cs:List Value},cs.length=ds.length*s->(∀i D,ds[i]? =some D->(cs.drop (i*s)).take s=gv D)->cs=gvL ds
 | [],cs,hl,_=>by have:cs=[]:=List.eq_nil_of_length_eq_zero (by simpa using hl);subst this;rfl
 | d::r,cs,hl,h=>by
   have h0:=h 0 d rfl;rw[Nat.zero_mul,aQ]at h0;have hl':cs.length=r.length*s+s:=by rw[hl,List.length_cons,Nat.succ_mul]
   have ih:=Qy (n:=n) (s:=s) (ds:=r) (cs:=cs.drop s) (by rw[List.length_drop];omega) fun i D hD=>by have:=h (i+1) D (by simpa using hD);rw[List.drop_drop,show s+i*s=(i+1)*s by rw[Nat.succ_mul];omega];exact this
   show cs=gv d++gvL r;rw[←h0,←ih,List.take_append_drop]
theorem JU{t e:TypeId}{n:Nat}(ht:P.underlying t=some (.array n e))(hct:P.cellsOf t=n*P.cellsOf e)(he:Told enc P w base sp held e):Told enc P w base sp held t:=fun fuel cs x h=>by
 cases fuel with
 |zero=>simp[DataW.trod]at h
 |succ fuel=>
  simp only[DataW.trod,ht]at h;split at h
  ·rename_i hl;obtain⟨xs,hm,rfl⟩:=aT.1 h;have hxl:xs.length=n:=by simpa using Lib.mapM_length hm
   show cs=gvL (xs.map (·.1));refine Qy (n:=n) (s:=P.cellsOf e) (by rw[List.length_map,hxl];omega) fun i D hD=>?_;rw[List.getElem?_map]at hD;obtain⟨y,hy,rfl⟩:=aT.1 hD;have hi:i<n:=by rw[←hxl];exact(au.1 hy).1
   obtain⟨b,hb,hf⟩:=Lib.mapM_at hm i i (by simp[hi]);rw[hy]at hb;cases hb;exact he _ _ _ hf
  ·cases h
end
theorem lN{P:Program}{W:World}:∀{l:List (String×DataW Unit)}{ps:List MemPlace}{name:String}{d:DataW Unit}{g:Nat}{t:TypeId},DataW.LaidVars P W l ps->(name,d)∈l->P.globalNamed name=some g->(P.globals[g]?).map (·.type)=some t->Told (fun _=>()) P W 0 (fun _=>true) false t->
  W.var? P name=some (gv d).toArray
 | [],ps,name,d,g,t,_,hm,_,_,_=>by cases hm
 |(n,d')::r,ps,name,d,g,t,h,hm,hg,hty,ht=>by
  obtain⟨g',t',cs,fuel,p,q,hg',ht',hvar,hd,hr,rfl⟩:=h;rcases List.mem_cons.1 hm with e|hm
  ·cases e;obtain rfl:=Option.some.inj (hg.symm.trans hg');obtain rfl:=Option.some.inj (hty.symm.trans ht');have:=ht _ _ _ hd;rw[hvar,←this]
  ·exact lN hr hm hg hty ht
theorem rP{P:Program}{W:World}{name:String}{g:Nat}{cs:Array Value}(hg:P.globalNamed name=some g)(h:W.var? P name=some cs):∃(T:TypeId)(fr:Nat×Nat),W.heap[g]? =some (.cells cs T fr):=by
 unfold World.var? at h;rw[hg]at h;simp only[ah]at h;cases hb:W.heap[g]? with
 |none=>rw[hb]at h;simp at h
 |some o=>
  rw[hb]at h;cases o with
  |cells c T fr=>simp only[aA]at h;subst h;exact⟨T,fr,rfl⟩
  |_=>simp at h
theorem aj6{W:World}{g:Nat}{cs:List Value}(h:∃(T:TypeId)(fr:Nat×Nat),W.heap[g]? =some (.cells cs.toArray T fr)):g<W.heap.size∧∃(T:TypeId)(fr:Nat×Nat),W.heap[g]? =some (.cells cs.toArray T fr):=by refine⟨?_,h⟩;obtain⟨T,fr,h⟩:=h;exact(Array.getElem?_eq_some_iff.1 h).1
noncomputable def Qz:List (String×DataW Unit):=[("unicode/utf8.acceptRanges",Rows.laid_unicode_utf8_acceptRanges),("unicode/utf8.first",Rows.laid_unicode_utf8_first)]
noncomputable def avi:List (String×DataW Unit×Nat):=[("unicode/utf8.first",Rows.laid_unicode_utf8_first,1),("unicode/utf8.acceptRanges",Rows.laid_unicode_utf8_acceptRanges,2)]
set_option maxRecDepth 100000 in
theorem aj7:tabs=avi.map fun q=>(q.2.2,gv q.2.1):=by kernel_rfl
section
variable{W:World}
theorem Oa:Told (fun _=>()) Tryz.prog W 0 (fun _=>true) false 227:=JU Tryz.underlying227 (by kernel_rfl) (JR Tryz.underlying5)
theorem acU:Told (fun _=>()) Tryz.prog W 0 (fun _=>true) false 230:=JU Tryz.underlying230 (by kernel_rfl) (acT (f:=5) Tryz.underlying229 rfl rfl rfl rfl (by kernel_rfl) (by kernel_rfl) (JR Tryz.underlying5))
set_option maxRecDepth 100000 in
theorem acV(h:laidMetH Tryz.prog Qz W):TabOK (fun b=>b<W.heap.size) W:=by
 rw[Go.MakeChecks.laidMetH_plain _ _ _ (by kernel_rfl)]at h;obtain⟨ps,hl,_⟩:=h;refine⟨?_,fun g hg=>by have hg':g∈([]:List Nat):=hg;cases hg'⟩;intro t ht;rw[aj7]at ht;obtain⟨q,hq,rfl⟩:=List.mem_map.1 ht;have key:∃(T:TypeId)(fr:Nat×Nat),W.heap[q.2.2]? =some (.cells (gv q.2.1).toArray T fr):=by
  have hq':q∈[("unicode/utf8.first",Rows.laid_unicode_utf8_first,1),("unicode/utf8.acceptRanges",Rows.laid_unicode_utf8_acceptRanges,2)]:=hq;rcases List.mem_cons.1 hq' with rfl|hq';·exact rP (by kernel_rfl) (lN hl (g:=1) (t:=227) (.tail _ (.head _)) (by kernel_rfl) (by kernel_rfl) Oa)
  rcases List.mem_cons.1 hq' with rfl|hq';·exact rP (by kernel_rfl) (lN hl (g:=2) (t:=230) (.head _) (by kernel_rfl) (by kernel_rfl) acU)
  cases hq'
 exact aj6 key
end
noncomputable def jM(os:Os):World:=
 let w0:=World.holding Tryz.prog os ⟨#[],#[],[]⟩
 let put (h:Array Obj) (g:Nat) (cs:List Value):Array Obj:=h.modify g fun
  | .cells _ t frozen=> .cells cs.toArray t frozen
  |o=>o
 let h1:=put w0.heap 2 (gv (H:=Unit) Rows.laid_unicode_utf8_acceptRanges)
 let h2:=put h1 1 (gv Rows.laid_unicode_utf8_first)
 {w0 with heap:=h2}
set_option maxRecDepth 100000 in
theorem UE(os:Os)(args:Array Value):laidMet Tryz.prog Qz ((jM os).forCall (fun _ _=>0) ⟨#[],args,[]⟩).memory:=
 (LaidIn.of_run (l:=Qz) [2,1] 8 (by kernel_rfl) (by kernel_rfl) (by kernel_rfl) (by kernel_rfl)).met
