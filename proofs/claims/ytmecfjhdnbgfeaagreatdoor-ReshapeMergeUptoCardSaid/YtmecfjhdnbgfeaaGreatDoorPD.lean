/- The value at a path: the program's and the reference's.
Parts of valid values are valid;storing any value.
A field of a document is set:the program's function and the reference's.
The document that takes the place of a stored one;storing,by the program and by the reference.
What a document is found by in a merge:the values at several paths.
The places of the documents with a property,and how they change.
Merge:slices.DeleteFunc on a row of places;a map that owns its rows.
Merge:what each step of the store does.
Merge:one document is merged,as a plain function;the program does so.
Merge:one document is merged by the program.
Merge:one document is merged by the reference.
Merge:the program's and the reference's,document by document. -/
import Derived.Test.YtmecfjhdnbgfeaaGreatDoorPA
import Derived.Test.YtmecfjhdnbgfeaaGreatDoorPB
set_option linter.all false
namespace Go.Proofs.YtmecfjhdnbgfeaaGreatDoor
open Go.Am Dt
inductive Stp where
 |fld (k:Nat)
 |newf
 |el (n:Nat)
 |newe (n:Nat)
 |no
def stp(s:ByteArray)(v:Dt):Stp:=
 if I v 0=5 then(match fi s (L v 4)with|some k=> .fld k|none=> .newf)
 else if I v 0=6 then(match nu s with|some n=>if n<(L v 3).length then .el n else .newe n|none=> .no)
 else .no
inductive StpS (s:ByteArray) (v:Dt):Stp->Prop where
 |fld {k:Nat} (h5:I v 0=5) (h:fi s (L v 4)=some k) (hk:k<(L v 4).length):StpS s v (.fld k)
 |newf (h5:I v 0=5) (h:fi s (L v 4)=none):StpS s v .newf
 |el {n:Nat} (h6:I v 0=6) (h:nu s=some n) (hn:n<(L v 3).length):StpS s v (.el n)
 |newe {n:Nat} (h6:I v 0=6) (h:nu s=some n) (hn:(L v 3).length<=n):StpS s v (.newe n)
 |no6 (h6:I v 0=6) (h:nu s=none):StpS s v .no
 |no (h5:I v 0≠5) (h6:I v 0≠6):StpS s v .no
theorem Ru(s:ByteArray)(v:Dt):StpS s v (stp s v):=by
 unfold stp;split
 ·rename_i h5;cases h:fi s (L v 4)with
  |some k=>exact .fld h5 h (Dx h)
  |none=>exact .newf h5 h
 ·rename_i h5;split
  ·rename_i h6;cases h:nu s with
   |none=>exact .no6 h6 h
   |    some n=>
        simp only;split;·rename_i hn;exact .el h6 h hn
        ·rename_i hn;exact .newe h6 h (by omega)
  ·rename_i h6;exact .no h5 h6
def chE(v:Dt)(n:Nat):Dt:=(L v 3).getD n (.int 0)
noncomputable def getD:List Dt->Dt->Dt
 | [],v=>v
 |s::p,v=>match stp s.toStr v with
  | .fld k=>getD p (chF v k)
  | .el n=>getD p (chE v n)
  |_=>aX
theorem aug:WV aX:= .mk (fun _ h=>by cases h) (fun _ h=>by cases h)
theorem auh{v:Dt}(hw:WV v){n:Nat}(hn:n<(L v 3).length):chE v n=(L v 3)[n]∧WV (chE v n)∧(chE v n).bulk<v.bulk:=by have e:chE v n=(L v 3)[n]:=getD_lt hn;rw[e];exact⟨rfl,(bU hw).2.2.1 _ (aD hn)⟩
theorem Gs(m N:Nat)(p:List Dt)(hp:p.length<9223372036854775807)(hm:N+10<=m)(hN:N<=137438953472)(hm2:m<9223372036854775807)(z:Dt):∀(M i:Nat)(v:Dt),WV v->v.bulk<=N->i<=p.length->p.length-i<M->El m M p (p.length:Int) (i:Int) v z=some (getD (p.drop i) v)
 |0,i,_,_,_,_,h=>by omega
 |M+    1,i,v,hw,hb,hi,h=>by
  obtain⟨m,rfl⟩:∃q,m=q+1:=⟨m-1,by omega⟩;have hn:=kE v 4;simp only[El,dlt];by_cases hlt:i<p.length
  ·rw[ay hlt,getD];simp only[hlt,decide_true,cond_true,aad,bg hlt,ah];have ih:=fun(c:Dt)(h1:WV c)(h2:c.bulk<=N)=>Gs (m+1) N p hp hm hN hm2 z M (i+1) c h1 h2 (by omega) (by omega);have hs:=Ru (toStr p[i]) v;generalize stp (toStr p[i]) v=S at hs;cases hs with
   |    @fld k h5 h' hk=>
        have hc:=anY hw hk;simp only[(b5 h5).1,cond_true,asu m (toStr p[i]) (L v 4) (by omega) (by omega),h',oI0,ah,dp1,bg hk,kP,dp2,cond_false,RZ,bF (show i<9223372036854775807 by omega),←hc.1];exact ih _ hc.2.1 (by omega)
   |newf h5 h'=>simp only[(b5 h5).1,cond_true,asu m (toStr p[i]) (L v 4) (by omega) (by omega),h',oIn,ah,dn1,kP,dn2,cond_false]
   |    @el n h6 h' hn'=>
        have hc:=auh hw hn';simp only[(b6 h6).1,(b6 h6).2.2.1,cond_true,cond_false,Dz m (by omega),h',oP1,ah,dlt,hn',decide_true,Ej,bg hn',kP,dp2,RZ,bF (show i<9223372036854775807 by omega),←hc.1];exact ih _ hc.2.1 (by omega)
   | @newe n h6 h' hn'=>simp only[(b6 h6).1,(b6 h6).2.2.1,cond_true,cond_false,Dz m (by omega),h',oP1,ah,dlt,show decide (n<(L v 3).length)=false from decide_eq_false (by omega),Ej,kP,dn2]
   |no6 h6 h'=>simp only[(b6 h6).1,(b6 h6).2.2.1,cond_true,cond_false,Dz m (by omega),h',oPn,ah,Ej,kP,dn2]
   |no h5 h6=>simp only[(b5n h5).1,(b6n h6).1,cond_false,kP,dn2,cond_true]
  ·have e:i=p.length:=by omega
   subst e;simp only[Nat.lt_irrefl,decide_false,cond_false,aae,uY N v hb hN hw m (by omega),ah,List.drop_length,getD]
theorem anv(N:Nat)(p:List Dt)(v:Dt)(hw:WV v)(hb:v.bulk<=N)(hN:N<=137438953472)(m:Nat)(hm:N+p.length+10<=m)(hm2:m<9223372036854775807):zL (m+1) v p=some (getD p v):=by have h:=Gs m N p (by omega) (by omega) hN hm2 aX (m+1) 0 v hw hb (aN _) (by omega);rw[aK]at h;exact h
theorem ap6(m:Nat)(s:ByteArray)(v:Dt)(h5:I v 0=5)(hm:v.bulk<=m)(hm2:m<9223372036854775807):yI (m+2) v s=some (match fi s (L v 4)with|some k=>(chF v k,true)|none=>(aX,false)):=by
 have hn:=kE v 4;rw[yI,at_eq m s v h5 (by omega) hm2];cases h:fi s (L v 4)with
 |none=>rfl
 |some k=>
  have hk:=Dx h;simp only[oI0,ah,dp2,cond_false,aaR,bg hk,chF,getD_lt hk]
theorem c1(s:Dt)(p:List Dt):(((s::p).length:Int)==0)=false:=by rw[List.length_cons,beq_eq_false_iff_ne];omega
theorem ap7(s:Dt)(p:List Dt):cutL (s::p) 1 ((s::p).length:Int)=some p:=by have:=Dp (l:=s::p) (i:=1) (j:=(s::p).length) (by simp) (aL _);simpa using this
theorem agS(s:Dt)(p:List Dt):idx (s::p) 0=some s:=bg (l:=s::p) (i:=0) (by simp)
theorem UQ:∀(p:List Dt)(N:Nat)(v:Dt),WV v->v.bulk<=N->∀m,N+p.length+10<=m->m<9223372036854775807->zO (m+1) v p=some (getD p v)
 | [],N,v,hw,hb,m,hm,hm2=>rfl
 |s ::p,N,v,hw,hb,m,hm,hm2=>by
  rw[List.length_cons]at hm;obtain⟨m,rfl⟩:∃q,m=q+2:=⟨m-2,by omega⟩;have hn:=kE v 4;have ih:=fun(c:Dt)(h1:WV c)(h2:c.bulk<=N)=>UQ p N c h1 h2 (m+1) (by omega) (by omega);rw[zO,c1,cond_false,aaS,getD];have hs:=Ru s.toStr v;generalize stp s.toStr v=S at hs;cases hs with
  | @fld k h5 h' hk=>
    have hc:=anY hw hk;simp only[(b5 h5).1,cond_true,agS,ah,ap6 m s.toStr v h5 (by omega) (by omega),h',ap7,ih _ hc.2.1 (by omega)]
  |newf h5 h'=>simp only[(b5 h5).1,cond_true,agS,ah,ap6 m s.toStr v h5 (by omega) (by omega),h',cond_false,wz,show (I v 0==6)=false by rw[h5];rfl,y8]
  | @el n h6 h' hn'=>
    have hc:=auh hw hn';simp only[(b6 h6).1,(b6 h6).2.2.1,cond_true,cond_false,wz,agS,ah,JD (m+1) (by omega),h',oP1,dlt,hn',decide_true,EF,bg hn',ap7,←hc.1,ih _ hc.2.1 (by omega)]
  | @newe n h6 h' hn'=>simp only[(b6 h6).1,(b6 h6).2.2.1,cond_true,cond_false,wz,agS,ah,JD (m+1) (by omega),h',oP1,dlt,show decide (n<(L v 3).length)=false from decide_eq_false (by omega),EF,y8]
  |no6 h6 h'=>simp only[(b6 h6).1,(b6 h6).2.2.1,cond_true,cond_false,wz,agS,ah,JD (m+1) (by omega),h',oPn,EF,y8]
  |no h5 h6=>simp only[(b5n h5).1,(b6n h6).1,cond_false,wz,y8]
theorem Ok.prt{d x:Dt}(h:Ok d)(hp:x∈fM d)(hw:WV x)(hr:WR x)(hb:x.bulk<d.bulk)(hs:bX nm x.bulk x=true):Ok x:=by
 have hk:=h.ok;have hbk:=h.bk;unfold okV at hk;simp only[aJ,decide_eq_true_eq]at hk;refine⟨hw,hr,?_,by omega⟩;unfold okV;simp only[aJ,decide_eq_true_eq];refine⟨⟨?_,?_⟩,hs⟩
 ·have:=Dr h.wv;have h1:nds x<=((fM d).map nds).sum:=by
   generalize fM d=L at hp;clear this;induction L with
   |nil=>cases hp
   |    cons a L ih=>
        rw[List.map_cons,List.sum_cons];rcases List.mem_cons.1 hp with rfl|hp;·omega
        ·have:=ih hp;omega
  omega
 ·have:=JB h.wv;have h1:dpt x<=mx dpt (fM d):=by
   generalize fM d=L at hp;clear this;induction L with
   |nil=>cases hp
   |    cons a L ih=>
        simp only[mx];rcases List.mem_cons.1 hp with rfl|hp;·omega
        ·have:=ih hp;omega
  omega
theorem Ok.elt{d x:Dt}(h:Ok d)(h6:I d 0=6)(hx:x∈L d 3):Ok x:=by
 have hs:=h.snd;obtain⟨p1,p2,p3,p4⟩:=bU h.wv;have hb:=(p3 x hx).2;have hp:x∈fM d:=by unfold fM;rw[h6];exact hx
 obtain⟨n,hn⟩:∃n,d.bulk=n+1:=⟨d.bulk-1,by have:=bV d;omega⟩;rw[hn,bX,aJ,h6]at hs;have ga:(L d 3).all (bX nm n)=true:=hs.2;exact h.prt hp (p3 x hx).1 ((iP h.wr).2.1 x hx) hb (su n _ _ (p3 x hx).1 (aL _) (List.all_eq_true.1 ga x hx))
theorem Jh:∀(p:List Dt){v:Dt},Ok v->Ok (getD p v)∨getD p v=aX
 | [],v,h=> .inl h
 |s ::p,v,h=>by
  rw[getD];have hs:=Ru s.toStr v;generalize stp s.toStr v=S at hs;cases hs with
  | @fld k h5 h' hk=>
    have hc:=anY h.wv hk;refine Jh p ?_;rw[hc.1];exact h.part h5 (aD hk)
  | @el n h6 h' hn=>
    have hc:=auh h.wv hn;refine Jh p ?_;rw[hc.1];exact h.elt h6 (aD hn)
  |_=>exact .inr rfl
theorem Ok.k0{d:Dt}(h:Ok d):(I d 0==0)=false:=by have:=jZ h.snd;rw[beq_eq_false_iff_ne];omega
def anw:Dt:= .agg [.int 2,.int 0,.str (ByteArray.mk (List.toArray [])),.lst [],.lst []]
noncomputable def gvp(d p:Dt):Dt:=bif I (getD (toLst p) d) 0==0 then anw else getD (toLst p) d
theorem aui:Ok anw:=by refine⟨.mk (fun _ h=>by cases h) (fun _ h=>by cases h),?_,by decide+kernel,by decide⟩;exact .mk (by unfold rgI;omega) (fun _ h=>by cases h) (fun _ h=>by cases h)
theorem C8{d:Dt}(h:Ok d)(p:Dt):Ok (gvp d p):=by
 unfold gvp;rcases Jh (toLst p) h with h1|h1;·rw[h1.k0];exact h1
 ·rw[h1];exact aui
theorem agT{L:List Dt}{g:Dt->Nat}(h:∀e∈L,e.bulk<=8*g e):bulkL L<=8*(L.map g).sum:=by
 induction L with
 |nil=>simp[bulkL]
 |cons x r ih=>
  have h1:=h x aZ;have h2:=ih fun e he=>h e (aY _ he);simp only[List.map_cons,List.sum_cons,bulkL];omega
theorem C9:∀(N:Nat)(d:Dt)(n:Nat),WV d->bX nm n d=true->d.bulk<=N->d.bulk<=8*fD N d
 |0,d,_,_,_,h=>by have:=bV d;omega
 |N+1,d,0,_,h,_=>by cases h
 |N+    1,d,n+1,hw,h,hb=>by
  obtain⟨p1,p2,p3,p4⟩:=bU hw;have hz:=jC hw;have hf:=jD hw;rw[bX,aJ]at h;obtain⟨hs,hk⟩:=h;unfold shp at hs;simp only[aJ]at hs;obtain⟨⟨⟨_,h2⟩,h3⟩,h4⟩:=hs;have e3:I d 0≠6->bulkL (Dt.L d 3)=0:=fun hn=>by rw[beq_eq_false_iff_ne.2 hn]at h3;rw[show Dt.L d 3=[]from xH (by simpa using h3)];rfl
  have e4:I d 0≠5->bulkL (Dt.L d 4)=0:=fun hn=>by rw[beq_eq_false_iff_ne.2 hn]at h4;rw[show Dt.L d 4=[]from xH (by simpa using h4)];rfl
  have e2:I d 0≠4->I d 0≠7->I d 0≠8->(S d 2).size=0:=fun a b c=>by rw[beq_eq_false_iff_ne.2 a,beq_eq_false_iff_ne.2 b,beq_eq_false_iff_ne.2 c]at h2;rw[show S d 2=ByteArray.empty from sz0 (by simpa using h2)];rfl
  by_cases k4:I d 0=4
  ·have:=e3 (by omega);have:=e4 (by omega)
   rw[fD,k4];show _<=8*(1+(eU (S d 2).size+(S d 2).size));omega
  by_cases k7:I d 0=7
  ·have:=e3 (by omega);have:=e4 (by omega)
   rw[fD,k7];show _<=8*(1+(eU (S d 2).size+(S d 2).size));omega
  by_cases k8:I d 0=8
  ·have:=e3 (by omega);have:=e4 (by omega)
   rw[fD,k8];show _<=8*(1+(S d 2).size);omega
  have z2:=e2 k4 k7 k8;by_cases k6:I d 0=6
  ·have:=e4 (by omega);rw[k6]at hk;have ga:(Dt.L d 3).all (bX nm n)=true:=hk;have hsum:=agT (L:=Dt.L d 3) (g:=fD N) fun e he=>C9 N e n (p3 e he).1 (List.all_eq_true.1 ga e he) (by have:=(p3 e he).2;omega);rw[fD,k6];show _<=8*(1+(eU (Dt.L d 3).length+((Dt.L d 3).map (fD N)).sum));omega
  have z3:=e3 k6;by_cases k5:I d 0=5
  ·rw[k5]at hk;have ga:fl nm (bX nm n) [] (Dt.L d 4)=true:=hk;have hsum:=agT (L:=Dt.L d 4) (g:=fun f=>eU (S f 0).size+(S f 0).size+fD N (fld f 1)) fun f hf'=>by have h1:=C9 N (fld f 1) n (p4 f hf').1 (lM ga f hf') (by have:=(p4 f hf').2;omega);have h2:=hf f hf';have h3:=fB (S f 0).size;omega
   rw[fD,k5];show _<=8*(1+(eU (Dt.L d 4).length+((Dt.L d 4).map fun f=>eU (S f 0).size+(S f 0).size+fD N (fld f 1)).sum));omega
  have z4:=e4 k5;rw[fD];omega
theorem sQ(m:Nat)(s:ByteArray)(v:Dt)(hl:(L v 4).length<9223372036854775807):∀(M i:Nat),i<=(L v 4).length->(L v 4).length-i<M->nK m M s ((L v 4).length:Int) (i:Int) v=some (oI i (fi s ((L v 4).drop i)))
 |0,i,_,h=>by omega
 |M+    1,i,hi,h=>by
  simp only[nK,dlt];by_cases hlt:i<(L v 4).length
  ·rw[ay hlt];simp only[hlt,decide_true,cond_true,JF,R4,bg hlt,ah,fi,bF (show i<9223372036854775807 by omega)];cases (ByteArray.toList (S (L v 4)[i] 0)==ByteArray.toList s)
   ·    simp only[cond_false];rw[sQ m s v hl M (i+1) (by omega) (by omega),JC]
   ·simp[oI]
  ·have e:i=(L v 4).length:=by omega
   rw[e,List.drop_length];simp[R5,fi,oI]
theorem CK(m:Nat)(s:ByteArray)(v:Dt)(h5:I v 0=5)(hm:(L v 4).length<=m)(hm2:m<9223372036854775807):zG (m+1) v s=some (oI 0 (fi s (L v 4))):=by have h:=sQ m s v (by omega) (m+1) 0 (aN _) (by omega);rw[aK]at h;rw[zG,(b5 h5).2,cond_false];exact h
def gy(v:Dt)(s:ByteArray)(r:Dt):Dt:=match fi s (L v 4)with
 |some k=>JE v k r
 |none=>anX v s r
theorem xU{v r:Dt}{s:ByteArray}(hw:WV v)(hr:WV r):WV (gy v s r):=by
 unfold gy;split;·exact Wx hw hr _
 ·refine RX v (iR hw).1 fun f hf=>?_;rcases List.mem_append.1 hf with h|h;·exact(iR hw).2.1 f h
  ·rw[List.mem_singleton.1 h];exact .mk hr
theorem I8(m:Nat)(s:ByteArray)(v r:Dt)(h5:I v 0=5)(hm:v.bulk<=m)(hb:v.bulk<=137438953472)(hm2:m<9223372036854775807):zD (m+2) v s r=some (gy v s r):=by
 unfold gy;cases h:fi s (L v 4)with
 |some k=>exact Ph m s v r k h5 hm hb hm2 h
 |none=>exact Pj m s v r h5 hm hb hm2 h
theorem I9(m:Nat)(s:ByteArray)(v r:Dt)(hw:WV v)(hr:WV r)(h5:I v 0=5)(hm:v.bulk<=m)(hb:v.bulk<=137438953472)(hm':r.bulk<=m)(hb':r.bulk<=137438953472)(hm2:m<9223372036854775807):zV (m+2) v s r=some (gy v s r):=by
 have hn:=kE v 4;have ev:=BJ _ v (aL _) hb hw m hm;have er:=BJ _ r (aL _) hb' hr m hm';have hv:=iA hw.isVal;have hr5:=iA hr.isVal;have hf:=CK m s v h5 (by omega) hm2;rw[zV,ev,ah,show (iw v).1=I v 0 from rfl,(b5 h5).2,cond_false];rw[show I v 0=(iw v).1 from rfl];unfold R7;rw[hv,hf,ah];unfold gy;cases h:fi s (L v 4)with
 |some k=>
  have hk:=Dx h;have hk':k<(iw v).2.2.2.2.length:=hk;simp only[oI0,dp1,cond_true,er,ah,hr5,eD hk',Int.toNat_natCast,aB hk'];rw[JE,getD_lt hk];rfl
 |none=>
  have ha:(iw v).2.2.2.2.length<137438953472:=by show (L v 4).length<_;omega
  simp only[oIn,dn1,cond_false,R6,er,ah,hr5,cond_true,gu ha];rfl
theorem agU{d:Dt}{N:Nat}(hw:WV d)(hr:WR d)(hb:d.bulk<=N)(hN:N<=100000000)(hv:okV d=true)(m:Nat)(hm:4*N+1000<=m):z6 (m+4) d=some ((fD N d:Int),0):=by rw[z6,nI hw m (by omega) (by omega),hv,ah];have:=tX N d hw hr hb (by omega) (m+2) (by omega);simp only[Bool.not_true,cond_false,abf,this,ah]
theorem agV{d:Dt}{N:Nat}(hw:WV d)(hr:WR d)(hb:d.bulk<=N)(hN:N<=100000000)(hv:okV d=true)(m:Nat)(hm:4*N+1000<=m)(hm2:m<9000000000000000000):yE (m+6) d=some ((fD N d:Int),0):=by obtain⟨t,t1,t2⟩:=tZ N d hw hr hb (by omega) (m+3) (by omega);rw[yE,zY,iC hw m (by omega) (by omega) (by omega),hv,ah];simp only[Bool.not_true,cond_false,SE,t1,ah,t2]
theorem agW{d:Dt}{N:Nat}(hw:WV d)(hr:WR d)(hb:d.bulk<=N)(hN:N<=100000000)(h1:d.bulk<=1048576):fD N d=lenD d:=by have a:=tX N d hw hr hb (by omega) 200000000 (by omega);have b:=tX 1048576 d hw hr h1 (by omega) 200000000 (by omega);rw[a]at b;have:=Option.some.inj b;unfold lenD;omega
noncomputable def stE(d:Dt):Int:=bif okV d then(bif (((L d 4).length:Int)==0)then 8 else bif !((S ((L d 4).getD 0 (.int 0)) 0).toList==[95,105,100])then 8 else bif I (idD d) 0==6 then 8 else bif I (idD d) 0==1 then 8 else bif I (idD d) 0==11 then 8 else bif decide (16384<(fD 4000000 d:Int))then 2 else 0)else 8
theorem fG{d:Dt}(hw:WV d)(hr:WR d)(h5:I d 0=5)(hb:d.bulk<=4000000){m:Nat}(hm:20000000<=m)(hm2:m<800000000000):qS (m+1) d=some (stE d)∧zI (m+1) d=some (stE d)∧(stE d=0->Do d):=by
 obtain⟨q,rfl⟩:∃q,m=q+6:=⟨m-6,by omega⟩;cases hv:okV d with
 |false=>
  have e8:stE d=8:=by unfold stE;rw[hv];rfl
  rw[e8];refine⟨?_,?_,fun h=>by cases h⟩
  ·rw[qS,nI hw (q+3) (by omega) (by omega),hv];rfl
  ·rw[zI,zT,iC hw (q+1) (by omega) (by omega) (by omega),hv];rfl
 |true=>
 have r1:qS (q+6+1) d=(bif (((L d 4).length:Int)==0)then some 8 else((Am.idx (L d 4) 0).bind fun v=>Aj (q+6) (!((S v 0).toList==[95,105,100])) d)):=by rw[qS,nI hw (q+3) (by omega) (by omega),hv,ah,Bool.not_true,cond_false,h5];rfl
 have r2:zI (q+6+1) d=(bif (((L d 4).length:Int)==0)then some 8 else((Am.idx (L d 4) 0).bind fun v=>(Bf (q+5) (!((S v 0).toList==[95,105,100])) d aX).bind fun r0=>bif (Bool.not r0.2)then some 8 else Bg (q+6) d)):=by
  rw[zI,zT,iC hw (q+1) (by omega) (by omega) (by omega),hv,ah,Bool.not_true,cond_false];cases (((L d 4).length:Int)==0)with
  |true=>rfl
  |false=>
   rw[cond_false,cond_false,Option.bind_assoc]
 rw[r1,r2];unfold stE;rw[hv,cond_true];by_cases h0:(L d 4).length=0
 ·rw[show ((((L d 4).length:Nat):Int)==0)=true by rw[beq_iff_eq];omega];exact⟨rfl,rfl,fun h=>by cases h⟩
 ·have hl:0<(L d 4).length:=by omega
  have hi:Am.idx (L d 4) 0=some (L d 4)[0]:=bg hl;have hg:(L d 4).getD 0 (.int 0)=(L d 4)[0]:=getD_lt hl;obtain⟨v,hv'⟩:∃v,(L d 4)[0]= .agg [.str (S (L d 4)[0] 0),v]:=by
   have hf:=(iR hw).2.1 _ (aD hl);generalize (L d 4)[0]=f at hf;cases hf with
   |mk _=>exact⟨_,rfl⟩
  rw[show ((((L d 4).length:Nat):Int)==0)=false by rw[beq_eq_false_iff_ne];omega,cond_false,cond_false,cond_false,hi,ah,ah,hg];cases hu:((S (L d 4)[0] 0).toList==[95,105,100])with
  |false=>exact⟨rfl,rfl,fun h=>by cases h⟩
  |true=>
   have hs:=ab7 _ hu;have hidD:fld (L d 4)[0] 1=idD d:=by unfold idD;rw[hg]
   rw[Bool.not_true,cond_false,Aj,cond_false,abh,hi,ah,Bf,cond_false,SC,hi,ah,hidD];by_cases k6:I (idD d) 0=6;·rw[k6];exact⟨rfl,rfl,fun h=>by cases h⟩
   by_cases k1:I (idD d) 0=1;·rw[k1];exact⟨rfl,rfl,fun h=>by cases h⟩
   by_cases k11:I (idD d) 0=11;·rw[k11];exact⟨rfl,rfl,fun h=>by cases h⟩
   rw[beq_eq_false_iff_ne.2 k6,beq_eq_false_iff_ne.2 k1,beq_eq_false_iff_ne.2 k11];simp only[cond_false];rw[J5,cond_false,abg,Fg,cond_false,SB,ah];rw[agU hw hr hb (by omega) hv (q+2) (by omega),ah];show J4 (q+6) (fD 4000000 d:Int)=_∧Bg (q+6) d=_∧_;rw[Bg,agV hw hr hb (by omega) hv q (by omega) (by omega),ah];show J4 (q+6) (fD 4000000 d:Int)=_∧Fj (q+6) (fD 4000000 d:Int)=_∧_;rw[J4,Fj];by_cases hln:fD 4000000 d<=16384
   ·    rw[decide_eq_false (by omega)];have hsn:bX nm d.bulk d=true:=by unfold okV at hv;simp only[aJ]at hv;exact hv.2
        have hb1:=C9 4000000 d _ hw hsn hb;have hb2:d.bulk<=1048576:=by omega
        have hlen:=agW hw hr hb (by omega) hb2;refine⟨rfl,rfl,fun _=>⟨⟨hw,hr,hv,hb2⟩,h5,⟨v,(L d 4).drop 1,?_⟩,k6,k1,k11,by omega⟩⟩;rw[hs]at hv';rw[←hv'];have:=ay hl;rw[aK]at this;exact this
   ·    rw[decide_eq_true (by omega)];exact⟨rfl,rfl,fun h=>by cases h⟩
def nid(f:Dt):Bool:=!((S f 0).toList==[95,105,100])
def nxR(o d:Dt):Dt:= .agg [.int 5,.int 0,.str (ByteArray.mk (List.toArray [])),.lst [],.lst (.agg [.str uid,idD o]::(L d 4).filter nid)]
def nxF(o:Dt)(L:List Dt):Dt:=L.foldl (fun v f=>bif nid f then gy v (S f 0) (fld f 1)else v) o
theorem UR:∀(a b:List Dt),bulkL (a++b)=bulkL a+bulkL b
 | [],b=>by simp[bulkL]
 |x::a,b=>by rw[List.cons_append,bulkL,bulkL,UR a b];omega
theorem Rv{v r:Dt}{s:ByteArray}:I (gy v s r) 0=I v 0:=by unfold gy;split<;>rfl
theorem nD{d:Dt}(h:WR d):rgI (I d 1)∧(∀e∈L d 3,WR e)∧(∀f∈L d 4,WRF f):=by
 cases h with
 |mk hi hl hd=>exact⟨hi,hl,hd⟩
theorem UU{v r:Dt}{s:ByteArray}(hw:WR v)(hr:WR r):WR (gy v s r):=by
 obtain⟨h1,h2,h3⟩:=nD hw;unfold gy;split;·exact .mk h1 h2 fun f hf=>DC h3 (.mk hr) hf
 ·refine .mk h1 h2 fun f hf=>?_;rcases List.mem_append.1 hf with h|h;·exact h3 f h
  ·rw[List.mem_singleton.1 h];exact .mk hr
theorem vY{v r:Dt}{s:ByteArray}(hw:WV v):(gy v s r).bulk<=v.bulk+r.bulk+s.size+2:=by
 unfold gy;split
 ·rename_i k hk;have:=ZG (c:=r) hw (Dx hk);omega
 ·have h1:=(iR hw).2.2;unfold anX;rw[Pg,UR];simp only[bulkL,Dt.bulk];omega
theorem Rw:∀(L:List Dt){v:Dt},WV v->WR v->(∀f∈L,WF f∧WRF f)->WV (nxF v L)∧WR (nxF v L)∧(nxF v L).bulk<=v.bulk+bulkL L∧I (nxF v L) 0=I v 0
 | [],v,hw,hr,_=>⟨hw,hr,by simp[nxF,bulkL],rfl⟩
 |f::L,v,hw,hr,h=>by
  obtain⟨h1,h2⟩:=h f aZ;have hL:=fun e he=>h e (aY _ he);unfold nxF;rw[List.foldl_cons];cases hn:nid f with
  |false=>
   obtain⟨a,b,c,d⟩:=Rw L hw hr hL;refine⟨a,b,?_,d⟩;have c:(nxF v L).bulk<=_:=c;simp only[bulkL];show (nxF v L).bulk<=_;omega
  |true=>
   cases h1 with
   |    @mk s x hx=>
        cases h2 with
        |mk hx2=>
         obtain⟨a,b,c,d⟩:=Rw L (xU (s:=s) hw hx) (UU (s:=s) hr hx2) hL;refine⟨a,b,?_,d.trans Rv⟩;have e:=vY (r:=x) (s:=s) hw;show (nxF (gy v s x) L).bulk<=_;simp only[bulkL,Dt.bulk];omega
theorem auj{o d:Dt}(ho:Do o)(hd:Ok d):WV (nxR o d)∧WR (nxR o d)∧(nxR o d).bulk<=3000000∧I (nxR o d) 0=5:=by
 have h1:=(iR hd.wv).2;have h2:=(nD hd.wr).2.2;have hb:=hd.bk;have hi:=ho.id;have hbi:=hi.bk;have hfl:bulkL ((Dt.L d 4).filter nid)<=bulkL (Dt.L d 4):=by
  generalize Dt.L d 4=L;induction L with
  |nil=>simp
  |cons x r ih=>
   rw[List.filter_cons];split<;>simp only[bulkL]<;>omega
 refine⟨.mk (fun _ h=>by cases h) fun f hf=>?_,.mk (by unfold rgI;omega) (fun _ h=>by cases h) fun f hf=>?_,?_,rfl⟩
 ·rcases List.mem_cons.1 hf with rfl|hf;·exact .mk hi.wv
  ·exact h1.1 f (List.mem_filter.1 hf).1
 ·rcases List.mem_cons.1 hf with rfl|hf;·exact .mk hi.wr
  ·exact h2 f (List.mem_filter.1 hf).1
 ·unfold nxR;rw[dS];have hu:uid.size=3:=rfl;simp only[bulkL,Dt.bulk];have:(ByteArray.mk (List.toArray [])).size=0:=rfl;omega
def vZ(L:List Dt):ByteArray:=bA ((L.map (eG 1048576)).flatten)
noncomputable def kvs(on:List Dt)(d:Dt):List Dt:=on.map (gvp d)
noncomputable def kcs(on:List Dt)(d:Dt):ByteArray:=vZ (kvs on d)
theorem Rx{on:List Dt}{d:Dt}(h:Ok d):∀v∈kvs on d,Ok v:=fun v hv=>by obtain⟨p,_,rfl⟩:=List.mem_map.1 hv;exact C8 h p
theorem agX{L L':List Dt}(hl:L.length=L'.length)(h:∀v∈L,Ok v)(h':∀v∈L',Ok v)(e:vZ L=vZ L'):L=L':=
 (sj (f:=eG 1048576) (r:=[]) (s:=[]) hl (fun a ha b hb r s e=>by have o1:=h a ha;have o2:=h' b hb;exact xM 1048576 a b _ _ r s (by omega) o1.wv o2.wv o1.wr o2.wr o1.snd o2.snd o1.bk o2.bk e) (by rw[abZ e])).1
theorem anx{on:List Dt}{a b:Dt}(ha:Ok a)(hb:Ok b):kcs on a=kcs on b↔kvs on a=kvs on b:=
 ⟨fun h=>agX (by simp[kvs]) (Rx ha) (Rx hb) h,fun h=>by unfold kcs;rw[h]⟩
theorem Gt:∀{L:List Dt},(∀v∈L,Ok v)->(vZ L).size<=L.length*20971520
 | [],_=>by simp[vZ,bA,ByteArray.size]
 |v::r,h=>by
  have h1:=jd 1048576 v (h v aZ).wv;have h2:=(h v aZ).bk;have h3:=Gt fun e he=>h e (aY _ he);have e1:∀l:List UInt8,(bA l).size=l.length:=fun l=>by simp[bA,ByteArray.size]
  unfold vZ at h3 ⊢
  rw[e1]at h3 ⊢
  rw[List.map_cons,List.flatten_cons,aT,List.length_cons];omega
theorem Yp{L:List Dt}{i:Nat}(h:i<L.length):vZ (L.take i)++bA (eG 1048576 L[i])=vZ (L.take (i+1)):=by refine BD ?_;rw[ByteArray.data_append,Array.toList_append,←dL h];show ((L.take i).map (eG 1048576)).flatten++eG 1048576 L[i]=((L.take i++[L[i]]).map (eG 1048576)).flatten;rw[List.map_append,List.flatten_append];simp
theorem Gu{L:List Dt}(h:∀v∈L,Ok v)(hl:L.length<=1000){m:Nat}(hm:5000002<=m):∀(M i:Nat),i<=L.length->L.length-i<M->rR (m+1) M (vZ (L.take i)) L (L.length:Int) (i:Int)=some (vZ L)
 |0,i,_,h=>by omega
 |M+1,i,hi,hM=>by
  rw[rR,dlt];by_cases hlt:i<L.length
  ·have ho:=h _ (aD hlt);have hb:=ho.bk;have h1:=jd 1048576 L[i] ho.wv;have h2:(vZ (L.take i)).size<=(L.take i).length*20971520:=Gt fun v hv=>h v (List.mem_of_mem_take hv);rw[List.length_take]at h2;have hz:(bA (eG 1048576 L[i])).size=(eG 1048576 L[i]).length:=by simp[bA,ByteArray.size]
   have hmul:min i L.length*20971520<=1000*20971520:=aH _ (by omega);rw[decide_eq_true hlt,cond_true,J3,bg hlt,ah,ab8 ho (by omega),ah];show Ah (m+1) _ (vZ (L.take i)) (bA (eG 1048576 L[i])) L (L.length:Int) (i:Int)=_;rw[Ah,Nat.ble_eq_true_of_le (by rw[hz];omega),cond_true,Yp hlt,abd,bF (by omega)];exact Gu h hl hm M (i+1) (by omega) (by omega)
  ·have e:i=L.length:=by omega
   subst e;rw[decide_eq_false hlt,cond_false,List.take_length];rfl
theorem agY{L:List Dt}(h:∀v∈L,Ok v)(hl:L.length<=1000){m:Nat}(hm:6000000<=m):zA (m+1) L=some (vZ L):=by obtain⟨q,rfl⟩:∃q,m=q+1:=⟨m-1,by omega⟩;have:=Gu h hl (m:=q) (by omega) (q+2) 0 (by omega) (by omega);rw[List.take_zero]at this;exact this
def Pth(p:Dt):Prop:=(toLst p).length<=10000000
theorem MW{d:Dt}(h:Ok d){on:List Dt}(hon:∀p∈on,Pth p)(hl:on.length<=1000){m:Nat}(hm:20000000<=m)(hm2:m<800000000000):∀(M i:Nat)(row:List Dt),i<=on.length->on.length-i<M->row.length=on.length->row.take i=(kvs on d).take i->
  lC (m+1) M on (on.length:Int) (i:Int) d row=some (kcs on d)
 |0,i,_,_,h,_,_=>by omega
 |M+    1,i,row,hi,hM,hr,ht=>by
  have hk:(kvs on d).length=on.length:=by simp[kvs]
  rw[lC,dlt];by_cases hlt:i<on.length
  ·have hb:=h.bk;have hp:(toLst on[i]).length<=10000000:=hon _ (aD hlt);have hx:i<row.length:=by omega
   have hx2:i<(row.set i (getD (toLst on[i]) d)).length:=by rw[List.length_set];exact hx
   have step:∀x:Dt,x=gvp d on[i]->∀r2:List Dt,r2.length=on.length->r2.take i=row.take i->(hx:i<r2.length)->r2[i]=x->Ai (m+1) (lC (m+1) M) on (on.length:Int) (i:Int) d r2=some (kcs on d):=fun x he r2 h1 h2 hx h3=>by rw[Ai,bF (by omega)];refine MW h hon hl hm hm2 M (i+1) r2 (by omega) (by omega) h1 ?_;rw[←dL hx,←dL (show i<(kvs on d).length by omega),h2,ht,h3,he];simp[kvs]
   rw[decide_eq_true hlt,cond_true,P5,bg hlt,ah,anv 1048576 _ d h.wv hb (by omega) m (by omega) (by omega),ah,eD hx,ah,Int.toNat_natCast,aB hx,ah,eD hx2,ah,aB hx2,ah,List.getElem_set_self];cases hc:(I (getD (toLst on[i]) d) 0==0)with
   |    true=>
        rw[cond_true,ah,ah];refine step anw (by unfold gvp;rw[hc];rfl) ((row.set i (getD (toLst on[i]) d)).set i anw) (by rw[List.length_set,List.length_set];exact hr) ?_ (by rw[List.length_set];exact hx2) ?_;·rw[List.take_set_of_le (aL _),List.take_set_of_le (aL _)]
        ·rw[List.getElem_set_self]
   |    false=>
        rw[cond_false];refine step (getD (toLst on[i]) d) (by unfold gvp;rw[hc];rfl) (row.set i (getD (toLst on[i]) d)) (by rw[List.length_set];exact hr) ?_ hx2 ?_;·rw[List.take_set_of_le (aL _)]
        ·rw[List.getElem_set_self]
  ·have e:i=on.length:=by omega
   subst e;have hre:row=kvs on d:=by rw[List.take_of_length_le (by omega),List.take_of_length_le (by omega)]at ht;exact ht
   rw[decide_eq_false hlt,cond_false,P6,hre,agY (Rx h) (by omega) (by omega)];rfl
end Go.Proofs.YtmecfjhdnbgfeaaGreatDoor
namespace Go.Proofs.YtmecfjhdnbgfeaaGreatDoor
open Go.Am
def pls(f:Dt->Bool):Nat->List Dt->List Nat
 |_,[]=>[]
 |k,d::r=>bif f d then k::pls f (k+1) r else pls f (k+1) r
theorem wh{f:Dt->Bool}:∀{D:List Dt}{k i:Nat},i∈pls f k D->k<=i∧∃h:i-k<D.length,f D[i-k]=true
 | [],k,i,h=>by cases h
 |d::r,k,i,h=>by
  rw[pls]at h;cases hf:f d with
  |true=>
   rw[hf,cond_true]at h;rcases List.mem_cons.1 h with rfl|h;·exact⟨aL _,by simp,by simpa using hf⟩
   ·    obtain⟨h1,h2,h3⟩:=wh h;refine⟨by omega,by simp;omega,?_⟩;have e:i-k=(i-(k+1))+1:=by omega
        simp only[e,List.getElem_cons_succ];exact h3
  |false=>
   rw[hf,cond_false]at h;obtain⟨h1,h2,h3⟩:=wh h;refine⟨by omega,by simp;omega,?_⟩;have e:i-k=(i-(k+1))+1:=by omega
   simp only[e,List.getElem_cons_succ];exact h3
theorem UW{f:Dt->Bool}:∀{D:List Dt}{k:Nat},(pls f k D).length<=D.length
 | [],k=>aL _
 |d::r,k=>by have:=UW (f:=f) (D:=r) (k:=k+1);rw[pls];cases f d<;>simp<;>omega
theorem UY{f:Dt->Bool}{d:Dt}:∀{D:List Dt}{k:Nat},pls f k (D++[d])=pls f k D++(bif f d then[k+D.length]else[])
 | [],k=>by simp[pls]
 |x::r,k=>by rw[List.cons_append,pls,pls,UY,List.length_cons,show k+1+r.length=k+(r.length+1) by omega];cases f x<;>simp
theorem Da{f:Dt->Bool}{d:Dt}:∀{D:List Dt}{k n:Nat}(h:n<D.length),f d=f D[n]->pls f k (D.set n d)=pls f k D
 | [],_,_,h,_=>by cases h
 |x::r,k,0,h,e=>by have e:f d=f x:=e;rw[List.set_cons_zero,pls,pls,e]
 |x::r,k,n+1,h,e=>by rw[List.set_cons_succ,pls,pls,Da (Nat.lt_of_succ_lt_succ h) (by simpa using e)]
theorem UZ{f:Dt->Bool}{d:Dt}(hd:f d=false):∀{D:List Dt}{k n:Nat},n<D.length->pls f k (D.set n d)=(pls f k D).filter fun i=>!(i==k+n)
 | [],_,_,h=>by cases h
 |x::r,k,0,h=>by
  have hr:∀i∈pls f (k+1) r,(fun i=>!(i==k+0)) i=true:=fun i hi=>by
   have:=(wh hi).1;have:(i==k+0)=false:=by rw[beq_eq_false_iff_ne];omega
   simp only[this,Bool.not_false]
  rw[List.set_cons_zero,pls,pls,hd,cond_false];cases f x with
  |true=>
   have e:(!(k==k+0))=false:=by simp
   rw[cond_true,List.filter_cons,e,List.filter_eq_self.2 hr];simp
  |false=>rw[cond_false,List.filter_eq_self.2 hr]
 |x::r,k,n+1,h=>by
  have ih:=UZ hd (D:=r) (k:=k+1) (n:=n) (Nat.lt_of_succ_lt_succ h);rw[show k+1+n=k+(n+1) by omega]at ih;rw[List.set_cons_succ,pls,pls,ih];cases f x with
  |true=>
   have e:(!(k==k+(n+1)))=true:=by
        have:(k==k+(n+1))=false:=by rw[beq_eq_false_iff_ne];omega
        rw[this];rfl
   rw[cond_true,cond_true,List.filter_cons,e];simp
  |false=>rfl
theorem U0{f:Dt->Bool}{d:Dt}(hd:f d=true):∀{D:List Dt}{k n:Nat}(h:n<D.length),f D[n]=false->(pls f k D++[k+n]).Perm (pls f k (D.set n d))
 | [],_,_,h,_=>by cases h
 |x::r,k,0,h,e=>by have e:f x=false:=e;rw[List.set_cons_zero,pls,pls,e,hd,cond_true,cond_false];exact List.perm_append_comm
 |x::r,k,n+1,h,e=>by
  have ih:=U0 hd (D:=r) (k:=k+1) (n:=n) (Nat.lt_of_succ_lt_succ h) (by simpa using e);rw[show k+1+n=k+(n+1) by omega]at ih;rw[List.set_cons_succ,pls,pls];cases f x with
  |true=>exact ih.cons k
  |false=>exact ih
def bk(es ls:List Dt)(s:ByteArray):List Dt:=match mix es s with
 |some i=>Dt.toLst (ls.getD i (.lst []))
 |none=>[]
end Go.Proofs.YtmecfjhdnbgfeaaGreatDoor
namespace Go.Proofs.YtmecfjhdnbgfeaaGreatDoor
open Go.Am Dt
def npl(n:Int)(x:Dt):Bool:=!(toInt x==n)
theorem U1(n:Int)(row:List Dt)(hl:row.length<1000000000)(m:Nat):∀(M i:Nat),i<=row.length->row.length-i<M->(row.take i).filter (npl n)=row.take i->
  (row.filter (npl n)=row∧jE (m+1) M (row.length:Int) (i:Int) row n=some (-1,row,n))∨∃(k:Nat)(h:k<row.length),(row.take k).filter (npl n)=row.take k∧npl n row[k]=false∧jE (m+1) M (row.length:Int) (i:Int) row n=some ((k:Int),row,n)
 |0,i,_,h,_=>by omega
 |M+    1,i,hi,hM,ht=>by
  rw[jE,dlt];by_cases hlt:i<row.length
  ·rw[decide_eq_true hlt,cond_true,Pk,eD hlt,ah,Int.toNat_natCast,aB hlt,ah];have e0:i26 (m+1) (toInt row[i]) n=some (toInt row[i]==n,n):=rfl;rw[e0,ah];cases hc:(toInt row[i]==n)with
   |true=>exact .inr ⟨i,hlt,ht,by unfold npl;rw[hc];rfl,rfl⟩
   |    false=>
        have hp:npl n row[i]=true:=by unfold npl;rw[hc];rfl
        show (_∧yw (m+1) (jE (m+1) M) (row.length:Int) (i:Int) row n=_)∨∃(k:Nat)(h:k<row.length),_∧_∧yw (m+1) (jE (m+1) M) (row.length:Int) (i:Int) row n=_;rw[yw,bF (by omega)];exact U1 n row hl m M (i+1) (by omega) (by omega) (by rw[←dL hlt,List.filter_append,ht];simp[hp])
  ·have e:i=row.length:=by omega
   subst e;rw[List.take_length]at ht;rw[decide_eq_false hlt];exact .inl ⟨ht,rfl⟩
theorem Db(n:Int)(row:List Dt)(hl:row.length<1000000000)(hI:∀x∈row,x= .int (toInt x))(m:Nat):∀(M a b:Nat)(r:List Dt),r.length=row.length->b<=row.length->row.length-b<M->a<b->r.take a=(row.take b).filter (npl n)->r.drop b=row.drop b->
  kF (m+1) M (a:Int) (b:Int) n r=some (n,row.filter (npl n))
 |0,a,b,r,_,_,h,_,_,_=>by omega
 |M+    1,a,b,r,hr,hb,hM,hab,ht,hd=>by
  rw[kF,dlt,hr];by_cases hlt:b<row.length
  ·have hbr:b<r.length:=by omega
   have har:a<r.length:=by omega
   have hx:r[b]=row[b]:=by have h1:=ay hbr;rw[hd,ay hlt]at h1;exact(List.cons.inj h1).1.symm
   have hxi:=hI _ (aD hlt);rw[decide_eq_true hlt,cond_true,Pm,eD hbr,ah,Int.toNat_natCast,aB hbr,ah,hx];have e0:i26 (m+1) (toInt row[b]) n=some (toInt row[b]==n,n):=rfl;rw[e0,ah];cases hc:(toInt row[b]==n)with
   |    true=>
        have hp:npl n row[b]=false:=by unfold npl;rw[hc];rfl
        show pQ (m+1) (kF (m+1) M) (a:Int) (b:Int) n r=_;rw[pQ,bF (by omega)];refine Db n row hl hI m M a (b+1) r hr (by omega) (by omega) (by omega) ?_ ?_
        ·rw[←dL hlt,List.filter_append,ht];simp[hp]
        ·rw[←List.tail_drop,←List.tail_drop,hd]
   |    false=>
        have hp:npl n row[b]=true:=by unfold npl;rw[hc];rfl
        rw[Bool.not_false,cond_true,eD har,ah,Int.toNat_natCast,aB har,ah,bF (by omega),←hxi];show pQ (m+1) (kF (m+1) M) ((a+1:Nat):Int) (b:Int) n (r.set a row[b])=_;rw[pQ,bF (by omega)];refine Db n row hl hI m M (a+1) (b+1) (r.set a row[b]) (by rw[List.length_set];exact hr) (by omega) (by omega) (by omega) ?_ ?_
        ·have ha2:a<(r.set a row[b]).length:=by rw[List.length_set];exact har
         rw[←dL ha2,List.take_set_of_le (aL _),List.getElem_set_self,ht,←dL hlt,List.filter_append];simp[hp]
        ·rw[List.drop_set_of_lt (by omega),←List.tail_drop,←List.tail_drop,hd]
  ·have e:b=row.length:=by omega
   subst e;rw[List.take_length]at ht;have hc0:cutL r (a:Int) (r.length:Int)=some ((r.drop a).take (r.length-a)):=Dp (by omega) (aL _);have hc1:=Dp (l:=r.take a++List.replicate (r.length-a) (int 0)) (i:=0) (j:=a) (by omega) (by simp;omega);rw[decide_eq_false hlt,cond_false,Pn,hc0,ah,Int.toNat_natCast,Nat.ble_eq_true_of_le (by omega),cond_true];show Option.bind (cutL (r.take a++List.replicate (r.length-a) (int 0)) ((0:Nat):Int) (a:Int)) _=_;rw[hc1,ah,aK,Nat.sub_zero,List.take_append_of_le_length (by rw[List.length_take];omega),List.take_take,Nat.min_self,ht]
theorem del_eq(n:Int)(row:List Dt)(hl:row.length<1000000000)(hI:∀x∈row,x= .int (toInt x)){m:Nat}(hm:row.length+10<=m):i24 (m+1) row n=some (n,row.filter (npl n)):=by
 obtain⟨q,rfl⟩:∃q,m=q+2:=⟨m-2,by omega⟩;have h:=U1 n row hl q (q+2) 0 (by omega) (by omega) (by simp);have e:i25 (q+2) row n=jE (q+1) (q+2) (row.length:Int) ((0:Nat):Int) row n:=rfl;rw[i24,e];rcases h with⟨h1,h2⟩| ⟨k,hk,h1,h2,h3⟩
 ·rw[h2,h1];rfl
 ·have hk1:(((k:Nat):Int)== -1)=false:=by rw[beq_eq_false_iff_ne];omega
  rw[h3,ah,hk1,cond_false,Po,bF (by omega)];show kF (q+2) (q+3) (k:Int) ((k+1:Nat):Int) n row=_;refine Db n row hl hI (q+1) (q+3) k (k+1) row rfl (by omega) (by omega) (by omega) ?_ rfl;rw[←dL hk,List.filter_append,h1];simp[h2]
theorem mJ(s:ByteArray):∀es:List Dt,mhas es s=(mix es s).isSome
 | []=>rfl
 |e::r=>by
  have:=mJ s r;unfold mhas at this ⊢
  rw[mget,mix];cases (e.S 0==s)with
  |true=>rfl
  |false=>
   rw[cond_false,cond_false,this];cases mix r s<;>rfl
theorem Dg{s:ByteArray}:∀{es:List Dt}{i:Nat},mix es s=some i->∃h:i<es.length,es[i].S 0=s
 | [],i,h=>by cases h
 |e::r,i,h=>by
  rw[mix]at h;cases hc:(e.S 0==s)with
  |true=>
   rw[hc]at h;cases h;rw[amE]at hc;exact⟨by simp,by simpa using hc⟩
  |false=>
   rw[hc,cond_false]at h;cases hr:mix r s with
   |none=>rw[hr]at h;cases h
   |    some j=>
        rw[hr]at h;cases h;obtain⟨h1,h2⟩:=Dg hr;exact⟨by simpa using h1,by simpa using h2⟩
theorem xX{s:ByteArray}{v:Dt}:∀{es:List Dt},mix es s=none->mput es s v=es++[.agg [.str s,v]]
 | [],_=>rfl
 |e::r,h=>by
  rw[mix]at h;cases hc:(e.S 0==s)with
  |true=>rw[hc]at h;cases h
  |false=>
   rw[hc,cond_false]at h;rw[mput,hc,cond_false,xX (by cases hr:mix r s with|none=>rfl|some j=>rw[hr]at h;cases h)];rfl
theorem U2{s t:ByteArray}{v:Dt}:∀{es:List Dt},mix (es++[.agg [.str s,v]]) t=match mix es t with
   |some i=>some i
   |none=>if s=t then some es.length else none
 | []=>by show (bif s==t then some 0 else(none:Option Nat).map (· +1))=_;rw[amE];by_cases h:s=t<;>simp[h,mix]
 | e::r=>by
   rw[List.cons_append,mix,mix,U2 (es:=r)];cases (e.S 0==t)with
   |true=>rfl
   |false=>
    rw[cond_false,cond_false];cases mix r t with
    |some i=>rfl
    |   none=>
        by_cases h:s=t<;>simp[h]
theorem Ji{es ls:List Dt}(hl:es.length=ls.length){s:ByteArray}{i:Nat}(h:mix es s=some i)(r:List Dt)(t:ByteArray):bk es (ls.set i (.lst r)) t=if t=s then r else bk es ls t:=by
 obtain⟨h1,h2⟩:=Dg h;unfold bk;by_cases hts:t=s
 ·subst hts;rw[h,if_pos rfl];show toLst ((ls.set i (.lst r)).getD i (.lst []))=r;rw[List.getD,List.getElem?_set_self (by omega)];rfl
 ·rw[if_neg hts];cases hm:mix es t with
  |none=>rfl
  |some j=>
   obtain⟨h3,h4⟩:=Dg hm;have:i≠j:=fun e=>by subst e;exact hts (h4.symm.trans h2)
   show toLst ((ls.set i (.lst r)).getD j (.lst []))=toLst (ls.getD j (.lst []));rw[List.getD,List.getD,List.getElem?_set_ne this]
theorem agZ{es ls:List Dt}(hl:es.length=ls.length){s:ByteArray}(h:mix es s=none)(v:Dt)(r:List Dt)(t:ByteArray):bk (mput es s v) ((ls++[lst []]).set es.length (.lst r)) t=if t=s then r else bk es ls t:=by
 rw[xX h,List.set_append,if_neg (by omega),hl,Nat.sub_self];show bk (es++[.agg [.str s,v]]) (ls++[lst r]) t=_;unfold bk;rw[U2];by_cases hts:t=s
 ·subst hts;rw[h,if_pos rfl,if_pos rfl];show toLst ((ls++[lst r]).getD es.length (.lst []))=r;rw[List.getD,hl,List.getElem?_append_right (aL _),Nat.sub_self];rfl
 ·rw[if_neg hts,if_neg fun e=>hts e.symm];cases hm:mix es t with
  |none=>rfl
  |some j=>
   obtain⟨h3,h4⟩:=Dg hm;show toLst ((ls++[lst r]).getD j (.lst []))=toLst (ls.getD j (.lst []));rw[List.getD,List.getD,List.getElem?_append_left (by omega)]
structure Md (md:Dt):Prop where
 on:∀p∈L md 1,Pth p
 ln:(L md 1).length<=8
noncomputable def kd(md d:Dt):ByteArray:=kcs (L md 1) d
noncomputable def sto(md:Dt)(D:List Dt):List Dt:=D.map fun d=> .agg [d,.str (kd md d)]
def idM(D:List Dt):List Dt:=mkM kc (fun i=> .int i) 0 D
def wrt(s:ByteArray)(n b:Dt):Dt:= .agg [.int 2,.str s,idD n,n,b,iV,iW,.str (ByteArray.mk (List.toArray [])),.int 0,.lst [],.lst [],.bool false]
noncomputable def kf(md:Dt)(s:ByteArray)(d:Dt):Bool:=decide (kd md d=s)
def ints(l:List Nat):List Dt:=l.map fun i:Nat=>int (i:Int)
structure Kin (md:Dt) (D es ls:List Dt):Prop where
 len:es.length=ls.length
 pm:∀s,(bk es ls s).Perm (ints (pls (kf md s) 0 D))
theorem Kin.bl{md:Dt}{D es ls:List Dt}(h:Kin md D es ls)(s:ByteArray):(bk es ls s).length<=D.length:=by rw[(h.pm s).length_eq];have:=UW (f:=kf md s) (D:=D) (k:=0);simpa [ints]using this
theorem Kin.int{md:Dt}{D es ls:List Dt}(h:Kin md D es ls)(s:ByteArray):∀x∈bk es ls s,x= .int (toInt x):=fun x hx=>by obtain⟨i,_,rfl⟩:=List.mem_map.1 ((h.pm s).mem_iff.1 hx);rfl
theorem xY{es ls:List Dt}(hl:es.length=ls.length){s:ByteArray}{i:Nat}(h:mix es s=some i):∃hi:i<ls.length,toLst ls[i]=bk es ls s:=by obtain⟨h1,_⟩:=Dg h;refine⟨by omega,?_⟩;unfold bk;rw[h];show _=toLst (ls.getD i (.lst []));rw[getD_lt (by omega)]
theorem xZ{es ls:List Dt}{s:ByteArray}(h:mix es s=none):bk es ls s=[]:=by unfold bk;rw[h]
theorem Jj{md d:Dt}(h:Md md)(hd:Ok d)(a w:List Dt){m:Nat}(hm:30000000<=m)(hm2:m<800000000000):i13 (m+1) (.agg [md,.lst a,.lst [],.lst [],.lst w]) d=some (kd md d):=by have hl:=h.ln;obtain⟨q,rfl⟩:∃q,m=q+1:=⟨m-1,by omega⟩;rw[i13];show Option.bind (mkL ((L md 1).length:Int) ((L md 1).length:Int) aX) _=_;rw[nG (by omega),ah];show lC (q+1) (q+2) (L md 1) ((L md 1).length:Int) ((0:Nat):Int) d (List.replicate (L md 1).length aX)=_;exact MW hd h.on (by omega) (by omega) (by omega) (q+2) 0 _ (by omega) (by omega) (by simp) (by simp)
theorem MX{md n b:Dt}(hn:Do n)(hb:WV b)(hbb:b.bulk<=1048576)(a es ls i w:List Dt)(hw:w.length<1000000000){m:Nat}(hm:5000001<=m):i20 (m+1) n b md a es ls i w=some (md,i,a,es,ls,w++[wrt (S md 0) n b]):=by
 obtain⟨q,rfl⟩:∃q,m=q+1:=⟨m-1,by omega⟩;have hx:w.length<(w++[rE]).length:=by simp
 rw[i20,ident hn (by omega),ah,fI 1048576 (idD n) hn.id.bk (by omega) hn.id.wv q (by omega),ah,fI 1048576 n hn.o.bk (by omega) hn.o.wv q (by omega),ah,fI 1048576 b hbb (by omega) hb q (by omega),ah,cond_false,cond_true,if_pos (by omega),ah,eD hx,ah,Int.toNat_natCast,aB hx,ah];rw[List.set_append,if_neg (by omega),Nat.sub_self];rfl
theorem yc(md:Dt)(D:List Dt):(sto md D).length=D.length:=by simp[sto]
theorem Jk{md:Dt}{D:List Dt}{i:Nat}(h:i<D.length):(sto md D)[i]? =some (.agg [D[i],.str (kd md D[i])]):=by simp[sto,h]
theorem anz(md:Dt)(D:List Dt)(d:Dt):sto md D++[.agg [d,.str (kd md d)]]=sto md (D++[d]):=by simp[sto]
theorem anA(md:Dt)(D:List Dt)(n:Nat)(d:Dt):(sto md D).set n (.agg [d,.str (kd md d)])=sto md (D.set n d):=by simp[sto,List.map_set]
theorem ag0{kc':Dt->ByteArray}{g:Nat->Dt}{s:ByteArray}{D:List Dt}(h:fk kc' s D=none):mhas (mkM kc' g 0 D) s=false:=by unfold mhas;rw[Io,h];rfl
theorem ag1{kc':Dt->ByteArray}{g:Nat->Dt}{s:ByteArray}{D:List Dt}{i:Nat}(h:fk kc' s D=some i):mhas (mkM kc' g 0 D) s=true:=by unfold mhas;rw[Io,h];rfl
theorem U3{md:Dt}{D es ls es' ls':List Dt}{d:Dt}(h:Kin md D es ls)(hl:es'.length=ls'.length)(hb:∀t,bk es' ls' t=if t=kd md d then bk es ls t++[.int (D.length:Int)]else bk es ls t):Kin md (D++[d]) es' ls':=by
 refine⟨hl,fun s=>?_⟩;rw[hb,UY];by_cases hs:s=kd md d
 ·have e:kf md s d=true:=by unfold kf;rw[hs];exact decide_eq_true rfl
  rw[if_pos hs,e,cond_true];have:=(h.pm s).append_right [int (D.length:Int)];unfold ints at this ⊢
  rw[List.map_append];simpa using this
 ·have e:kf md s d=false:=by unfold kf;exact decide_eq_false fun h=>hs h.symm
  rw[if_neg hs,e,cond_false,List.append_nil];exact h.pm s
theorem add_eq{md d:Dt}(hM:Md md)(h:Do d){D es ls:List Dt}(hK:Kin md D es ls)(hf:fk kc (kc d) D=none)(hl:D.length<1000000000)(w:List Dt){m:Nat}(hm:30000001<=m)(hm2:m<800000000000):
  ∃es' ls',i12 (m+1) d md (sto md D) es ls (idM D) w=some (md,idM (D++[d]),sto md (D++[d]),es',ls',w)∧Kin md (D++[d]) es' ls':=by
 obtain⟨q,rfl⟩:∃q,m=q+1:=⟨m-1,by omega⟩;have e2:mput (idM D) (kc d) (.int ((D.length:Nat):Int))=idM (D++[d]):=by have:=SV kc (fun i=> .int i) d D 0 hf;rw[Nat.zero_add]at this;exact this
 have hbl:=hK.bl (kd md d);have et:zA (q+1) [idD d]=some (kc d):=Ti h.id (by omega);rw[i12,Jj hM h.o _ _ (by omega) (by omega),ah,gu (by rw[yc];omega),ah,mJ,yc,anz];cases hx:mix es (kd md d)with
 |some i=>
  obtain⟨hi,hv⟩:=xY hK.len hx;rw[Option.isSome_some,cond_true,ah,aB hi,ah,hv,gu (by omega),ah,cond_true,ah,Nat.beq_refl,cond_true,ident h (by omega),ah,et,ah,e2,List.set_set];refine⟨_,_,rfl,U3 hK (by rw[List.length_set];exact hK.len) fun t=>?_⟩;rw[Ji hK.len hx];by_cases ht:t=kd md d;·rw[if_pos ht,if_pos ht,ht]
  ·rw[if_neg ht,if_neg ht]
 |none=>
  rw[Option.isSome_none,cond_false,cond_false,ident h (by omega),ah,et,ah,e2];refine⟨_,_,rfl,U3 hK ?_ fun t=>?_⟩
  ·rw[xX hx,List.length_set,aT,aT,hK.len];rfl
  ·rw[agZ hK.len hx];by_cases ht:t=kd md d
   ·    rw[if_pos ht,if_pos ht,ht,xZ hx];rfl
   ·rw[if_neg ht,if_neg ht]
theorem ag2{md:Dt}{D es ls:List Dt}{d:Dt}{n:Nat}(h:Kin md D es ls)(hn:n<D.length)(he:kd md d=kd md D[n]):Kin md (D.set n d) es ls:=by refine⟨h.len,fun s=>?_⟩;rw[Da hn (by unfold kf;rw[he])];exact h.pm s
theorem MZ(n:Nat)(l:List Nat):(ints l).filter (npl (n:Int))=ints (l.filter fun i=>!(i==0+n)):=by unfold ints;rw[List.filter_map];congr 1;refine List.filter_congr fun i _=>?_;show (!(((i:Nat):Int)==(n:Int)))=_;rw[Nat.zero_add];congr 1;rw[Bool.eq_iff_iff,beq_iff_eq,beq_iff_eq];omega
theorem M0{md:Dt}{D es ls es' ls':List Dt}{d:Dt}{n:Nat}(h:Kin md D es ls)(hn:n<D.length)(he:kd md D[n]≠kd md d)(hl:es'.length=ls'.length)
  (hb:∀t,bk es' ls' t=if t=kd md d then bk es ls t++[.int (n:Int)]else if t=kd md D[n]then(bk es ls t).filter (npl (n:Int))else bk es ls t):Kin md (D.set n d) es' ls':=by
 refine⟨hl,fun s=>?_⟩;rw[hb];by_cases hs:s=kd md d
 ·have e:kf md s d=true:=by unfold kf;rw[hs];exact decide_eq_true rfl
  have e1:kf md s D[n]=false:=by unfold kf;exact decide_eq_false fun h=>he (h.trans hs)
  rw[if_pos hs];have p1:=(h.pm s).append_right [int (n:Int)];have p2:=(U0 e hn e1 (k:=0)).map fun i:Nat=>int (i:Int);rw[List.map_append,Nat.zero_add]at p2;exact p1.trans p2
 ·rw[if_neg hs];have e:kf md s d=false:=by unfold kf;exact decide_eq_false fun h=>hs h.symm
  by_cases hs2:s=kd md D[n]
  ·rw[if_pos hs2,UZ e hn,←MZ];exact(h.pm s).filter _
  ·have e1:kf md s D[n]=false:=by unfold kf;exact decide_eq_false fun h=>hs2 h.symm
   rw[if_neg hs2,Da hn (by rw[e,e1])];exact h.pm s
theorem U4{f:Dt->Bool}:∀{D:List Dt}{k n:Nat}(h:n<D.length),f D[n]=true->k+n∈pls f k D
 | [],_,_,h,_=>by cases h
 |x::r,k,0,h,e=>by have e:f x=true:=e;rw[pls,e];exact aZ
 |x::r,k,n+1,h,e=>by
  have ih:=U4 (k:=k+1) (Nat.lt_of_succ_lt_succ h) (by simpa using e);rw[show k+1+n=k+(n+1) by omega]at ih;rw[pls];cases f x with
  |true=>exact aY _ ih
  |false=>exact ih
theorem anB{md d:Dt}(hM:Md md)(h:Do d){D es ls:List Dt}(hK:Kin md D es ls){n:Nat}(hn:n<D.length)(hl:D.length<1000000000)(i w:List Dt){m:Nat}(hm:2000000001<=m)(hm2:m<800000000000):
  ∃es' ls',i23 (m+1) (n:Int) d md (sto md D) es ls i w=some (md,i,sto md (D.set n d),es',ls',w)∧Kin md (D.set n d) es' ls':=by
 obtain⟨q,rfl⟩:∃q,m=q+1:=⟨m-1,by omega⟩;have hx:n<(sto md D).length:=by rw[yc];exact hn
 have fin:∀es' ls':List Dt,gF (q+1) (kd md d) md i (sto md D) es' ls' w (n:Int) d=some (md,i,sto md (D.set n d),es',ls',w):=fun es' ls'=>by rw[gF,eD hx,ah,Int.toNat_natCast,Jk hn,ah,anA]
 rw[i23,eD hx,ah,Int.toNat_natCast,Jk hn,ah,Jj hM h.o _ _ (by omega) (by omega),ah];have eS:S (agg [D[n],.str (kd md D[n])]) 1=kd md D[n]:=rfl;have hkb:((kd md D[n]).toList==(kd md d).toList)=decide (kd md D[n]=kd md d):=by
  by_cases he:kd md D[n]=kd md d;·rw[he,decide_eq_true rfl];simp
  ·rw[decide_eq_false he,beq_eq_false_iff_ne];intro hc;rw[ByteArray.toList_eq,ByteArray.toList_eq]at hc;exact he (BD hc)
 rw[eS,hkb];by_cases he:kd md D[n]=kd md d
 ·rw[decide_eq_true he,Bool.not_true,cond_false,fin];exact⟨_,_,rfl,ag2 hK hn he.symm⟩
 ·have hin:int (n:Int)∈bk es ls (kd md D[n]):=by
   refine(hK.pm _).mem_iff.2 (List.mem_map.2 ⟨n,?_,rfl⟩);have:=U4 (f:=kf md (kd md D[n])) (k:=0) hn (decide_eq_true rfl)
   rwa [Nat.zero_add]at this
  rw[decide_eq_false he,Bool.not_false,cond_true,mJ];cases hx1:mix es (kd md D[n])with
  |none=>rw[xZ hx1]at hin;cases hin
  |some a=>
   obtain⟨hi,hv⟩:=xY hK.len hx1;have hbl:=hK.bl (kd md D[n]);have hbl2:=hK.bl (kd md d);have hset:∀r:List Dt,es.length=(ls.set a (.lst r)).length:=fun r=>by rw[List.length_set];exact hK.len
   rw[Option.isSome_some,cond_true,ah,aB hi,ah,hv,del_eq (n:Int) _ (by omega) (hK.int _) (by omega),ah,cond_true,ah,Nat.beq_refl,cond_true,List.set_set,mJ];have hb1:=fun t=>Ji hK.len hx1 ((bk es ls (kd md D[n])).filter (npl (n:Int))) t;generalize hls:ls.set a (lst ((bk es ls (kd md D[n])).filter (npl (n:Int))))=l1 at hb1;have hl1:es.length=l1.length:=by rw[←hls];exact hset _
   have hbd:bk es l1 (kd md d)=bk es ls (kd md d):=by rw[hb1,if_neg fun e=>he e.symm]
   cases hx2:mix es (kd md d)with
   |    some b=>
        obtain⟨hi2,hv2⟩:=xY hl1 hx2;rw[Option.isSome_some,cond_true,ah,aB hi2,ah,hv2,hbd,gu (by omega),ah,cond_true,ah,Nat.beq_refl,cond_true,List.set_set,fin];refine⟨_,_,rfl,M0 hK hn he (by rw[List.length_set];exact hl1) fun t=>?_⟩;rw[Ji hl1 hx2];by_cases ht:t=kd md d;·rw[if_pos ht,if_pos ht,ht]
        ·rw[if_neg ht,if_neg ht,hb1];by_cases ht2:t=kd md D[n];·rw[if_pos ht2,if_pos ht2,ht2]
         ·rw[if_neg ht2,if_neg ht2]
   |    none=>
        rw[Option.isSome_none,cond_false,cond_false,fin];refine⟨_,_,rfl,M0 hK hn he ?_ fun t=>?_⟩
        ·rw[xX hx2,List.length_set,aT,aT,hl1];rfl
        ·rw[agZ hl1 hx2];by_cases ht:t=kd md d
         ·rw[if_pos ht,if_pos ht,ht,xZ hx2];rfl
         ·rw[if_neg ht,if_neg ht,hb1];by_cases ht2:t=kd md D[n];·rw[if_pos ht2,if_pos ht2,ht2]
          ·rw[if_neg ht2,if_neg ht2]
def nxt(ma:Int)(o d:Dt):Dt:=bif ma==1 then nxR o d else nxF o (L d 4)
noncomputable def dR(md:Dt)(D W:List Dt)(d:Dt):Int×List Dt×List Dt:=match pls (kf md (kd md d)) 0 D with
 | []=>bif I md 3==4 then(15,D,W)else bif I md 3==5 then(bif stE d !=0 then(stE d,D,W)else(match fk kc (kc d) D with
   |some _=>(16,D,W)
   |none=>(0,D++[d],W++[wrt (S md 0) d aX])))else(0,D,W)
 | [n]=>bif I md 2==4 then(16,D,W)else bif I md 2==3 then(0,D,W)else bif stE (nxt (I md 2) (D.getD n (.int 0)) d) !=0 then(stE (nxt (I md 2) (D.getD n (.int 0)) d),D,W)else bif iT (nxt (I md 2) (D.getD n (.int 0)) d) (D.getD n (.int 0))==0 then(0,D,W)else(0,D.set n (nxt (I md 2) (D.getD n (.int 0)) d),W++[wrt (S md 0) (nxt (I md 2) (D.getD n (.int 0)) d) (D.getD n (.int 0))])
 |_=>(14,D,W)
structure Dc (d:Dt):Prop where
 o:Ok d
 k5:I d 0=5
theorem Dc.st{d:Dt}(h:Dc d)(he:stE d=0):Do d:=by have hb:=h.o.bk;exact(fG h.o.wv h.o.wr h.k5 (by omega) (m:=20000000) (by omega) (by omega)).2.2 he
theorem Ry{o d:Dt}(ho:Do o)(hd:Dc d)(ma:Int):WV (nxt ma o d)∧WR (nxt ma o d)∧(nxt ma o d).bulk<=3000000∧I (nxt ma o d) 0=5:=by
 unfold nxt;cases ma==1 with
 |true=>exact auj ho hd.o
 |false=>
  obtain⟨a,b,c,e⟩:=Rw (L d 4) ho.o.wv ho.o.wr fun f hf=>⟨(iR hd.o.wv).2.1 f hf,(nD hd.o.wr).2.2 f hf⟩;have h1:=ho.o.bk;have h2:=hd.o.bk;have h3:=(iR hd.o.wv).2.2;exact⟨a,b,by rw[cond_false];omega,e.trans ho.k5⟩
structure Fh (o v:Dt):Prop where
 l:0<(L v 4).length
 h:(L v 4).getD 0 (.int 0)= .agg [.str uid,idD o]
theorem Fh.id{o v:Dt}(h:Fh o v):idD v=idD o:=by show fld ((L v 4).getD 0 (.int 0)) 1=_;rw[h.h];rfl
theorem Fh.set{o v f:Dt}(h:Fh o v)(hn:nid f=true):Fh o (gy v (S f 0) (fld f 1)):=by
 have hl:=h.l;unfold nid at hn;have hn:((S f 0).toList==[95,105,100])=false:=by simpa using hn
 obtain⟨x,r,e⟩:∃x r,L v 4=x::r:=by
  cases hv:L v 4 with
  |nil=>rw[hv]at hl;cases hl
  |cons x r=>exact⟨x,r,rfl⟩
 have hx:x= .agg [.str uid,idD o]:=by have:=h.h;rw[e]at this;exact this
 have hc:(ByteArray.toList (S x 0)==ByteArray.toList (S f 0))=false:=by
  rw[hx];show (uid.toList==_)=false;rw[beq_eq_false_iff_ne]at hn ⊢
  intro hc;have:=auU;rw[hc]at this;exact hn (by simpa using this)
 unfold gy;cases hf:fi (S f 0) (L v 4)with
 |some k=>
  have hk:∃j,k=j+1:=by
   rw[e,fi,hc,cond_false]at hf;cases hr:fi (S f 0) r with
   |none=>rw[hr]at hf;cases hf
   |some j=>rw[hr]at hf;cases hf;exact⟨j,rfl⟩
  obtain⟨j,rfl⟩:=hk;refine⟨?_,?_⟩
  ·show 0<((L v 4).set (j+1) _).length;rw[List.length_set];exact hl
  ·show ((L v 4).set (j+1) _).getD 0 (.int 0)=_;rw[e,List.set_cons_succ,←hx];rfl
 |none=>
  refine⟨?_,?_⟩
  ·show 0<(L v 4++[_]).length;simp
  ·show (L v 4++[_]).getD 0 (.int 0)=_;rw[e,←hx];rfl
theorem Fh.of{o:Dt}(h:Do o):Fh o o:=⟨h.len,by rw[getD_lt h.len,h.hd]⟩
theorem Rz{o:Dt}:∀(L:List Dt){v:Dt},Fh o v->Fh o (nxF v L)
 | [],v,h=>h
 |f::L,v,h=>by
  unfold nxF;rw[List.foldl_cons];cases hn:nid f with
  |false=>exact Rz L h
  |true=>exact Rz L (h.set hn)
theorem ag3{o:Dt}(h:Do o)(d:Dt)(ma:Int):idD (nxt ma o d)=idD o:=by
 unfold nxt;cases ma==1 with
 |true=>rfl
 |false=>exact(Rz _ (Fh.of h)).id
theorem M4:aX.bulk<=1048576:=by decide
theorem Gv{md d:Dt}(hM:Md md)(h:Dc d){D es ls:List Dt}(hK:Kin md D es ls)(hp:pls (kf md (kd md d)) 0 D=[])(hl:D.length<1000000)(w:List Dt)(hw:w.length<1000000000){m:Nat}(hm:2000000010<=m)(hm2:m<800000000000):
  ∃es' ls',i18 (m+1) d md (sto md D) es ls (idM D) w=some ((dR md D w d).1,md,idM (dR md D w d).2.1,sto md (dR md D w d).2.1,es',ls',(dR md D w d).2.2)∧Kin md (dR md D w d).2.1 es' ls':=by
 obtain⟨q,rfl⟩:∃q,m=q+1:=⟨m-1,by omega⟩;have hb:=h.o.bk;obtain⟨s1,_,_⟩:=fG h.o.wv h.o.wr h.k5 (by omega) (m:=q) (by omega) (by omega);unfold dR;rw[hp,i18];dsimp only;cases h4:(I md 3==4)with
 |true=>exact⟨es,ls,rfl,hK⟩
 |false  =>
  rw[cond_false,cond_false];cases h5:(I md 3==5)with
  |false=>exact⟨es,ls,rfl,hK⟩
  |true=>
   rw[cond_true,cond_true,s1,ah];cases he:(stE d !=0)with
   |true=>exact⟨es,ls,rfl,hK⟩
   |    false=>
        have hdo:=h.st (by simpa using he);have et:zA (q+1) [idD d]=some (kc d):=Ti hdo.id (by omega);rw[cond_false,cond_false,P9,ident hdo (by omega),ah,et,ah];cases hf:fk kc (kc d) D with
        |some k=>
         rw[show mhas (idM D) (kc d)=true from ag1 hf];exact⟨es,ls,rfl,hK⟩
        |none=>
         rw[show mhas (idM D) (kc d)=false from ag0 hf,cond_false,P8];show ∃es' ls',Option.bind (i20 (q+1) d aX md (sto md D) es ls (idM D) w) _=_∧_;rw[MX hdo aug M4 _ _ _ _ w hw (by omega),ah,fI 1048576 d hdo.o.bk (by omega) hdo.o.wv q (by omega),ah];obtain⟨es',ls',e1,e2⟩:=add_eq hM hdo hK hf (by omega) (w++[wrt (S md 0) d aX]) (m:=q) (by omega) (by omega);show ∃es' ls',Option.bind (i12 (q+1) d md (sto md D) es ls (idM D) (w++[wrt (S md 0) d aX])) _=_∧_;rw[e1];exact⟨es',ls',rfl,e2⟩
theorem ayr{md o nx:Dt}(hM:Md md){D es ls:List Dt}(hK:Kin md D es ls){n:Nat}(hn:n<D.length)(ho:D[n]=o)(hdo:Do o)(hnx:WV nx∧WR nx∧nx.bulk<=3000000∧I nx 0=5)(hid:idD nx=idD o)(hl:D.length<1000000)(w:List Dt)(hw:w.length<1000000000){m:Nat}(hm:2000000010<=m)(hm2:m<800000000000):
  ∃es' ls',kG (m+1) (n:Int) md (idM D) (sto md D) es ls w o nx=some ((bif stE nx !=0 then(stE nx,D,w)else bif iT nx o==0 then(0,D,w)else(0,D.set n nx,w++[wrt (S md 0) nx o])).1,md,idM (bif stE nx !=0 then(stE nx,D,w)else bif iT nx o==0 then(0,D,w)else(0,D.set n nx,w++[wrt (S md 0) nx o])).2.1,sto md (bif stE nx !=0 then(stE nx,D,w)else bif iT nx o==0 then(0,D,w)else(0,D.set n nx,w++[wrt (S md 0) nx o])).2.1,es',ls',(bif stE nx !=0 then(stE nx,D,w)else bif iT nx o==0 then(0,D,w)else(0,D.set n nx,w++[wrt (S md 0) nx o])).2.2)∧Kin md (bif stE nx !=0 then(stE nx,D,w)else bif iT nx o==0 then(0,D,w)else(0,D.set n nx,w++[wrt (S md 0) nx o])).2.1 es' ls':=by
 obtain⟨h1,h2,h3,h4⟩:=hnx;obtain⟨q,rfl⟩:∃q,m=q+3:=⟨m-3,by omega⟩;obtain⟨s1,_,s3⟩:=fG h1 h2 h4 (by omega) (m:=q+3) (by omega) (by omega);have hob:=hdo.o.bk;rw[kG,s1,ah];cases he:(stE nx !=0)with
 |true=>exact⟨es,ls,rfl,hK⟩
 |false=>
  have hnd:=s3 (by simpa using he);rw[cond_false,H8,yL,asY nx o q (by omega) (by omega),ah,ah];cases hc:(iT nx o==0)with
  |true=>exact⟨es,ls,rfl,hK⟩
  |false=>
   obtain⟨es',ls',e1,e2⟩:=anB hM hnd hK hn (by omega) (idM D) (w++[wrt (S md 0) nx o]) (m:=q+3) (by omega) (by omega);have k2:idM (D.set n nx)=idM D:=SX kc _ nx D 0 n hn (by unfold kc;rw[hid,ho]);rw[Bool.not_false,cond_true,MX hnd hdo.o.wv hdo.o.bk _ _ _ _ w hw (by omega),ah];show ∃es' ls',Option.bind (i23 (q+3+1) (n:Int) nx md (sto md D) es ls (idM D) (w++[wrt (S md 0) nx o])) _=some (0,md,idM (D.set n nx),sto md (D.set n nx),es',ls',w++[wrt (S md 0) nx o])∧Kin md (D.set n nx) es' ls';rw[e1,k2];exact⟨es',ls',rfl,e2⟩
theorem Jl{d o:Dt}(h:Dc d){m:Nat}(hm:5000000<=m)(x0:Int)(x4:Dt)(x5 x6 x7 x8 x9:List Dt):∀(M i:Nat),i<=(L d 4).length->(L d 4).length-i<M->
  uL (m+1) M x0 (L d 4) ((L d 4).length:Int) (i:Int) x4 x5 x6 x7 x8 x9 o 5 0 (ByteArray.mk (List.toArray [])) [] (.agg [.str uid,idD o]::((L d 4).take i).filter nid)=kG (m+1) x0 x4 x5 x6 x7 x8 x9 o (nxR o d)
 |0,i,_,h=>by omega
 |M+    1,i,hi,hM=>by
  have hb:=h.o.bk;have hl:=(bU h.o.wv).2.1;rw[uL,dlt];by_cases hlt:i<(L d 4).length
  ·obtain⟨s,v,e⟩:∃s v,(L d 4)[i]= .agg [.str s,v]:=by
        have hf:=(iR h.o.wv).2.1 _ (aD hlt);generalize (L d 4)[i]=f at hf;cases hf with
        |mk _=>exact⟨_,_,rfl⟩
   obtain⟨p1,p2⟩:=(bU h.o.wv).2.2.2 _ (aD hlt);have e3:=dL hlt;rw[e]at p1 p2 e3;have p1:WV v:=p1;have p2:v.bulk<d.bulk:=p2;have hfl:((L d 4).take (i+1)).filter nid=((L d 4).take i).filter nid++[agg [.str s,v]].filter nid:=by rw[←e3,List.filter_append]
   have hle:(((L d 4).take i).filter nid).length<=i:=Nat.le_trans (List.length_filter_le _ _) (by rw[List.length_take];omega);rw[decide_eq_true hlt,cond_true,Qa,bg hlt,ah,e];show (bif !(s.toList==[95,105,100])then Option.bind (qB (m+1) v) _ else _)=_;cases hn:(s.toList==[95,105,100])with
   |    false=>
        have hp:nid (.agg [.str s,v])=true:=by show (!(s.toList==[95,105,100]))=true;rw[hn];rfl
        have hfl2:((L d 4).take (i+1)).filter nid=((L d 4).take i).filter nid++[.agg [.str s,v]]:=by rw[hfl];simp[hp]
        rw[Bool.not_false,cond_true,fI 1048576 v (by omega) (by omega) p1 m (by omega),ah];show Option.bind (app _ [.agg [.str s,v]]) _=_;rw[gu (by simp only[List.length_cons];omega),ah,List.cons_append,←hfl2,Ak,bF (by omega)];exact Jl h hm x0 x4 x5 x6 x7 x8 x9 M (i+1) (by omega) (by omega)
   |    true=>
        have hp:nid (.agg [.str s,v])=false:=by show (!(s.toList==[95,105,100]))=false;rw[hn];rfl
        have hfl2:((L d 4).take (i+1)).filter nid=((L d 4).take i).filter nid:=by rw[hfl];simp[hp]
        rw[Bool.not_true,cond_false,←hfl2,Ak,bF (by omega)];exact Jl h hm x0 x4 x5 x6 x7 x8 x9 M (i+1) (by omega) (by omega)
  ·have e:i=(L d 4).length:=by omega
   subst e;rw[decide_eq_false hlt,cond_false,List.take_length];rfl
theorem Jm{d o:Dt}(h:Dc d){m:Nat}(hm:5000000<=m)(hm2:m<800000000000)(x0:Int)(x4:Dt)(x5 x6 x7 x8 x9:List Dt):∀(M i:Nat)(v:Dt),i<=(L d 4).length->(L d 4).length-i<M->WV v->WR v->I v 0=5->v.bulk+bulkL ((L d 4).drop i)<=3000000->
  uM (m+2) M x0 (L d 4) ((L d 4).length:Int) (i:Int) x4 x5 x6 x7 x8 x9 o v=kG (m+2) x0 x4 x5 x6 x7 x8 x9 o (nxF v ((L d 4).drop i))
 |0,i,_,_,h,_,_,_,_=>by omega
 |M+    1,i,v,hi,hM,hv,hr,h5,hbv=>by
  have hb:=h.o.bk;have hl:=(bU h.o.wv).2.1;rw[uM,dlt];by_cases hlt:i<(L d 4).length
  ·have hf:=(iR h.o.wv).2.1 _ (aD hlt);have hg:=(nD h.o.wr).2.2 _ (aD hlt);rw[ay hlt,bulkL]at hbv;rw[decide_eq_true hlt,cond_true,Qb,bg hlt,ah,ay hlt];generalize (L d 4)[i]=f at hf hg hbv;unfold nxF;rw[List.foldl_cons];cases hf with
   |    @mk s x hx=>
        cases hg with
        |mk hx2=>
         have hbs:=vY (r:=x) (s:=s) hv;have hbf:(agg [.str s,x]).bulk=x.bulk+s.size+2:=by simp only[Dt.bulk,bulkL];omega
         show (bif !(s.toList==[95,105,100])then Option.bind (zV (m+2) v s x) _ else _)=kG (m+2) x0 x4 x5 x6 x7 x8 x9 o (List.foldl _ (bif !(s.toList==[95,105,100])then gy v s x else v) ((L d 4).drop (i+1)));cases hn:(s.toList==[95,105,100])with
         |  false=>
            rw[Bool.not_false,cond_true,cond_true,I9 m s v x hv hx h5 (by omega) (by omega) (by omega) (by omega) (by omega),ah,rT,bF (by omega)];exact Jm h hm hm2 x0 x4 x5 x6 x7 x8 x9 M (i+1) (gy v s x) (by omega) (by omega) (xU hv hx) (UU hr hx2) (Rv.trans h5) (by omega)
         |  true=>
            rw[Bool.not_true,cond_false,cond_false,rT,bF (by omega)];exact Jm h hm hm2 x0 x4 x5 x6 x7 x8 x9 M (i+1) v (by omega) (by omega) hv hr h5 (by omega)
  ·have e:i=(L d 4).length:=by omega
   subst e;rw[decide_eq_false hlt,cond_false,List.drop_length];rfl
theorem RB{md d:Dt}(hM:Md md)(h1:1<=I md 2)(h2:I md 2<=4)(h:Dc d){D es ls:List Dt}(hD:∀x∈D,Do x)(hK:Kin md D es ls){n:Nat}(hn:n<D.length)(hp:pls (kf md (kd md d)) 0 D=[n])(hl:D.length<1000000)(w:List Dt)(hw:w.length<1000000000){m:Nat}(hm:2000000030<=m)(hm2:m<800000000000):
  ∃es' ls',i21 (m+1) (n:Int) d md (sto md D) es ls (idM D) w=some ((dR md D w d).1,md,idM (dR md D w d).2.1,sto md (dR md D w d).2.1,es',ls',(dR md D w d).2.2)∧Kin md (dR md D w d).2.1 es' ls':=by
 obtain⟨q,rfl⟩:∃q,m=q+2:=⟨m-2,by omega⟩;have hx:n<(sto md D).length:=by rw[yc];exact hn
 have hdo:=hD _ (aD hn);have hob:=hdo.o.bk;have hdb:=h.o.bk;have hlb:=(bU h.o.wv).2.1;have hg:D.getD n (.int 0)=D[n]:=getD_lt hn;have fin:=ayr hM hK hn rfl hdo (Ry hdo h (I md 2)) (ag3 hdo d (I md 2)) hl w hw (m:=q+1) (by omega) (by omega);unfold dR;rw[hp,i21,eD hx,ah,Int.toNat_natCast,Jk hn,ah];dsimp only;rw[hg];by_cases e1:I md 2=1
 ·rw[e1]at fin ⊢
  rw[show ((1:Int)==1)=true from rfl,show ((1:Int)==4)=false from rfl,show ((1:Int)==3)=false from rfl,cond_true,cond_false,cond_false];show ∃es' ls',Option.bind (zQ (q+2) D[n]) _=_∧_;rw[ident hdo (by omega),ah,fI 1048576 (idD D[n]) hdo.id.bk (by omega) hdo.id.wv (q+1) (by omega),ah];have k:=Jl (o:=D[n]) h (m:=q+1) (by omega) (n:Int) md (idM D) (sto md D) es ls w (q+3) 0 (by omega) (by omega);rw[List.take_zero]at k;obtain⟨es',ls',f1,f2⟩:=fin;exact⟨es',ls',k.trans f1,f2⟩
 by_cases e2:I md 2=2
 ·rw[e2]at fin ⊢
  rw[show ((2:Int)==1)=false from rfl,show ((2:Int)==2)=true from rfl,show ((2:Int)==4)=false from rfl,show ((2:Int)==3)=false from rfl,cond_true,cond_false,cond_false,cond_false];show ∃es' ls',Option.bind (qB (q+2) D[n]) _=_∧_;have hz:=(iR h.o.wv).2.2;rw[fI 1048576 D[n] hob (by omega) hdo.o.wv (q+1) (by omega),ah];have k:=Jm (o:=D[n]) h (m:=q) (by omega) (by omega) (n:Int) md (idM D) (sto md D) es ls w (q+3) 0 D[n] (by omega) (by omega) hdo.o.wv hdo.o.wr hdo.k5 (by rw[aK];omega);rw[aK]at k;obtain⟨es',ls',f1,f2⟩:=fin;exact⟨es',ls',k.trans f1,f2⟩
 by_cases e4:I md 2=4
 ·rw[e4];exact⟨es,ls,rfl,hK⟩
 ·have e3:I md 2=3:=by omega
  rw[e3];exact⟨es,ls,rfl,hK⟩
theorem ag4{md:Dt}{D es ls:List Dt}(hK:Kin md D es ls){s:ByteArray}{i:Nat}(hx:mix es s=some i):Kin md D es (ls.set i (.lst (bk es ls s))):=by
 refine⟨by rw[List.length_set];exact hK.len,fun t=>?_⟩;rw[Ji hK.len hx];by_cases ht:t=s;·rw[if_pos ht,ht];exact hK.pm s
 ·rw[if_neg ht];exact hK.pm t
theorem anC{md d:Dt}(hM:Md md)(h1:1<=I md 2)(h2:I md 2<=4)(h:Dc d){D es ls:List Dt}(hD:∀x∈D,Do x)(hK:Kin md D es ls)(hl:D.length<1000000)(w:List Dt)(hw:w.length<1000000000){m:Nat}(hm:2000000040<=m)(hm2:m<800000000000):
  ∃es' ls',i17 (m+1) d md (sto md D) es ls (idM D) w=some ((dR md D w d).1,md,idM (dR md D w d).2.1,sto md (dR md D w d).2.1,es',ls',(dR md D w d).2.2)∧Kin md (dR md D w d).2.1 es' ls':=by
 obtain⟨q,rfl⟩:∃q,m=q+1:=⟨m-1,by omega⟩;have hpm:=hK.pm (kd md d);rw[i17,Jj hM h.o _ _ (by omega) (by omega),ah,mJ];cases hx:mix es (kd md d)with
 |none=>
  rw[xZ hx]at hpm;have hp:pls (kf md (kd md d)) 0 D=[]:=List.map_eq_nil_iff.1 hpm.symm.eq_nil;obtain⟨es',ls',f1,f2⟩:=Gv hM h hK hp hl w hw (m:=q) (by omega) (by omega);rw[Option.isSome_none,cond_false,f1];exact⟨es',ls',rfl,f2⟩
 |some i=>
  obtain⟨hi,hv⟩:=xY hK.len hx;have hK2:=ag4 hK hx;rw[Option.isSome_some,cond_true,ah,aB hi,ah,hv,List.set_set];cases hp:pls (kf md (kd md d)) 0 D with
  |nil=>
   rw[hp]at hpm;have hb:bk es ls (kd md d)=[]:=hpm.eq_nil;obtain⟨es',ls',f1,f2⟩:=Gv hM h hK2 hp hl w hw (m:=q) (by omega) (by omega);rw[hb]at f1 ⊢
   show ∃es' ls',Option.bind (i18 (q+1) d md (sto md D) es (ls.set i (.lst [])) (idM D) w) _=_∧_;rw[f1];exact⟨es',ls',rfl,f2⟩
  |cons n r=>
   cases r with
   |    nil=>
        rw[hp]at hpm;have hb:bk es ls (kd md d)=[.int (n:Int)]:=List.perm_singleton.1 hpm;have hn:n<D.length:=by obtain⟨_,h,_⟩:=wh (f:=kf md (kd md d)) (D:=D) (k:=0) (i:=n) (by rw[hp];exact aZ);simpa using h
        obtain⟨es',ls',f1,f2⟩:=RB hM h1 h2 h hD hK2 hn hp hl w hw (m:=q) (by omega) (by omega);rw[hb]at f1 ⊢
        show ∃es' ls',Option.bind (i21 (q+1) (n:Int) d md (sto md D) es (ls.set i (.lst [.int (n:Int)])) (idM D) w) _=_∧_;rw[f1];exact⟨es',ls',rfl,f2⟩
   |    cons k r=>
        have hln:(bk es ls (kd md d)).length=r.length+2:=by rw[hpm.length_eq,hp];simp[ints]
        rw[show (((bk es ls (kd md d)).length:Int)==0)=false by rw[beq_eq_false_iff_ne];omega,show (((bk es ls (kd md d)).length:Int)==1)=false by rw[beq_eq_false_iff_ne];omega,cond_false,cond_false];unfold dR;rw[hp];exact⟨_,_,rfl,hK2⟩
theorem ag5{d:Dt}(h:Ok d){p:Dt}(hp:Pth p){m:Nat}(hm:20000000<=m)(hm2:m<800000000000):yA (m+1) d (toLst p)=some (gvp d p):=by
 have hb:=h.bk;have hp:(toLst p).length<=10000000:=hp;obtain⟨q,rfl⟩:∃q,m=q+1:=⟨m-1,by omega⟩;rw[yA,UQ _ 1048576 d h.wv hb q (by omega) (by omega),ah];unfold gvp;cases (I (getD (toLst p) d) 0==0)with
 |true=>rfl
 |false=>rfl
theorem anD{on:List Dt}{a b:Dt}(ha:Ok a)(hb:Ok b):(on.all fun p=>iT (gvp a p) (gvp b p)==0)=decide (kcs on a=kcs on b):=by rw[Bool.eq_iff_iff,decide_eq_true_iff,anx ha hb,List.all_eq_true];unfold kvs;rw[List.map_inj_left];refine forall_congr' fun p=>forall_congr' fun _=>?_;have o1:=C8 ha p;have o2:=C8 hb p;rw[beq_iff_eq];exact FB o1.wv o2.wv o1.snd o2.snd
theorem ag6{on D:List Dt}{d:Dt}{i:Nat}(hon:∀p∈on,Pth p)(hol:on.length<=1000)(h:Ok d)(hi:i<D.length)(hx:Ok D[i]){m:Nat}(hm:20000000<=m)(hm2:m<700000000000)(rec1:List Dt->Int->List Dt->Dt->List Dt->Option (List Dt×List Dt))(out:List Dt):∀(M k:Nat)(ok:Bool),k<=on.length->on.length-k<M->
  pR (m+3) rec1 M on (i:Int) ok (k:Int) D d out=HZ (m+3) rec1 on (i:Int) (ok&&(on.drop k).all fun p=>iT (gvp D[i] p) (gvp d p)==0) D d out
 |0,k,_,_,h=>by omega
 |M+    1,k,ok,hk,hM=>by
  rw[pR,dlt];by_cases hlt:k<on.length
  ·have hp:=hon _ (aD hlt);have b1:=(C8 h on[k]).bk;have b2:=(C8 hx on[k]).bk;rw[decide_eq_true hlt,cond_true,PU,ay hlt,List.all_cons];cases ok with
   |    true=>
        rw[cond_true,eD hi,ah,Int.toNat_natCast,aB hi,ah,bg hlt,ah,ag5 hx hp (by omega) (by omega),ah,ah,ag5 h hp (by omega) (by omega),ah,Iu _ _ m (by omega) (by omega),ah,y9,bF (by omega),ag6 hon hol h hi hx hm hm2 rec1 out M (k+1) _ (by omega) (by omega),Bool.true_and]
   |    false=>
        rw[cond_false,y9,bF (by omega),ag6 hon hol h hi hx hm hm2 rec1 out M (k+1) _ (by omega) (by omega),Bool.false_and,Bool.false_and]
  ·have e:k=on.length:=by omega
   subst e;rw[decide_eq_false hlt,cond_false,List.drop_length,List.all_nil,Bool.and_true]
theorem RF{md D:List Dt}{on:List Dt}{d:Dt}(hon:∀p∈on,Pth p)(hol:on.length<=1000)(h:Ok d)(hD:∀x∈D,Do x)(hl:D.length<1000000){m:Nat}(hm:20000000<=m)(hm2:m<700000000000):∀(M i:Nat)(out:List Dt),i<=D.length->D.length-i<M->out.length<=i->
  pU (m+3) M on (i:Int) D d out=some (out++ints (pls (fun x=>decide (kcs on x=kcs on d)) i (D.drop i)),D)
 |0,i,_,_,h,_=>by omega
 |M+    1,i,out,hi,hM,ho=>by
  rw[pU,dlt];by_cases hlt:i<D.length
  ·have hx:=(hD _ (aD hlt)).o;rw[decide_eq_true hlt,cond_true];show pR (m+3) (pU (m+3) M) (m+4) on (i:Int) true ((0:Nat):Int) D d out=_;rw[ag6 hon hol h hlt hx hm hm2 _ out (m+4) 0 true (by omega) (by omega),Bool.true_and,aK,anD hx h,HZ,ay hlt,pls];cases decide (kcs on D[i]=kcs on d)with
   |    true=>
        rw[cond_true,cond_true,gu (by omega),ah,ze,bF (by omega),RF (md:=md) hon hol h hD hl hm hm2 M (i+1) _ (by omega) (by omega) (by simp;omega),List.append_assoc];rfl
   |    false=>
        rw[cond_false,cond_false,ze,bF (by omega),RF (md:=md) hon hol h hD hl hm hm2 M (i+1) _ (by omega) (by omega) (by omega)]
  ·have e:i=D.length:=by omega
   subst e;rw[decide_eq_false hlt,cond_false,List.drop_length];show some (out,D)=some (out++[],D);rw[List.append_nil]
theorem ag7{md d:Dt}(hM:Md md){D:List Dt}(h:Ok d)(hD:∀x∈D,Do x)(hl:D.length<1000000){m:Nat}(hm:20000010<=m)(hm2:m<600000000000):i28 (m+1) (L md 1) d D=some (ints (pls (kf md (kd md d)) 0 D),D):=by obtain⟨q,rfl⟩:∃q,m=q+3:=⟨m-3,by omega⟩;have hln:=hM.ln;have:=RF (md:=[]) hM.on (by omega) h hD hl (m:=q) (by omega) (by omega) (q+4) 0 [] (by omega) (by omega) (by simp);rw[aK,List.nil_append]at this;exact this
theorem Dh{d o:Dt}(h:Dc d){m:Nat}(z:Dt):∀(M i:Nat),i<=(L d 4).length->(L d 4).length-i<M->
  EC m M 1 (i:Int) d z 5 0 (ByteArray.mk (List.toArray [])) [] (.agg [.str uid,idD o]::((L d 4).take i).filter nid)=some (nxR o d)
 |0,i,_,h=>by omega
 |M+    1,i,hi,hM=>by
  have hb:=h.o.bk;have hl:=(bU h.o.wv).2.1;rw[EC,dlt];by_cases hlt:i<(L d 4).length
  ·have hfl:((L d 4).take (i+1)).filter nid=((L d 4).take i).filter nid++[(L d 4)[i]].filter nid:=by rw[←dL hlt,List.filter_append]
   have hle:(((L d 4).take i).filter nid).length<=i:=Nat.le_trans (List.length_filter_le _ _) (by rw[List.length_take];omega);rw[decide_eq_true hlt,cond_true,aaP,bg hlt,ah];cases hn:((S (L d 4)[i] 0).toList==[95,105,100])with
   |    false=>
        have hp:nid (L d 4)[i]=true:=by unfold nid;rw[hn];rfl
        have hfl2:((L d 4).take (i+1)).filter nid=((L d 4).take i).filter nid++[(L d 4)[i]]:=by rw[hfl];simp[hp]
        rw[cond_false,aaO];show Option.bind (app _ [(L d 4)[i]]) _=_;rw[gu (by simp only[List.length_cons];omega),ah,List.cons_append,←hfl2,JO,bF (by omega)];exact Dh h z M (i+1) (by omega) (by omega)
   |    true=>
        have hp:nid (L d 4)[i]=false:=by unfold nid;rw[hn];rfl
        have hfl2:((L d 4).take (i+1)).filter nid=((L d 4).take i).filter nid:=by rw[hfl];simp[hp]
        rw[cond_true,←hfl2,JO,bF (by omega)];exact Dh h z M (i+1) (by omega) (by omega)
  ·have e:i=(L d 4).length:=by omega
   subst e;rw[decide_eq_false hlt,cond_false,List.take_length];rfl
theorem Di{d:Dt}(h:Dc d){m:Nat}(hm:5000000<=m)(hm2:m<800000000000)(z:Dt):∀(M i:Nat)(v:Dt),i<=(L d 4).length->(L d 4).length-i<M->WV v->I v 0=5->v.bulk+bulkL ((L d 4).drop i)<=3000000->
  ED (m+2) M 2 (i:Int) d z v=some (nxF v ((L d 4).drop i))
 |0,i,_,_,h,_,_,_=>by omega
 |M+    1,i,v,hi,hM,hv,h5,hbv=>by
  have hb:=h.o.bk;have hl:=(bU h.o.wv).2.1;rw[ED,dlt];by_cases hlt:i<(L d 4).length
  ·have hf:=(iR h.o.wv).2.1 _ (aD hlt);rw[ay hlt,bulkL]at hbv;rw[decide_eq_true hlt,cond_true,PS,bg hlt,ah,ay hlt];generalize (L d 4)[i]=f at hf hbv;unfold nxF;rw[List.foldl_cons];cases hf with
   |    @mk s x hx=>
        have hbs:=vY (r:=x) (s:=s) hv;have hbf:(agg [.str s,x]).bulk=x.bulk+s.size+2:=by simp only[Dt.bulk,bulkL];omega
        show (bif (s.toList==[95,105,100])then _ else HY (m+2) _ 2 (i:Int) d z v (.agg [.str s,x]))=some (List.foldl _ (bif !(s.toList==[95,105,100])then gy v s x else v) ((L d 4).drop (i+1)));cases hn:(s.toList==[95,105,100])with
        |false=>
         rw[cond_false,Bool.not_false,cond_true,HY];show Option.bind (zD (m+2) v s x) _=_;rw[I8 m s v x h5 (by omega) (by omega) (by omega),ah,y7,bF (by omega)];exact Di h hm hm2 z M (i+1) (gy v s x) (by omega) (by omega) (xU hv hx) (Rv.trans h5) (by omega)
        |true=>
         rw[cond_true,Bool.not_true,cond_false,y7,bF (by omega)];exact Di h hm hm2 z M (i+1) v (by omega) (by omega) hv h5 (by omega)
  ·have e:i=(L d 4).length:=by omega
   subst e;rw[decide_eq_false hlt,cond_false,List.drop_length];rfl
theorem merged_eq{o d:Dt}(ho:Do o)(h:Dc d){ma:Int}(hma:ma=1∨ma=2){m:Nat}(hm:5000010<=m)(hm2:m<800000000000):qM (m+1) ma o d=some (nxt ma o d):=by
 obtain⟨q,rfl⟩:∃q,m=q+2:=⟨m-2,by omega⟩;have hlb:=(bU h.o.wv).2.1;have hdb:=h.o.bk;have hob:=ho.o.bk;have hz:=(iR h.o.wv).2.2;rcases hma with rfl|rfl
 ·rw[qM];show Option.bind (Am.idx (L o 4) 0) _=_;rw[ho.idx,ah];have k:=Dh (o:=o) h (m:=q+2) aX (q+3) 0 (by omega) (by omega);rw[List.take_zero]at k;exact k
 ·have k:=Di h (m:=q) (by omega) (by omega) aX (q+3) 0 o (by omega) (by omega) ho.o.wv ho.k5 (by rw[aK];omega);rw[aK]at k;exact k
theorem U5{d:Dt}(h:Do d){D:List Dt}(hD:∀x∈D,Do x)(hl:D.length<1000000){m:Nat}(hm:5000000<=m)(hm2:m<800000000000):∀(M i:Nat),i<=D.length->D.length-i<M->
  Er (m+3) M D (i:Int) (idD d)=some (fk kc (kc d) (D.drop i)).isSome
 |0,i,_,h=>by omega
 |M+    1,i,hi,hM=>by
  rw[Er,dlt];by_cases hlt:i<D.length
  ·have ho:=hD _ (aD hlt);have hb:=ho.id.bk;rw[decide_eq_true hlt,cond_true,aaq,bg hlt,ah,ho.idx,ah];show Option.bind (qA (m+3) (idD D[i]) (idD d)) _=_;rw[Iu (idD D[i]) (idD d) m (by omega) (by omega),ah,ay hlt,fk];by_cases he:kc D[i]=kc d
   ·    have hc:iT (idD D[i]) (idD d)=0:=(FB ho.id.wv h.id.wv ho.id.snd h.id.snd).2 (ab6 ho h he);rw[if_pos he,hc];rfl
   ·    have hc:(iT (idD D[i]) (idD d)==0)=false:=by rw[beq_eq_false_iff_ne];intro hc;exact he (by unfold kc;rw[(FB ho.id.wv h.id.wv ho.id.snd h.id.snd).1 hc])
        rw[if_neg he,hc,cond_false,aap,bF (by omega),U5 h hD hl hm hm2 M (i+1) (by omega) (by omega)];cases fk kc (kc d) (D.drop (i+1))<;>rfl
  ·have e:i=D.length:=by omega
   subst e;rw[decide_eq_false hlt,cond_false,List.drop_length];rfl
theorem ag8{d:Dt}(h:Do d){D:List Dt}(hD:∀x∈D,Do x)(hl:D.length<1000000){m:Nat}(hm:5000010<=m)(hm2:m<800000000000):zN (m+1) D (idD d)=some (fk kc (kc d) D).isSome:=by obtain⟨q,rfl⟩:∃q,m=q+3:=⟨m-3,by omega⟩;have:=U5 h hD hl (m:=q) (by omega) (by omega) (q+4) 0 (by omega) (by omega);rw[aK]at this;exact this
theorem anE{a b:Dt}(ha:Ok a)(hb:Ok b):(iT a b==0)=(iT b a==0):=by rw[Bool.eq_iff_iff,beq_iff_eq,beq_iff_eq,FB ha.wv hb.wv ha.snd hb.snd,FB hb.wv ha.wv hb.snd ha.snd];exact eq_comm
def w0(s:ByteArray)(n b:Dt):Dt:= .agg [.int 2,.str s,aX,n,b,iV,iW,.str (ByteArray.mk (List.toArray [])),.int 0,.lst [],.lst [],.bool false]
theorem axm{md d:Dt}(hM:Md md)(h1:1<=I md 2)(h2:I md 2<=4)(h3:4<=I md 3)(h4:I md 3<=6)(h:Dc d){D:List Dt}(hD:∀x∈D,Do x)(hl:D.length<1000000){docs:List Dt}{i:Nat}(hi:i<docs.length)(hdi:docs[i]=d)(hdl:docs.length<1000000)(w:List Dt)(hw:w.length<1000000000){m:Nat}(hm:30000000<=m)(hm2:m<500000000000)(rec1:List Dt->Int->Dt->List Dt->List Dt->Option (List Dt×Int)):
  SG (m+1) rec1 docs (i:Int) md w D=bif (dR md D w d).1 !=0 then some ([],(dR md D w d).1)else rec1 docs ((i+1:Nat):Int) md (dR md D w d).2.2 (dR md D w d).2.1:=by
 have hdb:=h.o.bk;rw[SG,bg hi,ah,hdi,ag7 hM h.o hD hl (by omega) (by omega),ah,ah];dsimp only;have hj6:∀w' D',Bh (m+1) rec1 docs (i:Int) md w' D'=rec1 docs ((i+1:Nat):Int) md w' D':=fun w' D'=>by rw[Bh,bF (by omega)]
 unfold dR;cases hp:pls (kf md (kd md d)) 0 D with
 |nil   =>
  dsimp only;show Fp (m+1) rec1 docs (i:Int) [] false md w D (w0 (S md 0) d aX)=_;show Kk (m+1) rec1 docs (i:Int) [] (I md 3==4) md w D (w0 (S md 0) d aX)=_;rw[Kk];by_cases a4:I md 3=4;·rw[a4];rfl
  rw[beq_eq_false_iff_ne.2 a4,cond_false,cond_false];show lD (m+1) rec1 docs (i:Int) [] (I md 3==6) md w D (w0 (S md 0) d aX)=_;rw[lD];by_cases a6:I md 3=6
  ·rw[a6];exact hj6 w D
  have a5:I md 3=5:=by omega
  rw[a5,show ((5:Int)==6)=false from rfl,show ((5:Int)==5)=true from rfl,cond_false,cond_true];show Bl (m+1) rec1 docs (i:Int) [] md w D (w0 (S md 0) d aX)=_;rw[Bl];show Option.bind (zI (m+1) d) _=_;rw[(fG h.o.wv h.o.wr h.k5 (by omega) (m:=m) (by omega) (by omega)).2.1,ah];cases he:(stE d !=0)with
  |true=>
   rw[cond_true,cond_true];dsimp only;rw[he];rfl
  |false=>
   have hdo:=h.st (by simpa using he);rw[cond_false,cond_false,SF];show Option.bind (Am.idx (L d 4) 0) _=_;rw[hdo.idx,ah];show Option.bind (zN (m+1) D (idD d)) _=_;rw[ag8 hdo hD hl (by omega) (by omega),ah];show Bj (m+1) rec1 docs (i:Int) [] (fk kc (kc d) D).isSome md w D (wrt (S md 0) d aX)=_;rw[Bj];cases hf:fk kc (kc d) D with
   |some k=>rfl
   |    none=>
        rw[Option.isSome_none,cond_false,H9];show qb (m+1) rec1 docs (i:Int) [] md w D (wrt (S md 0) d aX)=_;rw[qb,cond_false,cond_true,if_pos (by simp;omega),ah];show Option.bind (app D [d]) _=_;rw[gu (by omega),ah];exact hj6 _ _
 |cons n r=>
  have hn:n<D.length:=by obtain⟨_,h,_⟩:=wh (f:=kf md (kd md d)) (D:=D) (k:=0) (i:=n) (by rw[hp];exact aZ);simpa using h
  cases r with
  |nil   =>
   have hdo:=hD _ (aD hn);have hob:=hdo.o.bk;have hg:D.getD n (.int 0)=D[n]:=getD_lt hn;dsimp only;rw[hg];show Fp (m+1) rec1 docs (i:Int) [.int (n:Int)] (I md 2==4) md w D (w0 (S md 0) d aX)=_;rw[Fp];by_cases a4:I md 2=4;·rw[a4];rfl
   rw[beq_eq_false_iff_ne.2 a4,cond_false,cond_false];show (bif (I md 2==3)then lD (m+1) rec1 docs (i:Int) [.int (n:Int)] true md w D (w0 (S md 0) d aX)else lD (m+1) rec1 docs (i:Int) [.int (n:Int)] false md w D (w0 (S md 0) d aX))=_;by_cases a3:I md 2=3
   ·    rw[a3];exact hj6 w D
   rw[beq_eq_false_iff_ne.2 a3,cond_false,cond_false,lD,cond_false];show Option.bind (inL D (n:Int)) _=_;obtain⟨n1,n2,n3,n4⟩:=Ry hdo h (I md 2);have nid:=ag3 hdo d (I md 2);rw[eD hn,ah];show Option.bind (D[((n:Nat):Int).toNat]?) _=_;rw[Int.toNat_natCast,aB hn,ah,bg hi,ah,hdi,merged_eq hdo h (show I md 2=1∨I md 2=2 by omega) (by omega) (by omega),ah];generalize hnx:nxt (I md 2) D[n] d=nx at n1 n2 n3 n4 nid;show Bl (m+1) rec1 docs (i:Int) [.int (n:Int)] md w D (w0 (S md 0) nx D[n])=_;obtain⟨_,s2,s3⟩:=fG n1 n2 n4 (by omega) (m:=m) (by omega) (by omega);rw[Bl];show Option.bind (zI (m+1) nx) _=_;rw[s2,ah];cases he:(stE nx !=0)with
   |    true=>
        rw[cond_true,cond_true];dsimp only;rw[he];rfl
   |    false=>
        have hnd:=s3 (by simpa using he);rw[cond_false,cond_false,SF];show Option.bind (Am.idx (L nx 4) 0) _=_;rw[hnd.idx,ah];show Bj (m+1) rec1 docs (i:Int) [.int (n:Int)] false md w D (wrt (S md 0) nx D[n])=_;rw[Bj,cond_false,H9];obtain⟨q,rfl⟩:∃q,m=q+2:=⟨m-2,by omega⟩;show Option.bind (qA (q+3) D[n] nx) _=_;rw[Iu _ _ q (by omega) (by omega),ah,anE hdo.o hnd.o];cases hc:(iT nx D[n]==0)with
        |true=>
         rw[cond_true,cond_true];exact hj6 w D
        |false=>
         rw[cond_false,cond_false];show qb (q+2+1) rec1 docs (i:Int) [.int (n:Int)] md w D (wrt (S md 0) nx D[n])=_;rw[qb,cond_false,cond_true,if_pos (by simp;omega),ah];show Option.bind (inL D (n:Int)) _=_;rw[eD hn,ah];show Option.bind (D[((n:Nat):Int).toNat]?) _=_;rw[Int.toNat_natCast,aB hn,ah];exact hj6 _ _
  |cons k r=>
   have hln:(ints (n::k::r)).length=r.length+2:=by simp[ints]
   rw[decide_eq_true (show (1:Int)<((ints (n::k::r)).length:Int) by omega)];rfl
def Ws(w:Dt):Prop:=(fld w 2).bulk<=1048576∧(fld w 3).bulk<=1048576∧(fld w 4).bulk<=1048576
theorem step_ok{md d:Dt}(h:Dc d){D:List Dt}(hD:∀x∈D,Do x)(w:List Dt)(hw:∀x∈w,Ws x):(∀x∈(dR md D w d).2.1,Do x)∧(∀x∈(dR md D w d).2.2,Ws x)∧(dR md D w d).2.1.length<=D.length+1∧(dR md D w d).2.2.length<=w.length+1:=by
 have base:∀e:Int,(∀x∈(e,D,w).2.1,Do x)∧(∀x∈(e,D,w).2.2,Ws x)∧(e,D,w).2.1.length<=D.length+1∧(e,D,w).2.2.length<=w.length+1:=fun e=>⟨hD,hw,by simp,by simp⟩;unfold dR;cases hp:pls (kf md (kd md d)) 0 D with
 |nil   =>
  dsimp only;cases (I md 3==4)with
  |true=>exact base _
  |false  =>
   cases (I md 3==5)with
   |false=>exact base _
   |    true=>
        cases he:(stE d !=0)with
        |true=>exact base _
        |false=>
         have hdo:=h.st (by simpa using he);cases fk kc (kc d) D with
         |some k=>exact base _
         |none=>
          refine⟨fun x hx=>?_,fun x hx=>?_,by simp,by simp⟩
          ·  rcases List.mem_append.1 hx with hx|hx;·exact hD x hx
             ·rw[List.mem_singleton.1 hx];exact hdo
          ·  rcases List.mem_append.1 hx with hx|hx;·exact hw x hx
             ·rw[List.mem_singleton.1 hx];exact⟨hdo.id.bk,hdo.o.bk,M4⟩
 |cons n r=>
  have hn:n<D.length:=by obtain⟨_,h,_⟩:=wh (f:=kf md (kd md d)) (D:=D) (k:=0) (i:=n) (by rw[hp];exact aZ);simpa using h
  cases r with
  |cons k r=>exact base _
  |nil   =>
   have hdo:=hD _ (aD hn);have hg:D.getD n (.int 0)=D[n]:=getD_lt hn;dsimp only;rw[hg];cases (I md 2==4)with
   |true=>exact base _
   |    false=>
        cases (I md 2==3)with
        |true=>exact base _
        |false=>
         obtain⟨n1,n2,n3,n4⟩:=Ry hdo h (I md 2);generalize nxt (I md 2) D[n] d=nx at n1 n2 n3 n4;cases he:(stE nx !=0)with
         |true=>exact base _
         |false=>
          have hnd:=(fG n1 n2 n4 (by omega) (m:=20000000) (by omega) (by omega)).2.2 (by simpa using he);cases (iT nx D[n]==0)with
          |true=>exact base _
          |  false=>
             refine⟨fun x hx=>DC hD hnd hx,fun x hx=>?_,by simp,by simp⟩;rcases List.mem_append.1 hx with hx|hx;·exact hw x hx
             ·rw[List.mem_singleton.1 hx];exact⟨hnd.id.bk,hnd.o.bk,hdo.o.bk⟩
theorem Gw{md:Dt}(hM:Md md)(h1:1<=I md 2)(h2:I md 2<=4)(h3:4<=I md 3)(h4:I md 3<=6){docs:List Dt}(hd:∀d∈docs,Dc d)(hdl:docs.length<=1000){m:Nat}(hm:3000000000<=m)(hm2:m<500000000000):∀(M N i:Nat)(D w es ls:List Dt),i<=docs.length->docs.length-i<M->docs.length-i<N->(∀x∈D,Do x)->Kin md D es ls->D.length<=1000+i->(∀x∈w,Ws x)->w.length<=i->
  ∃W e,EL (m+1) M docs (docs.length:Int) (i:Int) md (sto md D) es ls (idM D) w=some (W,e)∧Fq (m+1) N docs (i:Int) md w D=some (W,e)∧(∀x∈W,Ws x)∧W.length<=1000
 |0,N,i,_,_,_,_,_,h,_,_,_,_,_,_=>by omega
 |M+1,0,i,_,_,_,_,_,_,h,_,_,_,_,_=>by omega
 |M+    1,N+1,i,D,w,es,ls,hi,hMi,hNi,hD,hK,hDl,hW,hWl=>by
  rw[EL,Fq,dlt];by_cases hlt:i<docs.length
  ·have hdc:=hd _ (aD hlt);obtain⟨es',ls',e1,e2⟩:=anC hM h1 h2 hdc hD hK (by omega) w (by omega) (m:=m) (by omega) (by omega);obtain⟨s1,s2,s3,s4⟩:=step_ok (md:=md) hdc hD w hW;rw[decide_eq_true hlt,cond_true,cond_true,abr,bg hlt,ah,e1,ah,axm hM h1 h2 h3 h4 hdc hD (by omega) hlt rfl (by omega) w (by omega) (m:=m) (by omega) (by omega)];generalize dR md D w docs[i]=S at e2 s1 s2 s3 s4;obtain⟨e,D',w'⟩:=S;dsimp only at e2 s1 s2 s3 s4 ⊢
   cases (e !=0)with
   |true=>exact⟨[],e,rfl,rfl,(fun _ h=>by cases h),by simp⟩
   |    false=>
        rw[cond_false,cond_false,abq,bF (by omega)];exact Gw hM h1 h2 h3 h4 hd hdl hm hm2 M N (i+1) D' w' es' ls' (by omega) (by omega) (by omega) s1 e2 (by omega) s2 (by omega)
  ·have e:i=docs.length:=by omega
   subst e;rw[decide_eq_false hlt];exact⟨w,0,rfl,rfl,hW,by omega⟩
theorem M5{k:ByteArray}:∀{D:List Dt},(∀d∈D,kc d≠k)->fk kc k D=none
 | [],_=>rfl
 |d::r,h=>by rw[fk,if_neg (h d aZ),M5 fun e he=>h e (aY _ he)];rfl
theorem U6{md:Dt}(hM:Md md){m:Nat}(hm:3000000000<=m)(hm2:m<500000000000)(T docs:List Dt)(ht:∀d∈T,Do d)(hf:Df kc T)(htl:T.length<1000000):∀(M i:Nat)(es ls:List Dt),i<=T.length->T.length-i<M->Kin md (T.take i) es ls->
  ∃es' ls',EM (m+1) M docs T (T.length:Int) (i:Int) md (sto md (T.take i)) es ls (idM (T.take i)) []=abt (m+1) docs md (sto md T) es' ls' (idM T) []∧Kin md T es' ls'
 |0,i,_,_,_,h,_=>by omega
 |M+    1,i,es,ls,hi,h,hK=>by
  rw[EM,dlt];by_cases hlt:i<T.length
  ·have hdo:=ht _ (aD hlt);have hb:=hdo.o.bk;have hno:fk kc (kc T[i]) (T.take i)=none:=M5 fun d hd=>by obtain⟨j,hj,e⟩:=List.mem_iff_getElem.1 hd;rw[List.length_take]at hj;rw[List.getElem_take]at e;rw[←e];exact List.pairwise_iff_getElem.1 hf j i (by omega) hlt (by omega)
   obtain⟨es',ls',e1,e2⟩:=add_eq hM hdo hK hno (by rw[List.length_take];omega) [] (m:=m) (by omega) (by omega);rw[dL hlt]at e1 e2;rw[decide_eq_true hlt,cond_true,abp,bg hlt,ah,fI 1048576 T[i] hb (by omega) hdo.o.wv m (by omega),ah,e1,ah,abo,bF (by omega)];exact U6 hM hm hm2 T docs ht hf htl M (i+1) es' ls' (by omega) (by omega) e2
  ·have e:i=T.length:=by omega
   subst e;rw[List.take_length]at hK ⊢
   rw[decide_eq_false hlt,cond_false];exact⟨es,ls,rfl,hK⟩
theorem RG{md:Dt}(hM:Md md)(h1:1<=I md 2)(h2:I md 2<=4)(h3:4<=I md 3)(h4:I md 3<=6){m:Nat}(hm:4000000000<=m)(hm2:m<500000000000)(T docs:List Dt)(ht:∀d∈T,Do d)(hf:Df kc T)(htl:T.length<=1000)(hd:∀d∈docs,Dc d)(hdl:docs.length<=1000):
  ∃W e,qQ (m+1) md T docs=some (W,e)∧qL (m+1) md T docs=some (W,e)∧(∀x∈W,Ws x)∧W.length<=1000:=by
 obtain⟨q,rfl⟩:∃q,m=q+1:=⟨m-1,by omega⟩;have k0:Kin md (T.take 0) [] []:=⟨rfl,fun s=>by rw[List.take_zero];exact List.Perm.refl _⟩;obtain⟨es,ls,a1,a2⟩:=U6 hM (m:=q) (by omega) (by omega) T docs ht hf (by omega) (q+2) 0 [] [] (by omega) (by omega) k0;obtain⟨W,e,b1,b2,b3,b4⟩:=Gw hM h1 h2 h3 h4 hd hdl (m:=q) (by omega) (by omega) (q+2) (q+2) 0 T [] es ls (by omega) (by omega) (by omega) ht a2 (by omega) (fun _ h=>by cases h) (by simp);rw[List.take_zero]at a1;refine⟨W,e,?_,?_,b3,b4⟩;·exact a1.trans b1
 ·rw[qL];have happ:app [] T=some T:=by have:=gZ (l:=([]:List Dt)) (r:=T) (by simp;omega);rw[List.nil_append]at this;exact this
  rw[happ,ah];exact b2
